/-
  What is found in an order, and its bounds.
-/
import Derived.Test.YtpmphkcibiimcaaGreatReq2
namespace Go.Proofs.YtpmphkcibiimcaaGreat
open Go.RowKit
attribute [local irreducible] Go.wpList Go.Code.wp Go.Exit.then Go.Exit.inBlock Go.bodyPost Go.Calls pE pB G RunsV FnV Fn FnM
set_option maxRecDepth 100000
set_option maxHeartbeats 1000000
theorem find_at {α : Type} {p : α → Bool} {l : List α} {k : Nat} {b : α} (h : (l.take k).any p = false) (hb : l[k]? = some b) (hp : p b = true) : l.find? p = some b := by
  have h1 : l = l.take k ++ b :: l.drop (k + 1) := by
    obtain ⟨hk, rfl⟩ := List.getElem?_eq_some_iff.1 hb
    rw [← List.drop_eq_getElem_cons hk, List.take_append_drop]
  rw [h1, List.find?_append]
  have h2 : (l.take k).find? p = none := by
    rw [List.find?_eq_none]; intro x hx; have := List.any_eq_false.1 h x hx; exact this
  rw [h2, Option.none_or, List.find?_cons_of_pos hp]
theorem find_no {α : Type} {p : α → Bool} {l : List α} {k : Nat} (h : (l.take k).any p = false) (hk : ¬ k < l.length) : l.find? p = none := by
  rw [List.take_of_length_le (by omega)] at h
  rw [List.find?_eq_none]; intro x hx; exact List.any_eq_false.1 h x hx
theorem idx_find {α : Type} (p : α → Bool) (l : List α) : (idxM p l = -1 ∧ l.find? p = none) ∨ ∃ (k : Nat) (b : α), idxM p l = k ∧ l[k]? = some b ∧ l.find? p = some b := by
  induction l with
  | nil => exact .inl ⟨rfl, rfl⟩
  | cons x r ih =>
    by_cases hx : p x = true
    · exact .inr ⟨0, x, by simp [idxM, hx], rfl, by simp [hx]⟩
    · have hx2 : p x = false := by simpa using hx
      rcases ih with ⟨h1, h2⟩ | ⟨k, b, h1, h2, h3⟩
      · exact .inl ⟨by simp [idxM, hx2, h1], by simp [hx2, h2]⟩
      · exact .inr ⟨k + 1, b, by simp only [idxM, hx2, h1]; simp; omega, by simpa using h2, by simp [hx2, h3]⟩
theorem any_not {α : Type} {p : α → Bool} {l : List α} : l.any (fun b => !p b) = !l.all p := by
  induction l with
  | nil => rfl
  | cons x r ih => simp only [List.any_cons, List.all_cons, ih, Bool.not_and]
/-- A type by its number. -/
def typeAt (r : ReqM) (id : Int) : TypeM × Bool := match typeByM r id with | some t => (t, true) | none => (typeZ, false)
theorem typeAt_no {r : ReqM} {id : Int} (h : r.types.find? (fun t => decide (t.id = id)) = none) : typeAt r id = (typeZ, false) := by rw [typeAt, typeByM, h]
theorem typeAt_yes {r : ReqM} {id : Int} {t : TypeM} (h : r.types.find? (fun t => decide (t.id = id)) = some t) : typeAt r id = (t, true) := by rw [typeAt, typeByM, h]
theorem typeById1_any (id : Int) (b : TypeM) {q : Nat} (w : World) (h : Rd w (.slice (some ⟨q, 0, none⟩) 1 1) 1 [[.int .i64 id]]) : FnV Tryz.prog 78 [.agg (TypeM.cells b).toArray, pB q 0] w (.bool (decide (b.id = id))) := by
  rw [pB_eq_pE q 1]
  refine FnV.of (n := 8) Tryz.func78 rfl rfl ?_
  refine G.seq ?_
  refine G.region ?_
  refine G.op (og_box rfl rfl) rfl (fun bk2 _ => ?_)
  refine G.v (rv_assign rfl) rfl ?_
  refine G.done ?_
  refine G.thenN ?_
  refine G.seq ?_
  refine G.region ?_
  (first | refine G.v (rv_field rfl) rfl ?_ | refine G.v (rv_fieldE rfl) rfl ?_)
  refine G.v (rv_load1 0 rfl rfl rfl) rfl ?_
  (first | refine G.v (rv_load1 0 rfl rfl rfl) rfl ?_ | refine G.v (rv_loadE rfl (by first | exact Rd.stays (by assumption) | exact Rd.owned 0 rfl) rfl rfl) rfl ?_)
  refine G.v (rv_eql rfl rfl) rfl ?_
  refine G.v (rv_assign rfl) rfl ?_
  refine G.done ?_
  refine G.thenN ?_
  refine G.ret ?_
  exact G.retFV rfl rfl rfl
theorem typeById_no {r : ReqM} {pv tv iv : Value} (id : Int) (w : World) (h2 : Rd w tv 7 (r.types.map TypeM.cells)) (hi : idxM (fun t => decide (t.id = id)) r.types = -1) : FnV Tryz.prog 41 [.agg (r.cells pv tv iv).toArray, .int .i64 id] w (.tuple #[typeZ.val, .bool false]) := by
  refine FnV.of (n := 19) Tryz.func41 rfl rfl ?_
  refine G.seq ?_
  refine G.region ?_
  refine G.op (og_box rfl rfl) rfl (fun bk2 _ => ?_)
  refine G.op (og_box rfl rfl) rfl (fun bk3 _ => ?_)
  refine G.op (og_alloc) rfl (fun bk4 _ => ?_)
  refine G.v (rv_assign rfl) rfl ?_
  refine G.done ?_
  refine G.thenN ?_
  refine G.seq ?_
  refine G.region ?_
  (first | refine G.v (rv_field rfl) rfl ?_ | refine G.v (rv_fieldE rfl) rfl ?_)
  (first | refine G.v (rv_load1 0 rfl rfl rfl) rfl ?_ | refine G.v (rv_load1 1 rfl rfl rfl) rfl ?_ | refine G.v (rv_load1 2 rfl rfl rfl) rfl ?_)
  refine G.v (rv_makeFunc rfl rfl) rfl ?_
  refine G.op (og_callV rfl rfl (fun w hh => (indexType_any w (Rd.stays h2 _ hh) (fun w' k b hw hb => typeById1_any id b w' (Rd.stays (by first | exact Rd.ofBlk 0 rfl rfl w hh | exact Rd.ofBlk 1 rfl rfl w hh | exact Rd.ofBlk 2 rfl rfl w hh) w' hw))).mono (congrArg (Value.int .i64) hi))) rfl (fun _ _ => ?_)
  refine G.v (rv_assign rfl) rfl ?_
  refine G.done ?_
  refine G.thenN ?_
  refine G.seq ?_
  refine G.seq ?_
  refine G.region ?_
  refine G.v (rv_move rfl) rfl ?_
  refine G.v (rv_lss rfl rfl) rfl ?_
  refine G.done ?_
  refine G.thenN ?_
  refine G.cond rfl (fun hc => ?_) (fun hc => ?_)
  · try exact Bool.noConfusion hc
    all_goals
     try replace hc := of_decide_eq_true hc
     try (exfalso; first | contradiction | omega)
     all_goals
      refine G.seq ?_
      refine G.region ?_
      refine G.v (rv_build2 rfl .nil .nil) rfl ?_
      (first | refine G.op0 (og_st0 rfl rfl rfl rfl rfl rfl (.zero (.cons (.cons (.cons (.cons (.cons (.cons (.cons .nil))))))))) (fun _ _ => ?_) | refine G.op0 (og_st1 rfl rfl rfl rfl rfl rfl (.zero (.cons (.cons (.cons (.cons (.cons (.cons (.cons .nil))))))))) (fun _ _ => ?_) | refine G.op0 (og_st2 rfl rfl rfl rfl rfl rfl (.zero (.cons (.cons (.cons (.cons (.cons (.cons (.cons .nil))))))))) (fun _ _ => ?_))
      refine G.v (rv_assign rfl) rfl ?_
      refine G.done ?_
      refine G.thenN ?_
      refine G.ret ?_
      refine G.thenR ?_
      exact G.retVL rfl (.cons (by first | exact .cell 0 rfl rfl rfl | exact .cell 1 rfl rfl rfl | exact .cell 2 rfl rfl rfl | exact .cell 3 rfl rfl rfl | exact .cell 4 rfl rfl rfl | exact .cell 5 rfl rfl rfl | exact .cell 6 rfl rfl rfl | exact .cell 7 rfl rfl rfl | exact .cell 8 rfl rfl rfl | exact .cell 9 rfl rfl rfl | exact .cell 10 rfl rfl rfl | exact .cell 11 rfl rfl rfl | exact .cell 12 rfl rfl rfl | exact .cell 13 rfl rfl rfl) (.cons (.tmp rfl) .nil)) rfl
  · try exact Bool.noConfusion hc
    all_goals
     try replace hc := of_decide_eq_false hc
     try (exfalso; first | contradiction | omega)
     all_goals
      exfalso; exact absurd hc (by decide)
theorem typeById_yes {r : ReqM} {pv tv iv : Value} (id : Int) (w : World) (h2 : Rd w tv 7 (r.types.map TypeM.cells)) {k : Nat} {b : TypeM} (hi : idxM (fun t => decide (t.id = id)) r.types = k) (hb : r.types[k]? = some b) : FnV Tryz.prog 41 [.agg (r.cells pv tv iv).toArray, .int .i64 id] w (.tuple #[b.val, .bool true]) := by
  have hle := h2.le_map
  have hlt := (List.getElem?_eq_some_iff.1 hb).1
  have he := get_map hb TypeM.cells
  refine FnV.of (n := 19) Tryz.func41 rfl rfl ?_
  refine G.seq ?_
  refine G.region ?_
  refine G.op (og_box rfl rfl) rfl (fun bk2 _ => ?_)
  refine G.op (og_box rfl rfl) rfl (fun bk3 _ => ?_)
  refine G.op (og_alloc) rfl (fun bk4 _ => ?_)
  refine G.v (rv_assign rfl) rfl ?_
  refine G.done ?_
  refine G.thenN ?_
  refine G.seq ?_
  refine G.region ?_
  (first | refine G.v (rv_field rfl) rfl ?_ | refine G.v (rv_fieldE rfl) rfl ?_)
  (first | refine G.v (rv_load1 0 rfl rfl rfl) rfl ?_ | refine G.v (rv_load1 1 rfl rfl rfl) rfl ?_ | refine G.v (rv_load1 2 rfl rfl rfl) rfl ?_)
  refine G.v (rv_makeFunc rfl rfl) rfl ?_
  refine G.op (og_callV rfl rfl (fun w hh => (indexType_any w (Rd.stays h2 _ hh) (fun w' k b hw hb => typeById1_any id b w' (Rd.stays (by first | exact Rd.ofBlk 0 rfl rfl w hh | exact Rd.ofBlk 1 rfl rfl w hh | exact Rd.ofBlk 2 rfl rfl w hh) w' hw))).mono (congrArg (Value.int .i64) hi))) rfl (fun _ _ => ?_)
  refine G.v (rv_assign rfl) rfl ?_
  refine G.done ?_
  refine G.thenN ?_
  refine G.seq ?_
  refine G.seq ?_
  refine G.region ?_
  refine G.v (rv_move rfl) rfl ?_
  refine G.v (rv_lss rfl rfl) rfl ?_
  refine G.done ?_
  refine G.thenN ?_
  refine G.cond rfl (fun hc => ?_) (fun hc => ?_)
  · try exact Bool.noConfusion hc
    all_goals
     try replace hc := of_decide_eq_true hc
     try (exfalso; first | contradiction | omega)
     all_goals
      exfalso; have hq := of_decide_eq_true hc; omega
  · try exact Bool.noConfusion hc
    all_goals
     try replace hc := of_decide_eq_false hc
     try (exfalso; first | contradiction | omega)
     all_goals
      refine G.skip ?_
      refine G.thenN ?_
      refine G.seq ?_
      refine G.region ?_
      (first | refine G.v (rv_field rfl) rfl ?_ | refine G.v (rv_fieldE rfl) rfl ?_)
      (first | refine G.v (rv_load1 0 rfl rfl rfl) rfl ?_ | refine G.v (rv_load1 1 rfl rfl rfl) rfl ?_ | refine G.v (rv_load1 2 rfl rfl rfl) rfl ?_)
      refine G.v (rv_move rfl) rfl ?_
      (first | refine G.v (rv_indexH rfl rfl (by first | exact Rd.stays (by assumption) | exact Rd.owned 0 rfl | exact Rd.owned 1 rfl | exact Rd.owned 2 rfl) rfl (by assumption)) rfl ?_ | refine G.v (rv_index rfl rfl (by first | exact Rd.stays (by assumption) | exact Rd.owned 0 rfl | exact Rd.owned 1 rfl | exact Rd.owned 2 rfl) rfl (by assumption)) rfl ?_)
      (first | refine G.v (rv_loadEW rfl (by first | exact Rd.stays (by assumption) | exact Rd.owned 0 rfl | exact Rd.owned 1 rfl | exact Rd.owned 2 rfl) (by assumption) rfl) rfl ?_ | refine G.v (rv_loadEP rfl (by first | exact Rd.stays (by assumption) | exact Rd.owned 0 rfl | exact Rd.owned 1 rfl | exact Rd.owned 2 rfl) (by assumption) (.one (.one (.one (.one (.one (.one (.one .nil)))))))) rfl ?_)
      (first | refine G.op0 (og_st0 rfl rfl rfl rfl rfl rfl (.zero (.cons (.cons (.cons (.cons (.cons (.cons (.cons .nil))))))))) (fun _ _ => ?_) | refine G.op0 (og_st1 rfl rfl rfl rfl rfl rfl (.zero (.cons (.cons (.cons (.cons (.cons (.cons (.cons .nil))))))))) (fun _ _ => ?_) | refine G.op0 (og_st2 rfl rfl rfl rfl rfl rfl (.zero (.cons (.cons (.cons (.cons (.cons (.cons (.cons .nil))))))))) (fun _ _ => ?_))
      refine G.v (rv_assign rfl) rfl ?_
      refine G.done ?_
      refine G.thenN ?_
      refine G.ret ?_
      exact G.retVL rfl (.cons (by first | exact .cell 0 rfl rfl rfl | exact .cell 1 rfl rfl rfl | exact .cell 2 rfl rfl rfl | exact .cell 3 rfl rfl rfl | exact .cell 4 rfl rfl rfl | exact .cell 5 rfl rfl rfl | exact .cell 6 rfl rfl rfl | exact .cell 7 rfl rfl rfl | exact .cell 8 rfl rfl rfl | exact .cell 9 rfl rfl rfl | exact .cell 10 rfl rfl rfl | exact .cell 11 rfl rfl rfl | exact .cell 12 rfl rfl rfl | exact .cell 13 rfl rfl rfl) (.cons (.tmp rfl) .nil)) rfl
theorem typeById_any {r : ReqM} {pv tv iv : Value} (id : Int) (w : World) (h2 : Rd w tv 7 (r.types.map TypeM.cells)) : FnV Tryz.prog 41 [.agg (r.cells pv tv iv).toArray, .int .i64 id] w (.tuple #[(typeAt r id).1.val, .bool (typeAt r id).2]) := by
  rcases idx_find (fun t => decide (t.id = id)) r.types with ⟨h, e⟩ | ⟨k, b, h, hb, e⟩
  · rw [typeAt_no e]; exact typeById_no id w h2 h
  · rw [typeAt_yes e]; exact typeById_yes id w h2 h hb
theorem stypeById_any {r : ReqM} {pv tv iv : Value} (id : Int) (w : World) (h2 : Rd w tv 7 (r.types.map TypeM.cells)) : FnV Tryz.prog 34 [.agg (r.cells pv tv iv).toArray, .int .i64 id] w (.tuple #[(typeAt r id).1.val, .bool (typeAt r id).2]) := by
  have hle := h2.le_map
  refine FnV.of (n := 28) Tryz.func34 rfl rfl ?_
  refine G.seq ?_
  refine G.region ?_
  refine G.op (og_box rfl rfl) rfl (fun bk2 _ => ?_)
  refine G.op (og_alloc) rfl (fun bk4 _ => ?_)
  refine G.v (rv_assign rfl) rfl ?_
  refine G.done ?_
  refine G.thenN ?_
  refine G.seq ?_
  refine G.seq ?_
  refine G.region ?_
  refine G.v (rv_assign rfl) rfl ?_
  refine G.done ?_
  refine G.thenN ?_
  refine G.block ?_
  -- loop 0: turned [6], kept [1, 2, 4]
  refine G.loopK (ι := Nat) (ks := [1, 2, 4]) (fun k => [(6, .int .i64 k)]) (fun _ => []) (fun k => k ≤ r.types.length ∧ (r.types.take k).any (fun t => decide (t.id = id)) = false) (fun k => r.types.length - k) 0 (.cons rfl (.cons rfl (.cons rfl (.nil)))) rfl ?_ ?_ ?_
  · exact ⟨Nat.zero_le _, rfl⟩
  · exact ⟨rfl, trivial⟩
  rintro k ⟨hk, ht⟩
  by_cases hlt : k < r.types.length
  case' pos => (obtain ⟨b, hb⟩ := get_of_lt hlt; have he := get_map hb TypeM.cells)
  all_goals
   refine G.seq ?_
   refine G.seq ?_
   refine G.region ?_
   refine G.v (rv_move rfl) rfl ?_
   (first | refine G.v (rv_field rfl) rfl ?_ | refine G.v (rv_fieldE rfl) rfl ?_)
   (first | refine G.v (rv_load1 0 rfl rfl rfl) rfl ?_ | refine G.v (rv_load1 1 rfl rfl rfl) rfl ?_ | refine G.v (rv_load1 2 rfl rfl rfl) rfl ?_)
   refine G.v (rv_len rfl (by first | exact Rd.stays (by assumption) | exact Rd.owned 0 rfl | exact Rd.owned 1 rfl | exact Rd.owned 2 rfl)) rfl ?_
   refine G.v (rv_lss rfl rfl) rfl ?_
   refine G.done ?_
   refine G.thenN ?_
   refine G.cond rfl (fun hc => ?_) (fun hc => ?_)
   · try exact Bool.noConfusion hc
     all_goals
      try replace hc := of_decide_eq_true hc
      try simp only [List.length_map] at hc
      try (exfalso; first | contradiction | omega)
      all_goals
       refine G.skip ?_
       refine G.thenN ?_
       refine G.seq ?_
       refine G.block ?_
       refine G.seq ?_
       refine G.region ?_
       (first | refine G.v (rv_field rfl) rfl ?_ | refine G.v (rv_fieldE rfl) rfl ?_)
       (first | refine G.v (rv_load1 0 rfl rfl rfl) rfl ?_ | refine G.v (rv_load1 1 rfl rfl rfl) rfl ?_ | refine G.v (rv_load1 2 rfl rfl rfl) rfl ?_)
       refine G.v (rv_move rfl) rfl ?_
       (first | refine G.v (rv_indexH rfl rfl (by first | exact Rd.stays (by assumption) | exact Rd.owned 0 rfl | exact Rd.owned 1 rfl | exact Rd.owned 2 rfl) rfl (by assumption)) rfl ?_ | refine G.v (rv_index rfl rfl (by first | exact Rd.stays (by assumption) | exact Rd.owned 0 rfl | exact Rd.owned 1 rfl | exact Rd.owned 2 rfl) rfl (by assumption)) rfl ?_)
       (first | refine G.v (rv_field rfl) rfl ?_ | refine G.v (rv_fieldE rfl) rfl ?_)
       refine G.v (rv_loadE rfl (by first | exact Rd.stays (by assumption) | exact Rd.owned 0 rfl | exact Rd.owned 1 rfl | exact Rd.owned 2 rfl) (by assumption) rfl) rfl ?_
       refine G.v (rv_move rfl) rfl ?_
       refine G.v (rv_eql rfl rfl) rfl ?_
       refine G.done ?_
       refine G.thenN ?_
       refine G.cond rfl (fun hc => ?_) (fun hc => ?_)
       · try exact Bool.noConfusion hc
         all_goals
          try replace hc := of_decide_eq_true hc
          try simp only [List.length_map] at hc
          try (exfalso; first | contradiction | omega)
          all_goals
           refine G.seq ?_
           refine G.region ?_
           (first | refine G.v (rv_field rfl) rfl ?_ | refine G.v (rv_fieldE rfl) rfl ?_)
           (first | refine G.v (rv_load1 0 rfl rfl rfl) rfl ?_ | refine G.v (rv_load1 1 rfl rfl rfl) rfl ?_ | refine G.v (rv_load1 2 rfl rfl rfl) rfl ?_)
           refine G.v (rv_move rfl) rfl ?_
           (first | refine G.v (rv_indexH rfl rfl (by first | exact Rd.stays (by assumption) | exact Rd.owned 0 rfl | exact Rd.owned 1 rfl | exact Rd.owned 2 rfl) rfl (by assumption)) rfl ?_ | refine G.v (rv_index rfl rfl (by first | exact Rd.stays (by assumption) | exact Rd.owned 0 rfl | exact Rd.owned 1 rfl | exact Rd.owned 2 rfl) rfl (by assumption)) rfl ?_)
           (first | refine G.v (rv_loadEW rfl (by first | exact Rd.stays (by assumption) | exact Rd.owned 0 rfl | exact Rd.owned 1 rfl | exact Rd.owned 2 rfl) (by assumption) rfl) rfl ?_ | refine G.v (rv_loadEP rfl (by first | exact Rd.stays (by assumption) | exact Rd.owned 0 rfl | exact Rd.owned 1 rfl | exact Rd.owned 2 rfl) (by assumption) (.one (.one (.one (.one (.one (.one (.one .nil)))))))) rfl ?_)
           (first | refine G.op0 (og_st0 rfl rfl rfl rfl rfl rfl (.zero (.cons (.cons (.cons (.cons (.cons (.cons (.cons .nil))))))))) (fun _ _ => ?_) | refine G.op0 (og_st1 rfl rfl rfl rfl rfl rfl (.zero (.cons (.cons (.cons (.cons (.cons (.cons (.cons .nil))))))))) (fun _ _ => ?_) | refine G.op0 (og_st2 rfl rfl rfl rfl rfl rfl (.zero (.cons (.cons (.cons (.cons (.cons (.cons (.cons .nil))))))))) (fun _ _ => ?_))
           refine G.v (rv_assign rfl) rfl ?_
           refine G.done ?_
           refine G.thenN ?_
           refine G.ret ?_
           refine G.inR ?_
           refine G.thenR ?_
           refine G.thenR ?_
           refine G.inR ?_
           refine G.thenR ?_
           first | (rw [typeAt_yes (find_at ht hb (by simpa using hc))]; exact G.retVL rfl (.cons (by first | exact .cell 0 rfl rfl rfl | exact .cell 1 rfl rfl rfl | exact .cell 2 rfl rfl rfl | exact .cell 3 rfl rfl rfl | exact .cell 4 rfl rfl rfl | exact .cell 5 rfl rfl rfl | exact .cell 6 rfl rfl rfl | exact .cell 7 rfl rfl rfl | exact .cell 8 rfl rfl rfl | exact .cell 9 rfl rfl rfl | exact .cell 10 rfl rfl rfl | exact .cell 11 rfl rfl rfl | exact .cell 12 rfl rfl rfl | exact .cell 13 rfl rfl rfl) (.cons (.tmp rfl) .nil)) rfl) | (rw [typeAt_no (find_no ht hlt)]; exact G.retVL rfl (.cons (by first | exact .cell 0 rfl rfl rfl | exact .cell 1 rfl rfl rfl | exact .cell 2 rfl rfl rfl | exact .cell 3 rfl rfl rfl | exact .cell 4 rfl rfl rfl | exact .cell 5 rfl rfl rfl | exact .cell 6 rfl rfl rfl | exact .cell 7 rfl rfl rfl | exact .cell 8 rfl rfl rfl | exact .cell 9 rfl rfl rfl | exact .cell 10 rfl rfl rfl | exact .cell 11 rfl rfl rfl | exact .cell 12 rfl rfl rfl | exact .cell 13 rfl rfl rfl) (.cons (.tmp rfl) .nil)) rfl)
       · try exact Bool.noConfusion hc
         all_goals
          try replace hc := of_decide_eq_false hc
          try simp only [List.length_map] at hc
          try (exfalso; first | contradiction | omega)
          all_goals
           refine G.skip ?_
           refine G.inN ?_
           refine G.thenN ?_
           refine G.region ?_
           refine G.v (rv_move rfl) rfl ?_
           (first | refine G.v (rv_incr rfl rfl (by omega)) rfl ?_ | refine G.v (rv_addB rfl rfl (by omega) (by omega)) rfl ?_)
           refine G.v (rv_assign rfl) rfl ?_
           refine G.done ?_
           first | refine G.backK (k + 1) 0 rfl (.cons rfl (.cons rfl (.cons rfl (.nil)))) ?_ ?_ ?_ | refine G.backK (k + 1) 1 rfl (.cons rfl (.cons rfl (.cons rfl (.nil)))) ?_ ?_ ?_ | refine G.backK (k + 1) 2 rfl (.cons rfl (.cons rfl (.cons rfl (.nil)))) ?_ ?_ ?_
           · exact ⟨rfl, trivial⟩
           · exact ⟨hlt, any_next ht hb (by simpa using hc)⟩
           · omega
   · try exact Bool.noConfusion hc
     all_goals
      try replace hc := of_decide_eq_false hc
      try simp only [List.length_map] at hc
      try (exfalso; first | contradiction | omega)
      all_goals
       refine G.exit ?_
       refine G.thenX ?_
       refine G.thenX ?_
       refine G.inX ?_
       refine G.thenN ?_
       refine G.seq ?_
       refine G.region ?_
       refine G.v (rv_build2 rfl .nil .nil) rfl ?_
       (first | refine G.op0 (og_st0 rfl rfl rfl rfl rfl rfl (.zero (.cons (.cons (.cons (.cons (.cons (.cons (.cons .nil))))))))) (fun _ _ => ?_) | refine G.op0 (og_st1 rfl rfl rfl rfl rfl rfl (.zero (.cons (.cons (.cons (.cons (.cons (.cons (.cons .nil))))))))) (fun _ _ => ?_) | refine G.op0 (og_st2 rfl rfl rfl rfl rfl rfl (.zero (.cons (.cons (.cons (.cons (.cons (.cons (.cons .nil))))))))) (fun _ _ => ?_))
       refine G.v (rv_assign rfl) rfl ?_
       refine G.done ?_
       refine G.thenN ?_
       refine G.ret ?_
       first | (rw [typeAt_yes (find_at ht hb (by simpa using hc))]; exact G.retVL rfl (.cons (by first | exact .cell 0 rfl rfl rfl | exact .cell 1 rfl rfl rfl | exact .cell 2 rfl rfl rfl | exact .cell 3 rfl rfl rfl | exact .cell 4 rfl rfl rfl | exact .cell 5 rfl rfl rfl | exact .cell 6 rfl rfl rfl | exact .cell 7 rfl rfl rfl | exact .cell 8 rfl rfl rfl | exact .cell 9 rfl rfl rfl | exact .cell 10 rfl rfl rfl | exact .cell 11 rfl rfl rfl | exact .cell 12 rfl rfl rfl | exact .cell 13 rfl rfl rfl) (.cons (.tmp rfl) .nil)) rfl) | (rw [typeAt_no (find_no ht hlt)]; exact G.retVL rfl (.cons (by first | exact .cell 0 rfl rfl rfl | exact .cell 1 rfl rfl rfl | exact .cell 2 rfl rfl rfl | exact .cell 3 rfl rfl rfl | exact .cell 4 rfl rfl rfl | exact .cell 5 rfl rfl rfl | exact .cell 6 rfl rfl rfl | exact .cell 7 rfl rfl rfl | exact .cell 8 rfl rfl rfl | exact .cell 9 rfl rfl rfl | exact .cell 10 rfl rfl rfl | exact .cell 11 rfl rfl rfl | exact .cell 12 rfl rfl rfl | exact .cell 13 rfl rfl rfl) (.cons (.tmp rfl) .nil)) rfl)
theorem masterOf_any {r : ReqM} {pv tv iv : Value} (w : World) (h2 : Rd w tv 7 (r.types.map TypeM.cells)) : FnV Tryz.prog 110 [.agg (r.cells pv tv iv).toArray] w (.tuple #[(typeAt r r.master).1.val, .bool (typeAt r r.master).2]) := by
  refine FnV.of (n := 10) Tryz.func110 rfl rfl ?_
  refine G.seq ?_
  refine G.region ?_
  refine G.op (og_box rfl rfl) rfl (fun bk1 _ => ?_)
  refine G.op (og_alloc) rfl (fun bk2 _ => ?_)
  refine G.v (rv_assign rfl) rfl ?_
  refine G.done ?_
  refine G.thenN ?_
  refine G.seq ?_
  refine G.region ?_
  (first | refine G.v (rv_loadW 0 rfl rfl rfl) rfl ?_ | refine G.v (rv_loadW 1 rfl rfl rfl) rfl ?_ | refine G.v (rv_loadW 2 rfl rfl rfl) rfl ?_ | refine G.v (rv_loadP 0 rfl rfl (.one (.one (.one (.one (.one (.one (.one (.one (.one (.one .nil))))))))))) rfl ?_ | refine G.v (rv_loadP 1 rfl rfl (.one (.one (.one (.one (.one (.one (.one (.one (.one (.one .nil))))))))))) rfl ?_ | refine G.v (rv_loadP 2 rfl rfl (.one (.one (.one (.one (.one (.one (.one (.one (.one (.one .nil))))))))))) rfl ?_)
  (first | refine G.v (rv_field rfl) rfl ?_ | refine G.v (rv_fieldE rfl) rfl ?_)
  (first | refine G.v (rv_load1 0 rfl rfl rfl) rfl ?_ | refine G.v (rv_load1 1 rfl rfl rfl) rfl ?_ | refine G.v (rv_load1 2 rfl rfl rfl) rfl ?_)
  refine G.op (og_callV rfl rfl (fun w hh => typeById_any (r := r) r.master w (Rd.stays h2 _ hh))) rfl (fun _ _ => ?_)
  refine G.v (rv_extract rfl rfl) rfl ?_
  refine G.v (rv_extract rfl rfl) rfl ?_
  (first | refine G.op0 (og_st0 rfl rfl rfl rfl rfl rfl (.zero (.cons (.cons (.cons (.cons (.cons (.cons (.cons .nil))))))))) (fun _ _ => ?_) | refine G.op0 (og_st1 rfl rfl rfl rfl rfl rfl (.zero (.cons (.cons (.cons (.cons (.cons (.cons (.cons .nil))))))))) (fun _ _ => ?_) | refine G.op0 (og_st2 rfl rfl rfl rfl rfl rfl (.zero (.cons (.cons (.cons (.cons (.cons (.cons (.cons .nil))))))))) (fun _ _ => ?_))
  refine G.v (rv_assign rfl) rfl ?_
  refine G.done ?_
  refine G.thenN ?_
  refine G.ret ?_
  exact G.retVL rfl (.cons (by first | exact .cell 0 rfl rfl rfl | exact .cell 1 rfl rfl rfl | exact .cell 2 rfl rfl rfl | exact .cell 3 rfl rfl rfl | exact .cell 4 rfl rfl rfl | exact .cell 5 rfl rfl rfl | exact .cell 6 rfl rfl rfl | exact .cell 7 rfl rfl rfl | exact .cell 8 rfl rfl rfl | exact .cell 9 rfl rfl rfl | exact .cell 10 rfl rfl rfl | exact .cell 11 rfl rfl rfl | exact .cell 12 rfl rfl rfl | exact .cell 13 rfl rfl rfl) (.cons (.tmp rfl) .nil)) rfl
theorem smasterOf_any {r : ReqM} {pv tv iv : Value} (w : World) (h2 : Rd w tv 7 (r.types.map TypeM.cells)) : FnV Tryz.prog 71 [.agg (r.cells pv tv iv).toArray] w (.tuple #[(typeAt r r.master).1.val, .bool (typeAt r r.master).2]) := by
  have hle := h2.le_map
  refine FnV.of (n := 27) Tryz.func71 rfl rfl ?_
  refine G.seq ?_
  refine G.region ?_
  refine G.op (og_box rfl rfl) rfl (fun bk1 _ => ?_)
  refine G.op (og_alloc) rfl (fun bk2 _ => ?_)
  refine G.v (rv_assign rfl) rfl ?_
  refine G.done ?_
  refine G.thenN ?_
  refine G.seq ?_
  refine G.seq ?_
  refine G.region ?_
  refine G.v (rv_assign rfl) rfl ?_
  refine G.done ?_
  refine G.thenN ?_
  refine G.block ?_
  -- loop 0: turned [4], kept [1, 2]
  refine G.loopK (ι := Nat) (ks := [1, 2]) (fun k => [(4, .int .i64 k)]) (fun _ => []) (fun k => k ≤ r.types.length ∧ (r.types.take k).any (fun t => decide (t.id = r.master)) = false) (fun k => r.types.length - k) 0 (.cons rfl (.cons rfl (.nil))) rfl ?_ ?_ ?_
  · exact ⟨Nat.zero_le _, rfl⟩
  · exact ⟨rfl, trivial⟩
  rintro k ⟨hk, ht⟩
  by_cases hlt : k < r.types.length
  case' pos => (obtain ⟨b, hb⟩ := get_of_lt hlt; have he := get_map hb TypeM.cells)
  all_goals
   refine G.seq ?_
   refine G.seq ?_
   refine G.region ?_
   refine G.v (rv_move rfl) rfl ?_
   (first | refine G.v (rv_field rfl) rfl ?_ | refine G.v (rv_fieldE rfl) rfl ?_)
   (first | refine G.v (rv_load1 0 rfl rfl rfl) rfl ?_ | refine G.v (rv_load1 1 rfl rfl rfl) rfl ?_ | refine G.v (rv_load1 2 rfl rfl rfl) rfl ?_)
   refine G.v (rv_len rfl (by first | exact Rd.stays (by assumption) | exact Rd.owned 0 rfl | exact Rd.owned 1 rfl | exact Rd.owned 2 rfl)) rfl ?_
   refine G.v (rv_lss rfl rfl) rfl ?_
   refine G.done ?_
   refine G.thenN ?_
   refine G.cond rfl (fun hc => ?_) (fun hc => ?_)
   · try exact Bool.noConfusion hc
     all_goals
      try replace hc := of_decide_eq_true hc
      try simp only [List.length_map] at hc
      try (exfalso; first | contradiction | omega)
      all_goals
       refine G.skip ?_
       refine G.thenN ?_
       refine G.seq ?_
       refine G.block ?_
       refine G.seq ?_
       refine G.drawL [] ?_
       (first | refine GE.q 0 rfl (by as_aux_lemma => kernel_rfl) rfl (qg_runs (rv_field rfl)) rfl ?_ | refine GE.q 0 rfl (by as_aux_lemma => kernel_rfl) rfl (qg_runs (rv_fieldE rfl)) rfl ?_)
       (first | refine GE.q 1 rfl (by as_aux_lemma => kernel_rfl) rfl (qg_runs (rv_load1 0 rfl rfl rfl)) rfl ?_ | refine GE.q 1 rfl (by as_aux_lemma => kernel_rfl) rfl (qg_runs (rv_load1 1 rfl rfl rfl)) rfl ?_ | refine GE.q 1 rfl (by as_aux_lemma => kernel_rfl) rfl (qg_runs (rv_load1 2 rfl rfl rfl)) rfl ?_)
       refine GE.q 2 rfl (by as_aux_lemma => kernel_rfl) rfl (qg_runs (rv_move rfl)) rfl ?_
       (first | refine GE.q 3 rfl (by as_aux_lemma => kernel_rfl) rfl (qg_runs (rv_indexH rfl rfl (by first | exact Rd.stays (by assumption) | exact Rd.owned 0 rfl | exact Rd.owned 1 rfl | exact Rd.owned 2 rfl) rfl (by assumption))) rfl ?_ | refine GE.q 3 rfl (by as_aux_lemma => kernel_rfl) rfl (qg_runs (rv_index rfl rfl (by first | exact Rd.stays (by assumption) | exact Rd.owned 0 rfl | exact Rd.owned 1 rfl | exact Rd.owned 2 rfl) rfl (by assumption))) rfl ?_)
       (first | refine GE.q 4 rfl (by as_aux_lemma => kernel_rfl) rfl (qg_runs (rv_field rfl)) rfl ?_ | refine GE.q 4 rfl (by as_aux_lemma => kernel_rfl) rfl (qg_runs (rv_fieldE rfl)) rfl ?_)
       refine GE.q 5 rfl (by as_aux_lemma => kernel_rfl) rfl (qg_runs (rv_loadE rfl (by first | exact Rd.stays (by assumption) | exact Rd.owned 0 rfl | exact Rd.owned 1 rfl | exact Rd.owned 2 rfl) (by assumption) rfl)) rfl ?_
       (first | refine GE.ol 6 (by as_aux_lemma => kernel_rfl) rfl rfl (og_runs (rv_field rfl)) rfl (fun _ _ h => by first | exact h | exact h.drop 1 | exact h.drop 2 | exact h.drop 3 | exact h.drop 4 | exact h.drop 5 | exact h.drop 6 | exact h.drop 7 | exact h.drop 8 | exact h.drop 9 | exact h.drop 10 | exact h.drop 11 | exact h.drop 12 | exact h.drop 13) (fun _ _ => ?_) | refine GE.ol 6 (by as_aux_lemma => kernel_rfl) rfl rfl (og_runs (rv_fieldE rfl)) rfl (fun _ _ h => by first | exact h | exact h.drop 1 | exact h.drop 2 | exact h.drop 3 | exact h.drop 4 | exact h.drop 5 | exact h.drop 6 | exact h.drop 7 | exact h.drop 8 | exact h.drop 9 | exact h.drop 10 | exact h.drop 11 | exact h.drop 12 | exact h.drop 13) (fun _ _ => ?_))
       (first | refine GE.ol 7 (by as_aux_lemma => kernel_rfl) rfl rfl (og_runs (rv_load1 0 rfl rfl rfl)) rfl (fun _ _ h => by first | exact h | exact h.drop 1 | exact h.drop 2 | exact h.drop 3 | exact h.drop 4 | exact h.drop 5 | exact h.drop 6 | exact h.drop 7 | exact h.drop 8 | exact h.drop 9 | exact h.drop 10 | exact h.drop 11 | exact h.drop 12 | exact h.drop 13) (fun _ _ => ?_) | refine GE.ol 7 (by as_aux_lemma => kernel_rfl) rfl rfl (og_runs (rv_load1 1 rfl rfl rfl)) rfl (fun _ _ h => by first | exact h | exact h.drop 1 | exact h.drop 2 | exact h.drop 3 | exact h.drop 4 | exact h.drop 5 | exact h.drop 6 | exact h.drop 7 | exact h.drop 8 | exact h.drop 9 | exact h.drop 10 | exact h.drop 11 | exact h.drop 12 | exact h.drop 13) (fun _ _ => ?_) | refine GE.ol 7 (by as_aux_lemma => kernel_rfl) rfl rfl (og_runs (rv_load1 2 rfl rfl rfl)) rfl (fun _ _ h => by first | exact h | exact h.drop 1 | exact h.drop 2 | exact h.drop 3 | exact h.drop 4 | exact h.drop 5 | exact h.drop 6 | exact h.drop 7 | exact h.drop 8 | exact h.drop 9 | exact h.drop 10 | exact h.drop 11 | exact h.drop 12 | exact h.drop 13) (fun _ _ => ?_))
       refine GE.ol 8 (by as_aux_lemma => kernel_rfl) rfl rfl (og_runs (rv_eql rfl rfl)) rfl (fun _ _ h => by first | exact h | exact h.drop 1 | exact h.drop 2 | exact h.drop 3 | exact h.drop 4 | exact h.drop 5 | exact h.drop 6 | exact h.drop 7 | exact h.drop 8 | exact h.drop 9 | exact h.drop 10 | exact h.drop 11 | exact h.drop 12 | exact h.drop 13) (fun _ _ => ?_)
       refine GE.done (by as_aux_lemma => kernel_rfl) ?_
       refine G.thenN ?_
       refine G.cond rfl (fun hc => ?_) (fun hc => ?_)
       · try exact Bool.noConfusion hc
         all_goals
          try replace hc := of_decide_eq_true hc
          try simp only [List.length_map] at hc
          try (exfalso; first | contradiction | omega)
          all_goals
           refine G.seq ?_
           refine G.region ?_
           (first | refine G.v (rv_field rfl) rfl ?_ | refine G.v (rv_fieldE rfl) rfl ?_)
           (first | refine G.v (rv_load1 0 rfl rfl rfl) rfl ?_ | refine G.v (rv_load1 1 rfl rfl rfl) rfl ?_ | refine G.v (rv_load1 2 rfl rfl rfl) rfl ?_)
           refine G.v (rv_move rfl) rfl ?_
           (first | refine G.v (rv_indexH rfl rfl (by first | exact Rd.stays (by assumption) | exact Rd.owned 0 rfl | exact Rd.owned 1 rfl | exact Rd.owned 2 rfl) rfl (by assumption)) rfl ?_ | refine G.v (rv_index rfl rfl (by first | exact Rd.stays (by assumption) | exact Rd.owned 0 rfl | exact Rd.owned 1 rfl | exact Rd.owned 2 rfl) rfl (by assumption)) rfl ?_)
           (first | refine G.v (rv_loadEW rfl (by first | exact Rd.stays (by assumption) | exact Rd.owned 0 rfl | exact Rd.owned 1 rfl | exact Rd.owned 2 rfl) (by assumption) rfl) rfl ?_ | refine G.v (rv_loadEP rfl (by first | exact Rd.stays (by assumption) | exact Rd.owned 0 rfl | exact Rd.owned 1 rfl | exact Rd.owned 2 rfl) (by assumption) (.one (.one (.one (.one (.one (.one (.one .nil)))))))) rfl ?_)
           (first | refine G.op0 (og_st0 rfl rfl rfl rfl rfl rfl (.zero (.cons (.cons (.cons (.cons (.cons (.cons (.cons .nil))))))))) (fun _ _ => ?_) | refine G.op0 (og_st1 rfl rfl rfl rfl rfl rfl (.zero (.cons (.cons (.cons (.cons (.cons (.cons (.cons .nil))))))))) (fun _ _ => ?_) | refine G.op0 (og_st2 rfl rfl rfl rfl rfl rfl (.zero (.cons (.cons (.cons (.cons (.cons (.cons (.cons .nil))))))))) (fun _ _ => ?_))
           refine G.v (rv_assign rfl) rfl ?_
           refine G.done ?_
           refine G.thenN ?_
           refine G.ret ?_
           refine G.inR ?_
           refine G.thenR ?_
           refine G.thenR ?_
           refine G.inR ?_
           refine G.thenR ?_
           first | (rw [typeAt_yes (find_at ht hb (by simpa using hc))]; exact G.retVL rfl (.cons (by first | exact .cell 0 rfl rfl rfl | exact .cell 1 rfl rfl rfl | exact .cell 2 rfl rfl rfl | exact .cell 3 rfl rfl rfl | exact .cell 4 rfl rfl rfl | exact .cell 5 rfl rfl rfl | exact .cell 6 rfl rfl rfl | exact .cell 7 rfl rfl rfl | exact .cell 8 rfl rfl rfl | exact .cell 9 rfl rfl rfl | exact .cell 10 rfl rfl rfl | exact .cell 11 rfl rfl rfl | exact .cell 12 rfl rfl rfl | exact .cell 13 rfl rfl rfl) (.cons (.tmp rfl) .nil)) rfl) | (rw [typeAt_no (find_no ht hlt)]; exact G.retVL rfl (.cons (by first | exact .cell 0 rfl rfl rfl | exact .cell 1 rfl rfl rfl | exact .cell 2 rfl rfl rfl | exact .cell 3 rfl rfl rfl | exact .cell 4 rfl rfl rfl | exact .cell 5 rfl rfl rfl | exact .cell 6 rfl rfl rfl | exact .cell 7 rfl rfl rfl | exact .cell 8 rfl rfl rfl | exact .cell 9 rfl rfl rfl | exact .cell 10 rfl rfl rfl | exact .cell 11 rfl rfl rfl | exact .cell 12 rfl rfl rfl | exact .cell 13 rfl rfl rfl) (.cons (.tmp rfl) .nil)) rfl)
       · try exact Bool.noConfusion hc
         all_goals
          try replace hc := of_decide_eq_false hc
          try simp only [List.length_map] at hc
          try (exfalso; first | contradiction | omega)
          all_goals
           refine G.skip ?_
           refine G.inN ?_
           refine G.thenN ?_
           refine G.region ?_
           refine G.v (rv_move rfl) rfl ?_
           (first | refine G.v (rv_incr rfl rfl (by omega)) rfl ?_ | refine G.v (rv_addB rfl rfl (by omega) (by omega)) rfl ?_)
           refine G.v (rv_assign rfl) rfl ?_
           refine G.done ?_
           first | refine G.backK (k + 1) 0 rfl (.cons rfl (.cons rfl (.nil))) ?_ ?_ ?_ | refine G.backK (k + 1) 1 rfl (.cons rfl (.cons rfl (.nil))) ?_ ?_ ?_ | refine G.backK (k + 1) 2 rfl (.cons rfl (.cons rfl (.nil))) ?_ ?_ ?_
           · exact ⟨rfl, trivial⟩
           · exact ⟨hlt, any_next ht hb (by simpa using hc)⟩
           · omega
   · try exact Bool.noConfusion hc
     all_goals
      try replace hc := of_decide_eq_false hc
      try simp only [List.length_map] at hc
      try (exfalso; first | contradiction | omega)
      all_goals
       refine G.exit ?_
       refine G.thenX ?_
       refine G.thenX ?_
       refine G.inX ?_
       refine G.thenN ?_
       refine G.seq ?_
       refine G.region ?_
       refine G.v (rv_build2 rfl .nil .nil) rfl ?_
       (first | refine G.op0 (og_st0 rfl rfl rfl rfl rfl rfl (.zero (.cons (.cons (.cons (.cons (.cons (.cons (.cons .nil))))))))) (fun _ _ => ?_) | refine G.op0 (og_st1 rfl rfl rfl rfl rfl rfl (.zero (.cons (.cons (.cons (.cons (.cons (.cons (.cons .nil))))))))) (fun _ _ => ?_) | refine G.op0 (og_st2 rfl rfl rfl rfl rfl rfl (.zero (.cons (.cons (.cons (.cons (.cons (.cons (.cons .nil))))))))) (fun _ _ => ?_))
       refine G.v (rv_assign rfl) rfl ?_
       refine G.done ?_
       refine G.thenN ?_
       refine G.ret ?_
       first | (rw [typeAt_yes (find_at ht hb (by simpa using hc))]; exact G.retVL rfl (.cons (by first | exact .cell 0 rfl rfl rfl | exact .cell 1 rfl rfl rfl | exact .cell 2 rfl rfl rfl | exact .cell 3 rfl rfl rfl | exact .cell 4 rfl rfl rfl | exact .cell 5 rfl rfl rfl | exact .cell 6 rfl rfl rfl | exact .cell 7 rfl rfl rfl | exact .cell 8 rfl rfl rfl | exact .cell 9 rfl rfl rfl | exact .cell 10 rfl rfl rfl | exact .cell 11 rfl rfl rfl | exact .cell 12 rfl rfl rfl | exact .cell 13 rfl rfl rfl) (.cons (.tmp rfl) .nil)) rfl) | (rw [typeAt_no (find_no ht hlt)]; exact G.retVL rfl (.cons (by first | exact .cell 0 rfl rfl rfl | exact .cell 1 rfl rfl rfl | exact .cell 2 rfl rfl rfl | exact .cell 3 rfl rfl rfl | exact .cell 4 rfl rfl rfl | exact .cell 5 rfl rfl rfl | exact .cell 6 rfl rfl rfl | exact .cell 7 rfl rfl rfl | exact .cell 8 rfl rfl rfl | exact .cell 9 rfl rfl rfl | exact .cell 10 rfl rfl rfl | exact .cell 11 rfl rfl rfl | exact .cell 12 rfl rfl rfl | exact .cell 13 rfl rfl rfl) (.cons (.tmp rfl) .nil)) rfl)
end Go.Proofs.YtpmphkcibiimcaaGreat
