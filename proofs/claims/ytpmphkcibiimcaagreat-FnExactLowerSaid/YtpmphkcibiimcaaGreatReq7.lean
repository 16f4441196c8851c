/-
  The names of an order.
-/
import Derived.Test.YtpmphkcibiimcaaGreatReq6
namespace Go.Proofs.YtpmphkcibiimcaaGreat
open Go.RowKit
attribute [local irreducible] Go.wpList Go.Code.wp Go.Exit.then Go.Exit.inBlock Go.bodyPost Go.Calls pE pB G RunsV FnV Fn FnM
set_option maxRecDepth 100000
set_option maxHeartbeats 1000000
/-- Whether a thing's number is one of those ahead of it. -/
def dupAt {α : Type} (f : α → Int) (l : List α) (i : Nat) : Bool := match l[i]? with | some t => (l.take i).any (fun q => decide (f q = f t)) | none => false
theorem dup_at {α : Type} {f : α → Int} {l : List α} {i : Nat} {t : α} (h : l[i]? = some t) : dupAt f l i = (l.take i).any (fun q => decide (f q = f t)) := by rw [dupAt, h]
def itemBad (r : ReqM) (i : Nat) : Bool := match r.items[i]? with | some x => decide (x.cls ≥ r.classes) || dupAt ItemM.id r.items i | none => false
theorem item_bad {r : ReqM} {i : Nat} {x : ItemM} (h : r.items[i]? = some x) : itemBad r i = (decide (x.cls ≥ r.classes) || dupAt ItemM.id r.items i) := by rw [itemBad, h]
def pairIn (r : ReqM) (p : PairM) : Bool := !(decide (p.a ≥ r.classes) || decide (p.b ≥ r.classes))
def namesM (r : ReqM) : Bool :=
  (List.range r.types.length).all (fun i => !dupAt TypeM.id r.types i) && (List.range r.items.length).all (fun i => !itemBad r i) && r.pairs.all (pairIn r) && (typeAt r r.master).2
theorem range_no {f : Nat → Bool} {n k : Nat} (h : k < n) (hf : f k = true) : (List.range n).all (fun i => !f i) = false := rall_no h (by rw [hf]; rfl)
theorem ReqM.good {r : ReqM} {pv tv iv : Value} (h1 : pv.oneCell' = true) (h2 : tv.oneCell' = true) (h3 : iv.oneCell' = true) : (r.cells pv tv iv).all Value.oneCell' = true := by
  simp only [ReqM.cells, List.all_cons, List.all_nil, h1, h2, h3]; rfl
theorem namesOk1_any (t b : TypeM) {q : Nat} (w : World) (h : Rd w (.slice (some ⟨q, 0, none⟩) 1 1) 7 [t.cells]) : FnV Tryz.prog 133 [.agg (TypeM.cells b).toArray, pB q 0] w (.bool (decide (b.id = t.id))) := by
  rw [pB_eq_pE q 7]
  refine FnV.of (n := 9) Tryz.func133 rfl rfl ?_
  refine G.seq ?_
  refine G.region ?_
  refine G.op (og_box rfl rfl) rfl (fun bk2 _ => ?_)
  refine G.v (rv_assign rfl) rfl ?_
  refine G.done ?_
  refine G.thenN ?_
  refine G.seq ?_
  refine G.region ?_
  (first | refine G.v (rv_field rfl) rfl ?_ | refine G.v (rv_fieldE rfl) rfl ?_)
  refine G.v (rv_load1 0 rfl rfl rfl) rfl ?_
  (first | refine G.v (rv_field rfl) rfl ?_ | refine G.v (rv_fieldE rfl) rfl ?_)
  (first | refine G.v (rv_load1 0 rfl rfl rfl) rfl ?_ | refine G.v (rv_loadE rfl (by first | exact Rd.stays (by assumption) | exact Rd.owned 0 rfl) rfl rfl) rfl ?_)
  refine G.v (rv_eql rfl rfl) rfl ?_
  refine G.v (rv_assign rfl) rfl ?_
  refine G.done ?_
  refine G.thenN ?_
  refine G.ret ?_
  exact G.retFV rfl rfl rfl
theorem namesOk2_any (t b : ItemM) {q : Nat} (w : World) (h : Rd w (.slice (some ⟨q, 0, none⟩) 1 1) 7 [t.cells]) : FnV Tryz.prog 134 [.agg (ItemM.cells b).toArray, pB q 0] w (.bool (decide (b.id = t.id))) := by
  rw [pB_eq_pE q 7]
  refine FnV.of (n := 9) Tryz.func134 rfl rfl ?_
  refine G.seq ?_
  refine G.region ?_
  refine G.op (og_box rfl rfl) rfl (fun bk2 _ => ?_)
  refine G.v (rv_assign rfl) rfl ?_
  refine G.done ?_
  refine G.thenN ?_
  refine G.seq ?_
  refine G.region ?_
  (first | refine G.v (rv_field rfl) rfl ?_ | refine G.v (rv_fieldE rfl) rfl ?_)
  refine G.v (rv_load1 0 rfl rfl rfl) rfl ?_
  (first | refine G.v (rv_field rfl) rfl ?_ | refine G.v (rv_fieldE rfl) rfl ?_)
  (first | refine G.v (rv_load1 0 rfl rfl rfl) rfl ?_ | refine G.v (rv_loadE rfl (by first | exact Rd.stays (by assumption) | exact Rd.owned 0 rfl) rfl rfl) rfl ?_)
  refine G.v (rv_eql rfl rfl) rfl ?_
  refine G.v (rv_assign rfl) rfl ?_
  refine G.done ?_
  refine G.thenN ?_
  refine G.ret ?_
  exact G.retFV rfl rfl rfl
theorem namesOk3_any {r : ReqM} {pv tv iv : Value} (b : PairM) {q : Nat} (w : World) (h : Rd w (.slice (some ⟨q, 0, none⟩) 1 1) 10 [r.cells pv tv iv]) : FnV Tryz.prog 135 [.agg (PairM.cells b).toArray, pB q 0] w (.bool (!pairIn r b)) := by
  rw [pB_eq_pE q 10]
  refine FnV.of (n := 16) Tryz.func135 rfl rfl ?_
  refine G.seq ?_
  refine G.region ?_
  refine G.op (og_box rfl rfl) rfl (fun bk2 _ => ?_)
  refine G.v (rv_assign rfl) rfl ?_
  refine G.done ?_
  refine G.thenN ?_
  refine G.seq ?_
  refine G.region ?_
  (first | refine G.v (rv_field rfl) rfl ?_ | refine G.v (rv_fieldE rfl) rfl ?_)
  refine G.v (rv_load1 0 rfl rfl rfl) rfl ?_
  (first | refine G.v (rv_field rfl) rfl ?_ | refine G.v (rv_fieldE rfl) rfl ?_)
  (first | refine G.v (rv_load1 0 rfl rfl rfl) rfl ?_ | refine G.v (rv_loadE rfl (by first | exact Rd.stays (by assumption) | exact Rd.owned 0 rfl) rfl rfl) rfl ?_)
  refine G.v (rv_geq rfl rfl) rfl ?_
  refine G.v (rv_move rfl) rfl ?_
  all_goals (((with_reducible refine G.gP rfl rfl (fun hg => ?_) (fun hg => ?_)) <;> (try exact Bool.noConfusion hg) <;> (first | (refine G.gY rfl rfl ?_; (first | refine G.v (rv_field rfl) rfl ?_ | refine G.v (rv_fieldE rfl) rfl ?_)) | refine G.gN rfl rfl rfl ?_ | refine G.gU rfl rfl rfl ?_)))
  all_goals ((first | (refine G.gY rfl rfl ?_; refine G.v (rv_load1 0 rfl rfl rfl) rfl ?_) | refine G.gN rfl rfl rfl ?_ | refine G.gU rfl rfl rfl ?_))
  all_goals ((first | (refine G.gY rfl rfl ?_; (first | refine G.v (rv_field rfl) rfl ?_ | refine G.v (rv_fieldE rfl) rfl ?_)) | refine G.gN rfl rfl rfl ?_ | refine G.gU rfl rfl rfl ?_))
  all_goals ((first | (refine G.gY rfl rfl ?_; (first | refine G.v (rv_load1 0 rfl rfl rfl) rfl ?_ | refine G.v (rv_loadE rfl (by first | exact Rd.stays (by assumption) | exact Rd.owned 0 rfl) rfl rfl) rfl ?_)) | refine G.gN rfl rfl rfl ?_ | refine G.gU rfl rfl rfl ?_))
  all_goals ((first | (refine G.gY rfl rfl ?_; refine G.v (rv_geq rfl rfl) rfl ?_) | refine G.gN rfl rfl rfl ?_ | refine G.gU rfl rfl rfl ?_))
  all_goals ((first | refine G.v (rv_pickT rfl rfl) rfl ?_ | refine G.v (rv_pickF rfl rfl) rfl ?_))
  all_goals (refine G.v (rv_assign rfl) rfl ?_)
  all_goals
   refine G.done ?_
   refine G.thenN ?_
   refine G.ret ?_
   refine G.retFV rfl rfl (congrArg Value.bool ?_); simp_all [pairIn] <;> (intros; omega)
theorem namesOk_any {r : ReqM} {pv tv iv : Value} (w : World) (h : Rd w pv 2 (r.pairs.map PairM.cells)) (h2 : Rd w tv 7 (r.types.map TypeM.cells)) (h3 : Rd w iv 7 (r.items.map ItemM.cells)) :
    FnV Tryz.prog 112 [.agg (r.cells pv tv iv).toArray] w (.bool (namesM r)) := by
  have hle := h.le_map
  have hle2 := h2.le_map
  have hle3 := h3.le_map
  have hov1 : pv.oneCell' = true := h.one_
  have hov2 : tv.oneCell' = true := h2.one_
  have hov3 : iv.oneCell' = true := h3.one_
  have hln2 : (r.types.map TypeM.cells).length = r.types.length := by simp
  have hln3 : (r.items.map ItemM.cells).length = r.items.length := by simp
  refine FnV.of (n := 59) Tryz.func112 rfl rfl ?_
  refine G.seq ?_
  refine G.region ?_
  refine G.op (og_box rfl rfl) rfl (fun bk1 _ => ?_)
  refine G.v (rv_assign rfl) rfl ?_
  refine G.done ?_
  refine G.thenN ?_
  refine G.seq ?_
  refine G.seq ?_
  refine G.region ?_
  (first | refine G.v (rv_field rfl) rfl ?_ | refine G.v (rv_fieldE rfl) rfl ?_)
  (first | refine G.v (rv_load1 0 rfl rfl rfl) rfl ?_ | refine G.v (rv_load1 1 rfl rfl rfl) rfl ?_ | refine G.v (rv_load1 2 rfl rfl rfl) rfl ?_)
  refine G.v (rv_len rfl (by first | exact Rd.stays (by assumption) | exact Rd.owned 0 rfl | exact Rd.owned 1 rfl | exact Rd.owned 2 rfl)) rfl ?_
  refine G.v (rv_move rfl) rfl ?_
  refine G.done ?_
  refine G.thenN ?_
  refine G.block ?_
  -- loop 0: turned [12], kept [1, 10, 11]
  refine G.loopK (ι := Nat) (ks := [1, 10, 11]) (fun k => [(12, .int .i64 k)]) (fun _ => []) (fun k => k ≤ r.types.length ∧ (List.range k).all (fun i => !dupAt TypeM.id r.types i) = true) (fun k => r.types.length - k) 0 (.cons rfl (.cons rfl (.cons rfl (.nil)))) rfl ?_ ?_ ?_
  · exact ⟨Nat.zero_le _, rfl⟩
  · exact ⟨rfl, trivial⟩
  rintro k ⟨hk, ht⟩
  by_cases hlt : k < r.types.length
  case' pos => (obtain ⟨b, hb⟩ := get_of_lt hlt; have he := get_map hb TypeM.cells)
  case' neg => (have hall : (List.range r.types.length).all (fun i => !dupAt TypeM.id r.types i) = true := (by rwa [show k = r.types.length by omega] at ht))
  all_goals
   refine G.seq ?_
   refine G.region ?_
   refine G.v (rv_lss rfl rfl) rfl ?_
   refine G.done ?_
   refine G.thenN ?_
   refine G.seq ?_
   refine G.cond rfl (fun hc => ?_) (fun hc => ?_)
   · try exact Bool.noConfusion hc
     all_goals
      try replace hc := of_decide_eq_true hc
      try simp only [List.length_map] at hc
      try (exfalso; first | contradiction | omega)
      all_goals
       refine G.skip ?_
       refine G.thenN ?_
       refine G.seq ?_
       refine G.block ?_
       refine G.seq ?_
       refine G.region ?_
       refine G.v (rv_move rfl) rfl ?_
       (first | refine G.v (rv_indexH rfl rfl (by first | exact Rd.stays (by assumption) | exact Rd.owned 0 rfl | exact Rd.owned 1 rfl | exact Rd.owned 2 rfl) rfl (by assumption)) rfl ?_ | refine G.v (rv_index rfl rfl (by first | exact Rd.stays (by assumption) | exact Rd.owned 0 rfl | exact Rd.owned 1 rfl | exact Rd.owned 2 rfl) rfl (by assumption)) rfl ?_)
       (first | refine G.v (rv_loadEW rfl (by first | exact Rd.stays (by assumption) | exact Rd.owned 0 rfl | exact Rd.owned 1 rfl | exact Rd.owned 2 rfl) (by assumption) rfl) rfl ?_ | refine G.v (rv_loadEP rfl (by first | exact Rd.stays (by assumption) | exact Rd.owned 0 rfl | exact Rd.owned 1 rfl | exact Rd.owned 2 rfl) (by assumption) (.one (.one (.one (.one (.one (.one (.one .nil)))))))) rfl ?_)
       refine G.op (og_alloc) rfl (fun bk4 _ => ?_)
       refine G.v (rv_assign rfl) rfl ?_
       (first | refine G.op0 (og_st0 rfl rfl rfl rfl rfl rfl (.zero (.cons (.cons (.cons (.cons (.cons (.cons (.cons .nil))))))))) (fun _ _ => ?_) | refine G.op0 (og_st1 rfl rfl rfl rfl rfl rfl (.zero (.cons (.cons (.cons (.cons (.cons (.cons (.cons .nil))))))))) (fun _ _ => ?_) | refine G.op0 (og_st2 rfl rfl rfl rfl rfl rfl (.zero (.cons (.cons (.cons (.cons (.cons (.cons (.cons .nil))))))))) (fun _ _ => ?_))
       refine G.done ?_
       refine G.thenN ?_
       refine G.seq ?_
       refine G.region ?_
       (first | refine G.v (rv_field rfl) rfl ?_ | refine G.v (rv_fieldE rfl) rfl ?_)
       (first | refine G.v (rv_load1 0 rfl rfl rfl) rfl ?_ | refine G.v (rv_load1 1 rfl rfl rfl) rfl ?_ | refine G.v (rv_load1 2 rfl rfl rfl) rfl ?_)
       refine G.v (rv_move rfl) rfl ?_
       refine G.v (rv_sliceH rfl rfl (by first | exact Rd.stays (by assumption) | exact Rd.owned 0 rfl | exact Rd.owned 1 rfl | exact Rd.owned 2 rfl) (by omega)) rfl ?_
       refine G.v (rv_makeFunc rfl rfl) rfl ?_
       refine G.op (og_callV rfl rfl (fun w hh => containsType_any (l := r.types.take k) w (Rd.subH (Rd.stays h2 _ hh) hk) (fun w' j c hw hb => namesOk1_any b c w' (Rd.stays (by first | exact Rd.ofBlk 0 rfl rfl w hh | exact Rd.ofBlk 1 rfl rfl w hh | exact Rd.ofBlk 2 rfl rfl w hh) w' hw)))) rfl (fun _ _ => ?_)
       refine G.done ?_
       refine G.thenN ?_
       refine G.cond rfl (fun hc => ?_) (fun hc => ?_)
       · try exact Bool.noConfusion hc
         all_goals
          try replace hc := of_decide_eq_true hc
          try simp only [List.length_map] at hc
          try (exfalso; first | contradiction | omega)
          all_goals
           refine G.seq ?_
           refine G.region ?_
           refine G.v (rv_assign rfl) rfl ?_
           refine G.done ?_
           refine G.thenN ?_
           refine G.ret ?_
           refine G.inR ?_
           refine G.thenR ?_
           refine G.thenR ?_
           refine G.inR ?_
           refine G.thenR ?_
           first | (refine G.retFV rfl rfl (congrArg Value.bool ?_); rw [namesM, hall, hall1]; simp_all; done) | (refine G.retFV rfl rfl (congrArg Value.bool ?_); rw [namesM, range_no hlt (by rw [dup_at hb]; exact hc)]; simp; done) | (refine G.retFV rfl rfl (congrArg Value.bool ?_); rw [namesM, hall, range_no hlt1 (by rw [item_bad hb1, dup_at hb1]; simp only [Bool.or_eq_true]; first | exact .inl hg | exact .inl (by simpa using hg) | exact .inr (by simpa using hc))]; simp; done)
       · try exact Bool.noConfusion hc
         all_goals
          try replace hc := of_decide_eq_false hc
          try simp only [List.length_map] at hc
          try (exfalso; first | contradiction | omega)
          all_goals
           refine G.skip ?_
           refine G.inN ?_
           refine G.thenN ?_
           refine G.region ?_
           (first | refine G.v (rv_incr rfl rfl (by omega)) rfl ?_ | refine G.v (rv_addB rfl rfl (by omega) (by omega)) rfl ?_)
           refine G.v (rv_move rfl) rfl ?_
           refine G.done ?_
           first | refine G.backK (k + 1) 0 rfl (.cons rfl (.cons rfl (.cons rfl (.nil)))) ?_ ?_ ?_ | refine G.backK (k + 1) 1 rfl (.cons rfl (.cons rfl (.cons rfl (.nil)))) ?_ ?_ ?_ | refine G.backK (k + 1) 2 rfl (.cons rfl (.cons rfl (.cons rfl (.nil)))) ?_ ?_ ?_
           · exact ⟨rfl, trivial⟩
           · exact ⟨hlt, rall_next ht (by rw [dup_at hb, Bool.not_eq_true']; exact (by simpa using hc))⟩
           · omega
   · try exact Bool.noConfusion hc
     all_goals
      try replace hc := of_decide_eq_false hc
      try simp only [List.length_map] at hc
      try (exfalso; first | contradiction | omega)
      all_goals
       refine G.exit ?_
       refine G.thenX ?_
       refine G.thenX ?_
       refine G.inX ?_
       refine G.thenN ?_
       refine G.seq ?_
       refine G.seq ?_
       refine G.region ?_
       (first | refine G.v (rv_field rfl) rfl ?_ | refine G.v (rv_fieldE rfl) rfl ?_)
       (first | refine G.v (rv_load1 0 rfl rfl rfl) rfl ?_ | refine G.v (rv_load1 1 rfl rfl rfl) rfl ?_ | refine G.v (rv_load1 2 rfl rfl rfl) rfl ?_)
       refine G.v (rv_len rfl (by first | exact Rd.stays (by assumption) | exact Rd.owned 0 rfl | exact Rd.owned 1 rfl | exact Rd.owned 2 rfl)) rfl ?_
       refine G.v (rv_move rfl) rfl ?_
       refine G.done ?_
       refine G.thenN ?_
       refine G.block ?_
       -- loop 1: turned [27], kept [1, 25, 26]
       refine G.loopK (ι := Nat) (ks := [1, 25, 26]) (fun k => [(27, .int .i64 k)]) (fun _ => []) (fun k => k ≤ r.items.length ∧ (List.range k).all (fun i => !itemBad r i) = true) (fun k => r.items.length - k) 0 (.cons rfl (.cons rfl (.cons rfl (.nil)))) rfl ?_ ?_ ?_
       · exact ⟨Nat.zero_le _, rfl⟩
       · exact ⟨rfl, trivial⟩
       rintro k1 ⟨hk1, ht1⟩
       by_cases hlt1 : k1 < r.items.length
       case' pos => (obtain ⟨b1, hb1⟩ := get_of_lt hlt1; have he := get_map hb1 ItemM.cells)
       case' neg => (have hall1 : (List.range r.items.length).all (fun i => !itemBad r i) = true := (by rwa [show k1 = r.items.length by omega] at ht1))
       all_goals
        refine G.seq ?_
        refine G.region ?_
        refine G.v (rv_lss rfl rfl) rfl ?_
        refine G.done ?_
        refine G.thenN ?_
        refine G.seq ?_
        refine G.cond rfl (fun hc => ?_) (fun hc => ?_)
        · try exact Bool.noConfusion hc
          all_goals
           try replace hc := of_decide_eq_true hc
           try simp only [List.length_map] at hc
           try (exfalso; first | contradiction | omega)
           all_goals
            refine G.skip ?_
            refine G.thenN ?_
            refine G.seq ?_
            refine G.block ?_
            refine G.seq ?_
            refine G.region ?_
            refine G.v (rv_move rfl) rfl ?_
            (first | refine G.v (rv_indexH rfl rfl (by first | exact Rd.stays (by assumption) | exact Rd.owned 0 rfl | exact Rd.owned 1 rfl | exact Rd.owned 2 rfl) rfl (by assumption)) rfl ?_ | refine G.v (rv_index rfl rfl (by first | exact Rd.stays (by assumption) | exact Rd.owned 0 rfl | exact Rd.owned 1 rfl | exact Rd.owned 2 rfl) rfl (by assumption)) rfl ?_)
            (first | refine G.v (rv_loadEW rfl (by first | exact Rd.stays (by assumption) | exact Rd.owned 0 rfl | exact Rd.owned 1 rfl | exact Rd.owned 2 rfl) (by assumption) rfl) rfl ?_ | refine G.v (rv_loadEP rfl (by first | exact Rd.stays (by assumption) | exact Rd.owned 0 rfl | exact Rd.owned 1 rfl | exact Rd.owned 2 rfl) (by assumption) (.one (.one (.one (.one (.one (.one (.one .nil)))))))) rfl ?_)
            refine G.op (og_alloc) rfl (fun bk6 _ => ?_)
            refine G.v (rv_assign rfl) rfl ?_
            (first | refine G.op0 (og_st0 rfl rfl rfl rfl rfl rfl (.zero (.cons (.cons (.cons (.cons (.cons (.cons (.cons .nil))))))))) (fun _ _ => ?_) | refine G.op0 (og_st1 rfl rfl rfl rfl rfl rfl (.zero (.cons (.cons (.cons (.cons (.cons (.cons (.cons .nil))))))))) (fun _ _ => ?_) | refine G.op0 (og_st2 rfl rfl rfl rfl rfl rfl (.zero (.cons (.cons (.cons (.cons (.cons (.cons (.cons .nil))))))))) (fun _ _ => ?_))
            refine G.done ?_
            refine G.thenN ?_
            refine G.seq ?_
            refine G.region ?_
            (first | refine G.v (rv_field rfl) rfl ?_ | refine G.v (rv_fieldE rfl) rfl ?_)
            (first | refine G.v (rv_load1 0 rfl rfl rfl) rfl ?_ | refine G.v (rv_load1 1 rfl rfl rfl) rfl ?_ | refine G.v (rv_load1 2 rfl rfl rfl) rfl ?_)
            (first | refine G.v (rv_field rfl) rfl ?_ | refine G.v (rv_fieldE rfl) rfl ?_)
            (first | refine G.v (rv_load1 0 rfl rfl rfl) rfl ?_ | refine G.v (rv_load1 1 rfl rfl rfl) rfl ?_ | refine G.v (rv_load1 2 rfl rfl rfl) rfl ?_)
            refine G.v (rv_geq rfl rfl) rfl ?_
            refine G.v (rv_move rfl) rfl ?_
            all_goals (((with_reducible refine G.gP rfl rfl (fun hg => ?_) (fun hg => ?_)) <;> (try exact Bool.noConfusion hg) <;> (first | (refine G.gY rfl rfl ?_; (first | refine G.v (rv_field rfl) rfl ?_ | refine G.v (rv_fieldE rfl) rfl ?_)) | refine G.gN rfl rfl rfl ?_ | refine G.gU rfl rfl rfl ?_)))
            all_goals ((first | (refine G.gY rfl rfl ?_; (first | refine G.v (rv_load1 0 rfl rfl rfl) rfl ?_ | refine G.v (rv_load1 1 rfl rfl rfl) rfl ?_ | refine G.v (rv_load1 2 rfl rfl rfl) rfl ?_)) | refine G.gN rfl rfl rfl ?_ | refine G.gU rfl rfl rfl ?_))
            all_goals ((first | (refine G.gY rfl rfl ?_; refine G.v (rv_move rfl) rfl ?_) | refine G.gN rfl rfl rfl ?_ | refine G.gU rfl rfl rfl ?_))
            all_goals ((first | (refine G.gY rfl rfl ?_; refine G.v (rv_sliceH rfl rfl (by first | exact Rd.stays (by assumption) | exact Rd.owned 0 rfl | exact Rd.owned 1 rfl | exact Rd.owned 2 rfl) (by omega)) rfl ?_) | refine G.gN rfl rfl rfl ?_ | refine G.gU rfl rfl rfl ?_))
            all_goals ((first | (refine G.gY rfl rfl ?_; refine G.v (rv_makeFunc rfl rfl) rfl ?_) | refine G.gN rfl rfl rfl ?_ | refine G.gU rfl rfl rfl ?_))
            all_goals ((first | (refine G.gY rfl rfl ?_; refine G.op (og_callV rfl rfl (fun w hh => containsItem_any (l := r.items.take k1) w (Rd.subH (Rd.stays h3 _ hh) hk1) (fun w' j c hw hb => namesOk2_any b1 c w' (Rd.stays (by first | exact Rd.ofBlk 0 rfl rfl w hh | exact Rd.ofBlk 1 rfl rfl w hh | exact Rd.ofBlk 2 rfl rfl w hh) w' hw)))) rfl (fun _ _ => ?_)) | refine G.gN rfl rfl rfl ?_ | refine G.gU rfl rfl rfl ?_))
            all_goals ((first | refine G.v (rv_pickT rfl rfl) rfl ?_ | refine G.v (rv_pickF rfl rfl) rfl ?_))
            all_goals
             refine G.done ?_
             refine G.thenN ?_
             refine G.cond rfl (fun hc => ?_) (fun hc => ?_)
             · try exact Bool.noConfusion hc
               all_goals
                try replace hc := of_decide_eq_true hc
                try simp only [List.length_map] at hc
                try (exfalso; first | contradiction | omega)
                all_goals
                 refine G.seq ?_
                 refine G.region ?_
                 refine G.v (rv_assign rfl) rfl ?_
                 refine G.done ?_
                 refine G.thenN ?_
                 refine G.ret ?_
                 refine G.inR ?_
                 refine G.thenR ?_
                 refine G.thenR ?_
                 refine G.inR ?_
                 refine G.thenR ?_
                 first | (refine G.retFV rfl rfl (congrArg Value.bool ?_); rw [namesM, hall, hall1]; simp_all; done) | (refine G.retFV rfl rfl (congrArg Value.bool ?_); rw [namesM, range_no hlt (by rw [dup_at hb]; exact hc)]; simp; done) | (refine G.retFV rfl rfl (congrArg Value.bool ?_); rw [namesM, hall, range_no hlt1 (by rw [item_bad hb1, dup_at hb1]; simp only [Bool.or_eq_true]; first | exact .inl hg | exact .inl (by simpa using hg) | exact .inr (by simpa using hc))]; simp; done)
             · try exact Bool.noConfusion hc
               all_goals
                try replace hc := of_decide_eq_false hc
                try simp only [List.length_map] at hc
                try (exfalso; first | contradiction | omega)
                all_goals
                 refine G.skip ?_
                 refine G.inN ?_
                 refine G.thenN ?_
                 refine G.region ?_
                 (first | refine G.v (rv_incr rfl rfl (by omega)) rfl ?_ | refine G.v (rv_addB rfl rfl (by omega) (by omega)) rfl ?_)
                 refine G.v (rv_move rfl) rfl ?_
                 refine G.done ?_
                 first | refine G.backK (k1 + 1) 0 rfl (.cons rfl (.cons rfl (.cons rfl (.nil)))) ?_ ?_ ?_ | refine G.backK (k1 + 1) 1 rfl (.cons rfl (.cons rfl (.cons rfl (.nil)))) ?_ ?_ ?_ | refine G.backK (k1 + 1) 2 rfl (.cons rfl (.cons rfl (.cons rfl (.nil)))) ?_ ?_ ?_
                 · exact ⟨rfl, trivial⟩
                 · exact ⟨hlt1, rall_next ht1 (by rw [item_bad hb1, dup_at hb1, Bool.not_eq_true', Bool.or_eq_false_iff]; exact ⟨(by first | exact hg | simpa using hg), (by simpa using hc)⟩)⟩
                 · omega
        · try exact Bool.noConfusion hc
          all_goals
           try replace hc := of_decide_eq_false hc
           try simp only [List.length_map] at hc
           try (exfalso; first | contradiction | omega)
           all_goals
            refine G.exit ?_
            refine G.thenX ?_
            refine G.thenX ?_
            refine G.inX ?_
            refine G.thenN ?_
            refine G.seq ?_
            refine G.region ?_
            (first | refine G.v (rv_loadW 0 rfl rfl rfl) rfl ?_ | refine G.v (rv_loadW 1 rfl rfl rfl) rfl ?_ | refine G.v (rv_loadW 2 rfl rfl rfl) rfl ?_ | refine G.v (rv_loadP 0 rfl rfl (.one (.one (.one (.one (.one (.one (.one (.one (.one (.one .nil))))))))))) rfl ?_ | refine G.v (rv_loadP 1 rfl rfl (.one (.one (.one (.one (.one (.one (.one (.one (.one (.one .nil))))))))))) rfl ?_ | refine G.v (rv_loadP 2 rfl rfl (.one (.one (.one (.one (.one (.one (.one (.one (.one (.one .nil))))))))))) rfl ?_)
            refine G.op (og_callV rfl rfl (fun w hh => masterOf_any w (by first | exact Rd.stays (by assumption) _ hh | exact Rd.owned 0 rfl _ hh | exact Rd.owned 1 rfl _ hh | exact Rd.owned 2 rfl _ hh | exact Rd.owned 3 rfl _ hh | exact Rd.owned 4 rfl _ hh | exact Rd.owned 5 rfl _ hh | exact Rd.owned 6 rfl _ hh | exact Rd.owned 7 rfl _ hh | exact Rd.owned 8 rfl _ hh | exact Rd.owned 9 rfl _ hh | exact Rd.owned 10 rfl _ hh | exact Rd.owned 11 rfl _ hh | exact Rd.owned 12 rfl _ hh | exact Rd.owned 13 rfl _ hh | exact Rd.owned 14 rfl _ hh | exact Rd.owned 15 rfl _ hh))) rfl (fun _ _ => ?_)
            refine G.v (rv_move rfl) rfl ?_
            refine G.v (rv_extract rfl rfl) rfl ?_
            refine G.v (rv_extract rfl rfl) rfl ?_
            refine G.op (og_alloc) rfl (fun bk7 _ => ?_)
            (first | refine G.op0 (og_st0 rfl rfl rfl rfl rfl rfl (.zero (.cons (.cons (.cons (.cons (.cons (.cons (.cons .nil))))))))) (fun _ _ => ?_) | refine G.op0 (og_st1 rfl rfl rfl rfl rfl rfl (.zero (.cons (.cons (.cons (.cons (.cons (.cons (.cons .nil))))))))) (fun _ _ => ?_) | refine G.op0 (og_st2 rfl rfl rfl rfl rfl rfl (.zero (.cons (.cons (.cons (.cons (.cons (.cons (.cons .nil))))))))) (fun _ _ => ?_))
            refine G.v (rv_assign rfl) rfl ?_
            refine G.done ?_
            refine G.thenN ?_
            refine G.seq ?_
            refine G.region ?_
            refine G.v (rv_move rfl) rfl ?_
            refine G.v (rv_move rfl) rfl ?_
            all_goals (((with_reducible refine G.gP rfl rfl (fun hg => ?_) (fun hg => ?_)) <;> (try exact Bool.noConfusion hg) <;> (first | (refine G.gY rfl rfl ?_; (first | refine G.v (rv_field rfl) rfl ?_ | refine G.v (rv_fieldE rfl) rfl ?_)) | refine G.gN rfl rfl rfl ?_ | refine G.gU rfl rfl rfl ?_)))
            all_goals ((first | (refine G.gY rfl rfl ?_; (first | refine G.v (rv_load1 0 rfl rfl rfl) rfl ?_ | refine G.v (rv_load1 1 rfl rfl rfl) rfl ?_ | refine G.v (rv_load1 2 rfl rfl rfl) rfl ?_)) | refine G.gN rfl rfl rfl ?_ | refine G.gU rfl rfl rfl ?_))
            all_goals ((first | (refine G.gY rfl rfl ?_; refine G.v (rv_makeFunc rfl rfl) rfl ?_) | refine G.gN rfl rfl rfl ?_ | refine G.gU rfl rfl rfl ?_))
            all_goals ((first | (refine G.gY rfl rfl ?_; refine G.op (og_callV rfl rfl (fun w hh => (containsPair_any w (Rd.stays h _ hh) (fun w' j c hw hb => namesOk3_any (r := r) (pv := pv) (tv := tv) (iv := iv) c w' (Rd.stays (by first | exact Rd.ofBlk 0 rfl (ReqM.good hov1 hov2 hov3) w hh | exact Rd.ofBlk 1 rfl (ReqM.good hov1 hov2 hov3) w hh | exact Rd.ofBlk 2 rfl (ReqM.good hov1 hov2 hov3) w hh) w' hw))).mono (congrArg Value.bool any_not))) rfl (fun _ _ => ?_)) | refine G.gN rfl rfl rfl ?_ | refine G.gU rfl rfl rfl ?_))
            all_goals ((first | (refine G.gY rfl rfl ?_; refine G.v (rv_not rfl) rfl ?_) | refine G.gN rfl rfl rfl ?_ | refine G.gU rfl rfl rfl ?_))
            all_goals ((first | refine G.v (rv_pickT rfl rfl) rfl ?_ | refine G.v (rv_pickF rfl rfl) rfl ?_))
            all_goals (refine G.v (rv_assign rfl) rfl ?_)
            all_goals
             refine G.done ?_
             refine G.thenN ?_
             refine G.ret ?_
             first | (refine G.retFV rfl rfl (congrArg Value.bool ?_); rw [namesM, hall, hall1]; simp_all; done) | (refine G.retFV rfl rfl (congrArg Value.bool ?_); rw [namesM, range_no hlt (by rw [dup_at hb]; exact hc)]; simp; done) | (refine G.retFV rfl rfl (congrArg Value.bool ?_); rw [namesM, hall, range_no hlt1 (by rw [item_bad hb1, dup_at hb1]; simp only [Bool.or_eq_true]; first | exact .inl hg | exact .inl (by simpa using hg) | exact .inr (by simpa using hc))]; simp; done)
end Go.Proofs.YtpmphkcibiimcaaGreat
