/-
  Boxes, shelves and layers that are right for a pallet; the depth of shelves.
-/
import Derived.Test.YtihgahmdofpfmaaGeo2
import Derived.Test.YtihgahmdofpfmaaTables
namespace Go.Proofs.Ytihgahmdofpfmaa
open Go.RowKit
attribute [local irreducible] Go.wpList Go.Code.wp Go.Exit.then Go.Exit.inBlock Go.bodyPost Go.Calls pE pB G RunsV FnV Fn FnM
set_option maxRecDepth 100000

theorem indexBox_any {g : Nat} [FnOk Try.prog g] {cap : List Value} {v : Value} {l : List BoxM} {p : BoxM → Bool} (w : World) (h : Rd w v 4 (l.map BoxM.cells)) (hf : ∀ (w' : World) (k : Nat) (b : BoxM), HeapOk w w' [] → l[k]? = some b → FnV Try.prog g ([.agg (BoxM.cells b).toArray] ++ cap) w' (.bool (p b))) :
    FnV Try.prog 95 [v, .func (.func g) #[] cap.toArray] w (.int .i64 (idxM p l)) := by
  have hle := h.le_map
  have hln : (l.map BoxM.cells).length = l.length := by simp
  refine FnV.of (n := 19) Try.func95 rfl rfl ?_
  refine G.seq ?_
  refine G.region ?_
  refine G.v (rv_assign rfl) rfl ?_
  refine G.done ?_
  refine G.thenN ?_
  refine G.seq ?_
  refine G.seq ?_
  refine G.region ?_
  refine G.v (rv_move rfl) rfl ?_
  refine G.v (rv_len rfl (by first | exact Rd.stays (by assumption))) rfl ?_
  refine G.v (rv_move rfl) rfl ?_
  refine G.done ?_
  refine G.thenN ?_
  refine G.block ?_
  -- loop 0: turned [8], kept [0, 1, 7]
  refine G.loopK (ι := Nat) (ks := [0, 1, 7]) (fun k => [(8, .int .i64 k)]) (fun _ => []) (fun k => k ≤ l.length ∧ (l.take k).any p = false) (fun k => l.length - k) 0 (.cons rfl (.cons rfl (.cons rfl (.nil)))) rfl ?_ ?_ ?_
  · exact ⟨Nat.zero_le _, rfl⟩
  · exact ⟨rfl, trivial⟩
  rintro k ⟨hk, ht⟩
  by_cases hlt : k < l.length
  case' pos => (obtain ⟨b, hb⟩ := get_of_lt hlt; have he := get_map hb BoxM.cells)
  all_goals
   refine G.seq ?_
   refine G.region ?_
   refine G.v (rv_lss rfl rfl) rfl ?_
   refine G.done ?_
   refine G.thenN ?_
   refine G.seq ?_
   refine G.cond rfl (fun hc => ?_) (fun hc => ?_)
   · try exact Bool.noConfusion hc
     all_goals
      try replace hc := of_decide_eq_true hc
      try (exfalso; first | contradiction | omega)
      all_goals
       refine G.skip ?_
       refine G.thenN ?_
       refine G.seq ?_
       refine G.block ?_
       refine G.seq ?_
       refine G.region ?_
       refine G.v (rv_move rfl) rfl ?_
       refine G.v (rv_assign rfl) rfl ?_
       refine G.done ?_
       refine G.thenN ?_
       refine G.seq ?_
       refine G.region ?_
       refine G.v (rv_move rfl) rfl ?_
       refine G.v (rv_move rfl) rfl ?_
       refine G.v (rv_move rfl) rfl ?_
       (first | refine G.v (rv_indexH rfl rfl (by first | exact Rd.stays (by assumption)) rfl (by assumption)) rfl ?_ | refine G.v (rv_index rfl rfl (by first | exact Rd.stays (by assumption)) rfl (by assumption)) rfl ?_)
       (first | refine G.v (rv_loadEW rfl (by first | exact Rd.stays (by assumption)) (by assumption) rfl) rfl ?_ | refine G.v (rv_loadES rfl (by first | exact Rd.stays (by assumption)) (by assumption) rfl rfl) rfl ?_)
       refine G.op (og_callV rfl rfl (fun w hh => hf w k b hh.none hb)) rfl (fun _ _ => ?_)
       refine G.done ?_
       refine G.thenN ?_
       refine G.cond rfl (fun hc => ?_) (fun hc => ?_)
       · try exact Bool.noConfusion hc
         all_goals
          try replace hc := of_decide_eq_true hc
          try (exfalso; first | contradiction | omega)
          all_goals
           refine G.seq ?_
           refine G.region ?_
           refine G.v (rv_move rfl) rfl ?_
           refine G.v (rv_assign rfl) rfl ?_
           refine G.done ?_
           refine G.thenN ?_
           refine G.ret ?_
           refine G.inR ?_
           refine G.thenR ?_
           refine G.thenR ?_
           refine G.inR ?_
           refine G.thenR ?_
           first | exact G.retFV rfl rfl (congrArg (Value.int .i64) (idx_at ht hb hc).symm) | exact G.retFV rfl rfl (congrArg (Value.int .i64) (idx_none ht hlt).symm)
       · try exact Bool.noConfusion hc
         all_goals
          try replace hc := of_decide_eq_false hc
          try (exfalso; first | contradiction | omega)
          all_goals
           refine G.skip ?_
           refine G.inN ?_
           refine G.thenN ?_
           refine G.region ?_
           (first | refine G.v (rv_incr rfl rfl (by omega)) rfl ?_ | refine G.v (rv_addB rfl rfl (by omega) (by omega)) rfl ?_)
           refine G.v (rv_move rfl) rfl ?_
           refine G.done ?_
           first | refine G.backK (k + 1) 0 rfl (.cons rfl (.cons rfl (.cons rfl (.nil)))) ?_ ?_ ?_
           · exact ⟨rfl, trivial⟩
           · exact ⟨hlt, any_next ht hb hc⟩
           · omega
   · try exact Bool.noConfusion hc
     all_goals
      try replace hc := of_decide_eq_false hc
      try (exfalso; first | contradiction | omega)
      all_goals
       refine G.exit ?_
       refine G.thenX ?_
       refine G.thenX ?_
       refine G.inX ?_
       refine G.thenN ?_
       refine G.seq ?_
       refine G.region ?_
       refine G.v (rv_assign rfl) rfl ?_
       refine G.done ?_
       refine G.thenN ?_
       refine G.ret ?_
       first | exact G.retFV rfl rfl (congrArg (Value.int .i64) (idx_at ht hb hc).symm) | exact G.retFV rfl rfl (congrArg (Value.int .i64) (idx_none ht hlt).symm)
theorem containsBox_any {g : Nat} [FnOk Try.prog g] {cap : List Value} {v : Value} {l : List BoxM} {p : BoxM → Bool} (w : World) (h : Rd w v 4 (l.map BoxM.cells)) (hf : ∀ (w' : World) (k : Nat) (b : BoxM), HeapOk w w' [] → l[k]? = some b → FnV Try.prog g ([.agg (BoxM.cells b).toArray] ++ cap) w' (.bool (p b))) :
    FnV Try.prog 72 [v, .func (.func g) #[] cap.toArray] w (.bool (l.any p)) := by
  refine FnV.of (n := 9) Try.func72 rfl rfl ?_
  refine G.seq ?_
  refine G.region ?_
  refine G.v (rv_assign rfl) rfl ?_
  refine G.done ?_
  refine G.thenN ?_
  refine G.seq ?_
  refine G.region ?_
  refine G.v (rv_move rfl) rfl ?_
  refine G.v (rv_move rfl) rfl ?_
  refine G.op (og_callV rfl rfl (fun w hh => indexBox_any w (Rd.stays h _ hh) (fun w' k b hw hb => hf w' k b ((hh.call hw).none) hb))) rfl (fun _ _ => ?_)
  refine G.v (rv_geq rfl rfl) rfl ?_
  refine G.v (rv_assign rfl) rfl ?_
  refine G.done ?_
  refine G.thenN ?_
  refine G.ret ?_
  exact G.retFV rfl rfl (congrArg Value.bool (idx_any p l))

theorem indexShelf_any {g : Nat} [FnOk Try.prog g] {cap : List Value} {v : Value} {l : List (ShelfM×Value)} {p : (ShelfM×Value) → Bool} (w : World) (h : Rd w v 5 (l.map ShelfM.cells)) (hf : ∀ (w' : World) (k : Nat) (b : (ShelfM×Value)), HeapOk w w' [] → l[k]? = some b → FnV Try.prog g ([.agg (ShelfM.cells b).toArray] ++ cap) w' (.bool (p b))) :
    FnV Try.prog 100 [v, .func (.func g) #[] cap.toArray] w (.int .i64 (idxM p l)) := by
  have hle := h.le_map
  have hln : (l.map ShelfM.cells).length = l.length := by simp
  refine FnV.of (n := 19) Try.func100 rfl rfl ?_
  refine G.seq ?_
  refine G.region ?_
  refine G.v (rv_assign rfl) rfl ?_
  refine G.done ?_
  refine G.thenN ?_
  refine G.seq ?_
  refine G.seq ?_
  refine G.region ?_
  refine G.v (rv_move rfl) rfl ?_
  refine G.v (rv_len rfl (by first | exact Rd.stays (by assumption))) rfl ?_
  refine G.v (rv_move rfl) rfl ?_
  refine G.done ?_
  refine G.thenN ?_
  refine G.block ?_
  -- loop 0: turned [8], kept [0, 1, 7]
  refine G.loopK (ι := Nat) (ks := [0, 1, 7]) (fun k => [(8, .int .i64 k)]) (fun _ => []) (fun k => k ≤ l.length ∧ (l.take k).any p = false) (fun k => l.length - k) 0 (.cons rfl (.cons rfl (.cons rfl (.nil)))) rfl ?_ ?_ ?_
  · exact ⟨Nat.zero_le _, rfl⟩
  · exact ⟨rfl, trivial⟩
  rintro k ⟨hk, ht⟩
  by_cases hlt : k < l.length
  case' pos => (obtain ⟨b, hb⟩ := get_of_lt hlt; have he := get_map hb ShelfM.cells)
  all_goals
   refine G.seq ?_
   refine G.region ?_
   refine G.v (rv_lss rfl rfl) rfl ?_
   refine G.done ?_
   refine G.thenN ?_
   refine G.seq ?_
   refine G.cond rfl (fun hc => ?_) (fun hc => ?_)
   · try exact Bool.noConfusion hc
     all_goals
      try replace hc := of_decide_eq_true hc
      try (exfalso; first | contradiction | omega)
      all_goals
       refine G.skip ?_
       refine G.thenN ?_
       refine G.seq ?_
       refine G.block ?_
       refine G.seq ?_
       refine G.region ?_
       refine G.v (rv_move rfl) rfl ?_
       refine G.v (rv_assign rfl) rfl ?_
       refine G.done ?_
       refine G.thenN ?_
       refine G.seq ?_
       refine G.region ?_
       refine G.v (rv_move rfl) rfl ?_
       refine G.v (rv_move rfl) rfl ?_
       refine G.v (rv_move rfl) rfl ?_
       (first | refine G.v (rv_indexH rfl rfl (by first | exact Rd.stays (by assumption)) rfl (by assumption)) rfl ?_ | refine G.v (rv_index rfl rfl (by first | exact Rd.stays (by assumption)) rfl (by assumption)) rfl ?_)
       (first | refine G.v (rv_loadEW rfl (by first | exact Rd.stays (by assumption)) (by assumption) rfl) rfl ?_ | refine G.v (rv_loadES rfl (by first | exact Rd.stays (by assumption)) (by assumption) rfl rfl) rfl ?_)
       refine G.op (og_callV rfl rfl (fun w hh => hf w k b hh.none hb)) rfl (fun _ _ => ?_)
       refine G.done ?_
       refine G.thenN ?_
       refine G.cond rfl (fun hc => ?_) (fun hc => ?_)
       · try exact Bool.noConfusion hc
         all_goals
          try replace hc := of_decide_eq_true hc
          try (exfalso; first | contradiction | omega)
          all_goals
           refine G.seq ?_
           refine G.region ?_
           refine G.v (rv_move rfl) rfl ?_
           refine G.v (rv_assign rfl) rfl ?_
           refine G.done ?_
           refine G.thenN ?_
           refine G.ret ?_
           refine G.inR ?_
           refine G.thenR ?_
           refine G.thenR ?_
           refine G.inR ?_
           refine G.thenR ?_
           first | exact G.retFV rfl rfl (congrArg (Value.int .i64) (idx_at ht hb hc).symm) | exact G.retFV rfl rfl (congrArg (Value.int .i64) (idx_none ht hlt).symm)
       · try exact Bool.noConfusion hc
         all_goals
          try replace hc := of_decide_eq_false hc
          try (exfalso; first | contradiction | omega)
          all_goals
           refine G.skip ?_
           refine G.inN ?_
           refine G.thenN ?_
           refine G.region ?_
           (first | refine G.v (rv_incr rfl rfl (by omega)) rfl ?_ | refine G.v (rv_addB rfl rfl (by omega) (by omega)) rfl ?_)
           refine G.v (rv_move rfl) rfl ?_
           refine G.done ?_
           first | refine G.backK (k + 1) 0 rfl (.cons rfl (.cons rfl (.cons rfl (.nil)))) ?_ ?_ ?_
           · exact ⟨rfl, trivial⟩
           · exact ⟨hlt, any_next ht hb hc⟩
           · omega
   · try exact Bool.noConfusion hc
     all_goals
      try replace hc := of_decide_eq_false hc
      try (exfalso; first | contradiction | omega)
      all_goals
       refine G.exit ?_
       refine G.thenX ?_
       refine G.thenX ?_
       refine G.inX ?_
       refine G.thenN ?_
       refine G.seq ?_
       refine G.region ?_
       refine G.v (rv_assign rfl) rfl ?_
       refine G.done ?_
       refine G.thenN ?_
       refine G.ret ?_
       first | exact G.retFV rfl rfl (congrArg (Value.int .i64) (idx_at ht hb hc).symm) | exact G.retFV rfl rfl (congrArg (Value.int .i64) (idx_none ht hlt).symm)
theorem containsShelf_any {g : Nat} [FnOk Try.prog g] {cap : List Value} {v : Value} {l : List (ShelfM×Value)} {p : (ShelfM×Value) → Bool} (w : World) (h : Rd w v 5 (l.map ShelfM.cells)) (hf : ∀ (w' : World) (k : Nat) (b : (ShelfM×Value)), HeapOk w w' [] → l[k]? = some b → FnV Try.prog g ([.agg (ShelfM.cells b).toArray] ++ cap) w' (.bool (p b))) :
    FnV Try.prog 85 [v, .func (.func g) #[] cap.toArray] w (.bool (l.any p)) := by
  refine FnV.of (n := 9) Try.func85 rfl rfl ?_
  refine G.seq ?_
  refine G.region ?_
  refine G.v (rv_assign rfl) rfl ?_
  refine G.done ?_
  refine G.thenN ?_
  refine G.seq ?_
  refine G.region ?_
  refine G.v (rv_move rfl) rfl ?_
  refine G.v (rv_move rfl) rfl ?_
  refine G.op (og_callV rfl rfl (fun w hh => indexShelf_any w (Rd.stays h _ hh) (fun w' k b hw hb => hf w' k b ((hh.call hw).none) hb))) rfl (fun _ _ => ?_)
  refine G.v (rv_geq rfl rfl) rfl ?_
  refine G.v (rv_assign rfl) rfl ?_
  refine G.done ?_
  refine G.thenN ?_
  refine G.ret ?_
  exact G.retFV rfl rfl (congrArg Value.bool (idx_any p l))

theorem indexLayer_any {g : Nat} [FnOk Try.prog g] {cap : List Value} {v : Value} {l : List (LayerM×Value)} {p : (LayerM×Value) → Bool} (w : World) (h : Rd w v 4 (l.map LayerM.cells)) (hf : ∀ (w' : World) (k : Nat) (b : (LayerM×Value)), HeapOk w w' [] → l[k]? = some b → FnV Try.prog g ([.agg (LayerM.cells b).toArray] ++ cap) w' (.bool (p b))) :
    FnV Try.prog 99 [v, .func (.func g) #[] cap.toArray] w (.int .i64 (idxM p l)) := by
  have hle := h.le_map
  have hln : (l.map LayerM.cells).length = l.length := by simp
  refine FnV.of (n := 19) Try.func99 rfl rfl ?_
  refine G.seq ?_
  refine G.region ?_
  refine G.v (rv_assign rfl) rfl ?_
  refine G.done ?_
  refine G.thenN ?_
  refine G.seq ?_
  refine G.seq ?_
  refine G.region ?_
  refine G.v (rv_move rfl) rfl ?_
  refine G.v (rv_len rfl (by first | exact Rd.stays (by assumption))) rfl ?_
  refine G.v (rv_move rfl) rfl ?_
  refine G.done ?_
  refine G.thenN ?_
  refine G.block ?_
  -- loop 0: turned [8], kept [0, 1, 7]
  refine G.loopK (ι := Nat) (ks := [0, 1, 7]) (fun k => [(8, .int .i64 k)]) (fun _ => []) (fun k => k ≤ l.length ∧ (l.take k).any p = false) (fun k => l.length - k) 0 (.cons rfl (.cons rfl (.cons rfl (.nil)))) rfl ?_ ?_ ?_
  · exact ⟨Nat.zero_le _, rfl⟩
  · exact ⟨rfl, trivial⟩
  rintro k ⟨hk, ht⟩
  by_cases hlt : k < l.length
  case' pos => (obtain ⟨b, hb⟩ := get_of_lt hlt; have he := get_map hb LayerM.cells)
  all_goals
   refine G.seq ?_
   refine G.region ?_
   refine G.v (rv_lss rfl rfl) rfl ?_
   refine G.done ?_
   refine G.thenN ?_
   refine G.seq ?_
   refine G.cond rfl (fun hc => ?_) (fun hc => ?_)
   · try exact Bool.noConfusion hc
     all_goals
      try replace hc := of_decide_eq_true hc
      try (exfalso; first | contradiction | omega)
      all_goals
       refine G.skip ?_
       refine G.thenN ?_
       refine G.seq ?_
       refine G.block ?_
       refine G.seq ?_
       refine G.region ?_
       refine G.v (rv_move rfl) rfl ?_
       refine G.v (rv_assign rfl) rfl ?_
       refine G.done ?_
       refine G.thenN ?_
       refine G.seq ?_
       refine G.region ?_
       refine G.v (rv_move rfl) rfl ?_
       refine G.v (rv_move rfl) rfl ?_
       refine G.v (rv_move rfl) rfl ?_
       (first | refine G.v (rv_indexH rfl rfl (by first | exact Rd.stays (by assumption)) rfl (by assumption)) rfl ?_ | refine G.v (rv_index rfl rfl (by first | exact Rd.stays (by assumption)) rfl (by assumption)) rfl ?_)
       (first | refine G.v (rv_loadEW rfl (by first | exact Rd.stays (by assumption)) (by assumption) rfl) rfl ?_ | refine G.v (rv_loadES rfl (by first | exact Rd.stays (by assumption)) (by assumption) rfl rfl) rfl ?_)
       refine G.op (og_callV rfl rfl (fun w hh => hf w k b hh.none hb)) rfl (fun _ _ => ?_)
       refine G.done ?_
       refine G.thenN ?_
       refine G.cond rfl (fun hc => ?_) (fun hc => ?_)
       · try exact Bool.noConfusion hc
         all_goals
          try replace hc := of_decide_eq_true hc
          try (exfalso; first | contradiction | omega)
          all_goals
           refine G.seq ?_
           refine G.region ?_
           refine G.v (rv_move rfl) rfl ?_
           refine G.v (rv_assign rfl) rfl ?_
           refine G.done ?_
           refine G.thenN ?_
           refine G.ret ?_
           refine G.inR ?_
           refine G.thenR ?_
           refine G.thenR ?_
           refine G.inR ?_
           refine G.thenR ?_
           first | exact G.retFV rfl rfl (congrArg (Value.int .i64) (idx_at ht hb hc).symm) | exact G.retFV rfl rfl (congrArg (Value.int .i64) (idx_none ht hlt).symm)
       · try exact Bool.noConfusion hc
         all_goals
          try replace hc := of_decide_eq_false hc
          try (exfalso; first | contradiction | omega)
          all_goals
           refine G.skip ?_
           refine G.inN ?_
           refine G.thenN ?_
           refine G.region ?_
           (first | refine G.v (rv_incr rfl rfl (by omega)) rfl ?_ | refine G.v (rv_addB rfl rfl (by omega) (by omega)) rfl ?_)
           refine G.v (rv_move rfl) rfl ?_
           refine G.done ?_
           first | refine G.backK (k + 1) 0 rfl (.cons rfl (.cons rfl (.cons rfl (.nil)))) ?_ ?_ ?_
           · exact ⟨rfl, trivial⟩
           · exact ⟨hlt, any_next ht hb hc⟩
           · omega
   · try exact Bool.noConfusion hc
     all_goals
      try replace hc := of_decide_eq_false hc
      try (exfalso; first | contradiction | omega)
      all_goals
       refine G.exit ?_
       refine G.thenX ?_
       refine G.thenX ?_
       refine G.inX ?_
       refine G.thenN ?_
       refine G.seq ?_
       refine G.region ?_
       refine G.v (rv_assign rfl) rfl ?_
       refine G.done ?_
       refine G.thenN ?_
       refine G.ret ?_
       first | exact G.retFV rfl rfl (congrArg (Value.int .i64) (idx_at ht hb hc).symm) | exact G.retFV rfl rfl (congrArg (Value.int .i64) (idx_none ht hlt).symm)
theorem containsLayer_any {g : Nat} [FnOk Try.prog g] {cap : List Value} {v : Value} {l : List (LayerM×Value)} {p : (LayerM×Value) → Bool} (w : World) (h : Rd w v 4 (l.map LayerM.cells)) (hf : ∀ (w' : World) (k : Nat) (b : (LayerM×Value)), HeapOk w w' [] → l[k]? = some b → FnV Try.prog g ([.agg (LayerM.cells b).toArray] ++ cap) w' (.bool (p b))) :
    FnV Try.prog 82 [v, .func (.func g) #[] cap.toArray] w (.bool (l.any p)) := by
  refine FnV.of (n := 9) Try.func82 rfl rfl ?_
  refine G.seq ?_
  refine G.region ?_
  refine G.v (rv_assign rfl) rfl ?_
  refine G.done ?_
  refine G.thenN ?_
  refine G.seq ?_
  refine G.region ?_
  refine G.v (rv_move rfl) rfl ?_
  refine G.v (rv_move rfl) rfl ?_
  refine G.op (og_callV rfl rfl (fun w hh => indexLayer_any w (Rd.stays h _ hh) (fun w' k b hw hb => hf w' k b ((hh.call hw).none) hb))) rfl (fun _ _ => ?_)
  refine G.v (rv_geq rfl rfl) rfl ?_
  refine G.v (rv_assign rfl) rfl ?_
  refine G.done ?_
  refine G.thenN ?_
  refine G.ret ?_
  exact G.retFV rfl rfl (congrArg Value.bool (idx_any p l))

theorem boxesOk1_any (p : PalletM) (b : BoxM) {q : Nat} (w : World) (h : Rd w (.slice (some ⟨q, 0, none⟩) 1 1) 4 [p.cells]) : FnV Try.prog 73 [b.val, pB q 0] w (.bool (!boxOkM p b)) := by
  rw [pB_eq_pE q 4]
  refine FnV.of (n := 34) Try.func73 rfl rfl ?_
  refine G.seq ?_
  refine G.region ?_
  refine G.op (og_box rfl rfl) rfl (fun b _ => ?_)
  refine G.v (rv_assign rfl) rfl ?_
  refine G.done ?_
  refine G.thenN ?_
  refine G.seq ?_
  refine G.region ?_
  (first | refine G.v (rv_field rfl) rfl ?_ | refine G.v (rv_fieldE rfl) rfl ?_)
  (first | refine G.v (rv_load1 0 rfl rfl rfl) rfl ?_ | refine G.v (rv_loadE rfl (by first | exact Rd.stays (by assumption) | exact Rd.owned 0 rfl) rfl rfl) rfl ?_)
  (first | refine G.v (rv_field rfl) rfl ?_ | refine G.v (rv_fieldE rfl) rfl ?_)
  (first | refine G.v (rv_load1 0 rfl rfl rfl) rfl ?_ | refine G.v (rv_loadE rfl (by first | exact Rd.stays (by assumption) | exact Rd.owned 0 rfl) rfl rfl) rfl ?_)
  refine G.op (og_callV rfl rfl (fun w _ => in_any _ _ _ w)) rfl (fun _ _ => ?_)
  refine G.v (rv_not rfl) rfl ?_
  refine G.v (rv_move rfl) rfl ?_
  all_goals ((with_reducible refine G.gP rfl rfl (fun hg => ?_) (fun hg => ?_)) <;> (try exact Bool.noConfusion hg) <;> (first | (refine G.gY rfl rfl ?_; (first | refine G.v (rv_field rfl) rfl ?_ | refine G.v (rv_fieldE rfl) rfl ?_)) | refine G.gN rfl rfl rfl ?_))
  all_goals (first | (refine G.gY rfl rfl ?_; (first | refine G.v (rv_load1 0 rfl rfl rfl) rfl ?_ | refine G.v (rv_loadE rfl (by first | exact Rd.stays (by assumption) | exact Rd.owned 0 rfl) rfl rfl) rfl ?_)) | refine G.gN rfl rfl rfl ?_)
  all_goals (first | (refine G.gY rfl rfl ?_; (first | refine G.v (rv_field rfl) rfl ?_ | refine G.v (rv_fieldE rfl) rfl ?_)) | refine G.gN rfl rfl rfl ?_)
  all_goals (first | (refine G.gY rfl rfl ?_; (first | refine G.v (rv_load1 0 rfl rfl rfl) rfl ?_ | refine G.v (rv_loadE rfl (by first | exact Rd.stays (by assumption) | exact Rd.owned 0 rfl) rfl rfl) rfl ?_)) | refine G.gN rfl rfl rfl ?_)
  all_goals (first | (refine G.gY rfl rfl ?_; refine G.op (og_callV rfl rfl (fun w _ => in_any _ _ _ w)) rfl (fun _ _ => ?_)) | refine G.gN rfl rfl rfl ?_)
  all_goals (first | (refine G.gY rfl rfl ?_; refine G.v (rv_not rfl) rfl ?_) | refine G.gN rfl rfl rfl ?_)
  all_goals (first | refine G.v (rv_pickT rfl rfl) rfl ?_ | refine G.v (rv_pickF rfl rfl) rfl ?_)
  all_goals refine G.v (rv_move rfl) rfl ?_
  all_goals ((with_reducible refine G.gP rfl rfl (fun hg => ?_) (fun hg => ?_)) <;> (try exact Bool.noConfusion hg) <;> (first | (refine G.gY rfl rfl ?_; (first | refine G.v (rv_field rfl) rfl ?_ | refine G.v (rv_fieldE rfl) rfl ?_)) | refine G.gN rfl rfl rfl ?_))
  all_goals (first | (refine G.gY rfl rfl ?_; (first | refine G.v (rv_load1 0 rfl rfl rfl) rfl ?_ | refine G.v (rv_loadE rfl (by first | exact Rd.stays (by assumption) | exact Rd.owned 0 rfl) rfl rfl) rfl ?_)) | refine G.gN rfl rfl rfl ?_)
  all_goals (first | (refine G.gY rfl rfl ?_; (first | refine G.v (rv_field rfl) rfl ?_ | refine G.v (rv_fieldE rfl) rfl ?_)) | refine G.gN rfl rfl rfl ?_)
  all_goals (first | (refine G.gY rfl rfl ?_; (first | refine G.v (rv_load1 0 rfl rfl rfl) rfl ?_ | refine G.v (rv_loadE rfl (by first | exact Rd.stays (by assumption) | exact Rd.owned 0 rfl) rfl rfl) rfl ?_)) | refine G.gN rfl rfl rfl ?_)
  all_goals (first | (refine G.gY rfl rfl ?_; refine G.op (og_callV rfl rfl (fun w _ => in_any _ _ _ w)) rfl (fun _ _ => ?_)) | refine G.gN rfl rfl rfl ?_)
  all_goals (first | (refine G.gY rfl rfl ?_; refine G.v (rv_not rfl) rfl ?_) | refine G.gN rfl rfl rfl ?_)
  all_goals (first | refine G.v (rv_pickT rfl rfl) rfl ?_ | refine G.v (rv_pickF rfl rfl) rfl ?_)
  all_goals refine G.v (rv_move rfl) rfl ?_
  all_goals ((with_reducible refine G.gP rfl rfl (fun hg => ?_) (fun hg => ?_)) <;> (try exact Bool.noConfusion hg) <;> (first | (refine G.gY rfl rfl ?_; (first | refine G.v (rv_field rfl) rfl ?_ | refine G.v (rv_fieldE rfl) rfl ?_)) | refine G.gN rfl rfl rfl ?_))
  all_goals (first | (refine G.gY rfl rfl ?_; (first | refine G.v (rv_load1 0 rfl rfl rfl) rfl ?_ | refine G.v (rv_loadE rfl (by first | exact Rd.stays (by assumption) | exact Rd.owned 0 rfl) rfl rfl) rfl ?_)) | refine G.gN rfl rfl rfl ?_)
  all_goals (first | (refine G.gY rfl rfl ?_; (first | refine G.v (rv_field rfl) rfl ?_ | refine G.v (rv_fieldE rfl) rfl ?_)) | refine G.gN rfl rfl rfl ?_)
  all_goals (first | (refine G.gY rfl rfl ?_; (first | refine G.v (rv_load1 0 rfl rfl rfl) rfl ?_ | refine G.v (rv_loadE rfl (by first | exact Rd.stays (by assumption) | exact Rd.owned 0 rfl) rfl rfl) rfl ?_)) | refine G.gN rfl rfl rfl ?_)
  all_goals (first | (refine G.gY rfl rfl ?_; refine G.op (og_callV rfl rfl (fun w _ => in_any _ _ _ w)) rfl (fun _ _ => ?_)) | refine G.gN rfl rfl rfl ?_)
  all_goals (first | (refine G.gY rfl rfl ?_; refine G.v (rv_not rfl) rfl ?_) | refine G.gN rfl rfl rfl ?_)
  all_goals (first | refine G.v (rv_pickT rfl rfl) rfl ?_ | refine G.v (rv_pickF rfl rfl) rfl ?_)
  all_goals refine G.v (rv_assign rfl) rfl ?_
  all_goals
   refine G.done ?_
   refine G.thenN ?_
   refine G.ret ?_
   refine G.retFV rfl rfl (congrArg Value.bool ?_); simp_all [boxOkM]
theorem shelvesOk1_any (p : PalletM) (b : ShelfM × Value) {q : Nat} (w : World) (h : Rd w (.slice (some ⟨q, 0, none⟩) 1 1) 4 [p.cells]) : FnV Try.prog 86 [.agg (ShelfM.cells b).toArray, pB q 0] w (.bool (!heapOkM p b.1.d b.1.h b.1.g)) := by
  rw [pB_eq_pE q 4]
  refine FnV.of (n := 26) Try.func86 rfl rfl ?_
  refine G.seq ?_
  refine G.region ?_
  refine G.op (og_box rfl rfl) rfl (fun b _ => ?_)
  refine G.v (rv_assign rfl) rfl ?_
  refine G.done ?_
  refine G.thenN ?_
  refine G.seq ?_
  refine G.region ?_
  (first | refine G.v (rv_field rfl) rfl ?_ | refine G.v (rv_fieldE rfl) rfl ?_)
  (first | refine G.v (rv_load1 0 rfl rfl rfl) rfl ?_ | refine G.v (rv_loadE rfl (by first | exact Rd.stays (by assumption) | exact Rd.owned 0 rfl) rfl rfl) rfl ?_)
  (first | refine G.v (rv_field rfl) rfl ?_ | refine G.v (rv_fieldE rfl) rfl ?_)
  (first | refine G.v (rv_load1 0 rfl rfl rfl) rfl ?_ | refine G.v (rv_loadE rfl (by first | exact Rd.stays (by assumption) | exact Rd.owned 0 rfl) rfl rfl) rfl ?_)
  refine G.op (og_callV rfl rfl (fun w _ => in_any _ _ _ w)) rfl (fun _ _ => ?_)
  refine G.v (rv_not rfl) rfl ?_
  refine G.v (rv_move rfl) rfl ?_
  all_goals ((with_reducible refine G.gP rfl rfl (fun hg => ?_) (fun hg => ?_)) <;> (try exact Bool.noConfusion hg) <;> (first | (refine G.gY rfl rfl ?_; (first | refine G.v (rv_field rfl) rfl ?_ | refine G.v (rv_fieldE rfl) rfl ?_)) | refine G.gN rfl rfl rfl ?_))
  all_goals (first | (refine G.gY rfl rfl ?_; (first | refine G.v (rv_load1 0 rfl rfl rfl) rfl ?_ | refine G.v (rv_loadE rfl (by first | exact Rd.stays (by assumption) | exact Rd.owned 0 rfl) rfl rfl) rfl ?_)) | refine G.gN rfl rfl rfl ?_)
  all_goals (first | (refine G.gY rfl rfl ?_; (first | refine G.v (rv_field rfl) rfl ?_ | refine G.v (rv_fieldE rfl) rfl ?_)) | refine G.gN rfl rfl rfl ?_)
  all_goals (first | (refine G.gY rfl rfl ?_; (first | refine G.v (rv_load1 0 rfl rfl rfl) rfl ?_ | refine G.v (rv_loadE rfl (by first | exact Rd.stays (by assumption) | exact Rd.owned 0 rfl) rfl rfl) rfl ?_)) | refine G.gN rfl rfl rfl ?_)
  all_goals (first | (refine G.gY rfl rfl ?_; refine G.op (og_callV rfl rfl (fun w _ => in_any _ _ _ w)) rfl (fun _ _ => ?_)) | refine G.gN rfl rfl rfl ?_)
  all_goals (first | (refine G.gY rfl rfl ?_; refine G.v (rv_not rfl) rfl ?_) | refine G.gN rfl rfl rfl ?_)
  all_goals (first | refine G.v (rv_pickT rfl rfl) rfl ?_ | refine G.v (rv_pickF rfl rfl) rfl ?_)
  all_goals refine G.v (rv_move rfl) rfl ?_
  all_goals ((with_reducible refine G.gP rfl rfl (fun hg => ?_) (fun hg => ?_)) <;> (try exact Bool.noConfusion hg) <;> (first | (refine G.gY rfl rfl ?_; (first | refine G.v (rv_field rfl) rfl ?_ | refine G.v (rv_fieldE rfl) rfl ?_)) | refine G.gN rfl rfl rfl ?_))
  all_goals (first | (refine G.gY rfl rfl ?_; (first | refine G.v (rv_load1 0 rfl rfl rfl) rfl ?_ | refine G.v (rv_loadE rfl (by first | exact Rd.stays (by assumption) | exact Rd.owned 0 rfl) rfl rfl) rfl ?_)) | refine G.gN rfl rfl rfl ?_)
  all_goals (first | (refine G.gY rfl rfl ?_; (first | refine G.v (rv_field rfl) rfl ?_ | refine G.v (rv_fieldE rfl) rfl ?_)) | refine G.gN rfl rfl rfl ?_)
  all_goals (first | (refine G.gY rfl rfl ?_; (first | refine G.v (rv_load1 0 rfl rfl rfl) rfl ?_ | refine G.v (rv_loadE rfl (by first | exact Rd.stays (by assumption) | exact Rd.owned 0 rfl) rfl rfl) rfl ?_)) | refine G.gN rfl rfl rfl ?_)
  all_goals (first | (refine G.gY rfl rfl ?_; refine G.op (og_callV rfl rfl (fun w _ => in_any _ _ _ w)) rfl (fun _ _ => ?_)) | refine G.gN rfl rfl rfl ?_)
  all_goals (first | (refine G.gY rfl rfl ?_; refine G.v (rv_not rfl) rfl ?_) | refine G.gN rfl rfl rfl ?_)
  all_goals (first | refine G.v (rv_pickT rfl rfl) rfl ?_ | refine G.v (rv_pickF rfl rfl) rfl ?_)
  all_goals refine G.v (rv_assign rfl) rfl ?_
  all_goals
   refine G.done ?_
   refine G.thenN ?_
   refine G.ret ?_
   refine G.retFV rfl rfl (congrArg Value.bool ?_); simp_all [heapOkM]
theorem stacksOk1_any (p : PalletM) (b : LayerM × Value) {q : Nat} (w : World) (h : Rd w (.slice (some ⟨q, 0, none⟩) 1 1) 4 [p.cells]) : FnV Try.prog 83 [.agg (LayerM.cells b).toArray, pB q 0] w (.bool (!heapOkM p b.1.d b.1.h b.1.g)) := by
  rw [pB_eq_pE q 4]
  refine FnV.of (n := 26) Try.func83 rfl rfl ?_
  refine G.seq ?_
  refine G.region ?_
  refine G.op (og_box rfl rfl) rfl (fun b _ => ?_)
  refine G.v (rv_assign rfl) rfl ?_
  refine G.done ?_
  refine G.thenN ?_
  refine G.seq ?_
  refine G.region ?_
  (first | refine G.v (rv_field rfl) rfl ?_ | refine G.v (rv_fieldE rfl) rfl ?_)
  (first | refine G.v (rv_load1 0 rfl rfl rfl) rfl ?_ | refine G.v (rv_loadE rfl (by first | exact Rd.stays (by assumption) | exact Rd.owned 0 rfl) rfl rfl) rfl ?_)
  (first | refine G.v (rv_field rfl) rfl ?_ | refine G.v (rv_fieldE rfl) rfl ?_)
  (first | refine G.v (rv_load1 0 rfl rfl rfl) rfl ?_ | refine G.v (rv_loadE rfl (by first | exact Rd.stays (by assumption) | exact Rd.owned 0 rfl) rfl rfl) rfl ?_)
  refine G.op (og_callV rfl rfl (fun w _ => in_any _ _ _ w)) rfl (fun _ _ => ?_)
  refine G.v (rv_not rfl) rfl ?_
  refine G.v (rv_move rfl) rfl ?_
  all_goals ((with_reducible refine G.gP rfl rfl (fun hg => ?_) (fun hg => ?_)) <;> (try exact Bool.noConfusion hg) <;> (first | (refine G.gY rfl rfl ?_; (first | refine G.v (rv_field rfl) rfl ?_ | refine G.v (rv_fieldE rfl) rfl ?_)) | refine G.gN rfl rfl rfl ?_))
  all_goals (first | (refine G.gY rfl rfl ?_; (first | refine G.v (rv_load1 0 rfl rfl rfl) rfl ?_ | refine G.v (rv_loadE rfl (by first | exact Rd.stays (by assumption) | exact Rd.owned 0 rfl) rfl rfl) rfl ?_)) | refine G.gN rfl rfl rfl ?_)
  all_goals (first | (refine G.gY rfl rfl ?_; (first | refine G.v (rv_field rfl) rfl ?_ | refine G.v (rv_fieldE rfl) rfl ?_)) | refine G.gN rfl rfl rfl ?_)
  all_goals (first | (refine G.gY rfl rfl ?_; (first | refine G.v (rv_load1 0 rfl rfl rfl) rfl ?_ | refine G.v (rv_loadE rfl (by first | exact Rd.stays (by assumption) | exact Rd.owned 0 rfl) rfl rfl) rfl ?_)) | refine G.gN rfl rfl rfl ?_)
  all_goals (first | (refine G.gY rfl rfl ?_; refine G.op (og_callV rfl rfl (fun w _ => in_any _ _ _ w)) rfl (fun _ _ => ?_)) | refine G.gN rfl rfl rfl ?_)
  all_goals (first | (refine G.gY rfl rfl ?_; refine G.v (rv_not rfl) rfl ?_) | refine G.gN rfl rfl rfl ?_)
  all_goals (first | refine G.v (rv_pickT rfl rfl) rfl ?_ | refine G.v (rv_pickF rfl rfl) rfl ?_)
  all_goals refine G.v (rv_move rfl) rfl ?_
  all_goals ((with_reducible refine G.gP rfl rfl (fun hg => ?_) (fun hg => ?_)) <;> (try exact Bool.noConfusion hg) <;> (first | (refine G.gY rfl rfl ?_; (first | refine G.v (rv_field rfl) rfl ?_ | refine G.v (rv_fieldE rfl) rfl ?_)) | refine G.gN rfl rfl rfl ?_))
  all_goals (first | (refine G.gY rfl rfl ?_; (first | refine G.v (rv_load1 0 rfl rfl rfl) rfl ?_ | refine G.v (rv_loadE rfl (by first | exact Rd.stays (by assumption) | exact Rd.owned 0 rfl) rfl rfl) rfl ?_)) | refine G.gN rfl rfl rfl ?_)
  all_goals (first | (refine G.gY rfl rfl ?_; (first | refine G.v (rv_field rfl) rfl ?_ | refine G.v (rv_fieldE rfl) rfl ?_)) | refine G.gN rfl rfl rfl ?_)
  all_goals (first | (refine G.gY rfl rfl ?_; (first | refine G.v (rv_load1 0 rfl rfl rfl) rfl ?_ | refine G.v (rv_loadE rfl (by first | exact Rd.stays (by assumption) | exact Rd.owned 0 rfl) rfl rfl) rfl ?_)) | refine G.gN rfl rfl rfl ?_)
  all_goals (first | (refine G.gY rfl rfl ?_; refine G.op (og_callV rfl rfl (fun w _ => in_any _ _ _ w)) rfl (fun _ _ => ?_)) | refine G.gN rfl rfl rfl ?_)
  all_goals (first | (refine G.gY rfl rfl ?_; refine G.v (rv_not rfl) rfl ?_) | refine G.gN rfl rfl rfl ?_)
  all_goals (first | refine G.v (rv_pickT rfl rfl) rfl ?_ | refine G.v (rv_pickF rfl rfl) rfl ?_)
  all_goals refine G.v (rv_assign rfl) rfl ?_
  all_goals
   refine G.done ?_
   refine G.thenN ?_
   refine G.ret ?_
   refine G.retFV rfl rfl (congrArg Value.bool ?_); simp_all [heapOkM]
theorem boxesOk_any (p : PalletM) {v : Value} {l : List BoxM} (w : World) (h : Rd w v 4 (l.map BoxM.cells)) : FnV Try.prog 36 [p.val, v] w (.bool (boxesOkM p l)) := by
  refine FnV.of (n := 13) Try.func36 rfl rfl ?_
  refine G.seq ?_
  refine G.region ?_
  refine G.op (og_box rfl rfl) rfl (fun b _ => ?_)
  refine G.v (rv_assign rfl) rfl ?_
  refine G.done ?_
  refine G.thenN ?_
  refine G.seq ?_
  refine G.region ?_
  (first | refine G.v (rv_loadW 0 rfl rfl rfl) rfl ?_ | refine G.v (rv_loadEW rfl (by first | exact Rd.stays (by assumption) | exact Rd.owned 0 rfl) (by assumption) rfl) rfl ?_ | refine G.v (rv_loadS 0 rfl rfl rfl rfl) rfl ?_ | refine G.v (rv_loadES rfl (by first | exact Rd.stays (by assumption) | exact Rd.owned 0 rfl) (by assumption) rfl rfl) rfl ?_)
  refine G.op (og_callV rfl rfl (fun w _ => palletOk_any _ w)) rfl (fun _ _ => ?_)
  refine G.v (rv_move rfl) rfl ?_
  all_goals ((with_reducible refine G.gP rfl rfl (fun hg => ?_) (fun hg => ?_)) <;> (try exact Bool.noConfusion hg) <;> (first | (refine G.gY rfl rfl ?_; refine G.v (rv_move rfl) rfl ?_) | refine G.gN rfl rfl rfl ?_))
  all_goals (first | (refine G.gY rfl rfl ?_; refine G.v (rv_makeFunc rfl rfl) rfl ?_) | refine G.gN rfl rfl rfl ?_)
  all_goals (first | (refine G.gY rfl rfl ?_; refine G.op (og_callV rfl rfl (fun w hh => containsBox_any w (Rd.stays h _ hh) (fun w' k b hw hb => boxesOk1_any p b w' (Rd.stays (Rd.ofBlk 0 rfl rfl w hh) w' hw)))) rfl (fun _ _ => ?_)) | refine G.gN rfl rfl rfl ?_)
  all_goals (first | (refine G.gY rfl rfl ?_; refine G.v (rv_not rfl) rfl ?_) | refine G.gN rfl rfl rfl ?_)
  all_goals (first | refine G.v (rv_pickT rfl rfl) rfl ?_ | refine G.v (rv_pickF rfl rfl) rfl ?_)
  all_goals refine G.v (rv_assign rfl) rfl ?_
  all_goals
   refine G.done ?_
   refine G.thenN ?_
   refine G.ret ?_
   refine G.retFV rfl rfl (congrArg Value.bool ?_); simp only [boxesOkM, not_any_not]; simp [*]
theorem sboxesOk_any (p : PalletM) {v : Value} {l : List BoxM} (w : World) (h : Rd w v 4 (l.map BoxM.cells)) : FnV Try.prog 35 [p.val, v] w (.bool (boxesOkM p l)) := by
  have hle := h.le_map
  have hln : (l.map BoxM.cells).length = l.length := by simp
  refine FnV.of (n := 50) Try.func35 rfl rfl ?_
  refine G.seq ?_
  refine G.region ?_
  refine G.op (og_box rfl rfl) rfl (fun b _ => ?_)
  refine G.v (rv_assign rfl) rfl ?_
  refine G.done ?_
  refine G.thenN ?_
  refine G.seq ?_
  refine G.seq ?_
  refine G.region ?_
  (first | refine G.v (rv_loadW 0 rfl rfl rfl) rfl ?_ | refine G.v (rv_loadW 1 rfl rfl rfl) rfl ?_ | refine G.v (rv_loadEW rfl (by first | exact Rd.stays (by assumption) | exact Rd.owned 0 rfl | exact Rd.owned 1 rfl) (by assumption) rfl) rfl ?_ | refine G.v (rv_loadS 0 rfl rfl rfl rfl) rfl ?_ | refine G.v (rv_loadS 1 rfl rfl rfl rfl) rfl ?_ | refine G.v (rv_loadES rfl (by first | exact Rd.stays (by assumption) | exact Rd.owned 0 rfl | exact Rd.owned 1 rfl) (by assumption) rfl rfl) rfl ?_)
  refine G.op (og_callV rfl rfl (fun w _ => spalletOk_any _ w)) rfl (fun _ _ => ?_)
  refine G.v (rv_not rfl) rfl ?_
  refine G.done ?_
  refine G.thenN ?_
  refine G.cond rfl (fun hc => ?_) (fun hc => ?_)
  · try exact Bool.noConfusion hc
    all_goals
     try replace hc := of_decide_eq_true hc
     try (exfalso; first | contradiction | omega)
     all_goals
      refine G.seq ?_
      refine G.region ?_
      refine G.v (rv_assign rfl) rfl ?_
      refine G.done ?_
      refine G.thenN ?_
      refine G.ret ?_
      refine G.thenR ?_
      first | exact G.retFV rfl rfl (congrArg Value.bool (okOut hc)) | exact G.retFV rfl rfl (congrArg Value.bool (okEnd hpo ht hlt)) | exact G.retFV rfl rfl (congrArg Value.bool (okNo (f := boxOkM p) hb (by (simp_all [boxOkM]; done))))
  · try exact Bool.noConfusion hc
    all_goals
     try replace hc := of_decide_eq_false hc
     try (exfalso; first | contradiction | omega)
     all_goals
      refine G.skip ?_
      refine G.thenN ?_
      refine G.seq ?_
      refine G.seq ?_
      refine G.region ?_
      refine G.v (rv_assign rfl) rfl ?_
      refine G.done ?_
      refine G.thenN ?_
      refine G.block ?_
      -- loop 0: turned [5], kept [1, 2]
      have hpo : palletOkM p = true := by simpa using hc
      refine G.loopK (ι := Nat) (ks := [1, 2]) (fun k => [(5, .int .i64 k)]) (fun _ => []) (fun k => k ≤ l.length ∧ (l.take k).all (boxOkM p) = true) (fun k => l.length - k) 0 (.cons rfl (.cons rfl (.nil))) rfl ?_ ?_ ?_
      · exact ⟨Nat.zero_le _, rfl⟩
      · exact ⟨rfl, trivial⟩
      rintro k ⟨hk, ht⟩
      by_cases hlt : k < l.length
      case' pos => (obtain ⟨b, hb⟩ := get_of_lt hlt; have he := get_map hb BoxM.cells)
      all_goals
       refine G.seq ?_
       refine G.seq ?_
       refine G.region ?_
       refine G.v (rv_move rfl) rfl ?_
       refine G.v (rv_move rfl) rfl ?_
       refine G.v (rv_len rfl (by first | exact Rd.stays (by assumption) | exact Rd.owned 0 rfl | exact Rd.owned 1 rfl)) rfl ?_
       refine G.v (rv_lss rfl rfl) rfl ?_
       refine G.done ?_
       refine G.thenN ?_
       refine G.cond rfl (fun hc => ?_) (fun hc => ?_)
       · try exact Bool.noConfusion hc
         all_goals
          try replace hc := of_decide_eq_true hc
          try (exfalso; first | contradiction | omega)
          all_goals
           refine G.skip ?_
           refine G.thenN ?_
           refine G.seq ?_
           refine G.block ?_
           refine G.seq ?_
           refine G.region ?_
           refine G.v (rv_move rfl) rfl ?_
           refine G.v (rv_move rfl) rfl ?_
           (first | refine G.v (rv_indexH rfl rfl (by first | exact Rd.stays (by assumption) | exact Rd.owned 0 rfl | exact Rd.owned 1 rfl) rfl (by assumption)) rfl ?_ | refine G.v (rv_index rfl rfl (by first | exact Rd.stays (by assumption) | exact Rd.owned 0 rfl | exact Rd.owned 1 rfl) rfl (by assumption)) rfl ?_)
           (first | refine G.v (rv_loadW 0 rfl rfl rfl) rfl ?_ | refine G.v (rv_loadW 1 rfl rfl rfl) rfl ?_ | refine G.v (rv_loadEW rfl (by first | exact Rd.stays (by assumption) | exact Rd.owned 0 rfl | exact Rd.owned 1 rfl) (by assumption) rfl) rfl ?_ | refine G.v (rv_loadS 0 rfl rfl rfl rfl) rfl ?_ | refine G.v (rv_loadS 1 rfl rfl rfl rfl) rfl ?_ | refine G.v (rv_loadES rfl (by first | exact Rd.stays (by assumption) | exact Rd.owned 0 rfl | exact Rd.owned 1 rfl) (by assumption) rfl rfl) rfl ?_)
           refine G.op (og_alloc) rfl (fun b _ => ?_)
           (first | refine G.op0 (og_store 0 rfl rfl rfl rfl rfl rfl rfl rfl) (fun _ _ => ?_) | refine G.op0 (og_store 1 rfl rfl rfl rfl rfl rfl rfl rfl) (fun _ _ => ?_) | refine G.op0 (og_storeE 0 rfl rfl rfl (by assumption) rfl rfl rfl rfl rfl) (fun _ _ => ?_) | refine G.op0 (og_storeE 1 rfl rfl rfl (by assumption) rfl rfl rfl rfl rfl) (fun _ _ => ?_))
           refine G.done ?_
           refine G.thenN ?_
           refine G.seq ?_
           refine G.region ?_
           (first | refine G.v (rv_field rfl) rfl ?_ | refine G.v (rv_fieldE rfl) rfl ?_)
           (first | refine G.v (rv_load1 0 rfl rfl rfl) rfl ?_ | refine G.v (rv_load1 1 rfl rfl rfl) rfl ?_ | refine G.v (rv_loadE rfl (by first | exact Rd.stays (by assumption) | exact Rd.owned 0 rfl | exact Rd.owned 1 rfl) (by assumption) rfl) rfl ?_)
           (first | refine G.v (rv_field rfl) rfl ?_ | refine G.v (rv_fieldE rfl) rfl ?_)
           (first | refine G.v (rv_load1 0 rfl rfl rfl) rfl ?_ | refine G.v (rv_load1 1 rfl rfl rfl) rfl ?_ | refine G.v (rv_loadE rfl (by first | exact Rd.stays (by assumption) | exact Rd.owned 0 rfl | exact Rd.owned 1 rfl) (by assumption) rfl) rfl ?_)
           refine G.op (og_callV rfl rfl (fun w _ => l1In_any _ _ _ w)) rfl (fun _ _ => ?_)
           refine G.v (rv_not rfl) rfl ?_
           refine G.v (rv_move rfl) rfl ?_
           all_goals ((with_reducible refine G.gP rfl rfl (fun hg => ?_) (fun hg => ?_)) <;> (try exact Bool.noConfusion hg) <;> (first | (refine G.gY rfl rfl ?_; (first | refine G.v (rv_field rfl) rfl ?_ | refine G.v (rv_fieldE rfl) rfl ?_)) | refine G.gN rfl rfl rfl ?_))
           all_goals (first | (refine G.gY rfl rfl ?_; (first | refine G.v (rv_load1 0 rfl rfl rfl) rfl ?_ | refine G.v (rv_load1 1 rfl rfl rfl) rfl ?_ | refine G.v (rv_loadE rfl (by first | exact Rd.stays (by assumption) | exact Rd.owned 0 rfl | exact Rd.owned 1 rfl) (by assumption) rfl) rfl ?_)) | refine G.gN rfl rfl rfl ?_)
           all_goals (first | (refine G.gY rfl rfl ?_; (first | refine G.v (rv_field rfl) rfl ?_ | refine G.v (rv_fieldE rfl) rfl ?_)) | refine G.gN rfl rfl rfl ?_)
           all_goals (first | (refine G.gY rfl rfl ?_; (first | refine G.v (rv_load1 0 rfl rfl rfl) rfl ?_ | refine G.v (rv_load1 1 rfl rfl rfl) rfl ?_ | refine G.v (rv_loadE rfl (by first | exact Rd.stays (by assumption) | exact Rd.owned 0 rfl | exact Rd.owned 1 rfl) (by assumption) rfl) rfl ?_)) | refine G.gN rfl rfl rfl ?_)
           all_goals (first | (refine G.gY rfl rfl ?_; refine G.op (og_callV rfl rfl (fun w _ => l1In_any _ _ _ w)) rfl (fun _ _ => ?_)) | refine G.gN rfl rfl rfl ?_)
           all_goals (first | (refine G.gY rfl rfl ?_; refine G.v (rv_not rfl) rfl ?_) | refine G.gN rfl rfl rfl ?_)
           all_goals (first | refine G.v (rv_pickT rfl rfl) rfl ?_ | refine G.v (rv_pickF rfl rfl) rfl ?_)
           all_goals refine G.v (rv_move rfl) rfl ?_
           all_goals ((with_reducible refine G.gP rfl rfl (fun hg => ?_) (fun hg => ?_)) <;> (try exact Bool.noConfusion hg) <;> (first | (refine G.gY rfl rfl ?_; (first | refine G.v (rv_field rfl) rfl ?_ | refine G.v (rv_fieldE rfl) rfl ?_)) | refine G.gN rfl rfl rfl ?_))
           all_goals (first | (refine G.gY rfl rfl ?_; (first | refine G.v (rv_load1 0 rfl rfl rfl) rfl ?_ | refine G.v (rv_load1 1 rfl rfl rfl) rfl ?_ | refine G.v (rv_loadE rfl (by first | exact Rd.stays (by assumption) | exact Rd.owned 0 rfl | exact Rd.owned 1 rfl) (by assumption) rfl) rfl ?_)) | refine G.gN rfl rfl rfl ?_)
           all_goals (first | (refine G.gY rfl rfl ?_; (first | refine G.v (rv_field rfl) rfl ?_ | refine G.v (rv_fieldE rfl) rfl ?_)) | refine G.gN rfl rfl rfl ?_)
           all_goals (first | (refine G.gY rfl rfl ?_; (first | refine G.v (rv_load1 0 rfl rfl rfl) rfl ?_ | refine G.v (rv_load1 1 rfl rfl rfl) rfl ?_ | refine G.v (rv_loadE rfl (by first | exact Rd.stays (by assumption) | exact Rd.owned 0 rfl | exact Rd.owned 1 rfl) (by assumption) rfl) rfl ?_)) | refine G.gN rfl rfl rfl ?_)
           all_goals (first | (refine G.gY rfl rfl ?_; refine G.op (og_callV rfl rfl (fun w _ => l1In_any _ _ _ w)) rfl (fun _ _ => ?_)) | refine G.gN rfl rfl rfl ?_)
           all_goals (first | (refine G.gY rfl rfl ?_; refine G.v (rv_not rfl) rfl ?_) | refine G.gN rfl rfl rfl ?_)
           all_goals (first | refine G.v (rv_pickT rfl rfl) rfl ?_ | refine G.v (rv_pickF rfl rfl) rfl ?_)
           all_goals refine G.v (rv_move rfl) rfl ?_
           all_goals ((with_reducible refine G.gP rfl rfl (fun hg => ?_) (fun hg => ?_)) <;> (try exact Bool.noConfusion hg) <;> (first | (refine G.gY rfl rfl ?_; (first | refine G.v (rv_field rfl) rfl ?_ | refine G.v (rv_fieldE rfl) rfl ?_)) | refine G.gN rfl rfl rfl ?_))
           all_goals (first | (refine G.gY rfl rfl ?_; (first | refine G.v (rv_load1 0 rfl rfl rfl) rfl ?_ | refine G.v (rv_load1 1 rfl rfl rfl) rfl ?_ | refine G.v (rv_loadE rfl (by first | exact Rd.stays (by assumption) | exact Rd.owned 0 rfl | exact Rd.owned 1 rfl) (by assumption) rfl) rfl ?_)) | refine G.gN rfl rfl rfl ?_)
           all_goals (first | (refine G.gY rfl rfl ?_; (first | refine G.v (rv_field rfl) rfl ?_ | refine G.v (rv_fieldE rfl) rfl ?_)) | refine G.gN rfl rfl rfl ?_)
           all_goals (first | (refine G.gY rfl rfl ?_; (first | refine G.v (rv_load1 0 rfl rfl rfl) rfl ?_ | refine G.v (rv_load1 1 rfl rfl rfl) rfl ?_ | refine G.v (rv_loadE rfl (by first | exact Rd.stays (by assumption) | exact Rd.owned 0 rfl | exact Rd.owned 1 rfl) (by assumption) rfl) rfl ?_)) | refine G.gN rfl rfl rfl ?_)
           all_goals (first | (refine G.gY rfl rfl ?_; refine G.op (og_callV rfl rfl (fun w _ => l1In_any _ _ _ w)) rfl (fun _ _ => ?_)) | refine G.gN rfl rfl rfl ?_)
           all_goals (first | (refine G.gY rfl rfl ?_; refine G.v (rv_not rfl) rfl ?_) | refine G.gN rfl rfl rfl ?_)
           all_goals (first | refine G.v (rv_pickT rfl rfl) rfl ?_ | refine G.v (rv_pickF rfl rfl) rfl ?_)
           all_goals
            refine G.done ?_
            refine G.thenN ?_
            refine G.cond rfl (fun hc => ?_) (fun hc => ?_)
            · try exact Bool.noConfusion hc
              all_goals
               try replace hc := of_decide_eq_true hc
               try (exfalso; first | contradiction | omega)
               all_goals
                refine G.seq ?_
                refine G.region ?_
                refine G.v (rv_assign rfl) rfl ?_
                refine G.done ?_
                refine G.thenN ?_
                refine G.ret ?_
                refine G.inR ?_
                refine G.thenR ?_
                refine G.thenR ?_
                refine G.inR ?_
                refine G.thenR ?_
                first | exact G.retFV rfl rfl (congrArg Value.bool (okOut hc)) | exact G.retFV rfl rfl (congrArg Value.bool (okEnd hpo ht hlt)) | exact G.retFV rfl rfl (congrArg Value.bool (okNo (f := boxOkM p) hb (by (simp_all [boxOkM]; done))))
            · try exact Bool.noConfusion hc
              all_goals
               try replace hc := of_decide_eq_false hc
               try (exfalso; first | contradiction | omega)
               all_goals
                refine G.skip ?_
                refine G.inN ?_
                refine G.thenN ?_
                refine G.region ?_
                refine G.v (rv_move rfl) rfl ?_
                (first | refine G.v (rv_incr rfl rfl (by omega)) rfl ?_ | refine G.v (rv_addB rfl rfl (by omega) (by omega)) rfl ?_)
                refine G.v (rv_assign rfl) rfl ?_
                refine G.done ?_
                first | refine G.backK (k + 1) 0 rfl (.cons rfl (.cons rfl (.nil))) ?_ ?_ ?_ | refine G.backK (k + 1) 1 rfl (.cons rfl (.cons rfl (.nil))) ?_ ?_ ?_ | refine G.backK (k + 1) 2 rfl (.cons rfl (.cons rfl (.nil))) ?_ ?_ ?_ | refine G.backK (k + 1) 3 rfl (.cons rfl (.cons rfl (.nil))) ?_ ?_ ?_
                · exact ⟨rfl, trivial⟩
                · exact ⟨hlt, all_next ht hb (by (simp_all [boxOkM]; done))⟩
                · omega
       · try exact Bool.noConfusion hc
         all_goals
          try replace hc := of_decide_eq_false hc
          try (exfalso; first | contradiction | omega)
          all_goals
           refine G.exit ?_
           refine G.thenX ?_
           refine G.thenX ?_
           refine G.inX ?_
           refine G.thenN ?_
           refine G.seq ?_
           refine G.region ?_
           refine G.v (rv_assign rfl) rfl ?_
           refine G.done ?_
           refine G.thenN ?_
           refine G.ret ?_
           first | exact G.retFV rfl rfl (congrArg Value.bool (okOut hc)) | exact G.retFV rfl rfl (congrArg Value.bool (okEnd hpo ht hlt)) | exact G.retFV rfl rfl (congrArg Value.bool (okNo (f := boxOkM p) hb (by (simp_all [boxOkM]; done))))
theorem l11Ok_any (p : PalletM) (d h g : Int) (w : World) : FnV Try.prog 80 [p.val, .int .i64 d, .int .i64 h, .int .i64 g] w (.bool (heapOkM p d h g)) := by
  refine FnV.of (n := 25) Try.func80 rfl rfl ?_
  refine G.seq ?_
  refine G.region ?_
  refine G.op (og_box rfl rfl) rfl (fun b _ => ?_)
  refine G.v (rv_assign rfl) rfl ?_
  refine G.done ?_
  refine G.thenN ?_
  refine G.seq ?_
  refine G.region ?_
  refine G.v (rv_move rfl) rfl ?_
  (first | refine G.v (rv_field rfl) rfl ?_ | refine G.v (rv_fieldE rfl) rfl ?_)
  (first | refine G.v (rv_load1 0 rfl rfl rfl) rfl ?_ | refine G.v (rv_loadE rfl (by first | exact Rd.stays (by assumption) | exact Rd.owned 0 rfl) (by assumption) rfl) rfl ?_)
  refine G.op (og_callV rfl rfl (fun w _ => l1In_any _ _ _ w)) rfl (fun _ _ => ?_)
  refine G.v (rv_move rfl) rfl ?_
  all_goals ((with_reducible refine G.gP rfl rfl (fun hg => ?_) (fun hg => ?_)) <;> (try exact Bool.noConfusion hg) <;> (first | (refine G.gY rfl rfl ?_; refine G.v (rv_move rfl) rfl ?_) | refine G.gN rfl rfl rfl ?_))
  all_goals (first | (refine G.gY rfl rfl ?_; (first | refine G.v (rv_field rfl) rfl ?_ | refine G.v (rv_fieldE rfl) rfl ?_)) | refine G.gN rfl rfl rfl ?_)
  all_goals (first | (refine G.gY rfl rfl ?_; (first | refine G.v (rv_load1 0 rfl rfl rfl) rfl ?_ | refine G.v (rv_loadE rfl (by first | exact Rd.stays (by assumption) | exact Rd.owned 0 rfl) (by assumption) rfl) rfl ?_)) | refine G.gN rfl rfl rfl ?_)
  all_goals (first | (refine G.gY rfl rfl ?_; refine G.op (og_callV rfl rfl (fun w _ => l1In_any _ _ _ w)) rfl (fun _ _ => ?_)) | refine G.gN rfl rfl rfl ?_)
  all_goals (first | refine G.v (rv_pickT rfl rfl) rfl ?_ | refine G.v (rv_pickF rfl rfl) rfl ?_)
  all_goals refine G.v (rv_move rfl) rfl ?_
  all_goals ((with_reducible refine G.gP rfl rfl (fun hg => ?_) (fun hg => ?_)) <;> (try exact Bool.noConfusion hg) <;> (first | (refine G.gY rfl rfl ?_; refine G.v (rv_move rfl) rfl ?_) | refine G.gN rfl rfl rfl ?_))
  all_goals (first | (refine G.gY rfl rfl ?_; (first | refine G.v (rv_field rfl) rfl ?_ | refine G.v (rv_fieldE rfl) rfl ?_)) | refine G.gN rfl rfl rfl ?_)
  all_goals (first | (refine G.gY rfl rfl ?_; (first | refine G.v (rv_load1 0 rfl rfl rfl) rfl ?_ | refine G.v (rv_loadE rfl (by first | exact Rd.stays (by assumption) | exact Rd.owned 0 rfl) (by assumption) rfl) rfl ?_)) | refine G.gN rfl rfl rfl ?_)
  all_goals (first | (refine G.gY rfl rfl ?_; refine G.op (og_callV rfl rfl (fun w _ => l1In_any _ _ _ w)) rfl (fun _ _ => ?_)) | refine G.gN rfl rfl rfl ?_)
  all_goals (first | refine G.v (rv_pickT rfl rfl) rfl ?_ | refine G.v (rv_pickF rfl rfl) rfl ?_)
  all_goals refine G.v (rv_assign rfl) rfl ?_
  all_goals
   refine G.done ?_
   refine G.thenN ?_
   refine G.ret ?_
   refine G.retFV rfl rfl (congrArg Value.bool ?_); simp_all [heapOkM]
theorem implShelvesOk_any (p : PalletM) {v : Value} {l : List (ShelfM × Value)} (w : World) (h : Rd w v 5 (l.map ShelfM.cells)) : FnV Try.prog 48 [p.val, v] w (.bool (palletOkM p && (l.map Prod.fst).all fun s => heapOkM p s.d s.h s.g)) := by
  refine FnV.of (n := 13) Try.func48 rfl rfl ?_
  refine G.seq ?_
  refine G.region ?_
  refine G.op (og_box rfl rfl) rfl (fun b _ => ?_)
  refine G.v (rv_assign rfl) rfl ?_
  refine G.done ?_
  refine G.thenN ?_
  refine G.seq ?_
  refine G.region ?_
  (first | refine G.v (rv_loadW 0 rfl rfl rfl) rfl ?_ | refine G.v (rv_loadEW rfl (by first | exact Rd.stays (by assumption) | exact Rd.owned 0 rfl) (by assumption) rfl) rfl ?_ | refine G.v (rv_loadS 0 rfl rfl rfl rfl) rfl ?_ | refine G.v (rv_loadES rfl (by first | exact Rd.stays (by assumption) | exact Rd.owned 0 rfl) (by assumption) rfl rfl) rfl ?_)
  refine G.op (og_callV rfl rfl (fun w _ => palletOk_any _ w)) rfl (fun _ _ => ?_)
  refine G.v (rv_move rfl) rfl ?_
  all_goals ((with_reducible refine G.gP rfl rfl (fun hg => ?_) (fun hg => ?_)) <;> (try exact Bool.noConfusion hg) <;> (first | (refine G.gY rfl rfl ?_; refine G.v (rv_move rfl) rfl ?_) | refine G.gN rfl rfl rfl ?_))
  all_goals (first | (refine G.gY rfl rfl ?_; refine G.v (rv_makeFunc rfl rfl) rfl ?_) | refine G.gN rfl rfl rfl ?_)
  all_goals (first | (refine G.gY rfl rfl ?_; refine G.op (og_callV rfl rfl (fun w hh => containsShelf_any w (Rd.stays h _ hh) (fun w' k b hw hb => shelvesOk1_any p b w' (Rd.stays (Rd.ofBlk 0 rfl rfl w hh) w' hw)))) rfl (fun _ _ => ?_)) | refine G.gN rfl rfl rfl ?_)
  all_goals (first | (refine G.gY rfl rfl ?_; refine G.v (rv_not rfl) rfl ?_) | refine G.gN rfl rfl rfl ?_)
  all_goals (first | refine G.v (rv_pickT rfl rfl) rfl ?_ | refine G.v (rv_pickF rfl rfl) rfl ?_)
  all_goals refine G.v (rv_assign rfl) rfl ?_
  all_goals
   refine G.done ?_
   refine G.thenN ?_
   refine G.ret ?_
   refine G.retFV rfl rfl (congrArg Value.bool ?_); simp only [not_any_not, List.all_map]; simp [*]; (try rfl)
theorem specShelvesOk_any (p : PalletM) {v : Value} {l : List (ShelfM × Value)} (w : World) (h : Rd w v 5 (l.map ShelfM.cells)) : FnV Try.prog 47 [p.val, v] w (.bool (palletOkM p && (l.map Prod.fst).all fun s => heapOkM p s.d s.h s.g)) := by
  have hle := h.le_map
  have hln : (l.map ShelfM.cells).length = l.length := by simp
  rw [List.all_map]
  refine FnV.of (n := 33) Try.func47 rfl rfl ?_
  refine G.seq ?_
  refine G.region ?_
  refine G.op (og_box rfl rfl) rfl (fun b _ => ?_)
  refine G.v (rv_assign rfl) rfl ?_
  refine G.done ?_
  refine G.thenN ?_
  refine G.seq ?_
  refine G.seq ?_
  refine G.region ?_
  (first | refine G.v (rv_loadW 0 rfl rfl rfl) rfl ?_ | refine G.v (rv_loadW 1 rfl rfl rfl) rfl ?_ | refine G.v (rv_loadEW rfl (by first | exact Rd.stays (by assumption) | exact Rd.owned 0 rfl | exact Rd.owned 1 rfl) (by assumption) rfl) rfl ?_ | refine G.v (rv_loadS 0 rfl rfl rfl rfl) rfl ?_ | refine G.v (rv_loadS 1 rfl rfl rfl rfl) rfl ?_ | refine G.v (rv_loadES rfl (by first | exact Rd.stays (by assumption) | exact Rd.owned 0 rfl | exact Rd.owned 1 rfl) (by assumption) rfl rfl) rfl ?_)
  refine G.op (og_callV rfl rfl (fun w _ => spalletOk_any _ w)) rfl (fun _ _ => ?_)
  refine G.v (rv_not rfl) rfl ?_
  refine G.done ?_
  refine G.thenN ?_
  refine G.cond rfl (fun hc => ?_) (fun hc => ?_)
  · try exact Bool.noConfusion hc
    all_goals
     try replace hc := of_decide_eq_true hc
     try (exfalso; first | contradiction | omega)
     all_goals
      refine G.seq ?_
      refine G.region ?_
      refine G.v (rv_assign rfl) rfl ?_
      refine G.done ?_
      refine G.thenN ?_
      refine G.ret ?_
      refine G.thenR ?_
      first | exact G.retFV rfl rfl (congrArg Value.bool (okOut hc)) | exact G.retFV rfl rfl (congrArg Value.bool (okEnd hpo ht hlt)) | exact G.retFV rfl rfl (congrArg Value.bool (okNo (f := (fun s => heapOkM p s.d s.h s.g) ∘ Prod.fst) hb (by (simpa using hc))))
  · try exact Bool.noConfusion hc
    all_goals
     try replace hc := of_decide_eq_false hc
     try (exfalso; first | contradiction | omega)
     all_goals
      refine G.skip ?_
      refine G.thenN ?_
      refine G.seq ?_
      refine G.seq ?_
      refine G.region ?_
      refine G.v (rv_assign rfl) rfl ?_
      refine G.done ?_
      refine G.thenN ?_
      refine G.block ?_
      -- loop 0: turned [5], kept [1, 2]
      have hpo : palletOkM p = true := by simpa using hc
      refine G.loopK (ι := Nat) (ks := [1, 2]) (fun k => [(5, .int .i64 k)]) (fun _ => []) (fun k => k ≤ l.length ∧ (l.take k).all ((fun s => heapOkM p s.d s.h s.g) ∘ Prod.fst) = true) (fun k => l.length - k) 0 (.cons rfl (.cons rfl (.nil))) rfl ?_ ?_ ?_
      · exact ⟨Nat.zero_le _, rfl⟩
      · exact ⟨rfl, trivial⟩
      rintro k ⟨hk, ht⟩
      by_cases hlt : k < l.length
      case' pos => (obtain ⟨b, hb⟩ := get_of_lt hlt; have he := get_map hb ShelfM.cells)
      all_goals
       refine G.seq ?_
       refine G.seq ?_
       refine G.region ?_
       refine G.v (rv_move rfl) rfl ?_
       refine G.v (rv_move rfl) rfl ?_
       refine G.v (rv_len rfl (by first | exact Rd.stays (by assumption) | exact Rd.owned 0 rfl | exact Rd.owned 1 rfl)) rfl ?_
       refine G.v (rv_lss rfl rfl) rfl ?_
       refine G.done ?_
       refine G.thenN ?_
       refine G.cond rfl (fun hc => ?_) (fun hc => ?_)
       · try exact Bool.noConfusion hc
         all_goals
          try replace hc := of_decide_eq_true hc
          try (exfalso; first | contradiction | omega)
          all_goals
           refine G.skip ?_
           refine G.thenN ?_
           refine G.seq ?_
           refine G.block ?_
           refine G.seq ?_
           refine G.drawL [] ?_
           (first | refine GE.q 0 rfl (by kernel_rfl) rfl (qg_runs (rv_loadW 0 rfl rfl rfl)) rfl ?_ | refine GE.q 0 rfl (by kernel_rfl) rfl (qg_runs (rv_loadW 1 rfl rfl rfl)) rfl ?_ | refine GE.q 0 rfl (by kernel_rfl) rfl (qg_runs (rv_loadEW rfl (by first | exact Rd.stays (by assumption) | exact Rd.owned 0 rfl | exact Rd.owned 1 rfl) (by assumption) rfl)) rfl ?_ | refine GE.q 0 rfl (by kernel_rfl) rfl (qg_runs (rv_loadS 0 rfl rfl rfl rfl)) rfl ?_ | refine GE.q 0 rfl (by kernel_rfl) rfl (qg_runs (rv_loadS 1 rfl rfl rfl rfl)) rfl ?_ | refine GE.q 0 rfl (by kernel_rfl) rfl (qg_runs (rv_loadES rfl (by first | exact Rd.stays (by assumption) | exact Rd.owned 0 rfl | exact Rd.owned 1 rfl) (by assumption) rfl rfl)) rfl ?_)
           refine GE.q 1 rfl (by kernel_rfl) rfl (qg_runs (rv_move rfl)) rfl ?_
           refine GE.q 2 rfl (by kernel_rfl) rfl (qg_runs (rv_move rfl)) rfl ?_
           (first | refine GE.q 3 rfl (by kernel_rfl) rfl (qg_runs (rv_indexH rfl rfl (by first | exact Rd.stays (by assumption) | exact Rd.owned 0 rfl | exact Rd.owned 1 rfl) rfl (by assumption))) rfl ?_ | refine GE.q 3 rfl (by kernel_rfl) rfl (qg_runs (rv_index rfl rfl (by first | exact Rd.stays (by assumption) | exact Rd.owned 0 rfl | exact Rd.owned 1 rfl) rfl (by assumption))) rfl ?_)
           (first | refine GE.q 4 rfl (by kernel_rfl) rfl (qg_runs (rv_field rfl)) rfl ?_ | refine GE.q 4 rfl (by kernel_rfl) rfl (qg_runs (rv_fieldE rfl)) rfl ?_)
           (first | refine GE.q 5 rfl (by kernel_rfl) rfl (qg_runs (rv_load1 0 rfl rfl rfl)) rfl ?_ | refine GE.q 5 rfl (by kernel_rfl) rfl (qg_runs (rv_load1 1 rfl rfl rfl)) rfl ?_ | refine GE.q 5 rfl (by kernel_rfl) rfl (qg_runs (rv_loadE rfl (by first | exact Rd.stays (by assumption) | exact Rd.owned 0 rfl | exact Rd.owned 1 rfl) (by assumption) rfl)) rfl ?_)
           refine GE.q 6 rfl (by kernel_rfl) rfl (qg_runs (rv_move rfl)) rfl ?_
           refine GE.q 7 rfl (by kernel_rfl) rfl (qg_runs (rv_move rfl)) rfl ?_
           (first | refine GE.q 8 rfl (by kernel_rfl) rfl (qg_runs (rv_indexH rfl rfl (by first | exact Rd.stays (by assumption) | exact Rd.owned 0 rfl | exact Rd.owned 1 rfl) rfl (by assumption))) rfl ?_ | refine GE.q 8 rfl (by kernel_rfl) rfl (qg_runs (rv_index rfl rfl (by first | exact Rd.stays (by assumption) | exact Rd.owned 0 rfl | exact Rd.owned 1 rfl) rfl (by assumption))) rfl ?_)
           (first | refine GE.q 9 rfl (by kernel_rfl) rfl (qg_runs (rv_field rfl)) rfl ?_ | refine GE.q 9 rfl (by kernel_rfl) rfl (qg_runs (rv_fieldE rfl)) rfl ?_)
           (first | refine GE.q 10 rfl (by kernel_rfl) rfl (qg_runs (rv_load1 0 rfl rfl rfl)) rfl ?_ | refine GE.q 10 rfl (by kernel_rfl) rfl (qg_runs (rv_load1 1 rfl rfl rfl)) rfl ?_ | refine GE.q 10 rfl (by kernel_rfl) rfl (qg_runs (rv_loadE rfl (by first | exact Rd.stays (by assumption) | exact Rd.owned 0 rfl | exact Rd.owned 1 rfl) (by assumption) rfl)) rfl ?_)
           refine GE.q 11 rfl (by kernel_rfl) rfl (qg_runs (rv_move rfl)) rfl ?_
           refine GE.q 12 rfl (by kernel_rfl) rfl (qg_runs (rv_move rfl)) rfl ?_
           (first | refine GE.q 13 rfl (by kernel_rfl) rfl (qg_runs (rv_indexH rfl rfl (by first | exact Rd.stays (by assumption) | exact Rd.owned 0 rfl | exact Rd.owned 1 rfl) rfl (by assumption))) rfl ?_ | refine GE.q 13 rfl (by kernel_rfl) rfl (qg_runs (rv_index rfl rfl (by first | exact Rd.stays (by assumption) | exact Rd.owned 0 rfl | exact Rd.owned 1 rfl) rfl (by assumption))) rfl ?_)
           (first | refine GE.q 14 rfl (by kernel_rfl) rfl (qg_runs (rv_field rfl)) rfl ?_ | refine GE.q 14 rfl (by kernel_rfl) rfl (qg_runs (rv_fieldE rfl)) rfl ?_)
           (first | refine GE.q 15 rfl (by kernel_rfl) rfl (qg_runs (rv_load1 0 rfl rfl rfl)) rfl ?_ | refine GE.q 15 rfl (by kernel_rfl) rfl (qg_runs (rv_load1 1 rfl rfl rfl)) rfl ?_ | refine GE.q 15 rfl (by kernel_rfl) rfl (qg_runs (rv_loadE rfl (by first | exact Rd.stays (by assumption) | exact Rd.owned 0 rfl | exact Rd.owned 1 rfl) (by assumption) rfl)) rfl ?_)
           refine GE.q 16 rfl (by kernel_rfl) rfl (qg_call rfl rfl (fun w _ => l11Ok_any _ _ _ _ w)) rfl ?_
           refine GE.q 17 rfl (by kernel_rfl) rfl (qg_runs (rv_not rfl)) rfl ?_
           refine GE.done (by kernel_rfl) ?_
           refine G.thenN ?_
           refine G.cond rfl (fun hc => ?_) (fun hc => ?_)
           · try exact Bool.noConfusion hc
             all_goals
              try replace hc := of_decide_eq_true hc
              try (exfalso; first | contradiction | omega)
              all_goals
               refine G.seq ?_
               refine G.region ?_
               refine G.v (rv_assign rfl) rfl ?_
               refine G.done ?_
               refine G.thenN ?_
               refine G.ret ?_
               refine G.inR ?_
               refine G.thenR ?_
               refine G.thenR ?_
               refine G.inR ?_
               refine G.thenR ?_
               first | exact G.retFV rfl rfl (congrArg Value.bool (okOut hc)) | exact G.retFV rfl rfl (congrArg Value.bool (okEnd hpo ht hlt)) | exact G.retFV rfl rfl (congrArg Value.bool (okNo (f := (fun s => heapOkM p s.d s.h s.g) ∘ Prod.fst) hb (by (simpa using hc))))
           · try exact Bool.noConfusion hc
             all_goals
              try replace hc := of_decide_eq_false hc
              try (exfalso; first | contradiction | omega)
              all_goals
               refine G.skip ?_
               refine G.inN ?_
               refine G.thenN ?_
               refine G.region ?_
               refine G.v (rv_move rfl) rfl ?_
               (first | refine G.v (rv_incr rfl rfl (by omega)) rfl ?_ | refine G.v (rv_addB rfl rfl (by omega) (by omega)) rfl ?_)
               refine G.v (rv_assign rfl) rfl ?_
               refine G.done ?_
               first | refine G.backK (k + 1) 0 rfl (.cons rfl (.cons rfl (.nil))) ?_ ?_ ?_ | refine G.backK (k + 1) 1 rfl (.cons rfl (.cons rfl (.nil))) ?_ ?_ ?_ | refine G.backK (k + 1) 2 rfl (.cons rfl (.cons rfl (.nil))) ?_ ?_ ?_ | refine G.backK (k + 1) 3 rfl (.cons rfl (.cons rfl (.nil))) ?_ ?_ ?_
               · exact ⟨rfl, trivial⟩
               · exact ⟨hlt, all_next ht hb (by simpa using hc)⟩
               · omega
       · try exact Bool.noConfusion hc
         all_goals
          try replace hc := of_decide_eq_false hc
          try (exfalso; first | contradiction | omega)
          all_goals
           refine G.exit ?_
           refine G.thenX ?_
           refine G.thenX ?_
           refine G.inX ?_
           refine G.thenN ?_
           refine G.seq ?_
           refine G.region ?_
           refine G.v (rv_assign rfl) rfl ?_
           refine G.done ?_
           refine G.thenN ?_
           refine G.ret ?_
           first | exact G.retFV rfl rfl (congrArg Value.bool (okOut hc)) | exact G.retFV rfl rfl (congrArg Value.bool (okEnd hpo ht hlt)) | exact G.retFV rfl rfl (congrArg Value.bool (okNo (f := (fun s => heapOkM p s.d s.h s.g) ∘ Prod.fst) hb (by (simpa using hc))))

theorem implStacksOk_any (p : PalletM) {v : Value} {l : List (LayerM × Value)} (w : World) (h : Rd w v 4 (l.map LayerM.cells)) : FnV Try.prog 45 [p.val, v] w (.bool (palletOkM p && (l.map Prod.fst).all fun s => heapOkM p s.d s.h s.g)) := by
  refine FnV.of (n := 13) Try.func45 rfl rfl ?_
  refine G.seq ?_
  refine G.region ?_
  refine G.op (og_box rfl rfl) rfl (fun b _ => ?_)
  refine G.v (rv_assign rfl) rfl ?_
  refine G.done ?_
  refine G.thenN ?_
  refine G.seq ?_
  refine G.region ?_
  (first | refine G.v (rv_loadW 0 rfl rfl rfl) rfl ?_ | refine G.v (rv_loadEW rfl (by first | exact Rd.stays (by assumption) | exact Rd.owned 0 rfl) (by assumption) rfl) rfl ?_ | refine G.v (rv_loadS 0 rfl rfl rfl rfl) rfl ?_ | refine G.v (rv_loadES rfl (by first | exact Rd.stays (by assumption) | exact Rd.owned 0 rfl) (by assumption) rfl rfl) rfl ?_)
  refine G.op (og_callV rfl rfl (fun w _ => palletOk_any _ w)) rfl (fun _ _ => ?_)
  refine G.v (rv_move rfl) rfl ?_
  all_goals ((with_reducible refine G.gP rfl rfl (fun hg => ?_) (fun hg => ?_)) <;> (try exact Bool.noConfusion hg) <;> (first | (refine G.gY rfl rfl ?_; refine G.v (rv_move rfl) rfl ?_) | refine G.gN rfl rfl rfl ?_))
  all_goals (first | (refine G.gY rfl rfl ?_; refine G.v (rv_makeFunc rfl rfl) rfl ?_) | refine G.gN rfl rfl rfl ?_)
  all_goals (first | (refine G.gY rfl rfl ?_; refine G.op (og_callV rfl rfl (fun w hh => containsLayer_any w (Rd.stays h _ hh) (fun w' k b hw hb => stacksOk1_any p b w' (Rd.stays (Rd.ofBlk 0 rfl rfl w hh) w' hw)))) rfl (fun _ _ => ?_)) | refine G.gN rfl rfl rfl ?_)
  all_goals (first | (refine G.gY rfl rfl ?_; refine G.v (rv_not rfl) rfl ?_) | refine G.gN rfl rfl rfl ?_)
  all_goals (first | refine G.v (rv_pickT rfl rfl) rfl ?_ | refine G.v (rv_pickF rfl rfl) rfl ?_)
  all_goals refine G.v (rv_assign rfl) rfl ?_
  all_goals
   refine G.done ?_
   refine G.thenN ?_
   refine G.ret ?_
   refine G.retFV rfl rfl (congrArg Value.bool ?_); simp only [not_any_not, List.all_map]; simp [*]; (try rfl)
theorem specStacksOk_any (p : PalletM) {v : Value} {l : List (LayerM × Value)} (w : World) (h : Rd w v 4 (l.map LayerM.cells)) : FnV Try.prog 43 [p.val, v] w (.bool (palletOkM p && (l.map Prod.fst).all fun s => heapOkM p s.d s.h s.g)) := by
  have hle := h.le_map
  have hln : (l.map LayerM.cells).length = l.length := by simp
  rw [List.all_map]
  refine FnV.of (n := 33) Try.func43 rfl rfl ?_
  refine G.seq ?_
  refine G.region ?_
  refine G.op (og_box rfl rfl) rfl (fun b _ => ?_)
  refine G.v (rv_assign rfl) rfl ?_
  refine G.done ?_
  refine G.thenN ?_
  refine G.seq ?_
  refine G.seq ?_
  refine G.region ?_
  (first | refine G.v (rv_loadW 0 rfl rfl rfl) rfl ?_ | refine G.v (rv_loadW 1 rfl rfl rfl) rfl ?_ | refine G.v (rv_loadEW rfl (by first | exact Rd.stays (by assumption) | exact Rd.owned 0 rfl | exact Rd.owned 1 rfl) (by assumption) rfl) rfl ?_ | refine G.v (rv_loadS 0 rfl rfl rfl rfl) rfl ?_ | refine G.v (rv_loadS 1 rfl rfl rfl rfl) rfl ?_ | refine G.v (rv_loadES rfl (by first | exact Rd.stays (by assumption) | exact Rd.owned 0 rfl | exact Rd.owned 1 rfl) (by assumption) rfl rfl) rfl ?_)
  refine G.op (og_callV rfl rfl (fun w _ => spalletOk_any _ w)) rfl (fun _ _ => ?_)
  refine G.v (rv_not rfl) rfl ?_
  refine G.done ?_
  refine G.thenN ?_
  refine G.cond rfl (fun hc => ?_) (fun hc => ?_)
  · try exact Bool.noConfusion hc
    all_goals
     try replace hc := of_decide_eq_true hc
     try (exfalso; first | contradiction | omega)
     all_goals
      refine G.seq ?_
      refine G.region ?_
      refine G.v (rv_assign rfl) rfl ?_
      refine G.done ?_
      refine G.thenN ?_
      refine G.ret ?_
      refine G.thenR ?_
      first | exact G.retFV rfl rfl (congrArg Value.bool (okOut hc)) | exact G.retFV rfl rfl (congrArg Value.bool (okEnd hpo ht hlt)) | exact G.retFV rfl rfl (congrArg Value.bool (okNo (f := (fun s => heapOkM p s.d s.h s.g) ∘ Prod.fst) hb (by (simpa using hc))))
  · try exact Bool.noConfusion hc
    all_goals
     try replace hc := of_decide_eq_false hc
     try (exfalso; first | contradiction | omega)
     all_goals
      refine G.skip ?_
      refine G.thenN ?_
      refine G.seq ?_
      refine G.seq ?_
      refine G.region ?_
      refine G.v (rv_assign rfl) rfl ?_
      refine G.done ?_
      refine G.thenN ?_
      refine G.block ?_
      -- loop 0: turned [5], kept [1, 2]
      have hpo : palletOkM p = true := by simpa using hc
      refine G.loopK (ι := Nat) (ks := [1, 2]) (fun k => [(5, .int .i64 k)]) (fun _ => []) (fun k => k ≤ l.length ∧ (l.take k).all ((fun s => heapOkM p s.d s.h s.g) ∘ Prod.fst) = true) (fun k => l.length - k) 0 (.cons rfl (.cons rfl (.nil))) rfl ?_ ?_ ?_
      · exact ⟨Nat.zero_le _, rfl⟩
      · exact ⟨rfl, trivial⟩
      rintro k ⟨hk, ht⟩
      by_cases hlt : k < l.length
      case' pos => (obtain ⟨b, hb⟩ := get_of_lt hlt; have he := get_map hb LayerM.cells)
      all_goals
       refine G.seq ?_
       refine G.seq ?_
       refine G.region ?_
       refine G.v (rv_move rfl) rfl ?_
       refine G.v (rv_move rfl) rfl ?_
       refine G.v (rv_len rfl (by first | exact Rd.stays (by assumption) | exact Rd.owned 0 rfl | exact Rd.owned 1 rfl)) rfl ?_
       refine G.v (rv_lss rfl rfl) rfl ?_
       refine G.done ?_
       refine G.thenN ?_
       refine G.cond rfl (fun hc => ?_) (fun hc => ?_)
       · try exact Bool.noConfusion hc
         all_goals
          try replace hc := of_decide_eq_true hc
          try (exfalso; first | contradiction | omega)
          all_goals
           refine G.skip ?_
           refine G.thenN ?_
           refine G.seq ?_
           refine G.block ?_
           refine G.seq ?_
           refine G.drawL [] ?_
           (first | refine GE.q 0 rfl (by kernel_rfl) rfl (qg_runs (rv_loadW 0 rfl rfl rfl)) rfl ?_ | refine GE.q 0 rfl (by kernel_rfl) rfl (qg_runs (rv_loadW 1 rfl rfl rfl)) rfl ?_ | refine GE.q 0 rfl (by kernel_rfl) rfl (qg_runs (rv_loadEW rfl (by first | exact Rd.stays (by assumption) | exact Rd.owned 0 rfl | exact Rd.owned 1 rfl) (by assumption) rfl)) rfl ?_ | refine GE.q 0 rfl (by kernel_rfl) rfl (qg_runs (rv_loadS 0 rfl rfl rfl rfl)) rfl ?_ | refine GE.q 0 rfl (by kernel_rfl) rfl (qg_runs (rv_loadS 1 rfl rfl rfl rfl)) rfl ?_ | refine GE.q 0 rfl (by kernel_rfl) rfl (qg_runs (rv_loadES rfl (by first | exact Rd.stays (by assumption) | exact Rd.owned 0 rfl | exact Rd.owned 1 rfl) (by assumption) rfl rfl)) rfl ?_)
           refine GE.q 1 rfl (by kernel_rfl) rfl (qg_runs (rv_move rfl)) rfl ?_
           refine GE.q 2 rfl (by kernel_rfl) rfl (qg_runs (rv_move rfl)) rfl ?_
           (first | refine GE.q 3 rfl (by kernel_rfl) rfl (qg_runs (rv_indexH rfl rfl (by first | exact Rd.stays (by assumption) | exact Rd.owned 0 rfl | exact Rd.owned 1 rfl) rfl (by assumption))) rfl ?_ | refine GE.q 3 rfl (by kernel_rfl) rfl (qg_runs (rv_index rfl rfl (by first | exact Rd.stays (by assumption) | exact Rd.owned 0 rfl | exact Rd.owned 1 rfl) rfl (by assumption))) rfl ?_)
           (first | refine GE.q 4 rfl (by kernel_rfl) rfl (qg_runs (rv_field rfl)) rfl ?_ | refine GE.q 4 rfl (by kernel_rfl) rfl (qg_runs (rv_fieldE rfl)) rfl ?_)
           (first | refine GE.q 5 rfl (by kernel_rfl) rfl (qg_runs (rv_load1 0 rfl rfl rfl)) rfl ?_ | refine GE.q 5 rfl (by kernel_rfl) rfl (qg_runs (rv_load1 1 rfl rfl rfl)) rfl ?_ | refine GE.q 5 rfl (by kernel_rfl) rfl (qg_runs (rv_loadE rfl (by first | exact Rd.stays (by assumption) | exact Rd.owned 0 rfl | exact Rd.owned 1 rfl) (by assumption) rfl)) rfl ?_)
           refine GE.q 6 rfl (by kernel_rfl) rfl (qg_runs (rv_move rfl)) rfl ?_
           refine GE.q 7 rfl (by kernel_rfl) rfl (qg_runs (rv_move rfl)) rfl ?_
           (first | refine GE.q 8 rfl (by kernel_rfl) rfl (qg_runs (rv_indexH rfl rfl (by first | exact Rd.stays (by assumption) | exact Rd.owned 0 rfl | exact Rd.owned 1 rfl) rfl (by assumption))) rfl ?_ | refine GE.q 8 rfl (by kernel_rfl) rfl (qg_runs (rv_index rfl rfl (by first | exact Rd.stays (by assumption) | exact Rd.owned 0 rfl | exact Rd.owned 1 rfl) rfl (by assumption))) rfl ?_)
           (first | refine GE.q 9 rfl (by kernel_rfl) rfl (qg_runs (rv_field rfl)) rfl ?_ | refine GE.q 9 rfl (by kernel_rfl) rfl (qg_runs (rv_fieldE rfl)) rfl ?_)
           (first | refine GE.q 10 rfl (by kernel_rfl) rfl (qg_runs (rv_load1 0 rfl rfl rfl)) rfl ?_ | refine GE.q 10 rfl (by kernel_rfl) rfl (qg_runs (rv_load1 1 rfl rfl rfl)) rfl ?_ | refine GE.q 10 rfl (by kernel_rfl) rfl (qg_runs (rv_loadE rfl (by first | exact Rd.stays (by assumption) | exact Rd.owned 0 rfl | exact Rd.owned 1 rfl) (by assumption) rfl)) rfl ?_)
           refine GE.q 11 rfl (by kernel_rfl) rfl (qg_runs (rv_move rfl)) rfl ?_
           refine GE.q 12 rfl (by kernel_rfl) rfl (qg_runs (rv_move rfl)) rfl ?_
           (first | refine GE.q 13 rfl (by kernel_rfl) rfl (qg_runs (rv_indexH rfl rfl (by first | exact Rd.stays (by assumption) | exact Rd.owned 0 rfl | exact Rd.owned 1 rfl) rfl (by assumption))) rfl ?_ | refine GE.q 13 rfl (by kernel_rfl) rfl (qg_runs (rv_index rfl rfl (by first | exact Rd.stays (by assumption) | exact Rd.owned 0 rfl | exact Rd.owned 1 rfl) rfl (by assumption))) rfl ?_)
           (first | refine GE.q 14 rfl (by kernel_rfl) rfl (qg_runs (rv_field rfl)) rfl ?_ | refine GE.q 14 rfl (by kernel_rfl) rfl (qg_runs (rv_fieldE rfl)) rfl ?_)
           (first | refine GE.q 15 rfl (by kernel_rfl) rfl (qg_runs (rv_load1 0 rfl rfl rfl)) rfl ?_ | refine GE.q 15 rfl (by kernel_rfl) rfl (qg_runs (rv_load1 1 rfl rfl rfl)) rfl ?_ | refine GE.q 15 rfl (by kernel_rfl) rfl (qg_runs (rv_loadE rfl (by first | exact Rd.stays (by assumption) | exact Rd.owned 0 rfl | exact Rd.owned 1 rfl) (by assumption) rfl)) rfl ?_)
           refine GE.q 16 rfl (by kernel_rfl) rfl (qg_call rfl rfl (fun w _ => l11Ok_any _ _ _ _ w)) rfl ?_
           refine GE.q 17 rfl (by kernel_rfl) rfl (qg_runs (rv_not rfl)) rfl ?_
           refine GE.done (by kernel_rfl) ?_
           refine G.thenN ?_
           refine G.cond rfl (fun hc => ?_) (fun hc => ?_)
           · try exact Bool.noConfusion hc
             all_goals
              try replace hc := of_decide_eq_true hc
              try (exfalso; first | contradiction | omega)
              all_goals
               refine G.seq ?_
               refine G.region ?_
               refine G.v (rv_assign rfl) rfl ?_
               refine G.done ?_
               refine G.thenN ?_
               refine G.ret ?_
               refine G.inR ?_
               refine G.thenR ?_
               refine G.thenR ?_
               refine G.inR ?_
               refine G.thenR ?_
               first | exact G.retFV rfl rfl (congrArg Value.bool (okOut hc)) | exact G.retFV rfl rfl (congrArg Value.bool (okEnd hpo ht hlt)) | exact G.retFV rfl rfl (congrArg Value.bool (okNo (f := (fun s => heapOkM p s.d s.h s.g) ∘ Prod.fst) hb (by (simpa using hc))))
           · try exact Bool.noConfusion hc
             all_goals
              try replace hc := of_decide_eq_false hc
              try (exfalso; first | contradiction | omega)
              all_goals
               refine G.skip ?_
               refine G.inN ?_
               refine G.thenN ?_
               refine G.region ?_
               refine G.v (rv_move rfl) rfl ?_
               (first | refine G.v (rv_incr rfl rfl (by omega)) rfl ?_ | refine G.v (rv_addB rfl rfl (by omega) (by omega)) rfl ?_)
               refine G.v (rv_assign rfl) rfl ?_
               refine G.done ?_
               first | refine G.backK (k + 1) 0 rfl (.cons rfl (.cons rfl (.nil))) ?_ ?_ ?_ | refine G.backK (k + 1) 1 rfl (.cons rfl (.cons rfl (.nil))) ?_ ?_ ?_ | refine G.backK (k + 1) 2 rfl (.cons rfl (.cons rfl (.nil))) ?_ ?_ ?_ | refine G.backK (k + 1) 3 rfl (.cons rfl (.cons rfl (.nil))) ?_ ?_ ?_
               · exact ⟨rfl, trivial⟩
               · exact ⟨hlt, all_next ht hb (by simpa using hc)⟩
               · omega
       · try exact Bool.noConfusion hc
         all_goals
          try replace hc := of_decide_eq_false hc
          try (exfalso; first | contradiction | omega)
          all_goals
           refine G.exit ?_
           refine G.thenX ?_
           refine G.thenX ?_
           refine G.inX ?_
           refine G.thenN ?_
           refine G.seq ?_
           refine G.region ?_
           refine G.v (rv_assign rfl) rfl ?_
           refine G.done ?_
           refine G.thenN ?_
           refine G.ret ?_
           first | exact G.retFV rfl rfl (congrArg Value.bool (okOut hc)) | exact G.retFV rfl rfl (congrArg Value.bool (okEnd hpo ht hlt)) | exact G.retFV rfl rfl (congrArg Value.bool (okNo (f := (fun s => heapOkM p s.d s.h s.g) ∘ Prod.fst) hb (by (simpa using hc))))

theorem fnExactBoxesOk_any (p : PalletM) {v : Value} {l : List BoxM} {w : World} (h : Rd w v 4 (l.map BoxM.cells)) : FnV Try.prog 9 [p.val, v] w (.bool true) := by
  refine FnV.of (n := 33) Try.func9 rfl rfl ?_
  refine G.seq ?_
  refine G.region ?_
  refine G.op (og_box rfl rfl) rfl (fun b _ => ?_)
  refine G.v (rv_assign rfl) rfl ?_
  refine G.done ?_
  refine G.thenN ?_
  refine G.seq ?_
  refine G.region ?_
  refine G.v (rv_assign rfl) rfl ?_
  refine G.done ?_
  refine G.thenN ?_
  refine G.seq ?_
  refine G.region ?_
  refine G.v (rv_move rfl) rfl ?_
  refine G.v (rv_move rfl) rfl ?_
  refine G.op (og_callV rfl rfl (fun w hh => szBoxS_any _ w (by first | exact Rd.stays (by assumption) _ hh | exact Rd.owned 0 rfl _ hh | exact Rd.owned 1 rfl _ hh | exact Rd.owned 2 rfl _ hh | exact Rd.owned 3 rfl _ hh) (by (try simp only [szM] at *); omega) (by (try simp only [szM] at *); omega))) rfl (fun _ _ => ?_)
  refine G.v (rv_assign rfl) rfl ?_
  refine G.done ?_
  refine G.thenN ?_
  refine G.seq ?_
  refine G.seq ?_
  refine G.region ?_
  refine G.v (rv_move rfl) rfl ?_
  refine G.v (rv_lss rfl rfl) rfl ?_
  refine G.done ?_
  refine G.thenN ?_
  refine G.cond rfl (fun hc => ?_) (fun hc => ?_)
  · try exact Bool.noConfusion hc
    all_goals
     try replace hc := of_decide_eq_true hc
     try (exfalso; first | contradiction | omega)
     all_goals
      refine G.seq ?_
      refine G.region ?_
      refine G.v (rv_assign rfl) rfl ?_
      refine G.done ?_
      refine G.thenN ?_
      refine G.ret ?_
      refine G.thenR ?_
      first | exact G.retFV rfl rfl rfl | (exfalso; simp at hc)
  · try exact Bool.noConfusion hc
    all_goals
     try replace hc := of_decide_eq_false hc
     try (exfalso; first | contradiction | omega)
     all_goals
      refine G.skip ?_
      refine G.thenN ?_
      refine G.seq ?_
      refine G.region ?_
      (first | refine G.v (rv_loadW 0 rfl rfl rfl) rfl ?_ | refine G.v (rv_loadW 1 rfl rfl rfl) rfl ?_ | refine G.v (rv_loadW 2 rfl rfl rfl) rfl ?_ | refine G.v (rv_loadW 3 rfl rfl rfl) rfl ?_ | refine G.v (rv_loadEW rfl (by first | exact Rd.stays (by assumption) | exact Rd.owned 0 rfl | exact Rd.owned 1 rfl | exact Rd.owned 2 rfl | exact Rd.owned 3 rfl) (by assumption) rfl) rfl ?_ | refine G.v (rv_loadS 0 rfl rfl rfl rfl) rfl ?_ | refine G.v (rv_loadS 1 rfl rfl rfl rfl) rfl ?_ | refine G.v (rv_loadS 2 rfl rfl rfl rfl) rfl ?_ | refine G.v (rv_loadS 3 rfl rfl rfl rfl) rfl ?_ | refine G.v (rv_loadES rfl (by first | exact Rd.stays (by assumption) | exact Rd.owned 0 rfl | exact Rd.owned 1 rfl | exact Rd.owned 2 rfl | exact Rd.owned 3 rfl) (by assumption) rfl rfl) rfl ?_)
      refine G.op (og_callV rfl rfl (fun w _ => toPallet_any _ w)) rfl (fun _ _ => ?_)
      refine G.v (rv_move rfl) rfl ?_
      (refine G.op (og_callF rfl rfl (fun w hh => toBoxS_any w (by first | exact Rd.stays (by assumption) _ hh | exact Rd.owned 0 rfl _ hh | exact Rd.owned 1 rfl _ hh | exact Rd.owned 2 rfl _ hh | exact Rd.owned 3 rfl _ hh) (by (try simp only [szM] at *); omega))) rfl ?_; rintro v _)
      refine G.op (og_callV rfl rfl (fun w hh => sboxesOk_any _ w (by first | exact Rd.stays (by assumption) _ hh | exact Rd.owned 0 rfl _ hh | exact Rd.owned 1 rfl _ hh | exact Rd.owned 2 rfl _ hh | exact Rd.owned 3 rfl _ hh))) rfl (fun _ _ => ?_)
      refine G.v (rv_assign rfl) rfl ?_
      refine G.done ?_
      refine G.thenN ?_
      refine G.seq ?_
      refine G.region ?_
      refine G.v (rv_move rfl) rfl ?_
      (refine G.op (og_callF rfl rfl (fun w hh => toBoxS_any w (by first | exact Rd.stays (by assumption) _ hh | exact Rd.owned 0 rfl _ hh | exact Rd.owned 1 rfl _ hh | exact Rd.owned 2 rfl _ hh | exact Rd.owned 3 rfl _ hh) (by (try simp only [szM] at *); omega))) rfl ?_; rintro v _)
      refine G.v (rv_assign rfl) rfl ?_
      refine G.done ?_
      refine G.thenN ?_
      refine G.seq ?_
      refine G.region ?_
      (first | refine G.v (rv_loadW 0 rfl rfl rfl) rfl ?_ | refine G.v (rv_loadW 1 rfl rfl rfl) rfl ?_ | refine G.v (rv_loadW 2 rfl rfl rfl) rfl ?_ | refine G.v (rv_loadW 3 rfl rfl rfl) rfl ?_ | refine G.v (rv_loadEW rfl (by first | exact Rd.stays (by assumption) | exact Rd.owned 0 rfl | exact Rd.owned 1 rfl | exact Rd.owned 2 rfl | exact Rd.owned 3 rfl) (by assumption) rfl) rfl ?_ | refine G.v (rv_loadS 0 rfl rfl rfl rfl) rfl ?_ | refine G.v (rv_loadS 1 rfl rfl rfl rfl) rfl ?_ | refine G.v (rv_loadS 2 rfl rfl rfl rfl) rfl ?_ | refine G.v (rv_loadS 3 rfl rfl rfl rfl) rfl ?_ | refine G.v (rv_loadES rfl (by first | exact Rd.stays (by assumption) | exact Rd.owned 0 rfl | exact Rd.owned 1 rfl | exact Rd.owned 2 rfl | exact Rd.owned 3 rfl) (by assumption) rfl rfl) rfl ?_)
      refine G.op (og_callV rfl rfl (fun w _ => toPallet_any _ w)) rfl (fun _ _ => ?_)
      refine G.v (rv_move rfl) rfl ?_
      refine G.op (og_callV rfl rfl (fun w hh => boxesOk_any _ w (by first | exact Rd.stays (by assumption) _ hh | exact Rd.owned 0 rfl _ hh | exact Rd.owned 1 rfl _ hh | exact Rd.owned 2 rfl _ hh | exact Rd.owned 3 rfl _ hh))) rfl (fun _ _ => ?_)
      refine G.v (rv_assign rfl) rfl ?_
      refine G.done ?_
      refine G.thenN ?_
      refine G.seq ?_
      refine G.seq ?_
      refine G.region ?_
      refine G.v (rv_move rfl) rfl ?_
      refine G.v (rv_move rfl) rfl ?_
      refine G.v (rv_neqb rfl rfl) rfl ?_
      refine G.done ?_
      refine G.thenN ?_
      refine G.cond rfl (fun hc => ?_) (fun hc => ?_)
      · try exact Bool.noConfusion hc
        all_goals
         try replace hc := of_decide_eq_true hc
         try (exfalso; first | contradiction | omega)
         all_goals
          refine G.seq ?_
          refine G.region ?_
          refine G.v (rv_assign rfl) rfl ?_
          refine G.done ?_
          refine G.thenN ?_
          refine G.ret ?_
          refine G.thenR ?_
          first | exact G.retFV rfl rfl rfl | (exfalso; simp at hc)
      · try exact Bool.noConfusion hc
        all_goals
         try replace hc := of_decide_eq_false hc
         try (exfalso; first | contradiction | omega)
         all_goals
          refine G.skip ?_
          refine G.thenN ?_
          refine G.seq ?_
          refine G.seq ?_
          refine G.region ?_
          refine G.v (rv_move rfl) rfl ?_
          refine G.v (rv_move rfl) rfl ?_
          (refine G.op (og_callF rfl rfl (fun w hh => toBoxS_any w (by first | exact Rd.stays (by assumption) _ hh | exact Rd.owned 0 rfl _ hh | exact Rd.owned 1 rfl _ hh | exact Rd.owned 2 rfl _ hh | exact Rd.owned 3 rfl _ hh) (by (try simp only [szM] at *); omega))) rfl ?_; rintro v _)
          refine G.op (og_callV rfl rfl (fun w hh => eqBoxS_any w (by first | exact Rd.stays (by assumption) _ hh | exact Rd.owned 0 rfl _ hh | exact Rd.owned 1 rfl _ hh | exact Rd.owned 2 rfl _ hh | exact Rd.owned 3 rfl _ hh) (by first | exact Rd.stays (by assumption) _ hh | exact Rd.owned 0 rfl _ hh | exact Rd.owned 1 rfl _ hh | exact Rd.owned 2 rfl _ hh | exact Rd.owned 3 rfl _ hh))) rfl (fun _ _ => ?_)
          refine G.v (rv_not rfl) rfl ?_
          refine G.done ?_
          refine G.thenN ?_
          refine G.cond rfl (fun hc => ?_) (fun hc => ?_)
          · try exact Bool.noConfusion hc
            all_goals
             try replace hc := of_decide_eq_true hc
             try (exfalso; first | contradiction | omega)
             all_goals
              refine G.seq ?_
              refine G.region ?_
              refine G.v (rv_assign rfl) rfl ?_
              refine G.done ?_
              refine G.thenN ?_
              refine G.ret ?_
              refine G.thenR ?_
              first | exact G.retFV rfl rfl rfl | (exfalso; simp at hc)
          · try exact Bool.noConfusion hc
            all_goals
             try replace hc := of_decide_eq_false hc
             try (exfalso; first | contradiction | omega)
             all_goals
              refine G.skip ?_
              refine G.thenN ?_
              refine G.seq ?_
              refine G.region ?_
              refine G.v (rv_assign rfl) rfl ?_
              refine G.done ?_
              refine G.thenN ?_
              refine G.ret ?_
              first | exact G.retFV rfl rfl rfl | (exfalso; simp at hc)
theorem fnExactShelvesOk_any (p : PalletM) {v : Value} {l : List (ShelfM × Value)} {w : World} (h : Rd w v 5 (l.map ShelfM.cells)) (hs : Subs w ShelfM.l l) : FnV Try.prog 12 [p.val, v] w (.bool true) := by
  refine FnV.of (n := 33) Try.func12 rfl rfl ?_
  refine G.seq ?_
  refine G.region ?_
  refine G.op (og_box rfl rfl) rfl (fun b _ => ?_)
  refine G.v (rv_assign rfl) rfl ?_
  refine G.done ?_
  refine G.thenN ?_
  refine G.seq ?_
  refine G.region ?_
  refine G.v (rv_assign rfl) rfl ?_
  refine G.done ?_
  refine G.thenN ?_
  refine G.seq ?_
  refine G.region ?_
  refine G.v (rv_move rfl) rfl ?_
  refine G.v (rv_move rfl) rfl ?_
  refine G.op (og_callV rfl rfl (fun w hh => szShelfS_any _ w (by first | exact Rd.stays (by assumption) _ hh | exact Rd.owned 0 rfl _ hh | exact Rd.owned 1 rfl _ hh | exact Rd.owned 2 rfl _ hh | exact Rd.owned 3 rfl _ hh) (by first | exact Subs.stays (by assumption) _ hh | exact Subs.owned 0 rfl _ hh | exact Subs.owned 1 rfl _ hh | exact Subs.owned 2 rfl _ hh | exact Subs.owned 3 rfl _ hh) (by (try simp only [szM] at *); omega) (by (try simp only [szM] at *); omega))) rfl (fun _ _ => ?_)
  refine G.v (rv_assign rfl) rfl ?_
  refine G.done ?_
  refine G.thenN ?_
  refine G.seq ?_
  refine G.seq ?_
  refine G.region ?_
  refine G.v (rv_move rfl) rfl ?_
  refine G.v (rv_lss rfl rfl) rfl ?_
  refine G.done ?_
  refine G.thenN ?_
  refine G.cond rfl (fun hc => ?_) (fun hc => ?_)
  · try exact Bool.noConfusion hc
    all_goals
     try replace hc := of_decide_eq_true hc
     try (exfalso; first | contradiction | omega)
     all_goals
      refine G.seq ?_
      refine G.region ?_
      refine G.v (rv_assign rfl) rfl ?_
      refine G.done ?_
      refine G.thenN ?_
      refine G.ret ?_
      refine G.thenR ?_
      first | exact G.retFV rfl rfl rfl | (exfalso; simp_all)
  · try exact Bool.noConfusion hc
    all_goals
     try replace hc := of_decide_eq_false hc
     try (exfalso; first | contradiction | omega)
     all_goals
      refine G.skip ?_
      refine G.thenN ?_
      refine G.seq ?_
      refine G.region ?_
      (first | refine G.v (rv_loadW 0 rfl rfl rfl) rfl ?_ | refine G.v (rv_loadW 1 rfl rfl rfl) rfl ?_ | refine G.v (rv_loadW 2 rfl rfl rfl) rfl ?_ | refine G.v (rv_loadW 3 rfl rfl rfl) rfl ?_ | refine G.v (rv_loadW 4 rfl rfl rfl) rfl ?_ | refine G.v (rv_loadW 5 rfl rfl rfl) rfl ?_ | refine G.v (rv_loadEW rfl (by first | exact Rd.stays (by assumption) | exact Rd.owned 0 rfl | exact Rd.owned 1 rfl | exact Rd.owned 2 rfl | exact Rd.owned 3 rfl | exact Rd.owned 4 rfl | exact Rd.owned 5 rfl) (by assumption) rfl) rfl ?_ | refine G.v (rv_loadS 0 rfl rfl rfl rfl) rfl ?_ | refine G.v (rv_loadS 1 rfl rfl rfl rfl) rfl ?_ | refine G.v (rv_loadS 2 rfl rfl rfl rfl) rfl ?_ | refine G.v (rv_loadS 3 rfl rfl rfl rfl) rfl ?_ | refine G.v (rv_loadS 4 rfl rfl rfl rfl) rfl ?_ | refine G.v (rv_loadS 5 rfl rfl rfl rfl) rfl ?_ | refine G.v (rv_loadES rfl (by first | exact Rd.stays (by assumption) | exact Rd.owned 0 rfl | exact Rd.owned 1 rfl | exact Rd.owned 2 rfl | exact Rd.owned 3 rfl | exact Rd.owned 4 rfl | exact Rd.owned 5 rfl) (by assumption) rfl rfl) rfl ?_)
      refine G.op (og_callV rfl rfl (fun w _ => toPallet_any _ w)) rfl (fun _ _ => ?_)
      refine G.v (rv_move rfl) rfl ?_
      (refine G.op (og_callF rfl rfl (fun w hh => toShelfS_any w (by first | exact Rd.stays (by assumption) _ hh | exact Rd.owned 0 rfl _ hh | exact Rd.owned 1 rfl _ hh | exact Rd.owned 2 rfl _ hh | exact Rd.owned 3 rfl _ hh) (by first | exact Subs.stays (by assumption) _ hh | exact Subs.owned 0 rfl _ hh | exact Subs.owned 1 rfl _ hh | exact Subs.owned 2 rfl _ hh | exact Subs.owned 3 rfl _ hh) (by (try simp only [szM] at *); omega))) rfl ?_; rintro ⟨v, l⟩ hvl)
      refine G.op (og_callV rfl rfl (fun w hh => specShelvesOk_any _ w (by first | exact Rd.stays (by assumption) _ hh | exact Rd.owned 0 rfl _ hh | exact Rd.owned 1 rfl _ hh | exact Rd.owned 2 rfl _ hh | exact Rd.owned 3 rfl _ hh | exact Rd.owned 4 rfl _ hh | exact Rd.owned 5 rfl _ hh))) rfl (fun _ _ => ?_)
      refine G.v (rv_assign rfl) rfl ?_
      refine G.done ?_
      refine G.thenN ?_
      refine G.seq ?_
      refine G.region ?_
      refine G.v (rv_move rfl) rfl ?_
      (refine G.op (og_callF rfl rfl (fun w hh => toShelfS_any w (by first | exact Rd.stays (by assumption) _ hh | exact Rd.owned 0 rfl _ hh | exact Rd.owned 1 rfl _ hh | exact Rd.owned 2 rfl _ hh | exact Rd.owned 3 rfl _ hh) (by first | exact Subs.stays (by assumption) _ hh | exact Subs.owned 0 rfl _ hh | exact Subs.owned 1 rfl _ hh | exact Subs.owned 2 rfl _ hh | exact Subs.owned 3 rfl _ hh) (by (try simp only [szM] at *); omega))) rfl ?_; rintro ⟨v, l⟩ hvl)
      refine G.v (rv_assign rfl) rfl ?_
      refine G.done ?_
      refine G.thenN ?_
      refine G.seq ?_
      refine G.region ?_
      (first | refine G.v (rv_loadW 0 rfl rfl rfl) rfl ?_ | refine G.v (rv_loadW 1 rfl rfl rfl) rfl ?_ | refine G.v (rv_loadW 2 rfl rfl rfl) rfl ?_ | refine G.v (rv_loadW 3 rfl rfl rfl) rfl ?_ | refine G.v (rv_loadW 4 rfl rfl rfl) rfl ?_ | refine G.v (rv_loadW 5 rfl rfl rfl) rfl ?_ | refine G.v (rv_loadEW rfl (by first | exact Rd.stays (by assumption) | exact Rd.owned 0 rfl | exact Rd.owned 1 rfl | exact Rd.owned 2 rfl | exact Rd.owned 3 rfl | exact Rd.owned 4 rfl | exact Rd.owned 5 rfl) (by assumption) rfl) rfl ?_ | refine G.v (rv_loadS 0 rfl rfl rfl rfl) rfl ?_ | refine G.v (rv_loadS 1 rfl rfl rfl rfl) rfl ?_ | refine G.v (rv_loadS 2 rfl rfl rfl rfl) rfl ?_ | refine G.v (rv_loadS 3 rfl rfl rfl rfl) rfl ?_ | refine G.v (rv_loadS 4 rfl rfl rfl rfl) rfl ?_ | refine G.v (rv_loadS 5 rfl rfl rfl rfl) rfl ?_ | refine G.v (rv_loadES rfl (by first | exact Rd.stays (by assumption) | exact Rd.owned 0 rfl | exact Rd.owned 1 rfl | exact Rd.owned 2 rfl | exact Rd.owned 3 rfl | exact Rd.owned 4 rfl | exact Rd.owned 5 rfl) (by assumption) rfl rfl) rfl ?_)
      refine G.op (og_callV rfl rfl (fun w _ => toPallet_any _ w)) rfl (fun _ _ => ?_)
      refine G.v (rv_move rfl) rfl ?_
      refine G.op (og_callV rfl rfl (fun w hh => implShelvesOk_any _ w (by first | exact Rd.stays (by assumption) _ hh | exact Rd.owned 0 rfl _ hh | exact Rd.owned 1 rfl _ hh | exact Rd.owned 2 rfl _ hh | exact Rd.owned 3 rfl _ hh | exact Rd.owned 4 rfl _ hh | exact Rd.owned 5 rfl _ hh))) rfl (fun _ _ => ?_)
      refine G.v (rv_assign rfl) rfl ?_
      refine G.done ?_
      refine G.thenN ?_
      refine G.seq ?_
      refine G.seq ?_
      refine G.region ?_
      refine G.v (rv_move rfl) rfl ?_
      refine G.v (rv_move rfl) rfl ?_
      refine G.v (rv_neqb rfl rfl) rfl ?_
      refine G.done ?_
      refine G.thenN ?_
      refine G.cond rfl (fun hc => ?_) (fun hc => ?_)
      · try exact Bool.noConfusion hc
        all_goals
         try replace hc := of_decide_eq_true hc
         try (exfalso; first | contradiction | omega)
         all_goals
          refine G.seq ?_
          refine G.region ?_
          refine G.v (rv_assign rfl) rfl ?_
          refine G.done ?_
          refine G.thenN ?_
          refine G.ret ?_
          refine G.thenR ?_
          first | exact G.retFV rfl rfl rfl | (exfalso; simp_all)
      · try exact Bool.noConfusion hc
        all_goals
         try replace hc := of_decide_eq_false hc
         try (exfalso; first | contradiction | omega)
         all_goals
          refine G.skip ?_
          refine G.thenN ?_
          refine G.seq ?_
          refine G.seq ?_
          refine G.region ?_
          refine G.v (rv_move rfl) rfl ?_
          refine G.v (rv_move rfl) rfl ?_
          (refine G.op (og_callF rfl rfl (fun w hh => toShelfS_any w (by first | exact Rd.stays (by assumption) _ hh | exact Rd.owned 0 rfl _ hh | exact Rd.owned 1 rfl _ hh | exact Rd.owned 2 rfl _ hh | exact Rd.owned 3 rfl _ hh) (by first | exact Subs.stays (by assumption) _ hh | exact Subs.owned 0 rfl _ hh | exact Subs.owned 1 rfl _ hh | exact Subs.owned 2 rfl _ hh | exact Subs.owned 3 rfl _ hh) (by (try simp only [szM] at *); omega))) rfl ?_; rintro ⟨v, l⟩ hvl)
          refine G.op (og_callV rfl rfl (fun w hh => eqShelfS_any w (by first | exact Rd.stays (by assumption) _ hh | exact Rd.owned 0 rfl _ hh | exact Rd.owned 1 rfl _ hh | exact Rd.owned 2 rfl _ hh | exact Rd.owned 3 rfl _ hh) (by first | exact Subs.stays (by assumption) _ hh | exact Subs.owned 0 rfl _ hh | exact Subs.owned 1 rfl _ hh | exact Subs.owned 2 rfl _ hh | exact Subs.owned 3 rfl _ hh) (by first | exact Rd.stays (by assumption) _ hh | exact Rd.owned 0 rfl _ hh | exact Rd.owned 1 rfl _ hh | exact Rd.owned 2 rfl _ hh | exact Rd.owned 3 rfl _ hh) (by first | exact Subs.stays (by assumption) _ hh | exact Subs.owned 0 rfl _ hh | exact Subs.owned 1 rfl _ hh | exact Subs.owned 2 rfl _ hh | exact Subs.owned 3 rfl _ hh))) rfl (fun _ _ => ?_)
          refine G.v (rv_not rfl) rfl ?_
          refine G.done ?_
          refine G.thenN ?_
          refine G.cond rfl (fun hc => ?_) (fun hc => ?_)
          · try exact Bool.noConfusion hc
            all_goals
             try replace hc := of_decide_eq_true hc
             try (exfalso; first | contradiction | omega)
             all_goals
              refine G.seq ?_
              refine G.region ?_
              refine G.v (rv_assign rfl) rfl ?_
              refine G.done ?_
              refine G.thenN ?_
              refine G.ret ?_
              refine G.thenR ?_
              first | exact G.retFV rfl rfl rfl | (exfalso; simp_all)
          · try exact Bool.noConfusion hc
            all_goals
             try replace hc := of_decide_eq_false hc
             try (exfalso; first | contradiction | omega)
             all_goals
              refine G.skip ?_
              refine G.thenN ?_
              refine G.seq ?_
              refine G.region ?_
              refine G.v (rv_assign rfl) rfl ?_
              refine G.done ?_
              refine G.thenN ?_
              refine G.ret ?_
              first | exact G.retFV rfl rfl rfl | (exfalso; simp_all)
theorem fnExactStacksOk_any (p : PalletM) {v : Value} {l : List (LayerM × Value)} {w : World} (h : Rd w v 4 (l.map LayerM.cells)) (hs : Subs w LayerM.l l) : FnV Try.prog 11 [p.val, v] w (.bool true) := by
  refine FnV.of (n := 33) Try.func11 rfl rfl ?_
  refine G.seq ?_
  refine G.region ?_
  refine G.op (og_box rfl rfl) rfl (fun b _ => ?_)
  refine G.v (rv_assign rfl) rfl ?_
  refine G.done ?_
  refine G.thenN ?_
  refine G.seq ?_
  refine G.region ?_
  refine G.v (rv_assign rfl) rfl ?_
  refine G.done ?_
  refine G.thenN ?_
  refine G.seq ?_
  refine G.region ?_
  refine G.v (rv_move rfl) rfl ?_
  refine G.v (rv_move rfl) rfl ?_
  refine G.op (og_callV rfl rfl (fun w hh => szLayerS_any _ w (by first | exact Rd.stays (by assumption) _ hh | exact Rd.owned 0 rfl _ hh | exact Rd.owned 1 rfl _ hh | exact Rd.owned 2 rfl _ hh | exact Rd.owned 3 rfl _ hh) (by first | exact Subs.stays (by assumption) _ hh | exact Subs.owned 0 rfl _ hh | exact Subs.owned 1 rfl _ hh | exact Subs.owned 2 rfl _ hh | exact Subs.owned 3 rfl _ hh) (by (try simp only [szM] at *); omega) (by (try simp only [szM] at *); omega))) rfl (fun _ _ => ?_)
  refine G.v (rv_assign rfl) rfl ?_
  refine G.done ?_
  refine G.thenN ?_
  refine G.seq ?_
  refine G.seq ?_
  refine G.region ?_
  refine G.v (rv_move rfl) rfl ?_
  refine G.v (rv_lss rfl rfl) rfl ?_
  refine G.done ?_
  refine G.thenN ?_
  refine G.cond rfl (fun hc => ?_) (fun hc => ?_)
  · try exact Bool.noConfusion hc
    all_goals
     try replace hc := of_decide_eq_true hc
     try (exfalso; first | contradiction | omega)
     all_goals
      refine G.seq ?_
      refine G.region ?_
      refine G.v (rv_assign rfl) rfl ?_
      refine G.done ?_
      refine G.thenN ?_
      refine G.ret ?_
      refine G.thenR ?_
      first | exact G.retFV rfl rfl rfl | (exfalso; simp_all)
  · try exact Bool.noConfusion hc
    all_goals
     try replace hc := of_decide_eq_false hc
     try (exfalso; first | contradiction | omega)
     all_goals
      refine G.skip ?_
      refine G.thenN ?_
      refine G.seq ?_
      refine G.region ?_
      (first | refine G.v (rv_loadW 0 rfl rfl rfl) rfl ?_ | refine G.v (rv_loadW 1 rfl rfl rfl) rfl ?_ | refine G.v (rv_loadW 2 rfl rfl rfl) rfl ?_ | refine G.v (rv_loadW 3 rfl rfl rfl) rfl ?_ | refine G.v (rv_loadW 4 rfl rfl rfl) rfl ?_ | refine G.v (rv_loadW 5 rfl rfl rfl) rfl ?_ | refine G.v (rv_loadEW rfl (by first | exact Rd.stays (by assumption) | exact Rd.owned 0 rfl | exact Rd.owned 1 rfl | exact Rd.owned 2 rfl | exact Rd.owned 3 rfl | exact Rd.owned 4 rfl | exact Rd.owned 5 rfl) (by assumption) rfl) rfl ?_ | refine G.v (rv_loadS 0 rfl rfl rfl rfl) rfl ?_ | refine G.v (rv_loadS 1 rfl rfl rfl rfl) rfl ?_ | refine G.v (rv_loadS 2 rfl rfl rfl rfl) rfl ?_ | refine G.v (rv_loadS 3 rfl rfl rfl rfl) rfl ?_ | refine G.v (rv_loadS 4 rfl rfl rfl rfl) rfl ?_ | refine G.v (rv_loadS 5 rfl rfl rfl rfl) rfl ?_ | refine G.v (rv_loadES rfl (by first | exact Rd.stays (by assumption) | exact Rd.owned 0 rfl | exact Rd.owned 1 rfl | exact Rd.owned 2 rfl | exact Rd.owned 3 rfl | exact Rd.owned 4 rfl | exact Rd.owned 5 rfl) (by assumption) rfl rfl) rfl ?_)
      refine G.op (og_callV rfl rfl (fun w _ => toPallet_any _ w)) rfl (fun _ _ => ?_)
      refine G.v (rv_move rfl) rfl ?_
      (refine G.op (og_callF rfl rfl (fun w hh => toLayerS_any w (by first | exact Rd.stays (by assumption) _ hh | exact Rd.owned 0 rfl _ hh | exact Rd.owned 1 rfl _ hh | exact Rd.owned 2 rfl _ hh | exact Rd.owned 3 rfl _ hh) (by first | exact Subs.stays (by assumption) _ hh | exact Subs.owned 0 rfl _ hh | exact Subs.owned 1 rfl _ hh | exact Subs.owned 2 rfl _ hh | exact Subs.owned 3 rfl _ hh) (by (try simp only [szM] at *); omega))) rfl ?_; rintro ⟨v, l⟩ hvl)
      refine G.op (og_callV rfl rfl (fun w hh => specStacksOk_any _ w (by first | exact Rd.stays (by assumption) _ hh | exact Rd.owned 0 rfl _ hh | exact Rd.owned 1 rfl _ hh | exact Rd.owned 2 rfl _ hh | exact Rd.owned 3 rfl _ hh | exact Rd.owned 4 rfl _ hh | exact Rd.owned 5 rfl _ hh))) rfl (fun _ _ => ?_)
      refine G.v (rv_assign rfl) rfl ?_
      refine G.done ?_
      refine G.thenN ?_
      refine G.seq ?_
      refine G.region ?_
      refine G.v (rv_move rfl) rfl ?_
      (refine G.op (og_callF rfl rfl (fun w hh => toLayerS_any w (by first | exact Rd.stays (by assumption) _ hh | exact Rd.owned 0 rfl _ hh | exact Rd.owned 1 rfl _ hh | exact Rd.owned 2 rfl _ hh | exact Rd.owned 3 rfl _ hh) (by first | exact Subs.stays (by assumption) _ hh | exact Subs.owned 0 rfl _ hh | exact Subs.owned 1 rfl _ hh | exact Subs.owned 2 rfl _ hh | exact Subs.owned 3 rfl _ hh) (by (try simp only [szM] at *); omega))) rfl ?_; rintro ⟨v, l⟩ hvl)
      refine G.v (rv_assign rfl) rfl ?_
      refine G.done ?_
      refine G.thenN ?_
      refine G.seq ?_
      refine G.region ?_
      (first | refine G.v (rv_loadW 0 rfl rfl rfl) rfl ?_ | refine G.v (rv_loadW 1 rfl rfl rfl) rfl ?_ | refine G.v (rv_loadW 2 rfl rfl rfl) rfl ?_ | refine G.v (rv_loadW 3 rfl rfl rfl) rfl ?_ | refine G.v (rv_loadW 4 rfl rfl rfl) rfl ?_ | refine G.v (rv_loadW 5 rfl rfl rfl) rfl ?_ | refine G.v (rv_loadEW rfl (by first | exact Rd.stays (by assumption) | exact Rd.owned 0 rfl | exact Rd.owned 1 rfl | exact Rd.owned 2 rfl | exact Rd.owned 3 rfl | exact Rd.owned 4 rfl | exact Rd.owned 5 rfl) (by assumption) rfl) rfl ?_ | refine G.v (rv_loadS 0 rfl rfl rfl rfl) rfl ?_ | refine G.v (rv_loadS 1 rfl rfl rfl rfl) rfl ?_ | refine G.v (rv_loadS 2 rfl rfl rfl rfl) rfl ?_ | refine G.v (rv_loadS 3 rfl rfl rfl rfl) rfl ?_ | refine G.v (rv_loadS 4 rfl rfl rfl rfl) rfl ?_ | refine G.v (rv_loadS 5 rfl rfl rfl rfl) rfl ?_ | refine G.v (rv_loadES rfl (by first | exact Rd.stays (by assumption) | exact Rd.owned 0 rfl | exact Rd.owned 1 rfl | exact Rd.owned 2 rfl | exact Rd.owned 3 rfl | exact Rd.owned 4 rfl | exact Rd.owned 5 rfl) (by assumption) rfl rfl) rfl ?_)
      refine G.op (og_callV rfl rfl (fun w _ => toPallet_any _ w)) rfl (fun _ _ => ?_)
      refine G.v (rv_move rfl) rfl ?_
      refine G.op (og_callV rfl rfl (fun w hh => implStacksOk_any _ w (by first | exact Rd.stays (by assumption) _ hh | exact Rd.owned 0 rfl _ hh | exact Rd.owned 1 rfl _ hh | exact Rd.owned 2 rfl _ hh | exact Rd.owned 3 rfl _ hh | exact Rd.owned 4 rfl _ hh | exact Rd.owned 5 rfl _ hh))) rfl (fun _ _ => ?_)
      refine G.v (rv_assign rfl) rfl ?_
      refine G.done ?_
      refine G.thenN ?_
      refine G.seq ?_
      refine G.seq ?_
      refine G.region ?_
      refine G.v (rv_move rfl) rfl ?_
      refine G.v (rv_move rfl) rfl ?_
      refine G.v (rv_neqb rfl rfl) rfl ?_
      refine G.done ?_
      refine G.thenN ?_
      refine G.cond rfl (fun hc => ?_) (fun hc => ?_)
      · try exact Bool.noConfusion hc
        all_goals
         try replace hc := of_decide_eq_true hc
         try (exfalso; first | contradiction | omega)
         all_goals
          refine G.seq ?_
          refine G.region ?_
          refine G.v (rv_assign rfl) rfl ?_
          refine G.done ?_
          refine G.thenN ?_
          refine G.ret ?_
          refine G.thenR ?_
          first | exact G.retFV rfl rfl rfl | (exfalso; simp_all)
      · try exact Bool.noConfusion hc
        all_goals
         try replace hc := of_decide_eq_false hc
         try (exfalso; first | contradiction | omega)
         all_goals
          refine G.skip ?_
          refine G.thenN ?_
          refine G.seq ?_
          refine G.seq ?_
          refine G.region ?_
          refine G.v (rv_move rfl) rfl ?_
          refine G.v (rv_move rfl) rfl ?_
          (refine G.op (og_callF rfl rfl (fun w hh => toLayerS_any w (by first | exact Rd.stays (by assumption) _ hh | exact Rd.owned 0 rfl _ hh | exact Rd.owned 1 rfl _ hh | exact Rd.owned 2 rfl _ hh | exact Rd.owned 3 rfl _ hh) (by first | exact Subs.stays (by assumption) _ hh | exact Subs.owned 0 rfl _ hh | exact Subs.owned 1 rfl _ hh | exact Subs.owned 2 rfl _ hh | exact Subs.owned 3 rfl _ hh) (by (try simp only [szM] at *); omega))) rfl ?_; rintro ⟨v, l⟩ hvl)
          refine G.op (og_callV rfl rfl (fun w hh => eqLayerS_any w (by first | exact Rd.stays (by assumption) _ hh | exact Rd.owned 0 rfl _ hh | exact Rd.owned 1 rfl _ hh | exact Rd.owned 2 rfl _ hh | exact Rd.owned 3 rfl _ hh) (by first | exact Subs.stays (by assumption) _ hh | exact Subs.owned 0 rfl _ hh | exact Subs.owned 1 rfl _ hh | exact Subs.owned 2 rfl _ hh | exact Subs.owned 3 rfl _ hh) (by first | exact Rd.stays (by assumption) _ hh | exact Rd.owned 0 rfl _ hh | exact Rd.owned 1 rfl _ hh | exact Rd.owned 2 rfl _ hh | exact Rd.owned 3 rfl _ hh) (by first | exact Subs.stays (by assumption) _ hh | exact Subs.owned 0 rfl _ hh | exact Subs.owned 1 rfl _ hh | exact Subs.owned 2 rfl _ hh | exact Subs.owned 3 rfl _ hh))) rfl (fun _ _ => ?_)
          refine G.v (rv_not rfl) rfl ?_
          refine G.done ?_
          refine G.thenN ?_
          refine G.cond rfl (fun hc => ?_) (fun hc => ?_)
          · try exact Bool.noConfusion hc
            all_goals
             try replace hc := of_decide_eq_true hc
             try (exfalso; first | contradiction | omega)
             all_goals
              refine G.seq ?_
              refine G.region ?_
              refine G.v (rv_assign rfl) rfl ?_
              refine G.done ?_
              refine G.thenN ?_
              refine G.ret ?_
              refine G.thenR ?_
              first | exact G.retFV rfl rfl rfl | (exfalso; simp_all)
          · try exact Bool.noConfusion hc
            all_goals
             try replace hc := of_decide_eq_false hc
             try (exfalso; first | contradiction | omega)
             all_goals
              refine G.skip ?_
              refine G.thenN ?_
              refine G.seq ?_
              refine G.region ?_
              refine G.v (rv_assign rfl) rfl ?_
              refine G.done ?_
              refine G.thenN ?_
              refine G.ret ?_
              first | exact G.retFV rfl rfl rfl | (exfalso; simp_all)
end Go.Proofs.Ytihgahmdofpfmaa
