/-
  Kinds that may lie beside one another; the names of an order.
-/
import Derived.Test.YtpmphkcibiimcaaGreatReq5
import Derived.Test.YtpmphkcibiimcaaGreatSlc
namespace Go.Proofs.YtpmphkcibiimcaaGreat
open Go.RowKit
attribute [local irreducible] Go.wpList Go.Code.wp Go.Exit.then Go.Exit.inBlock Go.bodyPost Go.Calls pE pB G RunsV FnV Fn FnM
set_option maxRecDepth 100000
set_option maxHeartbeats 1000000
theorem rv_eqlPair {P : Program} {n : Nat} {w0 : World} {fr : Fr} {H : List Ch} {x y : Operand} {t t' : TypeId} [hT : TySI P t 2] {a b : PairM} (hx : opv fr x = some (.agg a.cells.toArray)) (hy : opv fr y = some (.agg b.cells.toArray)) : RunsV P n w0 fr H (.binOp .eql t x y t') (.bool (decide (a = b))) := by
  have := rv_eqlL (P := P) (n := n) (w0 := w0) (H := H) (t := t) (t' := t') (xs := [a.a, a.b]) (ys := [b.a, b.b]) hx hy rfl rfl
  rwa [show decide ([a.a, a.b] = [b.a, b.b]) = decide (a = b) from decide_eq_decide.2 (by cases a; cases b; simp)] at this
theorem beside_eq (l : List PairM) (a b : Int) : l.any (fun p => decide (PairM.mk a b = p)) = besideM l a b := by
  rw [besideM]
  congr 1
  funext p
  obtain ⟨x, y⟩ := p
  rw [← Bool.decide_and]
  exact decide_eq_decide.2 (by simp only [PairM.mk.injEq]; constructor <;> rintro ⟨rfl, rfl⟩ <;> exact ⟨rfl, rfl⟩)
theorem findPair_any {v : Value} {l : List PairM} (c : PairM) (w : World) (h : Rd w v 2 (l.map PairM.cells)) : FnV Tryz.prog 157 [v, c.val] w (.int .i64 (idxM (fun p => decide (c = p)) l)) := by
  have hle := h.le_map
  refine FnV.of (n := 19) Tryz.func157 rfl rfl ?_
  refine G.seq ?_
  refine G.region ?_
  refine G.op (og_box rfl rfl) rfl (fun bk3 _ => ?_)
  refine G.v (rv_assign rfl) rfl ?_
  refine G.done ?_
  refine G.thenN ?_
  refine G.seq ?_
  refine G.seq ?_
  refine G.region ?_
  refine G.v (rv_move rfl) rfl ?_
  refine G.v (rv_len rfl (by first | exact Rd.stays (by assumption) | exact Rd.owned 0 rfl)) rfl ?_
  refine G.v (rv_move rfl) rfl ?_
  refine G.done ?_
  refine G.thenN ?_
  refine G.block ?_
  -- loop 0: turned [8], kept [0, 3, 7]
  refine G.loopK (ι := Nat) (ks := [0, 3, 7]) (fun k => [(8, .int .i64 k)]) (fun _ => []) (fun k => k ≤ l.length ∧ (l.take k).any (fun p => decide (c = p)) = false) (fun k => l.length - k) 0 (.cons rfl (.cons rfl (.cons rfl (.nil)))) rfl ?_ ?_ ?_
  · exact ⟨Nat.zero_le _, rfl⟩
  · exact ⟨rfl, trivial⟩
  rintro k ⟨hk, ht⟩
  by_cases hlt : k < l.length
  case' pos => (obtain ⟨b, hb⟩ := get_of_lt hlt; have he := get_map hb PairM.cells)
  all_goals
   refine G.seq ?_
   refine G.region ?_
   refine G.v (rv_lss rfl rfl) rfl ?_
   refine G.done ?_
   refine G.thenN ?_
   refine G.seq ?_
   refine G.cond rfl (fun hc => ?_) (fun hc => ?_)
   · try exact Bool.noConfusion hc
     all_goals
      try replace hc := of_decide_eq_true hc
      try simp only [List.length_map] at hc
      try (exfalso; first | contradiction | omega)
      all_goals
       refine G.skip ?_
       refine G.thenN ?_
       refine G.seq ?_
       refine G.block ?_
       refine G.seq ?_
       refine G.region ?_
       refine G.v (rv_move rfl) rfl ?_
       refine G.v (rv_assign rfl) rfl ?_
       refine G.done ?_
       refine G.thenN ?_
       refine G.seq ?_
       refine G.drawL [] ?_
       (first | refine GE.q 0 rfl (by as_aux_lemma => kernel_rfl) rfl (qg_runs (rv_loadW 0 rfl rfl rfl)) rfl ?_ | refine GE.q 0 rfl (by as_aux_lemma => kernel_rfl) rfl (qg_runs (rv_loadP 0 rfl rfl (.one (.one .nil)))) rfl ?_)
       refine GE.q 1 rfl (by as_aux_lemma => kernel_rfl) rfl (qg_runs (rv_move rfl)) rfl ?_
       refine GE.ol 2 (by as_aux_lemma => kernel_rfl) rfl rfl (og_runs (rv_move rfl)) rfl (fun _ _ h => by first | exact h | exact h.drop 1 | exact h.drop 2 | exact h.drop 3 | exact h.drop 4 | exact h.drop 5 | exact h.drop 6 | exact h.drop 7 | exact h.drop 8 | exact h.drop 9 | exact h.drop 10 | exact h.drop 11 | exact h.drop 12 | exact h.drop 13) (fun _ _ => ?_)
       (first | refine GE.ol 3 (by as_aux_lemma => kernel_rfl) rfl rfl (og_runs (rv_indexH rfl rfl (by first | exact Rd.stays (by assumption) | exact Rd.owned 0 rfl) rfl (by assumption))) rfl (fun _ _ h => by first | exact h | exact h.drop 1 | exact h.drop 2 | exact h.drop 3 | exact h.drop 4 | exact h.drop 5 | exact h.drop 6 | exact h.drop 7 | exact h.drop 8 | exact h.drop 9 | exact h.drop 10 | exact h.drop 11 | exact h.drop 12 | exact h.drop 13) (fun _ _ => ?_) | refine GE.ol 3 (by as_aux_lemma => kernel_rfl) rfl rfl (og_runs (rv_index rfl rfl (by first | exact Rd.stays (by assumption) | exact Rd.owned 0 rfl) rfl (by assumption))) rfl (fun _ _ h => by first | exact h | exact h.drop 1 | exact h.drop 2 | exact h.drop 3 | exact h.drop 4 | exact h.drop 5 | exact h.drop 6 | exact h.drop 7 | exact h.drop 8 | exact h.drop 9 | exact h.drop 10 | exact h.drop 11 | exact h.drop 12 | exact h.drop 13) (fun _ _ => ?_))
       (first | refine GE.ol 4 (by as_aux_lemma => kernel_rfl) rfl rfl (og_runs (rv_loadEW rfl (by first | exact Rd.stays (by assumption) | exact Rd.owned 0 rfl) (by assumption) rfl)) rfl (fun _ _ h => by first | exact h | exact h.drop 1 | exact h.drop 2 | exact h.drop 3 | exact h.drop 4 | exact h.drop 5 | exact h.drop 6 | exact h.drop 7 | exact h.drop 8 | exact h.drop 9 | exact h.drop 10 | exact h.drop 11 | exact h.drop 12 | exact h.drop 13) (fun _ _ => ?_) | refine GE.ol 4 (by as_aux_lemma => kernel_rfl) rfl rfl (og_runs (rv_loadEP rfl (by first | exact Rd.stays (by assumption) | exact Rd.owned 0 rfl) (by assumption) (.one (.one .nil)))) rfl (fun _ _ h => by first | exact h | exact h.drop 1 | exact h.drop 2 | exact h.drop 3 | exact h.drop 4 | exact h.drop 5 | exact h.drop 6 | exact h.drop 7 | exact h.drop 8 | exact h.drop 9 | exact h.drop 10 | exact h.drop 11 | exact h.drop 12 | exact h.drop 13) (fun _ _ => ?_))
       refine GE.ol 5 (by as_aux_lemma => kernel_rfl) rfl rfl (og_runs (rv_eqlPair rfl rfl)) rfl (fun _ _ h => by first | exact h | exact h.drop 1 | exact h.drop 2 | exact h.drop 3 | exact h.drop 4 | exact h.drop 5 | exact h.drop 6 | exact h.drop 7 | exact h.drop 8 | exact h.drop 9 | exact h.drop 10 | exact h.drop 11 | exact h.drop 12 | exact h.drop 13) (fun _ _ => ?_)
       refine GE.done (by as_aux_lemma => kernel_rfl) ?_
       refine G.thenN ?_
       refine G.cond rfl (fun hc => ?_) (fun hc => ?_)
       · try exact Bool.noConfusion hc
         all_goals
          try replace hc := of_decide_eq_true hc
          try simp only [List.length_map] at hc
          try (exfalso; first | contradiction | omega)
          all_goals
           refine G.seq ?_
           refine G.region ?_
           refine G.v (rv_move rfl) rfl ?_
           refine G.v (rv_assign rfl) rfl ?_
           refine G.done ?_
           refine G.thenN ?_
           refine G.ret ?_
           refine G.inR ?_
           refine G.thenR ?_
           refine G.thenR ?_
           refine G.inR ?_
           refine G.thenR ?_
           first | exact G.retFV rfl rfl (congrArg (Value.int .i64) (idx_at ht hb (by simpa using hc)).symm) | exact G.retFV rfl rfl (congrArg (Value.int .i64) (idx_none ht hlt).symm)
       · try exact Bool.noConfusion hc
         all_goals
          try replace hc := of_decide_eq_false hc
          try simp only [List.length_map] at hc
          try (exfalso; first | contradiction | omega)
          all_goals
           refine G.skip ?_
           refine G.inN ?_
           refine G.thenN ?_
           refine G.region ?_
           (first | refine G.v (rv_incr rfl rfl (by omega)) rfl ?_ | refine G.v (rv_addB rfl rfl (by omega) (by omega)) rfl ?_)
           refine G.v (rv_move rfl) rfl ?_
           refine G.done ?_
           first | refine G.backK (k + 1) 0 rfl (.cons rfl (.cons rfl (.cons rfl (.nil)))) ?_ ?_ ?_ | refine G.backK (k + 1) 1 rfl (.cons rfl (.cons rfl (.cons rfl (.nil)))) ?_ ?_ ?_
           · exact ⟨rfl, trivial⟩
           · exact ⟨hlt, any_next ht hb (by simpa using hc)⟩
           · omega
   · try exact Bool.noConfusion hc
     all_goals
      try replace hc := of_decide_eq_false hc
      try simp only [List.length_map] at hc
      try (exfalso; first | contradiction | omega)
      all_goals
       refine G.exit ?_
       refine G.thenX ?_
       refine G.thenX ?_
       refine G.inX ?_
       refine G.thenN ?_
       refine G.seq ?_
       refine G.region ?_
       refine G.v (rv_assign rfl) rfl ?_
       refine G.done ?_
       refine G.thenN ?_
       refine G.ret ?_
       first | exact G.retFV rfl rfl (congrArg (Value.int .i64) (idx_at ht hb (by simpa using hc)).symm) | exact G.retFV rfl rfl (congrArg (Value.int .i64) (idx_none ht hlt).symm)
theorem hasPair_any {v : Value} {l : List PairM} (c : PairM) (w : World) (h : Rd w v 2 (l.map PairM.cells)) : FnV Tryz.prog 139 [v, c.val] w (.bool (l.any (fun p => decide (c = p)))) := by
  refine FnV.of (n := 9) Tryz.func139 rfl rfl ?_
  refine G.seq ?_
  refine G.region ?_
  refine G.op (og_box rfl rfl) rfl (fun bk3 _ => ?_)
  refine G.v (rv_assign rfl) rfl ?_
  refine G.done ?_
  refine G.thenN ?_
  refine G.seq ?_
  refine G.region ?_
  refine G.v (rv_move rfl) rfl ?_
  (first | refine G.v (rv_loadW 0 rfl rfl rfl) rfl ?_ | refine G.v (rv_loadP 0 rfl rfl (.one (.one .nil))) rfl ?_)
  refine G.op (og_callV rfl rfl (fun w hh => findPair_any c w (Rd.stays h _ hh))) rfl (fun _ _ => ?_)
  refine G.v (rv_geq rfl rfl) rfl ?_
  refine G.v (rv_assign rfl) rfl ?_
  refine G.done ?_
  refine G.thenN ?_
  refine G.ret ?_
  exact G.retFV rfl rfl (congrArg Value.bool (idx_any _ l))
theorem beside_any {v : Value} {l : List PairM} (a b : Int) (w : World) (h : Rd w v 2 (l.map PairM.cells)) : FnV Tryz.prog 123 [v, .int .i64 a, .int .i64 b] w (.bool (besideM l a b)) := by
  refine FnV.of (n := 12) Tryz.func123 rfl rfl ?_
  refine G.seq ?_
  refine G.region ?_
  refine G.v (rv_assign rfl) rfl ?_
  refine G.done ?_
  refine G.thenN ?_
  refine G.seq ?_
  refine G.region ?_
  refine G.v (rv_move rfl) rfl ?_
  refine G.v (rv_move rfl) rfl ?_
  refine G.v (rv_move rfl) rfl ?_
  refine G.v (rv_build2 rfl (.cons rfl (.cons rfl .nil)) (.cons rfl rfl (.zero (.cons .nil)) (.cons rfl rfl (.succ (.zero (.cons .nil))) .nil))) rfl ?_
  refine G.op (og_callV rfl rfl (fun w hh => hasPair_any ⟨a, b⟩ w (Rd.stays h _ hh))) rfl (fun _ _ => ?_)
  refine G.v (rv_assign rfl) rfl ?_
  refine G.done ?_
  refine G.thenN ?_
  refine G.ret ?_
  exact G.retFV rfl rfl (congrArg Value.bool (beside_eq l a b))
theorem sbeside_any {v : Value} {l : List PairM} (a b : Int) (w : World) (h : Rd w v 2 (l.map PairM.cells)) : FnV Tryz.prog 106 [v, .int .i64 a, .int .i64 b] w (.bool (besideM l a b)) := by
  have hle := h.le_map
  refine FnV.of (n := 30) Tryz.func106 rfl rfl ?_
  refine G.seq ?_
  refine G.region ?_
  refine G.v (rv_assign rfl) rfl ?_
  refine G.done ?_
  refine G.thenN ?_
  refine G.seq ?_
  refine G.seq ?_
  refine G.region ?_
  refine G.v (rv_assign rfl) rfl ?_
  refine G.done ?_
  refine G.thenN ?_
  refine G.block ?_
  -- loop 0: turned [7], kept [0, 1, 2]
  refine G.loopK (ι := Nat) (ks := [0, 1, 2]) (fun k => [(7, .int .i64 k)]) (fun _ => []) (fun k => k ≤ l.length ∧ (l.take k).any (fun p => decide (p.a = a) && decide (p.b = b)) = false) (fun k => l.length - k) 0 (.cons rfl (.cons rfl (.cons rfl (.nil)))) rfl ?_ ?_ ?_
  · exact ⟨Nat.zero_le _, rfl⟩
  · exact ⟨rfl, trivial⟩
  rintro k ⟨hk, ht⟩
  by_cases hlt : k < l.length
  case' pos => (obtain ⟨c, hb⟩ := get_of_lt hlt; have he := get_map hb PairM.cells)
  all_goals
   refine G.seq ?_
   refine G.seq ?_
   refine G.region ?_
   refine G.v (rv_move rfl) rfl ?_
   refine G.v (rv_move rfl) rfl ?_
   refine G.v (rv_len rfl (by first | exact Rd.stays (by assumption) | exact Rd.owned 0 rfl)) rfl ?_
   refine G.v (rv_lss rfl rfl) rfl ?_
   refine G.done ?_
   refine G.thenN ?_
   refine G.cond rfl (fun hc => ?_) (fun hc => ?_)
   · try exact Bool.noConfusion hc
     all_goals
      try replace hc := of_decide_eq_true hc
      try simp only [List.length_map] at hc
      try (exfalso; first | contradiction | omega)
      all_goals
       refine G.skip ?_
       refine G.thenN ?_
       refine G.seq ?_
       refine G.block ?_
       refine G.seq ?_
       refine G.region ?_
       refine G.v (rv_move rfl) rfl ?_
       refine G.v (rv_move rfl) rfl ?_
       (first | refine G.v (rv_indexH rfl rfl (by first | exact Rd.stays (by assumption) | exact Rd.owned 0 rfl) rfl (by assumption)) rfl ?_ | refine G.v (rv_index rfl rfl (by first | exact Rd.stays (by assumption) | exact Rd.owned 0 rfl) rfl (by assumption)) rfl ?_)
       (first | refine G.v (rv_field rfl) rfl ?_ | refine G.v (rv_fieldE rfl) rfl ?_)
       refine G.v (rv_loadE rfl (by first | exact Rd.stays (by assumption) | exact Rd.owned 0 rfl) (by assumption) rfl) rfl ?_
       refine G.v (rv_move rfl) rfl ?_
       refine G.v (rv_eql rfl rfl) rfl ?_
       refine G.v (rv_move rfl) rfl ?_
       all_goals (((with_reducible refine G.gP rfl rfl (fun hg => ?_) (fun hg => ?_)) <;> (try exact Bool.noConfusion hg) <;> (first | (refine G.gY rfl rfl ?_; refine G.v (rv_move rfl) rfl ?_) | refine G.gN rfl rfl rfl ?_ | refine G.gU rfl rfl rfl ?_)))
       all_goals ((first | (refine G.gY rfl rfl ?_; refine G.v (rv_move rfl) rfl ?_) | refine G.gN rfl rfl rfl ?_ | refine G.gU rfl rfl rfl ?_))
       all_goals ((first | (refine G.gY rfl rfl ?_; (first | refine G.v (rv_indexH rfl rfl (by first | exact Rd.stays (by assumption) | exact Rd.owned 0 rfl) rfl (by assumption)) rfl ?_ | refine G.v (rv_index rfl rfl (by first | exact Rd.stays (by assumption) | exact Rd.owned 0 rfl) rfl (by assumption)) rfl ?_)) | refine G.gN rfl rfl rfl ?_ | refine G.gU rfl rfl rfl ?_))
       all_goals ((first | (refine G.gY rfl rfl ?_; (first | refine G.v (rv_field rfl) rfl ?_ | refine G.v (rv_fieldE rfl) rfl ?_)) | refine G.gN rfl rfl rfl ?_ | refine G.gU rfl rfl rfl ?_))
       all_goals ((first | (refine G.gY rfl rfl ?_; refine G.v (rv_loadE rfl (by first | exact Rd.stays (by assumption) | exact Rd.owned 0 rfl) (by assumption) rfl) rfl ?_) | refine G.gN rfl rfl rfl ?_ | refine G.gU rfl rfl rfl ?_))
       all_goals ((first | (refine G.gY rfl rfl ?_; refine G.v (rv_move rfl) rfl ?_) | refine G.gN rfl rfl rfl ?_ | refine G.gU rfl rfl rfl ?_))
       all_goals ((first | (refine G.gY rfl rfl ?_; refine G.v (rv_eql rfl rfl) rfl ?_) | refine G.gN rfl rfl rfl ?_ | refine G.gU rfl rfl rfl ?_))
       all_goals ((first | refine G.v (rv_pickT rfl rfl) rfl ?_ | refine G.v (rv_pickF rfl rfl) rfl ?_))
       all_goals
        refine G.done ?_
        refine G.thenN ?_
        refine G.cond rfl (fun hc => ?_) (fun hc => ?_)
        · try exact Bool.noConfusion hc
          all_goals
           try replace hc := of_decide_eq_true hc
           try simp only [List.length_map] at hc
           try (exfalso; first | contradiction | omega)
           all_goals
            refine G.seq ?_
            refine G.region ?_
            refine G.v (rv_assign rfl) rfl ?_
            refine G.done ?_
            refine G.thenN ?_
            refine G.ret ?_
            refine G.inR ?_
            refine G.thenR ?_
            refine G.thenR ?_
            refine G.inR ?_
            refine G.thenR ?_
            first | (refine G.retFV rfl rfl (congrArg Value.bool ?_); rw [besideM, ← idx_any, idx_none ht hlt]; rfl) | (refine G.retFV rfl rfl (congrArg Value.bool ?_); rw [besideM, ← idx_any, idx_at ht hb (by simp_all)]; exact (decide_eq_true (by omega)).symm)
        · try exact Bool.noConfusion hc
          all_goals
           try replace hc := of_decide_eq_false hc
           try simp only [List.length_map] at hc
           try (exfalso; first | contradiction | omega)
           all_goals
            refine G.skip ?_
            refine G.inN ?_
            refine G.thenN ?_
            refine G.region ?_
            refine G.v (rv_move rfl) rfl ?_
            (first | refine G.v (rv_incr rfl rfl (by omega)) rfl ?_ | refine G.v (rv_addB rfl rfl (by omega) (by omega)) rfl ?_)
            refine G.v (rv_assign rfl) rfl ?_
            refine G.done ?_
            first | refine G.backK (k + 1) 0 rfl (.cons rfl (.cons rfl (.cons rfl (.nil)))) ?_ ?_ ?_ | refine G.backK (k + 1) 1 rfl (.cons rfl (.cons rfl (.cons rfl (.nil)))) ?_ ?_ ?_
            · exact ⟨rfl, trivial⟩
            · exact ⟨hlt, any_next ht hb (by simp_all)⟩
            · omega
   · try exact Bool.noConfusion hc
     all_goals
      try replace hc := of_decide_eq_false hc
      try simp only [List.length_map] at hc
      try (exfalso; first | contradiction | omega)
      all_goals
       refine G.exit ?_
       refine G.thenX ?_
       refine G.thenX ?_
       refine G.inX ?_
       refine G.thenN ?_
       refine G.seq ?_
       refine G.region ?_
       refine G.v (rv_assign rfl) rfl ?_
       refine G.done ?_
       refine G.thenN ?_
       refine G.ret ?_
       first | (refine G.retFV rfl rfl (congrArg Value.bool ?_); rw [besideM, ← idx_any, idx_none ht hlt]; rfl) | (refine G.retFV rfl rfl (congrArg Value.bool ?_); rw [besideM, ← idx_any, idx_at ht hb (by simp_all)]; exact (decide_eq_true (by omega)).symm)
def tblRow (ps : List PairM) (m : Nat) (a : Nat) : Bool := besideM ps a a && (List.range m).all fun b => besideM ps a b == besideM ps b a
def tblCell (ps : List PairM) (a b : Nat) : Bool := (!decide (a = b) || besideM ps a a) && (besideM ps a b == besideM ps b a)
theorem tbl_row {ps : List PairM} {m a : Nat} (ha : a < m) : (List.range m).all (tblCell ps a) = tblRow ps m a := by
  rw [Bool.eq_iff_iff]
  simp only [List.all_eq_true, List.mem_range, tblRow, tblCell, Bool.and_eq_true, Bool.or_eq_true, Bool.not_eq_true', decide_eq_false_iff_not]
  constructor
  · intro h
    exact ⟨((h a ha).1).resolve_left (fun hn => hn rfl), fun b hb => (h b hb).2⟩
  · intro h b hb
    exact ⟨.inr h.1, h.2 b hb⟩
theorem tbl_in {ps : List PairM} {m : Nat} (h1 : 1 ≤ m) (h2 : m ≤ 4) : tableOkM ps (m : Int) = (List.range m).all (tblRow ps m) := by
  have : inB (m : Int) 1 4 = true := by simp [inB]; omega
  rw [tableOkM, this, Bool.true_and, Int.toNat_natCast]
  rfl
theorem rall_next {f : Nat → Bool} {k : Nat} (h : (List.range k).all f = true) (hk : f k = true) : (List.range (k + 1)).all f = true := by
  rw [List.range_succ, List.all_append, h]; simp [hk]
theorem rall_no {f : Nat → Bool} {m k : Nat} (h : k < m) (hk : f k = false) : (List.range m).all f = false := by
  rw [List.all_eq_false]; exact ⟨k, List.mem_range.2 h, by simp [hk]⟩
theorem classes_nat {n : Int} (h : inB n 1 4 = true) : ∃ m : Nat, n = m ∧ 1 ≤ m ∧ m ≤ 4 := by
  simp only [inB, Bool.and_eq_true, decide_eq_true_eq] at h
  exact ⟨n.toNat, by omega, by omega, by omega⟩
theorem tableOk_any {v : Value} {l : List PairM} (n : Int) (w : World) (h : Rd w v 2 (l.map PairM.cells)) : FnV Tryz.prog 113 [v, .int .i64 n] w (.bool (tableOkM l n)) := by
  refine FnV.of (n := 34) Tryz.func113 rfl rfl ?_
  refine G.seq ?_
  refine G.region ?_
  refine G.v (rv_assign rfl) rfl ?_
  refine G.done ?_
  refine G.thenN ?_
  refine G.seq ?_
  refine G.seq ?_
  refine G.region ?_
  refine G.v (rv_move rfl) rfl ?_
  refine G.op (og_callV rfl rfl (fun w _ => in_any _ _ _ w)) rfl (fun _ _ => ?_)
  refine G.v (rv_not rfl) rfl ?_
  refine G.done ?_
  refine G.thenN ?_
  refine G.cond rfl (fun hc => ?_) (fun hc => ?_)
  · try exact Bool.noConfusion hc
    all_goals
     try replace hc := of_decide_eq_true hc
     try (exfalso; first | contradiction | omega)
     all_goals
      refine G.seq ?_
      refine G.region ?_
      refine G.v (rv_assign rfl) rfl ?_
      refine G.done ?_
      refine G.thenN ?_
      refine G.ret ?_
      refine G.thenR ?_
      first | (refine G.retFV rfl rfl (congrArg Value.bool ?_); rw [tbl_in hm1 hm4, rall_no hlt (by rw [tblRow, rall_no hlt2 (by simpa using hc), Bool.and_false])]; done) | (refine G.retFV rfl rfl (congrArg Value.bool ?_); rw [tbl_in hm1 hm4, rall_no hlt (by rw [tblRow, (by simpa using hc : besideM l k k = false), Bool.false_and])]; done) | (have hkm : k = m := (by omega); refine G.retFV rfl rfl (congrArg Value.bool ?_); rw [hkm] at ht; rw [tbl_in hm1 hm4]; exact ht.symm) | (refine G.retFV rfl rfl (congrArg Value.bool ?_); rw [tableOkM, (by simpa using hc : inB n 1 4 = false)]; rfl)
  · try exact Bool.noConfusion hc
    all_goals
     try replace hc := of_decide_eq_false hc
     try (exfalso; first | contradiction | omega)
     all_goals
      refine G.skip ?_
      refine G.thenN ?_
      refine G.seq ?_
      refine G.seq ?_
      refine G.region ?_
      refine G.v (rv_move rfl) rfl ?_
      refine G.v (rv_move rfl) rfl ?_
      refine G.done ?_
      refine G.thenN ?_
      refine G.block ?_
      -- loop 0: turned [11], kept [0, 1, 10]
      obtain ⟨m, hm, hm1, hm4⟩ := classes_nat (n := n) (by simpa using hc)
      subst hm
      refine G.loopK (ι := Nat) (ks := [0, 1, 10]) (fun k => [(11, .int .i64 k)]) (fun _ => []) (fun k => k ≤ m ∧ (List.range k).all (tblRow l m) = true) (fun k => m - k) 0 (.cons rfl (.cons rfl (.cons rfl (.nil)))) rfl ?_ ?_ ?_
      · exact ⟨Nat.zero_le _, rfl⟩
      · exact ⟨rfl, trivial⟩
      rintro k ⟨hk, ht⟩
      by_cases hlt : k < m
      all_goals
       refine G.seq ?_
       refine G.region ?_
       refine G.v (rv_lss rfl rfl) rfl ?_
       refine G.done ?_
       refine G.thenN ?_
       refine G.seq ?_
       refine G.cond rfl (fun hc => ?_) (fun hc => ?_)
       · try exact Bool.noConfusion hc
         all_goals
          try replace hc := of_decide_eq_true hc
          try (exfalso; first | contradiction | omega)
          all_goals
           refine G.skip ?_
           refine G.thenN ?_
           refine G.seq ?_
           refine G.block ?_
           refine G.seq ?_
           refine G.region ?_
           refine G.v (rv_move rfl) rfl ?_
           refine G.v (rv_assign rfl) rfl ?_
           refine G.done ?_
           refine G.thenN ?_
           refine G.seq ?_
           refine G.seq ?_
           refine G.region ?_
           refine G.v (rv_move rfl) rfl ?_
           refine G.v (rv_move rfl) rfl ?_
           refine G.v (rv_move rfl) rfl ?_
           refine G.op (og_callV rfl rfl (fun w hh => beside_any _ _ w (by first | exact Rd.stays (by assumption) _ hh | exact Rd.owned 0 rfl _ hh | exact Rd.owned 1 rfl _ hh | exact Rd.owned 2 rfl _ hh | exact Rd.owned 3 rfl _ hh | exact Rd.owned 4 rfl _ hh | exact Rd.owned 5 rfl _ hh | exact Rd.owned 6 rfl _ hh | exact Rd.owned 7 rfl _ hh | exact Rd.owned 8 rfl _ hh | exact Rd.owned 9 rfl _ hh | exact Rd.owned 10 rfl _ hh | exact Rd.owned 11 rfl _ hh | exact Rd.owned 12 rfl _ hh | exact Rd.owned 13 rfl _ hh | exact Rd.owned 14 rfl _ hh | exact Rd.owned 15 rfl _ hh))) rfl (fun _ _ => ?_)
           refine G.v (rv_not rfl) rfl ?_
           refine G.done ?_
           refine G.thenN ?_
           refine G.cond rfl (fun hc => ?_) (fun hc => ?_)
           · try exact Bool.noConfusion hc
             all_goals
              try replace hc := of_decide_eq_true hc
              try (exfalso; first | contradiction | omega)
              all_goals
               refine G.seq ?_
               refine G.region ?_
               refine G.v (rv_assign rfl) rfl ?_
               refine G.done ?_
               refine G.thenN ?_
               refine G.ret ?_
               refine G.thenR ?_
               refine G.inR ?_
               refine G.thenR ?_
               refine G.thenR ?_
               refine G.inR ?_
               refine G.thenR ?_
               first | (refine G.retFV rfl rfl (congrArg Value.bool ?_); rw [tbl_in hm1 hm4, rall_no hlt (by rw [tblRow, rall_no hlt2 (by simpa using hc), Bool.and_false])]; done) | (refine G.retFV rfl rfl (congrArg Value.bool ?_); rw [tbl_in hm1 hm4, rall_no hlt (by rw [tblRow, (by simpa using hc : besideM l k k = false), Bool.false_and])]; done) | (have hkm : k = m := (by omega); refine G.retFV rfl rfl (congrArg Value.bool ?_); rw [hkm] at ht; rw [tbl_in hm1 hm4]; exact ht.symm) | (refine G.retFV rfl rfl (congrArg Value.bool ?_); rw [tableOkM, (by simpa using hc : inB n 1 4 = false)]; rfl)
           · try exact Bool.noConfusion hc
             all_goals
              try replace hc := of_decide_eq_false hc
              try (exfalso; first | contradiction | omega)
              all_goals
               have hbb := hc
               all_goals
                refine G.skip ?_
                refine G.thenN ?_
                refine G.seq ?_
                refine G.region ?_
                refine G.v (rv_move rfl) rfl ?_
                refine G.v (rv_move rfl) rfl ?_
                refine G.done ?_
                refine G.thenN ?_
                refine G.block ?_
                -- loop 1: turned [20], kept [0, 1, 5, 10, 11, 19]
                refine G.loopK (ι := Nat) (ks := [0, 1, 5, 10, 11, 19]) (fun k => [(20, .int .i64 k)]) (fun _ => []) (fun b => b ≤ m ∧ (List.range b).all (fun b => besideM l k b == besideM l b k) = true) (fun k => m - k) 0 (.cons rfl (.cons rfl (.cons rfl (.cons rfl (.cons rfl (.cons rfl (.nil))))))) rfl ?_ ?_ ?_
                · exact ⟨Nat.zero_le _, rfl⟩
                · exact ⟨rfl, trivial⟩
                rintro k2 ⟨hk2, ht2⟩
                by_cases hlt2 : k2 < m
                all_goals
                 refine G.seq ?_
                 refine G.region ?_
                 refine G.v (rv_lss rfl rfl) rfl ?_
                 refine G.done ?_
                 refine G.thenN ?_
                 refine G.seq ?_
                 refine G.cond rfl (fun hc => ?_) (fun hc => ?_)
                 · try exact Bool.noConfusion hc
                   all_goals
                    try replace hc := of_decide_eq_true hc
                    try (exfalso; first | contradiction | omega)
                    all_goals
                     refine G.skip ?_
                     refine G.thenN ?_
                     refine G.seq ?_
                     refine G.block ?_
                     refine G.seq ?_
                     refine G.region ?_
                     refine G.v (rv_move rfl) rfl ?_
                     refine G.v (rv_assign rfl) rfl ?_
                     refine G.done ?_
                     refine G.thenN ?_
                     refine G.seq ?_
                     refine G.region ?_
                     refine G.v (rv_move rfl) rfl ?_
                     refine G.v (rv_move rfl) rfl ?_
                     refine G.v (rv_move rfl) rfl ?_
                     refine G.op (og_callV rfl rfl (fun w hh => beside_any _ _ w (by first | exact Rd.stays (by assumption) _ hh | exact Rd.owned 0 rfl _ hh | exact Rd.owned 1 rfl _ hh | exact Rd.owned 2 rfl _ hh | exact Rd.owned 3 rfl _ hh | exact Rd.owned 4 rfl _ hh | exact Rd.owned 5 rfl _ hh | exact Rd.owned 6 rfl _ hh | exact Rd.owned 7 rfl _ hh | exact Rd.owned 8 rfl _ hh | exact Rd.owned 9 rfl _ hh | exact Rd.owned 10 rfl _ hh | exact Rd.owned 11 rfl _ hh | exact Rd.owned 12 rfl _ hh | exact Rd.owned 13 rfl _ hh | exact Rd.owned 14 rfl _ hh | exact Rd.owned 15 rfl _ hh))) rfl (fun _ _ => ?_)
                     refine G.v (rv_move rfl) rfl ?_
                     refine G.v (rv_move rfl) rfl ?_
                     refine G.v (rv_move rfl) rfl ?_
                     refine G.op (og_callV rfl rfl (fun w hh => beside_any _ _ w (by first | exact Rd.stays (by assumption) _ hh | exact Rd.owned 0 rfl _ hh | exact Rd.owned 1 rfl _ hh | exact Rd.owned 2 rfl _ hh | exact Rd.owned 3 rfl _ hh | exact Rd.owned 4 rfl _ hh | exact Rd.owned 5 rfl _ hh | exact Rd.owned 6 rfl _ hh | exact Rd.owned 7 rfl _ hh | exact Rd.owned 8 rfl _ hh | exact Rd.owned 9 rfl _ hh | exact Rd.owned 10 rfl _ hh | exact Rd.owned 11 rfl _ hh | exact Rd.owned 12 rfl _ hh | exact Rd.owned 13 rfl _ hh | exact Rd.owned 14 rfl _ hh | exact Rd.owned 15 rfl _ hh))) rfl (fun _ _ => ?_)
                     refine G.v (rv_neqb rfl rfl) rfl ?_
                     refine G.done ?_
                     refine G.thenN ?_
                     refine G.cond rfl (fun hc => ?_) (fun hc => ?_)
                     · try exact Bool.noConfusion hc
                       all_goals
                        try replace hc := of_decide_eq_true hc
                        try (exfalso; first | contradiction | omega)
                        all_goals
                         refine G.seq ?_
                         refine G.region ?_
                         refine G.v (rv_assign rfl) rfl ?_
                         refine G.done ?_
                         refine G.thenN ?_
                         refine G.ret ?_
                         refine G.inR ?_
                         refine G.thenR ?_
                         refine G.thenR ?_
                         refine G.inR ?_
                         refine G.inR ?_
                         refine G.thenR ?_
                         refine G.thenR ?_
                         refine G.inR ?_
                         refine G.thenR ?_
                         first | (refine G.retFV rfl rfl (congrArg Value.bool ?_); rw [tbl_in hm1 hm4, rall_no hlt (by rw [tblRow, rall_no hlt2 (by simpa using hc), Bool.and_false])]; done) | (refine G.retFV rfl rfl (congrArg Value.bool ?_); rw [tbl_in hm1 hm4, rall_no hlt (by rw [tblRow, (by simpa using hc : besideM l k k = false), Bool.false_and])]; done) | (have hkm : k = m := (by omega); refine G.retFV rfl rfl (congrArg Value.bool ?_); rw [hkm] at ht; rw [tbl_in hm1 hm4]; exact ht.symm) | (refine G.retFV rfl rfl (congrArg Value.bool ?_); rw [tableOkM, (by simpa using hc : inB n 1 4 = false)]; rfl)
                     · try exact Bool.noConfusion hc
                       all_goals
                        try replace hc := of_decide_eq_false hc
                        try (exfalso; first | contradiction | omega)
                        all_goals
                         refine G.skip ?_
                         refine G.inN ?_
                         refine G.thenN ?_
                         refine G.region ?_
                         (first | refine G.v (rv_incr rfl rfl (by omega)) rfl ?_ | refine G.v (rv_addB rfl rfl (by omega) (by omega)) rfl ?_)
                         refine G.v (rv_move rfl) rfl ?_
                         refine G.done ?_
                         first | refine G.backK (k2 + 1) 0 rfl (.cons rfl (.cons rfl (.cons rfl (.cons rfl (.cons rfl (.cons rfl (.nil))))))) ?_ ?_ ?_ | refine G.backK (k2 + 1) 1 rfl (.cons rfl (.cons rfl (.cons rfl (.cons rfl (.cons rfl (.cons rfl (.nil))))))) ?_ ?_ ?_
                         · exact ⟨rfl, trivial⟩
                         · exact ⟨hlt2, rall_next ht2 (by simpa using hc)⟩
                         · omega
                 · try exact Bool.noConfusion hc
                   all_goals
                    try replace hc := of_decide_eq_false hc
                    try (exfalso; first | contradiction | omega)
                    all_goals
                     refine G.exit ?_
                     refine G.thenX ?_
                     refine G.thenX ?_
                     refine G.inX ?_
                     refine G.inN ?_
                     refine G.thenN ?_
                     refine G.region ?_
                     (first | refine G.v (rv_incr rfl rfl (by omega)) rfl ?_ | refine G.v (rv_addB rfl rfl (by omega) (by omega)) rfl ?_)
                     refine G.v (rv_move rfl) rfl ?_
                     refine G.done ?_
                     first | refine G.backK (k + 1) 0 rfl (.cons rfl (.cons rfl (.cons rfl (.nil)))) ?_ ?_ ?_ | refine G.backK (k + 1) 1 rfl (.cons rfl (.cons rfl (.cons rfl (.nil)))) ?_ ?_ ?_
                     · exact ⟨rfl, trivial⟩
                     · exact ⟨hlt, rall_next ht (by rw [tblRow, (by simpa using hbb : besideM l k k = true), Bool.true_and]; exact (by rwa [show k2 = m by omega] at ht2))⟩
                     · omega
       · try exact Bool.noConfusion hc
         all_goals
          try replace hc := of_decide_eq_false hc
          try (exfalso; first | contradiction | omega)
          all_goals
           refine G.exit ?_
           refine G.thenX ?_
           refine G.thenX ?_
           refine G.inX ?_
           refine G.thenN ?_
           refine G.seq ?_
           refine G.region ?_
           refine G.v (rv_assign rfl) rfl ?_
           refine G.done ?_
           refine G.thenN ?_
           refine G.ret ?_
           first | (refine G.retFV rfl rfl (congrArg Value.bool ?_); rw [tbl_in hm1 hm4, rall_no hlt (by rw [tblRow, rall_no hlt2 (by simpa using hc), Bool.and_false])]; done) | (refine G.retFV rfl rfl (congrArg Value.bool ?_); rw [tbl_in hm1 hm4, rall_no hlt (by rw [tblRow, (by simpa using hc : besideM l k k = false), Bool.false_and])]; done) | (have hkm : k = m := (by omega); refine G.retFV rfl rfl (congrArg Value.bool ?_); rw [hkm] at ht; rw [tbl_in hm1 hm4]; exact ht.symm) | (refine G.retFV rfl rfl (congrArg Value.bool ?_); rw [tableOkM, (by simpa using hc : inB n 1 4 = false)]; rfl)
theorem stableOk_any {v : Value} {l : List PairM} (n : Int) (w : World) (h : Rd w v 2 (l.map PairM.cells)) : FnV Tryz.prog 70 [v, .int .i64 n] w (.bool (tableOkM l n)) := by
  refine FnV.of (n := 41) Tryz.func70 rfl rfl ?_
  refine G.seq ?_
  refine G.region ?_
  refine G.v (rv_assign rfl) rfl ?_
  refine G.done ?_
  refine G.thenN ?_
  refine G.seq ?_
  refine G.seq ?_
  refine G.region ?_
  refine G.v (rv_move rfl) rfl ?_
  refine G.op (og_callV rfl rfl (fun w _ => l1In_any _ _ _ w)) rfl (fun _ _ => ?_)
  refine G.v (rv_not rfl) rfl ?_
  refine G.done ?_
  refine G.thenN ?_
  refine G.cond rfl (fun hc => ?_) (fun hc => ?_)
  · try exact Bool.noConfusion hc
    all_goals
     try replace hc := of_decide_eq_true hc
     try (exfalso; first | contradiction | omega)
     all_goals
      refine G.seq ?_
      refine G.region ?_
      refine G.v (rv_assign rfl) rfl ?_
      refine G.done ?_
      refine G.thenN ?_
      refine G.ret ?_
      refine G.thenR ?_
      first | (have hkm : k = m := (by omega); refine G.retFV rfl rfl (congrArg Value.bool ?_); rw [hkm] at ht; rw [tbl_in hm1 hm4]; exact ht.symm) | (refine G.retFV rfl rfl (congrArg Value.bool ?_); rw [tbl_in hm1 hm4, rall_no hlt (by rw [← tbl_row hlt]; exact rall_no hlt2 (by simp only [tblCell]; simp_all <;> first | omega | exact .inl (by omega)))]; done) | (refine G.retFV rfl rfl (congrArg Value.bool ?_); rw [tableOkM, (by simpa using hc : inB n 1 4 = false)]; rfl)
  · try exact Bool.noConfusion hc
    all_goals
     try replace hc := of_decide_eq_false hc
     try (exfalso; first | contradiction | omega)
     all_goals
      refine G.skip ?_
      refine G.thenN ?_
      refine G.seq ?_
      refine G.seq ?_
      refine G.region ?_
      refine G.v (rv_assign rfl) rfl ?_
      refine G.done ?_
      refine G.thenN ?_
      refine G.block ?_
      -- loop 0: turned [5], kept [0, 1]
      obtain ⟨m, hm, hm1, hm4⟩ := classes_nat (n := n) (by simpa using hc)
      subst hm
      refine G.loopK (ι := Nat) (ks := [0, 1]) (fun k => [(5, .int .i64 k)]) (fun _ => []) (fun k => k ≤ m ∧ (List.range k).all (tblRow l m) = true) (fun k => m - k) 0 (.cons rfl (.cons rfl (.nil))) rfl ?_ ?_ ?_
      · exact ⟨Nat.zero_le _, rfl⟩
      · exact ⟨rfl, trivial⟩
      rintro k ⟨hk, ht⟩
      by_cases hlt : k < m
      all_goals
       refine G.seq ?_
       refine G.seq ?_
       refine G.region ?_
       refine G.v (rv_move rfl) rfl ?_
       refine G.v (rv_move rfl) rfl ?_
       refine G.v (rv_lss rfl rfl) rfl ?_
       refine G.done ?_
       refine G.thenN ?_
       refine G.cond rfl (fun hc => ?_) (fun hc => ?_)
       · try exact Bool.noConfusion hc
         all_goals
          try replace hc := of_decide_eq_true hc
          try (exfalso; first | contradiction | omega)
          all_goals
           refine G.skip ?_
           refine G.thenN ?_
           refine G.seq ?_
           refine G.block ?_
           refine G.seq ?_
           refine G.region ?_
           refine G.v (rv_assign rfl) rfl ?_
           refine G.done ?_
           refine G.thenN ?_
           refine G.block ?_
           -- loop 1: turned [6], kept [0, 1, 5]
           refine G.loopK (ι := Nat) (ks := [0, 1, 5]) (fun k => [(6, .int .i64 k)]) (fun _ => []) (fun b => b ≤ m ∧ (List.range b).all (tblCell l k) = true) (fun k => m - k) 0 (.cons rfl (.cons rfl (.cons rfl (.nil)))) rfl ?_ ?_ ?_
           · exact ⟨Nat.zero_le _, rfl⟩
           · exact ⟨rfl, trivial⟩
           rintro k2 ⟨hk2, ht2⟩
           by_cases hlt2 : k2 < m
           all_goals
            refine G.seq ?_
            refine G.seq ?_
            refine G.region ?_
            refine G.v (rv_move rfl) rfl ?_
            refine G.v (rv_move rfl) rfl ?_
            refine G.v (rv_lss rfl rfl) rfl ?_
            refine G.done ?_
            refine G.thenN ?_
            refine G.cond rfl (fun hc => ?_) (fun hc => ?_)
            · try exact Bool.noConfusion hc
              all_goals
               try replace hc := of_decide_eq_true hc
               try (exfalso; first | contradiction | omega)
               all_goals
                refine G.skip ?_
                refine G.thenN ?_
                refine G.seq ?_
                refine G.block ?_
                refine G.seq ?_
                refine G.region ?_
                refine G.v (rv_move rfl) rfl ?_
                refine G.v (rv_move rfl) rfl ?_
                refine G.v (rv_eql rfl rfl) rfl ?_
                refine G.v (rv_move rfl) rfl ?_
                all_goals (((with_reducible refine G.gP rfl rfl (fun hg => ?_) (fun hg => ?_)) <;> (try exact Bool.noConfusion hg) <;> (first | (refine G.gY rfl rfl ?_; refine G.v (rv_move rfl) rfl ?_) | refine G.gN rfl rfl rfl ?_ | refine G.gU rfl rfl rfl ?_)))
                all_goals ((first | (refine G.gY rfl rfl ?_; refine G.v (rv_move rfl) rfl ?_) | refine G.gN rfl rfl rfl ?_ | refine G.gU rfl rfl rfl ?_))
                all_goals ((first | (refine G.gY rfl rfl ?_; refine G.v (rv_move rfl) rfl ?_) | refine G.gN rfl rfl rfl ?_ | refine G.gU rfl rfl rfl ?_))
                all_goals ((first | (refine G.gY rfl rfl ?_; refine G.op (og_callV rfl rfl (fun w hh => sbeside_any _ _ w (by first | exact Rd.stays (by assumption) _ hh | exact Rd.owned 0 rfl _ hh | exact Rd.owned 1 rfl _ hh | exact Rd.owned 2 rfl _ hh | exact Rd.owned 3 rfl _ hh | exact Rd.owned 4 rfl _ hh | exact Rd.owned 5 rfl _ hh | exact Rd.owned 6 rfl _ hh | exact Rd.owned 7 rfl _ hh | exact Rd.owned 8 rfl _ hh | exact Rd.owned 9 rfl _ hh | exact Rd.owned 10 rfl _ hh | exact Rd.owned 11 rfl _ hh | exact Rd.owned 12 rfl _ hh | exact Rd.owned 13 rfl _ hh | exact Rd.owned 14 rfl _ hh | exact Rd.owned 15 rfl _ hh))) rfl (fun _ _ => ?_)) | refine G.gN rfl rfl rfl ?_ | refine G.gU rfl rfl rfl ?_))
                all_goals ((first | (refine G.gY rfl rfl ?_; refine G.v (rv_not rfl) rfl ?_) | refine G.gN rfl rfl rfl ?_ | refine G.gU rfl rfl rfl ?_))
                all_goals ((first | refine G.v (rv_pickT rfl rfl) rfl ?_ | refine G.v (rv_pickF rfl rfl) rfl ?_))
                all_goals (refine G.v (rv_move rfl) rfl ?_)
                all_goals (((with_reducible refine G.gP rfl rfl (fun hg => ?_) (fun hg => ?_)) <;> (try exact Bool.noConfusion hg) <;> (first | (refine G.gY rfl rfl ?_; refine G.v (rv_move rfl) rfl ?_) | refine G.gN rfl rfl rfl ?_ | refine G.gU rfl rfl rfl ?_)))
                all_goals ((first | (refine G.gY rfl rfl ?_; refine G.v (rv_move rfl) rfl ?_) | refine G.gN rfl rfl rfl ?_ | refine G.gU rfl rfl rfl ?_))
                all_goals ((first | (refine G.gY rfl rfl ?_; refine G.v (rv_move rfl) rfl ?_) | refine G.gN rfl rfl rfl ?_ | refine G.gU rfl rfl rfl ?_))
                all_goals ((first | (refine G.gY rfl rfl ?_; refine G.op (og_callV rfl rfl (fun w hh => sbeside_any _ _ w (by first | exact Rd.stays (by assumption) _ hh | exact Rd.owned 0 rfl _ hh | exact Rd.owned 1 rfl _ hh | exact Rd.owned 2 rfl _ hh | exact Rd.owned 3 rfl _ hh | exact Rd.owned 4 rfl _ hh | exact Rd.owned 5 rfl _ hh | exact Rd.owned 6 rfl _ hh | exact Rd.owned 7 rfl _ hh | exact Rd.owned 8 rfl _ hh | exact Rd.owned 9 rfl _ hh | exact Rd.owned 10 rfl _ hh | exact Rd.owned 11 rfl _ hh | exact Rd.owned 12 rfl _ hh | exact Rd.owned 13 rfl _ hh | exact Rd.owned 14 rfl _ hh | exact Rd.owned 15 rfl _ hh))) rfl (fun _ _ => ?_)) | refine G.gN rfl rfl rfl ?_ | refine G.gU rfl rfl rfl ?_))
                all_goals ((first | (refine G.gY rfl rfl ?_; refine G.v (rv_move rfl) rfl ?_) | refine G.gN rfl rfl rfl ?_ | refine G.gU rfl rfl rfl ?_))
                all_goals ((first | (refine G.gY rfl rfl ?_; refine G.v (rv_move rfl) rfl ?_) | refine G.gN rfl rfl rfl ?_ | refine G.gU rfl rfl rfl ?_))
                all_goals ((first | (refine G.gY rfl rfl ?_; refine G.v (rv_move rfl) rfl ?_) | refine G.gN rfl rfl rfl ?_ | refine G.gU rfl rfl rfl ?_))
                all_goals ((first | (refine G.gY rfl rfl ?_; refine G.op (og_callV rfl rfl (fun w hh => sbeside_any _ _ w (by first | exact Rd.stays (by assumption) _ hh | exact Rd.owned 0 rfl _ hh | exact Rd.owned 1 rfl _ hh | exact Rd.owned 2 rfl _ hh | exact Rd.owned 3 rfl _ hh | exact Rd.owned 4 rfl _ hh | exact Rd.owned 5 rfl _ hh | exact Rd.owned 6 rfl _ hh | exact Rd.owned 7 rfl _ hh | exact Rd.owned 8 rfl _ hh | exact Rd.owned 9 rfl _ hh | exact Rd.owned 10 rfl _ hh | exact Rd.owned 11 rfl _ hh | exact Rd.owned 12 rfl _ hh | exact Rd.owned 13 rfl _ hh | exact Rd.owned 14 rfl _ hh | exact Rd.owned 15 rfl _ hh))) rfl (fun _ _ => ?_)) | refine G.gN rfl rfl rfl ?_ | refine G.gU rfl rfl rfl ?_))
                all_goals ((first | (refine G.gY rfl rfl ?_; refine G.v (rv_neqb rfl rfl) rfl ?_) | refine G.gN rfl rfl rfl ?_ | refine G.gU rfl rfl rfl ?_))
                all_goals ((first | refine G.v (rv_pickT rfl rfl) rfl ?_ | refine G.v (rv_pickF rfl rfl) rfl ?_))
                all_goals
                 refine G.done ?_
                 refine G.thenN ?_
                 refine G.cond rfl (fun hc => ?_) (fun hc => ?_)
                 · try exact Bool.noConfusion hc
                   all_goals
                    try replace hc := of_decide_eq_true hc
                    try (exfalso; first | contradiction | omega)
                    all_goals
                     refine G.seq ?_
                     refine G.region ?_
                     refine G.v (rv_assign rfl) rfl ?_
                     refine G.done ?_
                     refine G.thenN ?_
                     refine G.ret ?_
                     refine G.inR ?_
                     refine G.thenR ?_
                     refine G.thenR ?_
                     refine G.inR ?_
                     refine G.inR ?_
                     refine G.thenR ?_
                     refine G.thenR ?_
                     refine G.inR ?_
                     refine G.thenR ?_
                     first | (have hkm : k = m := (by omega); refine G.retFV rfl rfl (congrArg Value.bool ?_); rw [hkm] at ht; rw [tbl_in hm1 hm4]; exact ht.symm) | (refine G.retFV rfl rfl (congrArg Value.bool ?_); rw [tbl_in hm1 hm4, rall_no hlt (by rw [← tbl_row hlt]; exact rall_no hlt2 (by simp only [tblCell]; simp_all <;> first | omega | exact .inl (by omega)))]; done) | (refine G.retFV rfl rfl (congrArg Value.bool ?_); rw [tableOkM, (by simpa using hc : inB n 1 4 = false)]; rfl)
                 · try exact Bool.noConfusion hc
                   all_goals
                    try replace hc := of_decide_eq_false hc
                    try (exfalso; first | contradiction | omega)
                    all_goals
                     refine G.skip ?_
                     refine G.inN ?_
                     refine G.thenN ?_
                     refine G.region ?_
                     refine G.v (rv_move rfl) rfl ?_
                     (first | refine G.v (rv_incr rfl rfl (by omega)) rfl ?_ | refine G.v (rv_addB rfl rfl (by omega) (by omega)) rfl ?_)
                     refine G.v (rv_assign rfl) rfl ?_
                     refine G.done ?_
                     first | refine G.backK (k2 + 1) 0 rfl (.cons rfl (.cons rfl (.cons rfl (.nil)))) ?_ ?_ ?_ | refine G.backK (k2 + 1) 1 rfl (.cons rfl (.cons rfl (.cons rfl (.nil)))) ?_ ?_ ?_
                     · exact ⟨rfl, trivial⟩
                     · exact ⟨hlt2, rall_next ht2 (by simp only [tblCell]; simp_all <;> first | omega | exact .inl (by omega))⟩
                     · omega
            · try exact Bool.noConfusion hc
              all_goals
               try replace hc := of_decide_eq_false hc
               try (exfalso; first | contradiction | omega)
               all_goals
                refine G.exit ?_
                refine G.thenX ?_
                refine G.thenX ?_
                refine G.inX ?_
                refine G.inN ?_
                refine G.thenN ?_
                refine G.region ?_
                refine G.v (rv_move rfl) rfl ?_
                (first | refine G.v (rv_incr rfl rfl (by omega)) rfl ?_ | refine G.v (rv_addB rfl rfl (by omega) (by omega)) rfl ?_)
                refine G.v (rv_assign rfl) rfl ?_
                refine G.done ?_
                first | refine G.backK (k + 1) 0 rfl (.cons rfl (.cons rfl (.nil))) ?_ ?_ ?_ | refine G.backK (k + 1) 1 rfl (.cons rfl (.cons rfl (.nil))) ?_ ?_ ?_
                · exact ⟨rfl, trivial⟩
                · exact ⟨hlt, rall_next ht (by rw [← tbl_row hlt]; exact (by rwa [show k2 = m by omega] at ht2))⟩
                · omega
       · try exact Bool.noConfusion hc
         all_goals
          try replace hc := of_decide_eq_false hc
          try (exfalso; first | contradiction | omega)
          all_goals
           refine G.exit ?_
           refine G.thenX ?_
           refine G.thenX ?_
           refine G.inX ?_
           refine G.thenN ?_
           refine G.seq ?_
           refine G.region ?_
           refine G.v (rv_assign rfl) rfl ?_
           refine G.done ?_
           refine G.thenN ?_
           refine G.ret ?_
           first | (have hkm : k = m := (by omega); refine G.retFV rfl rfl (congrArg Value.bool ?_); rw [hkm] at ht; rw [tbl_in hm1 hm4]; exact ht.symm) | (refine G.retFV rfl rfl (congrArg Value.bool ?_); rw [tbl_in hm1 hm4, rall_no hlt (by rw [← tbl_row hlt]; exact rall_no hlt2 (by simp only [tblCell]; simp_all <;> first | omega | exact .inl (by omega)))]; done) | (refine G.retFV rfl rfl (congrArg Value.bool ?_); rw [tableOkM, (by simpa using hc : inB n 1 4 = false)]; rfl)
end Go.Proofs.YtpmphkcibiimcaaGreat
