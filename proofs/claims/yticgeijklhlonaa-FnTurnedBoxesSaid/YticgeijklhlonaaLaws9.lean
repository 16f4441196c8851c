/-
  The law on boxes that are told in another order.
-/
import Derived.Test.YticgeijklhlonaaTurnLaw
import Derived.Test.YticgeijklhlonaaLaws6
import Derived.Test.YticgeijklhlonaaDepth
import Derived.Test.YticgeijklhlonaaSlc
namespace Go.Proofs.Yticgeijklhlonaa
open Go.RowKit
attribute [local irreducible] Go.wpList Go.Code.wp Go.Exit.then Go.Exit.inBlock Go.bodyPost Go.Calls pE pB G RunsV FnV Fn FnM
set_option maxRecDepth 100000
set_option maxHeartbeats 4000000
theorem G.keepOne {n : Nat} {w0 : World} {fr : Fr} {H : List Ch} (m : Nat) {c1 : Ch} {J : List Ch} {K : Act → World → Prop} (hH : H = c1 :: J) (h : G n w0 fr (c1 :: J.drop m) K) : G n w0 fr H K := G.heap (fun w hh => by subst hH; exact hh.sublist (List.Sublist.cons_cons _ (List.drop_sublist m J))) h
theorem rv_remN {P : Program} {n : Nat} {w0 : World} {fr : Fr} {H : List Ch} {x y : Operand} {t t' : TypeId} {p q : Nat} (hx : opv fr x = some (.int .i64 (p : Int))) (hy : opv fr y = some (.int .i64 (q : Int))) (h : q ≠ 0) : RunsV P n w0 fr H (.binOp .rem t x y t') (.int .i64 ((p % q : Nat) : Int)) := by
  have := rv_rem (P := P) (n := n) (w0 := w0) (H := H) (t := t) (t' := t') hx hy (by omega)
  rwa [show (p : Int).tmod (q : Int) = ((p % q : Nat) : Int) from (Int.ofNat_tmod p q).symm] at this
theorem at0_any {v : Value} {l : List Int} (i : Nat) (w : World) (h : Rd w v 1 (l.map bcell)) (hq : ∀ z ∈ l, 0 ≤ z ∧ z ≤ 255) (hi : i ≤ 100) (hl : l.length ≤ 1048576) : Fn Try.prog 59 [v, .int .i64 (i : Int)] w (fun z : Int => 0 ≤ z ∧ z ≤ 255) (fun z => .int .i64 z) (fun _ => []) := by
  have hln : (l.map bcell).length = l.length := by simp
  refine Fn.of (n := 20) Try.func59 rfl rfl ?_
  by_cases hlt : i < l.length
  case' pos => (obtain ⟨z, hz⟩ := get_of_lt hlt; have he := get_map hz bcell; have hzq := hq z (List.mem_of_getElem? hz))
  all_goals
  refine G.seq ?_
  refine G.region ?_
  refine G.v (rv_assign rfl) rfl ?_
  refine G.done ?_
  refine G.thenN ?_
  refine G.seq ?_
  refine G.seq ?_
  refine G.region ?_
  refine G.v (rv_move rfl) rfl ?_
  refine G.v (rv_move rfl) rfl ?_
  refine G.v (rv_len rfl (by exact Rd.stays (by assumption))) rfl ?_
  refine G.v (rv_lss rfl rfl) rfl ?_
  refine G.done ?_
  refine G.thenN ?_
  refine G.cond rfl (fun hc => ?_) (fun hc => ?_)
  · try exact Bool.noConfusion hc
    all_goals
     try replace hc := of_decide_eq_true hc
     try (exfalso; omega)
     all_goals
      refine G.seq ?_
      refine G.region ?_
      refine G.v (rv_move rfl) rfl ?_
      refine G.v (rv_move rfl) rfl ?_
      (refine G.v (rv_indexH rfl rfl (by exact Rd.stays (by assumption)) rfl (by assumption)) rfl ?_)
      refine G.v (rv_loadE rfl (by exact Rd.stays (by assumption)) (by assumption) rfl) rfl ?_
      refine G.v (rv_conv rfl) rfl ?_
      refine G.v (rv_assign rfl) rfl ?_
      refine G.done ?_
      refine G.thenN ?_
      refine G.ret ?_
      refine G.thenR ?_
      (exact G.retF _ ⟨by rw [wrap64_id (by omega) (by omega)]; omega, by rw [wrap64_id (by omega) (by omega)]; omega⟩ rfl rfl rfl (fun w hw => hw.none))
  · try exact Bool.noConfusion hc
    all_goals
     try replace hc := of_decide_eq_false hc
     try (exfalso; omega)
     all_goals
      refine G.skip ?_
      refine G.thenN ?_
      refine G.seq ?_
      refine G.region ?_
      refine G.v (rv_move rfl) rfl ?_
      refine G.v (rv_mulB rfl rfl (by omega) (by omega)) rfl ?_
      refine G.v (rv_move rfl) rfl ?_
      refine G.v (rv_len rfl (by exact Rd.stays (by assumption))) rfl ?_
      (refine G.v (rv_addB rfl rfl (by omega) (by omega)) rfl ?_)
      refine G.v (rv_rem rfl rfl (by omega)) rfl ?_
      refine G.v (rv_assign rfl) rfl ?_
      refine G.done ?_
      refine G.thenN ?_
      refine G.ret ?_
      (exact G.retF _ ⟨Int.tmod_nonneg _ (by omega), by have := Int.tmod_lt_of_pos ((i : Int) * 7 + ((l.map bcell).length : Int)) (b := 256) (by omega); omega⟩ rfl rfl rfl (fun w hw => hw.none))
theorem fnTurnedBoxes_any {v : Value} {l : List Int} {w : World} (h : Rd w v 1 (l.map bcell)) (hq8 : ∀ z ∈ l, 0 ≤ z ∧ z ≤ 255) : FnV Try.prog 12 [v] w (.bool true) := by
  have hle8 := h.le_map
  refine FnV.of (n := 173) Try.func12 rfl rfl ?_
  refine G.seq ?_
  refine G.region ?_
  refine G.v (rv_assign rfl) rfl ?_
  refine G.done ?_
  refine G.thenN ?_
  refine G.seq ?_
  refine G.seq ?_
  refine G.region ?_
  refine G.v (rv_move rfl) rfl ?_
  refine G.op (og_callV rfl rfl (fun w hh => big_any w (by exact Rd.stays (by assumption) _ hh))) rfl (fun _ _ => ?_)
  refine G.done ?_
  refine G.thenN ?_
  refine G.cond rfl (fun hc => ?_) (fun hc => ?_)
  · try exact Bool.noConfusion hc
    all_goals
     try replace hc := of_decide_eq_true hc
     try simp only [List.length_map] at hc
     try (exfalso; contradiction)
     all_goals
      refine G.seq ?_
      refine G.region ?_
      refine G.v (rv_assign rfl) rfl ?_
      refine G.done ?_
      refine G.thenN ?_
      refine G.ret ?_
      refine G.thenR ?_
      exact G.retFV rfl rfl rfl
  · try exact Bool.noConfusion hc
    all_goals
     try replace hc := of_decide_eq_false hc
     try simp only [List.length_map] at hc
     try (exfalso; contradiction)
     all_goals
      refine G.skip ?_
      refine G.thenN ?_
      refine G.seq ?_
      refine G.region ?_
      refine G.v (rv_move rfl) rfl ?_
      (refine G.op (og_callF1 rfl rfl (fun w hh => drawShelves_any w (by exact Rd.stays (by assumption) _ hh))) rfl ?_; rintro ⟨p, vb, bs⟩ ⟨hvb, hbs⟩; try dsimp only)
      dsimp only at hbs hvb
      have hbl : (bs.map BoxM.cells).length = bs.length := by simp
      refine G.v (rv_move rfl) rfl ?_
      refine G.v (rv_extract rfl rfl) rfl ?_
      refine G.v (rv_extract rfl rfl) rfl ?_
      refine G.op (og_alloc) rfl (fun bk3 _ => ?_)
      (refine G.op0 (og_st0 rfl rfl rfl rfl rfl rfl (.zero (.cons (.cons (.cons (.cons .nil)))))) (fun _ _ => ?_))
      refine G.v (rv_assign rfl) rfl ?_
      refine G.done ?_
      refine G.thenN ?_
      refine G.seq ?_
      refine G.region ?_
      (refine G.v (rv_loadW 0 rfl rfl rfl) rfl ?_)
      refine G.v (rv_move rfl) rfl ?_
      (refine G.op (og_callF2 rfl rfl (fun w hh => implShelves_any p w (by exact Rd.owned 1 rfl _ hh) (by omega))) rfl ?_; rintro ⟨vg, gs⟩ ⟨hvg, hgs⟩; try dsimp only)
      dsimp only at hgs hvg
      have hgl : gs.length = (shelvesM p bs).length := by rw [← hgs, List.length_map]
      have hgl2 : (gs.map ShelfM.cells).length = gs.length := by simp
      have hsl := shelves_len p bs
      have heg0 : 0 < gs.length → (gs.map ShelfM.cells)[0]? = some (ShelfM.cells (gs.getD 0 shD)) := fun hz => get_map (getD_at hz) ShelfM.cells
      refine G.v (rv_assign rfl) rfl ?_
      refine G.done ?_
      refine G.thenN ?_
      refine G.seq ?_
      refine G.seq ?_
      refine G.drawL [] ?_
      refine GE.q 0 rfl (by as_aux_lemma => kernel_rfl) rfl (qg_runs (rv_move rfl)) rfl ?_
      refine GE.q 1 rfl (by as_aux_lemma => kernel_rfl) rfl (qg_runs (rv_len rfl (by exact Rd.owned 1 rfl))) rfl ?_
      (refine GE.q 2 rfl (by as_aux_lemma => kernel_rfl) rfl (qg_runs (rv_loadW 2 rfl rfl rfl)) rfl ?_)
      refine GE.ol 3 (by as_aux_lemma => kernel_rfl) rfl rfl (og_runs (rv_move rfl)) rfl (fun _ _ h => by exact h) (fun _ _ => ?_)
      (refine GE.ol 4 (by as_aux_lemma => kernel_rfl) rfl rfl (og_callF2 rfl rfl (fun w hh => specShelves_any p w (by exact Rd.owned 3 rfl _ hh) (by omega))) rfl (fun _ _ h => by exact h.drop 2) ?_; rintro ⟨vo, os⟩ ⟨hvo, hos⟩; try dsimp only)
      dsimp only at hos hvo; have hol : os.length = (shelvesM p bs).length := (by rw [← hos, List.length_map]); have hol2 : (os.map ShelfM.cells).length = os.length := (by simp)
      refine GE.ol 5 (by as_aux_lemma => kernel_rfl) rfl rfl (og_runs (rv_len rfl (by exact Rd.owned 1 rfl))) rfl (fun _ _ h => by exact h.drop 2) (fun _ _ => ?_)
      refine GE.ol 6 (by as_aux_lemma => kernel_rfl) rfl rfl (og_runs (rv_neq rfl rfl)) rfl (fun _ _ h => by exact h.drop 2) (fun _ _ => ?_)
      refine GE.ol 7 (by as_aux_lemma => kernel_rfl) rfl rfl (og_runs (rv_move rfl)) rfl (fun _ _ h => by exact h.drop 2) (fun _ _ => ?_)
      all_goals (((with_reducible refine GE.part (t := 31) rfl (fun hg => ?_) (fun hg => ?_)) <;> (try exact Bool.noConfusion hg) <;> (try (exfalso; (have hq := of_decide_eq_true hg; omega); done)) <;> ((refine GE.q2 8 rfl (by as_aux_lemma => kernel_rfl) rfl (qg_runs (rv_move rfl)) (fun _ h => by exact h.drop 2) rfl ?_))))
      all_goals (((refine GE.q2 9 rfl (by as_aux_lemma => kernel_rfl) rfl (qg_runs (rv_len rfl (by exact Rd.owned 1 rfl))) (fun _ h => by exact h.drop 2) rfl ?_)))
      all_goals (((refine GE.q2 10 rfl (by as_aux_lemma => kernel_rfl) rfl (qg_runs (rv_gtr rfl rfl)) (fun _ h => by exact h.drop 2) rfl ?_)))
      all_goals (((refine GE.q2 11 rfl (by as_aux_lemma => kernel_rfl) rfl (qg_runs (rv_move rfl)) (fun _ h => by exact h.drop 2) rfl ?_)))
      all_goals ((((with_reducible refine GE.part (t := 35) rfl (fun hg => ?_) (fun hg => ?_)) <;> (try exact Bool.noConfusion hg) <;> (try (exfalso; (have hq := of_decide_eq_false hg; omega))) <;> (first | refine GE.q2 12 rfl (by as_aux_lemma => kernel_rfl) rfl (qg_runs (rv_move rfl)) (fun _ h => by exact h.drop 2) rfl ?_ | refine GE.qn2 12 rfl (by as_aux_lemma => kernel_rfl) rfl (fun _ h => by exact h.drop 2) rfl ?_))))
      all_goals ((first | ((refine GE.q2 13 rfl (by as_aux_lemma => kernel_rfl) rfl (qg_runs (rv_indexH (k := 0) rfl rfl (by exact Rd.owned 1 rfl) rfl (by (exact heg0 (by have hq := of_decide_eq_true hg; omega))))) (fun _ h => by exact h.drop 2) rfl ?_)) | refine GE.qn2 13 rfl (by as_aux_lemma => kernel_rfl) rfl (fun _ h => by exact h.drop 2) rfl ?_))
      all_goals ((first | (refine GE.q2 14 rfl (by as_aux_lemma => kernel_rfl) rfl (qg_runs (rv_fieldE rfl)) (fun _ h => by exact h.drop 2) rfl ?_) | refine GE.qn2 14 rfl (by as_aux_lemma => kernel_rfl) rfl (fun _ h => by exact h.drop 2) rfl ?_))
      all_goals ((first | refine GE.q2 15 rfl (by as_aux_lemma => kernel_rfl) rfl (qg_runs (rv_loadE rfl (by first | exact Rd.stays (by assumption) | exact Rd.owned 1 rfl) (by (exact heg0 (by have hq := of_decide_eq_true hg; omega))) rfl)) (fun _ h => by exact h.drop 2) rfl ?_ | refine GE.qn2 15 rfl (by as_aux_lemma => kernel_rfl) rfl (fun _ h => by exact h.drop 2) rfl ?_))
      all_goals ((first | (refine GE.q2 16 rfl (by as_aux_lemma => kernel_rfl) rfl (qg_runs (rv_loadW 2 rfl rfl rfl)) (fun _ h => by exact h.drop 2) rfl ?_) | refine GE.qn2 16 rfl (by as_aux_lemma => kernel_rfl) rfl (fun _ h => by exact h.drop 2) rfl ?_))
      all_goals ((first | (refine GE.q2 17 rfl (by as_aux_lemma => kernel_rfl) rfl (qg_runs (rv_move rfl)) (fun _ h => by exact h.drop 2) rfl ?_) | refine GE.qn2 17 rfl (by as_aux_lemma => kernel_rfl) rfl (fun _ h => by exact h.drop 2) rfl ?_))
      all_goals ((first | (refine GE.ol 18 (by as_aux_lemma => kernel_rfl) rfl rfl (og_callF2 rfl rfl (fun w hh => specShelves_any p w (by exact Rd.owned 5 rfl _ hh) (by omega))) rfl (fun _ _ h => by exact h.drop 4) ?_; rintro ⟨vq, qs⟩ ⟨hvq, hqs⟩; try dsimp only) | refine GE.qn2 18 rfl (by as_aux_lemma => kernel_rfl) rfl (fun _ h => by exact h.drop 2) rfl ?_))
      all_goals (try (dsimp only at hqs hvq; have hql : qs.length = (shelvesM p bs).length := (by rw [← hqs, List.length_map]); have heq0 : 0 < qs.length → (qs.map ShelfM.cells)[0]? = some (ShelfM.cells (qs.getD 0 shD)) := (fun hz => get_map (getD_at hz) ShelfM.cells); have hww : (gs.getD 0 shD).1.w = (qs.getD 0 shD).1.w := congrArg ShelfM.w (getD0_eq hgs hqs)))
      all_goals ((first | ((refine GE.ol 19 (by as_aux_lemma => kernel_rfl) rfl rfl (og_runs (rv_indexH (k := 0) rfl rfl (by exact Rd.owned 1 rfl) rfl (by (exact heq0 (by have hq := of_decide_eq_true hg; omega))))) rfl (fun _ _ h => by exact h.drop 4) (fun _ _ => ?_))) | refine GE.qn2 19 rfl (by as_aux_lemma => kernel_rfl) rfl (fun _ h => by exact h.drop 2) rfl ?_))
      all_goals ((first | (refine GE.q2 20 rfl (by as_aux_lemma => kernel_rfl) rfl (qg_runs (rv_fieldE rfl)) (fun _ h => by first | exact h.drop 2 | exact h.drop 4) rfl ?_) | refine GE.qn2 20 rfl (by as_aux_lemma => kernel_rfl) rfl (fun _ h => by exact h.drop 2) rfl ?_))
      all_goals ((first | ((refine GE.ol 21 (by as_aux_lemma => kernel_rfl) rfl rfl (og_runs (rv_loadE rfl (by first | exact Rd.stays (by assumption) | exact Rd.owned 1 rfl) (by (exact heq0 (by have hq := of_decide_eq_true hg; omega))) rfl)) rfl (fun _ _ h => by exact h.drop 4) (fun _ _ => ?_))) | refine GE.qn2 21 rfl (by as_aux_lemma => kernel_rfl) rfl (fun _ h => by exact h.drop 2) rfl ?_))
      all_goals ((first | (refine GE.q2 22 rfl (by as_aux_lemma => kernel_rfl) rfl (qg_runs (rv_neq rfl rfl)) (fun _ h => by first | exact h.drop 2 | exact h.drop 4) rfl ?_) | refine GE.qn2 22 rfl (by as_aux_lemma => kernel_rfl) rfl (fun _ h => by exact h.drop 2) rfl ?_))
      all_goals (((first | refine GE.q2 23 rfl (by as_aux_lemma => kernel_rfl) rfl (qg_runs (rv_pickT rfl rfl)) (fun _ h => by first | exact h.drop 2 | exact h.drop 4) rfl ?_ | refine GE.q2 23 rfl (by as_aux_lemma => kernel_rfl) rfl (qg_runs (rv_pickF rfl rfl)) (fun _ h => by exact h.drop 2) rfl ?_)))
      all_goals ((refine GE.ol 24 (by as_aux_lemma => kernel_rfl) rfl rfl (og_runs (rv_pickF rfl rfl)) rfl (fun _ _ h => by first | exact h.drop 2 | exact h.drop 4) (fun _ _ => ?_)))
      all_goals
       refine GE.done (by as_aux_lemma => kernel_rfl) ?_
       refine G.thenN ?_
       refine G.cond rfl (fun hc => ?_) (fun hc => ?_)
       · try exact Bool.noConfusion hc
         all_goals
          try replace hc := of_decide_eq_true hc
          try simp only [List.length_map] at hc
          try (exfalso; contradiction)
          all_goals
           refine G.seq ?_
           refine G.region ?_
           refine G.v (rv_assign rfl) rfl ?_
           refine G.done ?_
           refine G.thenN ?_
           refine G.ret ?_
           refine G.thenR ?_
           exact G.retFV rfl rfl rfl
       · try exact Bool.noConfusion hc
         all_goals
          try replace hc := of_decide_eq_false hc
          try simp only [List.length_map] at hc
          try (exfalso; contradiction)
          all_goals
           refine G.skip ?_
           refine G.thenN ?_
           refine G.seq ?_
           refine G.region ?_
           refine G.op (og_lit rfl .nil rfl rfl rfl rfl rfl rfl) rfl (fun vl _ => ?_)
           refine G.v (rv_assign rfl) rfl ?_
           refine G.done ?_
           refine G.thenN ?_
           refine G.seq ?_
           refine G.region ?_
           refine G.v (rv_move rfl) rfl ?_
           refine G.v (rv_len rfl (by first | exact Rd.owned 6 rfl | exact Rd.owned 8 rfl)) rfl ?_
           refine G.v (rv_assign rfl) rfl ?_
           refine G.done ?_
           refine G.thenN ?_
           refine G.seq ?_
           refine G.region ?_
           refine G.v (rv_assign rfl) rfl ?_
           refine G.done ?_
           refine G.thenN ?_
           refine G.seq ?_
           refine G.seq ?_
           refine G.region ?_
           refine G.v (rv_move rfl) rfl ?_
           refine G.v (rv_gtr rfl rfl) rfl ?_
           refine G.done ?_
           refine G.thenN ?_
           refine G.cond rfl (fun hc => ?_) (fun hc => ?_)
           · try exact Bool.noConfusion hc
             all_goals
              try replace hc := of_decide_eq_true hc
              try simp only [List.length_map] at hc
              try (exfalso; contradiction)
              all_goals
               refine G.region ?_
               refine G.v (rv_move rfl) rfl ?_
               (refine G.op (og_callF0 rfl rfl (fun w hh => at0_any 2 w (by exact Rd.stays (by assumption) _ hh) hq8 (by omega) (by omega))) rfl ?_; rintro z8 ⟨hz0, hz1⟩; try dsimp only)
               refine G.v (rv_move rfl) rfl ?_
               refine G.v (rv_rem rfl rfl (by omega)) rfl ?_
               have h81 := Int.tmod_nonneg (a := z8) ((bs.map BoxM.cells).length : Int) hz0
               have h82 := Int.tmod_lt_of_pos z8 (b := ((bs.map BoxM.cells).length : Int)) (by omega)
               generalize z8.tmod ((bs.map BoxM.cells).length : Int) = kz at h81 h82 ⊢
               obtain ⟨k, rfl⟩ := Int.eq_ofNat_of_zero_le h81
               refine G.v (rv_assign rfl) rfl ?_
               refine G.done ?_
               refine G.thenN ?_
               refine G.seq ?_
               refine G.seq ?_
               refine G.region ?_
               refine G.v (rv_assign rfl) rfl ?_
               refine G.done ?_
               refine G.thenN ?_
               refine G.block ?_
               -- loop 0: turned [6, 9], kept [3, 4, 5, 7, 8]
               (refine G.frontR0 vl rfl ?_)
               refine G.loopK (ι := Nat × List BoxM × Value) (ks := [3, 4, 5, 7, 8]) (fun x => [(6, x.2.2), (9, .int .i64 (x.1 : Int))]) (fun x => [.row x.2.2 26 4 (x.2.1.map BoxM.cells)]) (fun x => x.1 ≤ bs.length ∧ x.2.1 = turnM bs k x.1) (fun x => bs.length - x.1) (0, [], vl) (.cons rfl (.cons rfl (.cons rfl (.cons rfl (.cons rfl (.nil)))))) rfl ?_ ?_ ?_
               · exact ⟨Nat.zero_le _, rfl⟩
               · exact ⟨rfl, rfl, trivial⟩
               rintro ⟨i, tb, v2⟩ ⟨hi, htb⟩
               dsimp only at hi htb ⊢
               have htbl : tb.length = i := by rw [htb]; simp [turnM]
               have htbl2 : (tb.map BoxM.cells).length = tb.length := by simp
               by_cases hlt : i < bs.length
               case' neg => (obtain rfl : i = bs.length := (by omega); subst htb)
               case' pos => (obtain ⟨b, hb⟩ := get_of_lt (l := bs) (k := (i + k) % bs.length) (Nat.mod_lt _ (by omega)); have hek : (bs.map BoxM.cells)[(i + k) % (bs.map BoxM.cells).length]? = some b.cells := (by rw [hbl]; exact get_map hb BoxM.cells); have htx := turn_next hb)
               all_goals
                refine G.seq ?_
                refine G.seq ?_
                refine G.region ?_
                refine G.v (rv_move rfl) rfl ?_
                refine G.v (rv_move rfl) rfl ?_
                refine G.v (rv_lss rfl rfl) rfl ?_
                refine G.done ?_
                refine G.thenN ?_
                refine G.cond rfl (fun hc => ?_) (fun hc => ?_)
                · try exact Bool.noConfusion hc
                  all_goals
                   try replace hc := of_decide_eq_true hc
                   try simp only [List.length_map] at hc
                   try (exfalso; omega)
                   all_goals
                    refine G.skip ?_
                    refine G.thenN ?_
                    refine G.seq ?_
                    refine G.block ?_
                    refine G.region ?_
                    refine G.v (rv_move rfl) rfl ?_
                    refine G.v (rv_move rfl) rfl ?_
                    refine G.v (rv_move rfl) rfl ?_
                    refine G.v (rv_move rfl) rfl ?_
                    refine G.v (rv_addN rfl rfl (by omega)) rfl ?_
                    refine G.v (rv_move rfl) rfl ?_
                    refine G.v (rv_remN rfl rfl (by omega)) rfl ?_
                    (refine G.v (rv_indexH rfl rfl (by first | exact Rd.owned 6 rfl | exact Rd.owned 8 rfl) rfl (by exact hek)) rfl ?_)
                    (refine G.v (rv_loadEW rfl (by first | exact Rd.owned 6 rfl | exact Rd.owned 8 rfl) (by exact hek) rfl) rfl ?_)
                    refine G.op (og_lit rfl (.cons rfl .nil) rfl rfl rfl rfl rfl rfl) rfl (fun vl _ => ?_)
                    ((refine G.op (og_app1 rfl rfl rfl (by exact Rd.owned 0 rfl) rfl rfl (by simp; omega) (by simp; omega)) rfl (fun va _ => ?_)))
                    refine G.v (rv_assign rfl) rfl ?_
                    refine G.done ?_
                    refine G.inN ?_
                    refine G.thenN ?_
                    refine G.region ?_
                    refine G.v (rv_move rfl) rfl ?_
                    (refine G.v (rv_incr rfl rfl (by omega)) rfl ?_)
                    refine G.v (rv_assign rfl) rfl ?_
                    refine G.done ?_
                    (refine G.frontR1 va rfl ?_)
                    (refine G.keepOne 1 rfl ?_; refine G.backK (i + 1, tb ++ [b], va) 0 (one_eq (congrArg (fun z => Ch.row va 26 4 z) (by rw [List.map_append]; rfl))) (.cons rfl (.cons rfl (.cons rfl (.cons rfl (.cons rfl (.nil)))))) ?_ ?_ ?_)
                    · exact ⟨rfl, rfl, trivial⟩
                    · exact ⟨hlt, by rw [htx, ← htb]⟩
                    · dsimp only; omega
                · try exact Bool.noConfusion hc
                  all_goals
                   try replace hc := of_decide_eq_false hc
                   try simp only [List.length_map] at hc
                   try (exfalso; omega)
                   all_goals
                    refine G.exit ?_
                    refine G.thenX ?_
                    refine G.thenX ?_
                    refine G.inX ?_
                    refine G.thenN ?_
                    refine G.seq ?_
                    refine G.region ?_
                    (first | refine G.v (rv_loadW 5 rfl rfl rfl) rfl ?_ | refine G.v (rv_loadW 7 rfl rfl rfl) rfl ?_)
                    refine G.v (rv_move rfl) rfl ?_
                    (refine G.op (og_callF2 rfl rfl (fun w hh => implShelves_any p w (by exact Rd.owned 0 rfl _ hh) (by simp [turnM]; omega))) rfl ?_; rintro ⟨vt, ts⟩ ⟨hvt, hts⟩; try dsimp only)
                    dsimp only at hts hvt
                    have htl : ts.length = (shelvesM p (turnM bs k bs.length)).length := by rw [← hts, List.length_map]
                    have htl2 : (ts.map ShelfM.cells).length = ts.length := by simp
                    have hsl2 := shelves_len p (turnM bs k bs.length)
                    have htn : (turnM bs k bs.length).length = bs.length := by simp [turnM]
                    refine G.v (rv_assign rfl) rfl ?_
                    refine G.done ?_
                    refine G.thenN ?_
                    refine G.seq ?_
                    refine G.seq ?_
                    refine G.region ?_
                    refine G.v (rv_assign rfl) rfl ?_
                    refine G.done ?_
                    refine G.thenN ?_
                    refine G.block ?_
                    -- loop 1: turned [11], kept [3, 4, 5, 6, 7, 10]
                    skip
                    refine G.loopK (ι := Nat) (ks := [3, 4, 5, 6, 7, 10]) (fun i => [(11, .int .i64 (i : Int))]) (fun _ => []) (fun i => i ≤ bs.length ∧ ∀ (a b : Nat) (x y : BoxM), b < a → a < i → bs[a]? = some x → bs[b]? = some y → x.d ≠ y.d) (fun i => bs.length - i) 0 (.cons rfl (.cons rfl (.cons rfl (.cons rfl (.cons rfl (.cons rfl (.nil))))))) rfl ?_ ?_ ?_
                    · exact ⟨Nat.zero_le _, fun a b x y _ h => absurd h (Nat.not_lt_zero _)⟩
                    · exact ⟨rfl, trivial⟩
                    rintro i2 ⟨hi2, hdi⟩
                    by_cases hlt2 : i2 < bs.length
                    case' pos => (obtain ⟨a, hba⟩ := get_of_lt hlt2; have hea := get_map hba BoxM.cells)
                    all_goals
                     refine G.seq ?_
                     refine G.seq ?_
                     refine G.region ?_
                     refine G.v (rv_move rfl) rfl ?_
                     refine G.v (rv_move rfl) rfl ?_
                     refine G.v (rv_lss rfl rfl) rfl ?_
                     refine G.done ?_
                     refine G.thenN ?_
                     refine G.cond rfl (fun hc => ?_) (fun hc => ?_)
                     · try exact Bool.noConfusion hc
                       all_goals
                        try replace hc := of_decide_eq_true hc
                        try simp only [List.length_map] at hc
                        try (exfalso; omega)
                        all_goals
                         refine G.skip ?_
                         refine G.thenN ?_
                         refine G.seq ?_
                         refine G.block ?_
                         refine G.seq ?_
                         refine G.region ?_
                         refine G.v (rv_assign rfl) rfl ?_
                         refine G.done ?_
                         refine G.thenN ?_
                         refine G.block ?_
                         -- loop 2: turned [12], kept [3, 4, 5, 6, 7, 10, 11]
                         refine G.loopK (ι := Nat) (ks := [3, 4, 5, 6, 7, 10, 11]) (fun j => [(12, .int .i64 (j : Int))]) (fun _ => []) (fun j => j ≤ i2 ∧ ∀ (c : Nat) (y : BoxM), c < j → bs[c]? = some y → a.d ≠ y.d) (fun j => i2 - j) 0 (.cons rfl (.cons rfl (.cons rfl (.cons rfl (.cons rfl (.cons rfl (.cons rfl (.nil)))))))) rfl ?_ ?_ ?_
                         · exact ⟨Nat.zero_le _, fun c y h => absurd h (Nat.not_lt_zero _)⟩
                         · exact ⟨rfl, trivial⟩
                         rintro j2 ⟨hj2, hdj⟩
                         by_cases hlt3 : j2 < i2
                         case' pos => (obtain ⟨b, hbb⟩ := get_of_lt (l := bs) (k := j2) (by omega); have heb := get_map hbb BoxM.cells)
                         all_goals
                          refine G.seq ?_
                          refine G.seq ?_
                          refine G.region ?_
                          refine G.v (rv_move rfl) rfl ?_
                          refine G.v (rv_move rfl) rfl ?_
                          refine G.v (rv_lss rfl rfl) rfl ?_
                          refine G.done ?_
                          refine G.thenN ?_
                          refine G.cond rfl (fun hc => ?_) (fun hc => ?_)
                          · try exact Bool.noConfusion hc
                            all_goals
                             try replace hc := of_decide_eq_true hc
                             try simp only [List.length_map] at hc
                             try (exfalso; omega)
                             all_goals
                              refine G.skip ?_
                              refine G.thenN ?_
                              refine G.seq ?_
                              refine G.block ?_
                              refine G.seq ?_
                              refine G.drawL [] ?_
                              refine GE.q 0 rfl (by as_aux_lemma => kernel_rfl) rfl (qg_runs (rv_move rfl)) rfl ?_
                              refine GE.q 1 rfl (by as_aux_lemma => kernel_rfl) rfl (qg_runs (rv_move rfl)) rfl ?_
                              (refine GE.q 2 rfl (by as_aux_lemma => kernel_rfl) rfl (qg_runs (rv_indexH rfl rfl (by first | exact Rd.owned 8 rfl | exact Rd.owned 10 rfl) rfl (by exact hea))) rfl ?_)
                              (refine GE.q 3 rfl (by as_aux_lemma => kernel_rfl) rfl (qg_runs (rv_fieldE rfl)) rfl ?_)
                              refine GE.q 4 rfl (by as_aux_lemma => kernel_rfl) rfl (qg_runs (rv_loadE rfl (by first | exact Rd.owned 8 rfl | exact Rd.owned 10 rfl) (by exact hea) rfl)) rfl ?_
                              refine GE.q 5 rfl (by as_aux_lemma => kernel_rfl) rfl (qg_runs (rv_move rfl)) rfl ?_
                              refine GE.ol 6 (by as_aux_lemma => kernel_rfl) rfl rfl (og_runs (rv_move rfl)) rfl (fun _ _ h => by exact h) (fun _ _ => ?_)
                              (refine GE.ol 7 (by as_aux_lemma => kernel_rfl) rfl rfl (og_runs (rv_indexH rfl rfl (by first | exact Rd.owned 8 rfl | exact Rd.owned 10 rfl) rfl (by exact heb))) rfl (fun _ _ h => by exact h) (fun _ _ => ?_))
                              (refine GE.ol 8 (by as_aux_lemma => kernel_rfl) rfl rfl (og_runs (rv_fieldE rfl)) rfl (fun _ _ h => by exact h) (fun _ _ => ?_))
                              refine GE.ol 9 (by as_aux_lemma => kernel_rfl) rfl rfl (og_runs (rv_loadE rfl (by first | exact Rd.owned 8 rfl | exact Rd.owned 10 rfl) (by exact heb) rfl)) rfl (fun _ _ h => by exact h) (fun _ _ => ?_)
                              refine GE.ol 10 (by as_aux_lemma => kernel_rfl) rfl rfl (og_runs (rv_eql rfl rfl)) rfl (fun _ _ h => by exact h) (fun _ _ => ?_)
                              refine GE.done (by as_aux_lemma => kernel_rfl) ?_
                              refine G.thenN ?_
                              refine G.cond rfl (fun hc => ?_) (fun hc => ?_)
                              · try exact Bool.noConfusion hc
                                all_goals
                                 try replace hc := of_decide_eq_true hc
                                 try simp only [List.length_map] at hc
                                 try (exfalso; contradiction)
                                 all_goals
                                  refine G.seq ?_
                                  refine G.region ?_
                                  refine G.v (rv_move rfl) rfl ?_
                                  refine G.v (rv_len rfl (by exact Rd.owned 1 rfl)) rfl ?_
                                  (first | refine G.v (rv_loadW 7 rfl rfl rfl) rfl ?_ | refine G.v (rv_loadW 9 rfl rfl rfl) rfl ?_)
                                  refine G.v (rv_move rfl) rfl ?_
                                  (refine G.op (og_callF2 rfl rfl (fun w hh => specShelves_any (l := turnM bs k bs.length) p w (by exact Rd.owned 2 rfl _ hh) (by simp [turnM]; omega))) rfl ?_; rintro ⟨vu, us⟩ ⟨hvu, hus⟩; try dsimp only)
                                  dsimp only at hus hvu
                                  have hul2 : (us.map ShelfM.cells).length = us.length := by simp
                                  have hul : us.length = (shelvesM p (turnM bs k bs.length)).length := by rw [← hus, List.length_map]
                                  refine G.v (rv_len rfl (by exact Rd.owned 1 rfl)) rfl ?_
                                  refine G.v (rv_eql rfl rfl) rfl ?_
                                  refine G.v (rv_assign rfl) rfl ?_
                                  refine G.done ?_
                                  refine G.thenN ?_
                                  refine G.ret ?_
                                  refine G.inR ?_
                                  refine G.thenR ?_
                                  refine G.thenR ?_
                                  refine G.inR ?_
                                  refine G.inR ?_
                                  refine G.thenR ?_
                                  refine G.thenR ?_
                                  refine G.inR ?_
                                  refine G.thenR ?_
                                  exact G.retFV rfl rfl (congrArg Value.bool (decide_eq_true (by omega)))
                              · try exact Bool.noConfusion hc
                                all_goals
                                 try replace hc := of_decide_eq_false hc
                                 try simp only [List.length_map] at hc
                                 try (exfalso; contradiction)
                                 all_goals
                                  refine G.skip ?_
                                  refine G.inN ?_
                                  refine G.thenN ?_
                                  refine G.region ?_
                                  refine G.v (rv_move rfl) rfl ?_
                                  (refine G.v (rv_incr rfl rfl (by omega)) rfl ?_)
                                  refine G.v (rv_assign rfl) rfl ?_
                                  refine G.done ?_
                                  refine G.backK (j2 + 1) 0 rfl (.cons rfl (.cons rfl (.cons rfl (.cons rfl (.cons rfl (.cons rfl (.cons rfl (.nil)))))))) ?_ ?_ ?_
                                  · exact ⟨rfl, trivial⟩
                                  · have hne := hc
                                    exact ⟨hlt3, fun c y hcj hy => by (by_cases e : c = j2; (subst e; rw [hbb] at hy; cases hy; exact hne); exact hdj c y (by omega) hy)⟩
                                  · omega
                          · try exact Bool.noConfusion hc
                            all_goals
                             try replace hc := of_decide_eq_false hc
                             try simp only [List.length_map] at hc
                             try (exfalso; omega)
                             all_goals
                              refine G.exit ?_
                              refine G.thenX ?_
                              refine G.thenX ?_
                              refine G.inX ?_
                              refine G.inN ?_
                              refine G.thenN ?_
                              refine G.region ?_
                              refine G.v (rv_move rfl) rfl ?_
                              (refine G.v (rv_incr rfl rfl (by omega)) rfl ?_)
                              refine G.v (rv_assign rfl) rfl ?_
                              refine G.done ?_
                              refine G.backK (i2 + 1) 0 rfl (.cons rfl (.cons rfl (.cons rfl (.cons rfl (.cons rfl (.cons rfl (.nil))))))) ?_ ?_ ?_
                              · exact ⟨rfl, trivial⟩
                              · exact ⟨hlt2, fun c e x y h1 h2 h3 h4 => by (by_cases e2 : c = i2; (subst e2; rw [hba] at h3; cases h3; exact hdj e y (by omega) h4); exact hdi c e x y h1 (by omega) h3 h4)⟩
                              · omega
                     · try exact Bool.noConfusion hc
                       all_goals
                        try replace hc := of_decide_eq_false hc
                        try simp only [List.length_map] at hc
                        try (exfalso; omega)
                        all_goals
                         refine G.exit ?_
                         refine G.thenX ?_
                         refine G.thenX ?_
                         refine G.inX ?_
                         refine G.thenN ?_
                         refine G.seq ?_
                         refine G.seq ?_
                         refine G.region ?_
                         refine G.v (rv_move rfl) rfl ?_
                         have hpw : bs.Pairwise fun x y => x.d ≠ y.d := pair_ne (fun c e x y h1 h2 h3 => hdi c e x y h1 (by have := get_lt h2; omega) h2 h3)
                         have hpm : (turnM bs k bs.length).Perm bs := by (rcases Nat.eq_zero_or_pos bs.length with hz | hz; (have e0 : bs = [] := List.eq_nil_of_length_eq_zero hz; subst e0; exact List.Perm.refl _); exact turn_perm (by omega))
                         have her : (shelvesM p bs).map er = (shelvesM p (turnM bs k bs.length)).map er := shelves_er hpm.symm hpw
                         have hln9 : (shelvesM p bs).length = (shelvesM p (turnM bs k bs.length)).length := by have := congrArg List.length her; simpa using this
                         have hdp : depthM (gs.map Prod.fst) = depthM (ts.map Prod.fst) := by rw [hgs, hts]; exact congrArg sumM (er_d her)
                         refine G.v (rv_len rfl (by first | exact Rd.owned 6 rfl | exact Rd.owned 8 rfl)) rfl ?_
                         refine G.v (rv_move rfl) rfl ?_
                         refine G.v (rv_len rfl (by exact Rd.owned 1 rfl)) rfl ?_
                         refine G.v (rv_neq rfl rfl) rfl ?_
                         refine G.v (rv_move rfl) rfl ?_
                         all_goals (((with_reducible refine G.gP rfl rfl (fun hg => ?_) (fun hg => ?_)) <;> (try exact Bool.noConfusion hg) <;> (try (exfalso; (have hq := of_decide_eq_true hg; omega); done)) <;> ((refine G.gY rfl rfl ?_; refine G.v (rv_move rfl) rfl ?_))))
                         all_goals (((refine G.gY rfl rfl ?_; refine G.op (og_callV rfl rfl (fun w hh => implDepthOf_any w (by first | exact Rd.owned 6 rfl _ hh | exact Rd.owned 8 rfl _ hh) (by omega))) rfl (fun _ _ => ?_))))
                         all_goals (((refine G.gY rfl rfl ?_; refine G.v (rv_move rfl) rfl ?_)))
                         all_goals (((refine G.gY rfl rfl ?_; refine G.op (og_callV rfl rfl (fun w hh => implDepthOf_any w (by exact Rd.owned 1 rfl _ hh) (by omega))) rfl (fun _ _ => ?_))))
                         all_goals (((refine G.gY rfl rfl ?_; refine G.v (rv_neq rfl rfl) rfl ?_)))
                         all_goals ((refine G.v (rv_pickF rfl rfl) rfl ?_))
                         all_goals
                          refine G.done ?_
                          refine G.thenN ?_
                          refine G.cond rfl (fun hc => ?_) (fun hc => ?_)
                          · try exact Bool.noConfusion hc
                            all_goals
                             try replace hc := of_decide_eq_true hc
                             try simp only [List.length_map] at hc
                             try (exfalso; contradiction)
                             all_goals
                              refine G.seq ?_
                              refine G.region ?_
                              refine G.v (rv_assign rfl) rfl ?_
                              refine G.done ?_
                              refine G.thenN ?_
                              refine G.ret ?_
                              refine G.thenR ?_
                              exact G.retFV rfl rfl rfl
                          · try exact Bool.noConfusion hc
                            all_goals
                             try replace hc := of_decide_eq_false hc
                             try simp only [List.length_map] at hc
                             try (exfalso; contradiction)
                             all_goals
                              refine G.skip ?_
                              refine G.thenN ?_
                              refine G.seq ?_
                              refine G.seq ?_
                              refine G.region ?_
                              refine G.v (rv_assign rfl) rfl ?_
                              refine G.done ?_
                              refine G.thenN ?_
                              refine G.block ?_
                              -- loop 3: turned [13], kept [5, 10]
                              refine G.loopK (ι := Nat) (ks := [5, 10]) (fun i => [(13, .int .i64 (i : Int))]) (fun _ => []) (fun i => i ≤ gs.length) (fun i => gs.length - i) 0 (.cons rfl (.cons rfl (.nil))) rfl ?_ ?_ ?_
                              · exact Nat.zero_le _
                              · exact ⟨rfl, trivial⟩
                              rintro q hq
                              by_cases hlt4 : q < gs.length
                              case' pos => (obtain ⟨s, hgs4⟩ := get_of_lt hlt4; have het := get_map hgs4 ShelfM.cells; obtain ⟨t, hts4⟩ := get_of_lt (l := ts) (k := q) (by omega); have het2 := get_map hts4 ShelfM.cells; have hea4 := er_at her (hgs ▸ fst_at hgs4) (hts ▸ fst_at hts4))
                              all_goals
                               refine G.seq ?_
                               refine G.seq ?_
                               refine G.region ?_
                               refine G.v (rv_move rfl) rfl ?_
                               refine G.v (rv_move rfl) rfl ?_
                               refine G.v (rv_len rfl (by first | exact Rd.owned 6 rfl | exact Rd.owned 8 rfl)) rfl ?_
                               refine G.v (rv_lss rfl rfl) rfl ?_
                               refine G.done ?_
                               refine G.thenN ?_
                               refine G.cond rfl (fun hc => ?_) (fun hc => ?_)
                               · try exact Bool.noConfusion hc
                                 all_goals
                                  try replace hc := of_decide_eq_true hc
                                  try simp only [List.length_map] at hc
                                  try (exfalso; omega)
                                  all_goals
                                   refine G.skip ?_
                                   refine G.thenN ?_
                                   refine G.seq ?_
                                   refine G.block ?_
                                   refine G.seq ?_
                                   refine G.drawL [] ?_
                                   refine GE.q 0 rfl (by as_aux_lemma => kernel_rfl) rfl (qg_runs (rv_move rfl)) rfl ?_
                                   refine GE.q 1 rfl (by as_aux_lemma => kernel_rfl) rfl (qg_runs (rv_move rfl)) rfl ?_
                                   (refine GE.q 2 rfl (by as_aux_lemma => kernel_rfl) rfl (qg_runs (rv_indexH rfl rfl (by first | exact Rd.owned 6 rfl | exact Rd.owned 8 rfl) rfl (by exact het))) rfl ?_)
                                   (refine GE.q 3 rfl (by as_aux_lemma => kernel_rfl) rfl (qg_runs (rv_fieldE rfl)) rfl ?_)
                                   refine GE.q 4 rfl (by as_aux_lemma => kernel_rfl) rfl (qg_runs (rv_loadE rfl (by first | exact Rd.owned 6 rfl | exact Rd.owned 8 rfl) (by exact het) rfl)) rfl ?_
                                   refine GE.q 5 rfl (by as_aux_lemma => kernel_rfl) rfl (qg_runs (rv_move rfl)) rfl ?_
                                   refine GE.ol 6 (by as_aux_lemma => kernel_rfl) rfl rfl (og_runs (rv_move rfl)) rfl (fun _ _ h => by exact h) (fun _ _ => ?_)
                                   (refine GE.ol 7 (by as_aux_lemma => kernel_rfl) rfl rfl (og_runs (rv_indexH rfl rfl (by exact Rd.owned 1 rfl) rfl (by exact het2))) rfl (fun _ _ h => by exact h) (fun _ _ => ?_))
                                   (refine GE.ol 8 (by as_aux_lemma => kernel_rfl) rfl rfl (og_runs (rv_fieldE rfl)) rfl (fun _ _ h => by exact h) (fun _ _ => ?_))
                                   refine GE.ol 9 (by as_aux_lemma => kernel_rfl) rfl rfl (og_runs (rv_loadE rfl (by exact Rd.owned 1 rfl) (by exact het2) rfl)) rfl (fun _ _ h => by exact h) (fun _ _ => ?_)
                                   refine GE.ol 10 (by as_aux_lemma => kernel_rfl) rfl rfl (og_runs (rv_neq rfl rfl)) rfl (fun _ _ h => by exact h) (fun _ _ => ?_)
                                   refine GE.ol 11 (by as_aux_lemma => kernel_rfl) rfl rfl (og_runs (rv_move rfl)) rfl (fun _ _ h => by exact h) (fun _ _ => ?_)
                                   all_goals (((with_reducible refine GE.part (t := 134) rfl (fun hg => ?_) (fun hg => ?_)) <;> (try exact Bool.noConfusion hg) <;> (try (exfalso; (have hq := of_decide_eq_true hg; omega); done)) <;> (refine GE.q 12 rfl (by as_aux_lemma => kernel_rfl) rfl (qg_runs (rv_move rfl)) rfl ?_)))
                                   all_goals ((refine GE.q 13 rfl (by as_aux_lemma => kernel_rfl) rfl (qg_runs (rv_move rfl)) rfl ?_))
                                   all_goals (((refine GE.q 14 rfl (by as_aux_lemma => kernel_rfl) rfl (qg_runs (rv_indexH rfl rfl (by first | exact Rd.owned 6 rfl | exact Rd.owned 8 rfl) rfl (by exact het))) rfl ?_)))
                                   all_goals (((refine GE.q 15 rfl (by as_aux_lemma => kernel_rfl) rfl (qg_runs (rv_fieldE rfl)) rfl ?_)))
                                   all_goals ((refine GE.q 16 rfl (by as_aux_lemma => kernel_rfl) rfl (qg_runs (rv_loadE rfl (by first | exact Rd.owned 6 rfl | exact Rd.owned 8 rfl) (by exact het) rfl)) rfl ?_))
                                   all_goals ((refine GE.q 17 rfl (by as_aux_lemma => kernel_rfl) rfl (qg_runs (rv_move rfl)) rfl ?_))
                                   all_goals ((refine GE.q 18 rfl (by as_aux_lemma => kernel_rfl) rfl (qg_runs (rv_move rfl)) rfl ?_))
                                   all_goals (((refine GE.q 19 rfl (by as_aux_lemma => kernel_rfl) rfl (qg_runs (rv_indexH rfl rfl (by exact Rd.owned 1 rfl) rfl (by exact het2))) rfl ?_)))
                                   all_goals (((refine GE.q 20 rfl (by as_aux_lemma => kernel_rfl) rfl (qg_runs (rv_fieldE rfl)) rfl ?_)))
                                   all_goals ((refine GE.q 21 rfl (by as_aux_lemma => kernel_rfl) rfl (qg_runs (rv_loadE rfl (by exact Rd.owned 1 rfl) (by exact het2) rfl)) rfl ?_))
                                   all_goals ((refine GE.q 22 rfl (by as_aux_lemma => kernel_rfl) rfl (qg_runs (rv_neq rfl rfl)) rfl ?_))
                                   all_goals ((refine GE.ol 23 (by as_aux_lemma => kernel_rfl) rfl rfl (og_runs (rv_pickF rfl rfl)) rfl (fun _ _ h => by exact h) (fun _ _ => ?_)))
                                   all_goals (refine GE.ol 24 (by as_aux_lemma => kernel_rfl) rfl rfl (og_runs (rv_move rfl)) rfl (fun _ _ h => by exact h) (fun _ _ => ?_))
                                   all_goals (((with_reducible refine GE.part (t := 147) rfl (fun hg => ?_) (fun hg => ?_)) <;> (try exact Bool.noConfusion hg) <;> (try (exfalso; (have hq := of_decide_eq_true hg; omega); done)) <;> (refine GE.q 25 rfl (by as_aux_lemma => kernel_rfl) rfl (qg_runs (rv_move rfl)) rfl ?_)))
                                   all_goals ((refine GE.q 26 rfl (by as_aux_lemma => kernel_rfl) rfl (qg_runs (rv_move rfl)) rfl ?_))
                                   all_goals (((refine GE.q 27 rfl (by as_aux_lemma => kernel_rfl) rfl (qg_runs (rv_indexH rfl rfl (by first | exact Rd.owned 6 rfl | exact Rd.owned 8 rfl) rfl (by exact het))) rfl ?_)))
                                   all_goals (((refine GE.q 28 rfl (by as_aux_lemma => kernel_rfl) rfl (qg_runs (rv_fieldE rfl)) rfl ?_)))
                                   all_goals ((refine GE.q 29 rfl (by as_aux_lemma => kernel_rfl) rfl (qg_runs (rv_loadE rfl (by first | exact Rd.owned 6 rfl | exact Rd.owned 8 rfl) (by exact het) rfl)) rfl ?_))
                                   all_goals ((refine GE.q 30 rfl (by as_aux_lemma => kernel_rfl) rfl (qg_runs (rv_move rfl)) rfl ?_))
                                   all_goals ((refine GE.q 31 rfl (by as_aux_lemma => kernel_rfl) rfl (qg_runs (rv_move rfl)) rfl ?_))
                                   all_goals (((refine GE.q 32 rfl (by as_aux_lemma => kernel_rfl) rfl (qg_runs (rv_indexH rfl rfl (by exact Rd.owned 1 rfl) rfl (by exact het2))) rfl ?_)))
                                   all_goals (((refine GE.q 33 rfl (by as_aux_lemma => kernel_rfl) rfl (qg_runs (rv_fieldE rfl)) rfl ?_)))
                                   all_goals ((refine GE.q 34 rfl (by as_aux_lemma => kernel_rfl) rfl (qg_runs (rv_loadE rfl (by exact Rd.owned 1 rfl) (by exact het2) rfl)) rfl ?_))
                                   all_goals ((refine GE.q 35 rfl (by as_aux_lemma => kernel_rfl) rfl (qg_runs (rv_neq rfl rfl)) rfl ?_))
                                   all_goals ((refine GE.ol 36 (by as_aux_lemma => kernel_rfl) rfl rfl (og_runs (rv_pickF rfl rfl)) rfl (fun _ _ h => by exact h) (fun _ _ => ?_)))
                                   all_goals (refine GE.ol 37 (by as_aux_lemma => kernel_rfl) rfl rfl (og_runs (rv_move rfl)) rfl (fun _ _ h => by exact h) (fun _ _ => ?_))
                                   all_goals (((with_reducible refine GE.part (t := 160) rfl (fun hg => ?_) (fun hg => ?_)) <;> (try exact Bool.noConfusion hg) <;> (try (exfalso; (have hq := of_decide_eq_true hg; omega); done)) <;> (refine GE.q 38 rfl (by as_aux_lemma => kernel_rfl) rfl (qg_runs (rv_move rfl)) rfl ?_)))
                                   all_goals ((refine GE.q 39 rfl (by as_aux_lemma => kernel_rfl) rfl (qg_runs (rv_move rfl)) rfl ?_))
                                   all_goals (((refine GE.q 40 rfl (by as_aux_lemma => kernel_rfl) rfl (qg_runs (rv_indexH rfl rfl (by first | exact Rd.owned 6 rfl | exact Rd.owned 8 rfl) rfl (by exact het))) rfl ?_)))
                                   all_goals (((refine GE.q 41 rfl (by as_aux_lemma => kernel_rfl) rfl (qg_runs (rv_fieldE rfl)) rfl ?_)))
                                   all_goals ((refine GE.q 42 rfl (by as_aux_lemma => kernel_rfl) rfl (qg_runs (rv_loadE rfl (by first | exact Rd.owned 6 rfl | exact Rd.owned 8 rfl) (by exact het) rfl)) rfl ?_))
                                   all_goals ((refine GE.q 43 rfl (by as_aux_lemma => kernel_rfl) rfl (qg_runs (rv_move rfl)) rfl ?_))
                                   all_goals ((refine GE.q 44 rfl (by as_aux_lemma => kernel_rfl) rfl (qg_runs (rv_move rfl)) rfl ?_))
                                   all_goals (((refine GE.q 45 rfl (by as_aux_lemma => kernel_rfl) rfl (qg_runs (rv_indexH rfl rfl (by exact Rd.owned 1 rfl) rfl (by exact het2))) rfl ?_)))
                                   all_goals (((refine GE.q 46 rfl (by as_aux_lemma => kernel_rfl) rfl (qg_runs (rv_fieldE rfl)) rfl ?_)))
                                   all_goals ((refine GE.q 47 rfl (by as_aux_lemma => kernel_rfl) rfl (qg_runs (rv_loadE rfl (by exact Rd.owned 1 rfl) (by exact het2) rfl)) rfl ?_))
                                   all_goals ((refine GE.q 48 rfl (by as_aux_lemma => kernel_rfl) rfl (qg_runs (rv_neq rfl rfl)) rfl ?_))
                                   all_goals ((refine GE.ol 49 (by as_aux_lemma => kernel_rfl) rfl rfl (og_runs (rv_pickF rfl rfl)) rfl (fun _ _ h => by exact h) (fun _ _ => ?_)))
                                   all_goals
                                    refine GE.done (by as_aux_lemma => kernel_rfl) ?_
                                    refine G.thenN ?_
                                    refine G.cond rfl (fun hc => ?_) (fun hc => ?_)
                                    · try exact Bool.noConfusion hc
                                      all_goals
                                       try replace hc := of_decide_eq_true hc
                                       try simp only [List.length_map] at hc
                                       try (exfalso; omega)
                                       all_goals
                                        refine G.seq ?_
                                        refine G.region ?_
                                        refine G.v (rv_assign rfl) rfl ?_
                                        refine G.done ?_
                                        refine G.thenN ?_
                                        refine G.ret ?_
                                        refine G.inR ?_
                                        refine G.thenR ?_
                                        refine G.thenR ?_
                                        refine G.inR ?_
                                        refine G.thenR ?_
                                        exact G.retFV rfl rfl rfl
                                    · try exact Bool.noConfusion hc
                                      all_goals
                                       try replace hc := of_decide_eq_false hc
                                       try simp only [List.length_map] at hc
                                       try (exfalso; contradiction)
                                       all_goals
                                        refine G.skip ?_
                                        refine G.inN ?_
                                        refine G.thenN ?_
                                        refine G.region ?_
                                        refine G.v (rv_move rfl) rfl ?_
                                        (refine G.v (rv_incr rfl rfl (by omega)) rfl ?_)
                                        refine G.v (rv_assign rfl) rfl ?_
                                        refine G.done ?_
                                        refine G.backK (q + 1) 0 rfl (.cons rfl (.cons rfl (.nil))) ?_ ?_ ?_
                                        · exact ⟨rfl, trivial⟩
                                        · exact hlt4
                                        · omega
                               · try exact Bool.noConfusion hc
                                 all_goals
                                  try replace hc := of_decide_eq_false hc
                                  try simp only [List.length_map] at hc
                                  try (exfalso; omega)
                                  all_goals
                                   refine G.exit ?_
                                   refine G.thenX ?_
                                   refine G.thenX ?_
                                   refine G.inX ?_
                                   refine G.thenN ?_
                                   refine G.seq ?_
                                   refine G.region ?_
                                   refine G.v (rv_assign rfl) rfl ?_
                                   refine G.done ?_
                                   refine G.thenN ?_
                                   refine G.ret ?_
                                   exact G.retFV rfl rfl rfl
           · try exact Bool.noConfusion hc
             all_goals
              try replace hc := of_decide_eq_false hc
              try simp only [List.length_map] at hc
              try (exfalso; contradiction)
              all_goals
               obtain ⟨k, hk0⟩ : ∃ y : Nat, y = 0 := ⟨_, rfl⟩
               all_goals
                refine G.skip ?_
                refine G.thenN ?_
                refine G.seq ?_
                refine G.seq ?_
                refine G.region ?_
                refine G.v (rv_assign rfl) rfl ?_
                refine G.done ?_
                refine G.thenN ?_
                refine G.block ?_
                -- loop 0: turned [6, 9], kept [3, 4, 5, 7, 8]
                (refine G.frontR0 vl rfl ?_)
                refine G.loopK (ι := Nat × List BoxM × Value) (ks := [3, 4, 5, 7, 8]) (fun x => [(6, x.2.2), (9, .int .i64 (x.1 : Int))]) (fun x => [.row x.2.2 26 4 (x.2.1.map BoxM.cells)]) (fun x => x.1 ≤ bs.length ∧ x.2.1 = turnM bs k x.1) (fun x => bs.length - x.1) (0, [], vl) (.cons rfl (.cons rfl (.cons rfl (.cons rfl (.cons rfl (.nil)))))) rfl ?_ ?_ ?_
                · exact ⟨Nat.zero_le _, rfl⟩
                · exact ⟨rfl, rfl, trivial⟩
                rintro ⟨i, tb, v2⟩ ⟨hi, htb⟩
                dsimp only at hi htb ⊢
                have htbl : tb.length = i := by rw [htb]; simp [turnM]
                have htbl2 : (tb.map BoxM.cells).length = tb.length := by simp
                by_cases hlt : i < bs.length
                case' neg => (obtain rfl : i = bs.length := (by omega); subst htb)
                case' pos => (obtain ⟨b, hb⟩ := get_of_lt (l := bs) (k := (i + k) % bs.length) (Nat.mod_lt _ (by omega)); have hek : (bs.map BoxM.cells)[(i + k) % (bs.map BoxM.cells).length]? = some b.cells := (by rw [hbl]; exact get_map hb BoxM.cells); have htx := turn_next hb)
                all_goals
                 refine G.seq ?_
                 refine G.seq ?_
                 refine G.region ?_
                 refine G.v (rv_move rfl) rfl ?_
                 refine G.v (rv_move rfl) rfl ?_
                 refine G.v (rv_lss rfl rfl) rfl ?_
                 refine G.done ?_
                 refine G.thenN ?_
                 refine G.cond rfl (fun hc => ?_) (fun hc => ?_)
                 · try exact Bool.noConfusion hc
                   all_goals
                    try replace hc := of_decide_eq_true hc
                    try simp only [List.length_map] at hc
                    try (exfalso; omega)
                    all_goals
                     refine G.skip ?_
                     refine G.thenN ?_
                     refine G.seq ?_
                     refine G.block ?_
                     refine G.region ?_
                     refine G.v (rv_move rfl) rfl ?_
                     refine G.v (rv_move rfl) rfl ?_
                     refine G.v (rv_move rfl) rfl ?_
                     refine G.v (rv_move rfl) rfl ?_
                     refine G.v (rv_addN rfl rfl (by omega)) rfl ?_
                     refine G.v (rv_move rfl) rfl ?_
                     refine G.v (rv_remN rfl rfl (by omega)) rfl ?_
                     (refine G.v (rv_indexH (k := 0) rfl rfl (by exact Rd.owned 0 rfl) rfl (by exact heg0 (by have hq := of_decide_eq_true hg; omega))) rfl ?_)
                     (refine G.v (rv_loadEW rfl (by exact Rd.stays (by assumption)) (by exact het) rfl) rfl ?_)
                     refine G.op (og_lit rfl (.cons rfl .nil) rfl rfl rfl rfl rfl rfl) rfl (fun vl _ => ?_)
                     (refine G.op (og_app0 rfl rfl rfl (by exact Rd.stays (by assumption)) rfl rfl (by simp; omega) (by simp; omega)) rfl (fun va _ => ?_))
                     refine G.v (rv_assign rfl) rfl ?_
                     refine G.done ?_
                     refine G.inN ?_
                     refine G.thenN ?_
                     refine G.region ?_
                     refine G.v (rv_move rfl) rfl ?_
                     (refine G.v (rv_incr rfl rfl (by omega)) rfl ?_)
                     refine G.v (rv_assign rfl) rfl ?_
                     refine G.done ?_
                     (refine G.frontR0 va rfl ?_)
                     (refine G.keepOne 1 rfl ?_; refine G.backK (i + 1, tb ++ [b], va) 1 (one_eq (congrArg (fun z => Ch.row va 26 4 z) (by rw [List.map_append]; rfl))) (.cons rfl (.cons rfl (.cons rfl (.cons rfl (.cons rfl (.nil)))))) ?_ ?_ ?_)
                     · exact ⟨rfl, rfl, trivial⟩
                     · exact ⟨hlt, by rw [htx, ← htb]⟩
                     · dsimp only; omega
                 · try exact Bool.noConfusion hc
                   all_goals
                    try replace hc := of_decide_eq_false hc
                    try simp only [List.length_map] at hc
                    try (exfalso; omega)
                    all_goals
                     refine G.exit ?_
                     refine G.thenX ?_
                     refine G.thenX ?_
                     refine G.inX ?_
                     refine G.thenN ?_
                     refine G.seq ?_
                     refine G.region ?_
                     (first | refine G.v (rv_loadW 5 rfl rfl rfl) rfl ?_ | refine G.v (rv_loadW 7 rfl rfl rfl) rfl ?_)
                     refine G.v (rv_move rfl) rfl ?_
                     (refine G.op (og_callF2 rfl rfl (fun w hh => implShelves_any p w (by exact Rd.owned 0 rfl _ hh) (by simp [turnM]; omega))) rfl ?_; rintro ⟨vt, ts⟩ ⟨hvt, hts⟩; try dsimp only)
                     dsimp only at hts hvt
                     have htl : ts.length = (shelvesM p (turnM bs k bs.length)).length := by rw [← hts, List.length_map]
                     have htl2 : (ts.map ShelfM.cells).length = ts.length := by simp
                     have hsl2 := shelves_len p (turnM bs k bs.length)
                     have htn : (turnM bs k bs.length).length = bs.length := by simp [turnM]
                     refine G.v (rv_assign rfl) rfl ?_
                     refine G.done ?_
                     refine G.thenN ?_
                     refine G.seq ?_
                     refine G.seq ?_
                     refine G.region ?_
                     refine G.v (rv_assign rfl) rfl ?_
                     refine G.done ?_
                     refine G.thenN ?_
                     refine G.block ?_
                     -- loop 1: turned [11], kept [3, 4, 5, 6, 7, 10]
                     skip
                     refine G.loopK (ι := Nat) (ks := [3, 4, 5, 6, 7, 10]) (fun i => [(11, .int .i64 (i : Int))]) (fun _ => []) (fun i => i ≤ bs.length ∧ ∀ (a b : Nat) (x y : BoxM), b < a → a < i → bs[a]? = some x → bs[b]? = some y → x.d ≠ y.d) (fun i => bs.length - i) 0 (.cons rfl (.cons rfl (.cons rfl (.cons rfl (.cons rfl (.cons rfl (.nil))))))) rfl ?_ ?_ ?_
                     · exact ⟨Nat.zero_le _, fun a b x y _ h => absurd h (Nat.not_lt_zero _)⟩
                     · exact ⟨rfl, trivial⟩
                     rintro i2 ⟨hi2, hdi⟩
                     by_cases hlt2 : i2 < bs.length
                     case' pos => (obtain ⟨a, hba⟩ := get_of_lt hlt2; have hea := get_map hba BoxM.cells)
                     all_goals
                      refine G.seq ?_
                      refine G.seq ?_
                      refine G.region ?_
                      refine G.v (rv_move rfl) rfl ?_
                      refine G.v (rv_move rfl) rfl ?_
                      refine G.v (rv_lss rfl rfl) rfl ?_
                      refine G.done ?_
                      refine G.thenN ?_
                      refine G.cond rfl (fun hc => ?_) (fun hc => ?_)
                      · try exact Bool.noConfusion hc
                        all_goals
                         try replace hc := of_decide_eq_true hc
                         try simp only [List.length_map] at hc
                         try (exfalso; omega)
                         all_goals
                          refine G.skip ?_
                          refine G.thenN ?_
                          refine G.seq ?_
                          refine G.block ?_
                          refine G.seq ?_
                          refine G.region ?_
                          refine G.v (rv_assign rfl) rfl ?_
                          refine G.done ?_
                          refine G.thenN ?_
                          refine G.block ?_
                          -- loop 2: turned [12], kept [3, 4, 5, 6, 7, 10, 11]
                          refine G.loopK (ι := Nat) (ks := [3, 4, 5, 6, 7, 10, 11]) (fun j => [(12, .int .i64 (j : Int))]) (fun _ => []) (fun j => j ≤ i2 ∧ ∀ (c : Nat) (y : BoxM), c < j → bs[c]? = some y → a.d ≠ y.d) (fun j => i2 - j) 0 (.cons rfl (.cons rfl (.cons rfl (.cons rfl (.cons rfl (.cons rfl (.cons rfl (.nil)))))))) rfl ?_ ?_ ?_
                          · exact ⟨Nat.zero_le _, fun c y h => absurd h (Nat.not_lt_zero _)⟩
                          · exact ⟨rfl, trivial⟩
                          rintro j2 ⟨hj2, hdj⟩
                          by_cases hlt3 : j2 < i2
                          case' pos => (obtain ⟨b, hbb⟩ := get_of_lt (l := bs) (k := j2) (by omega); have heb := get_map hbb BoxM.cells)
                          all_goals
                           refine G.seq ?_
                           refine G.seq ?_
                           refine G.region ?_
                           refine G.v (rv_move rfl) rfl ?_
                           refine G.v (rv_move rfl) rfl ?_
                           refine G.v (rv_lss rfl rfl) rfl ?_
                           refine G.done ?_
                           refine G.thenN ?_
                           refine G.cond rfl (fun hc => ?_) (fun hc => ?_)
                           · try exact Bool.noConfusion hc
                             all_goals
                              try replace hc := of_decide_eq_true hc
                              try simp only [List.length_map] at hc
                              try (exfalso; contradiction)
                              all_goals
                               refine G.skip ?_
                               refine G.thenN ?_
                               refine G.seq ?_
                               refine G.block ?_
                               refine G.seq ?_
                               refine G.drawL [] ?_
                               refine GE.q 0 rfl (by as_aux_lemma => kernel_rfl) rfl (qg_runs (rv_move rfl)) rfl ?_
                               refine GE.q 1 rfl (by as_aux_lemma => kernel_rfl) rfl (qg_runs (rv_move rfl)) rfl ?_
                               (refine GE.q 2 rfl (by as_aux_lemma => kernel_rfl) rfl (qg_runs (rv_indexH (k := 0) rfl rfl (by exact Rd.owned 0 rfl) rfl (by exact heg0 (by have hq := of_decide_eq_true hg; omega)))) rfl ?_)
                               (refine GE.q 3 rfl (by as_aux_lemma => kernel_rfl) rfl (qg_runs (rv_field rfl)) rfl ?_)
                               refine GE.q 4 rfl (by as_aux_lemma => kernel_rfl) rfl (qg_runs (rv_loadE rfl (by exact Rd.stays (by assumption)) (by exact het) rfl)) rfl ?_
                               refine GE.q 5 rfl (by as_aux_lemma => kernel_rfl) rfl (qg_runs (rv_move rfl)) rfl ?_
                               refine GE.ol 6 (by as_aux_lemma => kernel_rfl) rfl rfl (og_runs (rv_move rfl)) rfl (fun _ _ h => by exact h) (fun _ _ => ?_)
                               (refine GE.ol 7 (by as_aux_lemma => kernel_rfl) rfl rfl (og_runs (rv_indexH (k := 0) rfl rfl (by exact Rd.owned 0 rfl) rfl (by exact heg0 (by have hq := of_decide_eq_true hg; omega)))) rfl (fun _ _ h => by exact h) (fun _ _ => ?_))
                               (refine GE.ol 8 (by as_aux_lemma => kernel_rfl) rfl rfl (og_runs (rv_field rfl)) rfl (fun _ _ h => by exact h) (fun _ _ => ?_))
                               refine GE.ol 9 (by as_aux_lemma => kernel_rfl) rfl rfl (og_runs (rv_loadE rfl (by exact Rd.stays (by assumption)) (by exact het) rfl)) rfl (fun _ _ h => by exact h) (fun _ _ => ?_)
                               refine GE.ol 10 (by as_aux_lemma => kernel_rfl) rfl rfl (og_runs (rv_eql rfl rfl)) rfl (fun _ _ h => by exact h) (fun _ _ => ?_)
                               refine GE.done (by as_aux_lemma => kernel_rfl) ?_
                               refine G.thenN ?_
                               refine G.cond rfl (fun hc => ?_) (fun hc => ?_)
                               · try exact Bool.noConfusion hc
                                 all_goals
                                  try replace hc := of_decide_eq_true hc
                                  try simp only [List.length_map] at hc
                                  try (exfalso; contradiction)
                                  all_goals
                                   refine G.seq ?_
                                   refine G.region ?_
                                   refine G.v (rv_move rfl) rfl ?_
                                   refine G.v (rv_len rfl (by exact Rd.stays (by assumption))) rfl ?_
                                   (refine G.v (rv_loadW 0 rfl rfl rfl) rfl ?_)
                                   refine G.v (rv_move rfl) rfl ?_
                                   (refine G.op (og_callF2 rfl rfl (fun w hh => specShelves_any (l := turnM bs k bs.length) p w (by exact Rd.stays (by assumption) _ hh) (by simp [turnM]; omega))) rfl ?_; rintro ⟨vu, us⟩ ⟨hvu, hus⟩; try dsimp only)
                                   dsimp only at hus hvu
                                   have hul2 : (us.map ShelfM.cells).length = us.length := by simp
                                   have hul : us.length = (shelvesM p (turnM bs k bs.length)).length := by rw [← hus, List.length_map]
                                   refine G.v (rv_len rfl (by exact Rd.stays (by assumption))) rfl ?_
                                   refine G.v (rv_eql rfl rfl) rfl ?_
                                   refine G.v (rv_assign rfl) rfl ?_
                                   refine G.done ?_
                                   refine G.thenN ?_
                                   refine G.ret ?_
                                   refine G.inR ?_
                                   refine G.thenR ?_
                                   refine G.thenR ?_
                                   refine G.inR ?_
                                   refine G.inR ?_
                                   refine G.thenR ?_
                                   refine G.thenR ?_
                                   refine G.inR ?_
                                   refine G.thenR ?_
                                   exact G.retFV rfl rfl rfl
                               · try exact Bool.noConfusion hc
                                 all_goals
                                  try replace hc := of_decide_eq_false hc
                                  try simp only [List.length_map] at hc
                                  try (exfalso; contradiction)
                                  all_goals
                                   refine G.skip ?_
                                   refine G.inN ?_
                                   refine G.thenN ?_
                                   refine G.region ?_
                                   refine G.v (rv_move rfl) rfl ?_
                                   (refine G.v (rv_incr rfl rfl (by omega)) rfl ?_)
                                   refine G.v (rv_assign rfl) rfl ?_
                                   refine G.done ?_
                                   refine G.backK (j2 + 1) 0 rfl (.cons rfl (.cons rfl (.cons rfl (.cons rfl (.cons rfl (.cons rfl (.cons rfl (.nil)))))))) ?_ ?_ ?_
                                   · exact ⟨rfl, trivial⟩
                                   · have hne := hc
                                     exact ⟨hlt3, fun c y hcj hy => by (by_cases e : c = j2; (subst e; rw [hbb] at hy; cases hy; exact hne); exact hdj c y (by omega) hy)⟩
                                   · omega
                           · try exact Bool.noConfusion hc
                             all_goals
                              try replace hc := of_decide_eq_false hc
                              try simp only [List.length_map] at hc
                              try (exfalso; contradiction)
                              all_goals
                               refine G.exit ?_
                               refine G.thenX ?_
                               refine G.thenX ?_
                               refine G.inX ?_
                               refine G.inN ?_
                               refine G.thenN ?_
                               refine G.region ?_
                               refine G.v (rv_move rfl) rfl ?_
                               (refine G.v (rv_incr rfl rfl (by omega)) rfl ?_)
                               refine G.v (rv_assign rfl) rfl ?_
                               refine G.done ?_
                               refine G.backK (i2 + 1) 0 rfl (.cons rfl (.cons rfl (.cons rfl (.cons rfl (.cons rfl (.cons rfl (.nil))))))) ?_ ?_ ?_
                               · exact ⟨rfl, trivial⟩
                               · exact ⟨hlt2, fun c e x y h1 h2 h3 h4 => by (by_cases e2 : c = i2; (subst e2; rw [hba] at h3; cases h3; exact hdj e y (by omega) h4); exact hdi c e x y h1 (by omega) h3 h4)⟩
                               · omega
                      · try exact Bool.noConfusion hc
                        all_goals
                         try replace hc := of_decide_eq_false hc
                         try simp only [List.length_map] at hc
                         try (exfalso; omega)
                         all_goals
                          refine G.exit ?_
                          refine G.thenX ?_
                          refine G.thenX ?_
                          refine G.inX ?_
                          refine G.thenN ?_
                          refine G.seq ?_
                          refine G.seq ?_
                          refine G.region ?_
                          refine G.v (rv_move rfl) rfl ?_
                          have hpw : bs.Pairwise fun x y => x.d ≠ y.d := pair_ne (fun c e x y h1 h2 h3 => hdi c e x y h1 (by have := get_lt h2; omega) h2 h3)
                          have hpm : (turnM bs k bs.length).Perm bs := by (rcases Nat.eq_zero_or_pos bs.length with hz | hz; (have e0 : bs = [] := List.eq_nil_of_length_eq_zero hz; subst e0; exact List.Perm.refl _); exact turn_perm (by omega))
                          have her : (shelvesM p bs).map er = (shelvesM p (turnM bs k bs.length)).map er := shelves_er hpm.symm hpw
                          have hln9 : (shelvesM p bs).length = (shelvesM p (turnM bs k bs.length)).length := by have := congrArg List.length her; simpa using this
                          have hdp : depthM (gs.map Prod.fst) = depthM (ts.map Prod.fst) := by rw [hgs, hts]; exact congrArg sumM (er_d her)
                          refine G.v (rv_len rfl (by first | exact Rd.owned 6 rfl | exact Rd.owned 8 rfl)) rfl ?_
                          refine G.v (rv_move rfl) rfl ?_
                          refine G.v (rv_len rfl (by exact Rd.owned 1 rfl)) rfl ?_
                          refine G.v (rv_neq rfl rfl) rfl ?_
                          refine G.v (rv_move rfl) rfl ?_
                          all_goals (((with_reducible refine G.gP rfl rfl (fun hg => ?_) (fun hg => ?_)) <;> (try exact Bool.noConfusion hg) <;> (try (exfalso; (have hq := of_decide_eq_true hg; omega); done)) <;> ((refine G.gY rfl rfl ?_; refine G.v (rv_move rfl) rfl ?_))))
                          all_goals (((refine G.gY rfl rfl ?_; refine G.op (og_callV rfl rfl (fun w hh => implDepthOf_any w (by first | exact Rd.owned 6 rfl _ hh | exact Rd.owned 8 rfl _ hh) (by omega))) rfl (fun _ _ => ?_))))
                          all_goals (((refine G.gY rfl rfl ?_; refine G.v (rv_move rfl) rfl ?_)))
                          all_goals (((refine G.gY rfl rfl ?_; refine G.op (og_callV rfl rfl (fun w hh => implDepthOf_any w (by exact Rd.owned 1 rfl _ hh) (by omega))) rfl (fun _ _ => ?_))))
                          all_goals (((refine G.gY rfl rfl ?_; refine G.v (rv_neq rfl rfl) rfl ?_)))
                          all_goals ((refine G.v (rv_pickF rfl rfl) rfl ?_))
                          all_goals
                           refine G.done ?_
                           refine G.thenN ?_
                           refine G.cond rfl (fun hc => ?_) (fun hc => ?_)
                           · try exact Bool.noConfusion hc
                             all_goals
                              try replace hc := of_decide_eq_true hc
                              try simp only [List.length_map] at hc
                              try (exfalso; contradiction)
                              all_goals
                               refine G.seq ?_
                               refine G.region ?_
                               refine G.v (rv_assign rfl) rfl ?_
                               refine G.done ?_
                               refine G.thenN ?_
                               refine G.ret ?_
                               refine G.thenR ?_
                               exact G.retFV rfl rfl rfl
                           · try exact Bool.noConfusion hc
                             all_goals
                              try replace hc := of_decide_eq_false hc
                              try simp only [List.length_map] at hc
                              try (exfalso; contradiction)
                              all_goals
                               refine G.skip ?_
                               refine G.thenN ?_
                               refine G.seq ?_
                               refine G.seq ?_
                               refine G.region ?_
                               refine G.v (rv_assign rfl) rfl ?_
                               refine G.done ?_
                               refine G.thenN ?_
                               refine G.block ?_
                               -- loop 3: turned [13], kept [5, 10]
                               refine G.loopK (ι := Nat) (ks := [5, 10]) (fun i => [(13, .int .i64 (i : Int))]) (fun _ => []) (fun i => i ≤ gs.length) (fun i => gs.length - i) 0 (.cons rfl (.cons rfl (.nil))) rfl ?_ ?_ ?_
                               · exact Nat.zero_le _
                               · exact ⟨rfl, trivial⟩
                               rintro q hq
                               by_cases hlt4 : q < gs.length
                               case' pos => (obtain ⟨s, hgs4⟩ := get_of_lt hlt4; have het := get_map hgs4 ShelfM.cells; obtain ⟨t, hts4⟩ := get_of_lt (l := ts) (k := q) (by omega); have het2 := get_map hts4 ShelfM.cells; have hea4 := er_at her (hgs ▸ fst_at hgs4) (hts ▸ fst_at hts4))
                               all_goals
                                refine G.seq ?_
                                refine G.seq ?_
                                refine G.region ?_
                                refine G.v (rv_move rfl) rfl ?_
                                refine G.v (rv_move rfl) rfl ?_
                                refine G.v (rv_len rfl (by first | exact Rd.owned 6 rfl | exact Rd.owned 8 rfl)) rfl ?_
                                refine G.v (rv_lss rfl rfl) rfl ?_
                                refine G.done ?_
                                refine G.thenN ?_
                                refine G.cond rfl (fun hc => ?_) (fun hc => ?_)
                                · try exact Bool.noConfusion hc
                                  all_goals
                                   try replace hc := of_decide_eq_true hc
                                   try simp only [List.length_map] at hc
                                   try (exfalso; omega)
                                   all_goals
                                    refine G.skip ?_
                                    refine G.thenN ?_
                                    refine G.seq ?_
                                    refine G.block ?_
                                    refine G.seq ?_
                                    refine G.drawL [] ?_
                                    refine GE.q 0 rfl (by as_aux_lemma => kernel_rfl) rfl (qg_runs (rv_move rfl)) rfl ?_
                                    refine GE.q 1 rfl (by as_aux_lemma => kernel_rfl) rfl (qg_runs (rv_move rfl)) rfl ?_
                                    (refine GE.q 2 rfl (by as_aux_lemma => kernel_rfl) rfl (qg_runs (rv_indexH (k := 0) rfl rfl (by exact Rd.owned 0 rfl) rfl (by exact heg0 (by have hq := of_decide_eq_true hg; omega)))) rfl ?_)
                                    (refine GE.q 3 rfl (by as_aux_lemma => kernel_rfl) rfl (qg_runs (rv_field rfl)) rfl ?_)
                                    refine GE.q 4 rfl (by as_aux_lemma => kernel_rfl) rfl (qg_runs (rv_loadE rfl (by exact Rd.stays (by assumption)) (by exact het) rfl)) rfl ?_
                                    refine GE.q 5 rfl (by as_aux_lemma => kernel_rfl) rfl (qg_runs (rv_move rfl)) rfl ?_
                                    refine GE.ol 6 (by as_aux_lemma => kernel_rfl) rfl rfl (og_runs (rv_move rfl)) rfl (fun _ _ h => by exact h) (fun _ _ => ?_)
                                    (refine GE.ol 7 (by as_aux_lemma => kernel_rfl) rfl rfl (og_runs (rv_indexH (k := 0) rfl rfl (by exact Rd.owned 0 rfl) rfl (by exact heg0 (by have hq := of_decide_eq_true hg; omega)))) rfl (fun _ _ h => by exact h) (fun _ _ => ?_))
                                    (refine GE.ol 8 (by as_aux_lemma => kernel_rfl) rfl rfl (og_runs (rv_field rfl)) rfl (fun _ _ h => by exact h) (fun _ _ => ?_))
                                    refine GE.ol 9 (by as_aux_lemma => kernel_rfl) rfl rfl (og_runs (rv_loadE rfl (by exact Rd.stays (by assumption)) (by exact het) rfl)) rfl (fun _ _ h => by exact h) (fun _ _ => ?_)
                                    refine GE.ol 10 (by as_aux_lemma => kernel_rfl) rfl rfl (og_runs (rv_neq rfl rfl)) rfl (fun _ _ h => by exact h) (fun _ _ => ?_)
                                    refine GE.ol 11 (by as_aux_lemma => kernel_rfl) rfl rfl (og_runs (rv_move rfl)) rfl (fun _ _ h => by exact h) (fun _ _ => ?_)
                                    all_goals (((with_reducible refine GE.part (t := 134) rfl (fun hg => ?_) (fun hg => ?_)) <;> (try exact Bool.noConfusion hg) <;> (try (exfalso; (have hq := of_decide_eq_false hg; omega))) <;> (refine GE.q 12 rfl (by as_aux_lemma => kernel_rfl) rfl (qg_runs (rv_move rfl)) rfl ?_)))
                                    all_goals ((refine GE.q 13 rfl (by as_aux_lemma => kernel_rfl) rfl (qg_runs (rv_move rfl)) rfl ?_))
                                    all_goals (((refine GE.q 14 rfl (by as_aux_lemma => kernel_rfl) rfl (qg_runs (rv_indexH (k := 0) rfl rfl (by exact Rd.owned 0 rfl) rfl (by exact heg0 (by have hq := of_decide_eq_true hg; omega)))) rfl ?_)))
                                    all_goals (((refine GE.q 15 rfl (by as_aux_lemma => kernel_rfl) rfl (qg_runs (rv_field rfl)) rfl ?_)))
                                    all_goals ((refine GE.q 16 rfl (by as_aux_lemma => kernel_rfl) rfl (qg_runs (rv_loadE rfl (by exact Rd.stays (by assumption)) (by exact het) rfl)) rfl ?_))
                                    all_goals ((refine GE.q 17 rfl (by as_aux_lemma => kernel_rfl) rfl (qg_runs (rv_move rfl)) rfl ?_))
                                    all_goals ((refine GE.q 18 rfl (by as_aux_lemma => kernel_rfl) rfl (qg_runs (rv_move rfl)) rfl ?_))
                                    all_goals (((refine GE.q 19 rfl (by as_aux_lemma => kernel_rfl) rfl (qg_runs (rv_indexH (k := 0) rfl rfl (by exact Rd.owned 0 rfl) rfl (by exact heg0 (by have hq := of_decide_eq_true hg; omega)))) rfl ?_)))
                                    all_goals (((refine GE.q 20 rfl (by as_aux_lemma => kernel_rfl) rfl (qg_runs (rv_field rfl)) rfl ?_)))
                                    all_goals ((refine GE.q 21 rfl (by as_aux_lemma => kernel_rfl) rfl (qg_runs (rv_loadE rfl (by exact Rd.stays (by assumption)) (by exact het) rfl)) rfl ?_))
                                    all_goals ((refine GE.q 22 rfl (by as_aux_lemma => kernel_rfl) rfl (qg_runs (rv_neq rfl rfl)) rfl ?_))
                                    all_goals ((refine GE.ol 23 (by as_aux_lemma => kernel_rfl) rfl rfl (og_runs (rv_pickT rfl rfl)) rfl (fun _ _ h => by exact h) (fun _ _ => ?_)))
                                    all_goals (refine GE.ol 24 (by as_aux_lemma => kernel_rfl) rfl rfl (og_runs (rv_move rfl)) rfl (fun _ _ h => by exact h) (fun _ _ => ?_))
                                    all_goals (((with_reducible refine GE.part (t := 147) rfl (fun hg => ?_) (fun hg => ?_)) <;> (try exact Bool.noConfusion hg) <;> (try (exfalso; (have hq := of_decide_eq_false hg; omega))) <;> (refine GE.q 25 rfl (by as_aux_lemma => kernel_rfl) rfl (qg_runs (rv_move rfl)) rfl ?_)))
                                    all_goals ((refine GE.q 26 rfl (by as_aux_lemma => kernel_rfl) rfl (qg_runs (rv_move rfl)) rfl ?_))
                                    all_goals (((refine GE.q 27 rfl (by as_aux_lemma => kernel_rfl) rfl (qg_runs (rv_indexH (k := 0) rfl rfl (by exact Rd.owned 0 rfl) rfl (by exact heg0 (by have hq := of_decide_eq_true hg; omega)))) rfl ?_)))
                                    all_goals (((refine GE.q 28 rfl (by as_aux_lemma => kernel_rfl) rfl (qg_runs (rv_field rfl)) rfl ?_)))
                                    all_goals ((refine GE.q 29 rfl (by as_aux_lemma => kernel_rfl) rfl (qg_runs (rv_loadE rfl (by exact Rd.stays (by assumption)) (by exact het) rfl)) rfl ?_))
                                    all_goals ((refine GE.q 30 rfl (by as_aux_lemma => kernel_rfl) rfl (qg_runs (rv_move rfl)) rfl ?_))
                                    all_goals ((refine GE.q 31 rfl (by as_aux_lemma => kernel_rfl) rfl (qg_runs (rv_move rfl)) rfl ?_))
                                    all_goals (((refine GE.q 32 rfl (by as_aux_lemma => kernel_rfl) rfl (qg_runs (rv_indexH (k := 0) rfl rfl (by exact Rd.owned 0 rfl) rfl (by exact heg0 (by have hq := of_decide_eq_true hg; omega)))) rfl ?_)))
                                    all_goals (((refine GE.q 33 rfl (by as_aux_lemma => kernel_rfl) rfl (qg_runs (rv_field rfl)) rfl ?_)))
                                    all_goals ((refine GE.q 34 rfl (by as_aux_lemma => kernel_rfl) rfl (qg_runs (rv_loadE rfl (by exact Rd.stays (by assumption)) (by exact het) rfl)) rfl ?_))
                                    all_goals ((refine GE.q 35 rfl (by as_aux_lemma => kernel_rfl) rfl (qg_runs (rv_neq rfl rfl)) rfl ?_))
                                    all_goals ((refine GE.ol 36 (by as_aux_lemma => kernel_rfl) rfl rfl (og_runs (rv_pickT rfl rfl)) rfl (fun _ _ h => by exact h) (fun _ _ => ?_)))
                                    all_goals (refine GE.ol 37 (by as_aux_lemma => kernel_rfl) rfl rfl (og_runs (rv_move rfl)) rfl (fun _ _ h => by exact h) (fun _ _ => ?_))
                                    all_goals (((with_reducible refine GE.part (t := 160) rfl (fun hg => ?_) (fun hg => ?_)) <;> (try exact Bool.noConfusion hg) <;> (try (exfalso; (have hq := of_decide_eq_false hg; omega))) <;> (refine GE.q 38 rfl (by as_aux_lemma => kernel_rfl) rfl (qg_runs (rv_move rfl)) rfl ?_)))
                                    all_goals ((refine GE.q 39 rfl (by as_aux_lemma => kernel_rfl) rfl (qg_runs (rv_move rfl)) rfl ?_))
                                    all_goals (((refine GE.q 40 rfl (by as_aux_lemma => kernel_rfl) rfl (qg_runs (rv_indexH (k := 0) rfl rfl (by exact Rd.owned 0 rfl) rfl (by exact heg0 (by have hq := of_decide_eq_true hg; omega)))) rfl ?_)))
                                    all_goals (((refine GE.q 41 rfl (by as_aux_lemma => kernel_rfl) rfl (qg_runs (rv_field rfl)) rfl ?_)))
                                    all_goals ((refine GE.q 42 rfl (by as_aux_lemma => kernel_rfl) rfl (qg_runs (rv_loadE rfl (by exact Rd.stays (by assumption)) (by exact het) rfl)) rfl ?_))
                                    all_goals ((refine GE.q 43 rfl (by as_aux_lemma => kernel_rfl) rfl (qg_runs (rv_move rfl)) rfl ?_))
                                    all_goals ((refine GE.q 44 rfl (by as_aux_lemma => kernel_rfl) rfl (qg_runs (rv_move rfl)) rfl ?_))
                                    all_goals (((refine GE.q 45 rfl (by as_aux_lemma => kernel_rfl) rfl (qg_runs (rv_indexH (k := 0) rfl rfl (by exact Rd.owned 0 rfl) rfl (by exact heg0 (by have hq := of_decide_eq_true hg; omega)))) rfl ?_)))
                                    all_goals (((refine GE.q 46 rfl (by as_aux_lemma => kernel_rfl) rfl (qg_runs (rv_field rfl)) rfl ?_)))
                                    all_goals ((refine GE.q 47 rfl (by as_aux_lemma => kernel_rfl) rfl (qg_runs (rv_loadE rfl (by exact Rd.stays (by assumption)) (by exact het) rfl)) rfl ?_))
                                    all_goals ((refine GE.q 48 rfl (by as_aux_lemma => kernel_rfl) rfl (qg_runs (rv_neq rfl rfl)) rfl ?_))
                                    all_goals ((refine GE.ol 49 (by as_aux_lemma => kernel_rfl) rfl rfl (og_runs (rv_pickT rfl rfl)) rfl (fun _ _ h => by exact h) (fun _ _ => ?_)))
                                    all_goals
                                     refine GE.done (by as_aux_lemma => kernel_rfl) ?_
                                     refine G.thenN ?_
                                     refine G.cond rfl (fun hc => ?_) (fun hc => ?_)
                                     · try exact Bool.noConfusion hc
                                       all_goals
                                        try replace hc := of_decide_eq_true hc
                                        try simp only [List.length_map] at hc
                                        try (exfalso; contradiction)
                                        all_goals
                                         refine G.seq ?_
                                         refine G.region ?_
                                         refine G.v (rv_assign rfl) rfl ?_
                                         refine G.done ?_
                                         refine G.thenN ?_
                                         refine G.ret ?_
                                         refine G.inR ?_
                                         refine G.thenR ?_
                                         refine G.thenR ?_
                                         refine G.inR ?_
                                         refine G.thenR ?_
                                         exact G.retFV rfl rfl rfl
                                     · try exact Bool.noConfusion hc
                                       all_goals
                                        try replace hc := of_decide_eq_false hc
                                        try simp only [List.length_map] at hc
                                        try (exfalso; contradiction)
                                        all_goals
                                         refine G.skip ?_
                                         refine G.inN ?_
                                         refine G.thenN ?_
                                         refine G.region ?_
                                         refine G.v (rv_move rfl) rfl ?_
                                         (refine G.v (rv_incr rfl rfl (by omega)) rfl ?_)
                                         refine G.v (rv_assign rfl) rfl ?_
                                         refine G.done ?_
                                         refine G.backK (q + 1) 0 rfl (.cons rfl (.cons rfl (.nil))) ?_ ?_ ?_
                                         · exact ⟨rfl, trivial⟩
                                         · exact hlt4
                                         · omega
                                · try exact Bool.noConfusion hc
                                  all_goals
                                   try replace hc := of_decide_eq_false hc
                                   try simp only [List.length_map] at hc
                                   try (exfalso; omega)
                                   all_goals
                                    refine G.exit ?_
                                    refine G.thenX ?_
                                    refine G.thenX ?_
                                    refine G.inX ?_
                                    refine G.thenN ?_
                                    refine G.seq ?_
                                    refine G.region ?_
                                    refine G.v (rv_assign rfl) rfl ?_
                                    refine G.done ?_
                                    refine G.thenN ?_
                                    refine G.ret ?_
                                    exact G.retFV rfl rfl rfl
end Go.Proofs.Yticgeijklhlonaa
