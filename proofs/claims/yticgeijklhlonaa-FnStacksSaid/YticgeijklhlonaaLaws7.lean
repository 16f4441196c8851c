/-
  The law on layers and loads.
-/
import Derived.Test.YticgeijklhlonaaStackLaw
import Derived.Test.YticgeijklhlonaaDraws2
namespace Go.Proofs.Yticgeijklhlonaa
open Go.RowKit
attribute [local irreducible] Go.wpList Go.Code.wp Go.Exit.then Go.Exit.inBlock Go.bodyPost Go.Calls pE pB G RunsV FnV Fn FnM
set_option maxRecDepth 100000
set_option maxHeartbeats 4000000
theorem at_fst {M : Type} {l : List (M × Value)} {j : Nat} {b : M} (h : (l.map Prod.fst)[j]? = some b) : ∃ x, l[j]? = some x ∧ b = x.1 := by
  rw [List.getElem?_map] at h
  cases hl : l[j]? with
  | none => rw [hl] at h; cases h
  | some x => rw [hl] at h; exact ⟨x, rfl, (Option.some.inj h).symm⟩
theorem pos_at {α : Type} {l : List α} {x : α} (h : l[0]? = some x) : 0 < l.length := by
  rcases Nat.lt_or_ge 0 l.length with hz | hz
  · exact hz
  · rw [List.getElem?_eq_none hz] at h; cases h
theorem ne_pos {α : Type} {l : List α} (h : l ≠ []) : 0 < l.length := List.length_pos_iff.2 h
theorem lay_no {p : PalletM} {ss : List ShelfM} (h : (!(palletOkM p && ss.all fun s => heapOkM p s.d s.h s.g)) = true) : layersM p ss = [] := by
  rw [layersM, if_neg (by intro hq; simp only [shelvesOkM] at hq; rw [hq] at h; exact Bool.noConfusion h)]
theorem fnStacks_any {v : Value} {l : List Int} {w : World} (h : Rd w v 1 (l.map bcell)) : FnV Try.prog 7 [v] w (.bool true) := by
  refine FnV.of (n := 253) Try.func7 rfl rfl ?_
  refine G.seq ?_
  refine G.region ?_
  refine G.v (rv_assign rfl) rfl ?_
  refine G.done ?_
  refine G.thenN ?_
  refine G.seq ?_
  refine G.seq ?_
  refine G.region ?_
  refine G.v (rv_move rfl) rfl ?_
  refine G.op (og_callV rfl rfl (fun w hh => big_any w (by exact Rd.stays (by assumption) _ hh))) rfl (fun _ _ => ?_)
  refine G.done ?_
  refine G.thenN ?_
  refine G.cond rfl (fun hc => ?_) (fun hc => ?_)
  · try exact Bool.noConfusion hc
    all_goals
     try replace hc := of_decide_eq_true hc
     try simp only [List.length_map] at hc
     try (exfalso; contradiction)
     all_goals
      refine G.seq ?_
      refine G.region ?_
      refine G.v (rv_assign rfl) rfl ?_
      refine G.done ?_
      refine G.thenN ?_
      refine G.ret ?_
      refine G.thenR ?_
      exact G.retFV rfl rfl rfl
  · try exact Bool.noConfusion hc
    all_goals
     try replace hc := of_decide_eq_false hc
     try simp only [List.length_map] at hc
     try (exfalso; contradiction)
     all_goals
      refine G.skip ?_
      refine G.thenN ?_
      refine G.seq ?_
      refine G.region ?_
      refine G.v (rv_move rfl) rfl ?_
      (refine G.op (og_callF2 rfl rfl (fun w hh => drawLayersOf_any w (by exact Rd.stays (by assumption) _ hh))) rfl ?_; rintro ⟨p, vb, bs⟩ ⟨hvb, hbs⟩; try dsimp only)
      dsimp only at hbs hvb
      have hbl : (bs.map ShelfM.cells).length = bs.length := by simp
      have hsl0 : (bs.map Prod.fst).length = bs.length := by simp
      refine G.v (rv_move rfl) rfl ?_
      refine G.v (rv_extract rfl rfl) rfl ?_
      refine G.v (rv_extract rfl rfl) rfl ?_
      refine G.op (og_alloc) rfl (fun bk3 _ => ?_)
      (refine G.op0 (og_st0 rfl rfl rfl rfl rfl rfl (.zero (.cons (.cons (.cons (.cons .nil)))))) (fun _ _ => ?_))
      refine G.v (rv_assign rfl) rfl ?_
      refine G.done ?_
      refine G.thenN ?_
      refine G.seq ?_
      refine G.region ?_
      (refine G.v (rv_loadW 0 rfl rfl rfl) rfl ?_)
      refine G.v (rv_move rfl) rfl ?_
      (refine G.op (og_callF2 rfl rfl (fun w hh => implLayersOf_any p w (by exact Rd.owned 2 rfl _ hh) (by omega))) rfl ?_; rintro ⟨vg, gs⟩ ⟨hvg, hgs⟩; try dsimp only)
      dsimp only at hgs hvg
      have hgl : gs.length = (layersM p (bs.map Prod.fst)).length := by rw [← hgs, List.length_map]
      have hgl2 : (gs.map LayerM.cells).length = gs.length := by simp
      have hll := layers_len p (bs.map Prod.fst)
      refine G.v (rv_assign rfl) rfl ?_
      refine G.done ?_
      refine G.thenN ?_
      refine G.seq ?_
      refine G.seq ?_
      refine G.region ?_
      refine G.v (rv_move rfl) rfl ?_
      refine G.v (rv_len rfl (by exact Rd.owned 1 rfl)) rfl ?_
      (refine G.v (rv_loadW 2 rfl rfl rfl) rfl ?_)
      refine G.v (rv_move rfl) rfl ?_
      (refine G.op (og_callF2 rfl rfl (fun w hh => specLayersOf_any p w (by exact Rd.owned 4 rfl _ hh) (by omega))) rfl ?_; rintro ⟨vo, os⟩ ⟨hvo, hos⟩; try dsimp only)
      dsimp only at hos hvo
      have hol : os.length = (layersM p (bs.map Prod.fst)).length := by rw [← hos, List.length_map]
      refine G.v (rv_len rfl (by exact Rd.owned 1 rfl)) rfl ?_
      refine G.v (rv_neq rfl rfl) rfl ?_
      refine G.done ?_
      refine G.thenN ?_
      refine G.cond rfl (fun hc => ?_) (fun hc => ?_)
      · try exact Bool.noConfusion hc
        all_goals
         try replace hc := of_decide_eq_true hc
         try simp only [List.length_map] at hc
         try (exfalso; omega)
         all_goals
          refine G.seq ?_
          refine G.region ?_
          refine G.v (rv_assign rfl) rfl ?_
          refine G.done ?_
          refine G.thenN ?_
          refine G.ret ?_
          refine G.thenR ?_
          exact G.retFV rfl rfl rfl
      · try exact Bool.noConfusion hc
        all_goals
         try replace hc := of_decide_eq_false hc
         try simp only [List.length_map] at hc
         try (exfalso; contradiction)
         all_goals
          refine G.skip ?_
          refine G.thenN ?_
          refine G.seq ?_
          refine G.seq ?_
          refine G.region ?_
          (refine G.v (rv_loadW 4 rfl rfl rfl) rfl ?_)
          refine G.v (rv_move rfl) rfl ?_
          refine G.op (og_callV rfl rfl (fun w hh => specShelvesOk_any _ w (by exact Rd.owned 6 rfl _ hh))) rfl (fun _ _ => ?_)
          refine G.v (rv_not rfl) rfl ?_
          refine G.done ?_
          refine G.thenN ?_
          refine G.cond rfl (fun hc => ?_) (fun hc => ?_)
          · try exact Bool.noConfusion hc
            all_goals
             try replace hc := of_decide_eq_true hc
             try simp only [List.length_map] at hc
             try (exfalso; contradiction)
             all_goals
              refine G.seq ?_
              refine G.region ?_
              refine G.v (rv_move rfl) rfl ?_
              refine G.v (rv_len rfl (by exact Rd.owned 3 rfl)) rfl ?_
              refine G.v (rv_eql rfl rfl) rfl ?_
              refine G.v (rv_assign rfl) rfl ?_
              refine G.done ?_
              refine G.thenN ?_
              refine G.ret ?_
              refine G.thenR ?_
              (exact G.retFV rfl rfl (congrArg Value.bool (decide_eq_true (by (have hn0 : layersM p (bs.map Prod.fst) = [] := lay_no hc; rw [hn0, List.length_nil] at hgl; omega)))))
          · try exact Bool.noConfusion hc
            all_goals
             try replace hc := of_decide_eq_false hc
             try simp only [List.length_map] at hc
             try (exfalso; contradiction)
             all_goals
              refine G.skip ?_
              refine G.thenN ?_
              refine G.seq ?_
              refine G.region ?_
              refine G.v (rv_assign rfl) rfl ?_
              refine G.done ?_
              refine G.thenN ?_
              refine G.seq ?_
              refine G.seq ?_
              refine G.region ?_
              refine G.v (rv_assign rfl) rfl ?_
              refine G.done ?_
              refine G.thenN ?_
              refine G.block ?_
              -- loop 0: turned [6, 7], kept [3, 4, 5]
              have hok : shelvesOkM p (bs.map Prod.fst) = true := bnot_no hc
              have hpp : 1 ≤ p.w ∧ p.w ≤ 2000 ∧ 1 ≤ p.d ∧ p.d ≤ 2000 ∧ 1 ≤ p.h ∧ p.h ≤ 2000 ∧ 1 ≤ p.g ∧ p.g ≤ 100000 := pallet_in (by simp only [shelvesOkM, Bool.and_eq_true] at hok; exact hok.1)
              have hst := lay_stacks hok
              have hlf := lay_flat hok
              have hof := load_flat hst
              refine G.loopK (ι := Nat) (ks := [3, 4, 5]) (fun i => [(6, .int .i64 (offM LayerM.l (layersM p (bs.map Prod.fst)) i : Int)), (7, .int .i64 (i : Int))]) (fun _ => []) (fun i => i ≤ gs.length) (fun i => gs.length - i) 0 (.cons rfl (.cons rfl (.cons rfl (.nil)))) rfl ?_ ?_ ?_
              · exact Nat.zero_le _
              · exact ⟨rfl, rfl, trivial⟩
              rintro i hi
              have hole := off_le hlf i
              by_cases hlt : i < gs.length
              case' pos => (obtain ⟨t, hgt⟩ := get_of_lt hlt; have het := get_map hgt LayerM.cells; have hgi : (gs.map (sub LayerM.l))[i]? = some (t.2, t.1.l.map icell) := get_mapS hgt; have hm : (layersM p (bs.map Prod.fst))[i]? = some t.1 := hgs ▸ fst_at hgt; have hto := lay_ok hok t.1 (List.mem_of_getElem? hm); have hln := ne_pos (lay_ne t.1 (List.mem_of_getElem? hm)); have hlc : (t.1.l.map icell).length = t.1.l.length := (by simp); have hon := off_next (f := LayerM.l) hm; have hole2 := off_le hlf (i + 1); by_cases hi0 : 0 < i; (obtain ⟨s, hgt2⟩ := get_of_lt (l := gs) (k := i - 1) (by omega); have het2 := get_map hgt2 LayerM.cells; obtain ⟨j, b, hn, hb, hroom, hbi⟩ := lay_step hok hi0 (hgs ▸ fst_at hgt2) hm; have hex := get_map hn icell; obtain ⟨bu, hb2, rfl⟩ := at_fst hb; have heb := get_map hb2 ShelfM.cells))
              all_goals
               refine G.seq ?_
               refine G.seq ?_
               refine G.region ?_
               refine G.v (rv_move rfl) rfl ?_
               refine G.v (rv_move rfl) rfl ?_
               refine G.v (rv_len rfl (by exact Rd.owned 3 rfl)) rfl ?_
               refine G.v (rv_lss rfl rfl) rfl ?_
               refine G.done ?_
               refine G.thenN ?_
               refine G.cond rfl (fun hc => ?_) (fun hc => ?_)
               · try exact Bool.noConfusion hc
                 all_goals
                  try replace hc := of_decide_eq_true hc
                  try simp only [List.length_map] at hc
                  try (exfalso; omega)
                  all_goals
                   refine G.skip ?_
                   refine G.thenN ?_
                   refine G.seq ?_
                   refine G.block ?_
                   refine G.seq ?_
                   refine G.seq ?_
                   refine G.drawL [] ?_
                   refine GE.q 0 rfl (by as_aux_lemma => kernel_rfl) rfl (qg_runs (rv_move rfl)) rfl ?_
                   refine GE.q 1 rfl (by as_aux_lemma => kernel_rfl) rfl (qg_runs (rv_move rfl)) rfl ?_
                   (refine GE.q 2 rfl (by as_aux_lemma => kernel_rfl) rfl (qg_runs (rv_indexH rfl rfl (by exact Rd.owned 3 rfl) rfl (by exact het))) rfl ?_)
                   (refine GE.q 3 rfl (by as_aux_lemma => kernel_rfl) rfl (qg_runs (rv_fieldE rfl)) rfl ?_)
                   refine GE.q 4 rfl (by as_aux_lemma => kernel_rfl) rfl (qg_runs (rv_loadE rfl (by exact Rd.owned 3 rfl) (by exact het) rfl)) rfl ?_
                   (refine GE.ol 5 (by as_aux_lemma => kernel_rfl) rfl rfl (og_runs (rv_field rfl)) rfl (fun _ _ h => by exact h) (fun _ _ => ?_))
                   (refine GE.ol 6 (by as_aux_lemma => kernel_rfl) rfl rfl (og_runs (rv_load1 4 rfl rfl rfl)) rfl (fun _ _ h => by exact h) (fun _ _ => ?_))
                   refine GE.ol 7 (by as_aux_lemma => kernel_rfl) rfl rfl (og_runs (rv_gtr rfl rfl)) rfl (fun _ _ h => by exact h) (fun _ _ => ?_)
                   refine GE.ol 8 (by as_aux_lemma => kernel_rfl) rfl rfl (og_runs (rv_move rfl)) rfl (fun _ _ h => by exact h) (fun _ _ => ?_)
                   all_goals (((with_reducible refine GE.part (t := 50) rfl (fun hg => ?_) (fun hg => ?_)) <;> (try exact Bool.noConfusion hg) <;> (try (exfalso; (have hq := of_decide_eq_true hg; omega); done)) <;> (refine GE.q 9 rfl (by as_aux_lemma => kernel_rfl) rfl (qg_runs (rv_move rfl)) rfl ?_)))
                   all_goals ((refine GE.q 10 rfl (by as_aux_lemma => kernel_rfl) rfl (qg_runs (rv_move rfl)) rfl ?_))
                   all_goals (((refine GE.q 11 rfl (by as_aux_lemma => kernel_rfl) rfl (qg_runs (rv_indexH rfl rfl (by exact Rd.owned 3 rfl) rfl (by exact het))) rfl ?_)))
                   all_goals (((refine GE.q 12 rfl (by as_aux_lemma => kernel_rfl) rfl (qg_runs (rv_fieldE rfl)) rfl ?_)))
                   all_goals ((refine GE.q 13 rfl (by as_aux_lemma => kernel_rfl) rfl (qg_runs (rv_loadE rfl (by exact Rd.owned 3 rfl) (by exact het) rfl)) rfl ?_))
                   all_goals (((refine GE.q 14 rfl (by as_aux_lemma => kernel_rfl) rfl (qg_runs (rv_field rfl)) rfl ?_)))
                   all_goals (((refine GE.q 15 rfl (by as_aux_lemma => kernel_rfl) rfl (qg_runs (rv_load1 4 rfl rfl rfl)) rfl ?_)))
                   all_goals ((refine GE.q 16 rfl (by as_aux_lemma => kernel_rfl) rfl (qg_runs (rv_gtr rfl rfl)) rfl ?_))
                   all_goals ((refine GE.ol 17 (by as_aux_lemma => kernel_rfl) rfl rfl (og_runs (rv_pickF rfl rfl)) rfl (fun _ _ h => by exact h) (fun _ _ => ?_)))
                   all_goals (refine GE.ol 18 (by as_aux_lemma => kernel_rfl) rfl rfl (og_runs (rv_move rfl)) rfl (fun _ _ h => by exact h) (fun _ _ => ?_))
                   all_goals (((with_reducible refine GE.part (t := 60) rfl (fun hg => ?_) (fun hg => ?_)) <;> (try exact Bool.noConfusion hg) <;> (try (exfalso; (have hq := of_decide_eq_true hg; omega); done)) <;> (refine GE.q 19 rfl (by as_aux_lemma => kernel_rfl) rfl (qg_runs (rv_move rfl)) rfl ?_)))
                   all_goals ((refine GE.q 20 rfl (by as_aux_lemma => kernel_rfl) rfl (qg_runs (rv_move rfl)) rfl ?_))
                   all_goals (((refine GE.q 21 rfl (by as_aux_lemma => kernel_rfl) rfl (qg_runs (rv_indexH rfl rfl (by exact Rd.owned 3 rfl) rfl (by exact het))) rfl ?_)))
                   all_goals (((refine GE.q 22 rfl (by as_aux_lemma => kernel_rfl) rfl (qg_runs (rv_fieldE rfl)) rfl ?_)))
                   all_goals ((refine GE.q 23 rfl (by as_aux_lemma => kernel_rfl) rfl (qg_runs (rv_loadE rfl (by exact Rd.owned 3 rfl) (by exact het) rfl)) rfl ?_))
                   all_goals (((refine GE.q 24 rfl (by as_aux_lemma => kernel_rfl) rfl (qg_runs (rv_field rfl)) rfl ?_)))
                   all_goals (((refine GE.q 25 rfl (by as_aux_lemma => kernel_rfl) rfl (qg_runs (rv_load1 4 rfl rfl rfl)) rfl ?_)))
                   all_goals ((refine GE.q 26 rfl (by as_aux_lemma => kernel_rfl) rfl (qg_runs (rv_gtr rfl rfl)) rfl ?_))
                   all_goals ((refine GE.ol 27 (by as_aux_lemma => kernel_rfl) rfl rfl (og_runs (rv_pickF rfl rfl)) rfl (fun _ _ h => by exact h) (fun _ _ => ?_)))
                   all_goals (refine GE.ol 28 (by as_aux_lemma => kernel_rfl) rfl rfl (og_runs (rv_move rfl)) rfl (fun _ _ h => by exact h) (fun _ _ => ?_))
                   all_goals (((with_reducible refine GE.part (t := 70) rfl (fun hg => ?_) (fun hg => ?_)) <;> (try exact Bool.noConfusion hg) <;> (try (exfalso; (have hq := of_decide_eq_true hg; omega); done)) <;> (refine GE.q 29 rfl (by as_aux_lemma => kernel_rfl) rfl (qg_runs (rv_move rfl)) rfl ?_)))
                   all_goals ((refine GE.q 30 rfl (by as_aux_lemma => kernel_rfl) rfl (qg_runs (rv_move rfl)) rfl ?_))
                   all_goals (((refine GE.q 31 rfl (by as_aux_lemma => kernel_rfl) rfl (qg_runs (rv_indexH rfl rfl (by exact Rd.owned 3 rfl) rfl (by exact het))) rfl ?_)))
                   all_goals (((refine GE.q 32 rfl (by as_aux_lemma => kernel_rfl) rfl (qg_runs (rv_fieldE rfl)) rfl ?_)))
                   all_goals ((refine GE.q 33 rfl (by as_aux_lemma => kernel_rfl) rfl (qg_runs (rv_loadE rfl (by exact Rd.owned 3 rfl) (by exact het) rfl)) rfl ?_))
                   all_goals ((refine GE.q 34 rfl (by as_aux_lemma => kernel_rfl) rfl (qg_runs (rv_len rfl (by exact Rd.grp 2 rfl (List.mem_of_getElem? hgi)))) rfl ?_))
                   all_goals ((refine GE.q 35 rfl (by as_aux_lemma => kernel_rfl) rfl (qg_runs (rv_eql rfl rfl)) rfl ?_))
                   all_goals ((refine GE.ol 36 (by as_aux_lemma => kernel_rfl) rfl rfl (og_runs (rv_pickF rfl rfl)) rfl (fun _ _ h => by exact h) (fun _ _ => ?_)))
                   all_goals
                    refine GE.done (by as_aux_lemma => kernel_rfl) ?_
                    refine G.thenN ?_
                    refine G.cond rfl (fun hc => ?_) (fun hc => ?_)
                    · try exact Bool.noConfusion hc
                      all_goals
                       try replace hc := of_decide_eq_true hc
                       try simp only [List.length_map] at hc
                       try (exfalso; omega)
                       all_goals
                        refine G.seq ?_
                        refine G.region ?_
                        refine G.v (rv_assign rfl) rfl ?_
                        refine G.done ?_
                        refine G.thenN ?_
                        refine G.ret ?_
                        refine G.thenR ?_
                        refine G.inR ?_
                        refine G.thenR ?_
                        refine G.thenR ?_
                        refine G.inR ?_
                        refine G.thenR ?_
                        exact G.retFV rfl rfl rfl
                    · try exact Bool.noConfusion hc
                      all_goals
                       try replace hc := of_decide_eq_false hc
                       try simp only [List.length_map] at hc
                       try (exfalso; contradiction)
                       all_goals
                        refine G.skip ?_
                        refine G.thenN ?_
                        refine G.seq ?_
                        refine G.seq ?_
                        refine G.region ?_
                        refine G.v (rv_assign rfl) rfl ?_
                        refine G.done ?_
                        refine G.thenN ?_
                        refine G.block ?_
                        -- loop 1: turned [6, 8], kept [3, 4, 5, 7]
                        refine G.loopK (ι := Nat) (ks := [3, 4, 5, 7]) (fun k => [(6, .int .i64 ((offM LayerM.l (layersM p (bs.map Prod.fst)) i + k : Nat) : Int)), (8, .int .i64 (k : Int))]) (fun _ => []) (fun k => k ≤ t.1.l.length) (fun k => t.1.l.length - k) 0 (.cons rfl (.cons rfl (.cons rfl (.cons rfl (.nil))))) rfl ?_ ?_ ?_
                        · exact Nat.zero_le _
                        · exact ⟨rfl, rfl, trivial⟩
                        rintro k hk
                        by_cases hlk : k < t.1.l.length
                        case' pos => (obtain ⟨n, hkn⟩ := get_of_lt hlk; have hat := off_at hlf hm hkn; have hek := get_map hkn icell)
                        all_goals
                         refine G.seq ?_
                         refine G.seq ?_
                         refine G.region ?_
                         refine G.v (rv_move rfl) rfl ?_
                         refine G.v (rv_move rfl) rfl ?_
                         refine G.v (rv_move rfl) rfl ?_
                         (refine G.v (rv_indexH rfl rfl (by exact Rd.owned 3 rfl) rfl (by exact het)) rfl ?_)
                         (refine G.v (rv_fieldE rfl) rfl ?_)
                         refine G.v (rv_loadE rfl (by exact Rd.owned 3 rfl) (by exact het) rfl) rfl ?_
                         refine G.v (rv_len rfl (by exact Rd.grp 2 rfl (List.mem_of_getElem? hgi))) rfl ?_
                         refine G.v (rv_lss rfl rfl) rfl ?_
                         refine G.done ?_
                         refine G.thenN ?_
                         refine G.cond rfl (fun hc => ?_) (fun hc => ?_)
                         · try exact Bool.noConfusion hc
                           all_goals
                            try replace hc := of_decide_eq_true hc
                            try simp only [List.length_map] at hc
                            try (exfalso; omega)
                            all_goals
                             refine G.skip ?_
                             refine G.thenN ?_
                             refine G.seq ?_
                             refine G.block ?_
                             refine G.seq ?_
                             refine G.seq ?_
                             refine G.region ?_
                             refine G.v (rv_move rfl) rfl ?_
                             refine G.v (rv_move rfl) rfl ?_
                             (refine G.v (rv_indexH rfl rfl (by exact Rd.owned 3 rfl) rfl (by exact het)) rfl ?_)
                             (refine G.v (rv_fieldE rfl) rfl ?_)
                             refine G.v (rv_loadE rfl (by exact Rd.owned 3 rfl) (by exact het) rfl) rfl ?_
                             refine G.v (rv_move rfl) rfl ?_
                             (refine G.v (rv_indexH rfl rfl (by exact Rd.grp 2 rfl (List.mem_of_getElem? hgi)) rfl (by exact hek)) rfl ?_)
                             refine G.v (rv_loadE rfl (by exact Rd.grp 2 rfl (List.mem_of_getElem? hgi)) (by exact hek) rfl) rfl ?_
                             refine G.v (rv_move rfl) rfl ?_
                             refine G.v (rv_neq rfl rfl) rfl ?_
                             refine G.done ?_
                             refine G.thenN ?_
                             refine G.cond rfl (fun hc => ?_) (fun hc => ?_)
                             · try exact Bool.noConfusion hc
                               all_goals
                                try replace hc := of_decide_eq_true hc
                                try simp only [List.length_map] at hc
                                try (exfalso; omega)
                                all_goals
                                 refine G.seq ?_
                                 refine G.region ?_
                                 refine G.v (rv_assign rfl) rfl ?_
                                 refine G.done ?_
                                 refine G.thenN ?_
                                 refine G.ret ?_
                                 refine G.thenR ?_
                                 refine G.inR ?_
                                 refine G.thenR ?_
                                 refine G.thenR ?_
                                 refine G.inR ?_
                                 refine G.thenR ?_
                                 refine G.inR ?_
                                 refine G.thenR ?_
                                 refine G.thenR ?_
                                 refine G.inR ?_
                                 refine G.thenR ?_
                                 exact G.retFV rfl rfl rfl
                             · try exact Bool.noConfusion hc
                               all_goals
                                try replace hc := of_decide_eq_false hc
                                try simp only [List.length_map] at hc
                                try (exfalso; contradiction)
                                all_goals
                                 refine G.skip ?_
                                 refine G.thenN ?_
                                 refine G.region ?_
                                 refine G.v (rv_move rfl) rfl ?_
                                 (refine G.v (rv_incr rfl rfl (by omega)) rfl ?_)
                                 refine G.v (rv_assign rfl) rfl ?_
                                 refine G.done ?_
                                 refine G.inN ?_
                                 refine G.thenN ?_
                                 refine G.region ?_
                                 refine G.v (rv_move rfl) rfl ?_
                                 (refine G.v (rv_incr rfl rfl (by omega)) rfl ?_)
                                 refine G.v (rv_assign rfl) rfl ?_
                                 refine G.done ?_
                                 refine G.backK (k + 1) 0 rfl (.cons rfl (.cons rfl (.cons rfl (.cons rfl (.nil))))) ?_ ?_ ?_
                                 · exact ⟨rfl, rfl, trivial⟩
                                 · exact hlk
                                 · omega
                         · try exact Bool.noConfusion hc
                           all_goals
                            try replace hc := of_decide_eq_false hc
                            try simp only [List.length_map] at hc
                            try (exfalso; omega)
                            all_goals
                             refine G.exit ?_
                             refine G.thenX ?_
                             refine G.thenX ?_
                             refine G.inX ?_
                             refine G.thenN ?_
                             refine G.seq ?_
                             refine G.drawL [] ?_
                             refine GE.ol 0 (by as_aux_lemma => kernel_rfl) rfl rfl (og_runs (rv_move rfl)) rfl (fun _ _ h => by exact h) (fun _ _ => ?_)
                             refine GE.ol 1 (by as_aux_lemma => kernel_rfl) rfl rfl (og_runs (rv_gtr rfl rfl)) rfl (fun _ _ h => by exact h) (fun _ _ => ?_)
                             refine GE.ol 2 (by as_aux_lemma => kernel_rfl) rfl rfl (og_runs (rv_move rfl)) rfl (fun _ _ h => by exact h) (fun _ _ => ?_)
                             all_goals (((with_reducible refine GE.part (t := 103) rfl (fun hg => ?_) (fun hg => ?_)) <;> (try exact Bool.noConfusion hg) <;> (try (exfalso; first | (have hq := of_decide_eq_false hg; omega) | (have hq := of_decide_eq_true hg; omega); done)) <;> (first | refine GE.q 3 rfl (by as_aux_lemma => kernel_rfl) rfl (qg_runs (rv_move rfl)) rfl ?_ | refine GE.qn 3 rfl (by as_aux_lemma => kernel_rfl) rfl rfl ?_)))
                             all_goals ((first | refine GE.q 4 rfl (by as_aux_lemma => kernel_rfl) rfl (qg_runs (rv_move rfl)) rfl ?_ | refine GE.qn 4 rfl (by as_aux_lemma => kernel_rfl) rfl rfl ?_))
                             all_goals ((first | (refine GE.q 5 rfl (by as_aux_lemma => kernel_rfl) rfl (qg_runs (rv_decr rfl rfl (by omega) (by omega))) rfl ?_) | refine GE.qn 5 rfl (by as_aux_lemma => kernel_rfl) rfl rfl ?_))
                             all_goals ((first | (refine GE.q 6 rfl (by as_aux_lemma => kernel_rfl) rfl (qg_runs (rv_indexH rfl rfl (by exact Rd.owned 3 rfl) rfl (by exact het2))) rfl ?_) | refine GE.qn 6 rfl (by as_aux_lemma => kernel_rfl) rfl rfl ?_))
                             all_goals ((first | (refine GE.q 7 rfl (by as_aux_lemma => kernel_rfl) rfl (qg_runs (rv_fieldE rfl)) rfl ?_) | refine GE.qn 7 rfl (by as_aux_lemma => kernel_rfl) rfl rfl ?_))
                             all_goals ((first | refine GE.q 8 rfl (by as_aux_lemma => kernel_rfl) rfl (qg_runs (rv_loadE rfl (by first | exact Rd.stays (by assumption) | exact Rd.owned 3 rfl) (by exact het2) rfl)) rfl ?_ | refine GE.qn 8 rfl (by as_aux_lemma => kernel_rfl) rfl rfl ?_))
                             all_goals ((first | refine GE.q 9 rfl (by as_aux_lemma => kernel_rfl) rfl (qg_runs (rv_move rfl)) rfl ?_ | refine GE.qn 9 rfl (by as_aux_lemma => kernel_rfl) rfl rfl ?_))
                             all_goals ((first | refine GE.q 10 rfl (by as_aux_lemma => kernel_rfl) rfl (qg_runs (rv_move rfl)) rfl ?_ | refine GE.qn 10 rfl (by as_aux_lemma => kernel_rfl) rfl rfl ?_))
                             all_goals ((first | refine GE.q 11 rfl (by as_aux_lemma => kernel_rfl) rfl (qg_runs (rv_move rfl)) rfl ?_ | refine GE.qn 11 rfl (by as_aux_lemma => kernel_rfl) rfl rfl ?_))
                             all_goals ((first | (refine GE.q 12 rfl (by as_aux_lemma => kernel_rfl) rfl (qg_runs (rv_indexH rfl rfl (by exact Rd.owned 3 rfl) rfl (by exact het))) rfl ?_) | refine GE.qn 12 rfl (by as_aux_lemma => kernel_rfl) rfl rfl ?_))
                             all_goals ((first | (refine GE.q 13 rfl (by as_aux_lemma => kernel_rfl) rfl (qg_runs (rv_fieldE rfl)) rfl ?_) | refine GE.qn 13 rfl (by as_aux_lemma => kernel_rfl) rfl rfl ?_))
                             all_goals ((first | refine GE.q 14 rfl (by as_aux_lemma => kernel_rfl) rfl (qg_runs (rv_loadE rfl (by first | exact Rd.stays (by assumption) | exact Rd.owned 3 rfl) (by exact het) rfl)) rfl ?_ | refine GE.qn 14 rfl (by as_aux_lemma => kernel_rfl) rfl rfl ?_))
                             all_goals ((first | (refine GE.q 15 rfl (by as_aux_lemma => kernel_rfl) rfl (qg_runs (rv_indexH (k := 0) rfl rfl (by exact Rd.grp 2 rfl (List.mem_of_getElem? hgi)) rfl (by exact hex))) rfl ?_) | refine GE.qn 15 rfl (by as_aux_lemma => kernel_rfl) rfl rfl ?_))
                             all_goals ((first | refine GE.q 16 rfl (by as_aux_lemma => kernel_rfl) rfl (qg_runs (rv_loadE rfl (by first | exact Rd.stays (by assumption) | exact Rd.grp 2 rfl (List.mem_of_getElem? hgi)) (by exact hex) rfl)) rfl ?_ | refine GE.qn 16 rfl (by as_aux_lemma => kernel_rfl) rfl rfl ?_))
                             all_goals ((first | (refine GE.q 17 rfl (by as_aux_lemma => kernel_rfl) rfl (qg_runs (rv_indexH rfl rfl (by exact Rd.owned 6 rfl) rfl (by exact heb))) rfl ?_) | refine GE.qn 17 rfl (by as_aux_lemma => kernel_rfl) rfl rfl ?_))
                             all_goals ((first | (refine GE.q 18 rfl (by as_aux_lemma => kernel_rfl) rfl (qg_runs (rv_fieldE rfl)) rfl ?_) | refine GE.qn 18 rfl (by as_aux_lemma => kernel_rfl) rfl rfl ?_))
                             all_goals ((first | refine GE.q 19 rfl (by as_aux_lemma => kernel_rfl) rfl (qg_runs (rv_loadE rfl (by first | exact Rd.stays (by assumption) | exact Rd.owned 6 rfl) (by exact heb) rfl)) rfl ?_ | refine GE.qn 19 rfl (by as_aux_lemma => kernel_rfl) rfl rfl ?_))
                             all_goals ((first | (refine GE.q 20 rfl (by as_aux_lemma => kernel_rfl) rfl (qg_runs (rv_addB rfl rfl (by omega) (by omega))) rfl ?_) | refine GE.qn 20 rfl (by as_aux_lemma => kernel_rfl) rfl rfl ?_))
                             all_goals ((first | (refine GE.q 21 rfl (by as_aux_lemma => kernel_rfl) rfl (qg_runs (rv_field rfl)) rfl ?_) | refine GE.qn 21 rfl (by as_aux_lemma => kernel_rfl) rfl rfl ?_))
                             all_goals ((first | (refine GE.q 22 rfl (by as_aux_lemma => kernel_rfl) rfl (qg_runs (rv_load1 4 rfl rfl rfl)) rfl ?_) | refine GE.qn 22 rfl (by as_aux_lemma => kernel_rfl) rfl rfl ?_))
                             all_goals ((first | refine GE.q 23 rfl (by as_aux_lemma => kernel_rfl) rfl (qg_runs (rv_leq rfl rfl)) rfl ?_ | refine GE.qn 23 rfl (by as_aux_lemma => kernel_rfl) rfl rfl ?_))
                             all_goals ((first | refine GE.ol 24 (by as_aux_lemma => kernel_rfl) rfl rfl (og_runs (rv_pickT rfl rfl)) rfl (fun _ _ h => by exact h) (fun _ _ => ?_) | refine GE.ol 24 (by as_aux_lemma => kernel_rfl) rfl rfl (og_runs (rv_pickF rfl rfl)) rfl (fun _ _ h => by exact h) (fun _ _ => ?_)))
                             all_goals (refine GE.ol 25 (by as_aux_lemma => kernel_rfl) rfl rfl (og_runs (rv_move rfl)) rfl (fun _ _ h => by exact h) (fun _ _ => ?_))
                             all_goals (((with_reducible refine GE.part (t := 126) rfl (fun hg => ?_) (fun hg => ?_)) <;> (try exact Bool.noConfusion hg) <;> (try (exfalso; (have hq := of_decide_eq_false hg; omega))) <;> (first | refine GE.q 26 rfl (by as_aux_lemma => kernel_rfl) rfl (qg_runs (rv_move rfl)) rfl ?_ | refine GE.qn 26 rfl (by as_aux_lemma => kernel_rfl) rfl rfl ?_)))
                             all_goals ((first | refine GE.q 27 rfl (by as_aux_lemma => kernel_rfl) rfl (qg_runs (rv_move rfl)) rfl ?_ | refine GE.qn 27 rfl (by as_aux_lemma => kernel_rfl) rfl rfl ?_))
                             all_goals ((first | (refine GE.q 28 rfl (by as_aux_lemma => kernel_rfl) rfl (qg_runs (rv_decr rfl rfl (by omega) (by omega))) rfl ?_) | refine GE.qn 28 rfl (by as_aux_lemma => kernel_rfl) rfl rfl ?_))
                             all_goals ((first | (refine GE.q 29 rfl (by as_aux_lemma => kernel_rfl) rfl (qg_runs (rv_indexH rfl rfl (by exact Rd.owned 3 rfl) rfl (by exact het2))) rfl ?_) | refine GE.qn 29 rfl (by as_aux_lemma => kernel_rfl) rfl rfl ?_))
                             all_goals ((first | (refine GE.q 30 rfl (by as_aux_lemma => kernel_rfl) rfl (qg_runs (rv_fieldE rfl)) rfl ?_) | refine GE.qn 30 rfl (by as_aux_lemma => kernel_rfl) rfl rfl ?_))
                             all_goals ((first | refine GE.q 31 rfl (by as_aux_lemma => kernel_rfl) rfl (qg_runs (rv_loadE rfl (by first | exact Rd.stays (by assumption) | exact Rd.owned 3 rfl) (by exact het2) rfl)) rfl ?_ | refine GE.qn 31 rfl (by as_aux_lemma => kernel_rfl) rfl rfl ?_))
                             all_goals ((first | refine GE.q 32 rfl (by as_aux_lemma => kernel_rfl) rfl (qg_runs (rv_move rfl)) rfl ?_ | refine GE.qn 32 rfl (by as_aux_lemma => kernel_rfl) rfl rfl ?_))
                             all_goals ((first | refine GE.q 33 rfl (by as_aux_lemma => kernel_rfl) rfl (qg_runs (rv_move rfl)) rfl ?_ | refine GE.qn 33 rfl (by as_aux_lemma => kernel_rfl) rfl rfl ?_))
                             all_goals ((first | refine GE.q 34 rfl (by as_aux_lemma => kernel_rfl) rfl (qg_runs (rv_move rfl)) rfl ?_ | refine GE.qn 34 rfl (by as_aux_lemma => kernel_rfl) rfl rfl ?_))
                             all_goals ((first | (refine GE.q 35 rfl (by as_aux_lemma => kernel_rfl) rfl (qg_runs (rv_indexH rfl rfl (by exact Rd.owned 3 rfl) rfl (by exact het))) rfl ?_) | refine GE.qn 35 rfl (by as_aux_lemma => kernel_rfl) rfl rfl ?_))
                             all_goals ((first | (refine GE.q 36 rfl (by as_aux_lemma => kernel_rfl) rfl (qg_runs (rv_fieldE rfl)) rfl ?_) | refine GE.qn 36 rfl (by as_aux_lemma => kernel_rfl) rfl rfl ?_))
                             all_goals ((first | refine GE.q 37 rfl (by as_aux_lemma => kernel_rfl) rfl (qg_runs (rv_loadE rfl (by first | exact Rd.stays (by assumption) | exact Rd.owned 3 rfl) (by exact het) rfl)) rfl ?_ | refine GE.qn 37 rfl (by as_aux_lemma => kernel_rfl) rfl rfl ?_))
                             all_goals ((first | (refine GE.q 38 rfl (by as_aux_lemma => kernel_rfl) rfl (qg_runs (rv_indexH (k := 0) rfl rfl (by exact Rd.grp 2 rfl (List.mem_of_getElem? hgi)) rfl (by exact hex))) rfl ?_) | refine GE.qn 38 rfl (by as_aux_lemma => kernel_rfl) rfl rfl ?_))
                             all_goals ((first | refine GE.q 39 rfl (by as_aux_lemma => kernel_rfl) rfl (qg_runs (rv_loadE rfl (by first | exact Rd.stays (by assumption) | exact Rd.grp 2 rfl (List.mem_of_getElem? hgi)) (by exact hex) rfl)) rfl ?_ | refine GE.qn 39 rfl (by as_aux_lemma => kernel_rfl) rfl rfl ?_))
                             all_goals ((first | (refine GE.q 40 rfl (by as_aux_lemma => kernel_rfl) rfl (qg_runs (rv_indexH rfl rfl (by exact Rd.owned 6 rfl) rfl (by exact heb))) rfl ?_) | refine GE.qn 40 rfl (by as_aux_lemma => kernel_rfl) rfl rfl ?_))
                             all_goals ((first | (refine GE.q 41 rfl (by as_aux_lemma => kernel_rfl) rfl (qg_runs (rv_fieldE rfl)) rfl ?_) | refine GE.qn 41 rfl (by as_aux_lemma => kernel_rfl) rfl rfl ?_))
                             all_goals ((first | refine GE.q 42 rfl (by as_aux_lemma => kernel_rfl) rfl (qg_runs (rv_loadE rfl (by first | exact Rd.stays (by assumption) | exact Rd.owned 6 rfl) (by exact heb) rfl)) rfl ?_ | refine GE.qn 42 rfl (by as_aux_lemma => kernel_rfl) rfl rfl ?_))
                             all_goals ((first | (refine GE.q 43 rfl (by as_aux_lemma => kernel_rfl) rfl (qg_runs (rv_addB rfl rfl (by omega) (by omega))) rfl ?_) | refine GE.qn 43 rfl (by as_aux_lemma => kernel_rfl) rfl rfl ?_))
                             all_goals ((first | (refine GE.q 44 rfl (by as_aux_lemma => kernel_rfl) rfl (qg_runs (rv_field rfl)) rfl ?_) | refine GE.qn 44 rfl (by as_aux_lemma => kernel_rfl) rfl rfl ?_))
                             all_goals ((first | (refine GE.q 45 rfl (by as_aux_lemma => kernel_rfl) rfl (qg_runs (rv_load1 4 rfl rfl rfl)) rfl ?_) | refine GE.qn 45 rfl (by as_aux_lemma => kernel_rfl) rfl rfl ?_))
                             all_goals ((first | refine GE.q 46 rfl (by as_aux_lemma => kernel_rfl) rfl (qg_runs (rv_leq rfl rfl)) rfl ?_ | refine GE.qn 46 rfl (by as_aux_lemma => kernel_rfl) rfl rfl ?_))
                             all_goals ((first | refine GE.ol 47 (by as_aux_lemma => kernel_rfl) rfl rfl (og_runs (rv_pickT rfl rfl)) rfl (fun _ _ h => by exact h) (fun _ _ => ?_) | refine GE.ol 47 (by as_aux_lemma => kernel_rfl) rfl rfl (og_runs (rv_pickF rfl rfl)) rfl (fun _ _ h => by exact h) (fun _ _ => ?_)))
                             all_goals
                              refine GE.done (by as_aux_lemma => kernel_rfl) ?_
                              refine G.thenN ?_
                              refine G.cond rfl (fun hc => ?_) (fun hc => ?_)
                              · try exact Bool.noConfusion hc
                                all_goals
                                 try replace hc := of_decide_eq_true hc
                                 try simp only [List.length_map] at hc
                                 try (exfalso; contradiction)
                                 all_goals
                                  refine G.seq ?_
                                  refine G.region ?_
                                  refine G.v (rv_assign rfl) rfl ?_
                                  refine G.done ?_
                                  refine G.thenN ?_
                                  refine G.ret ?_
                                  refine G.inR ?_
                                  refine G.thenR ?_
                                  refine G.thenR ?_
                                  refine G.inR ?_
                                  refine G.thenR ?_
                                  (exfalso; (have hq := of_decide_eq_true hg; omega))
                              · try exact Bool.noConfusion hc
                                all_goals
                                 try replace hc := of_decide_eq_false hc
                                 try simp only [List.length_map] at hc
                                 try (exfalso; contradiction)
                                 all_goals
                                  refine G.skip ?_
                                  refine G.inN ?_
                                  refine G.thenN ?_
                                  refine G.region ?_
                                  refine G.v (rv_move rfl) rfl ?_
                                  (refine G.v (rv_incr rfl rfl (by omega)) rfl ?_)
                                  refine G.v (rv_assign rfl) rfl ?_
                                  refine G.done ?_
                                  refine G.backK (i + 1) 0 rfl (.cons rfl (.cons rfl (.cons rfl (.nil)))) ?_ ?_ ?_
                                  · exact ⟨congrArg (fun z => some (Value.int .i64 z)) (by omega), rfl, trivial⟩
                                  · exact hlt
                                  · omega
               · try exact Bool.noConfusion hc
                 all_goals
                  try replace hc := of_decide_eq_false hc
                  try simp only [List.length_map] at hc
                  try (exfalso; omega)
                  all_goals
                   refine G.exit ?_
                   refine G.thenX ?_
                   refine G.thenX ?_
                   refine G.inX ?_
                   refine G.thenN ?_
                   refine G.seq ?_
                   refine G.region ?_
                   (refine G.v (rv_loadW 4 rfl rfl rfl) rfl ?_)
                   refine G.v (rv_move rfl) rfl ?_
                   (refine G.op (og_callF2 rfl rfl (fun w hh => implLoadsOf_any p w (by exact Rd.owned 3 rfl _ hh) (by omega))) rfl ?_; rintro ⟨vh, js⟩ ⟨hvh, hjs⟩; try dsimp only)
                   dsimp only at hjs hvh
                   rw [hgs] at hjs
                   have hjl : js.length = (loadsM p (layersM p (bs.map Prod.fst))).length := by rw [← hjs, List.length_map]
                   have hjb := loads_len p (layersM p (bs.map Prod.fst))
                   refine G.v (rv_assign rfl) rfl ?_
                   refine G.done ?_
                   refine G.thenN ?_
                   refine G.seq ?_
                   refine G.region ?_
                   refine G.v (rv_assign rfl) rfl ?_
                   refine G.done ?_
                   refine G.thenN ?_
                   refine G.seq ?_
                   refine G.seq ?_
                   refine G.region ?_
                   refine G.v (rv_assign rfl) rfl ?_
                   refine G.done ?_
                   refine G.thenN ?_
                   refine G.block ?_
                   -- loop 2: turned [10, 11], kept [3, 4, 5, 6, 9]
                   have hall := off_all hlf (i := i) (by omega)
                   refine G.loopK (ι := Nat) (ks := [3, 4, 5, 6, 9]) (fun i => [(10, .int .i64 (offM LoadM.l (loadsM p (layersM p (bs.map Prod.fst))) i : Int)), (11, .int .i64 (i : Int))]) (fun _ => []) (fun i => i ≤ js.length) (fun i => js.length - i) 0 (.cons rfl (.cons rfl (.cons rfl (.cons rfl (.cons rfl (.nil)))))) rfl ?_ ?_ ?_
                   · exact Nat.zero_le _
                   · exact ⟨rfl, rfl, trivial⟩
                   rintro q hq0
                   have hqle := off_le hof q
                   by_cases hlt2 : q < js.length
                   case' neg => (have hall2 := off_all hof (i := q) (by omega))
                   case' pos => (obtain ⟨t, hgt⟩ := get_of_lt hlt2; have het := get_map hgt LoadM.cells; have hgi : (js.map (sub LoadM.l))[q]? = some (t.2, t.1.l.map icell) := get_mapS hgt; have hm : (loadsM p (layersM p (bs.map Prod.fst)))[q]? = some t.1 := hjs ▸ fst_at hgt; have hto := load_ok hst t.1 (List.mem_of_getElem? hm); have hln := ne_pos (load_ne t.1 (List.mem_of_getElem? hm)); have hlc : (t.1.l.map icell).length = t.1.l.length := (by simp); have hon := off_next (f := LoadM.l) hm; have hqle2 := off_le hof (q + 1); by_cases hi0 : 0 < q; (obtain ⟨s, hgt2⟩ := get_of_lt (l := js) (k := q - 1) (by omega); have het2 := get_map hgt2 LoadM.cells; obtain ⟨j, b, hn, hb, hroom, hbi⟩ := load_step hst hi0 (hjs ▸ fst_at hgt2) hm; have hex := get_map hn icell; rw [← hgs] at hb; obtain ⟨bu, hb2, rfl⟩ := at_fst hb; have heb := get_map hb2 LayerM.cells))
                   all_goals
                    refine G.seq ?_
                    refine G.seq ?_
                    refine G.region ?_
                    refine G.v (rv_move rfl) rfl ?_
                    refine G.v (rv_move rfl) rfl ?_
                    refine G.v (rv_len rfl (by exact Rd.owned 1 rfl)) rfl ?_
                    refine G.v (rv_lss rfl rfl) rfl ?_
                    refine G.done ?_
                    refine G.thenN ?_
                    refine G.cond rfl (fun hc => ?_) (fun hc => ?_)
                    · try exact Bool.noConfusion hc
                      all_goals
                       try replace hc := of_decide_eq_true hc
                       try simp only [List.length_map] at hc
                       try (exfalso; omega)
                       all_goals
                        refine G.skip ?_
                        refine G.thenN ?_
                        refine G.seq ?_
                        refine G.block ?_
                        refine G.seq ?_
                        refine G.seq ?_
                        refine G.drawL [] ?_
                        refine GE.q 0 rfl (by as_aux_lemma => kernel_rfl) rfl (qg_runs (rv_move rfl)) rfl ?_
                        refine GE.q 1 rfl (by as_aux_lemma => kernel_rfl) rfl (qg_runs (rv_move rfl)) rfl ?_
                        (refine GE.q 2 rfl (by as_aux_lemma => kernel_rfl) rfl (qg_runs (rv_indexH rfl rfl (by exact Rd.owned 1 rfl) rfl (by exact het))) rfl ?_)
                        (refine GE.q 3 rfl (by as_aux_lemma => kernel_rfl) rfl (qg_runs (rv_fieldE rfl)) rfl ?_)
                        refine GE.q 4 rfl (by as_aux_lemma => kernel_rfl) rfl (qg_runs (rv_loadE rfl (by exact Rd.owned 1 rfl) (by exact het) rfl)) rfl ?_
                        (refine GE.ol 5 (by as_aux_lemma => kernel_rfl) rfl rfl (og_runs (rv_field rfl)) rfl (fun _ _ h => by exact h) (fun _ _ => ?_))
                        (refine GE.ol 6 (by as_aux_lemma => kernel_rfl) rfl rfl (og_runs (rv_load1 6 rfl rfl rfl)) rfl (fun _ _ h => by exact h) (fun _ _ => ?_))
                        refine GE.ol 7 (by as_aux_lemma => kernel_rfl) rfl rfl (og_runs (rv_gtr rfl rfl)) rfl (fun _ _ h => by exact h) (fun _ _ => ?_)
                        refine GE.ol 8 (by as_aux_lemma => kernel_rfl) rfl rfl (og_runs (rv_move rfl)) rfl (fun _ _ h => by exact h) (fun _ _ => ?_)
                        all_goals (((with_reducible refine GE.part (t := 166) rfl (fun hg => ?_) (fun hg => ?_)) <;> (try exact Bool.noConfusion hg) <;> (try (exfalso; (have hq := of_decide_eq_true hg; omega); done)) <;> (refine GE.q 9 rfl (by as_aux_lemma => kernel_rfl) rfl (qg_runs (rv_move rfl)) rfl ?_)))
                        all_goals ((refine GE.q 10 rfl (by as_aux_lemma => kernel_rfl) rfl (qg_runs (rv_move rfl)) rfl ?_))
                        all_goals (((refine GE.q 11 rfl (by as_aux_lemma => kernel_rfl) rfl (qg_runs (rv_indexH rfl rfl (by exact Rd.owned 1 rfl) rfl (by exact het))) rfl ?_)))
                        all_goals (((refine GE.q 12 rfl (by as_aux_lemma => kernel_rfl) rfl (qg_runs (rv_fieldE rfl)) rfl ?_)))
                        all_goals ((refine GE.q 13 rfl (by as_aux_lemma => kernel_rfl) rfl (qg_runs (rv_loadE rfl (by exact Rd.owned 1 rfl) (by exact het) rfl)) rfl ?_))
                        all_goals (((refine GE.q 14 rfl (by as_aux_lemma => kernel_rfl) rfl (qg_runs (rv_field rfl)) rfl ?_)))
                        all_goals (((refine GE.q 15 rfl (by as_aux_lemma => kernel_rfl) rfl (qg_runs (rv_load1 6 rfl rfl rfl)) rfl ?_)))
                        all_goals ((refine GE.q 16 rfl (by as_aux_lemma => kernel_rfl) rfl (qg_runs (rv_gtr rfl rfl)) rfl ?_))
                        all_goals ((refine GE.ol 17 (by as_aux_lemma => kernel_rfl) rfl rfl (og_runs (rv_pickF rfl rfl)) rfl (fun _ _ h => by exact h) (fun _ _ => ?_)))
                        all_goals (refine GE.ol 18 (by as_aux_lemma => kernel_rfl) rfl rfl (og_runs (rv_move rfl)) rfl (fun _ _ h => by exact h) (fun _ _ => ?_))
                        all_goals (((with_reducible refine GE.part (t := 176) rfl (fun hg => ?_) (fun hg => ?_)) <;> (try exact Bool.noConfusion hg) <;> (try (exfalso; (have hq := of_decide_eq_true hg; omega); done)) <;> (refine GE.q 19 rfl (by as_aux_lemma => kernel_rfl) rfl (qg_runs (rv_move rfl)) rfl ?_)))
                        all_goals ((refine GE.q 20 rfl (by as_aux_lemma => kernel_rfl) rfl (qg_runs (rv_move rfl)) rfl ?_))
                        all_goals (((refine GE.q 21 rfl (by as_aux_lemma => kernel_rfl) rfl (qg_runs (rv_indexH rfl rfl (by exact Rd.owned 1 rfl) rfl (by exact het))) rfl ?_)))
                        all_goals (((refine GE.q 22 rfl (by as_aux_lemma => kernel_rfl) rfl (qg_runs (rv_fieldE rfl)) rfl ?_)))
                        all_goals ((refine GE.q 23 rfl (by as_aux_lemma => kernel_rfl) rfl (qg_runs (rv_loadE rfl (by exact Rd.owned 1 rfl) (by exact het) rfl)) rfl ?_))
                        all_goals ((refine GE.q 24 rfl (by as_aux_lemma => kernel_rfl) rfl (qg_runs (rv_len rfl (by exact Rd.grp 0 rfl (List.mem_of_getElem? hgi)))) rfl ?_))
                        all_goals ((refine GE.q 25 rfl (by as_aux_lemma => kernel_rfl) rfl (qg_runs (rv_eql rfl rfl)) rfl ?_))
                        all_goals ((refine GE.ol 26 (by as_aux_lemma => kernel_rfl) rfl rfl (og_runs (rv_pickF rfl rfl)) rfl (fun _ _ h => by exact h) (fun _ _ => ?_)))
                        all_goals (refine GE.ol 27 (by as_aux_lemma => kernel_rfl) rfl rfl (og_runs (rv_move rfl)) rfl (fun _ _ h => by exact h) (fun _ _ => ?_))
                        all_goals (((with_reducible refine GE.part (t := 185) rfl (fun hg => ?_) (fun hg => ?_)) <;> (try exact Bool.noConfusion hg) <;> (try (exfalso; (have hq := of_decide_eq_true hg; omega); done)) <;> (refine GE.q 28 rfl (by as_aux_lemma => kernel_rfl) rfl (qg_runs (rv_move rfl)) rfl ?_)))
                        all_goals ((refine GE.q 29 rfl (by as_aux_lemma => kernel_rfl) rfl (qg_runs (rv_gtr rfl rfl)) rfl ?_))
                        all_goals ((refine GE.q 30 rfl (by as_aux_lemma => kernel_rfl) rfl (qg_runs (rv_move rfl)) rfl ?_))
                        all_goals ((((with_reducible refine GE.part (t := 188) rfl (fun hg => ?_) (fun hg => ?_)) <;> (try exact Bool.noConfusion hg) <;> (try (exfalso; first | (have hq := of_decide_eq_false hg; omega) | (have hq := of_decide_eq_true hg; omega); done)) <;> (first | refine GE.q 31 rfl (by as_aux_lemma => kernel_rfl) rfl (qg_runs (rv_move rfl)) rfl ?_ | refine GE.qn 31 rfl (by as_aux_lemma => kernel_rfl) rfl rfl ?_))))
                        all_goals ((first | refine GE.q 32 rfl (by as_aux_lemma => kernel_rfl) rfl (qg_runs (rv_move rfl)) rfl ?_ | refine GE.qn 32 rfl (by as_aux_lemma => kernel_rfl) rfl rfl ?_))
                        all_goals ((first | (refine GE.q 33 rfl (by as_aux_lemma => kernel_rfl) rfl (qg_runs (rv_decr rfl rfl (by omega) (by omega))) rfl ?_) | refine GE.qn 33 rfl (by as_aux_lemma => kernel_rfl) rfl rfl ?_))
                        all_goals ((first | (refine GE.q 34 rfl (by as_aux_lemma => kernel_rfl) rfl (qg_runs (rv_indexH rfl rfl (by exact Rd.owned 1 rfl) rfl (by exact het2))) rfl ?_) | refine GE.qn 34 rfl (by as_aux_lemma => kernel_rfl) rfl rfl ?_))
                        all_goals ((first | (refine GE.q 35 rfl (by as_aux_lemma => kernel_rfl) rfl (qg_runs (rv_fieldE rfl)) rfl ?_) | refine GE.qn 35 rfl (by as_aux_lemma => kernel_rfl) rfl rfl ?_))
                        all_goals ((first | refine GE.q 36 rfl (by as_aux_lemma => kernel_rfl) rfl (qg_runs (rv_loadE rfl (by first | exact Rd.stays (by assumption) | exact Rd.owned 1 rfl) (by exact het2) rfl)) rfl ?_ | refine GE.qn 36 rfl (by as_aux_lemma => kernel_rfl) rfl rfl ?_))
                        all_goals ((first | refine GE.q 37 rfl (by as_aux_lemma => kernel_rfl) rfl (qg_runs (rv_move rfl)) rfl ?_ | refine GE.qn 37 rfl (by as_aux_lemma => kernel_rfl) rfl rfl ?_))
                        all_goals ((first | refine GE.q 38 rfl (by as_aux_lemma => kernel_rfl) rfl (qg_runs (rv_move rfl)) rfl ?_ | refine GE.qn 38 rfl (by as_aux_lemma => kernel_rfl) rfl rfl ?_))
                        all_goals ((first | refine GE.q 39 rfl (by as_aux_lemma => kernel_rfl) rfl (qg_runs (rv_move rfl)) rfl ?_ | refine GE.qn 39 rfl (by as_aux_lemma => kernel_rfl) rfl rfl ?_))
                        all_goals ((first | (refine GE.q 40 rfl (by as_aux_lemma => kernel_rfl) rfl (qg_runs (rv_indexH rfl rfl (by exact Rd.owned 1 rfl) rfl (by exact het))) rfl ?_) | refine GE.qn 40 rfl (by as_aux_lemma => kernel_rfl) rfl rfl ?_))
                        all_goals ((first | (refine GE.q 41 rfl (by as_aux_lemma => kernel_rfl) rfl (qg_runs (rv_fieldE rfl)) rfl ?_) | refine GE.qn 41 rfl (by as_aux_lemma => kernel_rfl) rfl rfl ?_))
                        all_goals ((first | refine GE.q 42 rfl (by as_aux_lemma => kernel_rfl) rfl (qg_runs (rv_loadE rfl (by first | exact Rd.stays (by assumption) | exact Rd.owned 1 rfl) (by exact het) rfl)) rfl ?_ | refine GE.qn 42 rfl (by as_aux_lemma => kernel_rfl) rfl rfl ?_))
                        all_goals ((first | (refine GE.q 43 rfl (by as_aux_lemma => kernel_rfl) rfl (qg_runs (rv_indexH (k := 0) rfl rfl (by exact Rd.grp 0 rfl (List.mem_of_getElem? hgi)) rfl (by exact hex))) rfl ?_) | refine GE.qn 43 rfl (by as_aux_lemma => kernel_rfl) rfl rfl ?_))
                        all_goals ((first | refine GE.q 44 rfl (by as_aux_lemma => kernel_rfl) rfl (qg_runs (rv_loadE rfl (by first | exact Rd.stays (by assumption) | exact Rd.grp 0 rfl (List.mem_of_getElem? hgi)) (by exact hex) rfl)) rfl ?_ | refine GE.qn 44 rfl (by as_aux_lemma => kernel_rfl) rfl rfl ?_))
                        all_goals ((first | (refine GE.q 45 rfl (by as_aux_lemma => kernel_rfl) rfl (qg_runs (rv_indexH rfl rfl (by exact Rd.owned 5 rfl) rfl (by exact heb))) rfl ?_) | refine GE.qn 45 rfl (by as_aux_lemma => kernel_rfl) rfl rfl ?_))
                        all_goals ((first | (refine GE.q 46 rfl (by as_aux_lemma => kernel_rfl) rfl (qg_runs (rv_fieldE rfl)) rfl ?_) | refine GE.qn 46 rfl (by as_aux_lemma => kernel_rfl) rfl rfl ?_))
                        all_goals ((first | refine GE.q 47 rfl (by as_aux_lemma => kernel_rfl) rfl (qg_runs (rv_loadE rfl (by first | exact Rd.stays (by assumption) | exact Rd.owned 5 rfl) (by exact heb) rfl)) rfl ?_ | refine GE.qn 47 rfl (by as_aux_lemma => kernel_rfl) rfl rfl ?_))
                        all_goals ((first | (refine GE.q 48 rfl (by as_aux_lemma => kernel_rfl) rfl (qg_runs (rv_addB rfl rfl (by omega) (by omega))) rfl ?_) | refine GE.qn 48 rfl (by as_aux_lemma => kernel_rfl) rfl rfl ?_))
                        all_goals ((first | (refine GE.q 49 rfl (by as_aux_lemma => kernel_rfl) rfl (qg_runs (rv_field rfl)) rfl ?_) | refine GE.qn 49 rfl (by as_aux_lemma => kernel_rfl) rfl rfl ?_))
                        all_goals ((first | (refine GE.q 50 rfl (by as_aux_lemma => kernel_rfl) rfl (qg_runs (rv_load1 6 rfl rfl rfl)) rfl ?_) | refine GE.qn 50 rfl (by as_aux_lemma => kernel_rfl) rfl rfl ?_))
                        all_goals ((first | refine GE.q 51 rfl (by as_aux_lemma => kernel_rfl) rfl (qg_runs (rv_leq rfl rfl)) rfl ?_ | refine GE.qn 51 rfl (by as_aux_lemma => kernel_rfl) rfl rfl ?_))
                        all_goals (((first | refine GE.q 52 rfl (by as_aux_lemma => kernel_rfl) rfl (qg_runs (rv_pickT rfl rfl)) rfl ?_ | refine GE.q 52 rfl (by as_aux_lemma => kernel_rfl) rfl (qg_runs (rv_pickF rfl rfl)) rfl ?_)))
                        all_goals ((refine GE.q 53 rfl (by as_aux_lemma => kernel_rfl) rfl (qg_runs (rv_move rfl)) rfl ?_))
                        all_goals ((first | refine GE.qn 54 rfl (by as_aux_lemma => kernel_rfl) rfl rfl ?_ | ((with_reducible refine GE.part (t := 211) rfl (fun hg => ?_) (fun hg => ?_)) <;> (try exact Bool.noConfusion hg) <;> (try (exfalso; (have hq := of_decide_eq_false hg; omega))) <;> (first | refine GE.q 54 rfl (by as_aux_lemma => kernel_rfl) rfl (qg_runs (rv_move rfl)) rfl ?_ | refine GE.qn 54 rfl (by as_aux_lemma => kernel_rfl) rfl rfl ?_))))
                        all_goals ((first | refine GE.q 55 rfl (by as_aux_lemma => kernel_rfl) rfl (qg_runs (rv_move rfl)) rfl ?_ | refine GE.qn 55 rfl (by as_aux_lemma => kernel_rfl) rfl rfl ?_))
                        all_goals ((first | (refine GE.q 56 rfl (by as_aux_lemma => kernel_rfl) rfl (qg_runs (rv_decr rfl rfl (by omega) (by omega))) rfl ?_) | refine GE.qn 56 rfl (by as_aux_lemma => kernel_rfl) rfl rfl ?_))
                        all_goals ((first | (refine GE.q 57 rfl (by as_aux_lemma => kernel_rfl) rfl (qg_runs (rv_indexH rfl rfl (by exact Rd.owned 1 rfl) rfl (by exact het2))) rfl ?_) | refine GE.qn 57 rfl (by as_aux_lemma => kernel_rfl) rfl rfl ?_))
                        all_goals ((first | (refine GE.q 58 rfl (by as_aux_lemma => kernel_rfl) rfl (qg_runs (rv_fieldE rfl)) rfl ?_) | refine GE.qn 58 rfl (by as_aux_lemma => kernel_rfl) rfl rfl ?_))
                        all_goals ((first | refine GE.q 59 rfl (by as_aux_lemma => kernel_rfl) rfl (qg_runs (rv_loadE rfl (by first | exact Rd.stays (by assumption) | exact Rd.owned 1 rfl) (by exact het2) rfl)) rfl ?_ | refine GE.qn 59 rfl (by as_aux_lemma => kernel_rfl) rfl rfl ?_))
                        all_goals ((first | refine GE.q 60 rfl (by as_aux_lemma => kernel_rfl) rfl (qg_runs (rv_move rfl)) rfl ?_ | refine GE.qn 60 rfl (by as_aux_lemma => kernel_rfl) rfl rfl ?_))
                        all_goals ((first | refine GE.q 61 rfl (by as_aux_lemma => kernel_rfl) rfl (qg_runs (rv_move rfl)) rfl ?_ | refine GE.qn 61 rfl (by as_aux_lemma => kernel_rfl) rfl rfl ?_))
                        all_goals ((first | refine GE.q 62 rfl (by as_aux_lemma => kernel_rfl) rfl (qg_runs (rv_move rfl)) rfl ?_ | refine GE.qn 62 rfl (by as_aux_lemma => kernel_rfl) rfl rfl ?_))
                        all_goals ((first | (refine GE.q 63 rfl (by as_aux_lemma => kernel_rfl) rfl (qg_runs (rv_indexH rfl rfl (by exact Rd.owned 1 rfl) rfl (by exact het))) rfl ?_) | refine GE.qn 63 rfl (by as_aux_lemma => kernel_rfl) rfl rfl ?_))
                        all_goals ((first | (refine GE.q 64 rfl (by as_aux_lemma => kernel_rfl) rfl (qg_runs (rv_fieldE rfl)) rfl ?_) | refine GE.qn 64 rfl (by as_aux_lemma => kernel_rfl) rfl rfl ?_))
                        all_goals ((first | refine GE.q 65 rfl (by as_aux_lemma => kernel_rfl) rfl (qg_runs (rv_loadE rfl (by first | exact Rd.stays (by assumption) | exact Rd.owned 1 rfl) (by exact het) rfl)) rfl ?_ | refine GE.qn 65 rfl (by as_aux_lemma => kernel_rfl) rfl rfl ?_))
                        all_goals ((first | (refine GE.q 66 rfl (by as_aux_lemma => kernel_rfl) rfl (qg_runs (rv_indexH (k := 0) rfl rfl (by exact Rd.grp 0 rfl (List.mem_of_getElem? hgi)) rfl (by exact hex))) rfl ?_) | refine GE.qn 66 rfl (by as_aux_lemma => kernel_rfl) rfl rfl ?_))
                        all_goals ((first | refine GE.q 67 rfl (by as_aux_lemma => kernel_rfl) rfl (qg_runs (rv_loadE rfl (by first | exact Rd.stays (by assumption) | exact Rd.grp 0 rfl (List.mem_of_getElem? hgi)) (by exact hex) rfl)) rfl ?_ | refine GE.qn 67 rfl (by as_aux_lemma => kernel_rfl) rfl rfl ?_))
                        all_goals ((first | (refine GE.q 68 rfl (by as_aux_lemma => kernel_rfl) rfl (qg_runs (rv_indexH rfl rfl (by exact Rd.owned 5 rfl) rfl (by exact heb))) rfl ?_) | refine GE.qn 68 rfl (by as_aux_lemma => kernel_rfl) rfl rfl ?_))
                        all_goals ((first | (refine GE.q 69 rfl (by as_aux_lemma => kernel_rfl) rfl (qg_runs (rv_fieldE rfl)) rfl ?_) | refine GE.qn 69 rfl (by as_aux_lemma => kernel_rfl) rfl rfl ?_))
                        all_goals ((first | refine GE.q 70 rfl (by as_aux_lemma => kernel_rfl) rfl (qg_runs (rv_loadE rfl (by first | exact Rd.stays (by assumption) | exact Rd.owned 5 rfl) (by exact heb) rfl)) rfl ?_ | refine GE.qn 70 rfl (by as_aux_lemma => kernel_rfl) rfl rfl ?_))
                        all_goals ((first | (refine GE.q 71 rfl (by as_aux_lemma => kernel_rfl) rfl (qg_runs (rv_addB rfl rfl (by omega) (by omega))) rfl ?_) | refine GE.qn 71 rfl (by as_aux_lemma => kernel_rfl) rfl rfl ?_))
                        all_goals ((first | (refine GE.q 72 rfl (by as_aux_lemma => kernel_rfl) rfl (qg_runs (rv_field rfl)) rfl ?_) | refine GE.qn 72 rfl (by as_aux_lemma => kernel_rfl) rfl rfl ?_))
                        all_goals ((first | (refine GE.q 73 rfl (by as_aux_lemma => kernel_rfl) rfl (qg_runs (rv_load1 6 rfl rfl rfl)) rfl ?_) | refine GE.qn 73 rfl (by as_aux_lemma => kernel_rfl) rfl rfl ?_))
                        all_goals ((first | refine GE.q 74 rfl (by as_aux_lemma => kernel_rfl) rfl (qg_runs (rv_leq rfl rfl)) rfl ?_ | refine GE.qn 74 rfl (by as_aux_lemma => kernel_rfl) rfl rfl ?_))
                        all_goals (((first | refine GE.q 75 rfl (by as_aux_lemma => kernel_rfl) rfl (qg_runs (rv_pickT rfl rfl)) rfl ?_ | refine GE.q 75 rfl (by as_aux_lemma => kernel_rfl) rfl (qg_runs (rv_pickF rfl rfl)) rfl ?_)))
                        all_goals ((refine GE.ol 76 (by as_aux_lemma => kernel_rfl) rfl rfl (og_runs (rv_pickF rfl rfl)) rfl (fun _ _ h => by exact h) (fun _ _ => ?_)))
                        all_goals
                         refine GE.done (by as_aux_lemma => kernel_rfl) ?_
                         refine G.thenN ?_
                         refine G.cond rfl (fun hc => ?_) (fun hc => ?_)
                         · try exact Bool.noConfusion hc
                           all_goals
                            try replace hc := of_decide_eq_true hc
                            try simp only [List.length_map] at hc
                            try (exfalso; contradiction)
                            all_goals
                             refine G.seq ?_
                             refine G.region ?_
                             refine G.v (rv_assign rfl) rfl ?_
                             refine G.done ?_
                             refine G.thenN ?_
                             refine G.ret ?_
                             refine G.thenR ?_
                             refine G.inR ?_
                             refine G.thenR ?_
                             refine G.thenR ?_
                             refine G.inR ?_
                             refine G.thenR ?_
                             (exfalso; (have hq := of_decide_eq_true hg; omega))
                         · try exact Bool.noConfusion hc
                           all_goals
                            try replace hc := of_decide_eq_false hc
                            try simp only [List.length_map] at hc
                            try (exfalso; contradiction)
                            all_goals
                             refine G.skip ?_
                             refine G.thenN ?_
                             refine G.region ?_
                             refine G.v (rv_move rfl) rfl ?_
                             refine G.v (rv_move rfl) rfl ?_
                             refine G.v (rv_move rfl) rfl ?_
                             (refine G.v (rv_indexH rfl rfl (by exact Rd.owned 1 rfl) rfl (by exact het)) rfl ?_)
                             (refine G.v (rv_fieldE rfl) rfl ?_)
                             refine G.v (rv_loadE rfl (by exact Rd.owned 1 rfl) (by exact het) rfl) rfl ?_
                             refine G.v (rv_len rfl (by exact Rd.grp 0 rfl (List.mem_of_getElem? hgi))) rfl ?_
                             (refine G.v (rv_addB rfl rfl (by omega) (by omega)) rfl ?_)
                             refine G.v (rv_assign rfl) rfl ?_
                             refine G.done ?_
                             refine G.inN ?_
                             refine G.thenN ?_
                             refine G.region ?_
                             refine G.v (rv_move rfl) rfl ?_
                             (refine G.v (rv_incr rfl rfl (by omega)) rfl ?_)
                             refine G.v (rv_assign rfl) rfl ?_
                             refine G.done ?_
                             refine G.backK (q + 1) 0 rfl (.cons rfl (.cons rfl (.cons rfl (.cons rfl (.cons rfl (.nil)))))) ?_ ?_ ?_
                             · exact ⟨congrArg (fun z => some (Value.int .i64 z)) (by omega), rfl, trivial⟩
                             · exact hlt2
                             · omega
                    · try exact Bool.noConfusion hc
                      all_goals
                       try replace hc := of_decide_eq_false hc
                       try simp only [List.length_map] at hc
                       try (exfalso; omega)
                       all_goals
                        refine G.exit ?_
                        refine G.thenX ?_
                        refine G.thenX ?_
                        refine G.inX ?_
                        refine G.thenN ?_
                        refine G.seq ?_
                        refine G.region ?_
                        refine G.v (rv_move rfl) rfl ?_
                        refine G.v (rv_move rfl) rfl ?_
                        refine G.v (rv_len rfl (by exact Rd.owned 8 rfl)) rfl ?_
                        refine G.v (rv_eql rfl rfl) rfl ?_
                        refine G.v (rv_move rfl) rfl ?_
                        all_goals (((with_reducible refine G.gP rfl rfl (fun hg => ?_) (fun hg => ?_)) <;> (try exact Bool.noConfusion hg) <;> (try (exfalso; (have hq := of_decide_eq_false hg; omega))) <;> ((refine G.gY rfl rfl ?_; refine G.v (rv_move rfl) rfl ?_))))
                        all_goals (((refine G.gY rfl rfl ?_; refine G.v (rv_move rfl) rfl ?_)))
                        all_goals (((refine G.gY rfl rfl ?_; refine G.v (rv_len rfl (by exact Rd.owned 5 rfl)) rfl ?_)))
                        all_goals (((refine G.gY rfl rfl ?_; refine G.v (rv_eql rfl rfl) rfl ?_)))
                        all_goals ((refine G.v (rv_pickT rfl rfl) rfl ?_))
                        all_goals (refine G.v (rv_assign rfl) rfl ?_)
                        all_goals
                         refine G.done ?_
                         refine G.thenN ?_
                         refine G.ret ?_
                         exact G.retFV rfl rfl (congrArg Value.bool (decide_eq_true (by omega)))
end Go.Proofs.Yticgeijklhlonaa
