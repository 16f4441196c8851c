/-
  The law on the need of shelves.
-/
import Derived.Test.YticgeijklhlonaaLaws5
namespace Go.Proofs.Yticgeijklhlonaa
open Go.RowKit
attribute [local irreducible] Go.wpList Go.Code.wp Go.Exit.then Go.Exit.inBlock Go.bodyPost Go.Calls pE pB G RunsV FnV Fn FnM
set_option maxRecDepth 100000
set_option maxHeartbeats 4000000
abbrev shD : ShelfM × Value := (shelfZ, .slice none 0 0)
theorem getD_at {α : Type} {l : List α} {d : α} {i : Nat} (h : i < l.length) : l[i]? = some (l.getD i d) := by
  rw [List.getD_eq_getElem?_getD, List.getElem?_eq_getElem h]; rfl
theorem getD0_eq {xs ys : List (ShelfM × Value)} {m : List ShelfM} (h1 : xs.map Prod.fst = m) (h2 : ys.map Prod.fst = m) : (xs.getD 0 shD).1 = (ys.getD 0 shD).1 := by
  subst h1
  cases xs <;> cases ys <;> simp_all
theorem shelf_bds {p : PalletM} {l : List BoxM} (hok : boxesOkM p l = true) : ∀ t ∈ shelvesM p l, 0 ≤ t.w ∧ t.w ≤ p.w ∧ 0 ≤ t.d ∧ t.d ≤ p.d ∧ 0 ≤ t.h ∧ t.h ≤ p.h ∧ 0 ≤ t.g ∧ t.g ≤ p.g := by
  have := shelf_bd hok l.length
  rw [List.take_of_length_le (by rw [xs_len]; omega)] at this
  rw [shelvesM, if_pos hok]; exact this
theorem shelf_step {p : PalletM} {l : List BoxM} {i : Nat} {s t : ShelfM} (hi : 1 ≤ i) (hs : (shelvesM p l)[i - 1]? = some s) (ht : (shelvesM p l)[i]? = some t) :
    ∃ (j : Nat) (b : BoxM), t.l[0]? = some (j : Int) ∧ j < l.length ∧ l[j]? = some b ∧ (¬ s.w + b.w ≤ p.w ∨ ¬ s.g + b.g ≤ p.g) ∧ t.d = b.d ∧ (0 ≤ s.w ∧ s.w ≤ 2000 ∧ 0 ≤ s.g ∧ s.g ≤ 100000 ∧ 1 ≤ b.w ∧ b.w ≤ 2000 ∧ 1 ≤ b.g ∧ b.g ≤ 100000) := by
  have hok : boxesOkM p l = true := by
    cases h : boxesOkM p l with
    | true => rfl
    | false => rw [shelf_no h] at ht; simp at ht
  have hpp := pallet_in (show palletOkM p = true by simp only [boxesOkM, Bool.and_eq_true] at hok; exact hok.1)
  obtain ⟨j, b, h1, h2, h3⟩ := shelf_need hs (show (shelvesM p l)[i - 1 + 1]? = some t by rw [show i - 1 + 1 = i from by omega]; exact ht)
  obtain ⟨j2, h4, h5⟩ := (shelf_dsc hok).hd t (List.mem_of_getElem? ht)
  rw [h1] at h4
  have e : j = j2 := by have := Option.some.inj h4; omega
  subst e
  rw [boxAt_get h2] at h5
  have hj : j < l.length := by
    rcases Nat.lt_or_ge j l.length with h | h
    · exact h
    · rw [List.getElem?_eq_none h] at h2; cases h2
  simp only [shelfRoom, Bool.and_eq_false_iff, decide_eq_false_iff_not] at h3
  have hb := shelf_bds hok s (List.mem_of_getElem? hs)
  have hbx := box_in (show boxOkM p b = true by simp only [boxesOkM, Bool.and_eq_true, List.all_eq_true] at hok; exact hok.2 b (List.mem_of_getElem? h2))
  exact ⟨j, b, h1, hj, h2, h3, h5, by omega⟩
theorem fnShelfNeed_any {v : Value} {l : List Int} {w : World} (h : Rd w v 1 (l.map bcell)) : FnV Try.prog 10 [v] w (.bool true) := by
  refine FnV.of (n := 124) Try.func10 rfl rfl ?_
  refine G.seq ?_
  refine G.region ?_
  refine G.v (rv_assign rfl) rfl ?_
  refine G.done ?_
  refine G.thenN ?_
  refine G.seq ?_
  refine G.seq ?_
  refine G.region ?_
  refine G.v (rv_move rfl) rfl ?_
  refine G.op (og_callV rfl rfl (fun w hh => big_any w (by exact Rd.stays (by assumption) _ hh))) rfl (fun _ _ => ?_)
  refine G.done ?_
  refine G.thenN ?_
  refine G.cond rfl (fun hc => ?_) (fun hc => ?_)
  · try exact Bool.noConfusion hc
    all_goals
     try replace hc := of_decide_eq_true hc
     try simp only [List.length_map] at hc
     try (exfalso; contradiction)
     all_goals
      refine G.seq ?_
      refine G.region ?_
      refine G.v (rv_assign rfl) rfl ?_
      refine G.done ?_
      refine G.thenN ?_
      refine G.ret ?_
      refine G.thenR ?_
      exact G.retFV rfl rfl rfl
  · try exact Bool.noConfusion hc
    all_goals
     try replace hc := of_decide_eq_false hc
     try simp only [List.length_map] at hc
     try (exfalso; contradiction)
     all_goals
      refine G.skip ?_
      refine G.thenN ?_
      refine G.seq ?_
      refine G.region ?_
      refine G.v (rv_move rfl) rfl ?_
      (refine G.op (og_callF1 rfl rfl (fun w hh => drawShelves_any w (by exact Rd.stays (by assumption) _ hh))) rfl ?_; rintro ⟨p, vb, bs⟩ ⟨hvb, hbs⟩; try dsimp only)
      dsimp only at hbs hvb
      have hbl : (bs.map BoxM.cells).length = bs.length := by simp
      refine G.v (rv_move rfl) rfl ?_
      refine G.v (rv_extract rfl rfl) rfl ?_
      refine G.v (rv_extract rfl rfl) rfl ?_
      refine G.op (og_alloc) rfl (fun bk3 _ => ?_)
      (refine G.op0 (og_st0 rfl rfl rfl rfl rfl rfl (.zero (.cons (.cons (.cons (.cons .nil)))))) (fun _ _ => ?_))
      refine G.v (rv_assign rfl) rfl ?_
      refine G.done ?_
      refine G.thenN ?_
      refine G.seq ?_
      refine G.region ?_
      (refine G.v (rv_loadW 0 rfl rfl rfl) rfl ?_)
      refine G.v (rv_move rfl) rfl ?_
      (refine G.op (og_callF2 rfl rfl (fun w hh => implShelves_any p w (by exact Rd.owned 1 rfl _ hh) (by omega))) rfl ?_; rintro ⟨vg, gs⟩ ⟨hvg, hgs⟩; try dsimp only)
      dsimp only at hgs hvg
      have hgl : gs.length = (shelvesM p bs).length := by rw [← hgs, List.length_map]
      have hgl2 : (gs.map ShelfM.cells).length = gs.length := by simp
      have hsl := shelves_len p bs
      have heg0 : 0 < gs.length → (gs.map ShelfM.cells)[0]? = some (ShelfM.cells (gs.getD 0 shD)) := fun hz => get_map (getD_at hz) ShelfM.cells
      refine G.v (rv_assign rfl) rfl ?_
      refine G.done ?_
      refine G.thenN ?_
      refine G.seq ?_
      refine G.seq ?_
      refine G.drawL [] ?_
      refine GE.q 0 rfl (by kernel_rfl) rfl (qg_runs (rv_move rfl)) rfl ?_
      refine GE.q 1 rfl (by kernel_rfl) rfl (qg_runs (rv_len rfl (by exact Rd.owned 1 rfl))) rfl ?_
      (refine GE.q 2 rfl (by kernel_rfl) rfl (qg_runs (rv_loadW 2 rfl rfl rfl)) rfl ?_)
      refine GE.ol 3 (by kernel_rfl) rfl rfl (og_runs (rv_move rfl)) rfl (fun _ _ h => by exact h) (fun _ _ => ?_)
      (refine GE.ol 4 (by kernel_rfl) rfl rfl (og_callF2 rfl rfl (fun w hh => specShelves_any p w (by exact Rd.owned 3 rfl _ hh) (by omega))) rfl (fun _ _ h => by exact h.drop 2) ?_; rintro ⟨vo, os⟩ ⟨hvo, hos⟩; try dsimp only)
      dsimp only at hos hvo; have hol : os.length = (shelvesM p bs).length := (by rw [← hos, List.length_map]); have hol2 : (os.map ShelfM.cells).length = os.length := (by simp)
      refine GE.ol 5 (by kernel_rfl) rfl rfl (og_runs (rv_len rfl (by exact Rd.owned 1 rfl))) rfl (fun _ _ h => by exact h.drop 2) (fun _ _ => ?_)
      refine GE.ol 6 (by kernel_rfl) rfl rfl (og_runs (rv_neq rfl rfl)) rfl (fun _ _ h => by exact h.drop 2) (fun _ _ => ?_)
      refine GE.ol 7 (by kernel_rfl) rfl rfl (og_runs (rv_move rfl)) rfl (fun _ _ h => by exact h.drop 2) (fun _ _ => ?_)
      all_goals (((with_reducible refine GE.part (t := 25) rfl (fun hg => ?_) (fun hg => ?_)) <;> (try exact Bool.noConfusion hg) <;> (try (exfalso; (have hq := of_decide_eq_true hg; omega); done)) <;> ((refine GE.q2 8 rfl (by kernel_rfl) rfl (qg_runs (rv_move rfl)) (fun _ h => by exact h.drop 2) rfl ?_))))
      all_goals (((refine GE.q2 9 rfl (by kernel_rfl) rfl (qg_runs (rv_len rfl (by exact Rd.owned 1 rfl))) (fun _ h => by exact h.drop 2) rfl ?_)))
      all_goals (((refine GE.q2 10 rfl (by kernel_rfl) rfl (qg_runs (rv_gtr rfl rfl)) (fun _ h => by exact h.drop 2) rfl ?_)))
      all_goals (((refine GE.q2 11 rfl (by kernel_rfl) rfl (qg_runs (rv_move rfl)) (fun _ h => by exact h.drop 2) rfl ?_)))
      all_goals ((((with_reducible refine GE.part (t := 29) rfl (fun hg => ?_) (fun hg => ?_)) <;> (try exact Bool.noConfusion hg) <;> (try (exfalso; (have hq := of_decide_eq_false hg; omega))) <;> (first | refine GE.q2 12 rfl (by kernel_rfl) rfl (qg_runs (rv_move rfl)) (fun _ h => by exact h.drop 2) rfl ?_ | refine GE.qn2 12 rfl (by kernel_rfl) rfl (fun _ h => by exact h.drop 2) rfl ?_))))
      all_goals ((first | ((refine GE.q2 13 rfl (by kernel_rfl) rfl (qg_runs (rv_indexH (k := 0) rfl rfl (by exact Rd.owned 1 rfl) rfl (by (exact heg0 (by have hq := of_decide_eq_true hg; omega))))) (fun _ h => by exact h.drop 2) rfl ?_)) | refine GE.qn2 13 rfl (by kernel_rfl) rfl (fun _ h => by exact h.drop 2) rfl ?_))
      all_goals ((first | (refine GE.q2 14 rfl (by kernel_rfl) rfl (qg_runs (rv_fieldE rfl)) (fun _ h => by exact h.drop 2) rfl ?_) | refine GE.qn2 14 rfl (by kernel_rfl) rfl (fun _ h => by exact h.drop 2) rfl ?_))
      all_goals ((first | refine GE.q2 15 rfl (by kernel_rfl) rfl (qg_runs (rv_loadE rfl (by first | exact Rd.stays (by assumption) | exact Rd.owned 1 rfl) (by (exact heg0 (by have hq := of_decide_eq_true hg; omega))) rfl)) (fun _ h => by exact h.drop 2) rfl ?_ | refine GE.qn2 15 rfl (by kernel_rfl) rfl (fun _ h => by exact h.drop 2) rfl ?_))
      all_goals ((first | (refine GE.q2 16 rfl (by kernel_rfl) rfl (qg_runs (rv_loadW 2 rfl rfl rfl)) (fun _ h => by exact h.drop 2) rfl ?_) | refine GE.qn2 16 rfl (by kernel_rfl) rfl (fun _ h => by exact h.drop 2) rfl ?_))
      all_goals ((first | (refine GE.q2 17 rfl (by kernel_rfl) rfl (qg_runs (rv_move rfl)) (fun _ h => by exact h.drop 2) rfl ?_) | refine GE.qn2 17 rfl (by kernel_rfl) rfl (fun _ h => by exact h.drop 2) rfl ?_))
      all_goals ((first | (refine GE.ol 18 (by kernel_rfl) rfl rfl (og_callF2 rfl rfl (fun w hh => specShelves_any p w (by exact Rd.owned 5 rfl _ hh) (by omega))) rfl (fun _ _ h => by exact h.drop 4) ?_; rintro ⟨vq, qs⟩ ⟨hvq, hqs⟩; try dsimp only) | refine GE.qn2 18 rfl (by kernel_rfl) rfl (fun _ h => by exact h.drop 2) rfl ?_))
      all_goals (try (dsimp only at hqs hvq; have hql : qs.length = (shelvesM p bs).length := (by rw [← hqs, List.length_map]); have heq0 : 0 < qs.length → (qs.map ShelfM.cells)[0]? = some (ShelfM.cells (qs.getD 0 shD)) := (fun hz => get_map (getD_at hz) ShelfM.cells); have hww : (gs.getD 0 shD).1.w = (qs.getD 0 shD).1.w := congrArg ShelfM.w (getD0_eq hgs hqs)))
      all_goals ((first | ((refine GE.ol 19 (by kernel_rfl) rfl rfl (og_runs (rv_indexH (k := 0) rfl rfl (by exact Rd.owned 1 rfl) rfl (by (exact heq0 (by have hq := of_decide_eq_true hg; omega))))) rfl (fun _ _ h => by exact h.drop 4) (fun _ _ => ?_))) | refine GE.qn2 19 rfl (by kernel_rfl) rfl (fun _ h => by exact h.drop 2) rfl ?_))
      all_goals ((first | (refine GE.q2 20 rfl (by kernel_rfl) rfl (qg_runs (rv_fieldE rfl)) (fun _ h => by first | exact h.drop 2 | exact h.drop 4) rfl ?_) | refine GE.qn2 20 rfl (by kernel_rfl) rfl (fun _ h => by exact h.drop 2) rfl ?_))
      all_goals ((first | ((refine GE.ol 21 (by kernel_rfl) rfl rfl (og_runs (rv_loadE rfl (by first | exact Rd.stays (by assumption) | exact Rd.owned 1 rfl) (by (exact heq0 (by have hq := of_decide_eq_true hg; omega))) rfl)) rfl (fun _ _ h => by exact h.drop 4) (fun _ _ => ?_))) | refine GE.qn2 21 rfl (by kernel_rfl) rfl (fun _ h => by exact h.drop 2) rfl ?_))
      all_goals ((first | (refine GE.q2 22 rfl (by kernel_rfl) rfl (qg_runs (rv_neq rfl rfl)) (fun _ h => by first | exact h.drop 2 | exact h.drop 4) rfl ?_) | refine GE.qn2 22 rfl (by kernel_rfl) rfl (fun _ h => by exact h.drop 2) rfl ?_))
      all_goals (((first | refine GE.q2 23 rfl (by kernel_rfl) rfl (qg_runs (rv_pickT rfl rfl)) (fun _ h => by first | exact h.drop 2 | exact h.drop 4) rfl ?_ | refine GE.q2 23 rfl (by kernel_rfl) rfl (qg_runs (rv_pickF rfl rfl)) (fun _ h => by exact h.drop 2) rfl ?_)))
      all_goals ((refine GE.ol 24 (by kernel_rfl) rfl rfl (og_runs (rv_pickF rfl rfl)) rfl (fun _ _ h => by first | exact h.drop 2 | exact h.drop 4) (fun _ _ => ?_)))
      all_goals
       refine GE.done (by kernel_rfl) ?_
       refine G.thenN ?_
       refine G.cond rfl (fun hc => ?_) (fun hc => ?_)
       · try exact Bool.noConfusion hc
         all_goals
          try replace hc := of_decide_eq_true hc
          try simp only [List.length_map] at hc
          try (exfalso; contradiction)
          all_goals
           refine G.seq ?_
           refine G.region ?_
           refine G.v (rv_assign rfl) rfl ?_
           refine G.done ?_
           refine G.thenN ?_
           refine G.ret ?_
           refine G.thenR ?_
           exact G.retFV rfl rfl rfl
       · try exact Bool.noConfusion hc
         all_goals
          try replace hc := of_decide_eq_false hc
          try simp only [List.length_map] at hc
          try (exfalso; contradiction)
          all_goals
           refine G.skip ?_
           refine G.thenN ?_
           refine G.seq ?_
           refine G.seq ?_
           refine G.region ?_
           refine G.v (rv_assign rfl) rfl ?_
           refine G.done ?_
           refine G.thenN ?_
           refine G.block ?_
           -- loop 0: turned [6], kept [3, 4, 5]
           refine G.loopK (ι := Nat) (ks := [3, 4, 5]) (fun i => [(6, .int .i64 (i : Int))]) (fun _ => []) (fun i => 1 ≤ i) (fun i => gs.length - i) 1 (.cons rfl (.cons rfl (.cons rfl (.nil)))) rfl ?_ ?_ ?_
           · exact Nat.le_refl _
           · exact ⟨rfl, trivial⟩
           rintro i hi
           by_cases hlt : i < gs.length
           case' pos => (obtain ⟨t, hgt⟩ := get_of_lt hlt; have het := get_map hgt ShelfM.cells; have hgi : (gs.map (sub ShelfM.l))[i]? = some (t.2, t.1.l.map icell) := get_mapS hgt; obtain ⟨s, hgt2⟩ := get_of_lt (l := gs) (k := i - 1) (by omega); have het2 := get_map hgt2 ShelfM.cells; obtain ⟨j, b, hn, hj, hb, hroom, hdd, hbi⟩ := shelf_step hi (hgs ▸ fst_at hgt2) (hgs ▸ fst_at hgt); have hex := get_map hn icell; have heb := get_map hb BoxM.cells; have hll : (t.1.l.map icell).length = t.1.l.length := (by simp); have hl0 : 0 < t.1.l.length := (by rcases Nat.lt_or_ge 0 t.1.l.length with hz | hz; exact hz; rw [List.getElem?_eq_none hz] at hn; cases hn))
           all_goals
            refine G.seq ?_
            refine G.seq ?_
            refine G.region ?_
            refine G.v (rv_move rfl) rfl ?_
            refine G.v (rv_move rfl) rfl ?_
            refine G.v (rv_len rfl (by first | exact Rd.owned 3 rfl | exact Rd.owned 5 rfl)) rfl ?_
            refine G.v (rv_lss rfl rfl) rfl ?_
            refine G.done ?_
            refine G.thenN ?_
            refine G.cond rfl (fun hc => ?_) (fun hc => ?_)
            · try exact Bool.noConfusion hc
              all_goals
               try replace hc := of_decide_eq_true hc
               try simp only [List.length_map] at hc
               try (exfalso; omega)
               all_goals
                refine G.skip ?_
                refine G.thenN ?_
                refine G.seq ?_
                refine G.block ?_
                refine G.seq ?_
                refine G.seq ?_
                refine G.region ?_
                refine G.v (rv_move rfl) rfl ?_
                refine G.v (rv_move rfl) rfl ?_
                (refine G.v (rv_indexH rfl rfl (by first | exact Rd.owned 3 rfl | exact Rd.owned 5 rfl) rfl (by exact het)) rfl ?_)
                (refine G.v (rv_fieldE rfl) rfl ?_)
                refine G.v (rv_loadE rfl (by first | exact Rd.owned 3 rfl | exact Rd.owned 5 rfl) (by exact het) rfl) rfl ?_
                refine G.v (rv_len rfl (by first | exact Rd.grp 2 rfl (List.mem_of_getElem? hgi) | exact Rd.grp 4 rfl (List.mem_of_getElem? hgi))) rfl ?_
                refine G.v (rv_eql rfl rfl) rfl ?_
                refine G.v (rv_move rfl) rfl ?_
                all_goals (((with_reducible refine G.gP rfl rfl (fun hg => ?_) (fun hg => ?_)) <;> (try exact Bool.noConfusion hg) <;> (try (exfalso; (have hq := of_decide_eq_true hg; omega); done)) <;> ((refine G.gY rfl rfl ?_; refine G.v (rv_move rfl) rfl ?_))))
                all_goals (((refine G.gY rfl rfl ?_; refine G.v (rv_move rfl) rfl ?_)))
                all_goals (((refine G.gY rfl rfl ?_; (refine G.v (rv_indexH rfl rfl (by first | exact Rd.owned 3 rfl | exact Rd.owned 5 rfl) rfl (by exact het)) rfl ?_))))
                all_goals (((refine G.gY rfl rfl ?_; (refine G.v (rv_fieldE rfl) rfl ?_))))
                all_goals (((refine G.gY rfl rfl ?_; refine G.v (rv_loadE rfl (by first | exact Rd.owned 3 rfl | exact Rd.owned 5 rfl) (by exact het) rfl) rfl ?_)))
                all_goals (((refine G.gY rfl rfl ?_; (refine G.v (rv_indexH (k := 0) rfl rfl (by first | exact Rd.grp 2 rfl (List.mem_of_getElem? hgi) | exact Rd.grp 4 rfl (List.mem_of_getElem? hgi)) rfl (by exact hex)) rfl ?_))))
                all_goals (((refine G.gY rfl rfl ?_; refine G.v (rv_loadE rfl (by first | exact Rd.grp 2 rfl (List.mem_of_getElem? hgi) | exact Rd.grp 4 rfl (List.mem_of_getElem? hgi)) (by exact hex) rfl) rfl ?_)))
                all_goals (((refine G.gY rfl rfl ?_; refine G.v (rv_lss rfl rfl) rfl ?_)))
                all_goals ((refine G.v (rv_pickF rfl rfl) rfl ?_))
                all_goals (refine G.v (rv_move rfl) rfl ?_)
                all_goals (((with_reducible refine G.gP rfl rfl (fun hg => ?_) (fun hg => ?_)) <;> (try exact Bool.noConfusion hg) <;> (try (exfalso; (have hq := of_decide_eq_false hg; omega))) <;> ((refine G.gY rfl rfl ?_; refine G.v (rv_move rfl) rfl ?_))))
                all_goals (((refine G.gY rfl rfl ?_; refine G.v (rv_move rfl) rfl ?_)))
                all_goals (((refine G.gY rfl rfl ?_; (refine G.v (rv_indexH rfl rfl (by first | exact Rd.owned 3 rfl | exact Rd.owned 5 rfl) rfl (by exact het)) rfl ?_))))
                all_goals (((refine G.gY rfl rfl ?_; (refine G.v (rv_fieldE rfl) rfl ?_))))
                all_goals (((refine G.gY rfl rfl ?_; refine G.v (rv_loadE rfl (by first | exact Rd.owned 3 rfl | exact Rd.owned 5 rfl) (by exact het) rfl) rfl ?_)))
                all_goals (((refine G.gY rfl rfl ?_; (refine G.v (rv_indexH (k := 0) rfl rfl (by first | exact Rd.grp 2 rfl (List.mem_of_getElem? hgi) | exact Rd.grp 4 rfl (List.mem_of_getElem? hgi)) rfl (by exact hex)) rfl ?_))))
                all_goals (((refine G.gY rfl rfl ?_; refine G.v (rv_loadE rfl (by first | exact Rd.grp 2 rfl (List.mem_of_getElem? hgi) | exact Rd.grp 4 rfl (List.mem_of_getElem? hgi)) (by exact hex) rfl) rfl ?_)))
                all_goals (((refine G.gY rfl rfl ?_; refine G.v (rv_move rfl) rfl ?_)))
                all_goals (((refine G.gY rfl rfl ?_; refine G.v (rv_len rfl (by first | exact Rd.owned 5 rfl | exact Rd.owned 7 rfl)) rfl ?_)))
                all_goals (((refine G.gY rfl rfl ?_; refine G.v (rv_geq rfl rfl) rfl ?_)))
                all_goals ((refine G.v (rv_pickF rfl rfl) rfl ?_))
                all_goals
                 refine G.done ?_
                 refine G.thenN ?_
                 refine G.cond rfl (fun hc => ?_) (fun hc => ?_)
                 · try exact Bool.noConfusion hc
                   all_goals
                    try replace hc := of_decide_eq_true hc
                    try simp only [List.length_map] at hc
                    try (exfalso; omega)
                    all_goals
                     refine G.seq ?_
                     refine G.region ?_
                     refine G.v (rv_assign rfl) rfl ?_
                     refine G.done ?_
                     refine G.thenN ?_
                     refine G.ret ?_
                     refine G.thenR ?_
                     refine G.inR ?_
                     refine G.thenR ?_
                     refine G.thenR ?_
                     refine G.inR ?_
                     refine G.thenR ?_
                     exact G.retFV rfl rfl rfl
                 · try exact Bool.noConfusion hc
                   all_goals
                    try replace hc := of_decide_eq_false hc
                    try simp only [List.length_map] at hc
                    try (exfalso; contradiction)
                    all_goals
                     refine G.skip ?_
                     refine G.thenN ?_
                     refine G.seq ?_
                     refine G.region ?_
                     refine G.v (rv_move rfl) rfl ?_
                     refine G.v (rv_move rfl) rfl ?_
                     refine G.v (rv_move rfl) rfl ?_
                     (refine G.v (rv_indexH rfl rfl (by first | exact Rd.owned 3 rfl | exact Rd.owned 5 rfl) rfl (by exact het)) rfl ?_)
                     (refine G.v (rv_fieldE rfl) rfl ?_)
                     refine G.v (rv_loadE rfl (by first | exact Rd.owned 3 rfl | exact Rd.owned 5 rfl) (by exact het) rfl) rfl ?_
                     (refine G.v (rv_indexH (k := 0) rfl rfl (by first | exact Rd.grp 2 rfl (List.mem_of_getElem? hgi) | exact Rd.grp 4 rfl (List.mem_of_getElem? hgi)) rfl (by exact hex)) rfl ?_)
                     refine G.v (rv_loadE rfl (by first | exact Rd.grp 2 rfl (List.mem_of_getElem? hgi) | exact Rd.grp 4 rfl (List.mem_of_getElem? hgi)) (by exact hex) rfl) rfl ?_
                     (refine G.v (rv_indexH rfl rfl (by first | exact Rd.owned 5 rfl | exact Rd.owned 7 rfl) rfl (by exact heb)) rfl ?_)
                     (refine G.v (rv_loadEW rfl (by first | exact Rd.owned 5 rfl | exact Rd.owned 7 rfl) (by exact heb) rfl) rfl ?_)
                     refine G.op (og_alloc) rfl (fun bk7 _ => ?_)
                     (refine G.op0 (og_st0 rfl rfl rfl rfl rfl rfl (.zero (.cons (.cons (.cons (.cons .nil)))))) (fun _ _ => ?_))
                     refine G.done ?_
                     refine G.thenN ?_
                     refine G.seq ?_
                     refine G.drawL [] ?_
                     refine GE.q 0 rfl (by kernel_rfl) rfl (qg_runs (rv_move rfl)) rfl ?_
                     refine GE.q 1 rfl (by kernel_rfl) rfl (qg_runs (rv_move rfl)) rfl ?_
                     (refine GE.q 2 rfl (by kernel_rfl) rfl (qg_runs (rv_decr rfl rfl (by omega) (by omega))) rfl ?_)
                     (refine GE.q 3 rfl (by kernel_rfl) rfl (qg_runs (rv_indexH rfl rfl (by first | exact Rd.owned 4 rfl | exact Rd.owned 6 rfl) rfl (by exact het2))) rfl ?_)
                     (refine GE.q 4 rfl (by kernel_rfl) rfl (qg_runs (rv_fieldE rfl)) rfl ?_)
                     refine GE.q 5 rfl (by kernel_rfl) rfl (qg_runs (rv_loadE rfl (by first | exact Rd.owned 4 rfl | exact Rd.owned 6 rfl) (by exact het2) rfl)) rfl ?_
                     (refine GE.q 6 rfl (by kernel_rfl) rfl (qg_runs (rv_field rfl)) rfl ?_)
                     (refine GE.q 7 rfl (by kernel_rfl) rfl (qg_runs (rv_load1 0 rfl rfl rfl)) rfl ?_)
                     (refine GE.q 8 rfl (by kernel_rfl) rfl (qg_runs (rv_addB rfl rfl (by omega) (by omega))) rfl ?_)
                     (refine GE.ol 9 (by kernel_rfl) rfl rfl (og_runs (rv_field rfl)) rfl (fun _ _ h => by exact h) (fun _ _ => ?_))
                     (first | refine GE.ol 10 (by kernel_rfl) rfl rfl (og_runs (rv_load1 5 rfl rfl rfl)) rfl (fun _ _ h => by exact h) (fun _ _ => ?_) | refine GE.ol 10 (by kernel_rfl) rfl rfl (og_runs (rv_load1 7 rfl rfl rfl)) rfl (fun _ _ h => by exact h) (fun _ _ => ?_))
                     refine GE.ol 11 (by kernel_rfl) rfl rfl (og_runs (rv_leq rfl rfl)) rfl (fun _ _ h => by exact h) (fun _ _ => ?_)
                     refine GE.ol 12 (by kernel_rfl) rfl rfl (og_runs (rv_move rfl)) rfl (fun _ _ h => by exact h) (fun _ _ => ?_)
                     all_goals (((with_reducible refine GE.part (t := 100) rfl (fun hg => ?_) (fun hg => ?_)) <;> (try exact Bool.noConfusion hg) <;> (try (exfalso; (have hq := of_decide_eq_false hg; omega))) <;> (first | refine GE.q 13 rfl (by kernel_rfl) rfl (qg_runs (rv_move rfl)) rfl ?_ | refine GE.qn 13 rfl (by kernel_rfl) rfl rfl ?_)))
                     all_goals ((first | refine GE.q 14 rfl (by kernel_rfl) rfl (qg_runs (rv_move rfl)) rfl ?_ | refine GE.qn 14 rfl (by kernel_rfl) rfl rfl ?_))
                     all_goals ((first | (refine GE.q 15 rfl (by kernel_rfl) rfl (qg_runs (rv_decr rfl rfl (by omega) (by omega))) rfl ?_) | refine GE.qn 15 rfl (by kernel_rfl) rfl rfl ?_))
                     all_goals ((first | (refine GE.q 16 rfl (by kernel_rfl) rfl (qg_runs (rv_indexH rfl rfl (by first | exact Rd.owned 4 rfl | exact Rd.owned 6 rfl) rfl (by exact het2))) rfl ?_) | refine GE.qn 16 rfl (by kernel_rfl) rfl rfl ?_))
                     all_goals ((first | (refine GE.q 17 rfl (by kernel_rfl) rfl (qg_runs (rv_fieldE rfl)) rfl ?_) | refine GE.qn 17 rfl (by kernel_rfl) rfl rfl ?_))
                     all_goals ((first | refine GE.q 18 rfl (by kernel_rfl) rfl (qg_runs (rv_loadE rfl (by first | exact Rd.stays (by assumption) | exact Rd.owned 4 rfl | exact Rd.owned 6 rfl) (by exact het2) rfl)) rfl ?_ | refine GE.qn 18 rfl (by kernel_rfl) rfl rfl ?_))
                     all_goals ((first | (refine GE.q 19 rfl (by kernel_rfl) rfl (qg_runs (rv_field rfl)) rfl ?_) | refine GE.qn 19 rfl (by kernel_rfl) rfl rfl ?_))
                     all_goals ((first | (refine GE.q 20 rfl (by kernel_rfl) rfl (qg_runs (rv_load1 0 rfl rfl rfl)) rfl ?_) | refine GE.qn 20 rfl (by kernel_rfl) rfl rfl ?_))
                     all_goals ((first | (refine GE.q 21 rfl (by kernel_rfl) rfl (qg_runs (rv_addB rfl rfl (by omega) (by omega))) rfl ?_) | refine GE.qn 21 rfl (by kernel_rfl) rfl rfl ?_))
                     all_goals ((first | (refine GE.q 22 rfl (by kernel_rfl) rfl (qg_runs (rv_field rfl)) rfl ?_) | refine GE.qn 22 rfl (by kernel_rfl) rfl rfl ?_))
                     all_goals ((first | (first | refine GE.q 23 rfl (by kernel_rfl) rfl (qg_runs (rv_load1 5 rfl rfl rfl)) rfl ?_ | refine GE.q 23 rfl (by kernel_rfl) rfl (qg_runs (rv_load1 7 rfl rfl rfl)) rfl ?_) | refine GE.qn 23 rfl (by kernel_rfl) rfl rfl ?_))
                     all_goals ((first | refine GE.q 24 rfl (by kernel_rfl) rfl (qg_runs (rv_leq rfl rfl)) rfl ?_ | refine GE.qn 24 rfl (by kernel_rfl) rfl rfl ?_))
                     all_goals ((first | refine GE.ol 25 (by kernel_rfl) rfl rfl (og_runs (rv_pickT rfl rfl)) rfl (fun _ _ h => by exact h) (fun _ _ => ?_) | refine GE.ol 25 (by kernel_rfl) rfl rfl (og_runs (rv_pickF rfl rfl)) rfl (fun _ _ h => by exact h) (fun _ _ => ?_)))
                     all_goals (refine GE.ol 26 (by kernel_rfl) rfl rfl (og_runs (rv_move rfl)) rfl (fun _ _ h => by exact h) (fun _ _ => ?_))
                     all_goals (((with_reducible refine GE.part (t := 114) rfl (fun hg => ?_) (fun hg => ?_)) <;> (try exact Bool.noConfusion hg) <;> (try (exfalso; (have hq := of_decide_eq_false hg; omega))) <;> (first | refine GE.q 27 rfl (by kernel_rfl) rfl (qg_runs (rv_move rfl)) rfl ?_ | refine GE.qn 27 rfl (by kernel_rfl) rfl rfl ?_)))
                     all_goals ((first | refine GE.q 28 rfl (by kernel_rfl) rfl (qg_runs (rv_move rfl)) rfl ?_ | refine GE.qn 28 rfl (by kernel_rfl) rfl rfl ?_))
                     all_goals ((first | (refine GE.q 29 rfl (by kernel_rfl) rfl (qg_runs (rv_indexH rfl rfl (by first | exact Rd.owned 4 rfl | exact Rd.owned 6 rfl) rfl (by exact het))) rfl ?_) | refine GE.qn 29 rfl (by kernel_rfl) rfl rfl ?_))
                     all_goals ((first | (refine GE.q 30 rfl (by kernel_rfl) rfl (qg_runs (rv_fieldE rfl)) rfl ?_) | refine GE.qn 30 rfl (by kernel_rfl) rfl rfl ?_))
                     all_goals ((first | refine GE.q 31 rfl (by kernel_rfl) rfl (qg_runs (rv_loadE rfl (by first | exact Rd.stays (by assumption) | exact Rd.owned 4 rfl | exact Rd.owned 6 rfl) (by exact het) rfl)) rfl ?_ | refine GE.qn 31 rfl (by kernel_rfl) rfl rfl ?_))
                     all_goals ((first | (refine GE.q 32 rfl (by kernel_rfl) rfl (qg_runs (rv_field rfl)) rfl ?_) | refine GE.qn 32 rfl (by kernel_rfl) rfl rfl ?_))
                     all_goals ((first | (refine GE.q 33 rfl (by kernel_rfl) rfl (qg_runs (rv_load1 0 rfl rfl rfl)) rfl ?_) | refine GE.qn 33 rfl (by kernel_rfl) rfl rfl ?_))
                     all_goals ((first | refine GE.q 34 rfl (by kernel_rfl) rfl (qg_runs (rv_neq rfl rfl)) rfl ?_ | refine GE.qn 34 rfl (by kernel_rfl) rfl rfl ?_))
                     all_goals ((first | refine GE.ol 35 (by kernel_rfl) rfl rfl (og_runs (rv_pickT rfl rfl)) rfl (fun _ _ h => by exact h) (fun _ _ => ?_) | refine GE.ol 35 (by kernel_rfl) rfl rfl (og_runs (rv_pickF rfl rfl)) rfl (fun _ _ h => by exact h) (fun _ _ => ?_)))
                     all_goals
                      refine GE.done (by kernel_rfl) ?_
                      refine G.thenN ?_
                      refine G.cond rfl (fun hc => ?_) (fun hc => ?_)
                      · try exact Bool.noConfusion hc
                        all_goals
                         try replace hc := of_decide_eq_true hc
                         try simp only [List.length_map] at hc
                         try (exfalso; contradiction)
                         all_goals
                          refine G.seq ?_
                          refine G.region ?_
                          refine G.v (rv_assign rfl) rfl ?_
                          refine G.done ?_
                          refine G.thenN ?_
                          refine G.ret ?_
                          refine G.inR ?_
                          refine G.thenR ?_
                          refine G.thenR ?_
                          refine G.inR ?_
                          refine G.thenR ?_
                          (exfalso; (simp only [decide_eq_true_eq, decide_eq_false_iff_not] at *; omega))
                      · try exact Bool.noConfusion hc
                        all_goals
                         try replace hc := of_decide_eq_false hc
                         try simp only [List.length_map] at hc
                         try (exfalso; contradiction)
                         all_goals
                          refine G.skip ?_
                          refine G.inN ?_
                          refine G.thenN ?_
                          refine G.region ?_
                          refine G.v (rv_move rfl) rfl ?_
                          (refine G.v (rv_incr rfl rfl (by omega)) rfl ?_)
                          refine G.v (rv_assign rfl) rfl ?_
                          refine G.done ?_
                          refine G.backK (i + 1) 1 rfl (.cons rfl (.cons rfl (.cons rfl (.nil)))) ?_ ?_ ?_
                          · exact ⟨rfl, trivial⟩
                          · omega
                          · omega
            · try exact Bool.noConfusion hc
              all_goals
               try replace hc := of_decide_eq_false hc
               try simp only [List.length_map] at hc
               try (exfalso; omega)
               all_goals
                refine G.exit ?_
                refine G.thenX ?_
                refine G.thenX ?_
                refine G.inX ?_
                refine G.thenN ?_
                refine G.seq ?_
                refine G.region ?_
                refine G.v (rv_assign rfl) rfl ?_
                refine G.done ?_
                refine G.thenN ?_
                refine G.ret ?_
                exact G.retFV rfl rfl rfl
end Go.Proofs.Yticgeijklhlonaa
