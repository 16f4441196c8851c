/-
  The law on places: no two boxes are in one, and none is outside.
-/
import Derived.Test.YticgeijklhlonaaApartLaw2
import Derived.Test.YticgeijklhlonaaSpots2
import Derived.Test.YticgeijklhlonaaDraws2
namespace Go.Proofs.Yticgeijklhlonaa
open Go.RowKit
def rowI (n : Nat) (f : Nat → Int) : List (List Value) := (List.range n).map fun j => icell (f j)
def updI (f : Nat → Int) (k : Nat) (z : Int) : Nat → Int := fun j => if j = k then z else f j
theorem rowI_len (n : Nat) (f : Nat → Int) : (rowI n f).length = n := by simp [rowI]
theorem rowI_get {n k : Nat} {f : Nat → Int} (h : k < n) : (rowI n f)[k]? = some (icell (f k)) := by simp [rowI, h]
theorem rowI_set {n k : Nat} {z : Int} {f : Nat → Int} : (rowI n f).set k (icell z) = rowI n (updI f k z) := by
  apply List.ext_getElem?
  intro j
  rw [List.getElem?_set]
  by_cases hj : j < n
  · rw [rowI_get (f := updI f k z) hj]
    by_cases h : k = j
    · subst h; simp [rowI_len, hj, updI]
    · rw [if_neg h, rowI_get hj]; simp [updI, Ne.symm h]
  · rw [List.getElem?_eq_none (l := rowI n (updI f k z)) (by rw [rowI_len]; omega), List.getElem?_eq_none (l := rowI n f) (by rw [rowI_len]; omega), rowI_len]
    split
    · rw [if_neg (by omega)]
    · rfl
theorem gsum_upd {l : List BoxM} {out : List SpotM} {i k : Nat} {s : SpotM} {b : BoxM} (hs : out[i]? = some s) (hb : l[i]? = some b) (hp : s.p = (k : Int)) : updI (fun j => gsumM l out i j) k (gsumM l out i k + b.g) = fun j => gsumM l out (i + 1) j := by
  funext j
  rw [gsum_next, spAt_get hs, boxAt_get hb, hp]
  unfold updI
  by_cases h : j = k
  · subst h; rw [if_pos rfl, if_pos rfl]
  · rw [if_neg h, if_neg (by omega)]; dsimp only; omega
theorem gsum_zero {l : List BoxM} {out : List SpotM} {n : Nat} : List.replicate n (icell 0) = rowI n fun j => gsumM l out 0 j := by
  simp [rowI, gsumM, List.map_const']
theorem within_true {p : PalletM} {a : BoxM} {s : SpotM} (h : Inn p a s) (hp : p.w ≤ 2000 ∧ p.d ≤ 2000 ∧ p.h ≤ 2000) (ha : 1 ≤ a.w ∧ 1 ≤ a.d ∧ 1 ≤ a.h) : withinM p a s = true := by
  unfold Inn at h
  simp only [withinM, inB, Bool.and_eq_true, decide_eq_true_eq]
  rw [wrap64_id (by omega) (by omega), wrap64_id (by omega) (by omega), wrap64_id (by omega) (by omega)]
  omega
theorem overlap_false {p : PalletM} {a b : BoxM} {s t : SpotM} (h : Sep a s b t) (h1 : Inn p a s) (h2 : Inn p b t) (hp : p.w ≤ 2000 ∧ p.d ≤ 2000 ∧ p.h ≤ 2000) (ha : 1 ≤ a.w ∧ 1 ≤ a.d ∧ 1 ≤ a.h) (hb : 1 ≤ b.w ∧ 1 ≤ b.d ∧ 1 ≤ b.h) : overlapM a s b t = false := by
  unfold Inn at h1 h2
  unfold Sep at h
  have e : ¬ (overlapM a s b t = true) := fun he => by
    simp only [overlapM, crossM, Bool.and_eq_true, decide_eq_true_eq] at he
    rw [wrap64_id (by omega) (by omega), wrap64_id (by omega) (by omega), wrap64_id (by omega) (by omega), wrap64_id (by omega) (by omega), wrap64_id (by omega) (by omega), wrap64_id (by omega) (by omega)] at he
    omega
  simpa using e
attribute [local irreducible] Go.wpList Go.Code.wp Go.Exit.then Go.Exit.inBlock Go.bodyPost Go.Calls pE pB G RunsV FnV Fn FnM
set_option maxRecDepth 100000
set_option maxHeartbeats 4000000
theorem fnApart_any {v : Value} {l : List Int} {w : World} (h : Rd w v 1 (l.map bcell)) : FnV Try.prog 14 [v] w (.bool true) := by
  refine FnV.of (n := 148) Try.func14 rfl rfl ?_
  refine G.seq ?_
  refine G.region ?_
  refine G.v (rv_assign rfl) rfl ?_
  refine G.done ?_
  refine G.thenN ?_
  refine G.seq ?_
  refine G.seq ?_
  refine G.region ?_
  refine G.v (rv_move rfl) rfl ?_
  refine G.op (og_callV rfl rfl (fun w hh => big_any w (by exact Rd.stays (by assumption) _ hh))) rfl (fun _ _ => ?_)
  refine G.done ?_
  refine G.thenN ?_
  refine G.cond rfl (fun hc => ?_) (fun hc => ?_)
  · try exact Bool.noConfusion hc
    all_goals
     try replace hc := of_decide_eq_true hc
     try simp only [List.length_map] at hc
     try (exfalso; contradiction)
     all_goals
      refine G.seq ?_
      refine G.region ?_
      refine G.v (rv_assign rfl) rfl ?_
      refine G.done ?_
      refine G.thenN ?_
      refine G.ret ?_
      refine G.thenR ?_
      exact G.retFV rfl rfl rfl
  · try exact Bool.noConfusion hc
    all_goals
     try replace hc := of_decide_eq_false hc
     try simp only [List.length_map] at hc
     try (exfalso; contradiction)
     all_goals
      refine G.skip ?_
      refine G.thenN ?_
      refine G.seq ?_
      refine G.region ?_
      refine G.v (rv_move rfl) rfl ?_
      (refine G.op (og_callF1 rfl rfl (fun w hh => drawSpotsOf_any w (by exact Rd.stays (by assumption) _ hh))) rfl ?_; rintro ⟨p, vb, bs⟩ ⟨hvb, hbs⟩; try dsimp only)
      dsimp only at hbs hvb
      have hbl : (bs.map BoxM.cells).length = bs.length := by simp
      refine G.v (rv_move rfl) rfl ?_
      refine G.v (rv_extract rfl rfl) rfl ?_
      refine G.v (rv_extract rfl rfl) rfl ?_
      refine G.op (og_alloc) rfl (fun bk3 _ => ?_)
      (refine G.op0 (og_st0 rfl rfl rfl rfl rfl rfl (.zero (.cons (.cons (.cons (.cons .nil)))))) (fun _ _ => ?_))
      refine G.v (rv_assign rfl) rfl ?_
      refine G.done ?_
      refine G.thenN ?_
      refine G.seq ?_
      refine G.region ?_
      (refine G.v (rv_loadW 0 rfl rfl rfl) rfl ?_)
      refine G.v (rv_move rfl) rfl ?_
      (refine G.op (og_callF1 rfl rfl (fun w hh => implSpotsOf_any p w (by exact Rd.owned 1 rfl _ hh) (by omega))) rfl ?_; rintro vs hvs; try dsimp only)
      have hsl := spots_le p bs
      have hsl2 : ((spotsM p bs).map SpotM.cells).length = (spotsM p bs).length := by simp
      refine G.v (rv_assign rfl) rfl ?_
      refine G.done ?_
      refine G.thenN ?_
      refine G.seq ?_
      refine G.seq ?_
      refine G.region ?_
      refine G.v (rv_move rfl) rfl ?_
      refine G.v (rv_len rfl (by exact Rd.owned 0 rfl)) rfl ?_
      (refine G.v (rv_loadW 1 rfl rfl rfl) rfl ?_)
      refine G.v (rv_move rfl) rfl ?_
      (refine G.op (og_callF1 rfl rfl (fun w hh => specSpotsOf_any p w (by exact Rd.owned 2 rfl _ hh) (by omega))) rfl ?_; rintro vu hvu; try dsimp only)
      refine G.v (rv_len rfl (by exact Rd.owned 0 rfl)) rfl ?_
      refine G.v (rv_neq rfl rfl) rfl ?_
      refine G.done ?_
      refine G.thenN ?_
      refine G.cond rfl (fun hc => ?_) (fun hc => ?_)
      · try exact Bool.noConfusion hc
        all_goals
         try replace hc := of_decide_eq_true hc
         try simp only [List.length_map] at hc
         try (exfalso; contradiction)
         all_goals
          refine G.seq ?_
          refine G.region ?_
          refine G.v (rv_assign rfl) rfl ?_
          refine G.done ?_
          refine G.thenN ?_
          refine G.ret ?_
          refine G.thenR ?_
          exact G.retFV rfl rfl rfl
      · try exact Bool.noConfusion hc
        all_goals
         try replace hc := of_decide_eq_false hc
         try simp only [List.length_map] at hc
         try (exfalso; contradiction)
         all_goals
          refine G.skip ?_
          refine G.thenN ?_
          refine G.seq ?_
          refine G.seq ?_
          refine G.region ?_
          (refine G.v (rv_loadW 2 rfl rfl rfl) rfl ?_)
          refine G.v (rv_move rfl) rfl ?_
          refine G.op (og_callV rfl rfl (fun w hh => sboxesOk_any _ w (by exact Rd.owned 3 rfl _ hh))) rfl (fun _ _ => ?_)
          refine G.v (rv_not rfl) rfl ?_
          refine G.done ?_
          refine G.thenN ?_
          refine G.cond rfl (fun hc => ?_) (fun hc => ?_)
          · try exact Bool.noConfusion hc
            all_goals
             try replace hc := of_decide_eq_true hc
             try simp only [List.length_map] at hc
             try (exfalso; contradiction)
             all_goals
              refine G.seq ?_
              refine G.region ?_
              refine G.v (rv_move rfl) rfl ?_
              refine G.v (rv_len rfl (by exact Rd.owned 1 rfl)) rfl ?_
              refine G.v (rv_eql rfl rfl) rfl ?_
              refine G.v (rv_assign rfl) rfl ?_
              refine G.done ?_
              refine G.thenN ?_
              refine G.ret ?_
              refine G.thenR ?_
              (exact G.retFV rfl rfl (congrArg Value.bool (decide_eq_true (by (have hn0 : spotsM p bs = [] := (by rw [spotsM, if_neg (by intro hq; rw [hq] at hc; exact Bool.noConfusion hc)]); simp [hn0])))))
          · try exact Bool.noConfusion hc
            all_goals
             try replace hc := of_decide_eq_false hc
             try simp only [List.length_map] at hc
             try (exfalso; contradiction)
             all_goals
              refine G.skip ?_
              refine G.thenN ?_
              refine G.seq ?_
              refine G.seq ?_
              refine G.region ?_
              refine G.v (rv_assign rfl) rfl ?_
              refine G.done ?_
              refine G.thenN ?_
              refine G.block ?_
              -- loop 0: turned [6], kept [3, 4, 5]
              have hok : boxesOkM p bs = true := bnot_no hc
              have hpp := pallet_in (pal_okA hok)
              have hsn := spots_len hok
              have hld : (loadsM p (layersM p (shelvesM p bs))).length ≤ bs.length := by (have h1 := loads_len p (layersM p (shelvesM p bs)); have h2 := layers_len p (shelvesM p bs); have h3 := shelves_len p bs; omega)
              have hpf := pal_facts (spotsM p bs) 0 (Int.le_refl 0)
              have hpu := hpf.2.2 ((loadsM p (layersM p (shelvesM p bs))).length : Int) (by omega) (fun s hs => by obtain ⟨j, hj, he⟩ := List.getElem_of_mem hs; obtain ⟨s2, h1, _, h3⟩ := spot_in hok (j := j) (by omega); rw [List.getElem?_eq_getElem hj, he] at h1; cases h1; exact h3)
              refine G.loopK (ι := Nat) (ks := [3, 4, 5]) (fun i => [(6, .int .i64 (i : Int))]) (fun _ => []) (fun i => i ≤ bs.length) (fun i => bs.length - i) 0 (.cons rfl (.cons rfl (.cons rfl (.nil)))) rfl ?_ ?_ ?_
              · exact Nat.zero_le _
              · exact ⟨rfl, trivial⟩
              rintro i hi
              by_cases hlt : i < bs.length
              case' pos => (obtain ⟨b, hb⟩ := get_of_lt hlt; have heb := get_map hb BoxM.cells; obtain ⟨s, hs, hin, hsp⟩ := spot_in hok hlt; have hes := get_map hs SpotM.cells; have hba := boxAt_get hb; rw [hba] at hin; have hbx := box_in (by have := box_okA hok hlt; rwa [hba] at this : boxOkM p b = true); have hwt := within_true hin (by omega) (by omega); have hsp0 : 0 ≤ s.p := hin.1)
              all_goals
               refine G.seq ?_
               refine G.seq ?_
               refine G.region ?_
               refine G.v (rv_move rfl) rfl ?_
               refine G.v (rv_move rfl) rfl ?_
               refine G.v (rv_len rfl (by exact Rd.owned 1 rfl)) rfl ?_
               refine G.v (rv_lss rfl rfl) rfl ?_
               refine G.done ?_
               refine G.thenN ?_
               refine G.cond rfl (fun hc => ?_) (fun hc => ?_)
               · try exact Bool.noConfusion hc
                 all_goals
                  try replace hc := of_decide_eq_true hc
                  try simp only [List.length_map] at hc
                  try (exfalso; omega)
                  all_goals
                   refine G.skip ?_
                   refine G.thenN ?_
                   refine G.seq ?_
                   refine G.block ?_
                   refine G.seq ?_
                   refine G.seq ?_
                   refine G.drawL [] ?_
                   (refine GE.q 0 rfl (by as_aux_lemma => kernel_rfl) rfl (qg_runs (rv_loadW 2 rfl rfl rfl)) rfl ?_)
                   refine GE.q 1 rfl (by as_aux_lemma => kernel_rfl) rfl (qg_runs (rv_move rfl)) rfl ?_
                   refine GE.q 2 rfl (by as_aux_lemma => kernel_rfl) rfl (qg_runs (rv_move rfl)) rfl ?_
                   (refine GE.q 3 rfl (by as_aux_lemma => kernel_rfl) rfl (qg_runs (rv_indexH rfl rfl (by exact Rd.owned 3 rfl) rfl (by exact heb))) rfl ?_)
                   (refine GE.q 4 rfl (by as_aux_lemma => kernel_rfl) rfl (qg_runs (rv_loadEW rfl (by exact Rd.owned 3 rfl) (by exact heb) rfl)) rfl ?_)
                   refine GE.q 5 rfl (by as_aux_lemma => kernel_rfl) rfl (qg_runs (rv_move rfl)) rfl ?_
                   refine GE.ol 6 (by as_aux_lemma => kernel_rfl) rfl rfl (og_runs (rv_move rfl)) rfl (fun _ _ h => by exact h) (fun _ _ => ?_)
                   (refine GE.ol 7 (by as_aux_lemma => kernel_rfl) rfl rfl (og_runs (rv_indexH rfl rfl (by exact Rd.owned 1 rfl) rfl (by exact hes))) rfl (fun _ _ h => by exact h) (fun _ _ => ?_))
                   (refine GE.ol 8 (by as_aux_lemma => kernel_rfl) rfl rfl (og_runs (rv_loadEW rfl (by exact Rd.owned 1 rfl) (by exact hes) rfl)) rfl (fun _ _ h => by exact h) (fun _ _ => ?_))
                   refine GE.ol 9 (by as_aux_lemma => kernel_rfl) rfl rfl (og_callV rfl rfl (fun w _ => within_any _ _ _ w)) rfl (fun _ _ h => by exact h) (fun _ _ => ?_)
                   refine GE.ol 10 (by as_aux_lemma => kernel_rfl) rfl rfl (og_runs (rv_not rfl)) rfl (fun _ _ h => by exact h) (fun _ _ => ?_)
                   refine GE.ol 11 (by as_aux_lemma => kernel_rfl) rfl rfl (og_runs (rv_move rfl)) rfl (fun _ _ h => by exact h) (fun _ _ => ?_)
                   all_goals (((with_reducible refine GE.part (t := 53) rfl (fun hg => ?_) (fun hg => ?_)) <;> (try exact Bool.noConfusion hg) <;> (try (exfalso; (have hq := of_decide_eq_false hg; omega))) <;> (first | refine GE.q 12 rfl (by as_aux_lemma => kernel_rfl) rfl (qg_runs (rv_move rfl)) rfl ?_ | refine GE.qn 12 rfl (by as_aux_lemma => kernel_rfl) rfl rfl ?_)))
                   all_goals ((first | refine GE.q 13 rfl (by as_aux_lemma => kernel_rfl) rfl (qg_runs (rv_move rfl)) rfl ?_ | refine GE.qn 13 rfl (by as_aux_lemma => kernel_rfl) rfl rfl ?_))
                   all_goals ((first | (refine GE.q 14 rfl (by as_aux_lemma => kernel_rfl) rfl (qg_runs (rv_indexH rfl rfl (by exact Rd.owned 1 rfl) rfl (by exact hes))) rfl ?_) | refine GE.qn 14 rfl (by as_aux_lemma => kernel_rfl) rfl rfl ?_))
                   all_goals ((first | (refine GE.q 15 rfl (by as_aux_lemma => kernel_rfl) rfl (qg_runs (rv_fieldE rfl)) rfl ?_) | refine GE.qn 15 rfl (by as_aux_lemma => kernel_rfl) rfl rfl ?_))
                   all_goals ((first | refine GE.q 16 rfl (by as_aux_lemma => kernel_rfl) rfl (qg_runs (rv_loadE rfl (by first | exact Rd.stays (by assumption) | exact Rd.owned 1 rfl) (by exact hes) rfl)) rfl ?_ | refine GE.qn 16 rfl (by as_aux_lemma => kernel_rfl) rfl rfl ?_))
                   all_goals ((first | refine GE.q 17 rfl (by as_aux_lemma => kernel_rfl) rfl (qg_runs (rv_lss rfl rfl)) rfl ?_ | refine GE.qn 17 rfl (by as_aux_lemma => kernel_rfl) rfl rfl ?_))
                   all_goals ((first | refine GE.ol 18 (by as_aux_lemma => kernel_rfl) rfl rfl (og_runs (rv_pickT rfl rfl)) rfl (fun _ _ h => by exact h) (fun _ _ => ?_) | refine GE.ol 18 (by as_aux_lemma => kernel_rfl) rfl rfl (og_runs (rv_pickF rfl rfl)) rfl (fun _ _ h => by exact h) (fun _ _ => ?_)))
                   all_goals
                    refine GE.done (by as_aux_lemma => kernel_rfl) ?_
                    refine G.thenN ?_
                    refine G.cond rfl (fun hc => ?_) (fun hc => ?_)
                    · try exact Bool.noConfusion hc
                      all_goals
                       try replace hc := of_decide_eq_true hc
                       try simp only [List.length_map] at hc
                       try (exfalso; omega)
                       all_goals
                        refine G.seq ?_
                        refine G.region ?_
                        refine G.v (rv_assign rfl) rfl ?_
                        refine G.done ?_
                        refine G.thenN ?_
                        refine G.ret ?_
                        refine G.thenR ?_
                        refine G.inR ?_
                        refine G.thenR ?_
                        refine G.thenR ?_
                        refine G.inR ?_
                        refine G.thenR ?_
                        (exfalso; (simp_all; done))
                    · try exact Bool.noConfusion hc
                      all_goals
                       try replace hc := of_decide_eq_false hc
                       try simp only [List.length_map] at hc
                       try (exfalso; contradiction)
                       all_goals
                        refine G.skip ?_
                        refine G.thenN ?_
                        refine G.seq ?_
                        refine G.region ?_
                        refine G.v (rv_assign rfl) rfl ?_
                        refine G.done ?_
                        refine G.thenN ?_
                        refine G.block ?_
                        -- loop 1: turned [7], kept [3, 4, 5, 6]
                        refine G.loopK (ι := Nat) (ks := [3, 4, 5, 6]) (fun k => [(7, .int .i64 (k : Int))]) (fun _ => []) (fun k => k ≤ i) (fun k => i - k) 0 (.cons rfl (.cons rfl (.cons rfl (.cons rfl (.nil))))) rfl ?_ ?_ ?_
                        · exact Nat.zero_le _
                        · exact ⟨rfl, trivial⟩
                        rintro k hk
                        by_cases hlk : k < i
                        case' pos => (obtain ⟨b2, hb2⟩ := get_of_lt (l := bs) (k := k) (by omega); have heb2 := get_map hb2 BoxM.cells; obtain ⟨s2, hs2, hin2, hsp2⟩ := spot_in hok (j := k) (by omega); have hes2 := get_map hs2 SpotM.cells; have hba2 := boxAt_get hb2; have hsep := spot_ap hok hlt (j := k) (by omega) (by omega) hs hs2; rw [hba, hba2] at hsep; rw [hba2] at hin2; have hbx2 := box_in (by have := box_okA hok (j := k) (by omega); rwa [hba2] at this : boxOkM p b2 = true); have hov := overlap_false hsep hin hin2 (by omega) (by omega) (by omega))
                        all_goals
                         refine G.seq ?_
                         refine G.seq ?_
                         refine G.region ?_
                         refine G.v (rv_move rfl) rfl ?_
                         refine G.v (rv_move rfl) rfl ?_
                         refine G.v (rv_lss rfl rfl) rfl ?_
                         refine G.done ?_
                         refine G.thenN ?_
                         refine G.cond rfl (fun hc => ?_) (fun hc => ?_)
                         · try exact Bool.noConfusion hc
                           all_goals
                            try replace hc := of_decide_eq_true hc
                            try simp only [List.length_map] at hc
                            try (exfalso; omega)
                            all_goals
                             refine G.skip ?_
                             refine G.thenN ?_
                             refine G.seq ?_
                             refine G.block ?_
                             refine G.seq ?_
                             refine G.drawL [] ?_
                             refine GE.q 0 rfl (by as_aux_lemma => kernel_rfl) rfl (qg_runs (rv_move rfl)) rfl ?_
                             refine GE.q 1 rfl (by as_aux_lemma => kernel_rfl) rfl (qg_runs (rv_move rfl)) rfl ?_
                             (refine GE.q 2 rfl (by as_aux_lemma => kernel_rfl) rfl (qg_runs (rv_indexH rfl rfl (by exact Rd.owned 3 rfl) rfl (by exact heb))) rfl ?_)
                             (refine GE.q 3 rfl (by as_aux_lemma => kernel_rfl) rfl (qg_runs (rv_loadEW rfl (by exact Rd.owned 3 rfl) (by exact heb) rfl)) rfl ?_)
                             refine GE.q 4 rfl (by as_aux_lemma => kernel_rfl) rfl (qg_runs (rv_move rfl)) rfl ?_
                             refine GE.q 5 rfl (by as_aux_lemma => kernel_rfl) rfl (qg_runs (rv_move rfl)) rfl ?_
                             (refine GE.q 6 rfl (by as_aux_lemma => kernel_rfl) rfl (qg_runs (rv_indexH rfl rfl (by exact Rd.owned 1 rfl) rfl (by exact hes))) rfl ?_)
                             (refine GE.q 7 rfl (by as_aux_lemma => kernel_rfl) rfl (qg_runs (rv_loadEW rfl (by exact Rd.owned 1 rfl) (by exact hes) rfl)) rfl ?_)
                             refine GE.q 8 rfl (by as_aux_lemma => kernel_rfl) rfl (qg_runs (rv_move rfl)) rfl ?_
                             refine GE.q 9 rfl (by as_aux_lemma => kernel_rfl) rfl (qg_runs (rv_move rfl)) rfl ?_
                             (refine GE.q 10 rfl (by as_aux_lemma => kernel_rfl) rfl (qg_runs (rv_indexH rfl rfl (by exact Rd.owned 3 rfl) rfl (by exact heb2))) rfl ?_)
                             (refine GE.q 11 rfl (by as_aux_lemma => kernel_rfl) rfl (qg_runs (rv_loadEW rfl (by exact Rd.owned 3 rfl) (by exact heb2) rfl)) rfl ?_)
                             refine GE.q 12 rfl (by as_aux_lemma => kernel_rfl) rfl (qg_runs (rv_move rfl)) rfl ?_
                             refine GE.ol 13 (by as_aux_lemma => kernel_rfl) rfl rfl (og_runs (rv_move rfl)) rfl (fun _ _ h => by exact h) (fun _ _ => ?_)
                             (refine GE.ol 14 (by as_aux_lemma => kernel_rfl) rfl rfl (og_runs (rv_indexH rfl rfl (by exact Rd.owned 1 rfl) rfl (by exact hes2))) rfl (fun _ _ h => by exact h) (fun _ _ => ?_))
                             (refine GE.ol 15 (by as_aux_lemma => kernel_rfl) rfl rfl (og_runs (rv_loadEW rfl (by exact Rd.owned 1 rfl) (by exact hes2) rfl)) rfl (fun _ _ h => by exact h) (fun _ _ => ?_))
                             refine GE.ol 16 (by as_aux_lemma => kernel_rfl) rfl rfl (og_callV rfl rfl (fun w _ => overlap_any _ _ _ _ w)) rfl (fun _ _ h => by exact h) (fun _ _ => ?_)
                             refine GE.done (by as_aux_lemma => kernel_rfl) ?_
                             refine G.thenN ?_
                             refine G.cond rfl (fun hc => ?_) (fun hc => ?_)
                             · try exact Bool.noConfusion hc
                               all_goals
                                try replace hc := of_decide_eq_true hc
                                try simp only [List.length_map] at hc
                                try (exfalso; contradiction)
                                all_goals
                                 refine G.seq ?_
                                 refine G.region ?_
                                 refine G.v (rv_assign rfl) rfl ?_
                                 refine G.done ?_
                                 refine G.thenN ?_
                                 refine G.ret ?_
                                 refine G.inR ?_
                                 refine G.thenR ?_
                                 refine G.thenR ?_
                                 refine G.inR ?_
                                 refine G.inR ?_
                                 refine G.thenR ?_
                                 refine G.thenR ?_
                                 refine G.inR ?_
                                 refine G.thenR ?_
                                 (exfalso; (simp_all; done))
                             · try exact Bool.noConfusion hc
                               all_goals
                                try replace hc := of_decide_eq_false hc
                                try simp only [List.length_map] at hc
                                try (exfalso; contradiction)
                                all_goals
                                 refine G.skip ?_
                                 refine G.inN ?_
                                 refine G.thenN ?_
                                 refine G.region ?_
                                 refine G.v (rv_move rfl) rfl ?_
                                 (refine G.v (rv_incr rfl rfl (by omega)) rfl ?_)
                                 refine G.v (rv_assign rfl) rfl ?_
                                 refine G.done ?_
                                 refine G.backK (k + 1) 0 rfl (.cons rfl (.cons rfl (.cons rfl (.cons rfl (.nil))))) ?_ ?_ ?_
                                 · exact ⟨rfl, trivial⟩
                                 · exact hlk
                                 · omega
                         · try exact Bool.noConfusion hc
                           all_goals
                            try replace hc := of_decide_eq_false hc
                            try simp only [List.length_map] at hc
                            try (exfalso; omega)
                            all_goals
                             refine G.exit ?_
                             refine G.thenX ?_
                             refine G.thenX ?_
                             refine G.inX ?_
                             refine G.inN ?_
                             refine G.thenN ?_
                             refine G.region ?_
                             refine G.v (rv_move rfl) rfl ?_
                             (refine G.v (rv_incr rfl rfl (by omega)) rfl ?_)
                             refine G.v (rv_assign rfl) rfl ?_
                             refine G.done ?_
                             refine G.backK (i + 1) 0 rfl (.cons rfl (.cons rfl (.cons rfl (.nil)))) ?_ ?_ ?_
                             · exact ⟨rfl, trivial⟩
                             · exact hlt
                             · omega
               · try exact Bool.noConfusion hc
                 all_goals
                  try replace hc := of_decide_eq_false hc
                  try simp only [List.length_map] at hc
                  try (exfalso; omega)
                  all_goals
                   refine G.exit ?_
                   refine G.thenX ?_
                   refine G.thenX ?_
                   refine G.inX ?_
                   refine G.thenN ?_
                   refine G.seq ?_
                   refine G.region ?_
                   refine G.v (rv_move rfl) rfl ?_
                   refine G.op (og_callV rfl rfl (fun w hh => pallets_any w (by exact Rd.owned 1 rfl _ hh))) rfl (fun _ _ => ?_)
                   have hpn0 : 0 ≤ palletsM (spotsM p bs) := hpf.1
                   have hpnu : palletsM (spotsM p bs) ≤ ((loadsM p (layersM p (shelvesM p bs))).length : Int) := hpu
                   have hpi : ∀ s ∈ spotsM p bs, 0 ≤ s.p → s.p ≤ 999999 → s.p < palletsM (spotsM p bs) := hpf.2.1
                   generalize palletsM (spotsM p bs) = pn at hpn0 hpnu hpi ⊢
                   obtain ⟨n, rfl⟩ := Int.eq_ofNat_of_zero_le hpn0
                   refine G.v (rv_assign rfl) rfl ?_
                   refine G.done ?_
                   refine G.thenN ?_
                   refine G.seq ?_
                   refine G.seq ?_
                   refine G.region ?_
                   refine G.v (rv_move rfl) rfl ?_
                   refine G.v (rv_lss rfl rfl) rfl ?_
                   refine G.v (rv_move rfl) rfl ?_
                   all_goals (((with_reducible refine G.gP rfl rfl (fun hg => ?_) (fun hg => ?_)) <;> (try exact Bool.noConfusion hg) <;> (try (exfalso; (have hq := of_decide_eq_false hg; omega))) <;> ((refine G.gY rfl rfl ?_; refine G.v (rv_move rfl) rfl ?_))))
                   all_goals (((refine G.gY rfl rfl ?_; refine G.v (rv_move rfl) rfl ?_)))
                   all_goals (((refine G.gY rfl rfl ?_; refine G.v (rv_len rfl (by exact Rd.owned 1 rfl)) rfl ?_)))
                   all_goals (((refine G.gY rfl rfl ?_; refine G.v (rv_gtr rfl rfl) rfl ?_)))
                   all_goals ((refine G.v (rv_pickF rfl rfl) rfl ?_))
                   all_goals
                    refine G.done ?_
                    refine G.thenN ?_
                    refine G.cond rfl (fun hc => ?_) (fun hc => ?_)
                    · try exact Bool.noConfusion hc
                      all_goals
                       try replace hc := of_decide_eq_true hc
                       try simp only [List.length_map] at hc
                       try (exfalso; omega)
                       all_goals
                        refine G.seq ?_
                        refine G.region ?_
                        refine G.v (rv_assign rfl) rfl ?_
                        refine G.done ?_
                        refine G.thenN ?_
                        refine G.ret ?_
                        refine G.thenR ?_
                        exact G.retFV rfl rfl rfl
                    · try exact Bool.noConfusion hc
                      all_goals
                       try replace hc := of_decide_eq_false hc
                       try simp only [List.length_map] at hc
                       try (exfalso; contradiction)
                       all_goals
                        refine G.skip ?_
                        refine G.thenN ?_
                        refine G.seq ?_
                        refine G.region ?_
                        refine G.v (rv_move rfl) rfl ?_
                        refine G.op (og_make rfl rfl rfl rfl rfl (by omega) (by omega)) rfl (fun vm _ => ?_)
                        refine G.v (rv_assign rfl) rfl ?_
                        refine G.done ?_
                        refine G.thenN ?_
                        refine G.seq ?_
                        refine G.seq ?_
                        refine G.region ?_
                        refine G.v (rv_assign rfl) rfl ?_
                        refine G.done ?_
                        refine G.thenN ?_
                        refine G.block ?_
                        -- loop 2: turned [10], kept [3, 4, 5, 8, 9]
                        refine G.rowEq (rowI n fun j => gsumM bs (spotsM p bs) 0 j) gsum_zero rfl ?_
                        refine G.loopK (ι := Nat) (ks := [3, 4, 5, 8, 9]) (fun i => [(10, .int .i64 (i : Int))]) (fun i => [.row vm 3 1 (rowI n fun j => gsumM bs (spotsM p bs) i j)]) (fun i => i ≤ bs.length) (fun i => bs.length - i) 0 (.cons rfl (.cons rfl (.cons rfl (.cons rfl (.cons rfl (.nil)))))) rfl ?_ ?_ ?_
                        · exact Nat.zero_le _
                        · exact ⟨rfl, trivial⟩
                        rintro q hq0
                        by_cases hlq : q < bs.length
                        case' pos => (obtain ⟨b, hb⟩ := get_of_lt hlq; have heb := get_map hb BoxM.cells; obtain ⟨s, hs, hin, hsp⟩ := spot_in hok hlq; have hba := boxAt_get hb; have hbx := box_in (by have := box_okA hok hlq; rwa [hba] at this : boxOkM p b = true); have hpi2 := hpi s (List.mem_of_getElem? hs) hin.1 (by omega); obtain ⟨sp, sx, sy, sz⟩ := s; dsimp only at hsp hpi2; obtain ⟨k, hkp⟩ := Int.eq_ofNat_of_zero_le (show 0 ≤ sp from hin.1); subst hkp; have hes := get_map hs SpotM.cells; have hek : (rowI n fun j => gsumM bs (spotsM p bs) q j)[k]? = some (icell (gsumM bs (spotsM p bs) q k)) := rowI_get (by omega); have hgb := gsum_bd hok k q (by omega); have hgu := gsum_upd hs hb rfl)
                        all_goals
                         refine G.seq ?_
                         refine G.seq ?_
                         refine G.region ?_
                         refine G.v (rv_move rfl) rfl ?_
                         refine G.v (rv_move rfl) rfl ?_
                         refine G.v (rv_len rfl (by exact Rd.owned 2 rfl)) rfl ?_
                         refine G.v (rv_lss rfl rfl) rfl ?_
                         refine G.done ?_
                         refine G.thenN ?_
                         refine G.cond rfl (fun hc => ?_) (fun hc => ?_)
                         · try exact Bool.noConfusion hc
                           all_goals
                            try replace hc := of_decide_eq_true hc
                            try simp only [List.length_map] at hc
                            try (exfalso; omega)
                            all_goals
                             refine G.skip ?_
                             refine G.thenN ?_
                             refine G.seq ?_
                             refine G.block ?_
                             refine G.drawS [21] rfl ?_
                             refine GS.p 0 rfl (by as_aux_lemma => kernel_rfl) (qg_runs (rv_move rfl)) (fun _ h => h.drop 1) rfl ?_
                             refine GS.p 1 rfl (by as_aux_lemma => kernel_rfl) (qg_runs (rv_move rfl)) (fun _ h => h.drop 1) rfl ?_
                             refine GS.p 2 rfl (by as_aux_lemma => kernel_rfl) (qg_runs (rv_move rfl)) (fun _ h => h.drop 1) rfl ?_
                             (refine GS.q 3 [4, 5, 20, 21] rfl (by as_aux_lemma => kernel_rfl) (by as_aux_lemma => kernel_rfl) (qg_runs (rv_indexH rfl rfl (by exact Rd.owned 2 rfl) rfl (by exact hes))) rfl ?_)
                             (refine GS.p 4 rfl (by as_aux_lemma => kernel_rfl) (qg_runs (rv_fieldE rfl)) (fun _ h => h.drop 1) rfl ?_)
                             refine GS.q 5 [20, 21] rfl (by as_aux_lemma => kernel_rfl) (by as_aux_lemma => kernel_rfl) (qg_runs (rv_loadE rfl (by exact Rd.owned 2 rfl) (by exact hes) rfl)) rfl ?_
                             refine GS.p 6 rfl (by as_aux_lemma => kernel_rfl) (qg_runs (rv_move rfl)) (fun _ h => h.drop 1) rfl ?_
                             refine GS.p 7 rfl (by as_aux_lemma => kernel_rfl) (qg_runs (rv_move rfl)) (fun _ h => h.drop 1) rfl ?_
                             refine GS.p 8 rfl (by as_aux_lemma => kernel_rfl) (qg_runs (rv_move rfl)) (fun _ h => h.drop 1) rfl ?_
                             (refine GS.q 9 [10, 11, 12, 13, 19, 20, 21] rfl (by as_aux_lemma => kernel_rfl) (by as_aux_lemma => kernel_rfl) (qg_runs (rv_indexH rfl rfl (by exact Rd.owned 2 rfl) rfl (by exact hes))) rfl ?_)
                             (refine GS.p 10 rfl (by as_aux_lemma => kernel_rfl) (qg_runs (rv_fieldE rfl)) (fun _ h => h.drop 1) rfl ?_)
                             refine GS.q 11 [12, 13, 19, 20, 21] rfl (by as_aux_lemma => kernel_rfl) (by as_aux_lemma => kernel_rfl) (qg_runs (rv_loadE rfl (by exact Rd.owned 2 rfl) (by exact hes) rfl)) rfl ?_
                             (refine GS.q 12 [13, 19, 20, 21] rfl (by as_aux_lemma => kernel_rfl) (by as_aux_lemma => kernel_rfl) (qg_runs (rv_indexH rfl rfl (by exact Rd.owned 0 rfl) rfl (by exact hek))) rfl ?_)
                             refine GS.q 13 [19, 20, 21] rfl (by as_aux_lemma => kernel_rfl) (by as_aux_lemma => kernel_rfl) (qg_runs (rv_loadE rfl (by exact Rd.owned 0 rfl) (by exact hek) rfl)) rfl ?_
                             refine GS.p 14 rfl (by as_aux_lemma => kernel_rfl) (qg_runs (rv_move rfl)) (fun _ h => h.drop 1) rfl ?_
                             refine GS.p 15 rfl (by as_aux_lemma => kernel_rfl) (qg_runs (rv_move rfl)) (fun _ h => h.drop 1) rfl ?_
                             (refine GS.q 16 [17, 18, 19, 20, 21] rfl (by as_aux_lemma => kernel_rfl) (by as_aux_lemma => kernel_rfl) (qg_runs (rv_indexH rfl rfl (by exact Rd.owned 4 rfl) rfl (by exact heb))) rfl ?_)
                             (refine GS.p 17 rfl (by as_aux_lemma => kernel_rfl) (qg_runs (rv_fieldE rfl)) (fun _ h => h.drop 1) rfl ?_)
                             refine GS.q 18 [19, 20, 21] rfl (by as_aux_lemma => kernel_rfl) (by as_aux_lemma => kernel_rfl) (qg_runs (rv_loadE rfl (by exact Rd.owned 4 rfl) (by exact heb) rfl)) rfl ?_
                             (refine GS.p 19 rfl (by as_aux_lemma => kernel_rfl) (qg_runs (rv_addB rfl rfl (by omega) (by omega))) (fun _ h => h.drop 1) rfl ?_)
                             (refine GS.q 20 [21] rfl (by as_aux_lemma => kernel_rfl) (by as_aux_lemma => kernel_rfl) (qg_runs (rv_indexH rfl rfl (by exact Rd.owned 0 rfl) rfl (by exact hek))) rfl ?_)
                             refine GS.o0 21 (by as_aux_lemma => kernel_rfl) rfl rfl (og_stE0 rfl rfl rfl (by exact hek) rfl rfl rfl rfl (.zero (.cons .nil))) (fun _ _ h => h.drop 1) (fun _ _ => ?_)
                             refine GS.done (by as_aux_lemma => kernel_rfl) ?_
                             refine G.inN ?_
                             refine G.thenN ?_
                             refine G.region ?_
                             refine G.v (rv_move rfl) rfl ?_
                             (refine G.v (rv_incr rfl rfl (by omega)) rfl ?_)
                             refine G.v (rv_assign rfl) rfl ?_
                             refine G.done ?_
                             refine G.backK (q + 1) 0 (one_eq (congrArg (fun z => Ch.row vm 3 1 z) (rowI_set.trans (congrArg (rowI n) hgu)))) (.cons rfl (.cons rfl (.cons rfl (.cons rfl (.cons rfl (.nil)))))) ?_ ?_ ?_
                             · exact ⟨rfl, trivial⟩
                             · exact hlq
                             · omega
                         · try exact Bool.noConfusion hc
                           all_goals
                            try replace hc := of_decide_eq_false hc
                            try simp only [List.length_map] at hc
                            try (exfalso; omega)
                            all_goals
                             refine G.exit ?_
                             refine G.thenX ?_
                             refine G.thenX ?_
                             refine G.inX ?_
                             refine G.thenN ?_
                             refine G.seq ?_
                             refine G.seq ?_
                             refine G.region ?_
                             refine G.v (rv_assign rfl) rfl ?_
                             refine G.done ?_
                             refine G.thenN ?_
                             refine G.block ?_
                             -- loop 3: turned [11], kept [3, 4, 8, 9]
                             have hn9 : n = 0 → bs.length = 0 := fun hz => by (rcases Nat.eq_zero_or_pos bs.length with h9 | h9; exact h9; obtain ⟨s, hs, hin, hsp⟩ := spot_in hok h9; have h8 := hin.1; have h7 := hpi s (List.mem_of_getElem? hs) h8 (by omega); omega)
                             refine G.loopK (ι := Nat) (ks := [3, 4, 8, 9]) (fun k => [(11, .int .i64 (k : Int))]) (fun _ => []) (fun k => k ≤ n) (fun k => n - k) 0 (.cons rfl (.cons rfl (.cons rfl (.cons rfl (.nil))))) rfl ?_ ?_ ?_
                             · exact Nat.zero_le _
                             · exact ⟨rfl, trivial⟩
                             rintro k hk
                             by_cases hlk : k < n
                             case' pos => (obtain ⟨t, ht⟩ := get_of_lt (l := loadsM p (layersM p (shelvesM p bs))) (k := k) (by omega); have hga := gsum_all hok ht; have hlo := load_ok (lay_stacks (shelves_okL hok)) t (List.mem_of_getElem? ht); have hqe : q = bs.length := (by omega); have hek : (rowI n fun j => gsumM bs (spotsM p bs) q j)[k]? = some (icell t.g) := (by rw [rowI_get hlk, hqe, hga]))
                             all_goals
                              refine G.seq ?_
                              refine G.seq ?_
                              refine G.region ?_
                              refine G.v (rv_move rfl) rfl ?_
                              refine G.v (rv_move rfl) rfl ?_
                              refine G.v (rv_lss rfl rfl) rfl ?_
                              refine G.done ?_
                              refine G.thenN ?_
                              refine G.cond rfl (fun hc => ?_) (fun hc => ?_)
                              · try exact Bool.noConfusion hc
                                all_goals
                                 try replace hc := of_decide_eq_true hc
                                 try simp only [List.length_map] at hc
                                 try (exfalso; omega)
                                 all_goals
                                  refine G.skip ?_
                                  refine G.thenN ?_
                                  refine G.seq ?_
                                  refine G.block ?_
                                  refine G.seq ?_
                                  refine G.drawL [] ?_
                                  refine GE.q 0 rfl (by as_aux_lemma => kernel_rfl) rfl (qg_runs (rv_move rfl)) rfl ?_
                                  refine GE.ol 1 (by as_aux_lemma => kernel_rfl) rfl rfl (og_runs (rv_move rfl)) rfl (fun _ _ h => by exact h) (fun _ _ => ?_)
                                  (refine GE.ol 2 (by as_aux_lemma => kernel_rfl) rfl rfl (og_runs (rv_indexH rfl rfl (by exact Rd.owned 0 rfl) rfl (by exact hek))) rfl (fun _ _ h => by exact h) (fun _ _ => ?_))
                                  refine GE.ol 3 (by as_aux_lemma => kernel_rfl) rfl rfl (og_runs (rv_loadE rfl (by exact Rd.owned 0 rfl) (by exact hek) rfl)) rfl (fun _ _ h => by exact h) (fun _ _ => ?_)
                                  refine GE.ol 4 (by as_aux_lemma => kernel_rfl) rfl rfl (og_runs (rv_eql rfl rfl)) rfl (fun _ _ h => by exact h) (fun _ _ => ?_)
                                  refine GE.ol 5 (by as_aux_lemma => kernel_rfl) rfl rfl (og_runs (rv_move rfl)) rfl (fun _ _ h => by exact h) (fun _ _ => ?_)
                                  all_goals (((with_reducible refine GE.part (t := 132) rfl (fun hg => ?_) (fun hg => ?_)) <;> (try exact Bool.noConfusion hg) <;> (try (exfalso; (have hq := of_decide_eq_true hg; omega); done)) <;> (refine GE.q 6 rfl (by as_aux_lemma => kernel_rfl) rfl (qg_runs (rv_move rfl)) rfl ?_)))
                                  all_goals ((refine GE.q 7 rfl (by as_aux_lemma => kernel_rfl) rfl (qg_runs (rv_move rfl)) rfl ?_))
                                  all_goals (((refine GE.q 8 rfl (by as_aux_lemma => kernel_rfl) rfl (qg_runs (rv_indexH rfl rfl (by exact Rd.owned 0 rfl) rfl (by exact hek))) rfl ?_)))
                                  all_goals ((refine GE.q 9 rfl (by as_aux_lemma => kernel_rfl) rfl (qg_runs (rv_loadE rfl (by exact Rd.owned 0 rfl) (by exact hek) rfl)) rfl ?_))
                                  all_goals (((refine GE.q 10 rfl (by as_aux_lemma => kernel_rfl) rfl (qg_runs (rv_field rfl)) rfl ?_)))
                                  all_goals (((refine GE.q 11 rfl (by as_aux_lemma => kernel_rfl) rfl (qg_runs (rv_load1 3 rfl rfl rfl)) rfl ?_)))
                                  all_goals ((refine GE.q 12 rfl (by as_aux_lemma => kernel_rfl) rfl (qg_runs (rv_gtr rfl rfl)) rfl ?_))
                                  all_goals ((refine GE.ol 13 (by as_aux_lemma => kernel_rfl) rfl rfl (og_runs (rv_pickF rfl rfl)) rfl (fun _ _ h => by exact h) (fun _ _ => ?_)))
                                  all_goals
                                   refine GE.done (by as_aux_lemma => kernel_rfl) ?_
                                   refine G.thenN ?_
                                   refine G.cond rfl (fun hc => ?_) (fun hc => ?_)
                                   · try exact Bool.noConfusion hc
                                     all_goals
                                      try replace hc := of_decide_eq_true hc
                                      try simp only [List.length_map] at hc
                                      try (exfalso; omega)
                                      all_goals
                                       refine G.seq ?_
                                       refine G.region ?_
                                       refine G.v (rv_assign rfl) rfl ?_
                                       refine G.done ?_
                                       refine G.thenN ?_
                                       refine G.ret ?_
                                       refine G.inR ?_
                                       refine G.thenR ?_
                                       refine G.thenR ?_
                                       refine G.inR ?_
                                       refine G.thenR ?_
                                       exact G.retFV rfl rfl rfl
                                   · try exact Bool.noConfusion hc
                                     all_goals
                                      try replace hc := of_decide_eq_false hc
                                      try simp only [List.length_map] at hc
                                      try (exfalso; contradiction)
                                      all_goals
                                       refine G.skip ?_
                                       refine G.inN ?_
                                       refine G.thenN ?_
                                       refine G.region ?_
                                       refine G.v (rv_move rfl) rfl ?_
                                       (refine G.v (rv_incr rfl rfl (by omega)) rfl ?_)
                                       refine G.v (rv_assign rfl) rfl ?_
                                       refine G.done ?_
                                       refine G.backK (k + 1) 0 rfl (.cons rfl (.cons rfl (.cons rfl (.cons rfl (.nil))))) ?_ ?_ ?_
                                       · exact ⟨rfl, trivial⟩
                                       · exact hlk
                                       · omega
                              · try exact Bool.noConfusion hc
                                all_goals
                                 try replace hc := of_decide_eq_false hc
                                 try simp only [List.length_map] at hc
                                 try (exfalso; omega)
                                 all_goals
                                  refine G.exit ?_
                                  refine G.thenX ?_
                                  refine G.thenX ?_
                                  refine G.inX ?_
                                  refine G.thenN ?_
                                  refine G.seq ?_
                                  refine G.region ?_
                                  refine G.v (rv_move rfl) rfl ?_
                                  refine G.v (rv_geq rfl rfl) rfl ?_
                                  refine G.v (rv_move rfl) rfl ?_
                                  all_goals (((with_reducible refine G.gP rfl rfl (fun hg => ?_) (fun hg => ?_)) <;> (try exact Bool.noConfusion hg) <;> (try (exfalso; (have hq := of_decide_eq_false hg; omega))) <;> (first | (refine G.gY rfl rfl ?_; refine G.v (rv_move rfl) rfl ?_) | refine G.gN rfl rfl rfl ?_)))
                                  all_goals ((first | (refine G.gY rfl rfl ?_; refine G.v (rv_len rfl (by exact Rd.owned 4 rfl)) rfl ?_) | refine G.gN rfl rfl rfl ?_))
                                  all_goals ((first | (refine G.gY rfl rfl ?_; refine G.v (rv_eql rfl rfl) rfl ?_) | refine G.gN rfl rfl rfl ?_))
                                  all_goals ((first | refine G.v (rv_pickT rfl rfl) rfl ?_ | refine G.v (rv_pickF rfl rfl) rfl ?_))
                                  all_goals (refine G.v (rv_assign rfl) rfl ?_)
                                  all_goals
                                   refine G.done ?_
                                   refine G.thenN ?_
                                   refine G.ret ?_
                                   first | exact G.retFV rfl rfl rfl | exact G.retFV rfl rfl (congrArg Value.bool (decide_eq_true (by (have hq9 := of_decide_eq_false hg; have hq8 := hn9 (by omega); omega))))
end Go.Proofs.Yticgeijklhlonaa
