/-
  Where boxes stand: the reference's way.
-/
import Derived.Test.YticgeijklhlonaaSpots
namespace Go.Proofs.Yticgeijklhlonaa
open Go.RowKit
attribute [local irreducible] Go.wpList Go.Code.wp Go.Exit.then Go.Exit.inBlock Go.bodyPost Go.Calls pE pB G RunsV FnV Fn FnM
set_option maxRecDepth 100000
set_option maxHeartbeats 4000000
theorem specSpotsOf_any (p : PalletM) {v : Value} {l : List BoxM} (w : World) (h : Rd w v 4 (l.map BoxM.cells)) (hb : l.length ≤ 1048576) :
    Fn Try.prog 68 [p.val, v] w (fun x : Value => x.oneCell' = true) (fun x => x) (fun x => [.row x 28 4 ((spotsM p l).map SpotM.cells)]) := by
  have hln : (l.map BoxM.cells).length = l.length := by simp
  refine Fn.of (n := 116) Try.func68 rfl rfl ?_
  refine G.seq ?_
  refine G.region ?_
  refine G.op (og_box rfl rfl) rfl (fun bk2 _ => ?_)
  refine G.v (rv_assign rfl) rfl ?_
  refine G.done ?_
  refine G.thenN ?_
  refine G.seq ?_
  refine G.region ?_
  refine G.v (rv_move rfl) rfl ?_
  refine G.v (rv_len rfl (by exact Rd.stays (by assumption))) rfl ?_
  refine G.op (og_make rfl rfl rfl rfl rfl (by simp; omega) (by simp; omega)) rfl (fun vm _ => ?_)
  refine G.v (rv_assign rfl) rfl ?_
  refine G.done ?_
  refine G.thenN ?_
  refine G.seq ?_
  refine G.seq ?_
  refine G.region ?_
  (refine G.v (rv_loadW 1 rfl rfl rfl) rfl ?_)
  refine G.v (rv_move rfl) rfl ?_
  refine G.op (og_callV rfl rfl (fun w hh => sboxesOk_any _ w (by exact Rd.stays (by assumption) _ hh))) rfl (fun _ _ => ?_)
  refine G.v (rv_not rfl) rfl ?_
  refine G.done ?_
  refine G.thenN ?_
  refine G.cond rfl (fun hc => ?_) (fun hc => ?_)
  · try exact Bool.noConfusion hc
    all_goals
     try replace hc := of_decide_eq_true hc
     try (exfalso; contradiction)
     all_goals
      refine G.seq ?_
      refine G.region ?_
      refine G.op (og_lit rfl .nil rfl rfl rfl rfl rfl rfl) rfl (fun vl _ => ?_)
      refine G.v (rv_assign rfl) rfl ?_
      refine G.done ?_
      refine G.thenN ?_
      refine G.ret ?_
      refine G.thenR ?_
      (refine G.know (fun w hw => (Rd.owned 0 rfl w hw).one_) (fun hone => G.retF vl hone rfl rfl rfl (fun w hw => by rw [spotsM, if_neg (by intro hq; rw [hq] at hc; exact Bool.noConfusion hc)]; exact hw.sublist (by repeat (first | exact List.Sublist.refl _ | refine List.Sublist.cons_cons _ ?_ | refine List.Sublist.cons _ ?_)))))
  · try exact Bool.noConfusion hc
    all_goals
     try replace hc := of_decide_eq_false hc
     try (exfalso; contradiction)
     all_goals
      refine G.skip ?_
      refine G.thenN ?_
      refine G.seq ?_
      refine G.region ?_
      (refine G.v (rv_loadW 1 rfl rfl rfl) rfl ?_)
      refine G.v (rv_move rfl) rfl ?_
      (refine G.op (og_callF2 rfl rfl (fun w hh => specShelves_any p w (by exact Rd.stays (by assumption) _ hh) (by omega))) rfl ?_; rintro ⟨vg, gs⟩ ⟨hvg, hgs⟩; try dsimp only)
      dsimp only at hgs hvg
      have hgl : gs.length = (shelvesM p l).length := by rw [← hgs, List.length_map]
      have hsl := shelves_len p l
      refine G.v (rv_assign rfl) rfl ?_
      refine G.done ?_
      refine G.thenN ?_
      refine G.seq ?_
      refine G.region ?_
      (refine G.v (rv_loadW 3 rfl rfl rfl) rfl ?_)
      refine G.v (rv_move rfl) rfl ?_
      (refine G.op (og_callF2 rfl rfl (fun w hh => specLayersOf_any p w (by exact Rd.owned 1 rfl _ hh) (by omega))) rfl ?_; rintro ⟨vy, ys⟩ ⟨hvy, hys⟩; try dsimp only)
      dsimp only at hys hvy
      rw [hgs] at hys
      have hyl : ys.length = (layersM p (shelvesM p l)).length := by rw [← hys, List.length_map]
      have hyl2 := layers_len p (shelvesM p l)
      refine G.v (rv_assign rfl) rfl ?_
      refine G.done ?_
      refine G.thenN ?_
      refine G.seq ?_
      refine G.region ?_
      (refine G.v (rv_loadW 5 rfl rfl rfl) rfl ?_)
      refine G.v (rv_move rfl) rfl ?_
      (refine G.op (og_callF2 rfl rfl (fun w hh => specLoadsOf_any p w (by exact Rd.owned 1 rfl _ hh) (by omega))) rfl ?_; rintro ⟨vj, js⟩ ⟨hvj, hjs⟩; try dsimp only)
      dsimp only at hjs hvj
      rw [hys] at hjs
      have hjl : js.length = (loadsM p (layersM p (shelvesM p l))).length := by rw [← hjs, List.length_map]
      have hjl2 := loads_len p (layersM p (shelvesM p l))
      have hjl3 : (js.map LoadM.cells).length = js.length := by simp
      refine G.v (rv_assign rfl) rfl ?_
      refine G.done ?_
      refine G.thenN ?_
      refine G.seq ?_
      refine G.seq ?_
      refine G.region ?_
      refine G.v (rv_assign rfl) rfl ?_
      refine G.done ?_
      refine G.thenN ?_
      refine G.block ?_
      -- loop 0: turned [9], kept [1, 5, 6, 7, 8]
      have hok : boxesOkM p l = true := by simpa using hc
      have hso := shelves_okL hok
      have hst := lay_stacks hso
      have hlf := lay_flat hso
      have hof := load_flat hst
      (refine G.frontR6 vm rfl ?_)
      refine G.rowEq ((List.replicate l.length (⟨0, 0, 0, 0⟩ : SpotM)).map SpotM.cells) (by simp [SpotM.cells]) rfl ?_
      refine G.loopK (ι := Nat × List SpotM) (ks := [1, 5, 6, 7, 8]) (fun x => [(9, .int .i64 (x.1 : Int))]) (fun x => [.row vm 28 4 (x.2.map SpotM.cells)]) (fun x => x.1 ≤ js.length ∧ x.2.length = l.length ∧ x.2 = ((loadsM p (layersM p (shelvesM p l))).zipIdx.take x.1).foldl (loadStep l (shelvesM p l) (layersM p (shelvesM p l))) (List.replicate l.length ⟨0, 0, 0, 0⟩)) (fun x => js.length - x.1) (0, List.replicate l.length ⟨0, 0, 0, 0⟩) (.cons rfl (.cons rfl (.cons rfl (.cons rfl (.cons rfl (.nil)))))) rfl ?_ ?_ ?_
      · exact ⟨Nat.zero_le _, by simp, rfl⟩
      · exact ⟨rfl, trivial⟩
      rintro ⟨q, out0⟩ ⟨hq0, hol0, hoe0⟩
      dsimp only at hq0 hol0 hoe0 ⊢
      by_cases hlt0 : q < js.length
      case' pos => (obtain ⟨t, hgt⟩ := get_of_lt hlt0; have het := get_map hgt LoadM.cells; have hg1 : (js.map (sub LoadM.l))[q]? = some (t.2, t.1.l.map icell) := get_mapS hgt; have hm1 : (loadsM p (layersM p (shelvesM p l)))[q]? = some t.1 := hjs ▸ fst_at hgt; have hz1 := zip_get hm1; have hlc1 : (t.1.l.map icell).length = t.1.l.length := (by simp); refine G.know (fun w hw => (Rd.grp 1 rfl (List.mem_of_getElem? hg1) w hw).le_map) (fun hbn1 => ?_))
      all_goals
       refine G.seq ?_
       refine G.seq ?_
       refine G.region ?_
       refine G.v (rv_move rfl) rfl ?_
       refine G.v (rv_move rfl) rfl ?_
       refine G.v (rv_len rfl (by exact Rd.owned 2 rfl)) rfl ?_
       refine G.v (rv_lss rfl rfl) rfl ?_
       refine G.done ?_
       refine G.thenN ?_
       refine G.cond rfl (fun hc => ?_) (fun hc => ?_)
       · try exact Bool.noConfusion hc
         all_goals
          try replace hc := of_decide_eq_true hc
          try (exfalso; omega)
          all_goals
           refine G.skip ?_
           refine G.thenN ?_
           refine G.seq ?_
           refine G.block ?_
           refine G.seq ?_
           refine G.region ?_
           refine G.v (rv_assign rfl) rfl ?_
           refine G.done ?_
           refine G.thenN ?_
           refine G.seq ?_
           refine G.region ?_
           refine G.v (rv_assign rfl) rfl ?_
           refine G.done ?_
           refine G.thenN ?_
           refine G.block ?_
           -- loop 1: turned [10, 11], kept [1, 5, 6, 7, 8, 9]
           (refine G.frontR0 vm rfl ?_)
           refine G.loopK (ι := Nat × List SpotM × Int) (ks := [1, 5, 6, 7, 8, 9]) (fun x => [(10, .int .i64 x.2.2), (11, .int .i64 (x.1 : Int))]) (fun x => [.row vm 28 4 (x.2.1.map SpotM.cells)]) (fun x => x.1 ≤ t.1.l.length ∧ x.2.1.length = l.length ∧ (x.2.1, x.2.2) = (t.1.l.take x.1).foldl (layerStep l (shelvesM p l) (layersM p (shelvesM p l)) (q : Int)) (out0, 0)) (fun x => t.1.l.length - x.1) (0, out0, 0) (.cons rfl (.cons rfl (.cons rfl (.cons rfl (.cons rfl (.cons rfl (.nil))))))) rfl ?_ ?_ ?_
           · exact ⟨Nat.zero_le _, hol0, rfl⟩
           · exact ⟨rfl, rfl, trivial⟩
           rintro ⟨j, out1, z⟩ ⟨hj0, hol1, hoe1⟩
           dsimp only at hj0 hol1 hoe1 ⊢
           by_cases hlt1 : j < t.1.l.length
           case' pos => (obtain ⟨xj, hxj⟩ := get_of_lt hlt1; have hej := get_map hxj icell; obtain ⟨hxe, hxb⟩ := off_at hof hm1 hxj; generalize hz9 : offM LoadM.l (loadsM p (layersM p (shelvesM p l))) q + j = j1 at hxe hxb; subst hxe; obtain ⟨yy, hgy⟩ := get_of_lt (l := ys) (k := j1) (by omega); have hey := get_map hgy LayerM.cells; have hg2 : (ys.map (sub LayerM.l))[j1]? = some (yy.2, yy.1.l.map icell) := get_mapS hgy; have hm2 : (layersM p (shelvesM p l))[j1]? = some yy.1 := hys ▸ fst_at hgy; have hya := lyAt_get hm2; have hlc2 : (yy.1.l.map icell).length = yy.1.l.length := (by simp); have hfs1 := foldl_take_succ hxj (layerStep l (shelvesM p l) (layersM p (shelvesM p l)) (q : Int)) (out0, 0); rw [← hoe1] at hfs1; (refine G.know (fun w hw => (Rd.grp 3 rfl (List.mem_of_getElem? hg2) w hw).one_) (fun hov2 => ?_)); refine G.know (fun w hw => (Rd.grp 3 rfl (List.mem_of_getElem? hg2) w hw).le_map) (fun hbn2 => ?_))
           all_goals
            refine G.seq ?_
            refine G.seq ?_
            refine G.region ?_
            refine G.v (rv_move rfl) rfl ?_
            refine G.v (rv_move rfl) rfl ?_
            refine G.v (rv_move rfl) rfl ?_
            (refine G.v (rv_indexH rfl rfl (by exact Rd.owned 2 rfl) rfl (by exact het)) rfl ?_)
            (refine G.v (rv_fieldE rfl) rfl ?_)
            refine G.v (rv_loadE rfl (by exact Rd.owned 2 rfl) (by exact het) rfl) rfl ?_
            refine G.v (rv_len rfl (by exact Rd.grp 1 rfl (List.mem_of_getElem? hg1))) rfl ?_
            refine G.v (rv_lss rfl rfl) rfl ?_
            refine G.done ?_
            refine G.thenN ?_
            refine G.cond rfl (fun hc => ?_) (fun hc => ?_)
            · try exact Bool.noConfusion hc
              all_goals
               try replace hc := of_decide_eq_true hc
               try (exfalso; omega)
               all_goals
                refine G.skip ?_
                refine G.thenN ?_
                refine G.seq ?_
                refine G.block ?_
                refine G.seq ?_
                refine G.region ?_
                refine G.v (rv_move rfl) rfl ?_
                refine G.v (rv_move rfl) rfl ?_
                refine G.v (rv_move rfl) rfl ?_
                (refine G.v (rv_indexH rfl rfl (by exact Rd.owned 2 rfl) rfl (by exact het)) rfl ?_)
                (refine G.v (rv_fieldE rfl) rfl ?_)
                refine G.v (rv_loadE rfl (by exact Rd.owned 2 rfl) (by exact het) rfl) rfl ?_
                refine G.v (rv_move rfl) rfl ?_
                (refine G.v (rv_indexH rfl rfl (by exact Rd.grp 1 rfl (List.mem_of_getElem? hg1)) rfl (by exact hej)) rfl ?_)
                refine G.v (rv_loadE rfl (by exact Rd.grp 1 rfl (List.mem_of_getElem? hg1)) (by exact hej) rfl) rfl ?_
                (refine G.v (rv_indexH rfl rfl (by exact Rd.owned 4 rfl) rfl (by exact hey)) rfl ?_)
                (refine G.v (rv_loadEW rfl (by exact Rd.owned 4 rfl) (by exact hey) rfl) rfl ?_)
                refine G.op (og_alloc) rfl (fun bk12 _ => ?_)
                (refine G.op0 (og_st0 rfl rfl rfl rfl rfl (by repeat (first | rfl | refine one_cons (by assumption) ?_)) (.zero (.cons (.cons (.cons (.cons .nil)))))) (fun _ _ => ?_))
                refine G.done ?_
                refine G.thenN ?_
                refine G.seq ?_
                refine G.region ?_
                refine G.v (rv_assign rfl) rfl ?_
                refine G.done ?_
                refine G.thenN ?_
                refine G.seq ?_
                refine G.seq ?_
                refine G.region ?_
                refine G.v (rv_assign rfl) rfl ?_
                refine G.done ?_
                refine G.thenN ?_
                refine G.block ?_
                -- loop 2: turned [13, 14], kept [1, 5, 6, 7, 8, 9, 10, 11, 12]
                (refine G.frontR1 vm rfl ?_)
                refine G.loopK (ι := Nat × List SpotM × Int) (ks := [1, 5, 6, 7, 8, 9, 10, 11, 12]) (fun x => [(13, .int .i64 x.2.2), (14, .int .i64 (x.1 : Int))]) (fun x => [.row vm 28 4 (x.2.1.map SpotM.cells)]) (fun x => x.1 ≤ yy.1.l.length ∧ x.2.1.length = l.length ∧ (x.2.1, x.2.2) = (yy.1.l.take x.1).foldl (shelfStep l (shelvesM p l) (q : Int) z) (out1, 0)) (fun x => yy.1.l.length - x.1) (0, out1, 0) (.cons rfl (.cons rfl (.cons rfl (.cons rfl (.cons rfl (.cons rfl (.cons rfl (.cons rfl (.cons rfl (.nil)))))))))) rfl ?_ ?_ ?_
                · exact ⟨Nat.zero_le _, hol1, rfl⟩
                · exact ⟨rfl, rfl, trivial⟩
                rintro ⟨k, out2, y⟩ ⟨hk0, hol2, hoe2⟩
                dsimp only at hk0 hol2 hoe2 ⊢
                by_cases hlt2 : k < yy.1.l.length
                case' pos => (obtain ⟨xk, hxk⟩ := get_of_lt hlt2; have hek := get_map hxk icell; obtain ⟨hxe, hxb⟩ := off_at hlf hm2 hxk; generalize hz8 : offM LayerM.l (layersM p (shelvesM p l)) j1 + k = k1 at hxe hxb; subst hxe; obtain ⟨sh, hgs2⟩ := get_of_lt (l := gs) (k := k1) (by omega); have hes := get_map hgs2 ShelfM.cells; have hg3 : (gs.map (sub ShelfM.l))[k1]? = some (sh.2, sh.1.l.map icell) := get_mapS hgs2; have hm3 : (shelvesM p l)[k1]? = some sh.1 := hgs ▸ fst_at hgs2; have hsa := shAt_get hm3; have hlc3 : (sh.1.l.map icell).length = sh.1.l.length := (by simp); have hsk := shelf_ok hok sh.1 (List.mem_of_getElem? hm3); have hfs2 := foldl_take_succ hxk (shelfStep l (shelvesM p l) (q : Int) z) (out1, 0); rw [← hoe2] at hfs2; (refine G.know (fun w hw => (Rd.grp 6 rfl (List.mem_of_getElem? hg3) w hw).one_) (fun hov3 => ?_)); refine G.know (fun w hw => (Rd.grp 6 rfl (List.mem_of_getElem? hg3) w hw).le_map) (fun hbn3 => ?_))
                all_goals
                 refine G.seq ?_
                 refine G.seq ?_
                 refine G.region ?_
                 refine G.v (rv_move rfl) rfl ?_
                 (refine G.v (rv_field rfl) rfl ?_)
                 (refine G.v (rv_load1 1 rfl rfl rfl) rfl ?_)
                 refine G.v (rv_len rfl (by exact Rd.grp 4 rfl (List.mem_of_getElem? hg2))) rfl ?_
                 refine G.v (rv_lss rfl rfl) rfl ?_
                 refine G.done ?_
                 refine G.thenN ?_
                 refine G.cond rfl (fun hc => ?_) (fun hc => ?_)
                 · try exact Bool.noConfusion hc
                   all_goals
                    try replace hc := of_decide_eq_true hc
                    try (exfalso; omega)
                    all_goals
                     refine G.skip ?_
                     refine G.thenN ?_
                     refine G.seq ?_
                     refine G.block ?_
                     refine G.seq ?_
                     refine G.region ?_
                     refine G.v (rv_move rfl) rfl ?_
                     (refine G.v (rv_field rfl) rfl ?_)
                     (refine G.v (rv_load1 1 rfl rfl rfl) rfl ?_)
                     refine G.v (rv_move rfl) rfl ?_
                     (refine G.v (rv_indexH rfl rfl (by exact Rd.grp 4 rfl (List.mem_of_getElem? hg2)) rfl (by exact hek)) rfl ?_)
                     refine G.v (rv_loadE rfl (by exact Rd.grp 4 rfl (List.mem_of_getElem? hg2)) (by exact hek) rfl) rfl ?_
                     (refine G.v (rv_indexH rfl rfl (by exact Rd.owned 7 rfl) rfl (by exact hes)) rfl ?_)
                     (refine G.v (rv_loadEW rfl (by exact Rd.owned 7 rfl) (by exact hes) rfl) rfl ?_)
                     refine G.op (og_alloc) rfl (fun bk15 _ => ?_)
                     (refine G.op0 (og_st0 rfl rfl rfl rfl rfl (by repeat (first | rfl | refine one_cons (by assumption) ?_)) (.zero (.cons (.cons (.cons (.cons (.cons .nil))))))) (fun _ _ => ?_))
                     refine G.done ?_
                     refine G.thenN ?_
                     refine G.seq ?_
                     refine G.region ?_
                     refine G.v (rv_assign rfl) rfl ?_
                     refine G.done ?_
                     refine G.thenN ?_
                     refine G.seq ?_
                     refine G.seq ?_
                     refine G.region ?_
                     refine G.v (rv_assign rfl) rfl ?_
                     refine G.done ?_
                     refine G.thenN ?_
                     refine G.block ?_
                     -- loop 3: turned [16, 17], kept [1, 5, 6, 7, 8, 9, 10, 11, 12, 13, 14, 15]
                     (refine G.frontR1 vm rfl ?_)
                     refine G.loopK (ι := Nat × List SpotM × Int) (ks := [1, 5, 6, 7, 8, 9, 10, 11, 12, 13, 14, 15]) (fun x => [(16, .int .i64 x.2.2), (17, .int .i64 (x.1 : Int))]) (fun x => [.row vm 28 4 (x.2.1.map SpotM.cells)]) (fun x => x.1 ≤ sh.1.l.length ∧ x.2.1.length = l.length ∧ (x.2.1, x.2.2) = (sh.1.l.take x.1).foldl (boxStep l (q : Int) y z) (out2, 0)) (fun x => sh.1.l.length - x.1) (0, out2, 0) (.cons rfl (.cons rfl (.cons rfl (.cons rfl (.cons rfl (.cons rfl (.cons rfl (.cons rfl (.cons rfl (.cons rfl (.cons rfl (.cons rfl (.nil))))))))))))) rfl ?_ ?_ ?_
                     · exact ⟨Nat.zero_le _, hol2, rfl⟩
                     · exact ⟨rfl, rfl, trivial⟩
                     rintro ⟨m, out3, x⟩ ⟨hm0, hol3, hoe3⟩
                     dsimp only at hm0 hol3 hoe3 ⊢
                     by_cases hlt3 : m < sh.1.l.length
                     case' pos => (obtain ⟨xm, hxm⟩ := get_of_lt hlt3; have hem := get_map hxm icell; obtain ⟨b1, hbe, hbl, _, _⟩ := hsk.at_ xm (List.mem_of_getElem? hxm); subst hbe; obtain ⟨b, hb2⟩ := get_of_lt hbl; have heb := get_map hb2 BoxM.cells; have hba := boxAt_get hb2; obtain ⟨s0, hs0⟩ := get_of_lt (l := out3) (k := b1) (by omega); have heo := get_map hs0 SpotM.cells; have hfs3 := foldl_take_succ hxm (boxStep l (q : Int) y z) (out2, 0); rw [← hoe3] at hfs3)
                     all_goals
                      refine G.seq ?_
                      refine G.seq ?_
                      refine G.region ?_
                      refine G.v (rv_move rfl) rfl ?_
                      (refine G.v (rv_field rfl) rfl ?_)
                      (refine G.v (rv_load1 1 rfl rfl rfl) rfl ?_)
                      refine G.v (rv_len rfl (by exact Rd.grp 7 rfl (List.mem_of_getElem? hg3))) rfl ?_
                      refine G.v (rv_lss rfl rfl) rfl ?_
                      refine G.done ?_
                      refine G.thenN ?_
                      refine G.cond rfl (fun hc => ?_) (fun hc => ?_)
                      · try exact Bool.noConfusion hc
                        all_goals
                         try replace hc := of_decide_eq_true hc
                         try (exfalso; omega)
                         all_goals
                          refine G.skip ?_
                          refine G.thenN ?_
                          refine G.seq ?_
                          refine G.block ?_
                          refine G.seq ?_
                          refine G.region ?_
                          refine G.v (rv_move rfl) rfl ?_
                          (refine G.v (rv_field rfl) rfl ?_)
                          (refine G.v (rv_load1 1 rfl rfl rfl) rfl ?_)
                          refine G.v (rv_move rfl) rfl ?_
                          (refine G.v (rv_indexH rfl rfl (by exact Rd.grp 7 rfl (List.mem_of_getElem? hg3)) rfl (by exact hem)) rfl ?_)
                          refine G.v (rv_loadE rfl (by exact Rd.grp 7 rfl (List.mem_of_getElem? hg3)) (by exact hem) rfl) rfl ?_
                          refine G.v (rv_move rfl) rfl ?_
                          refine G.v (rv_move rfl) rfl ?_
                          refine G.v (rv_move rfl) rfl ?_
                          refine G.v (rv_move rfl) rfl ?_
                          refine G.v (rv_build2 rfl (.cons rfl (.cons rfl (.cons rfl (.cons rfl .nil)))) (.cons rfl rfl (.zero (.cons .nil)) (.cons rfl rfl (.succ (.zero (.cons .nil))) (.cons rfl rfl (.succ (.succ (.zero (.cons .nil)))) (.cons rfl rfl (.succ (.succ (.succ (.zero (.cons .nil))))) .nil))))) rfl ?_
                          (refine G.v (rv_indexH rfl rfl (by exact Rd.owned 0 rfl) rfl (by exact heo)) rfl ?_)
                          (refine G.op0 (og_stE0 rfl rfl rfl (by exact heo) rfl rfl rfl rfl (.zero (.cons (.cons (.cons (.cons .nil)))))) (fun _ _ => ?_))
                          refine G.done ?_
                          refine G.thenN ?_
                          refine G.region ?_
                          refine G.v (rv_move rfl) rfl ?_
                          refine G.v (rv_move rfl) rfl ?_
                          (refine G.v (rv_field rfl) rfl ?_)
                          (refine G.v (rv_load1 1 rfl rfl rfl) rfl ?_)
                          refine G.v (rv_move rfl) rfl ?_
                          (refine G.v (rv_indexH rfl rfl (by exact Rd.grp 7 rfl (List.mem_of_getElem? hg3)) rfl (by exact hem)) rfl ?_)
                          refine G.v (rv_loadE rfl (by exact Rd.grp 7 rfl (List.mem_of_getElem? hg3)) (by exact hem) rfl) rfl ?_
                          (refine G.v (rv_indexH rfl rfl (by exact Rd.stays (by assumption)) rfl (by exact heb)) rfl ?_)
                          (refine G.v (rv_fieldE rfl) rfl ?_)
                          refine G.v (rv_loadE rfl (by exact Rd.stays (by assumption)) (by exact heb) rfl) rfl ?_
                          refine G.v (rv_add rfl rfl) rfl ?_
                          refine G.v (rv_assign rfl) rfl ?_
                          refine G.done ?_
                          refine G.inN ?_
                          refine G.thenN ?_
                          refine G.region ?_
                          refine G.v (rv_move rfl) rfl ?_
                          refine G.v (rv_incr rfl rfl (by omega)) rfl ?_
                          refine G.v (rv_assign rfl) rfl ?_
                          refine G.done ?_
                          refine G.backK (m + 1, out3.set b1 ⟨(q : Int), x, y, z⟩, IntKind.i64.wrap (x + b.w)) 0 (one_eq (congrArg (fun z => Ch.row vm 28 4 z) set_cellsP)) (.cons rfl (.cons rfl (.cons rfl (.cons rfl (.cons rfl (.cons rfl (.cons rfl (.cons rfl (.cons rfl (.cons rfl (.cons rfl (.cons rfl (.nil))))))))))))) ?_ ?_ ?_
                          · exact ⟨rfl, rfl, trivial⟩
                          · exact ⟨hlt3, by simp [hol3], by rw [hfs3]; simp [boxStep, hba]⟩
                          · dsimp only; omega
                      · try exact Bool.noConfusion hc
                        all_goals
                         try replace hc := of_decide_eq_false hc
                         try (exfalso; omega)
                         all_goals
                          refine G.exit ?_
                          refine G.thenX ?_
                          refine G.thenX ?_
                          refine G.inX ?_
                          refine G.thenN ?_
                          refine G.region ?_
                          refine G.v (rv_move rfl) rfl ?_
                          (refine G.v (rv_field rfl) rfl ?_)
                          (refine G.v (rv_load1 1 rfl rfl rfl) rfl ?_)
                          refine G.v (rv_add rfl rfl) rfl ?_
                          refine G.v (rv_assign rfl) rfl ?_
                          refine G.done ?_
                          refine G.inN ?_
                          refine G.thenN ?_
                          refine G.region ?_
                          refine G.v (rv_move rfl) rfl ?_
                          refine G.v (rv_incr rfl rfl (by omega)) rfl ?_
                          refine G.v (rv_assign rfl) rfl ?_
                          refine G.done ?_
                          (refine G.keep1 1 rfl ?_; refine G.backK (k + 1, out3, IntKind.i64.wrap (y + sh.1.d)) 0 rfl (.cons rfl (.cons rfl (.cons rfl (.cons rfl (.cons rfl (.cons rfl (.cons rfl (.cons rfl (.cons rfl (.nil)))))))))) ?_ ?_ ?_)
                          · exact ⟨rfl, rfl, trivial⟩
                          · exact ⟨hlt2, hol3, by rw [List.take_of_length_le (by omega)] at hoe3; rw [hfs2]; simp only [shelfStep, hsa, ← hoe3]⟩
                          · dsimp only; omega
                 · try exact Bool.noConfusion hc
                   all_goals
                    try replace hc := of_decide_eq_false hc
                    try (exfalso; omega)
                    all_goals
                     refine G.exit ?_
                     refine G.thenX ?_
                     refine G.thenX ?_
                     refine G.inX ?_
                     refine G.thenN ?_
                     refine G.region ?_
                     refine G.v (rv_move rfl) rfl ?_
                     (refine G.v (rv_field rfl) rfl ?_)
                     (refine G.v (rv_load1 1 rfl rfl rfl) rfl ?_)
                     refine G.v (rv_add rfl rfl) rfl ?_
                     refine G.v (rv_assign rfl) rfl ?_
                     refine G.done ?_
                     refine G.inN ?_
                     refine G.thenN ?_
                     refine G.region ?_
                     refine G.v (rv_move rfl) rfl ?_
                     refine G.v (rv_incr rfl rfl (by omega)) rfl ?_
                     refine G.v (rv_assign rfl) rfl ?_
                     refine G.done ?_
                     (refine G.keep1 1 rfl ?_; refine G.backK (j + 1, out2, IntKind.i64.wrap (z + yy.1.h)) 0 rfl (.cons rfl (.cons rfl (.cons rfl (.cons rfl (.cons rfl (.cons rfl (.nil))))))) ?_ ?_ ?_)
                     · exact ⟨rfl, rfl, trivial⟩
                     · exact ⟨hlt1, hol2, by rw [List.take_of_length_le (by omega)] at hoe2; rw [hfs1]; simp only [layerStep, hya, ← hoe2]⟩
                     · dsimp only; omega
            · try exact Bool.noConfusion hc
              all_goals
               try replace hc := of_decide_eq_false hc
               try (exfalso; omega)
               all_goals
                refine G.exit ?_
                refine G.thenX ?_
                refine G.thenX ?_
                refine G.inX ?_
                refine G.inN ?_
                refine G.thenN ?_
                refine G.region ?_
                refine G.v (rv_move rfl) rfl ?_
                refine G.v (rv_incr rfl rfl (by omega)) rfl ?_
                refine G.v (rv_assign rfl) rfl ?_
                refine G.done ?_
                (refine G.keep1 0 rfl ?_; refine G.backK (q + 1, out1) 0 rfl (.cons rfl (.cons rfl (.cons rfl (.cons rfl (.cons rfl (.nil)))))) ?_ ?_ ?_)
                · exact ⟨rfl, trivial⟩
                · exact ⟨hlt0, hol1, by rw [List.take_of_length_le (by omega)] at hoe1; rw [foldl_take_succ hz1, ← hoe0]; simp only [loadStep, ← hoe1]⟩
                · dsimp only; omega
       · try exact Bool.noConfusion hc
         all_goals
          try replace hc := of_decide_eq_false hc
          try (exfalso; omega)
          all_goals
           refine G.exit ?_
           refine G.thenX ?_
           refine G.thenX ?_
           refine G.inX ?_
           refine G.thenN ?_
           refine G.seq ?_
           refine G.region ?_
           refine G.v (rv_move rfl) rfl ?_
           refine G.v (rv_assign rfl) rfl ?_
           refine G.done ?_
           refine G.thenN ?_
           refine G.ret ?_
           (refine G.know (fun w hw => (Rd.owned 0 rfl w hw).one_) (fun hone => G.retF vm hone rfl rfl rfl (fun w hw => by rw [List.take_of_length_le (by simp; omega)] at hoe0; rw [spotsM, if_pos hok, ← hoe0]; exact hw.sublist (by repeat (first | exact List.Sublist.refl _ | refine List.Sublist.cons_cons _ ?_ | refine List.Sublist.cons _ ?_)))); done)
end Go.Proofs.Yticgeijklhlonaa
