/-
  The laws on shelves.
-/
import Derived.Test.YticgeijklhlonaaShelfLaw
import Derived.Test.YticgeijklhlonaaDraws2
namespace Go.Proofs.Yticgeijklhlonaa
open Go.RowKit
attribute [local irreducible] Go.wpList Go.Code.wp Go.Exit.then Go.Exit.inBlock Go.bodyPost Go.Calls pE pB G RunsV FnV Fn FnM
set_option maxRecDepth 100000
set_option maxHeartbeats 4000000
theorem times_any {v : Value} {l : List Int} (x : Int) (w : World) (h : Rd w v 1 (l.map icell)) (hb : l.length ≤ 1048576) : FnV Try.prog 58 [v, .int .i64 x] w (.int .i64 (l.count x : Int)) := by
  have hln : (l.map icell).length = l.length := by simp
  refine FnV.of (n := 22) Try.func58 rfl rfl ?_
  refine G.seq ?_
  refine G.region ?_
  refine G.v (rv_assign rfl) rfl ?_
  refine G.done ?_
  refine G.thenN ?_
  refine G.seq ?_
  refine G.region ?_
  refine G.v (rv_assign rfl) rfl ?_
  refine G.done ?_
  refine G.thenN ?_
  refine G.seq ?_
  refine G.seq ?_
  refine G.region ?_
  refine G.v (rv_assign rfl) rfl ?_
  refine G.done ?_
  refine G.thenN ?_
  refine G.block ?_
  -- loop 0: turned [5, 6], kept [0, 1]
  refine G.loopK (ι := Nat) (ks := [0, 1]) (fun k => [(5, .int .i64 ((l.take k).count x : Int)), (6, .int .i64 (k : Int))]) (fun _ => []) (fun k => k ≤ l.length) (fun k => l.length - k) 0 (.cons rfl (.cons rfl (.nil))) rfl ?_ ?_ ?_
  · exact Nat.zero_le _
  · exact ⟨rfl, rfl, trivial⟩
  rintro k hk
  have hcl : (l.take k).count x ≤ k := Nat.le_trans List.count_le_length (by rw [List.length_take]; omega)
  by_cases hlt : k < l.length
  case' pos => (obtain ⟨y, hy⟩ := get_of_lt hlt; have he := get_map hy icell; have hct : (l.take (k + 1)).count x = (l.take k).count x + if y = x then 1 else 0 := (by rw [List.take_add_one, hy]; simp [List.count_append, List.count_cons]))
  all_goals
   refine G.seq ?_
   refine G.seq ?_
   refine G.region ?_
   refine G.v (rv_move rfl) rfl ?_
   refine G.v (rv_move rfl) rfl ?_
   refine G.v (rv_len rfl (by exact Rd.stays (by assumption))) rfl ?_
   refine G.v (rv_lss rfl rfl) rfl ?_
   refine G.done ?_
   refine G.thenN ?_
   refine G.cond rfl (fun hc => ?_) (fun hc => ?_)
   · try exact Bool.noConfusion hc
     all_goals
      try replace hc := of_decide_eq_true hc
      try (exfalso; omega)
      all_goals
       refine G.skip ?_
       refine G.thenN ?_
       refine G.seq ?_
       refine G.block ?_
       refine G.seq ?_
       refine G.region ?_
       refine G.v (rv_move rfl) rfl ?_
       refine G.v (rv_move rfl) rfl ?_
       (refine G.v (rv_indexH rfl rfl (by exact Rd.stays (by assumption)) rfl (by assumption)) rfl ?_)
       refine G.v (rv_loadE rfl (by exact Rd.stays (by assumption)) (by assumption) rfl) rfl ?_
       refine G.v (rv_move rfl) rfl ?_
       refine G.v (rv_eql rfl rfl) rfl ?_
       refine G.done ?_
       refine G.thenN ?_
       refine G.cond rfl (fun hc => ?_) (fun hc => ?_)
       · try exact Bool.noConfusion hc
         all_goals
          try replace hc := of_decide_eq_true hc
          try (exfalso; contradiction)
          all_goals
           refine G.region ?_
           refine G.v (rv_move rfl) rfl ?_
           (refine G.v (rv_incr rfl rfl (by omega)) rfl ?_)
           refine G.v (rv_assign rfl) rfl ?_
           refine G.done ?_
           refine G.inN ?_
           refine G.thenN ?_
           refine G.region ?_
           refine G.v (rv_move rfl) rfl ?_
           (refine G.v (rv_incr rfl rfl (by omega)) rfl ?_)
           refine G.v (rv_assign rfl) rfl ?_
           refine G.done ?_
           refine G.backK (k + 1) 0 rfl (.cons rfl (.cons rfl (.nil))) ?_ ?_ ?_
           · exact ⟨congrArg (fun z => some (Value.int .i64 z)) (by simp [hct, hc]), rfl, trivial⟩
           · exact hlt
           · omega
       · try exact Bool.noConfusion hc
         all_goals
          try replace hc := of_decide_eq_false hc
          try (exfalso; contradiction)
          all_goals
           refine G.skip ?_
           refine G.inN ?_
           refine G.thenN ?_
           refine G.region ?_
           refine G.v (rv_move rfl) rfl ?_
           (refine G.v (rv_incr rfl rfl (by omega)) rfl ?_)
           refine G.v (rv_assign rfl) rfl ?_
           refine G.done ?_
           refine G.backK (k + 1) 0 rfl (.cons rfl (.cons rfl (.nil))) ?_ ?_ ?_
           · exact ⟨congrArg (fun z => some (Value.int .i64 z)) (by simp [hct, hc]), rfl, trivial⟩
           · exact hlt
           · omega
   · try exact Bool.noConfusion hc
     all_goals
      try replace hc := of_decide_eq_false hc
      try (exfalso; omega)
      all_goals
       refine G.exit ?_
       refine G.thenX ?_
       refine G.thenX ?_
       refine G.inX ?_
       refine G.thenN ?_
       refine G.seq ?_
       refine G.region ?_
       refine G.v (rv_move rfl) rfl ?_
       refine G.v (rv_assign rfl) rfl ?_
       refine G.done ?_
       refine G.thenN ?_
       refine G.ret ?_
       exact G.retFV rfl rfl (congrArg (Value.int .i64) (by rw [List.take_of_length_le (by omega)]))
theorem flat_snoc {m : List ShelfM} {i : Nat} {t : ShelfM} (h : m[i]? = some t) : ((m.take (i + 1)).map ShelfM.l).flatten = ((m.take i).map ShelfM.l).flatten ++ t.l := by
  rw [List.take_add_one, h]; simp
theorem flat_len {m : List ShelfM} (i : Nat) : ((m.take i).map ShelfM.l).flatten.length ≤ (m.map ShelfM.l).flatten.length := by
  have e : (m.map ShelfM.l).flatten = ((m.take i).map ShelfM.l).flatten ++ ((m.drop i).map ShelfM.l).flatten := by
    rw [← List.flatten_append, ← List.map_append, List.take_append_drop]
  rw [e, List.length_append]; omega
theorem fnShelves_any {v : Value} {l : List Int} {w : World} (h : Rd w v 1 (l.map bcell)) : FnV Try.prog 11 [v] w (.bool true) := by
  refine FnV.of (n := 178) Try.func11 rfl rfl ?_
  refine G.seq ?_
  refine G.region ?_
  refine G.v (rv_assign rfl) rfl ?_
  refine G.done ?_
  refine G.thenN ?_
  refine G.seq ?_
  refine G.seq ?_
  refine G.region ?_
  refine G.v (rv_move rfl) rfl ?_
  refine G.op (og_callV rfl rfl (fun w hh => big_any w (by exact Rd.stays (by assumption) _ hh))) rfl (fun _ _ => ?_)
  refine G.done ?_
  refine G.thenN ?_
  refine G.cond rfl (fun hc => ?_) (fun hc => ?_)
  · try exact Bool.noConfusion hc
    all_goals
     try replace hc := of_decide_eq_true hc
     try simp only [List.length_map] at hc
     try (exfalso; contradiction)
     all_goals
      refine G.seq ?_
      refine G.region ?_
      refine G.v (rv_assign rfl) rfl ?_
      refine G.done ?_
      refine G.thenN ?_
      refine G.ret ?_
      refine G.thenR ?_
      exact G.retFV rfl rfl rfl
  · try exact Bool.noConfusion hc
    all_goals
     try replace hc := of_decide_eq_false hc
     try simp only [List.length_map] at hc
     try (exfalso; contradiction)
     all_goals
      refine G.skip ?_
      refine G.thenN ?_
      refine G.seq ?_
      refine G.region ?_
      refine G.v (rv_move rfl) rfl ?_
      (refine G.op (og_callF1 rfl rfl (fun w hh => drawShelves_any w (by exact Rd.stays (by assumption) _ hh))) rfl ?_; rintro ⟨p, vb, bs⟩ ⟨hvb, hbs⟩; try dsimp only)
      dsimp only at hbs hvb
      have hbl : (bs.map BoxM.cells).length = bs.length := by simp
      refine G.v (rv_move rfl) rfl ?_
      refine G.v (rv_extract rfl rfl) rfl ?_
      refine G.v (rv_extract rfl rfl) rfl ?_
      refine G.op (og_alloc) rfl (fun bk3 _ => ?_)
      (refine G.op0 (og_st0 rfl rfl rfl rfl rfl rfl (.zero (.cons (.cons (.cons (.cons .nil)))))) (fun _ _ => ?_))
      refine G.v (rv_assign rfl) rfl ?_
      refine G.done ?_
      refine G.thenN ?_
      refine G.seq ?_
      refine G.region ?_
      (refine G.v (rv_loadW 0 rfl rfl rfl) rfl ?_)
      refine G.v (rv_move rfl) rfl ?_
      (refine G.op (og_callF2 rfl rfl (fun w hh => implShelves_any p w (by exact Rd.owned 1 rfl _ hh) (by omega))) rfl ?_; rintro ⟨vg, gs⟩ ⟨hvg, hgs⟩; try dsimp only)
      dsimp only at hgs hvg
      have hgl : gs.length = (shelvesM p bs).length := by rw [← hgs, List.length_map]
      have hgl2 : (gs.map ShelfM.cells).length = gs.length := by simp
      have hsl := shelves_len p bs
      refine G.v (rv_assign rfl) rfl ?_
      refine G.done ?_
      refine G.thenN ?_
      refine G.seq ?_
      refine G.seq ?_
      refine G.region ?_
      refine G.v (rv_move rfl) rfl ?_
      refine G.v (rv_len rfl (by exact Rd.owned 1 rfl)) rfl ?_
      (refine G.v (rv_loadW 2 rfl rfl rfl) rfl ?_)
      refine G.v (rv_move rfl) rfl ?_
      (refine G.op (og_callF2 rfl rfl (fun w hh => specShelves_any p w (by exact Rd.owned 3 rfl _ hh) (by omega))) rfl ?_; rintro ⟨vo, os⟩ ⟨hvo, hos⟩; try dsimp only)
      dsimp only at hos hvo
      have hol : os.length = (shelvesM p bs).length := by rw [← hos, List.length_map]
      refine G.v (rv_len rfl (by exact Rd.owned 1 rfl)) rfl ?_
      refine G.v (rv_neq rfl rfl) rfl ?_
      refine G.done ?_
      refine G.thenN ?_
      refine G.cond rfl (fun hc => ?_) (fun hc => ?_)
      · try exact Bool.noConfusion hc
        all_goals
         try replace hc := of_decide_eq_true hc
         try simp only [List.length_map] at hc
         try (exfalso; omega)
         all_goals
          refine G.seq ?_
          refine G.region ?_
          refine G.v (rv_assign rfl) rfl ?_
          refine G.done ?_
          refine G.thenN ?_
          refine G.ret ?_
          refine G.thenR ?_
          exact G.retFV rfl rfl rfl
      · try exact Bool.noConfusion hc
        all_goals
         try replace hc := of_decide_eq_false hc
         try simp only [List.length_map] at hc
         try (exfalso; contradiction)
         all_goals
          refine G.skip ?_
          refine G.thenN ?_
          refine G.seq ?_
          refine G.seq ?_
          refine G.region ?_
          (refine G.v (rv_loadW 4 rfl rfl rfl) rfl ?_)
          refine G.v (rv_move rfl) rfl ?_
          refine G.op (og_callV rfl rfl (fun w hh => sboxesOk_any _ w (by exact Rd.owned 5 rfl _ hh))) rfl (fun _ _ => ?_)
          refine G.v (rv_not rfl) rfl ?_
          refine G.done ?_
          refine G.thenN ?_
          refine G.cond rfl (fun hc => ?_) (fun hc => ?_)
          · try exact Bool.noConfusion hc
            all_goals
             try replace hc := of_decide_eq_true hc
             try simp only [List.length_map] at hc
             try (exfalso; contradiction)
             all_goals
              refine G.seq ?_
              refine G.region ?_
              refine G.v (rv_move rfl) rfl ?_
              refine G.v (rv_len rfl (by exact Rd.owned 3 rfl)) rfl ?_
              refine G.v (rv_eql rfl rfl) rfl ?_
              refine G.v (rv_assign rfl) rfl ?_
              refine G.done ?_
              refine G.thenN ?_
              refine G.ret ?_
              refine G.thenR ?_
              (exact G.retFV rfl rfl (congrArg Value.bool (decide_eq_true (by (have hn0 : shelvesM p bs = [] := shelf_no (by simpa using hc); rw [hn0, List.length_nil] at hgl; omega)))))
          · try exact Bool.noConfusion hc
            all_goals
             try replace hc := of_decide_eq_false hc
             try simp only [List.length_map] at hc
             try (exfalso; contradiction)
             all_goals
              refine G.skip ?_
              refine G.thenN ?_
              refine G.seq ?_
              refine G.region ?_
              refine G.op (og_lit rfl .nil rfl rfl rfl rfl rfl rfl) rfl (fun vl _ => ?_)
              refine G.v (rv_assign rfl) rfl ?_
              refine G.done ?_
              refine G.thenN ?_
              refine G.seq ?_
              refine G.seq ?_
              refine G.region ?_
              refine G.v (rv_assign rfl) rfl ?_
              refine G.done ?_
              refine G.thenN ?_
              refine G.block ?_
              -- loop 0: turned [6, 7], kept [3, 4, 5]
              have hok : boxesOkM p bs = true := by simpa using hc
              have hpp : 1 ≤ p.w ∧ p.w ≤ 2000 ∧ 1 ≤ p.d ∧ p.d ≤ 2000 ∧ 1 ≤ p.h ∧ p.h ≤ 2000 ∧ 1 ≤ p.g ∧ p.g ≤ 100000 := pallet_in (by simp only [boxesOkM, Bool.and_eq_true] at hok; exact hok.1)
              have hbx : ∀ b ∈ bs, boxOkM p b = true := by simp only [boxesOkM, Bool.and_eq_true, List.all_eq_true] at hok; exact hok.2
              have hflt := shelf_flat hok
              have hfll : ((shelvesM p bs).map ShelfM.l).flatten.length = bs.length := by rw [hflt, List.length_map, ordM_len]
              refine G.loopK (ι := Nat × List Int × Value) (ks := [3, 4, 5]) (fun x => [(6, x.2.2), (7, .int .i64 (x.1 : Int))]) (fun x => [.row x.2.2 3 1 (x.2.1.map icell)]) (fun x => x.1 ≤ gs.length ∧ x.2.1 = (((shelvesM p bs).take x.1).map ShelfM.l).flatten) (fun x => gs.length - x.1) (0, [], vl) (.cons rfl (.cons rfl (.cons rfl (.nil)))) rfl ?_ ?_ ?_
              · exact ⟨Nat.zero_le _, rfl⟩
              · exact ⟨rfl, rfl, trivial⟩
              rintro ⟨i, fl, vf⟩ ⟨hi, hfl⟩
              dsimp only at hi hfl ⊢
              have hfm := flat_len (m := shelvesM p bs) i
              rw [← hfl] at hfm
              have hfm2 : (fl.map icell).length = fl.length := by simp
              by_cases hlt : i < gs.length
              case' pos => (obtain ⟨t, hgt⟩ := get_of_lt hlt; have het := get_map hgt ShelfM.cells; have hgi : (gs.map (sub ShelfM.l))[i]? = some (t.2, t.1.l.map icell) := get_mapS hgt; have hm : (shelvesM p bs)[i]? = some t.1 := hgs ▸ fst_at hgt; have hsk := shelf_ok hok t.1 (List.mem_of_getElem? hm); have hsn := flat_snoc hm; rw [← hfl] at hsn; have hfm3 := flat_len (m := shelvesM p bs) (i + 1); rw [hsn, List.length_append] at hfm3; have hw0 : ∀ n ∈ t.1.l, 0 ≤ wAt bs n ∧ 0 ≤ gAt bs n := (fun n hn => by obtain ⟨j, rfl, hj, _, _⟩ := hsk.at_ n hn; obtain ⟨b, hb⟩ := get_of_lt hj; have := box_in (hbx b (List.mem_of_getElem? hb)); simp only [wAt, gAt, Int.toNat_natCast, boxAt_get hb]; omega); have hwb := hsk.wb; have hgb := hsk.gb; have hll : (t.1.l.map icell).length = t.1.l.length := (by simp); by_cases hi0 : 0 < i; (obtain ⟨t2, hgt2⟩ := get_of_lt (l := gs) (k := i - 1) (by omega); have het2 := get_map hgt2 ShelfM.cells; have hdn := shelf_down hok (hgs ▸ fst_at hgt2) (by rw [show i - 1 + 1 = i from by omega]; exact hm)))
              all_goals
               refine G.seq ?_
               refine G.seq ?_
               refine G.region ?_
               refine G.v (rv_move rfl) rfl ?_
               refine G.v (rv_move rfl) rfl ?_
               refine G.v (rv_len rfl (by exact Rd.owned 4 rfl)) rfl ?_
               refine G.v (rv_lss rfl rfl) rfl ?_
               refine G.done ?_
               refine G.thenN ?_
               refine G.cond rfl (fun hc => ?_) (fun hc => ?_)
               · try exact Bool.noConfusion hc
                 all_goals
                  try replace hc := of_decide_eq_true hc
                  try simp only [List.length_map] at hc
                  try (exfalso; omega)
                  all_goals
                   refine G.skip ?_
                   refine G.thenN ?_
                   refine G.seq ?_
                   refine G.block ?_
                   refine G.seq ?_
                   refine G.region ?_
                   refine G.v (rv_assign rfl) rfl ?_
                   refine G.done ?_
                   refine G.thenN ?_
                   refine G.seq ?_
                   refine G.region ?_
                   refine G.v (rv_assign rfl) rfl ?_
                   refine G.done ?_
                   refine G.thenN ?_
                   refine G.seq ?_
                   refine G.seq ?_
                   refine G.region ?_
                   refine G.v (rv_assign rfl) rfl ?_
                   refine G.done ?_
                   refine G.thenN ?_
                   refine G.block ?_
                   -- loop 1: turned [8, 9, 10], kept [3, 4, 5, 6, 7]
                   refine G.loopK (ι := Nat) (ks := [3, 4, 5, 6, 7]) (fun k => [(8, .int .i64 ((t.1.l.take k).map (wAt bs)).sum), (9, .int .i64 ((t.1.l.take k).map (gAt bs)).sum), (10, .int .i64 (k : Int))]) (fun _ => []) (fun k => k ≤ t.1.l.length) (fun k => t.1.l.length - k) 0 (.cons rfl (.cons rfl (.cons rfl (.cons rfl (.cons rfl (.nil)))))) rfl ?_ ?_ ?_
                   · exact Nat.zero_le _
                   · exact ⟨rfl, rfl, rfl, trivial⟩
                   rintro k hk
                   have hp1 := psum_le (fun n hn => (hw0 n hn).1) k
                   have hp2 := psum_le (fun n hn => (hw0 n hn).2) k
                   rw [hsk.ws] at hp1
                   rw [hsk.gs] at hp2
                   by_cases hlk : k < t.1.l.length
                   case' pos => (obtain ⟨n, hn⟩ := get_of_lt hlk; obtain ⟨j, rfl, hj, hjd, hjh⟩ := hsk.at_ n (List.mem_of_getElem? hn); have hex := get_map hn icell; obtain ⟨b, hb⟩ := get_of_lt hj; have heb := get_map hb BoxM.cells; have hba := boxAt_get hb; rw [hba] at hjd hjh; have hbi := box_in (hbx b (List.mem_of_getElem? hb)); have hq1 := psum_next (F := wAt bs) hn; have hq2 := psum_next (F := gAt bs) hn; simp only [wAt, gAt, Int.toNat_natCast, hba] at hq1 hq2)
                   case' neg => (have hW : ((t.1.l.take k).map (wAt bs)).sum = t.1.w := (by rw [List.take_of_length_le (by omega)]; exact hsk.ws); have hG : ((t.1.l.take k).map (gAt bs)).sum = t.1.g := (by rw [List.take_of_length_le (by omega)]; exact hsk.gs))
                   all_goals
                    refine G.seq ?_
                    refine G.seq ?_
                    refine G.region ?_
                    refine G.v (rv_move rfl) rfl ?_
                    refine G.v (rv_move rfl) rfl ?_
                    refine G.v (rv_move rfl) rfl ?_
                    (refine G.v (rv_indexH rfl rfl (by exact Rd.owned 4 rfl) rfl (by exact het)) rfl ?_)
                    (refine G.v (rv_fieldE rfl) rfl ?_)
                    refine G.v (rv_loadE rfl (by exact Rd.owned 4 rfl) (by exact het) rfl) rfl ?_
                    refine G.v (rv_len rfl (by exact Rd.grp 3 rfl (List.mem_of_getElem? hgi))) rfl ?_
                    refine G.v (rv_lss rfl rfl) rfl ?_
                    refine G.done ?_
                    refine G.thenN ?_
                    refine G.cond rfl (fun hc => ?_) (fun hc => ?_)
                    · try exact Bool.noConfusion hc
                      all_goals
                       try replace hc := of_decide_eq_true hc
                       try simp only [List.length_map] at hc
                       try (exfalso; omega)
                       all_goals
                        refine G.skip ?_
                        refine G.thenN ?_
                        refine G.seq ?_
                        refine G.block ?_
                        refine G.seq ?_
                        refine G.region ?_
                        refine G.v (rv_move rfl) rfl ?_
                        refine G.v (rv_move rfl) rfl ?_
                        (refine G.v (rv_indexH rfl rfl (by exact Rd.owned 4 rfl) rfl (by exact het)) rfl ?_)
                        (refine G.v (rv_fieldE rfl) rfl ?_)
                        refine G.v (rv_loadE rfl (by exact Rd.owned 4 rfl) (by exact het) rfl) rfl ?_
                        refine G.v (rv_move rfl) rfl ?_
                        (refine G.v (rv_indexH rfl rfl (by exact Rd.grp 3 rfl (List.mem_of_getElem? hgi)) rfl (by exact hex)) rfl ?_)
                        refine G.v (rv_loadE rfl (by exact Rd.grp 3 rfl (List.mem_of_getElem? hgi)) (by exact hex) rfl) rfl ?_
                        refine G.v (rv_assign rfl) rfl ?_
                        refine G.done ?_
                        refine G.thenN ?_
                        refine G.seq ?_
                        refine G.seq ?_
                        refine G.drawL [] ?_
                        refine GE.ol 0 (by kernel_rfl) rfl rfl (og_runs (rv_move rfl)) rfl (fun _ _ h => by exact h) (fun _ _ => ?_)
                        refine GE.ol 1 (by kernel_rfl) rfl rfl (og_runs (rv_lss rfl rfl)) rfl (fun _ _ h => by exact h) (fun _ _ => ?_)
                        refine GE.ol 2 (by kernel_rfl) rfl rfl (og_runs (rv_move rfl)) rfl (fun _ _ h => by exact h) (fun _ _ => ?_)
                        all_goals (((with_reducible refine GE.part (t := 64) rfl (fun hg => ?_) (fun hg => ?_)) <;> (try exact Bool.noConfusion hg) <;> (try (exfalso; (have hq := of_decide_eq_false hg; omega))) <;> (refine GE.q 3 rfl (by kernel_rfl) rfl (qg_runs (rv_move rfl)) rfl ?_)))
                        all_goals ((refine GE.q 4 rfl (by kernel_rfl) rfl (qg_runs (rv_move rfl)) rfl ?_))
                        all_goals ((refine GE.q 5 rfl (by kernel_rfl) rfl (qg_runs (rv_len rfl (by exact Rd.owned 6 rfl))) rfl ?_))
                        all_goals ((refine GE.q 6 rfl (by kernel_rfl) rfl (qg_runs (rv_geq rfl rfl)) rfl ?_))
                        all_goals ((refine GE.ol 7 (by kernel_rfl) rfl rfl (og_runs (rv_pickF rfl rfl)) rfl (fun _ _ h => by exact h) (fun _ _ => ?_)))
                        all_goals (refine GE.ol 8 (by kernel_rfl) rfl rfl (og_runs (rv_move rfl)) rfl (fun _ _ h => by exact h) (fun _ _ => ?_))
                        all_goals (((with_reducible refine GE.part (t := 70) rfl (fun hg => ?_) (fun hg => ?_)) <;> (try exact Bool.noConfusion hg) <;> (try (exfalso; (have hq := of_decide_eq_true hg; omega); done)) <;> (refine GE.q 9 rfl (by kernel_rfl) rfl (qg_runs (rv_move rfl)) rfl ?_)))
                        all_goals ((refine GE.q 10 rfl (by kernel_rfl) rfl (qg_runs (rv_move rfl)) rfl ?_))
                        all_goals (((refine GE.q 11 rfl (by kernel_rfl) rfl (qg_runs (rv_indexH rfl rfl (by exact Rd.owned 6 rfl) rfl (by exact heb))) rfl ?_)))
                        all_goals (((refine GE.q 12 rfl (by kernel_rfl) rfl (qg_runs (rv_fieldE rfl)) rfl ?_)))
                        all_goals ((refine GE.q 13 rfl (by kernel_rfl) rfl (qg_runs (rv_loadE rfl (by exact Rd.owned 6 rfl) (by exact heb) rfl)) rfl ?_))
                        all_goals ((refine GE.q 14 rfl (by kernel_rfl) rfl (qg_runs (rv_move rfl)) rfl ?_))
                        all_goals ((refine GE.q 15 rfl (by kernel_rfl) rfl (qg_runs (rv_move rfl)) rfl ?_))
                        all_goals (((refine GE.q 16 rfl (by kernel_rfl) rfl (qg_runs (rv_indexH rfl rfl (by exact Rd.owned 4 rfl) rfl (by exact het))) rfl ?_)))
                        all_goals (((refine GE.q 17 rfl (by kernel_rfl) rfl (qg_runs (rv_fieldE rfl)) rfl ?_)))
                        all_goals ((refine GE.q 18 rfl (by kernel_rfl) rfl (qg_runs (rv_loadE rfl (by exact Rd.owned 4 rfl) (by exact het) rfl)) rfl ?_))
                        all_goals ((refine GE.q 19 rfl (by kernel_rfl) rfl (qg_runs (rv_gtr rfl rfl)) rfl ?_))
                        all_goals ((refine GE.ol 20 (by kernel_rfl) rfl rfl (og_runs (rv_pickF rfl rfl)) rfl (fun _ _ h => by exact h) (fun _ _ => ?_)))
                        all_goals (refine GE.ol 21 (by kernel_rfl) rfl rfl (og_runs (rv_move rfl)) rfl (fun _ _ h => by exact h) (fun _ _ => ?_))
                        all_goals (((with_reducible refine GE.part (t := 83) rfl (fun hg => ?_) (fun hg => ?_)) <;> (try exact Bool.noConfusion hg) <;> (try (exfalso; (have hq := of_decide_eq_true hg; omega); done)) <;> (refine GE.q 22 rfl (by kernel_rfl) rfl (qg_runs (rv_move rfl)) rfl ?_)))
                        all_goals ((refine GE.q 23 rfl (by kernel_rfl) rfl (qg_runs (rv_move rfl)) rfl ?_))
                        all_goals (((refine GE.q 24 rfl (by kernel_rfl) rfl (qg_runs (rv_indexH rfl rfl (by exact Rd.owned 6 rfl) rfl (by exact heb))) rfl ?_)))
                        all_goals (((refine GE.q 25 rfl (by kernel_rfl) rfl (qg_runs (rv_fieldE rfl)) rfl ?_)))
                        all_goals ((refine GE.q 26 rfl (by kernel_rfl) rfl (qg_runs (rv_loadE rfl (by exact Rd.owned 6 rfl) (by exact heb) rfl)) rfl ?_))
                        all_goals ((refine GE.q 27 rfl (by kernel_rfl) rfl (qg_runs (rv_move rfl)) rfl ?_))
                        all_goals ((refine GE.q 28 rfl (by kernel_rfl) rfl (qg_runs (rv_move rfl)) rfl ?_))
                        all_goals (((refine GE.q 29 rfl (by kernel_rfl) rfl (qg_runs (rv_indexH rfl rfl (by exact Rd.owned 4 rfl) rfl (by exact het))) rfl ?_)))
                        all_goals (((refine GE.q 30 rfl (by kernel_rfl) rfl (qg_runs (rv_fieldE rfl)) rfl ?_)))
                        all_goals ((refine GE.q 31 rfl (by kernel_rfl) rfl (qg_runs (rv_loadE rfl (by exact Rd.owned 4 rfl) (by exact het) rfl)) rfl ?_))
                        all_goals ((refine GE.q 32 rfl (by kernel_rfl) rfl (qg_runs (rv_gtr rfl rfl)) rfl ?_))
                        all_goals ((refine GE.ol 33 (by kernel_rfl) rfl rfl (og_runs (rv_pickF rfl rfl)) rfl (fun _ _ h => by exact h) (fun _ _ => ?_)))
                        all_goals
                         refine GE.done (by kernel_rfl) ?_
                         refine G.thenN ?_
                         refine G.cond rfl (fun hc => ?_) (fun hc => ?_)
                         · try exact Bool.noConfusion hc
                           all_goals
                            try replace hc := of_decide_eq_true hc
                            try simp only [List.length_map] at hc
                            try (exfalso; omega)
                            all_goals
                             refine G.seq ?_
                             refine G.region ?_
                             refine G.v (rv_assign rfl) rfl ?_
                             refine G.done ?_
                             refine G.thenN ?_
                             refine G.ret ?_
                             refine G.thenR ?_
                             refine G.inR ?_
                             refine G.thenR ?_
                             refine G.thenR ?_
                             refine G.inR ?_
                             refine G.thenR ?_
                             refine G.inR ?_
                             refine G.thenR ?_
                             refine G.thenR ?_
                             refine G.inR ?_
                             refine G.thenR ?_
                             exact G.retFV rfl rfl rfl
                         · try exact Bool.noConfusion hc
                           all_goals
                            try replace hc := of_decide_eq_false hc
                            try simp only [List.length_map] at hc
                            try (exfalso; contradiction)
                            all_goals
                             refine G.skip ?_
                             refine G.thenN ?_
                             refine G.seq ?_
                             refine G.region ?_
                             refine G.v (rv_move rfl) rfl ?_
                             refine G.v (rv_move rfl) rfl ?_
                             refine G.v (rv_move rfl) rfl ?_
                             (refine G.v (rv_indexH rfl rfl (by exact Rd.owned 6 rfl) rfl (by exact heb)) rfl ?_)
                             (refine G.v (rv_fieldE rfl) rfl ?_)
                             refine G.v (rv_loadE rfl (by exact Rd.owned 6 rfl) (by exact heb) rfl) rfl ?_
                             (refine G.v (rv_addB rfl rfl (by omega) (by omega)) rfl ?_)
                             refine G.v (rv_assign rfl) rfl ?_
                             refine G.done ?_
                             refine G.thenN ?_
                             refine G.region ?_
                             refine G.v (rv_move rfl) rfl ?_
                             refine G.v (rv_move rfl) rfl ?_
                             refine G.v (rv_move rfl) rfl ?_
                             (refine G.v (rv_indexH rfl rfl (by exact Rd.owned 6 rfl) rfl (by exact heb)) rfl ?_)
                             (refine G.v (rv_fieldE rfl) rfl ?_)
                             refine G.v (rv_loadE rfl (by exact Rd.owned 6 rfl) (by exact heb) rfl) rfl ?_
                             (refine G.v (rv_addB rfl rfl (by omega) (by omega)) rfl ?_)
                             refine G.v (rv_assign rfl) rfl ?_
                             refine G.done ?_
                             refine G.inN ?_
                             refine G.thenN ?_
                             refine G.region ?_
                             refine G.v (rv_move rfl) rfl ?_
                             (refine G.v (rv_incr rfl rfl (by omega)) rfl ?_)
                             refine G.v (rv_assign rfl) rfl ?_
                             refine G.done ?_
                             refine G.backK (k + 1) 0 rfl (.cons rfl (.cons rfl (.cons rfl (.cons rfl (.cons rfl (.nil)))))) ?_ ?_ ?_
                             · exact ⟨congrArg (fun z => some (Value.int .i64 z)) hq1.symm, congrArg (fun z => some (Value.int .i64 z)) hq2.symm, rfl, trivial⟩
                             · exact hlk
                             · omega
                    · try exact Bool.noConfusion hc
                      all_goals
                       try replace hc := of_decide_eq_false hc
                       try simp only [List.length_map] at hc
                       try (exfalso; omega)
                       all_goals
                        refine G.exit ?_
                        refine G.thenX ?_
                        refine G.thenX ?_
                        refine G.inX ?_
                        refine G.thenN ?_
                        refine G.seq ?_
                        refine G.seq ?_
                        refine G.drawL [] ?_
                        refine GE.q 0 rfl (by kernel_rfl) rfl (qg_runs (rv_move rfl)) rfl ?_
                        refine GE.q 1 rfl (by kernel_rfl) rfl (qg_runs (rv_move rfl)) rfl ?_
                        refine GE.ol 2 (by kernel_rfl) rfl rfl (og_runs (rv_move rfl)) rfl (fun _ _ h => by exact h) (fun _ _ => ?_)
                        (refine GE.ol 3 (by kernel_rfl) rfl rfl (og_runs (rv_indexH rfl rfl (by exact Rd.owned 4 rfl) rfl (by exact het))) rfl (fun _ _ h => by exact h) (fun _ _ => ?_))
                        (refine GE.ol 4 (by kernel_rfl) rfl rfl (og_runs (rv_fieldE rfl)) rfl (fun _ _ h => by exact h) (fun _ _ => ?_))
                        refine GE.ol 5 (by kernel_rfl) rfl rfl (og_runs (rv_loadE rfl (by exact Rd.owned 4 rfl) (by exact het) rfl)) rfl (fun _ _ h => by exact h) (fun _ _ => ?_)
                        refine GE.ol 6 (by kernel_rfl) rfl rfl (og_runs (rv_neq rfl rfl)) rfl (fun _ _ h => by exact h) (fun _ _ => ?_)
                        refine GE.ol 7 (by kernel_rfl) rfl rfl (og_runs (rv_move rfl)) rfl (fun _ _ h => by exact h) (fun _ _ => ?_)
                        all_goals (((with_reducible refine GE.part (t := 117) rfl (fun hg => ?_) (fun hg => ?_)) <;> (try exact Bool.noConfusion hg) <;> (try (exfalso; (have hq := of_decide_eq_true hg; omega); done)) <;> (refine GE.q 8 rfl (by kernel_rfl) rfl (qg_runs (rv_move rfl)) rfl ?_)))
                        all_goals ((refine GE.q 9 rfl (by kernel_rfl) rfl (qg_runs (rv_move rfl)) rfl ?_))
                        all_goals ((refine GE.q 10 rfl (by kernel_rfl) rfl (qg_runs (rv_move rfl)) rfl ?_))
                        all_goals (((refine GE.q 11 rfl (by kernel_rfl) rfl (qg_runs (rv_indexH rfl rfl (by exact Rd.owned 4 rfl) rfl (by exact het))) rfl ?_)))
                        all_goals (((refine GE.q 12 rfl (by kernel_rfl) rfl (qg_runs (rv_fieldE rfl)) rfl ?_)))
                        all_goals ((refine GE.q 13 rfl (by kernel_rfl) rfl (qg_runs (rv_loadE rfl (by exact Rd.owned 4 rfl) (by exact het) rfl)) rfl ?_))
                        all_goals ((refine GE.q 14 rfl (by kernel_rfl) rfl (qg_runs (rv_neq rfl rfl)) rfl ?_))
                        all_goals ((refine GE.ol 15 (by kernel_rfl) rfl rfl (og_runs (rv_pickF rfl rfl)) rfl (fun _ _ h => by exact h) (fun _ _ => ?_)))
                        all_goals (refine GE.ol 16 (by kernel_rfl) rfl rfl (og_runs (rv_move rfl)) rfl (fun _ _ h => by exact h) (fun _ _ => ?_))
                        all_goals (((with_reducible refine GE.part (t := 126) rfl (fun hg => ?_) (fun hg => ?_)) <;> (try exact Bool.noConfusion hg) <;> (try (exfalso; (have hq := of_decide_eq_true hg; omega); done)) <;> (refine GE.q 17 rfl (by kernel_rfl) rfl (qg_runs (rv_move rfl)) rfl ?_)))
                        all_goals (((refine GE.q 18 rfl (by kernel_rfl) rfl (qg_runs (rv_field rfl)) rfl ?_)))
                        all_goals (((refine GE.q 19 rfl (by kernel_rfl) rfl (qg_runs (rv_load1 5 rfl rfl rfl)) rfl ?_)))
                        all_goals ((refine GE.q 20 rfl (by kernel_rfl) rfl (qg_runs (rv_gtr rfl rfl)) rfl ?_))
                        all_goals ((refine GE.ol 21 (by kernel_rfl) rfl rfl (og_runs (rv_pickF rfl rfl)) rfl (fun _ _ h => by exact h) (fun _ _ => ?_)))
                        all_goals (refine GE.ol 22 (by kernel_rfl) rfl rfl (og_runs (rv_move rfl)) rfl (fun _ _ h => by exact h) (fun _ _ => ?_))
                        all_goals (((with_reducible refine GE.part (t := 132) rfl (fun hg => ?_) (fun hg => ?_)) <;> (try exact Bool.noConfusion hg) <;> (try (exfalso; (have hq := of_decide_eq_true hg; omega); done)) <;> (refine GE.q 23 rfl (by kernel_rfl) rfl (qg_runs (rv_move rfl)) rfl ?_)))
                        all_goals (((refine GE.q 24 rfl (by kernel_rfl) rfl (qg_runs (rv_field rfl)) rfl ?_)))
                        all_goals (((refine GE.q 25 rfl (by kernel_rfl) rfl (qg_runs (rv_load1 5 rfl rfl rfl)) rfl ?_)))
                        all_goals ((refine GE.q 26 rfl (by kernel_rfl) rfl (qg_runs (rv_gtr rfl rfl)) rfl ?_))
                        all_goals ((refine GE.ol 27 (by kernel_rfl) rfl rfl (og_runs (rv_pickF rfl rfl)) rfl (fun _ _ h => by exact h) (fun _ _ => ?_)))
                        all_goals (refine GE.ol 28 (by kernel_rfl) rfl rfl (og_runs (rv_move rfl)) rfl (fun _ _ h => by exact h) (fun _ _ => ?_))
                        all_goals (((with_reducible refine GE.part (t := 138) rfl (fun hg => ?_) (fun hg => ?_)) <;> (try exact Bool.noConfusion hg) <;> (try (exfalso; (have hq := of_decide_eq_true hg; omega); done)) <;> (refine GE.q 29 rfl (by kernel_rfl) rfl (qg_runs (rv_move rfl)) rfl ?_)))
                        all_goals ((refine GE.q 30 rfl (by kernel_rfl) rfl (qg_runs (rv_gtr rfl rfl)) rfl ?_))
                        all_goals ((refine GE.q 31 rfl (by kernel_rfl) rfl (qg_runs (rv_move rfl)) rfl ?_))
                        all_goals ((((with_reducible refine GE.part (t := 141) rfl (fun hg => ?_) (fun hg => ?_)) <;> (try exact Bool.noConfusion hg) <;> (try (exfalso; first | (have hq := of_decide_eq_false hg; omega) | (have hq := of_decide_eq_true hg; omega); done)) <;> (first | refine GE.q 32 rfl (by kernel_rfl) rfl (qg_runs (rv_move rfl)) rfl ?_ | refine GE.qn 32 rfl (by kernel_rfl) rfl rfl ?_))))
                        all_goals ((first | refine GE.q 33 rfl (by kernel_rfl) rfl (qg_runs (rv_move rfl)) rfl ?_ | refine GE.qn 33 rfl (by kernel_rfl) rfl rfl ?_))
                        all_goals ((first | (refine GE.q 34 rfl (by kernel_rfl) rfl (qg_runs (rv_indexH rfl rfl (by exact Rd.owned 4 rfl) rfl (by exact het))) rfl ?_) | refine GE.qn 34 rfl (by kernel_rfl) rfl rfl ?_))
                        all_goals ((first | (refine GE.q 35 rfl (by kernel_rfl) rfl (qg_runs (rv_fieldE rfl)) rfl ?_) | refine GE.qn 35 rfl (by kernel_rfl) rfl rfl ?_))
                        all_goals ((first | refine GE.q 36 rfl (by kernel_rfl) rfl (qg_runs (rv_loadE rfl (by first | exact Rd.stays (by assumption) | exact Rd.owned 4 rfl) (by exact het) rfl)) rfl ?_ | refine GE.qn 36 rfl (by kernel_rfl) rfl rfl ?_))
                        all_goals ((first | refine GE.q 37 rfl (by kernel_rfl) rfl (qg_runs (rv_move rfl)) rfl ?_ | refine GE.qn 37 rfl (by kernel_rfl) rfl rfl ?_))
                        all_goals ((first | refine GE.q 38 rfl (by kernel_rfl) rfl (qg_runs (rv_move rfl)) rfl ?_ | refine GE.qn 38 rfl (by kernel_rfl) rfl rfl ?_))
                        all_goals ((first | (refine GE.q 39 rfl (by kernel_rfl) rfl (qg_runs (rv_decr rfl rfl (by omega) (by omega))) rfl ?_) | refine GE.qn 39 rfl (by kernel_rfl) rfl rfl ?_))
                        all_goals ((first | (refine GE.q 40 rfl (by kernel_rfl) rfl (qg_runs (rv_indexH rfl rfl (by exact Rd.owned 4 rfl) rfl (by exact het2))) rfl ?_) | refine GE.qn 40 rfl (by kernel_rfl) rfl rfl ?_))
                        all_goals ((first | (refine GE.q 41 rfl (by kernel_rfl) rfl (qg_runs (rv_fieldE rfl)) rfl ?_) | refine GE.qn 41 rfl (by kernel_rfl) rfl rfl ?_))
                        all_goals ((first | refine GE.q 42 rfl (by kernel_rfl) rfl (qg_runs (rv_loadE rfl (by first | exact Rd.stays (by assumption) | exact Rd.owned 4 rfl) (by exact het2) rfl)) rfl ?_ | refine GE.qn 42 rfl (by kernel_rfl) rfl rfl ?_))
                        all_goals ((first | refine GE.q 43 rfl (by kernel_rfl) rfl (qg_runs (rv_gtr rfl rfl)) rfl ?_ | refine GE.qn 43 rfl (by kernel_rfl) rfl rfl ?_))
                        all_goals (((first | refine GE.q 44 rfl (by kernel_rfl) rfl (qg_runs (rv_pickT rfl rfl)) rfl ?_ | refine GE.q 44 rfl (by kernel_rfl) rfl (qg_runs (rv_pickF rfl rfl)) rfl ?_)))
                        all_goals ((refine GE.ol 45 (by kernel_rfl) rfl rfl (og_runs (rv_pickF rfl rfl)) rfl (fun _ _ h => by exact h) (fun _ _ => ?_)))
                        all_goals
                         refine GE.done (by kernel_rfl) ?_
                         refine G.thenN ?_
                         refine G.cond rfl (fun hc => ?_) (fun hc => ?_)
                         · try exact Bool.noConfusion hc
                           all_goals
                            try replace hc := of_decide_eq_true hc
                            try simp only [List.length_map] at hc
                            try (exfalso; omega)
                            all_goals
                             refine G.seq ?_
                             refine G.region ?_
                             refine G.v (rv_assign rfl) rfl ?_
                             refine G.done ?_
                             refine G.thenN ?_
                             refine G.ret ?_
                             refine G.thenR ?_
                             refine G.inR ?_
                             refine G.thenR ?_
                             refine G.thenR ?_
                             refine G.inR ?_
                             refine G.thenR ?_
                             exact G.retFV rfl rfl rfl
                         · try exact Bool.noConfusion hc
                           all_goals
                            try replace hc := of_decide_eq_false hc
                            try simp only [List.length_map] at hc
                            try (exfalso; contradiction)
                            all_goals
                             refine G.skip ?_
                             refine G.thenN ?_
                             refine G.region ?_
                             refine G.v (rv_move rfl) rfl ?_
                             refine G.v (rv_move rfl) rfl ?_
                             refine G.v (rv_move rfl) rfl ?_
                             (refine G.v (rv_indexH rfl rfl (by exact Rd.owned 4 rfl) rfl (by exact het)) rfl ?_)
                             (refine G.v (rv_fieldE rfl) rfl ?_)
                             refine G.v (rv_loadE rfl (by exact Rd.owned 4 rfl) (by exact het) rfl) rfl ?_
                             ((refine G.op (og_app0 rfl rfl rfl (by exact Rd.grp 3 rfl (List.mem_of_getElem? hgi)) rfl rfl (by simp; omega) (by simp; omega)) rfl (fun va _ => ?_)))
                             refine G.v (rv_assign rfl) rfl ?_
                             refine G.done ?_
                             refine G.inN ?_
                             refine G.thenN ?_
                             refine G.region ?_
                             refine G.v (rv_move rfl) rfl ?_
                             (refine G.v (rv_incr rfl rfl (by omega)) rfl ?_)
                             refine G.v (rv_assign rfl) rfl ?_
                             refine G.done ?_
                             refine G.backK (i + 1, fl ++ t.1.l, va) 0 (one_eq (congrArg (fun z => Ch.row va 3 1 z) (by rw [List.map_append]))) (.cons rfl (.cons rfl (.cons rfl (.nil)))) ?_ ?_ ?_
                             · exact ⟨rfl, rfl, trivial⟩
                             · exact ⟨hlt, hsn.symm⟩
                             · dsimp only; omega
               · try exact Bool.noConfusion hc
                 all_goals
                  try replace hc := of_decide_eq_false hc
                  try simp only [List.length_map] at hc
                  try (exfalso; omega)
                  all_goals
                   refine G.exit ?_
                   refine G.thenX ?_
                   refine G.thenX ?_
                   refine G.inX ?_
                   refine G.thenN ?_
                   refine G.seq ?_
                   refine G.seq ?_
                   refine G.region ?_
                   refine G.v (rv_assign rfl) rfl ?_
                   refine G.done ?_
                   refine G.thenN ?_
                   refine G.block ?_
                   -- loop 2: turned [12], kept [4, 6]
                   have hfl2 : fl = ((shelvesM p bs).map ShelfM.l).flatten := by rw [hfl, List.take_of_length_le (by omega)]
                   have hfl3 : fl.length = bs.length := by rw [hfl2, hfll]
                   have hcn : ∀ b : Nat, b < bs.length → fl.count (b : Int) = 1 := fun b hb => by rw [hfl2, hflt]; exact count_ord hb
                   refine G.loopK (ι := Nat) (ks := [4, 6]) (fun b => [(12, .int .i64 (b : Int))]) (fun _ => []) (fun b => b ≤ bs.length) (fun b => bs.length - b) 0 (.cons rfl (.cons rfl (.nil))) rfl ?_ ?_ ?_
                   · exact Nat.zero_le _
                   · exact ⟨rfl, trivial⟩
                   rintro b hb
                   have hcb := hcn b
                   by_cases hltb : b < bs.length
                   all_goals
                    refine G.seq ?_
                    refine G.seq ?_
                    refine G.region ?_
                    refine G.v (rv_move rfl) rfl ?_
                    refine G.v (rv_move rfl) rfl ?_
                    refine G.v (rv_len rfl (by exact Rd.owned 6 rfl)) rfl ?_
                    refine G.v (rv_lss rfl rfl) rfl ?_
                    refine G.done ?_
                    refine G.thenN ?_
                    refine G.cond rfl (fun hc => ?_) (fun hc => ?_)
                    · try exact Bool.noConfusion hc
                      all_goals
                       try replace hc := of_decide_eq_true hc
                       try simp only [List.length_map] at hc
                       try (exfalso; omega)
                       all_goals
                        refine G.skip ?_
                        refine G.thenN ?_
                        refine G.seq ?_
                        refine G.block ?_
                        refine G.seq ?_
                        refine G.region ?_
                        refine G.v (rv_move rfl) rfl ?_
                        refine G.v (rv_move rfl) rfl ?_
                        refine G.op (og_callV rfl rfl (fun w hh => times_any _ w (by exact Rd.owned 0 rfl _ hh) (by omega))) rfl (fun _ _ => ?_)
                        refine G.v (rv_neq rfl rfl) rfl ?_
                        refine G.done ?_
                        refine G.thenN ?_
                        refine G.cond rfl (fun hc => ?_) (fun hc => ?_)
                        · try exact Bool.noConfusion hc
                          all_goals
                           try replace hc := of_decide_eq_true hc
                           try simp only [List.length_map] at hc
                           try (exfalso; omega)
                           all_goals
                            refine G.seq ?_
                            refine G.region ?_
                            refine G.v (rv_assign rfl) rfl ?_
                            refine G.done ?_
                            refine G.thenN ?_
                            refine G.ret ?_
                            refine G.inR ?_
                            refine G.thenR ?_
                            refine G.thenR ?_
                            refine G.inR ?_
                            refine G.thenR ?_
                            exact G.retFV rfl rfl rfl
                        · try exact Bool.noConfusion hc
                          all_goals
                           try replace hc := of_decide_eq_false hc
                           try simp only [List.length_map] at hc
                           try (exfalso; contradiction)
                           all_goals
                            refine G.skip ?_
                            refine G.inN ?_
                            refine G.thenN ?_
                            refine G.region ?_
                            refine G.v (rv_move rfl) rfl ?_
                            (refine G.v (rv_incr rfl rfl (by omega)) rfl ?_)
                            refine G.v (rv_assign rfl) rfl ?_
                            refine G.done ?_
                            refine G.backK (b + 1) 0 rfl (.cons rfl (.cons rfl (.nil))) ?_ ?_ ?_
                            · exact ⟨rfl, trivial⟩
                            · exact hltb
                            · omega
                    · try exact Bool.noConfusion hc
                      all_goals
                       try replace hc := of_decide_eq_false hc
                       try simp only [List.length_map] at hc
                       try (exfalso; omega)
                       all_goals
                        refine G.exit ?_
                        refine G.thenX ?_
                        refine G.thenX ?_
                        refine G.inX ?_
                        refine G.thenN ?_
                        refine G.seq ?_
                        refine G.region ?_
                        refine G.v (rv_move rfl) rfl ?_
                        refine G.v (rv_len rfl (by exact Rd.owned 0 rfl)) rfl ?_
                        refine G.v (rv_move rfl) rfl ?_
                        refine G.v (rv_len rfl (by exact Rd.owned 6 rfl)) rfl ?_
                        refine G.v (rv_eql rfl rfl) rfl ?_
                        refine G.v (rv_assign rfl) rfl ?_
                        refine G.done ?_
                        refine G.thenN ?_
                        refine G.ret ?_
                        exact G.retFV rfl rfl (congrArg Value.bool (decide_eq_true (by omega)))
end Go.Proofs.Yticgeijklhlonaa
