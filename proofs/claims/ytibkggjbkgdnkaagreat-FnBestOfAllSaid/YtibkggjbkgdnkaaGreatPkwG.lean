/-
  Texts of this proof, one behind the other: TblSS, IsPackW, IsPackX.
-/
import Derived.Test.YtibkggjbkgdnkaaGreatPkwC
import Derived.Test.YtibkggjbkgdnkaaGreatPkwD
set_option linter.unusedVariables false
set_option linter.unusedSimpArgs false

/-
  Tables of numbers that come in: measured, copied.
-/
namespace Go.Proofs.YtibkggjbkgdnkaaGreat
open Go.RowKit
attribute [local irreducible] Go.wpList Go.Code.wp Go.Exit.then Go.Exit.inBlock Go.bodyPost Go.Calls pE pB G RunsV FnV Fn FnM
set_option maxRecDepth 100000
set_option maxHeartbeats 4000000
end Go.Proofs.YtibkggjbkgdnkaaGreat

/-
  Whether cartons are a packing: both ways.
-/
namespace Go.Proofs.YtibkggjbkgdnkaaGreat
open Go.RowKit
attribute [local irreducible] Go.wpList Go.Code.wp Go.Exit.then Go.Exit.inBlock Go.bodyPost Go.Calls pE pB G RunsV FnV Fn FnM
set_option maxRecDepth 100000
set_option maxHeartbeats 4000000
theorem okCs_next {r : ReqM} {l : List (List Int × Value)} {k : Nat} {b : List Int × Value} (hb : l[k]? = some b) (h : okCs r ((l.take k).map Prod.fst) = true) (h1 : (decide (b.1.length ≠ 0) && holdsM r b.1) = true) : okCs r ((l.take (k + 1)).map Prod.fst) = true := by
  rw [okCs, List.take_add_one, hb, List.map_append, List.all_append]
  rw [okCs] at h
  rw [h]; simpa using h1
theorem okCs_bad {r : ReqM} {l : List (List Int × Value)} {k : Nat} {b : List Int × Value} (hb : l[k]? = some b) (h1 : (decide (b.1.length ≠ 0) && holdsM r b.1) = false) : okCs r (l.map Prod.fst) = false := by
  rw [okCs, List.all_eq_false]
  exact ⟨b.1, List.mem_map.2 ⟨b, List.mem_of_getElem? hb, rfl⟩, by rw [h1]; decide⟩
theorem flat_next {l : List (List Int × Value)} {k : Nat} {b : List Int × Value} (hb : l[k]? = some b) : ((l.take k).map Prod.fst).flatten.map icell ++ b.1.map icell = ((l.take (k + 1)).map Prod.fst).flatten.map icell := by
  rw [List.take_add_one, hb, List.map_append, List.flatten_append, List.map_append]; simp
theorem flat_take (l : List (List Int × Value)) (k : Nat) : ((l.take k).map Prod.fst).flatten.length ≤ (l.map Prod.fst).flatten.length := by
  have e : l.map Prod.fst = (l.take k).map Prod.fst ++ (l.drop k).map Prod.fst := by rw [← List.map_append, List.take_append_drop]
  rw [e, List.flatten_append, List.length_append]; omega
theorem flat_elt {l : List (List Int × Value)} {k : Nat} {b : List Int × Value} (hb : l[k]? = some b) : ((l.take k).map Prod.fst).flatten.length + b.1.length ≤ (l.map Prod.fst).flatten.length := by
  have h1 := congrArg List.length (flat_next hb)
  have h2 := flat_take l (k + 1)
  simp only [List.length_append, List.length_map] at h1
  omega
section
variable {r : ReqM} {pv tv iv uv cv : Value} {us : List Int} {l : List (List Int × Value)} (w : World) (h : Rd w pv 2 (r.pairs.map PairM.cells)) (h2 : Rd w tv 7 (r.types.map TypeM.cells)) (h3 : Rd w iv 7 (r.items.map ItemM.cells)) (h4 : Rd w uv 1 (us.map icell)) (h5 : Rd w cv 1 (l.map gcell)) (hs : Subs w id l) (hul : us.length ≤ 1048576) (hfl : (l.map Prod.fst).flatten.length ≤ 1048576)
include h h2 h3 h4 h5 hs hul hfl
theorem isPacking_any : FnV Tryz.prog 42 [.agg (r.cells pv tv iv).toArray, uv, cv] w (.bool (packM r us (l.map Prod.fst))) := by
  have hle := h5.le_map
  have hln : (l.map gcell).length = l.length := by simp
  refine FnV.of (n := 52) Tryz.func42 rfl rfl ?_; refine G.seq (G.region ?_); refine G.op (og_box rfl rfl) rfl (fun bk3 _ => ?_); refine G.v (rv_assign rfl) rfl (G.done (G.thenN (G.seq (G.seq (G.region ?_)))))
  (first | refine G.v (rv_loadW 0 rfl rfl rfl) rfl ?_ | refine G.v (rv_loadW 1 rfl rfl rfl) rfl ?_ | refine G.v (rv_loadW 2 rfl rfl rfl) rfl ?_ | refine G.v (rv_loadW 3 rfl rfl rfl) rfl ?_ | refine G.v (rv_loadW 4 rfl rfl rfl) rfl ?_ | refine G.v (rv_loadW 5 rfl rfl rfl) rfl ?_ | refine G.v (rv_loadP 0 rfl rfl (.one (.one (.one (.one (.one (.one (.one (.one (.one (.one .nil))))))))))) rfl ?_ | refine G.v (rv_loadP 1 rfl rfl (.one (.one (.one (.one (.one (.one (.one (.one (.one (.one .nil))))))))))) rfl ?_ | refine G.v (rv_loadP 2 rfl rfl (.one (.one (.one (.one (.one (.one (.one (.one (.one (.one .nil))))))))))) rfl ?_ | refine G.v (rv_loadP 3 rfl rfl (.one (.one (.one (.one (.one (.one (.one (.one (.one (.one .nil))))))))))) rfl ?_ | refine G.v (rv_loadP 4 rfl rfl (.one (.one (.one (.one (.one (.one (.one (.one (.one (.one .nil))))))))))) rfl ?_ | refine G.v (rv_loadP 5 rfl rfl (.one (.one (.one (.one (.one (.one (.one (.one (.one (.one .nil))))))))))) rfl ?_)
  refine G.op (og_callV rfl rfl (fun w hh => sound_any (r := r) w (Rd.stays h _ hh) (Rd.stays h2 _ hh) (Rd.stays h3 _ hh))) rfl (fun _ _ => ?_); refine G.v (rv_not rfl) rfl (G.done (G.thenN ?_)); refine G.cond rfl (fun hc => ?_) (fun hc => ?_)
  · try exact Bool.noConfusion hc
    all_goals
     try replace hc := of_decide_eq_true hc
     try simp only [hln] at hc
     try (exfalso; first | contradiction | omega)
     all_goals
      have hno : ¬ classM r = 0 := (by first | exact of_decide_eq_false (by simpa using hc) | simpa using hc)
      all_goals
       refine G.seq (G.region (G.v (rv_assign rfl) rfl (G.done (G.thenN (G.ret (G.thenR ?_))))))
       first | exact G.retFV rfl rfl (congrArg Value.bool (packM_no hno).symm) | exact G.retFV rfl rfl (congrArg Value.bool (packM_bad hbad).symm) | exact G.retFV rfl rfl (congrArg Value.bool (packM_ok hyes hok).symm)
  · try exact Bool.noConfusion hc
    all_goals
     try replace hc := of_decide_eq_false hc
     try simp only [hln] at hc
     try (exfalso; first | contradiction | omega)
     all_goals
      have hyes : classM r = 0 := (by first | exact of_decide_eq_true (by simpa using hc) | simpa using hc)
      all_goals
       refine G.skip (G.thenN (G.seq (G.region ?_)))
       (first | refine G.v (rv_loadW 0 rfl rfl rfl) rfl ?_ | refine G.v (rv_loadW 1 rfl rfl rfl) rfl ?_ | refine G.v (rv_loadW 2 rfl rfl rfl) rfl ?_ | refine G.v (rv_loadW 3 rfl rfl rfl) rfl ?_ | refine G.v (rv_loadW 4 rfl rfl rfl) rfl ?_ | refine G.v (rv_loadW 5 rfl rfl rfl) rfl ?_ | refine G.v (rv_loadP 0 rfl rfl (.one (.one (.one (.one (.one (.one (.one (.one (.one (.one .nil))))))))))) rfl ?_ | refine G.v (rv_loadP 1 rfl rfl (.one (.one (.one (.one (.one (.one (.one (.one (.one (.one .nil))))))))))) rfl ?_ | refine G.v (rv_loadP 2 rfl rfl (.one (.one (.one (.one (.one (.one (.one (.one (.one (.one .nil))))))))))) rfl ?_ | refine G.v (rv_loadP 3 rfl rfl (.one (.one (.one (.one (.one (.one (.one (.one (.one (.one .nil))))))))))) rfl ?_ | refine G.v (rv_loadP 4 rfl rfl (.one (.one (.one (.one (.one (.one (.one (.one (.one (.one .nil))))))))))) rfl ?_ | refine G.v (rv_loadP 5 rfl rfl (.one (.one (.one (.one (.one (.one (.one (.one (.one (.one .nil))))))))))) rfl ?_)
       refine G.op (og_callV rfl rfl (fun w hh => masterOf_any (r := r) w (Rd.stays h2 _ hh))) rfl (fun _ _ => ?_); refine G.v (rv_move rfl) rfl (G.v (rv_extract rfl rfl) rfl (G.v (rv_extract rfl rfl) rfl ?_)); refine G.op (og_alloc) rfl (fun bk7 _ => ?_)
       (first | refine G.op0 (og_st0 rfl rfl rfl rfl rfl rfl (.zero (.cons (.cons (.cons (.cons (.cons (.cons (.cons .nil))))))))) (fun _ _ => ?_) | refine G.op0 (og_st1 rfl rfl rfl rfl rfl rfl (.zero (.cons (.cons (.cons (.cons (.cons (.cons (.cons .nil))))))))) (fun _ _ => ?_) | refine G.op0 (og_st2 rfl rfl rfl rfl rfl rfl (.zero (.cons (.cons (.cons (.cons (.cons (.cons (.cons .nil))))))))) (fun _ _ => ?_) | refine G.op0 (og_st3 rfl rfl rfl rfl rfl rfl (.zero (.cons (.cons (.cons (.cons (.cons (.cons (.cons .nil))))))))) (fun _ _ => ?_) | refine G.op0 (og_st4 rfl rfl rfl rfl rfl rfl (.zero (.cons (.cons (.cons (.cons (.cons (.cons (.cons .nil))))))))) (fun _ _ => ?_) | refine G.op0 (og_st5 rfl rfl rfl rfl rfl rfl (.zero (.cons (.cons (.cons (.cons (.cons (.cons (.cons .nil))))))))) (fun _ _ => ?_))
       refine G.v (rv_assign rfl) rfl (G.done (G.thenN (G.seq (G.region ?_)))); refine G.op (og_lit rfl .nil rfl rfl rfl rfl rfl rfl) rfl (fun vl _ => ?_); refine G.v (rv_assign rfl) rfl (G.done (G.thenN (G.seq (G.seq (G.region (G.v (rv_move rfl) rfl ?_)))))); refine G.v (rv_len rfl (by first | exact Rd.stays (by assumption) | exact Rd.owned 0 rfl | exact Rd.owned 1 rfl | exact Rd.owned 2 rfl | exact Rd.owned 3 rfl | exact Rd.owned 4 rfl | exact Rd.owned 5 rfl | exact Rd.stays (hs.at hb))) rfl ?_; refine G.v (rv_move rfl) rfl (G.done (G.thenN (G.block ?_)))
       -- loop 0: turned [9, 24], kept [1, 3, 7, 22, 23]
       (first | refine G.frontR0 vl rfl ?_ | refine G.frontR1 vl rfl ?_ | refine G.frontR2 vl rfl ?_ | refine G.frontR3 vl rfl ?_ | refine G.frontR4 vl rfl ?_ | refine G.frontR5 vl rfl ?_ | refine G.frontR6 vl rfl ?_ | refine G.frontR7 vl rfl ?_ | refine G.frontR8 vl rfl ?_ | refine G.frontR9 vl rfl ?_ | refine G.frontR10 vl rfl ?_ | refine G.frontR11 vl rfl ?_ | refine G.frontR12 vl rfl ?_ | refine G.frontR13 vl rfl ?_)
       refine G.loopK (ι := Nat × Value) (ks := [1, 3, 7, 22, 23]) (fun x => [(9, x.2), (24, .int .i64 (x.1 : Int))]) (fun x => [.row x.2 3 1 (((l.take x.1).map Prod.fst).flatten.map icell)]) (fun x => x.1 ≤ l.length ∧ okCs r ((l.take x.1).map Prod.fst) = true) (fun x => l.length - x.1) (0, vl) (.cons rfl (.cons rfl (.cons rfl (.cons rfl (.cons rfl (.nil)))))) rfl ?_ ?_ ?_
       · exact ⟨Nat.zero_le _, rfl⟩
       · exact ⟨rfl, rfl, trivial⟩
       rintro ⟨k, v⟩ ⟨hk, hok⟩
       dsimp only at hk hok ⊢
       have hft := flat_take l k
       by_cases hlt : k < l.length
       case' pos => (obtain ⟨b, hb⟩ := get_of_lt hlt; have he := get_map hb gcell; have hfe := flat_elt hb; have hfe3 : (((l.take k).map Prod.fst).flatten.map icell).length + (b.1.map icell).length ≤ 1048576 := (by rw [List.length_map, List.length_map]; omega); simp at hfe3)
       case' neg => (have hall : l.take k = l := take_all hlt)
       all_goals
        refine G.seq (G.region (G.v (rv_lss rfl rfl) rfl (G.done (G.thenN (G.seq ?_))))); refine G.cond rfl (fun hc => ?_) (fun hc => ?_)
        · try exact Bool.noConfusion hc
          all_goals
           try replace hc := of_decide_eq_true hc
           try simp only [hln] at hc
           try (exfalso; first | contradiction | omega)
           all_goals
            refine G.skip (G.thenN (G.seq (G.block (G.seq (G.region ?_)))))
            (first | refine G.v (rv_indexH rfl rfl (by first | exact Rd.stays (by assumption) | exact Rd.owned 0 rfl | exact Rd.owned 1 rfl | exact Rd.owned 2 rfl | exact Rd.owned 3 rfl | exact Rd.owned 4 rfl | exact Rd.owned 5 rfl | exact Rd.stays (hs.at hb)) rfl (by first | exact he)) rfl ?_ | refine G.v (rv_index rfl rfl (by first | exact Rd.stays (by assumption) | exact Rd.owned 0 rfl | exact Rd.owned 1 rfl | exact Rd.owned 2 rfl | exact Rd.owned 3 rfl | exact Rd.owned 4 rfl | exact Rd.owned 5 rfl | exact Rd.stays (hs.at hb)) rfl (by assumption)) rfl ?_)
            refine G.v (rv_loadE rfl (by first | exact Rd.stays (by assumption) | exact Rd.owned 0 rfl | exact Rd.owned 1 rfl | exact Rd.owned 2 rfl | exact Rd.owned 3 rfl | exact Rd.owned 4 rfl | exact Rd.owned 5 rfl | exact Rd.stays (hs.at hb)) (by first | exact he) rfl) rfl ?_; refine G.v (rv_assign rfl) rfl (G.done (G.thenN (G.seq (G.seq (G.region (G.v (rv_move rfl) rfl ?_)))))); refine G.v (rv_len rfl (by first | exact Rd.stays (by assumption) | exact Rd.owned 0 rfl | exact Rd.owned 1 rfl | exact Rd.owned 2 rfl | exact Rd.owned 3 rfl | exact Rd.owned 4 rfl | exact Rd.owned 5 rfl | exact Rd.stays (hs.at hb))) rfl ?_; refine G.v (rv_eql rfl rfl) rfl (G.v (rv_move rfl) rfl ?_)
            all_goals (((with_reducible refine G.gP rfl rfl (fun hg => ?_) (fun hg => ?_)) <;> (try exact Bool.noConfusion hg) <;> (first | (refine G.gY rfl rfl ?_; (first | refine G.v (rv_loadW 0 rfl rfl rfl) rfl ?_ | refine G.v (rv_loadW 1 rfl rfl rfl) rfl ?_ | refine G.v (rv_loadW 2 rfl rfl rfl) rfl ?_ | refine G.v (rv_loadW 3 rfl rfl rfl) rfl ?_ | refine G.v (rv_loadW 4 rfl rfl rfl) rfl ?_ | refine G.v (rv_loadW 5 rfl rfl rfl) rfl ?_ | refine G.v (rv_loadP 0 rfl rfl (.one (.one (.one (.one (.one (.one (.one (.one (.one (.one .nil))))))))))) rfl ?_ | refine G.v (rv_loadP 1 rfl rfl (.one (.one (.one (.one (.one (.one (.one (.one (.one (.one .nil))))))))))) rfl ?_ | refine G.v (rv_loadP 2 rfl rfl (.one (.one (.one (.one (.one (.one (.one (.one (.one (.one .nil))))))))))) rfl ?_ | refine G.v (rv_loadP 3 rfl rfl (.one (.one (.one (.one (.one (.one (.one (.one (.one (.one .nil))))))))))) rfl ?_ | refine G.v (rv_loadP 4 rfl rfl (.one (.one (.one (.one (.one (.one (.one (.one (.one (.one .nil))))))))))) rfl ?_ | refine G.v (rv_loadP 5 rfl rfl (.one (.one (.one (.one (.one (.one (.one (.one (.one (.one .nil))))))))))) rfl ?_)) | refine G.gN rfl rfl rfl ?_ | refine G.gU rfl rfl rfl ?_)))
            all_goals ((first | (refine G.gY rfl rfl ?_; refine G.v (rv_move rfl) rfl ?_) | refine G.gN rfl rfl rfl ?_ | refine G.gU rfl rfl rfl ?_))
            all_goals ((first | (refine G.gY rfl rfl ?_; (first | refine G.v (rv_loadW 0 rfl rfl rfl) rfl ?_ | refine G.v (rv_loadW 1 rfl rfl rfl) rfl ?_ | refine G.v (rv_loadW 2 rfl rfl rfl) rfl ?_ | refine G.v (rv_loadW 3 rfl rfl rfl) rfl ?_ | refine G.v (rv_loadW 4 rfl rfl rfl) rfl ?_ | refine G.v (rv_loadW 5 rfl rfl rfl) rfl ?_ | refine G.v (rv_loadP 0 rfl rfl (.one (.one (.one (.one (.one (.one (.one .nil)))))))) rfl ?_ | refine G.v (rv_loadP 1 rfl rfl (.one (.one (.one (.one (.one (.one (.one .nil)))))))) rfl ?_ | refine G.v (rv_loadP 2 rfl rfl (.one (.one (.one (.one (.one (.one (.one .nil)))))))) rfl ?_ | refine G.v (rv_loadP 3 rfl rfl (.one (.one (.one (.one (.one (.one (.one .nil)))))))) rfl ?_ | refine G.v (rv_loadP 4 rfl rfl (.one (.one (.one (.one (.one (.one (.one .nil)))))))) rfl ?_ | refine G.v (rv_loadP 5 rfl rfl (.one (.one (.one (.one (.one (.one (.one .nil)))))))) rfl ?_)) | refine G.gN rfl rfl rfl ?_ | refine G.gU rfl rfl rfl ?_))
            all_goals ((first | (refine G.gY rfl rfl ?_; refine G.op (og_callV rfl rfl (fun w hh => within_any (r := r) (us := b.1) w (Rd.stays h _ hh) (Rd.stays h2 _ hh) (Rd.stays h3 _ hh) (Rd.stays (hs.at hb) _ hh) (by omega) (mst r))) rfl (fun _ _ => ?_)) | refine G.gN rfl rfl rfl ?_ | refine G.gU rfl rfl rfl ?_))
            all_goals ((first | (refine G.gY rfl rfl ?_; refine G.v (rv_not rfl) rfl ?_) | refine G.gN rfl rfl rfl ?_ | refine G.gU rfl rfl rfl ?_))
            all_goals ((first | refine G.v (rv_pickT rfl rfl) rfl ?_ | refine G.v (rv_pickF rfl rfl) rfl ?_))
            all_goals
             refine G.done (G.thenN ?_); refine G.cond rfl (fun hc => ?_) (fun hc => ?_)
             · try exact Bool.noConfusion hc
               all_goals
                try replace hc := of_decide_eq_true hc
                try simp only [hln] at hc
                try (exfalso; first | contradiction | omega)
                all_goals
                 have hbad : okCs r (l.map Prod.fst) = false := okCs_bad hb (by have e := within_mst r b.1; simp only [decide_eq_true_eq, decide_eq_false_iff_not] at hg; simp_all)
                 all_goals
                  refine G.seq (G.region (G.v (rv_assign rfl) rfl (G.done (G.thenN (G.ret (G.thenR (G.inR (G.thenR (G.thenR (G.inR (G.thenR ?_)))))))))))
                  first | exact G.retFV rfl rfl (congrArg Value.bool (packM_no hno).symm) | exact G.retFV rfl rfl (congrArg Value.bool (packM_bad hbad).symm) | exact G.retFV rfl rfl (congrArg Value.bool (packM_ok hyes hok).symm)
             · try exact Bool.noConfusion hc
               all_goals
                try replace hc := of_decide_eq_false hc
                try simp only [hln] at hc
                try (exfalso; first | contradiction | omega)
                all_goals
                 have hgood : (decide (b.1.length ≠ 0) && holdsM r b.1) = true := (by have e := within_mst r b.1; simp only [decide_eq_true_eq, decide_eq_false_iff_not] at hg; simp_all)
                 all_goals
                  refine G.skip (G.thenN (G.region (G.v (rv_move rfl) rfl (G.v (rv_move rfl) rfl ?_))))
                  (first | refine G.op (og_app0 rfl rfl rfl (by first | exact Rd.stays (by assumption) | exact Rd.owned 0 rfl | exact Rd.owned 1 rfl | exact Rd.owned 2 rfl | exact Rd.owned 3 rfl | exact Rd.owned 4 rfl | exact Rd.owned 5 rfl | exact Rd.stays (hs.at hb)) rfl rfl (by first | (simp; done) | (simp; omega)) (by first | (simp; done) | (simp; omega))) rfl (fun va _ => ?_) | refine G.op (og_app1 rfl rfl rfl (by first | exact Rd.stays (by assumption) | exact Rd.owned 0 rfl | exact Rd.owned 1 rfl | exact Rd.owned 2 rfl | exact Rd.owned 3 rfl | exact Rd.owned 4 rfl | exact Rd.owned 5 rfl | exact Rd.stays (hs.at hb)) rfl rfl (by first | (simp; done) | (simp; omega)) (by first | (simp; done) | (simp; omega))) rfl (fun va _ => ?_) | refine G.op (og_app2 rfl rfl rfl (by first | exact Rd.stays (by assumption) | exact Rd.owned 0 rfl | exact Rd.owned 1 rfl | exact Rd.owned 2 rfl | exact Rd.owned 3 rfl | exact Rd.owned 4 rfl | exact Rd.owned 5 rfl | exact Rd.stays (hs.at hb)) rfl rfl (by first | (simp; done) | (simp; omega)) (by first | (simp; done) | (simp; omega))) rfl (fun va _ => ?_) | refine G.op (og_app3 rfl rfl rfl (by first | exact Rd.stays (by assumption) | exact Rd.owned 0 rfl | exact Rd.owned 1 rfl | exact Rd.owned 2 rfl | exact Rd.owned 3 rfl | exact Rd.owned 4 rfl | exact Rd.owned 5 rfl | exact Rd.stays (hs.at hb)) rfl rfl (by first | (simp; done) | (simp; omega)) (by first | (simp; done) | (simp; omega))) rfl (fun va _ => ?_) | refine G.op (og_app4 rfl rfl rfl (by first | exact Rd.stays (by assumption) | exact Rd.owned 0 rfl | exact Rd.owned 1 rfl | exact Rd.owned 2 rfl | exact Rd.owned 3 rfl | exact Rd.owned 4 rfl | exact Rd.owned 5 rfl | exact Rd.stays (hs.at hb)) rfl rfl (by first | (simp; done) | (simp; omega)) (by first | (simp; done) | (simp; omega))) rfl (fun va _ => ?_) | refine G.op (og_app5 rfl rfl rfl (by first | exact Rd.stays (by assumption) | exact Rd.owned 0 rfl | exact Rd.owned 1 rfl | exact Rd.owned 2 rfl | exact Rd.owned 3 rfl | exact Rd.owned 4 rfl | exact Rd.owned 5 rfl | exact Rd.stays (hs.at hb)) rfl rfl (by first | (simp; done) | (simp; omega)) (by first | (simp; done) | (simp; omega))) rfl (fun va _ => ?_))
                  refine G.v (rv_assign rfl) rfl (G.done (G.inN (G.thenN (G.region ?_))))
                  (first | refine G.v (rv_incr rfl rfl (by omega)) rfl ?_ | refine G.v (rv_addB rfl rfl (by omega) (by omega)) rfl ?_)
                  refine G.v (rv_move rfl) rfl (G.done ?_)
                  (first | refine G.frontR0 va rfl ?_ | refine G.frontR1 va rfl ?_ | refine G.frontR2 va rfl ?_ | refine G.frontR3 va rfl ?_ | refine G.frontR4 va rfl ?_ | refine G.frontR5 va rfl ?_ | refine G.frontR6 va rfl ?_ | refine G.frontR7 va rfl ?_ | refine G.frontR8 va rfl ?_ | refine G.frontR9 va rfl ?_ | refine G.frontR10 va rfl ?_ | refine G.frontR11 va rfl ?_ | refine G.frontR12 va rfl ?_ | refine G.frontR13 va rfl ?_)
                  first | refine G.backK (k + 1, va) 0 (one_eq (congrArg (fun z => Ch.row va 3 1 z) (flat_next hb))) (.cons rfl (.cons rfl (.cons rfl (.cons rfl (.cons rfl (.nil)))))) ?_ ?_ ?_ | refine G.backK (k + 1, va) 1 (one_eq (congrArg (fun z => Ch.row va 3 1 z) (flat_next hb))) (.cons rfl (.cons rfl (.cons rfl (.cons rfl (.cons rfl (.nil)))))) ?_ ?_ ?_ | refine G.backK (k + 1, va) 2 (one_eq (congrArg (fun z => Ch.row va 3 1 z) (flat_next hb))) (.cons rfl (.cons rfl (.cons rfl (.cons rfl (.cons rfl (.nil)))))) ?_ ?_ ?_
                  · exact ⟨rfl, rfl, trivial⟩
                  · exact ⟨hlt, okCs_next hb hok hgood⟩
                  · dsimp only; omega
        · try exact Bool.noConfusion hc
          all_goals
           try replace hc := of_decide_eq_false hc
           try simp only [hln] at hc
           try (exfalso; first | contradiction | omega)
           all_goals
            refine G.exit (G.thenX (G.thenX (G.inX (G.thenN (G.seq (G.region ?_))))))
            (first | refine G.v (rv_loadW 0 rfl rfl rfl) rfl ?_ | refine G.v (rv_loadW 1 rfl rfl rfl) rfl ?_ | refine G.v (rv_loadW 2 rfl rfl rfl) rfl ?_ | refine G.v (rv_loadW 3 rfl rfl rfl) rfl ?_ | refine G.v (rv_loadW 4 rfl rfl rfl) rfl ?_ | refine G.v (rv_loadW 5 rfl rfl rfl) rfl ?_ | refine G.v (rv_loadP 0 rfl rfl (.one (.one (.one (.one (.one (.one (.one (.one (.one (.one .nil))))))))))) rfl ?_ | refine G.v (rv_loadP 1 rfl rfl (.one (.one (.one (.one (.one (.one (.one (.one (.one (.one .nil))))))))))) rfl ?_ | refine G.v (rv_loadP 2 rfl rfl (.one (.one (.one (.one (.one (.one (.one (.one (.one (.one .nil))))))))))) rfl ?_ | refine G.v (rv_loadP 3 rfl rfl (.one (.one (.one (.one (.one (.one (.one (.one (.one (.one .nil))))))))))) rfl ?_ | refine G.v (rv_loadP 4 rfl rfl (.one (.one (.one (.one (.one (.one (.one (.one (.one (.one .nil))))))))))) rfl ?_ | refine G.v (rv_loadP 5 rfl rfl (.one (.one (.one (.one (.one (.one (.one (.one (.one (.one .nil))))))))))) rfl ?_)
            refine G.v (rv_move rfl) rfl ?_
            (refine G.op (og_callF1 rfl rfl (fun w hh => thereOf_any (r := r) (us := us) w (Rd.stays h _ hh) (Rd.stays h2 _ hh) (Rd.stays h3 _ hh) (Rd.stays h4 _ hh) hul)) rfl ?_; rintro vt hvt; try dsimp only)
            rw [hall] at hok
            (first | refine G.frontR0 v rfl ?_ | refine G.frontR1 v rfl ?_ | refine G.frontR2 v rfl ?_ | refine G.frontR3 v rfl ?_ | refine G.frontR4 v rfl ?_ | refine G.frontR5 v rfl ?_ | refine G.frontR6 v rfl ?_ | refine G.frontR7 v rfl ?_ | refine G.frontR8 v rfl ?_ | refine G.frontR9 v rfl ?_ | refine G.frontR10 v rfl ?_ | refine G.frontR11 v rfl ?_ | refine G.frontR12 v rfl ?_ | refine G.frontR13 v rfl ?_)
            refine G.rowEq ((l.map Prod.fst).flatten.map icell) (by rw [hall]) rfl ?_; refine G.v (rv_assign rfl) rfl (G.done (G.thenN (G.seq (G.region (G.v (rv_move rfl) rfl ?_)))))
            ((first | refine G.frontR0 (v) rfl ?_ | refine G.frontR1 (v) rfl ?_ | refine G.frontR2 (v) rfl ?_ | refine G.frontR3 (v) rfl ?_ | refine G.frontR4 (v) rfl ?_ | refine G.frontR5 (v) rfl ?_ | refine G.frontR6 (v) rfl ?_ | refine G.frontR7 (v) rfl ?_ | refine G.frontR8 (v) rfl ?_ | refine G.frontR9 (v) rfl ?_ | refine G.frontR10 (v) rfl ?_ | refine G.frontR11 (v) rfl ?_ | refine G.frontR12 (v) rfl ?_ | refine G.frontR13 (v) rfl ?_ | refine G.frontR14 (v) rfl ?_ | refine G.frontR15 (v) rfl ?_); refine G.op (og_callMM1 rfl rfl rfl (sortG_any (ks := (l.map Prod.fst).flatten) hfl)) rfl ?_; rintro ⟨⟩ _; try dsimp only)
            refine G.done (G.thenN (G.seq (G.region (G.v (rv_move rfl) rfl ?_))))
            ((first | refine G.frontR0 (vt) rfl ?_ | refine G.frontR1 (vt) rfl ?_ | refine G.frontR2 (vt) rfl ?_ | refine G.frontR3 (vt) rfl ?_ | refine G.frontR4 (vt) rfl ?_ | refine G.frontR5 (vt) rfl ?_ | refine G.frontR6 (vt) rfl ?_ | refine G.frontR7 (vt) rfl ?_ | refine G.frontR8 (vt) rfl ?_ | refine G.frontR9 (vt) rfl ?_ | refine G.frontR10 (vt) rfl ?_ | refine G.frontR11 (vt) rfl ?_ | refine G.frontR12 (vt) rfl ?_ | refine G.frontR13 (vt) rfl ?_ | refine G.frontR14 (vt) rfl ?_ | refine G.frontR15 (vt) rfl ?_); refine G.op (og_callMM1 rfl rfl rfl (sortG_any (ks := thereM r us) (by have := thereM_len r us; omega))) rfl ?_; rintro ⟨⟩ _; try dsimp only)
            refine G.done (G.thenN (G.seq (G.region (G.v (rv_move rfl) rfl (G.v (rv_move rfl) rfl ?_))))); refine G.op (og_callV rfl rfl (fun w hh => equalInt_any (xs := sortM (l.map Prod.fst).flatten) (ys := sortM (thereM r us)) w (by first | exact Rd.stays (by assumption) _ hh | exact Rd.owned 0 rfl _ hh | exact Rd.owned 1 rfl _ hh | exact Rd.owned 2 rfl _ hh | exact Rd.owned 3 rfl _ hh | exact Rd.owned 4 rfl _ hh | exact Rd.owned 5 rfl _ hh | exact Rd.owned 6 rfl _ hh | exact Rd.owned 7 rfl _ hh | exact Rd.owned 8 rfl _ hh | exact Rd.owned 9 rfl _ hh | exact Rd.owned 10 rfl _ hh | exact Rd.owned 11 rfl _ hh | exact Rd.owned 12 rfl _ hh | exact Rd.owned 13 rfl _ hh | exact Rd.owned 14 rfl _ hh | exact Rd.owned 15 rfl _ hh) (by first | exact Rd.stays (by assumption) _ hh | exact Rd.owned 0 rfl _ hh | exact Rd.owned 1 rfl _ hh | exact Rd.owned 2 rfl _ hh | exact Rd.owned 3 rfl _ hh | exact Rd.owned 4 rfl _ hh | exact Rd.owned 5 rfl _ hh | exact Rd.owned 6 rfl _ hh | exact Rd.owned 7 rfl _ hh | exact Rd.owned 8 rfl _ hh | exact Rd.owned 9 rfl _ hh | exact Rd.owned 10 rfl _ hh | exact Rd.owned 11 rfl _ hh | exact Rd.owned 12 rfl _ hh | exact Rd.owned 13 rfl _ hh | exact Rd.owned 14 rfl _ hh | exact Rd.owned 15 rfl _ hh))) rfl (fun _ _ => ?_); refine G.v (rv_assign rfl) rfl (G.done (G.thenN (G.ret ?_)))
            first | exact G.retFV rfl rfl (congrArg Value.bool (packM_no hno).symm) | exact G.retFV rfl rfl (congrArg Value.bool (packM_bad hbad).symm) | exact G.retFV rfl rfl (congrArg Value.bool (packM_ok hyes hok).symm)
end
end Go.Proofs.YtibkggjbkgdnkaaGreat

/-
  Whether cartons are a packing: the reference's way, and the law.
-/
namespace Go.Proofs.YtibkggjbkgdnkaaGreat
open Go.RowKit
attribute [local irreducible] Go.wpList Go.Code.wp Go.Exit.then Go.Exit.inBlock Go.bodyPost Go.Calls pE pB G RunsV FnV Fn FnM
set_option maxRecDepth 100000
set_option maxHeartbeats 4000000
theorem times_next {l : List Int} {k : Nat} {b x : Int} (hb : l[k]? = some b) : (timesM (l.take (k + 1)) x : Int) = timesM (l.take k) x + (if decide (b = x) then 1 else 0) := by
  rw [timesM, cnt_nextU hb, timesM]
theorem times_le (l : List Int) (x : Int) : timesM l x ≤ l.length := List.countP_le_length
theorem l8Times_any {v : Value} {l : List Int} (x : Int) (w : World) (h : Rd w v 1 (l.map icell)) (hn : l.length ≤ 1048576) : FnV Tryz.prog 109 [v, .int .i64 x] w (.int .i64 (timesM l x : Int)) := by
  have hln : (l.map icell).length = l.length := by simp
  refine FnV.of (n := 23) Tryz.func109 rfl rfl ?_; refine G.seq (G.region (G.v (rv_assign rfl) rfl (G.done (G.thenN (G.seq (G.region (G.v (rv_assign rfl) rfl (G.done (G.thenN (G.seq (G.seq ?_))))))))))); refine G.region (G.v (rv_assign rfl) rfl (G.done (G.thenN (G.block ?_))))
  -- loop 0: turned [5, 6], kept [0, 1]
  refine G.loopK (ι := Nat) (ks := [0, 1]) (fun k => [(5, .int .i64 (timesM (l.take k) x : Int)), (6, .int .i64 k)]) (fun _ => []) (fun k => k ≤ l.length) (fun k => l.length - k) 0 (.cons rfl (.cons rfl (.nil))) rfl ?_ ?_ ?_
  · exact Nat.zero_le _
  · exact ⟨rfl, rfl, trivial⟩
  rintro k hk
  have hc1 := times_le (l.take k) x
  rw [List.length_take, Nat.min_eq_left hk] at hc1
  by_cases hlt : k < l.length
  case' pos => (obtain ⟨b, hb⟩ := get_of_lt hlt; have he := get_map hb icell; have hbit : ∀ b : Bool, 0 ≤ (if b then (1 : Int) else 0) ∧ (if b then (1 : Int) else 0) ≤ 1 := (fun b => by cases b <;> decide))
  all_goals
   refine G.seq (G.seq (G.region (G.v (rv_move rfl) rfl (G.v (rv_move rfl) rfl ?_)))); refine G.v (rv_len rfl (by first | exact Rd.stays (by assumption) | exact Rd.owned 0 rfl)) rfl ?_; refine G.v (rv_lss rfl rfl) rfl (G.done (G.thenN ?_)); refine G.cond rfl (fun hc => ?_) (fun hc => ?_)
   · try exact Bool.noConfusion hc
     all_goals
      try replace hc := of_decide_eq_true hc
      try simp only [List.length_map] at hc
      try (exfalso; first | contradiction | omega)
      all_goals
       refine G.skip (G.thenN (G.seq (G.block (G.region (G.v (rv_move rfl) rfl (G.v (rv_move rfl) rfl (G.v (rv_move rfl) rfl ?_)))))))
       (first | refine G.v (rv_indexH rfl rfl (by first | exact Rd.stays (by assumption) | exact Rd.owned 0 rfl) rfl (by assumption)) rfl ?_ | refine G.v (rv_index rfl rfl (by first | exact Rd.stays (by assumption) | exact Rd.owned 0 rfl) rfl (by assumption)) rfl ?_)
       refine G.v (rv_loadE rfl (by first | exact Rd.stays (by assumption) | exact Rd.owned 0 rfl) (by assumption) rfl) rfl ?_; refine G.v (rv_move rfl) rfl (G.v (rv_eql rfl rfl) rfl ?_); refine G.op (og_callV rfl rfl (fun w _ => l1Bit_any _ w)) rfl (fun _ _ => ?_)
       have hb1 := hbit (decide (b = x))
       (first | refine G.v (rv_incr rfl rfl (by omega)) rfl ?_ | refine G.v (rv_addB rfl rfl (by omega) (by omega)) rfl ?_)
       refine G.v (rv_assign rfl) rfl (G.done (G.inN (G.thenN (G.region (G.v (rv_move rfl) rfl ?_)))))
       (first | refine G.v (rv_incr rfl rfl (by omega)) rfl ?_ | refine G.v (rv_addB rfl rfl (by omega) (by omega)) rfl ?_)
       refine G.v (rv_assign rfl) rfl (G.done ?_)
       first | refine G.backK (k + 1) 0 rfl (.cons rfl (.cons rfl (.nil))) ?_ ?_ ?_ | refine G.backK (k + 1) 1 rfl (.cons rfl (.cons rfl (.nil))) ?_ ?_ ?_
       · exact ⟨congrArg (fun z => some (Value.int .i64 z)) (times_next hb).symm, rfl, trivial⟩
       · exact hlt
       · omega
   · try exact Bool.noConfusion hc
     all_goals
      try replace hc := of_decide_eq_false hc
      try simp only [List.length_map] at hc
      try (exfalso; first | contradiction | omega)
      all_goals
       refine G.exit (G.thenX (G.thenX (G.inX (G.thenN (G.seq (G.region (G.v (rv_move rfl) rfl (G.v (rv_assign rfl) rfl (G.done (G.thenN (G.ret ?_)))))))))))
       exact G.retFV rfl rfl (congrArg (Value.int .i64) (by rw [take_all hlt]))
section
variable {r : ReqM} {pv tv iv uv cv : Value} {us : List Int} {l : List (List Int × Value)} (w : World) (h : Rd w pv 2 (r.pairs.map PairM.cells)) (h2 : Rd w tv 7 (r.types.map TypeM.cells)) (h3 : Rd w iv 7 (r.items.map ItemM.cells)) (h4 : Rd w uv 1 (us.map icell)) (h5 : Rd w cv 1 (l.map gcell)) (hs : Subs w id l) (hul : us.length ≤ 1048576) (hfl : (l.map Prod.fst).flatten.length ≤ 1048576)
include h h2 h3 h4 h5 hs hul hfl
theorem sisPacking_any : FnV Tryz.prog 40 [.agg (r.cells pv tv iv).toArray, uv, cv] w (.bool (packM r us (l.map Prod.fst))) := by
  have hle := h5.le_map
  have hln : (l.map gcell).length = l.length := by simp
  have htl := thereM_len r us
  refine FnV.of (n := 97) Tryz.func40 rfl rfl ?_; refine G.seq (G.region ?_); refine G.op (og_box rfl rfl) rfl (fun bk3 _ => ?_); refine G.v (rv_assign rfl) rfl (G.done (G.thenN (G.seq (G.seq (G.region ?_)))))
  (first | refine G.v (rv_loadW 0 rfl rfl rfl) rfl ?_ | refine G.v (rv_loadW 1 rfl rfl rfl) rfl ?_ | refine G.v (rv_loadW 2 rfl rfl rfl) rfl ?_ | refine G.v (rv_loadW 3 rfl rfl rfl) rfl ?_ | refine G.v (rv_loadW 4 rfl rfl rfl) rfl ?_ | refine G.v (rv_loadW 5 rfl rfl rfl) rfl ?_ | refine G.v (rv_loadW 6 rfl rfl rfl) rfl ?_ | refine G.v (rv_loadP 0 rfl rfl (.one (.one (.one (.one (.one (.one (.one (.one (.one (.one .nil))))))))))) rfl ?_ | refine G.v (rv_loadP 1 rfl rfl (.one (.one (.one (.one (.one (.one (.one (.one (.one (.one .nil))))))))))) rfl ?_ | refine G.v (rv_loadP 2 rfl rfl (.one (.one (.one (.one (.one (.one (.one (.one (.one (.one .nil))))))))))) rfl ?_ | refine G.v (rv_loadP 3 rfl rfl (.one (.one (.one (.one (.one (.one (.one (.one (.one (.one .nil))))))))))) rfl ?_ | refine G.v (rv_loadP 4 rfl rfl (.one (.one (.one (.one (.one (.one (.one (.one (.one (.one .nil))))))))))) rfl ?_ | refine G.v (rv_loadP 5 rfl rfl (.one (.one (.one (.one (.one (.one (.one (.one (.one (.one .nil))))))))))) rfl ?_ | refine G.v (rv_loadP 6 rfl rfl (.one (.one (.one (.one (.one (.one (.one (.one (.one (.one .nil))))))))))) rfl ?_)
  refine G.op (og_callV rfl rfl (fun w hh => sclass_any (r := r) w (Rd.stays h _ hh) (Rd.stays h2 _ hh) (Rd.stays h3 _ hh))) rfl (fun _ _ => ?_); refine G.v (rv_neq rfl rfl) rfl (G.done (G.thenN ?_)); refine G.cond rfl (fun hc => ?_) (fun hc => ?_)
  · try exact Bool.noConfusion hc
    all_goals
     try replace hc := of_decide_eq_true hc
     try simp only [hln] at hc
     try (exfalso; first | contradiction | omega)
     all_goals
      have hno : ¬ classM r = 0 := hc
      all_goals
       refine G.seq (G.region (G.v (rv_assign rfl) rfl (G.done (G.thenN (G.ret (G.thenR ?_))))))
       first | exact G.retFV rfl rfl (congrArg Value.bool (packM_no hno).symm) | exact G.retFV rfl rfl (congrArg Value.bool (packM_bad hbad).symm) | exact G.retFV rfl rfl (congrArg Value.bool hbad2.symm) | exact G.retFV rfl rfl (congrArg Value.bool hbad3.symm) | exact G.retFV rfl rfl (congrArg Value.bool (pack_yes hyes hok hsame (fun x hx => hjt x (by rw [List.take_of_length_le (by omega)]; exact hx))).symm)
  · try exact Bool.noConfusion hc
    all_goals
     try replace hc := of_decide_eq_false hc
     try simp only [hln] at hc
     try (exfalso; first | contradiction | omega)
     all_goals
      have hyes : classM r = 0 := by omega
      all_goals
       refine G.skip (G.thenN (G.seq (G.region ?_)))
       (first | refine G.v (rv_loadW 0 rfl rfl rfl) rfl ?_ | refine G.v (rv_loadW 1 rfl rfl rfl) rfl ?_ | refine G.v (rv_loadW 2 rfl rfl rfl) rfl ?_ | refine G.v (rv_loadW 3 rfl rfl rfl) rfl ?_ | refine G.v (rv_loadW 4 rfl rfl rfl) rfl ?_ | refine G.v (rv_loadW 5 rfl rfl rfl) rfl ?_ | refine G.v (rv_loadW 6 rfl rfl rfl) rfl ?_ | refine G.v (rv_loadP 0 rfl rfl (.one (.one (.one (.one (.one (.one (.one (.one (.one (.one .nil))))))))))) rfl ?_ | refine G.v (rv_loadP 1 rfl rfl (.one (.one (.one (.one (.one (.one (.one (.one (.one (.one .nil))))))))))) rfl ?_ | refine G.v (rv_loadP 2 rfl rfl (.one (.one (.one (.one (.one (.one (.one (.one (.one (.one .nil))))))))))) rfl ?_ | refine G.v (rv_loadP 3 rfl rfl (.one (.one (.one (.one (.one (.one (.one (.one (.one (.one .nil))))))))))) rfl ?_ | refine G.v (rv_loadP 4 rfl rfl (.one (.one (.one (.one (.one (.one (.one (.one (.one (.one .nil))))))))))) rfl ?_ | refine G.v (rv_loadP 5 rfl rfl (.one (.one (.one (.one (.one (.one (.one (.one (.one (.one .nil))))))))))) rfl ?_ | refine G.v (rv_loadP 6 rfl rfl (.one (.one (.one (.one (.one (.one (.one (.one (.one (.one .nil))))))))))) rfl ?_)
       refine G.op (og_callV rfl rfl (fun w hh => smasterOf_any (r := r) w (Rd.stays h2 _ hh))) rfl (fun _ _ => ?_); refine G.v (rv_move rfl) rfl (G.v (rv_extract rfl rfl) rfl (G.v (rv_extract rfl rfl) rfl ?_)); refine G.op (og_alloc) rfl (fun bk7 _ => ?_)
       (first | refine G.op0 (og_st0 rfl rfl rfl rfl rfl rfl (.zero (.cons (.cons (.cons (.cons (.cons (.cons (.cons .nil))))))))) (fun _ _ => ?_) | refine G.op0 (og_st1 rfl rfl rfl rfl rfl rfl (.zero (.cons (.cons (.cons (.cons (.cons (.cons (.cons .nil))))))))) (fun _ _ => ?_) | refine G.op0 (og_st2 rfl rfl rfl rfl rfl rfl (.zero (.cons (.cons (.cons (.cons (.cons (.cons (.cons .nil))))))))) (fun _ _ => ?_) | refine G.op0 (og_st3 rfl rfl rfl rfl rfl rfl (.zero (.cons (.cons (.cons (.cons (.cons (.cons (.cons .nil))))))))) (fun _ _ => ?_) | refine G.op0 (og_st4 rfl rfl rfl rfl rfl rfl (.zero (.cons (.cons (.cons (.cons (.cons (.cons (.cons .nil))))))))) (fun _ _ => ?_) | refine G.op0 (og_st5 rfl rfl rfl rfl rfl rfl (.zero (.cons (.cons (.cons (.cons (.cons (.cons (.cons .nil))))))))) (fun _ _ => ?_) | refine G.op0 (og_st6 rfl rfl rfl rfl rfl rfl (.zero (.cons (.cons (.cons (.cons (.cons (.cons (.cons .nil))))))))) (fun _ _ => ?_))
       refine G.v (rv_assign rfl) rfl (G.done (G.thenN (G.seq (G.region ?_))))
       (first | refine G.v (rv_loadW 0 rfl rfl rfl) rfl ?_ | refine G.v (rv_loadW 1 rfl rfl rfl) rfl ?_ | refine G.v (rv_loadW 2 rfl rfl rfl) rfl ?_ | refine G.v (rv_loadW 3 rfl rfl rfl) rfl ?_ | refine G.v (rv_loadW 4 rfl rfl rfl) rfl ?_ | refine G.v (rv_loadW 5 rfl rfl rfl) rfl ?_ | refine G.v (rv_loadW 6 rfl rfl rfl) rfl ?_ | refine G.v (rv_loadP 0 rfl rfl (.one (.one (.one (.one (.one (.one (.one (.one (.one (.one .nil))))))))))) rfl ?_ | refine G.v (rv_loadP 1 rfl rfl (.one (.one (.one (.one (.one (.one (.one (.one (.one (.one .nil))))))))))) rfl ?_ | refine G.v (rv_loadP 2 rfl rfl (.one (.one (.one (.one (.one (.one (.one (.one (.one (.one .nil))))))))))) rfl ?_ | refine G.v (rv_loadP 3 rfl rfl (.one (.one (.one (.one (.one (.one (.one (.one (.one (.one .nil))))))))))) rfl ?_ | refine G.v (rv_loadP 4 rfl rfl (.one (.one (.one (.one (.one (.one (.one (.one (.one (.one .nil))))))))))) rfl ?_ | refine G.v (rv_loadP 5 rfl rfl (.one (.one (.one (.one (.one (.one (.one (.one (.one (.one .nil))))))))))) rfl ?_ | refine G.v (rv_loadP 6 rfl rfl (.one (.one (.one (.one (.one (.one (.one (.one (.one (.one .nil))))))))))) rfl ?_)
       (refine G.op (og_callF1 rfl rfl (fun w hh => by have q := sl6Units_any (r := r) (pv := pv) (tv := tv) w (bounds_items (cls_sound hyes)) (bounds_lens (cls_sound hyes)).1 (Rd.stays h3 _ hh); rw [← unitsM_yes hyes] at q; exact q)) rfl ?_; rintro vu hvu; try dsimp only)
       refine G.v (rv_assign rfl) rfl (G.done (G.thenN (G.seq (G.region ?_)))); refine G.op (og_lit rfl .nil rfl rfl rfl rfl rfl rfl) rfl (fun vl _ => ?_); refine G.v (rv_assign rfl) rfl (G.done (G.thenN (G.seq (G.seq (G.region (G.v (rv_assign rfl) rfl (G.done (G.thenN (G.block ?_)))))))))
       -- loop 0: turned [10, 11], kept [1, 2, 3, 7, 9]
       (first | refine G.frontR0 vl rfl ?_ | refine G.frontR1 vl rfl ?_ | refine G.frontR2 vl rfl ?_ | refine G.frontR3 vl rfl ?_ | refine G.frontR4 vl rfl ?_ | refine G.frontR5 vl rfl ?_ | refine G.frontR6 vl rfl ?_ | refine G.frontR7 vl rfl ?_ | refine G.frontR8 vl rfl ?_ | refine G.frontR9 vl rfl ?_ | refine G.frontR10 vl rfl ?_ | refine G.frontR11 vl rfl ?_ | refine G.frontR12 vl rfl ?_ | refine G.frontR13 vl rfl ?_)
       refine G.loopK (ι := Nat × Value) (ks := [1, 2, 3, 7, 9]) (fun x => [(10, x.2), (11, .int .i64 (x.1 : Int))]) (fun x => [.row x.2 3 1 (((l.take x.1).map Prod.fst).flatten.map icell)]) (fun x => x.1 ≤ l.length ∧ okCs r ((l.take x.1).map Prod.fst) = true) (fun x => l.length - x.1) (0, vl) (.cons rfl (.cons rfl (.cons rfl (.cons rfl (.cons rfl (.nil)))))) rfl ?_ ?_ ?_
       · exact ⟨Nat.zero_le _, rfl⟩
       · exact ⟨rfl, rfl, trivial⟩
       rintro ⟨k, v⟩ ⟨hk, hok⟩
       dsimp only at hk hok ⊢
       have hft := flat_take l k
       by_cases hlt : k < l.length
       case' pos => (obtain ⟨b, hb⟩ := get_of_lt hlt; have he := get_map hb gcell; have hfe := flat_elt hb; have hfe3 : (((l.take k).map Prod.fst).flatten.map icell).length + (b.1.map icell).length ≤ 1048576 := (by rw [List.length_map, List.length_map]; omega); simp at hfe3)
       case' neg => (have hall : l.take k = l := take_all hlt)
       all_goals
        refine G.seq (G.seq (G.region (G.v (rv_move rfl) rfl (G.v (rv_move rfl) rfl ?_)))); refine G.v (rv_len rfl (by first | exact Rd.stays (by assumption) | exact Rd.owned 0 rfl | exact Rd.owned 1 rfl | exact Rd.owned 2 rfl | exact Rd.owned 3 rfl | exact Rd.owned 4 rfl | exact Rd.owned 5 rfl | exact Rd.owned 6 rfl | exact Rd.stays (hs.at hb))) rfl ?_; refine G.v (rv_lss rfl rfl) rfl (G.done (G.thenN ?_)); refine G.cond rfl (fun hc => ?_) (fun hc => ?_)
        · try exact Bool.noConfusion hc
          all_goals
           try replace hc := of_decide_eq_true hc
           try simp only [hln] at hc
           try (exfalso; first | contradiction | omega)
           all_goals
            refine G.skip (G.thenN (G.seq (G.block (G.seq ?_)))); refine G.drawL [8] ?_
            (first | refine GE.q 0 rfl (by as_aux_lemma => kernel_rfl) rfl (qg_runs (rv_loadW 0 rfl rfl rfl)) rfl ?_ | refine GE.q 0 rfl (by as_aux_lemma => kernel_rfl) rfl (qg_runs (rv_loadW 1 rfl rfl rfl)) rfl ?_ | refine GE.q 0 rfl (by as_aux_lemma => kernel_rfl) rfl (qg_runs (rv_loadW 2 rfl rfl rfl)) rfl ?_ | refine GE.q 0 rfl (by as_aux_lemma => kernel_rfl) rfl (qg_runs (rv_loadW 3 rfl rfl rfl)) rfl ?_ | refine GE.q 0 rfl (by as_aux_lemma => kernel_rfl) rfl (qg_runs (rv_loadW 4 rfl rfl rfl)) rfl ?_ | refine GE.q 0 rfl (by as_aux_lemma => kernel_rfl) rfl (qg_runs (rv_loadW 5 rfl rfl rfl)) rfl ?_ | refine GE.q 0 rfl (by as_aux_lemma => kernel_rfl) rfl (qg_runs (rv_loadW 6 rfl rfl rfl)) rfl ?_ | refine GE.q 0 rfl (by as_aux_lemma => kernel_rfl) rfl (qg_runs (rv_loadP 0 rfl rfl (.one (.one (.one (.one (.one (.one (.one (.one (.one (.one .nil)))))))))))) rfl ?_ | refine GE.q 0 rfl (by as_aux_lemma => kernel_rfl) rfl (qg_runs (rv_loadP 1 rfl rfl (.one (.one (.one (.one (.one (.one (.one (.one (.one (.one .nil)))))))))))) rfl ?_ | refine GE.q 0 rfl (by as_aux_lemma => kernel_rfl) rfl (qg_runs (rv_loadP 2 rfl rfl (.one (.one (.one (.one (.one (.one (.one (.one (.one (.one .nil)))))))))))) rfl ?_ | refine GE.q 0 rfl (by as_aux_lemma => kernel_rfl) rfl (qg_runs (rv_loadP 3 rfl rfl (.one (.one (.one (.one (.one (.one (.one (.one (.one (.one .nil)))))))))))) rfl ?_ | refine GE.q 0 rfl (by as_aux_lemma => kernel_rfl) rfl (qg_runs (rv_loadP 4 rfl rfl (.one (.one (.one (.one (.one (.one (.one (.one (.one (.one .nil)))))))))))) rfl ?_ | refine GE.q 0 rfl (by as_aux_lemma => kernel_rfl) rfl (qg_runs (rv_loadP 5 rfl rfl (.one (.one (.one (.one (.one (.one (.one (.one (.one (.one .nil)))))))))))) rfl ?_ | refine GE.q 0 rfl (by as_aux_lemma => kernel_rfl) rfl (qg_runs (rv_loadP 6 rfl rfl (.one (.one (.one (.one (.one (.one (.one (.one (.one (.one .nil)))))))))))) rfl ?_)
            refine GE.q 1 rfl (by as_aux_lemma => kernel_rfl) rfl (qg_runs (rv_move rfl)) rfl ?_; refine GE.q 2 rfl (by as_aux_lemma => kernel_rfl) rfl (qg_runs (rv_move rfl)) rfl ?_; refine GE.q 3 rfl (by as_aux_lemma => kernel_rfl) rfl (qg_runs (rv_move rfl)) rfl ?_
            (first | refine GE.q 4 rfl (by as_aux_lemma => kernel_rfl) rfl (qg_runs (rv_indexH rfl rfl (by first | exact Rd.stays (by assumption) | exact Rd.owned 0 rfl | exact Rd.owned 1 rfl | exact Rd.owned 2 rfl | exact Rd.owned 3 rfl | exact Rd.owned 4 rfl | exact Rd.owned 5 rfl | exact Rd.owned 6 rfl | exact Rd.stays (hs.at hb)) rfl (by first | exact he | exact e5))) rfl ?_ | refine GE.q 4 rfl (by as_aux_lemma => kernel_rfl) rfl (qg_runs (rv_index rfl rfl (by first | exact Rd.stays (by assumption) | exact Rd.owned 0 rfl | exact Rd.owned 1 rfl | exact Rd.owned 2 rfl | exact Rd.owned 3 rfl | exact Rd.owned 4 rfl | exact Rd.owned 5 rfl | exact Rd.owned 6 rfl | exact Rd.stays (hs.at hb)) rfl (by assumption))) rfl ?_)
            refine GE.q 5 rfl (by as_aux_lemma => kernel_rfl) rfl (qg_runs (rv_loadE rfl (by first | exact Rd.stays (by assumption) | exact Rd.owned 0 rfl | exact Rd.owned 1 rfl | exact Rd.owned 2 rfl | exact Rd.owned 3 rfl | exact Rd.owned 4 rfl | exact Rd.owned 5 rfl | exact Rd.owned 6 rfl | exact Rd.stays (hs.at hb)) (by first | exact he | exact e5) rfl)) rfl ?_; refine GE.any (rs := [6, 7]) (by as_aux_lemma => kernel_rfl) (by simp) ?_; refine List.forall_mem_cons.2 ⟨?_, List.forall_mem_cons.2 ⟨?_, fun _ h => absurd h List.not_mem_nil⟩⟩
            focus
              (refine GE.pickOp rfl rfl rfl (og_callF0 rfl rfl (fun w hh => (l7Of_any (r := r) (us := b.1) w (Rd.stays h3 _ hh) (Rd.stays (hs.at hb) _ hh) (by omega) (by first | exact Rd.owned 0 rfl _ hh | exact Rd.owned 1 rfl _ hh | exact Rd.owned 2 rfl _ hh | exact Rd.owned 3 rfl _ hh)).toFn)) rfl (fun _ _ h => by first | exact h | exact h.drop 1 | exact h.drop 2 | exact h.drop 3 | exact h.drop 4 | exact h.drop 5 | exact h.drop 6 | exact h.drop 7 | exact h.drop 8 | exact h.drop 9 | exact h.drop 10 | exact h.drop 11 | exact h.drop 12 | exact h.drop 13) ?_; rintro ⟨⟩ _; try dsimp only)
              refine GE.ol 7 (by as_aux_lemma => kernel_rfl) rfl rfl (og_alloc) rfl (fun _ _ h => by first | exact h | exact h.drop 1 | exact h.drop 2 | exact h.drop 3 | exact h.drop 4 | exact h.drop 5 | exact h.drop 6 | exact h.drop 7 | exact h.drop 8 | exact h.drop 9 | exact h.drop 10 | exact h.drop 11 | exact h.drop 12 | exact h.drop 13) (fun bk12 _ => ?_)
              (first | refine GE.t0 8 (by as_aux_lemma => kernel_rfl) rfl rfl rfl (og_st0 rfl rfl rfl rfl rfl rfl (.zero (.cons (.cons .nil)))) (fun _ _ => ?_) | refine GE.t0 8 (by as_aux_lemma => kernel_rfl) rfl rfl rfl (og_st1 rfl rfl rfl rfl rfl rfl (.zero (.cons (.cons .nil)))) (fun _ _ => ?_) | refine GE.t0 8 (by as_aux_lemma => kernel_rfl) rfl rfl rfl (og_st2 rfl rfl rfl rfl rfl rfl (.zero (.cons (.cons .nil)))) (fun _ _ => ?_) | refine GE.t0 8 (by as_aux_lemma => kernel_rfl) rfl rfl rfl (og_st3 rfl rfl rfl rfl rfl rfl (.zero (.cons (.cons .nil)))) (fun _ _ => ?_) | refine GE.t0 8 (by as_aux_lemma => kernel_rfl) rfl rfl rfl (og_st4 rfl rfl rfl rfl rfl rfl (.zero (.cons (.cons .nil)))) (fun _ _ => ?_) | refine GE.t0 8 (by as_aux_lemma => kernel_rfl) rfl rfl rfl (og_st5 rfl rfl rfl rfl rfl rfl (.zero (.cons (.cons .nil)))) (fun _ _ => ?_) | refine GE.t0 8 (by as_aux_lemma => kernel_rfl) rfl rfl rfl (og_st6 rfl rfl rfl rfl rfl rfl (.zero (.cons (.cons .nil)))) (fun _ _ => ?_))
              refine GE.done (by as_aux_lemma => kernel_rfl) ?_
            rotate_left
            focus
              refine GE.pickOp rfl rfl rfl (og_alloc) rfl (fun _ _ h => by first | exact h | exact h.drop 1 | exact h.drop 2 | exact h.drop 3 | exact h.drop 4 | exact h.drop 5 | exact h.drop 6 | exact h.drop 7 | exact h.drop 8 | exact h.drop 9 | exact h.drop 10 | exact h.drop 11 | exact h.drop 12 | exact h.drop 13) (fun bk12 _ => ?_)
              (refine GE.ol 6 (by as_aux_lemma => kernel_rfl) rfl rfl (og_callF0 rfl rfl (fun w hh => (l7Of_any (r := r) (us := b.1) w (Rd.stays h3 _ hh) (Rd.stays (hs.at hb) _ hh) (by omega) (by first | exact Rd.owned 0 rfl _ hh | exact Rd.owned 1 rfl _ hh | exact Rd.owned 2 rfl _ hh | exact Rd.owned 3 rfl _ hh)).toFn)) rfl (fun _ _ h => by first | exact h | exact h.drop 1 | exact h.drop 2 | exact h.drop 3 | exact h.drop 4 | exact h.drop 5 | exact h.drop 6 | exact h.drop 7 | exact h.drop 8 | exact h.drop 9 | exact h.drop 10 | exact h.drop 11 | exact h.drop 12 | exact h.drop 13) ?_; rintro ⟨⟩ _; try dsimp only)
              (first | refine GE.t0 8 (by as_aux_lemma => kernel_rfl) rfl rfl rfl (og_st0 rfl rfl rfl rfl rfl rfl (.zero (.cons (.cons .nil)))) (fun _ _ => ?_) | refine GE.t0 8 (by as_aux_lemma => kernel_rfl) rfl rfl rfl (og_st1 rfl rfl rfl rfl rfl rfl (.zero (.cons (.cons .nil)))) (fun _ _ => ?_) | refine GE.t0 8 (by as_aux_lemma => kernel_rfl) rfl rfl rfl (og_st2 rfl rfl rfl rfl rfl rfl (.zero (.cons (.cons .nil)))) (fun _ _ => ?_) | refine GE.t0 8 (by as_aux_lemma => kernel_rfl) rfl rfl rfl (og_st3 rfl rfl rfl rfl rfl rfl (.zero (.cons (.cons .nil)))) (fun _ _ => ?_) | refine GE.t0 8 (by as_aux_lemma => kernel_rfl) rfl rfl rfl (og_st4 rfl rfl rfl rfl rfl rfl (.zero (.cons (.cons .nil)))) (fun _ _ => ?_) | refine GE.t0 8 (by as_aux_lemma => kernel_rfl) rfl rfl rfl (og_st5 rfl rfl rfl rfl rfl rfl (.zero (.cons (.cons .nil)))) (fun _ _ => ?_) | refine GE.t0 8 (by as_aux_lemma => kernel_rfl) rfl rfl rfl (og_st6 rfl rfl rfl rfl rfl rfl (.zero (.cons (.cons .nil)))) (fun _ _ => ?_))
              refine GE.done (by as_aux_lemma => kernel_rfl) ?_
            rotate_left
            all_goals
             refine G.thenN (G.seq (G.seq ?_)); refine G.drawL [] ?_; refine GE.q 0 rfl (by as_aux_lemma => kernel_rfl) rfl (qg_runs (rv_move rfl)) rfl ?_; refine GE.ol 1 (by as_aux_lemma => kernel_rfl) rfl rfl (og_runs (rv_move rfl)) rfl (fun _ _ h => by first | exact h | exact h.drop 1 | exact h.drop 2 | exact h.drop 3 | exact h.drop 4 | exact h.drop 5 | exact h.drop 6 | exact h.drop 7 | exact h.drop 8 | exact h.drop 9 | exact h.drop 10 | exact h.drop 11 | exact h.drop 12 | exact h.drop 13) (fun _ _ => ?_)
             (first | refine GE.ol 2 (by as_aux_lemma => kernel_rfl) rfl rfl (og_runs (rv_indexH rfl rfl (by first | exact Rd.stays (by assumption) | exact Rd.owned 0 rfl | exact Rd.owned 1 rfl | exact Rd.owned 2 rfl | exact Rd.owned 3 rfl | exact Rd.owned 4 rfl | exact Rd.owned 5 rfl | exact Rd.owned 6 rfl | exact Rd.stays (hs.at hb)) rfl (by first | exact he | exact e5))) rfl (fun _ _ h => by first | exact h | exact h.drop 1 | exact h.drop 2 | exact h.drop 3 | exact h.drop 4 | exact h.drop 5 | exact h.drop 6 | exact h.drop 7 | exact h.drop 8 | exact h.drop 9 | exact h.drop 10 | exact h.drop 11 | exact h.drop 12 | exact h.drop 13) (fun _ _ => ?_) | refine GE.ol 2 (by as_aux_lemma => kernel_rfl) rfl rfl (og_runs (rv_index rfl rfl (by first | exact Rd.stays (by assumption) | exact Rd.owned 0 rfl | exact Rd.owned 1 rfl | exact Rd.owned 2 rfl | exact Rd.owned 3 rfl | exact Rd.owned 4 rfl | exact Rd.owned 5 rfl | exact Rd.owned 6 rfl | exact Rd.stays (hs.at hb)) rfl (by assumption))) rfl (fun _ _ h => by first | exact h | exact h.drop 1 | exact h.drop 2 | exact h.drop 3 | exact h.drop 4 | exact h.drop 5 | exact h.drop 6 | exact h.drop 7 | exact h.drop 8 | exact h.drop 9 | exact h.drop 10 | exact h.drop 11 | exact h.drop 12 | exact h.drop 13) (fun _ _ => ?_))
             refine GE.ol 3 (by as_aux_lemma => kernel_rfl) rfl rfl (og_runs (rv_loadE rfl (by first | exact Rd.stays (by assumption) | exact Rd.owned 0 rfl | exact Rd.owned 1 rfl | exact Rd.owned 2 rfl | exact Rd.owned 3 rfl | exact Rd.owned 4 rfl | exact Rd.owned 5 rfl | exact Rd.owned 6 rfl | exact Rd.stays (hs.at hb)) (by first | exact he | exact e5) rfl)) rfl (fun _ _ h => by first | exact h | exact h.drop 1 | exact h.drop 2 | exact h.drop 3 | exact h.drop 4 | exact h.drop 5 | exact h.drop 6 | exact h.drop 7 | exact h.drop 8 | exact h.drop 9 | exact h.drop 10 | exact h.drop 11 | exact h.drop 12 | exact h.drop 13) (fun _ _ => ?_); refine GE.ol 4 (by as_aux_lemma => kernel_rfl) rfl rfl (og_runs (rv_len rfl (by first | exact Rd.stays (by assumption) | exact Rd.owned 0 rfl | exact Rd.owned 1 rfl | exact Rd.owned 2 rfl | exact Rd.owned 3 rfl | exact Rd.owned 4 rfl | exact Rd.owned 5 rfl | exact Rd.owned 6 rfl | exact Rd.stays (hs.at hb)))) rfl (fun _ _ h => by first | exact h | exact h.drop 1 | exact h.drop 2 | exact h.drop 3 | exact h.drop 4 | exact h.drop 5 | exact h.drop 6 | exact h.drop 7 | exact h.drop 8 | exact h.drop 9 | exact h.drop 10 | exact h.drop 11 | exact h.drop 12 | exact h.drop 13) (fun _ _ => ?_)
             refine GE.ol 5 (by as_aux_lemma => kernel_rfl) rfl rfl (og_runs (rv_eql rfl rfl)) rfl (fun _ _ h => by first | exact h | exact h.drop 1 | exact h.drop 2 | exact h.drop 3 | exact h.drop 4 | exact h.drop 5 | exact h.drop 6 | exact h.drop 7 | exact h.drop 8 | exact h.drop 9 | exact h.drop 10 | exact h.drop 11 | exact h.drop 12 | exact h.drop 13) (fun _ _ => ?_); refine GE.ol 6 (by as_aux_lemma => kernel_rfl) rfl rfl (og_runs (rv_move rfl)) rfl (fun _ _ h => by first | exact h | exact h.drop 1 | exact h.drop 2 | exact h.drop 3 | exact h.drop 4 | exact h.drop 5 | exact h.drop 6 | exact h.drop 7 | exact h.drop 8 | exact h.drop 9 | exact h.drop 10 | exact h.drop 11 | exact h.drop 12 | exact h.drop 13) (fun _ _ => ?_)
             all_goals (((with_reducible refine GE.part (t := 45) rfl (fun hg => ?_) (fun hg => ?_)) <;> (try exact Bool.noConfusion hg) <;> (first | (first | refine GE.q 7 rfl (by as_aux_lemma => kernel_rfl) rfl (qg_runs (rv_field rfl)) rfl ?_ | refine GE.q 7 rfl (by as_aux_lemma => kernel_rfl) rfl (qg_runs (rv_fieldE rfl)) rfl ?_) | refine GE.qn 7 rfl (by as_aux_lemma => kernel_rfl) rfl rfl ?_)))
             all_goals ((first | (first | refine GE.q 8 rfl (by as_aux_lemma => kernel_rfl) rfl (qg_runs (rv_load1 0 rfl rfl rfl)) rfl ?_ | refine GE.q 8 rfl (by as_aux_lemma => kernel_rfl) rfl (qg_runs (rv_load1 1 rfl rfl rfl)) rfl ?_ | refine GE.q 8 rfl (by as_aux_lemma => kernel_rfl) rfl (qg_runs (rv_load1 2 rfl rfl rfl)) rfl ?_ | refine GE.q 8 rfl (by as_aux_lemma => kernel_rfl) rfl (qg_runs (rv_load1 3 rfl rfl rfl)) rfl ?_ | refine GE.q 8 rfl (by as_aux_lemma => kernel_rfl) rfl (qg_runs (rv_load1 4 rfl rfl rfl)) rfl ?_ | refine GE.q 8 rfl (by as_aux_lemma => kernel_rfl) rfl (qg_runs (rv_load1 5 rfl rfl rfl)) rfl ?_ | refine GE.q 8 rfl (by as_aux_lemma => kernel_rfl) rfl (qg_runs (rv_load1 6 rfl rfl rfl)) rfl ?_) | refine GE.qn 8 rfl (by as_aux_lemma => kernel_rfl) rfl rfl ?_))
             all_goals ((first | (first | refine GE.q 9 rfl (by as_aux_lemma => kernel_rfl) rfl (qg_runs (rv_field rfl)) rfl ?_ | refine GE.q 9 rfl (by as_aux_lemma => kernel_rfl) rfl (qg_runs (rv_fieldE rfl)) rfl ?_) | refine GE.qn 9 rfl (by as_aux_lemma => kernel_rfl) rfl rfl ?_))
             all_goals ((first | (first | refine GE.q 10 rfl (by as_aux_lemma => kernel_rfl) rfl (qg_runs (rv_load1 0 rfl rfl rfl)) rfl ?_ | refine GE.q 10 rfl (by as_aux_lemma => kernel_rfl) rfl (qg_runs (rv_load1 1 rfl rfl rfl)) rfl ?_ | refine GE.q 10 rfl (by as_aux_lemma => kernel_rfl) rfl (qg_runs (rv_load1 2 rfl rfl rfl)) rfl ?_ | refine GE.q 10 rfl (by as_aux_lemma => kernel_rfl) rfl (qg_runs (rv_load1 3 rfl rfl rfl)) rfl ?_ | refine GE.q 10 rfl (by as_aux_lemma => kernel_rfl) rfl (qg_runs (rv_load1 4 rfl rfl rfl)) rfl ?_ | refine GE.q 10 rfl (by as_aux_lemma => kernel_rfl) rfl (qg_runs (rv_load1 5 rfl rfl rfl)) rfl ?_ | refine GE.q 10 rfl (by as_aux_lemma => kernel_rfl) rfl (qg_runs (rv_load1 6 rfl rfl rfl)) rfl ?_) | refine GE.qn 10 rfl (by as_aux_lemma => kernel_rfl) rfl rfl ?_))
             all_goals ((first | (first | refine GE.q 11 rfl (by as_aux_lemma => kernel_rfl) rfl (qg_runs (rv_field rfl)) rfl ?_ | refine GE.q 11 rfl (by as_aux_lemma => kernel_rfl) rfl (qg_runs (rv_fieldE rfl)) rfl ?_) | refine GE.qn 11 rfl (by as_aux_lemma => kernel_rfl) rfl rfl ?_))
             all_goals ((first | (first | refine GE.q 12 rfl (by as_aux_lemma => kernel_rfl) rfl (qg_runs (rv_load1 0 rfl rfl rfl)) rfl ?_ | refine GE.q 12 rfl (by as_aux_lemma => kernel_rfl) rfl (qg_runs (rv_load1 1 rfl rfl rfl)) rfl ?_ | refine GE.q 12 rfl (by as_aux_lemma => kernel_rfl) rfl (qg_runs (rv_load1 2 rfl rfl rfl)) rfl ?_ | refine GE.q 12 rfl (by as_aux_lemma => kernel_rfl) rfl (qg_runs (rv_load1 3 rfl rfl rfl)) rfl ?_ | refine GE.q 12 rfl (by as_aux_lemma => kernel_rfl) rfl (qg_runs (rv_load1 4 rfl rfl rfl)) rfl ?_ | refine GE.q 12 rfl (by as_aux_lemma => kernel_rfl) rfl (qg_runs (rv_load1 5 rfl rfl rfl)) rfl ?_ | refine GE.q 12 rfl (by as_aux_lemma => kernel_rfl) rfl (qg_runs (rv_load1 6 rfl rfl rfl)) rfl ?_) | refine GE.qn 12 rfl (by as_aux_lemma => kernel_rfl) rfl rfl ?_))
             all_goals ((first | (first | refine GE.q 13 rfl (by as_aux_lemma => kernel_rfl) rfl (qg_runs (rv_field rfl)) rfl ?_ | refine GE.q 13 rfl (by as_aux_lemma => kernel_rfl) rfl (qg_runs (rv_fieldE rfl)) rfl ?_) | refine GE.qn 13 rfl (by as_aux_lemma => kernel_rfl) rfl rfl ?_))
             all_goals ((first | (first | refine GE.q 14 rfl (by as_aux_lemma => kernel_rfl) rfl (qg_runs (rv_load1 0 rfl rfl rfl)) rfl ?_ | refine GE.q 14 rfl (by as_aux_lemma => kernel_rfl) rfl (qg_runs (rv_load1 1 rfl rfl rfl)) rfl ?_ | refine GE.q 14 rfl (by as_aux_lemma => kernel_rfl) rfl (qg_runs (rv_load1 2 rfl rfl rfl)) rfl ?_ | refine GE.q 14 rfl (by as_aux_lemma => kernel_rfl) rfl (qg_runs (rv_load1 3 rfl rfl rfl)) rfl ?_ | refine GE.q 14 rfl (by as_aux_lemma => kernel_rfl) rfl (qg_runs (rv_load1 4 rfl rfl rfl)) rfl ?_ | refine GE.q 14 rfl (by as_aux_lemma => kernel_rfl) rfl (qg_runs (rv_load1 5 rfl rfl rfl)) rfl ?_ | refine GE.q 14 rfl (by as_aux_lemma => kernel_rfl) rfl (qg_runs (rv_load1 6 rfl rfl rfl)) rfl ?_) | refine GE.qn 14 rfl (by as_aux_lemma => kernel_rfl) rfl rfl ?_))
             all_goals ((first | refine GE.q 15 rfl (by as_aux_lemma => kernel_rfl) rfl (qg_call rfl rfl (fun w hh => svolume_any (mst r).w (mst r).h (mst r).d w)) rfl ?_ | refine GE.qn 15 rfl (by as_aux_lemma => kernel_rfl) rfl rfl ?_))
             all_goals ((first | refine GE.q 16 rfl (by as_aux_lemma => kernel_rfl) rfl (qg_runs (rv_gtr rfl rfl)) rfl ?_ | refine GE.qn 16 rfl (by as_aux_lemma => kernel_rfl) rfl rfl ?_))
             all_goals ((first | refine GE.ol 17 (by as_aux_lemma => kernel_rfl) rfl rfl (og_runs (rv_pickT rfl rfl)) rfl (fun _ _ h => by first | exact h | exact h.drop 1 | exact h.drop 2 | exact h.drop 3 | exact h.drop 4 | exact h.drop 5 | exact h.drop 6 | exact h.drop 7 | exact h.drop 8 | exact h.drop 9 | exact h.drop 10 | exact h.drop 11 | exact h.drop 12 | exact h.drop 13) (fun _ _ => ?_) | refine GE.ol 17 (by as_aux_lemma => kernel_rfl) rfl rfl (og_runs (rv_pickF rfl rfl)) rfl (fun _ _ h => by first | exact h | exact h.drop 1 | exact h.drop 2 | exact h.drop 3 | exact h.drop 4 | exact h.drop 5 | exact h.drop 6 | exact h.drop 7 | exact h.drop 8 | exact h.drop 9 | exact h.drop 10 | exact h.drop 11 | exact h.drop 12 | exact h.drop 13) (fun _ _ => ?_)))
             all_goals (refine GE.ol 18 (by as_aux_lemma => kernel_rfl) rfl rfl (og_runs (rv_move rfl)) rfl (fun _ _ h => by first | exact h | exact h.drop 1 | exact h.drop 2 | exact h.drop 3 | exact h.drop 4 | exact h.drop 5 | exact h.drop 6 | exact h.drop 7 | exact h.drop 8 | exact h.drop 9 | exact h.drop 10 | exact h.drop 11 | exact h.drop 12 | exact h.drop 13) (fun _ _ => ?_))
             all_goals (((with_reducible refine GE.part (t := 57) rfl (fun hg => ?_) (fun hg => ?_)) <;> (try exact Bool.noConfusion hg) <;> (first | (first | refine GE.q 19 rfl (by as_aux_lemma => kernel_rfl) rfl (qg_runs (rv_field rfl)) rfl ?_ | refine GE.q 19 rfl (by as_aux_lemma => kernel_rfl) rfl (qg_runs (rv_fieldE rfl)) rfl ?_) | refine GE.qn 19 rfl (by as_aux_lemma => kernel_rfl) rfl rfl ?_)))
             all_goals ((first | (first | refine GE.q 20 rfl (by as_aux_lemma => kernel_rfl) rfl (qg_runs (rv_load1 0 rfl rfl rfl)) rfl ?_ | refine GE.q 20 rfl (by as_aux_lemma => kernel_rfl) rfl (qg_runs (rv_load1 1 rfl rfl rfl)) rfl ?_ | refine GE.q 20 rfl (by as_aux_lemma => kernel_rfl) rfl (qg_runs (rv_load1 2 rfl rfl rfl)) rfl ?_ | refine GE.q 20 rfl (by as_aux_lemma => kernel_rfl) rfl (qg_runs (rv_load1 3 rfl rfl rfl)) rfl ?_ | refine GE.q 20 rfl (by as_aux_lemma => kernel_rfl) rfl (qg_runs (rv_load1 4 rfl rfl rfl)) rfl ?_ | refine GE.q 20 rfl (by as_aux_lemma => kernel_rfl) rfl (qg_runs (rv_load1 5 rfl rfl rfl)) rfl ?_ | refine GE.q 20 rfl (by as_aux_lemma => kernel_rfl) rfl (qg_runs (rv_load1 6 rfl rfl rfl)) rfl ?_) | refine GE.qn 20 rfl (by as_aux_lemma => kernel_rfl) rfl rfl ?_))
             all_goals ((first | (first | refine GE.q 21 rfl (by as_aux_lemma => kernel_rfl) rfl (qg_runs (rv_field rfl)) rfl ?_ | refine GE.q 21 rfl (by as_aux_lemma => kernel_rfl) rfl (qg_runs (rv_fieldE rfl)) rfl ?_) | refine GE.qn 21 rfl (by as_aux_lemma => kernel_rfl) rfl rfl ?_))
             all_goals ((first | (first | refine GE.q 22 rfl (by as_aux_lemma => kernel_rfl) rfl (qg_runs (rv_load1 0 rfl rfl rfl)) rfl ?_ | refine GE.q 22 rfl (by as_aux_lemma => kernel_rfl) rfl (qg_runs (rv_load1 1 rfl rfl rfl)) rfl ?_ | refine GE.q 22 rfl (by as_aux_lemma => kernel_rfl) rfl (qg_runs (rv_load1 2 rfl rfl rfl)) rfl ?_ | refine GE.q 22 rfl (by as_aux_lemma => kernel_rfl) rfl (qg_runs (rv_load1 3 rfl rfl rfl)) rfl ?_ | refine GE.q 22 rfl (by as_aux_lemma => kernel_rfl) rfl (qg_runs (rv_load1 4 rfl rfl rfl)) rfl ?_ | refine GE.q 22 rfl (by as_aux_lemma => kernel_rfl) rfl (qg_runs (rv_load1 5 rfl rfl rfl)) rfl ?_ | refine GE.q 22 rfl (by as_aux_lemma => kernel_rfl) rfl (qg_runs (rv_load1 6 rfl rfl rfl)) rfl ?_) | refine GE.qn 22 rfl (by as_aux_lemma => kernel_rfl) rfl rfl ?_))
             all_goals ((first | refine GE.q 23 rfl (by as_aux_lemma => kernel_rfl) rfl (qg_runs (rv_gtr rfl rfl)) rfl ?_ | refine GE.qn 23 rfl (by as_aux_lemma => kernel_rfl) rfl rfl ?_))
             all_goals ((first | refine GE.ol 24 (by as_aux_lemma => kernel_rfl) rfl rfl (og_runs (rv_pickT rfl rfl)) rfl (fun _ _ h => by first | exact h | exact h.drop 1 | exact h.drop 2 | exact h.drop 3 | exact h.drop 4 | exact h.drop 5 | exact h.drop 6 | exact h.drop 7 | exact h.drop 8 | exact h.drop 9 | exact h.drop 10 | exact h.drop 11 | exact h.drop 12 | exact h.drop 13) (fun _ _ => ?_) | refine GE.ol 24 (by as_aux_lemma => kernel_rfl) rfl rfl (og_runs (rv_pickF rfl rfl)) rfl (fun _ _ h => by first | exact h | exact h.drop 1 | exact h.drop 2 | exact h.drop 3 | exact h.drop 4 | exact h.drop 5 | exact h.drop 6 | exact h.drop 7 | exact h.drop 8 | exact h.drop 9 | exact h.drop 10 | exact h.drop 11 | exact h.drop 12 | exact h.drop 13) (fun _ _ => ?_)))
             all_goals
              refine GE.done (by as_aux_lemma => kernel_rfl) ?_; refine G.thenN ?_; refine G.cond rfl (fun hc => ?_) (fun hc => ?_)
              · try exact Bool.noConfusion hc
                all_goals
                 try replace hc := of_decide_eq_true hc
                 try simp only [hln] at hc
                 try (exfalso; first | contradiction | omega)
                 all_goals
                  have hbad : okCs r (l.map Prod.fst) = false := okCs_bad hb (by (try simp only [decide_eq_true_eq, decide_eq_false_iff_not] at *); (try simp only [List.length_map, id, show (typeAt r r.master).1 = mst r from rfl] at *); simp only [holdsM, Bool.and_eq_false_iff, decide_eq_false_iff_not]; omega)
                  all_goals
                   refine G.seq (G.region (G.v (rv_assign rfl) rfl (G.done (G.thenN (G.ret (G.thenR (G.inR (G.thenR (G.thenR (G.inR (G.thenR ?_)))))))))))
                   first | exact G.retFV rfl rfl (congrArg Value.bool (packM_no hno).symm) | exact G.retFV rfl rfl (congrArg Value.bool (packM_bad hbad).symm) | exact G.retFV rfl rfl (congrArg Value.bool hbad2.symm) | exact G.retFV rfl rfl (congrArg Value.bool hbad3.symm) | exact G.retFV rfl rfl (congrArg Value.bool (pack_yes hyes hok hsame (fun x hx => hjt x (by rw [List.take_of_length_le (by omega)]; exact hx))).symm)
              · try exact Bool.noConfusion hc
                all_goals
                 try replace hc := of_decide_eq_false hc
                 try simp only [hln] at hc
                 try (exfalso; first | contradiction | omega)
                 all_goals
                  have hgood : (decide (b.1.length ≠ 0) && holdsM r b.1) = true := (by (try simp only [decide_eq_true_eq, decide_eq_false_iff_not] at *); (try simp only [List.length_map, id, show (typeAt r r.master).1 = mst r from rfl] at *); simp only [holdsM, Bool.and_eq_true, decide_eq_true_eq]; omega)
                  all_goals
                   refine G.skip (G.thenN (G.region (G.v (rv_move rfl) rfl (G.v (rv_move rfl) rfl (G.v (rv_move rfl) rfl ?_)))))
                   (first | refine G.v (rv_indexH rfl rfl (by first | exact Rd.stays (by assumption) | exact Rd.owned 0 rfl | exact Rd.owned 1 rfl | exact Rd.owned 2 rfl | exact Rd.owned 3 rfl | exact Rd.owned 4 rfl | exact Rd.owned 5 rfl | exact Rd.owned 6 rfl | exact Rd.stays (hs.at hb)) rfl (by first | exact he | exact e5)) rfl ?_ | refine G.v (rv_index rfl rfl (by first | exact Rd.stays (by assumption) | exact Rd.owned 0 rfl | exact Rd.owned 1 rfl | exact Rd.owned 2 rfl | exact Rd.owned 3 rfl | exact Rd.owned 4 rfl | exact Rd.owned 5 rfl | exact Rd.owned 6 rfl | exact Rd.stays (hs.at hb)) rfl (by assumption)) rfl ?_)
                   refine G.v (rv_loadE rfl (by first | exact Rd.stays (by assumption) | exact Rd.owned 0 rfl | exact Rd.owned 1 rfl | exact Rd.owned 2 rfl | exact Rd.owned 3 rfl | exact Rd.owned 4 rfl | exact Rd.owned 5 rfl | exact Rd.owned 6 rfl | exact Rd.stays (hs.at hb)) (by first | exact he | exact e5) rfl) rfl ?_
                   (first | refine G.op (og_app0 rfl rfl rfl (by first | exact Rd.stays (by assumption) | exact Rd.owned 0 rfl | exact Rd.owned 1 rfl | exact Rd.owned 2 rfl | exact Rd.owned 3 rfl | exact Rd.owned 4 rfl | exact Rd.owned 5 rfl | exact Rd.owned 6 rfl | exact Rd.stays (hs.at hb)) rfl rfl (by first | (simp; done) | (simp; omega)) (by first | (simp; done) | (simp; omega))) rfl (fun va _ => ?_) | refine G.op (og_app1 rfl rfl rfl (by first | exact Rd.stays (by assumption) | exact Rd.owned 0 rfl | exact Rd.owned 1 rfl | exact Rd.owned 2 rfl | exact Rd.owned 3 rfl | exact Rd.owned 4 rfl | exact Rd.owned 5 rfl | exact Rd.owned 6 rfl | exact Rd.stays (hs.at hb)) rfl rfl (by first | (simp; done) | (simp; omega)) (by first | (simp; done) | (simp; omega))) rfl (fun va _ => ?_) | refine G.op (og_app2 rfl rfl rfl (by first | exact Rd.stays (by assumption) | exact Rd.owned 0 rfl | exact Rd.owned 1 rfl | exact Rd.owned 2 rfl | exact Rd.owned 3 rfl | exact Rd.owned 4 rfl | exact Rd.owned 5 rfl | exact Rd.owned 6 rfl | exact Rd.stays (hs.at hb)) rfl rfl (by first | (simp; done) | (simp; omega)) (by first | (simp; done) | (simp; omega))) rfl (fun va _ => ?_) | refine G.op (og_app3 rfl rfl rfl (by first | exact Rd.stays (by assumption) | exact Rd.owned 0 rfl | exact Rd.owned 1 rfl | exact Rd.owned 2 rfl | exact Rd.owned 3 rfl | exact Rd.owned 4 rfl | exact Rd.owned 5 rfl | exact Rd.owned 6 rfl | exact Rd.stays (hs.at hb)) rfl rfl (by first | (simp; done) | (simp; omega)) (by first | (simp; done) | (simp; omega))) rfl (fun va _ => ?_) | refine G.op (og_app4 rfl rfl rfl (by first | exact Rd.stays (by assumption) | exact Rd.owned 0 rfl | exact Rd.owned 1 rfl | exact Rd.owned 2 rfl | exact Rd.owned 3 rfl | exact Rd.owned 4 rfl | exact Rd.owned 5 rfl | exact Rd.owned 6 rfl | exact Rd.stays (hs.at hb)) rfl rfl (by first | (simp; done) | (simp; omega)) (by first | (simp; done) | (simp; omega))) rfl (fun va _ => ?_) | refine G.op (og_app5 rfl rfl rfl (by first | exact Rd.stays (by assumption) | exact Rd.owned 0 rfl | exact Rd.owned 1 rfl | exact Rd.owned 2 rfl | exact Rd.owned 3 rfl | exact Rd.owned 4 rfl | exact Rd.owned 5 rfl | exact Rd.owned 6 rfl | exact Rd.stays (hs.at hb)) rfl rfl (by first | (simp; done) | (simp; omega)) (by first | (simp; done) | (simp; omega))) rfl (fun va _ => ?_) | refine G.op (og_app6 rfl rfl rfl (by first | exact Rd.stays (by assumption) | exact Rd.owned 0 rfl | exact Rd.owned 1 rfl | exact Rd.owned 2 rfl | exact Rd.owned 3 rfl | exact Rd.owned 4 rfl | exact Rd.owned 5 rfl | exact Rd.owned 6 rfl | exact Rd.stays (hs.at hb)) rfl rfl (by first | (simp; done) | (simp; omega)) (by first | (simp; done) | (simp; omega))) rfl (fun va _ => ?_))
                   refine G.v (rv_assign rfl) rfl (G.done (G.inN (G.thenN (G.region (G.v (rv_move rfl) rfl ?_)))))
                   (first | refine G.v (rv_incr rfl rfl (by omega)) rfl ?_ | refine G.v (rv_addB rfl rfl (by omega) (by omega)) rfl ?_)
                   refine G.v (rv_assign rfl) rfl (G.done ?_)
                   (first | refine G.frontR0 va rfl ?_ | refine G.frontR1 va rfl ?_ | refine G.frontR2 va rfl ?_ | refine G.frontR3 va rfl ?_ | refine G.frontR4 va rfl ?_ | refine G.frontR5 va rfl ?_ | refine G.frontR6 va rfl ?_ | refine G.frontR7 va rfl ?_ | refine G.frontR8 va rfl ?_ | refine G.frontR9 va rfl ?_ | refine G.frontR10 va rfl ?_ | refine G.frontR11 va rfl ?_ | refine G.frontR12 va rfl ?_ | refine G.frontR13 va rfl ?_)
                   first | (refine G.keep1 1 rfl ?_; refine G.backK (k + 1, va) 0 (one_eq (congrArg (fun z => Ch.row va 3 1 z) (flat_next hb))) (.cons rfl (.cons rfl (.cons rfl (.cons rfl (.cons rfl (.nil)))))) ?_ ?_ ?_) | (refine G.keep1 1 rfl ?_; refine G.backK (k + 1, va) 1 (one_eq (congrArg (fun z => Ch.row va 3 1 z) (flat_next hb))) (.cons rfl (.cons rfl (.cons rfl (.cons rfl (.cons rfl (.nil)))))) ?_ ?_ ?_) | (refine G.keep1 1 rfl ?_; refine G.backK (k + 1, va) 2 (one_eq (congrArg (fun z => Ch.row va 3 1 z) (flat_next hb))) (.cons rfl (.cons rfl (.cons rfl (.cons rfl (.cons rfl (.nil)))))) ?_ ?_ ?_) | (refine G.keep1 2 rfl ?_; refine G.backK (k + 1, va) 0 (one_eq (congrArg (fun z => Ch.row va 3 1 z) (flat_next hb))) (.cons rfl (.cons rfl (.cons rfl (.cons rfl (.cons rfl (.nil)))))) ?_ ?_ ?_) | (refine G.keep1 2 rfl ?_; refine G.backK (k + 1, va) 1 (one_eq (congrArg (fun z => Ch.row va 3 1 z) (flat_next hb))) (.cons rfl (.cons rfl (.cons rfl (.cons rfl (.cons rfl (.nil)))))) ?_ ?_ ?_) | (refine G.keep1 2 rfl ?_; refine G.backK (k + 1, va) 2 (one_eq (congrArg (fun z => Ch.row va 3 1 z) (flat_next hb))) (.cons rfl (.cons rfl (.cons rfl (.cons rfl (.cons rfl (.nil)))))) ?_ ?_ ?_) | (refine G.keep1 0 rfl ?_; refine G.backK (k + 1, va) 0 (one_eq (congrArg (fun z => Ch.row va 3 1 z) (flat_next hb))) (.cons rfl (.cons rfl (.cons rfl (.cons rfl (.cons rfl (.nil)))))) ?_ ?_ ?_) | (refine G.keep1 0 rfl ?_; refine G.backK (k + 1, va) 1 (one_eq (congrArg (fun z => Ch.row va 3 1 z) (flat_next hb))) (.cons rfl (.cons rfl (.cons rfl (.cons rfl (.cons rfl (.nil)))))) ?_ ?_ ?_) | (refine G.keep1 0 rfl ?_; refine G.backK (k + 1, va) 2 (one_eq (congrArg (fun z => Ch.row va 3 1 z) (flat_next hb))) (.cons rfl (.cons rfl (.cons rfl (.cons rfl (.cons rfl (.nil)))))) ?_ ?_ ?_)
                   · exact ⟨rfl, rfl, trivial⟩
                   · exact ⟨hlt, okCs_next hb hok hgood⟩
                   · dsimp only; omega
        · try exact Bool.noConfusion hc
          all_goals
           try replace hc := of_decide_eq_false hc
           try simp only [hln] at hc
           try (exfalso; first | contradiction | omega)
           all_goals
            refine G.exit (G.thenX (G.thenX (G.inX (G.thenN (G.seq (G.region (G.v (rv_move rfl) rfl (G.v (rv_move rfl) rfl ?_))))))))
            (refine G.op (og_callF1 rfl rfl (fun w hh => l7Known_any (r := r) (us := us) w (by first | exact Rd.owned 0 rfl _ hh | exact Rd.owned 1 rfl _ hh | exact Rd.owned 2 rfl _ hh | exact Rd.owned 3 rfl _ hh) (Rd.stays h4 _ hh) hul)) rfl ?_; rintro vt hvt; try dsimp only)
            rw [hall] at hok
            (first | refine G.frontR0 v rfl ?_ | refine G.frontR1 v rfl ?_ | refine G.frontR2 v rfl ?_ | refine G.frontR3 v rfl ?_ | refine G.frontR4 v rfl ?_ | refine G.frontR5 v rfl ?_ | refine G.frontR6 v rfl ?_ | refine G.frontR7 v rfl ?_ | refine G.frontR8 v rfl ?_ | refine G.frontR9 v rfl ?_ | refine G.frontR10 v rfl ?_ | refine G.frontR11 v rfl ?_ | refine G.frontR12 v rfl ?_ | refine G.frontR13 v rfl ?_)
            refine G.rowEq ((l.map Prod.fst).flatten.map icell) (by rw [hall]) rfl ?_; refine G.v (rv_assign rfl) rfl (G.done (G.thenN (G.seq (G.seq (G.region (G.v (rv_move rfl) rfl ?_)))))); refine G.v (rv_len rfl (by first | exact Rd.stays (by assumption) | exact Rd.owned 0 rfl | exact Rd.owned 1 rfl | exact Rd.owned 2 rfl | exact Rd.owned 3 rfl | exact Rd.owned 4 rfl | exact Rd.owned 5 rfl | exact Rd.owned 6 rfl | exact Rd.stays (hs.at hb))) rfl ?_; refine G.v (rv_move rfl) rfl ?_; refine G.v (rv_len rfl (by first | exact Rd.stays (by assumption) | exact Rd.owned 0 rfl | exact Rd.owned 1 rfl | exact Rd.owned 2 rfl | exact Rd.owned 3 rfl | exact Rd.owned 4 rfl | exact Rd.owned 5 rfl | exact Rd.owned 6 rfl | exact Rd.stays (hs.at hb))) rfl ?_; refine G.v (rv_neq rfl rfl) rfl (G.done (G.thenN ?_)); refine G.cond rfl (fun hc => ?_) (fun hc => ?_)
            · try exact Bool.noConfusion hc
              all_goals
               try replace hc := of_decide_eq_true hc
               try simp only [hln] at hc
               try (exfalso; first | contradiction | omega)
               all_goals
                have hbad2 : packM r us (l.map Prod.fst) = false := pack_len (by simp only [List.length_map] at hc; omega)
                all_goals
                 refine G.seq (G.region (G.v (rv_assign rfl) rfl (G.done (G.thenN (G.ret (G.thenR ?_))))))
                 first | exact G.retFV rfl rfl (congrArg Value.bool (packM_no hno).symm) | exact G.retFV rfl rfl (congrArg Value.bool (packM_bad hbad).symm) | exact G.retFV rfl rfl (congrArg Value.bool hbad2.symm) | exact G.retFV rfl rfl (congrArg Value.bool hbad3.symm) | exact G.retFV rfl rfl (congrArg Value.bool (pack_yes hyes hok hsame (fun x hx => hjt x (by rw [List.take_of_length_le (by omega)]; exact hx))).symm)
            · try exact Bool.noConfusion hc
              all_goals
               try replace hc := of_decide_eq_false hc
               try simp only [hln] at hc
               try (exfalso; first | contradiction | omega)
               all_goals
                have hsame : (thereM r us).length = (l.map Prod.fst).flatten.length := by simp only [List.length_map] at hc; omega
                all_goals
                 refine G.skip (G.thenN (G.seq (G.seq (G.region (G.v (rv_assign rfl) rfl (G.done (G.thenN (G.block ?_))))))))
                 -- loop 1: turned [14], kept [10, 13]
                 refine G.loopK (ι := Nat) (ks := [10, 13]) (fun k => [(14, .int .i64 k)]) (fun _ => []) (fun k => k ≤ (l.map Prod.fst).flatten.length ∧ ∀ x ∈ (l.map Prod.fst).flatten.take k, timesM (l.map Prod.fst).flatten x = timesM (thereM r us) x) (fun k => (l.map Prod.fst).flatten.length - k) 0 (.cons rfl (.cons rfl (.nil))) rfl ?_ ?_ ?_
                 · exact ⟨Nat.zero_le _, fun x hx => by simp at hx⟩
                 · exact ⟨rfl, trivial⟩
                 rintro j ⟨hj, hjt⟩
                 have hll : ((l.map Prod.fst).flatten.map icell).length = (l.map Prod.fst).flatten.length := List.length_map _
                 by_cases hlt1 : j < (l.map Prod.fst).flatten.length
                 case' pos => (obtain ⟨x, hx⟩ := get_of_lt hlt1; have e5 := get_map hx icell)
                 all_goals
                  refine G.seq (G.seq (G.region (G.v (rv_move rfl) rfl (G.v (rv_move rfl) rfl ?_)))); refine G.v (rv_len rfl (by first | exact Rd.stays (by assumption) | exact Rd.owned 0 rfl | exact Rd.owned 1 rfl | exact Rd.owned 2 rfl | exact Rd.owned 3 rfl | exact Rd.owned 4 rfl | exact Rd.owned 5 rfl | exact Rd.owned 6 rfl | exact Rd.stays (hs.at hb))) rfl ?_; refine G.v (rv_lss rfl rfl) rfl (G.done (G.thenN ?_)); refine G.cond rfl (fun hc => ?_) (fun hc => ?_)
                  · try exact Bool.noConfusion hc
                    all_goals
                     try replace hc := of_decide_eq_true hc
                     try simp only [hln] at hc
                     try (exfalso; first | contradiction | omega)
                     all_goals
                      refine G.skip (G.thenN (G.seq (G.block (G.seq ?_)))); refine G.drawL [] ?_; refine GE.q 0 rfl (by as_aux_lemma => kernel_rfl) rfl (qg_runs (rv_move rfl)) rfl ?_; refine GE.q 1 rfl (by as_aux_lemma => kernel_rfl) rfl (qg_runs (rv_move rfl)) rfl ?_; refine GE.q 2 rfl (by as_aux_lemma => kernel_rfl) rfl (qg_runs (rv_move rfl)) rfl ?_
                      (first | refine GE.q 3 rfl (by as_aux_lemma => kernel_rfl) rfl (qg_runs (rv_indexH rfl rfl (by first | exact Rd.stays (by assumption) | exact Rd.owned 0 rfl | exact Rd.owned 1 rfl | exact Rd.owned 2 rfl | exact Rd.owned 3 rfl | exact Rd.owned 4 rfl | exact Rd.owned 5 rfl | exact Rd.owned 6 rfl | exact Rd.stays (hs.at hb)) rfl (by first | exact he | exact e5))) rfl ?_ | refine GE.q 3 rfl (by as_aux_lemma => kernel_rfl) rfl (qg_runs (rv_index rfl rfl (by first | exact Rd.stays (by assumption) | exact Rd.owned 0 rfl | exact Rd.owned 1 rfl | exact Rd.owned 2 rfl | exact Rd.owned 3 rfl | exact Rd.owned 4 rfl | exact Rd.owned 5 rfl | exact Rd.owned 6 rfl | exact Rd.stays (hs.at hb)) rfl (by assumption))) rfl ?_)
                      refine GE.q 4 rfl (by as_aux_lemma => kernel_rfl) rfl (qg_runs (rv_loadE rfl (by first | exact Rd.stays (by assumption) | exact Rd.owned 0 rfl | exact Rd.owned 1 rfl | exact Rd.owned 2 rfl | exact Rd.owned 3 rfl | exact Rd.owned 4 rfl | exact Rd.owned 5 rfl | exact Rd.owned 6 rfl | exact Rd.stays (hs.at hb)) (by first | exact he | exact e5) rfl)) rfl ?_; refine GE.q 5 rfl (by as_aux_lemma => kernel_rfl) rfl (qg_call rfl rfl (fun w hh => l8Times_any (l := (l.map Prod.fst).flatten) x w (by first | exact Rd.stays (by assumption) _ hh | exact Rd.owned 0 rfl _ hh | exact Rd.owned 1 rfl _ hh | exact Rd.owned 2 rfl _ hh | exact Rd.owned 3 rfl _ hh | exact Rd.owned 4 rfl _ hh | exact Rd.owned 5 rfl _ hh | exact Rd.owned 6 rfl _ hh | exact Rd.owned 7 rfl _ hh | exact Rd.owned 8 rfl _ hh | exact Rd.owned 9 rfl _ hh | exact Rd.owned 10 rfl _ hh | exact Rd.owned 11 rfl _ hh | exact Rd.owned 12 rfl _ hh | exact Rd.owned 13 rfl _ hh | exact Rd.owned 14 rfl _ hh | exact Rd.owned 15 rfl _ hh) hfl)) rfl ?_; refine GE.q 6 rfl (by as_aux_lemma => kernel_rfl) rfl (qg_runs (rv_move rfl)) rfl ?_; refine GE.q 7 rfl (by as_aux_lemma => kernel_rfl) rfl (qg_runs (rv_move rfl)) rfl ?_
                      refine GE.ol 8 (by as_aux_lemma => kernel_rfl) rfl rfl (og_runs (rv_move rfl)) rfl (fun _ _ h => by first | exact h | exact h.drop 1 | exact h.drop 2 | exact h.drop 3 | exact h.drop 4 | exact h.drop 5 | exact h.drop 6 | exact h.drop 7 | exact h.drop 8 | exact h.drop 9 | exact h.drop 10 | exact h.drop 11 | exact h.drop 12 | exact h.drop 13) (fun _ _ => ?_)
                      (first | refine GE.ol 9 (by as_aux_lemma => kernel_rfl) rfl rfl (og_runs (rv_indexH rfl rfl (by first | exact Rd.stays (by assumption) | exact Rd.owned 0 rfl | exact Rd.owned 1 rfl | exact Rd.owned 2 rfl | exact Rd.owned 3 rfl | exact Rd.owned 4 rfl | exact Rd.owned 5 rfl | exact Rd.owned 6 rfl | exact Rd.stays (hs.at hb)) rfl (by first | exact he | exact e5))) rfl (fun _ _ h => by first | exact h | exact h.drop 1 | exact h.drop 2 | exact h.drop 3 | exact h.drop 4 | exact h.drop 5 | exact h.drop 6 | exact h.drop 7 | exact h.drop 8 | exact h.drop 9 | exact h.drop 10 | exact h.drop 11 | exact h.drop 12 | exact h.drop 13) (fun _ _ => ?_) | refine GE.ol 9 (by as_aux_lemma => kernel_rfl) rfl rfl (og_runs (rv_index rfl rfl (by first | exact Rd.stays (by assumption) | exact Rd.owned 0 rfl | exact Rd.owned 1 rfl | exact Rd.owned 2 rfl | exact Rd.owned 3 rfl | exact Rd.owned 4 rfl | exact Rd.owned 5 rfl | exact Rd.owned 6 rfl | exact Rd.stays (hs.at hb)) rfl (by assumption))) rfl (fun _ _ h => by first | exact h | exact h.drop 1 | exact h.drop 2 | exact h.drop 3 | exact h.drop 4 | exact h.drop 5 | exact h.drop 6 | exact h.drop 7 | exact h.drop 8 | exact h.drop 9 | exact h.drop 10 | exact h.drop 11 | exact h.drop 12 | exact h.drop 13) (fun _ _ => ?_))
                      refine GE.ol 10 (by as_aux_lemma => kernel_rfl) rfl rfl (og_runs (rv_loadE rfl (by first | exact Rd.stays (by assumption) | exact Rd.owned 0 rfl | exact Rd.owned 1 rfl | exact Rd.owned 2 rfl | exact Rd.owned 3 rfl | exact Rd.owned 4 rfl | exact Rd.owned 5 rfl | exact Rd.owned 6 rfl | exact Rd.stays (hs.at hb)) (by first | exact he | exact e5) rfl)) rfl (fun _ _ h => by first | exact h | exact h.drop 1 | exact h.drop 2 | exact h.drop 3 | exact h.drop 4 | exact h.drop 5 | exact h.drop 6 | exact h.drop 7 | exact h.drop 8 | exact h.drop 9 | exact h.drop 10 | exact h.drop 11 | exact h.drop 12 | exact h.drop 13) (fun _ _ => ?_)
                      refine GE.ol 11 (by as_aux_lemma => kernel_rfl) rfl rfl (og_callV rfl rfl (fun w hh => l8Times_any (l := thereM r us) x w (by first | exact Rd.stays (by assumption) _ hh | exact Rd.owned 0 rfl _ hh | exact Rd.owned 1 rfl _ hh | exact Rd.owned 2 rfl _ hh | exact Rd.owned 3 rfl _ hh | exact Rd.owned 4 rfl _ hh | exact Rd.owned 5 rfl _ hh | exact Rd.owned 6 rfl _ hh | exact Rd.owned 7 rfl _ hh | exact Rd.owned 8 rfl _ hh | exact Rd.owned 9 rfl _ hh | exact Rd.owned 10 rfl _ hh | exact Rd.owned 11 rfl _ hh | exact Rd.owned 12 rfl _ hh | exact Rd.owned 13 rfl _ hh | exact Rd.owned 14 rfl _ hh | exact Rd.owned 15 rfl _ hh) (by omega))) rfl (fun _ _ h => by first | exact h | exact h.drop 1 | exact h.drop 2 | exact h.drop 3 | exact h.drop 4 | exact h.drop 5 | exact h.drop 6 | exact h.drop 7 | exact h.drop 8 | exact h.drop 9 | exact h.drop 10 | exact h.drop 11 | exact h.drop 12 | exact h.drop 13) (fun _ _ => ?_); refine GE.ol 12 (by as_aux_lemma => kernel_rfl) rfl rfl (og_runs (rv_neq rfl rfl)) rfl (fun _ _ h => by first | exact h | exact h.drop 1 | exact h.drop 2 | exact h.drop 3 | exact h.drop 4 | exact h.drop 5 | exact h.drop 6 | exact h.drop 7 | exact h.drop 8 | exact h.drop 9 | exact h.drop 10 | exact h.drop 11 | exact h.drop 12 | exact h.drop 13) (fun _ _ => ?_); refine GE.done (by as_aux_lemma => kernel_rfl) ?_; refine G.thenN ?_; refine G.cond rfl (fun hc => ?_) (fun hc => ?_)
                      · try exact Bool.noConfusion hc
                        all_goals
                         try replace hc := of_decide_eq_true hc
                         try simp only [hln] at hc
                         try (exfalso; first | contradiction | omega)
                         all_goals
                          have hbad3 : packM r us (l.map Prod.fst) = false := pack_at (x := x) (by omega)
                          all_goals
                           refine G.seq (G.region (G.v (rv_assign rfl) rfl (G.done (G.thenN (G.ret (G.inR (G.thenR (G.thenR (G.inR (G.thenR ?_))))))))))
                           first | exact G.retFV rfl rfl (congrArg Value.bool (packM_no hno).symm) | exact G.retFV rfl rfl (congrArg Value.bool (packM_bad hbad).symm) | exact G.retFV rfl rfl (congrArg Value.bool hbad2.symm) | exact G.retFV rfl rfl (congrArg Value.bool hbad3.symm) | exact G.retFV rfl rfl (congrArg Value.bool (pack_yes hyes hok hsame (fun x hx => hjt x (by rw [List.take_of_length_le (by omega)]; exact hx))).symm)
                      · try exact Bool.noConfusion hc
                        all_goals
                         try replace hc := of_decide_eq_false hc
                         try simp only [hln] at hc
                         try (exfalso; first | contradiction | omega)
                         all_goals
                          refine G.skip (G.inN (G.thenN (G.region (G.v (rv_move rfl) rfl ?_))))
                          (first | refine G.v (rv_incr rfl rfl (by omega)) rfl ?_ | refine G.v (rv_addB rfl rfl (by omega) (by omega)) rfl ?_)
                          refine G.v (rv_assign rfl) rfl (G.done ?_)
                          first | refine G.backK (j + 1) 0 rfl (.cons rfl (.cons rfl (.nil))) ?_ ?_ ?_ | refine G.backK (j + 1) 1 rfl (.cons rfl (.cons rfl (.nil))) ?_ ?_ ?_ | refine G.backK (j + 1) 2 rfl (.cons rfl (.cons rfl (.nil))) ?_ ?_ ?_
                          · exact ⟨rfl, trivial⟩
                          · exact ⟨hlt1, fun y hy => by rw [List.take_add_one, hx, List.mem_append] at hy; rcases hy with hy | hy; (exact hjt y hy); (obtain rfl : y = x := (by simpa using hy)); omega⟩
                          · omega
                  · try exact Bool.noConfusion hc
                    all_goals
                     try replace hc := of_decide_eq_false hc
                     try simp only [hln] at hc
                     try (exfalso; first | contradiction | omega)
                     all_goals
                      refine G.exit (G.thenX (G.thenX (G.inX (G.thenN (G.seq (G.region (G.v (rv_assign rfl) rfl (G.done (G.thenN (G.ret ?_))))))))))
                      first | exact G.retFV rfl rfl (congrArg Value.bool (packM_no hno).symm) | exact G.retFV rfl rfl (congrArg Value.bool (packM_bad hbad).symm) | exact G.retFV rfl rfl (congrArg Value.bool hbad2.symm) | exact G.retFV rfl rfl (congrArg Value.bool hbad3.symm) | exact G.retFV rfl rfl (congrArg Value.bool (pack_yes hyes hok hsame (fun x hx => hjt x (by rw [List.take_of_length_le (by omega)]; exact hx))).symm)
end
end Go.Proofs.YtibkggjbkgdnkaaGreat
