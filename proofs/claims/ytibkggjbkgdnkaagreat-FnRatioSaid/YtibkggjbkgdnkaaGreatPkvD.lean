/-
  Texts of this proof, one behind the other: Low2.
-/
import Derived.Test.YtibkggjbkgdnkaaGreatPkvC

/-
  What no packing is below: the reference's way, and the law.
-/
namespace Go.Proofs.YtibkggjbkgdnkaaGreat
open Go.RowKit
section
variable {P : Program} {n : Nat} {w0 : World} {fr : Fr} {H : List Ch}
def fieldOne (P : Program) (t : TypeId) (i : Nat) : Option Nat :=
  match P.underlying t with
  | some (.struct fs) => match fs[i]? with
    | some f => if (P.underlying f.type).map aggB = some false then some f.offset else none
    | none => none
  | _ => none
theorem rv_fieldV {x : Operand} {t : TypeId} {i : Nat} {cs : List Value} {v : Value} (off : Nat) (hx : opv fr x = some (.agg cs.toArray)) (hF : fieldOne P t i = some off) (hv : cs[off]? = some v) : RunsV P n w0 fr H (.field t x i) v := fun a w hr _ _ _ _ _ _ => by
  unfold fieldOne at hF
  split at hF
  · rename_i fs hs
    split at hF
    · rename_i f hf
      split at hF
      · rename_i h1
        injection hF with hF
        subst hF
        simp [execOp, hr.opv hx, Instr.field, run_underlying hs, hf, asAgg, part, run_isAgg_one h1, hv]
      · cases hF
    · cases hF
  · cases hF
theorem rv_sliceLH {x y z : Operand} {t e : TypeId} {s bs : Nat} {zs : List Value} [hT : TySlice P t e] [hI : TyInfo P e s zs bs] {v : Value} {es : List (List Value)} {k k2 : IntKind} {l h : Nat} {q : Int} (hx : opv fr x = some v) (hy : opv fr y = some (.int k (l : Int))) (hz : opv fr z = some (.int k2 q)) (hq : q = (h : Int)) (hv : ∀ w, HeapOk w0 w H → Rd w v s es) (hl : l ≤ h) (hh : h ≤ es.length) :
    RunsV P n w0 fr H (.slice t x (some y) (some z) none) (subV v s l h) := fun a w hr hw _ _ _ _ _ => by
  subst hq
  obtain ⟨ad, cap, rfl, h1, h2, h3⟩ := (hv w hw).form
  obtain ⟨i, z, g1, g2, g3, g4, g5⟩ := hI.get
  have e1 : (l : Int) ≤ (h : Int) := by omega
  have e2 : (0 : Int) ≤ (l : Int) := by omega
  have e3 : (h : Int) ≤ (cap : Int) := by omega
  have e4 : (0 : Int) ≤ (h : Int) := by omega
  simp [execOp, hr.opv hx, hr.opv hy, hr.opv hz, Instr.sliceAt, Instr.slice, run_underlying hT.h, Instr.sliceBounds, run_sliceBound, sizeOf, typeInfo, g1, g2, subV, sliced, e1, e2, e3, e4]
theorem FnV.toFn {f : FuncId} {vs : List Value} {w : World} {v : Value} (h : FnV P f vs w v) : Fn P f vs w (fun _ : Unit => True) (fun _ => v) (fun _ => []) :=
  Calls.mono h fun e w' he => ⟨(), trivial, he.1, he.2⟩
end
attribute [local irreducible] Go.wpList Go.Code.wp Go.Exit.then Go.Exit.inBlock Go.bodyPost Go.Calls pE pB G RunsV FnV Fn FnM
set_option maxRecDepth 100000
set_option maxHeartbeats 4000000
theorem itemOr_v (r : ReqM) (u : Int) : volM (itemOr r u).w (itemOr r u).h (itemOr r u).d = vOf r u := by
  rw [itemOr, vOf]; cases itemAt r u <;> rfl
theorem load_eq {r : ReqM} {us : List Int} {k : Nat} {u : Int} (hb : us[k]? = some u) : [Value.int .i64 (volUS r (us.take k) + volM (itemOr r u).w (itemOr r u).h (itemOr r u).d), Value.int .i64 (gramM r (us.take k) + (itemOr r u).g)] = [Value.int .i64 (volUS r (us.take (k + 1))), Value.int .i64 (gramM r (us.take (k + 1)))] := by
  rw [volUS_take hb, gram_take hb, itemOr_v, itemOr_g]
theorem one_sub {us : List Int} {k : Nat} {u : Int} (hb : us[k]? = some u) : ((us.map icell).drop k).take (k + 1 - k) = [u].map icell := by
  have hk := (List.getElem?_eq_some_iff.1 hb)
  obtain ⟨h1, rfl⟩ := hk
  rw [show k + 1 - k = 1 by omega, ← List.map_drop, List.drop_eq_getElem_cons h1]; rfl
theorem volUS_one (r : ReqM) (u : Int) : volUS r [u] = vOf r u := by simp [volUS]
theorem gram_one (r : ReqM) (u : Int) : gramM r [u] = gOf r u := by simp [gramM]
theorem cnt_nextU {p : Int → Bool} {us : List Int} {k : Nat} {u : Int} (hb : us[k]? = some u) : ((us.take (k + 1)).countP p : Int) = (us.take k).countP p + (if p u then 1 else 0) := by
  rw [List.take_add_one, hb, Option.toList_some, List.countP_append, List.countP_singleton]; split <;> simp
theorem cnt_items {r : ReqM} (f : ItemM → Int) (V : Int) (hV : 0 ≤ V) (g : Int → Int) (hg : ∀ u, g u = match itemAt r u with | some x => f x | none => 0) : ∀ us : List Int, us.countP (fun u => decide (2 * g u > V)) = (itemsM r us).countP (fun x => decide (2 * f x > V))
  | [] => rfl
  | u :: us => by
    have ih := cnt_items f V hV g hg us
    have hgu := hg u
    simp only [itemsM, List.filterMap_cons, List.countP_cons] at *
    cases h : itemAt r u with
    | none =>
      rw [h] at hgu; dsimp only at hgu
      rw [ih, hgu, if_neg (by simp; omega)]; rfl
    | some x =>
      rw [h] at hgu; dsimp only at hgu
      rw [List.countP_cons, ih, hgu]
theorem l1Bit_any (b : Bool) (w : World) : FnV Tryz.prog 168 [.bool b] w (.int .i64 (if b then 1 else 0)) := by
  refine FnV.of (n := 4) Tryz.func168 rfl rfl ?_; refine G.seq (G.region (G.v (rv_assign rfl) rfl (G.done (G.thenN (G.seq (G.seq (G.region (G.v (rv_move rfl) rfl (G.done (G.thenN ?_)))))))))); refine G.cond rfl (fun hc => ?_) (fun hc => ?_)
  · try exact Bool.noConfusion hc
    all_goals
     try replace hc := of_decide_eq_true hc
     try (exfalso; contradiction)
     all_goals
      refine G.seq (G.region (G.v (rv_assign rfl) rfl (G.done (G.thenN (G.ret (G.thenR ?_))))))
      exact G.retFV rfl rfl (congrArg (Value.int .i64) (by rw [if_pos hc]))
  · try exact Bool.noConfusion hc
    all_goals
     try replace hc := of_decide_eq_false hc
     try (exfalso; contradiction)
     all_goals
      refine G.skip (G.thenN (G.seq (G.region (G.v (rv_assign rfl) rfl (G.done (G.thenN (G.ret ?_)))))))
      (exact G.retFV rfl rfl (congrArg (Value.int .i64) (by rw [if_neg (by rw [hc]; decide)])))
section
variable {r : ReqM} {pv tv iv uv : Value} {us : List Int} (w : World) (h : Rd w pv 2 (r.pairs.map PairM.cells)) (h2 : Rd w tv 7 (r.types.map TypeM.cells)) (h3 : Rd w iv 7 (r.items.map ItemM.cells)) (h4 : Rd w uv 1 (us.map icell)) (hul : us.length ≤ 1048576)
include h3 h4 hul in
theorem l7Of_any {av : Value} (h5 : Rd w av 1 ((unitsM r).map ncell)) : FnV Tryz.prog 107 [.agg (r.cells pv tv iv).toArray, av, uv] w (.agg [.int .i64 (volUS r us), .int .i64 (gramM r us)].toArray) := by
  refine FnV.of (n := 46) Tryz.func107 rfl rfl ?_; refine G.seq (G.region ?_); refine G.op (og_box rfl rfl) rfl (fun bk3 _ => ?_); refine G.op (og_alloc) rfl (fun bk6 _ => ?_); refine G.done (G.thenN (G.seq (G.region ?_))); refine G.v (rv_build2 rfl .nil .nil) rfl ?_; refine G.op (og_alloc) rfl (fun bk7 _ => ?_); refine G.op0 (og_st0 rfl rfl rfl rfl rfl rfl (.zero (.cons (.cons .nil)))) (fun _ _ => ?_); refine G.done (G.thenN (G.seq (G.seq (G.region (G.v (rv_assign rfl) rfl (G.done (G.thenN (G.block ?_))))))))
  -- loop 0: turned [8], kept [1, 2, 3, 6, 7]
  refine G.loopK (ι := Nat) (ks := [1, 2, 3, 6, 7]) (fun k => [(8, .int .i64 k)]) (fun k => [.blk bk7 112 [.int .i64 (volUS r (us.take k)), .int .i64 (gramM r (us.take k))]]) (fun k => k ≤ us.length) (fun k => us.length - k) 0 (.cons rfl (.cons rfl (.cons rfl (.cons rfl (.cons rfl (.nil)))))) rfl ?_ ?_ ?_
  · exact Nat.zero_le _
  · exact ⟨rfl, trivial⟩
  rintro k hk
  have hgi := gram_in r (us.take k)
  have hvi := volUS_in r (us.take k)
  rw [List.length_take, Nat.min_eq_left hk] at hgi hvi
  by_cases hlt : k < us.length
  case' pos => (obtain ⟨u, hb⟩ := get_of_lt hlt; have e1 := get_map hb icell; have hog := itemOr_g r u; have hov := itemOr_v r u; have hg2 := gOf_in r u; have hv2 := vOf_in r u)
  all_goals
   refine G.seq (G.seq (G.region (G.v (rv_move rfl) rfl (G.v (rv_move rfl) rfl ?_)))); refine G.v (rv_len rfl (by exact Rd.stays (by assumption))) rfl ?_; refine G.v (rv_lss rfl rfl) rfl (G.done (G.thenN ?_)); refine G.cond rfl (fun hc => ?_) (fun hc => ?_)
   · try exact Bool.noConfusion hc
     all_goals
      try replace hc := of_decide_eq_true hc
      try simp only [List.length_map] at hc
      try (exfalso; omega)
      all_goals
       refine G.skip (G.thenN (G.seq (G.block (G.seq ?_)))); refine G.drawL [12] ?_; refine GE.q 0 rfl (by as_aux_lemma => kernel_rfl) rfl (qg_runs (rv_loadW 2 rfl rfl rfl)) rfl ?_; refine GE.q 1 rfl (by as_aux_lemma => kernel_rfl) rfl (qg_runs (rv_move rfl)) rfl ?_; refine GE.q 2 rfl (by as_aux_lemma => kernel_rfl) rfl (qg_runs (rv_move rfl)) rfl ?_; refine GE.q 3 rfl (by as_aux_lemma => kernel_rfl) rfl (qg_runs (rv_move rfl)) rfl ?_; refine GE.q 4 rfl (by as_aux_lemma => kernel_rfl) rfl (qg_runs (rv_indexH rfl rfl (by exact Rd.stays (by assumption)) rfl (by assumption))) rfl ?_; refine GE.q 5 rfl (by as_aux_lemma => kernel_rfl) rfl (qg_runs (rv_loadE rfl (by exact Rd.stays (by assumption)) (by assumption) rfl)) rfl ?_; refine GE.q 6 rfl (by as_aux_lemma => kernel_rfl) rfl (qg_call rfl rfl (fun w hh => l6Item_any (r := r) u w (Rd.stays h3 _ hh) (Rd.stays h5 _ hh))) rfl ?_; refine GE.q 7 rfl (by as_aux_lemma => kernel_rfl) rfl (qg_runs (rv_move rfl)) rfl ?_; refine GE.q 8 rfl (by as_aux_lemma => kernel_rfl) rfl (qg_runs (rv_extract rfl rfl)) rfl ?_; refine GE.q 9 rfl (by as_aux_lemma => kernel_rfl) rfl (qg_runs (rv_extract rfl rfl)) rfl ?_; refine GE.ol 10 (by as_aux_lemma => kernel_rfl) rfl rfl (og_alloc) rfl (fun _ _ h => by exact h.drop 1) (fun bk9 _ => ?_)
       refine GE.ol0 11 (by as_aux_lemma => kernel_rfl) rfl rfl (og_st0 rfl rfl rfl rfl rfl rfl (.zero (.cons (.cons (.cons (.cons (.cons (.cons (.cons .nil))))))))) (fun _ _ h => by exact h.drop 1) (fun _ _ => ?_); refine GE.t 12 (by as_aux_lemma => kernel_rfl) rfl rfl rfl (og_runs (rv_assign rfl)) rfl (fun _ _ => ?_); refine GE.done (by as_aux_lemma => kernel_rfl) ?_; refine G.thenN (G.seq ?_); refine G.drawL [10, 11] ?_; refine GE.q 0 rfl (by as_aux_lemma => kernel_rfl) rfl (qg_runs (rv_field rfl)) rfl ?_; refine GE.q 1 rfl (by as_aux_lemma => kernel_rfl) rfl (qg_runs (rv_load1 1 rfl rfl rfl)) rfl ?_; refine GE.q 2 rfl (by as_aux_lemma => kernel_rfl) rfl (qg_runs (rv_field rfl)) rfl ?_; refine GE.q 3 rfl (by as_aux_lemma => kernel_rfl) rfl (qg_runs (rv_load1 0 rfl rfl rfl)) rfl ?_; refine GE.q 4 rfl (by as_aux_lemma => kernel_rfl) rfl (qg_runs (rv_field rfl)) rfl ?_; refine GE.q 5 rfl (by as_aux_lemma => kernel_rfl) rfl (qg_runs (rv_load1 0 rfl rfl rfl)) rfl ?_; refine GE.ol 6 (by as_aux_lemma => kernel_rfl) rfl rfl (og_runs (rv_field rfl)) rfl (fun _ _ h => by exact h) (fun _ _ => ?_); refine GE.ol 7 (by as_aux_lemma => kernel_rfl) rfl rfl (og_runs (rv_load1 0 rfl rfl rfl)) rfl (fun _ _ h => by exact h) (fun _ _ => ?_); refine GE.ol 8 (by as_aux_lemma => kernel_rfl) rfl rfl (og_callV rfl rfl (fun w hh => svolume_any (itemOr r u).w (itemOr r u).h (itemOr r u).d w)) rfl (fun _ _ h => by exact h) (fun _ _ => ?_)
       refine GE.ol 9 (by as_aux_lemma => kernel_rfl) rfl rfl (og_runs (rv_addB rfl rfl (by omega) (by omega))) rfl (fun _ _ h => by exact h) (fun _ _ => ?_); refine GE.t 10 (by as_aux_lemma => kernel_rfl) rfl rfl rfl (og_runs (rv_field rfl)) rfl (fun _ _ => ?_); refine GE.t0 11 (by as_aux_lemma => kernel_rfl) rfl rfl rfl (og_st1 rfl rfl rfl rfl rfl rfl (.zero (.cons .nil))) (fun _ _ => ?_); refine GE.done (by as_aux_lemma => kernel_rfl) ?_; refine G.thenN (G.region (G.v (rv_field rfl) rfl (G.v (rv_load1 1 rfl rfl rfl) rfl (G.v (rv_field rfl) rfl (G.v (rv_load1 0 rfl rfl rfl) rfl ?_))))); refine G.v (rv_addB rfl rfl (by omega) (by omega)) rfl ?_; refine G.v (rv_field rfl) rfl ?_; refine G.op0 (og_st1 rfl rfl rfl rfl rfl rfl (.succ (.zero (.cons .nil)))) (fun _ _ => ?_); refine G.done (G.inN (G.thenN (G.region (G.v (rv_move rfl) rfl ?_)))); refine G.v (rv_incr rfl rfl (by omega)) rfl ?_; refine G.v (rv_assign rfl) rfl (G.done ?_); refine G.backK (k + 1) 1 (one_eq (congrArg (fun z => Ch.blk bk7 112 z) (load_eq hb))) (.cons rfl (.cons rfl (.cons rfl (.cons rfl (.cons rfl (.nil)))))) ?_ ?_ ?_
       · exact ⟨rfl, trivial⟩
       · exact hlt
       · omega
   · try exact Bool.noConfusion hc
     all_goals
      try replace hc := of_decide_eq_false hc
      try simp only [List.length_map] at hc
      try (exfalso; omega)
      all_goals
       refine G.exit (G.thenX (G.thenX (G.inX (G.thenN (G.seq (G.region (G.v (rv_loadW 0 rfl rfl rfl) rfl ?_))))))); refine G.op0 (og_st1 rfl rfl rfl rfl rfl rfl (.zero (.cons (.cons .nil)))) (fun _ _ => ?_); refine G.done (G.thenN (G.ret ?_))
       rw [take_all (l := us) (k := k) (by omega)]; exact G.retFVc 1 rfl rfl rfl rfl rfl
include h h2 h3 h4 hul
theorem slowerVolume_any : FnV Tryz.prog 137 [.agg (r.cells pv tv iv).toArray, uv] w (.int .i64 (lowVolM r us)) := by
  have hvi := volUS_in r us
  refine FnV.of (n := 29) Tryz.func137 rfl rfl ?_; refine G.seq (G.region ?_); refine G.op (og_box rfl rfl) rfl (fun bk2 _ => ?_); refine G.v (rv_assign rfl) rfl (G.done (G.thenN (G.seq (G.seq (G.region (G.v (rv_loadW 0 rfl rfl rfl) rfl ?_)))))); refine G.op (og_callV rfl rfl (fun w hh => sclass_any (r := r) w (Rd.stays h _ hh) (Rd.stays h2 _ hh) (Rd.stays h3 _ hh))) rfl (fun _ _ => ?_); refine G.v (rv_neq rfl rfl) rfl (G.done (G.thenN ?_)); refine G.cond rfl (fun hc => ?_) (fun hc => ?_)
  · try exact Bool.noConfusion hc
    all_goals
     try replace hc := of_decide_eq_true hc
     try (exfalso; contradiction)
     all_goals
      have hno : ¬ classM r = 0 := hc
      all_goals
       refine G.seq (G.region (G.v (rv_assign rfl) rfl (G.done (G.thenN (G.ret (G.thenR ?_))))))
       exact G.retFV rfl rfl (congrArg (Value.int .i64) (by rw [lowVolM, if_neg hno]))
  · try exact Bool.noConfusion hc
    all_goals
     try replace hc := of_decide_eq_false hc
     try (exfalso; contradiction)
     all_goals
      have hyes : classM r = 0 := by omega
      have hmv := type_vol (mst_ok hyes)
      all_goals
       refine G.skip (G.thenN (G.seq (G.region (G.v (rv_loadW 0 rfl rfl rfl) rfl ?_)))); refine G.op (og_callV rfl rfl (fun w hh => smasterOf_any (r := r) w (Rd.stays h2 _ hh))) rfl (fun _ _ => ?_); refine G.v (rv_move rfl) rfl (G.v (rv_extract rfl rfl) rfl (G.v (rv_extract rfl rfl) rfl ?_)); refine G.op (og_alloc) rfl (fun bk5 _ => ?_); refine G.op0 (og_st0 rfl rfl rfl rfl rfl rfl (.zero (.cons (.cons (.cons (.cons (.cons (.cons (.cons .nil))))))))) (fun _ _ => ?_); refine G.v (rv_assign rfl) rfl (G.done (G.thenN (G.seq ?_))); refine G.drawL [14] ?_; refine GE.q 0 rfl (by as_aux_lemma => kernel_rfl) rfl (qg_runs (rv_loadW 1 rfl rfl rfl)) rfl ?_; refine GE.q 1 rfl (by as_aux_lemma => kernel_rfl) rfl (qg_runs (rv_loadW 1 rfl rfl rfl)) rfl ?_; refine GE.q 3 rfl (by as_aux_lemma => kernel_rfl) rfl (qg_runs (rv_move rfl)) rfl ?_; refine GE.q 6 rfl (by as_aux_lemma => kernel_rfl) rfl (qg_runs (rv_field rfl)) rfl ?_; refine GE.q 7 rfl (by as_aux_lemma => kernel_rfl) rfl (qg_runs (rv_load1 0 rfl rfl rfl)) rfl ?_; refine GE.q 8 rfl (by as_aux_lemma => kernel_rfl) rfl (qg_runs (rv_field rfl)) rfl ?_; refine GE.q 9 rfl (by as_aux_lemma => kernel_rfl) rfl (qg_runs (rv_load1 0 rfl rfl rfl)) rfl ?_; refine GE.q 10 rfl (by as_aux_lemma => kernel_rfl) rfl (qg_runs (rv_field rfl)) rfl ?_; refine GE.q 11 rfl (by as_aux_lemma => kernel_rfl) rfl (qg_runs (rv_load1 0 rfl rfl rfl)) rfl ?_
       (refine GE.ol 2 (by as_aux_lemma => kernel_rfl) rfl rfl (og_callF1 rfl rfl (fun w hh => by have q := sl6Units_any (r := r) (pv := pv) (tv := tv) w (bounds_items (cls_sound hyes)) (bounds_lens (cls_sound hyes)).1 (Rd.stays h3 _ hh); rw [← unitsM_yes hyes] at q; exact q)) rfl (fun _ _ h => by exact h.drop 1) ?_; rintro vu hvu; try dsimp only)
       (refine GE.ol 4 (by as_aux_lemma => kernel_rfl) rfl rfl (og_callF0 rfl rfl (fun w hh => (l7Of_any (r := r) w (Rd.stays h3 _ hh) (Rd.stays h4 _ hh) hul (by exact Rd.owned 0 rfl _ hh)).toFn)) rfl (fun _ _ h => by exact h.drop 1) ?_; rintro ⟨⟩ _; try dsimp only)
       refine GE.q2 5 rfl (by as_aux_lemma => kernel_rfl) rfl (qg_runs (rv_fieldV 0 rfl (by kernel_rfl) rfl)) (fun _ h => by exact h.drop 1) rfl ?_; refine GE.ol 12 (by as_aux_lemma => kernel_rfl) rfl rfl (og_callV rfl rfl (fun w hh => svolume_any (mst r).w (mst r).h (mst r).d w)) rfl (fun _ _ h => by exact h.drop 1) (fun _ _ => ?_); refine GE.ol 13 (by as_aux_lemma => kernel_rfl) rfl rfl (og_callV rfl rfl (fun w hh => l8Up_any _ _ w (by omega) (by omega) (by omega) (by omega))) rfl (fun _ _ h => by exact h.drop 1) (fun _ _ => ?_); refine GE.t 14 (by as_aux_lemma => kernel_rfl) rfl rfl rfl (og_runs (rv_assign rfl)) rfl (fun _ _ => ?_); refine GE.done (by as_aux_lemma => kernel_rfl) ?_; refine G.thenN (G.ret ?_)
       exact G.retFV rfl rfl (congrArg (Value.int .i64) (by rw [lowVolM, if_pos hyes]))
theorem slowerGram_any : FnV Tryz.prog 138 [.agg (r.cells pv tv iv).toArray, uv] w (.int .i64 (lowGramM r us)) := by
  have hvi := gram_in r us
  refine FnV.of (n := 24) Tryz.func138 rfl rfl ?_; refine G.seq (G.region ?_); refine G.op (og_box rfl rfl) rfl (fun bk2 _ => ?_); refine G.v (rv_assign rfl) rfl (G.done (G.thenN (G.seq (G.seq (G.region (G.v (rv_loadW 0 rfl rfl rfl) rfl ?_)))))); refine G.op (og_callV rfl rfl (fun w hh => sclass_any (r := r) w (Rd.stays h _ hh) (Rd.stays h2 _ hh) (Rd.stays h3 _ hh))) rfl (fun _ _ => ?_); refine G.v (rv_neq rfl rfl) rfl (G.done (G.thenN ?_)); refine G.cond rfl (fun hc => ?_) (fun hc => ?_)
  · try exact Bool.noConfusion hc
    all_goals
     try replace hc := of_decide_eq_true hc
     try (exfalso; contradiction)
     all_goals
      have hno : ¬ classM r = 0 := hc
      all_goals
       refine G.seq (G.region (G.v (rv_assign rfl) rfl (G.done (G.thenN (G.ret (G.thenR ?_))))))
       exact G.retFV rfl rfl (congrArg (Value.int .i64) (by rw [lowGramM, if_neg hno]))
  · try exact Bool.noConfusion hc
    all_goals
     try replace hc := of_decide_eq_false hc
     try (exfalso; contradiction)
     all_goals
      have hyes : classM r = 0 := by omega
      have hmv := type_in (mst_ok hyes)
      all_goals
       refine G.skip (G.thenN (G.seq (G.region (G.v (rv_loadW 0 rfl rfl rfl) rfl ?_)))); refine G.op (og_callV rfl rfl (fun w hh => smasterOf_any (r := r) w (Rd.stays h2 _ hh))) rfl (fun _ _ => ?_); refine G.v (rv_move rfl) rfl (G.v (rv_extract rfl rfl) rfl (G.v (rv_extract rfl rfl) rfl ?_)); refine G.op (og_alloc) rfl (fun bk5 _ => ?_); refine G.op0 (og_st0 rfl rfl rfl rfl rfl rfl (.zero (.cons (.cons (.cons (.cons (.cons (.cons (.cons .nil))))))))) (fun _ _ => ?_); refine G.v (rv_assign rfl) rfl (G.done (G.thenN (G.seq ?_))); refine G.drawL [9] ?_; refine GE.q 0 rfl (by as_aux_lemma => kernel_rfl) rfl (qg_runs (rv_loadW 1 rfl rfl rfl)) rfl ?_; refine GE.q 1 rfl (by as_aux_lemma => kernel_rfl) rfl (qg_runs (rv_loadW 1 rfl rfl rfl)) rfl ?_; refine GE.q 3 rfl (by as_aux_lemma => kernel_rfl) rfl (qg_runs (rv_move rfl)) rfl ?_; refine GE.q 6 rfl (by as_aux_lemma => kernel_rfl) rfl (qg_runs (rv_field rfl)) rfl ?_; refine GE.q 7 rfl (by as_aux_lemma => kernel_rfl) rfl (qg_runs (rv_load1 0 rfl rfl rfl)) rfl ?_
       (refine GE.ol 2 (by as_aux_lemma => kernel_rfl) rfl rfl (og_callF1 rfl rfl (fun w hh => by have q := sl6Units_any (r := r) (pv := pv) (tv := tv) w (bounds_items (cls_sound hyes)) (bounds_lens (cls_sound hyes)).1 (Rd.stays h3 _ hh); rw [← unitsM_yes hyes] at q; exact q)) rfl (fun _ _ h => by exact h.drop 1) ?_; rintro vu hvu; try dsimp only)
       (refine GE.ol 4 (by as_aux_lemma => kernel_rfl) rfl rfl (og_callF0 rfl rfl (fun w hh => (l7Of_any (r := r) w (Rd.stays h3 _ hh) (Rd.stays h4 _ hh) hul (by exact Rd.owned 0 rfl _ hh)).toFn)) rfl (fun _ _ h => by exact h.drop 1) ?_; rintro ⟨⟩ _; try dsimp only)
       refine GE.ol 5 (by as_aux_lemma => kernel_rfl) rfl rfl (og_runs (rv_fieldV 1 rfl (by kernel_rfl) rfl)) rfl (fun _ _ h => by exact h.drop 1) (fun _ _ => ?_); refine GE.ol 8 (by as_aux_lemma => kernel_rfl) rfl rfl (og_callV rfl rfl (fun w hh => l8Up_any (gramM r us) (mst r).g w (by omega) (by omega) (by omega) (by omega))) rfl (fun _ _ h => by exact h.drop 1) (fun _ _ => ?_); refine GE.t 9 (by as_aux_lemma => kernel_rfl) rfl rfl rfl (og_runs (rv_assign rfl)) rfl (fun _ _ => ?_); refine GE.done (by as_aux_lemma => kernel_rfl) ?_; refine G.thenN (G.ret ?_)
       exact G.retFV rfl rfl (congrArg (Value.int .i64) (by rw [lowGramM, if_pos hyes]))
theorem slowerGreat_any : FnV Tryz.prog 139 [.agg (r.cells pv tv iv).toArray, uv] w (.int .i64 (greatM r us)) := by
  refine FnV.of (n := 62) Tryz.func139 rfl rfl ?_; refine G.seq (G.region ?_); refine G.op (og_box rfl rfl) rfl (fun bk2 _ => ?_); refine G.v (rv_assign rfl) rfl (G.done (G.thenN (G.seq (G.seq (G.region (G.v (rv_loadW 0 rfl rfl rfl) rfl ?_)))))); refine G.op (og_callV rfl rfl (fun w hh => sclass_any (r := r) w (Rd.stays h _ hh) (Rd.stays h2 _ hh) (Rd.stays h3 _ hh))) rfl (fun _ _ => ?_); refine G.v (rv_neq rfl rfl) rfl (G.done (G.thenN ?_)); refine G.cond rfl (fun hc => ?_) (fun hc => ?_)
  · try exact Bool.noConfusion hc
    all_goals
     try replace hc := of_decide_eq_true hc
     try simp only [List.length_map] at hc
     try (exfalso; contradiction)
     all_goals
      have hno : ¬ classM r = 0 := hc
      all_goals
       refine G.seq (G.region (G.v (rv_assign rfl) rfl (G.done (G.thenN (G.ret (G.thenR ?_))))))
       exact G.retFV rfl rfl (congrArg (Value.int .i64) (by rw [greatM, if_neg hno]))
  · try exact Bool.noConfusion hc
    all_goals
     try replace hc := of_decide_eq_false hc
     try simp only [List.length_map] at hc
     try (exfalso; contradiction)
     all_goals
      have hyes : classM r = 0 := by omega
      have hmv := type_vol (mst_ok hyes)
      have hmg := type_in (mst_ok hyes)
      all_goals
       refine G.skip (G.thenN (G.seq (G.region (G.v (rv_loadW 0 rfl rfl rfl) rfl ?_)))); refine G.op (og_callV rfl rfl (fun w hh => smasterOf_any (r := r) w (Rd.stays h2 _ hh))) rfl (fun _ _ => ?_); refine G.v (rv_move rfl) rfl (G.v (rv_extract rfl rfl) rfl (G.v (rv_extract rfl rfl) rfl ?_)); refine G.op (og_alloc) rfl (fun bk5 _ => ?_); refine G.op0 (og_st0 rfl rfl rfl rfl rfl rfl (.zero (.cons (.cons (.cons (.cons (.cons (.cons (.cons .nil))))))))) (fun _ _ => ?_); refine G.v (rv_assign rfl) rfl (G.done (G.thenN (G.seq (G.region (G.v (rv_loadW 1 rfl rfl rfl) rfl ?_)))))
       (refine G.op (og_callF1 rfl rfl (fun w hh => by have q := sl6Units_any (r := r) (pv := pv) (tv := tv) w (bounds_items (cls_sound hyes)) (bounds_lens (cls_sound hyes)).1 (Rd.stays h3 _ hh); rw [← unitsM_yes hyes] at q; exact q)) rfl ?_; rintro vu hvu; try dsimp only)
       refine G.v (rv_assign rfl) rfl (G.done (G.thenN (G.seq (G.region (G.v (rv_assign rfl) rfl (G.done (G.thenN (G.seq (G.region (G.v (rv_assign rfl) rfl (G.done ?_))))))))))); refine G.thenN (G.seq (G.seq (G.region (G.v (rv_assign rfl) rfl (G.done (G.thenN (G.block ?_)))))))
       -- loop 0: turned [8, 9, 10], kept [1, 2, 5, 7]
       refine G.loopK (ι := Nat) (ks := [1, 2, 5, 7]) (fun k => [(8, .int .i64 ((us.take k).countP (fun u => decide (2 * vOf r u > volM (mst r).w (mst r).h (mst r).d)) : Int)), (9, .int .i64 ((us.take k).countP (fun u => decide (2 * gOf r u > (mst r).g)) : Int)), (10, .int .i64 k)]) (fun _ => []) (fun k => k ≤ us.length) (fun k => us.length - k) 0 (.cons rfl (.cons rfl (.cons rfl (.cons rfl (.nil))))) rfl ?_ ?_ ?_
       · exact Nat.zero_le _
       · exact ⟨rfl, rfl, rfl, trivial⟩
       rintro k hk
       have hc1 := List.countP_le_length (p := fun u => decide (2 * vOf r u > volM (mst r).w (mst r).h (mst r).d)) (l := us.take k)
       have hc2 := List.countP_le_length (p := fun u => decide (2 * gOf r u > (mst r).g)) (l := us.take k)
       rw [List.length_take, Nat.min_eq_left hk] at hc1 hc2
       by_cases hlt : k < us.length
       case' pos => (obtain ⟨u, hb⟩ := get_of_lt hlt; have e1 := get_map hb icell; have hv1 := volUS_one r u; have hg1 := gram_one r u; have hg2 := gOf_in r u; have hv2 := vOf_in r u; have hbit : ∀ b : Bool, 0 ≤ (if b then (1 : Int) else 0) ∧ (if b then (1 : Int) else 0) ≤ 1 := (fun b => by cases b <;> decide))
       all_goals
        refine G.seq (G.seq (G.region (G.v (rv_move rfl) rfl (G.v (rv_move rfl) rfl ?_)))); refine G.v (rv_len rfl (by exact Rd.stays (by assumption))) rfl ?_; refine G.v (rv_lss rfl rfl) rfl (G.done (G.thenN ?_)); refine G.cond rfl (fun hc => ?_) (fun hc => ?_)
        · try exact Bool.noConfusion hc
          all_goals
           try replace hc := of_decide_eq_true hc
           try simp only [List.length_map] at hc
           try (exfalso; omega)
           all_goals
            refine G.skip (G.thenN (G.seq (G.block (G.seq ?_)))); refine G.drawL [9] ?_; refine GE.q 0 rfl (by as_aux_lemma => kernel_rfl) rfl (qg_runs (rv_loadW 2 rfl rfl rfl)) rfl ?_; refine GE.q 1 rfl (by as_aux_lemma => kernel_rfl) rfl (qg_runs (rv_move rfl)) rfl ?_; refine GE.q 2 rfl (by as_aux_lemma => kernel_rfl) rfl (qg_runs (rv_move rfl)) rfl ?_; refine GE.q 3 rfl (by as_aux_lemma => kernel_rfl) rfl (qg_runs (rv_move rfl)) rfl ?_; refine GE.q 4 rfl (by as_aux_lemma => kernel_rfl) rfl (qg_runs (rv_move rfl)) rfl ?_; refine GE.q 5 rfl (by as_aux_lemma => kernel_rfl) rfl (qg_runs (rv_incr rfl rfl (by omega))) rfl ?_; refine GE.q 6 rfl (by as_aux_lemma => kernel_rfl) rfl (qg_runs (rv_sliceLH (l := k) (h := k + 1) rfl rfl rfl (by omega) (Rd.stays h4) (by omega) (by simp; omega))) rfl ?_; refine GE.any (rs := [7, 8]) (by as_aux_lemma => kernel_rfl) (by simp) ?_; refine List.forall_mem_cons.2 ⟨?_, List.forall_mem_cons.2 ⟨?_, fun _ h => absurd h List.not_mem_nil⟩⟩
            focus
              (refine GE.pickOp rfl rfl rfl (og_callF0 rfl rfl (fun w hh => (l7Of_any (r := r) (us := [u]) w (Rd.stays h3 _ hh) (by have q := (Rd.stays h4 _ hh).sub (l := k) (k := k + 1) (by omega) (by simp; omega); rw [one_sub hb] at q; exact q) (by simp) (by exact Rd.owned 0 rfl _ hh)).toFn)) rfl (fun _ _ h => by exact h) ?_; rintro ⟨⟩ _; try dsimp only)
              refine GE.ol 8 (by as_aux_lemma => kernel_rfl) rfl rfl (og_alloc) rfl (fun _ _ h => by exact h.drop 1) (fun bk11 _ => ?_); refine GE.t0 9 (by as_aux_lemma => kernel_rfl) rfl rfl rfl (og_st0 rfl rfl rfl rfl rfl rfl (.zero (.cons (.cons .nil)))) (fun _ _ => ?_); refine GE.done (by as_aux_lemma => kernel_rfl) ?_
            rotate_left
            focus
              refine GE.pickOp rfl rfl rfl (og_alloc) rfl (fun _ _ h => by exact h.drop 1) (fun bk11 _ => ?_)
              (refine GE.ol 7 (by as_aux_lemma => kernel_rfl) rfl rfl (og_callF0 rfl rfl (fun w hh => (l7Of_any (r := r) (us := [u]) w (Rd.stays h3 _ hh) (by have q := (Rd.stays h4 _ hh).sub (l := k) (k := k + 1) (by omega) (by simp; omega); rw [one_sub hb] at q; exact q) (by simp) (by exact Rd.owned 1 rfl _ hh)).toFn)) rfl (fun _ _ h => by exact h.drop 1) ?_; rintro ⟨⟩ _; try dsimp only)
              refine GE.t0 9 (by as_aux_lemma => kernel_rfl) rfl rfl rfl (og_st0 rfl rfl rfl rfl rfl rfl (.zero (.cons (.cons .nil)))) (fun _ _ => ?_); refine GE.done (by as_aux_lemma => kernel_rfl) ?_
            rotate_left
            all_goals
             refine G.thenN (G.seq ?_); refine G.drawL [14] ?_; refine GE.q 0 rfl (by as_aux_lemma => kernel_rfl) rfl (qg_runs (rv_move rfl)) rfl ?_; refine GE.q 1 rfl (by as_aux_lemma => kernel_rfl) rfl (qg_runs (rv_field rfl)) rfl ?_; refine GE.q 2 rfl (by as_aux_lemma => kernel_rfl) rfl (qg_runs (rv_load1 0 rfl rfl rfl)) rfl ?_; refine GE.q 3 rfl (by as_aux_lemma => kernel_rfl) rfl (qg_runs (rv_mulB rfl rfl (by omega) (by omega))) rfl ?_; refine GE.q 4 rfl (by as_aux_lemma => kernel_rfl) rfl (qg_runs (rv_field rfl)) rfl ?_; refine GE.q 5 rfl (by as_aux_lemma => kernel_rfl) rfl (qg_runs (rv_load1 2 rfl rfl rfl)) rfl ?_; refine GE.q 6 rfl (by as_aux_lemma => kernel_rfl) rfl (qg_runs (rv_field rfl)) rfl ?_; refine GE.q 7 rfl (by as_aux_lemma => kernel_rfl) rfl (qg_runs (rv_load1 2 rfl rfl rfl)) rfl ?_; refine GE.ol 8 (by as_aux_lemma => kernel_rfl) rfl rfl (og_runs (rv_field rfl)) rfl (fun _ _ h => by exact h) (fun _ _ => ?_); refine GE.ol 9 (by as_aux_lemma => kernel_rfl) rfl rfl (og_runs (rv_load1 2 rfl rfl rfl)) rfl (fun _ _ h => by exact h) (fun _ _ => ?_); refine GE.ol 10 (by as_aux_lemma => kernel_rfl) rfl rfl (og_callV rfl rfl (fun w hh => svolume_any (mst r).w (mst r).h (mst r).d w)) rfl (fun _ _ h => by exact h) (fun _ _ => ?_); refine GE.ol 11 (by as_aux_lemma => kernel_rfl) rfl rfl (og_runs (rv_gtr rfl rfl)) rfl (fun _ _ h => by exact h) (fun _ _ => ?_)
             refine GE.ol 12 (by as_aux_lemma => kernel_rfl) rfl rfl (og_callV rfl rfl (fun w _ => l1Bit_any _ w)) rfl (fun _ _ h => by exact h) (fun _ _ => ?_)
             have hb1 := hbit (decide (2 * volUS r [u] > volM (mst r).w (mst r).h (mst r).d))
             refine GE.ol 13 (by as_aux_lemma => kernel_rfl) rfl rfl (og_runs (rv_addB rfl rfl (by omega) (by omega))) rfl (fun _ _ h => by exact h) (fun _ _ => ?_); refine GE.t 14 (by as_aux_lemma => kernel_rfl) rfl rfl rfl (og_runs (rv_assign rfl)) rfl (fun _ _ => ?_); refine GE.done (by as_aux_lemma => kernel_rfl) ?_; refine G.thenN (G.region (G.v (rv_move rfl) rfl (G.v (rv_field rfl) rfl (G.v (rv_load1 0 rfl rfl rfl) rfl ?_)))); refine G.v (rv_mulB rfl rfl (by omega) (by omega)) rfl ?_; refine G.v (rv_field rfl) rfl (G.v (rv_load1 2 rfl rfl rfl) rfl (G.v (rv_gtr rfl rfl) rfl ?_)); refine G.op (og_callV rfl rfl (fun w _ => l1Bit_any _ w)) rfl (fun _ _ => ?_)
             have hb2 := hbit (decide (2 * gramM r [u] > (mst r).g))
             refine G.v (rv_addB rfl rfl (by omega) (by omega)) rfl ?_; refine G.v (rv_assign rfl) rfl (G.done (G.inN (G.thenN (G.region (G.v (rv_move rfl) rfl ?_))))); refine G.v (rv_incr rfl rfl (by omega)) rfl ?_; refine G.v (rv_assign rfl) rfl (G.done ?_); refine G.backK (k + 1) 1 rfl (.cons rfl (.cons rfl (.cons rfl (.cons rfl (.nil))))) ?_ ?_ ?_
             · exact ⟨congrArg (fun z => some (Value.int .i64 z)) (by rw [cnt_nextU hb, hv1]), congrArg (fun z => some (Value.int .i64 z)) (by rw [cnt_nextU hb, hg1]; rfl), rfl, trivial⟩
             · exact hlt
             · omega
        · try exact Bool.noConfusion hc
          all_goals
           try replace hc := of_decide_eq_false hc
           try simp only [List.length_map] at hc
           try (exfalso; omega)
           all_goals
            refine G.exit (G.thenX (G.thenX (G.inX (G.thenN (G.seq (G.region (G.v (rv_move rfl) rfl (G.v (rv_move rfl) rfl ?_)))))))); refine G.op (og_callV rfl rfl (fun w _ => l1Max_any _ _ w)) rfl (fun _ _ => ?_); refine G.v (rv_assign rfl) rfl (G.done (G.thenN (G.ret ?_)))
            (exact G.retFV rfl rfl (congrArg (Value.int .i64) (by rw [greatM, if_pos hyes, take_all (by omega), cnt_items vI _ (by omega) (vOf r) (fun _ => rfl), cnt_items ItemM.g _ (by omega) (gOf r) (fun _ => rfl)]; rfl)))
theorem slower_any : FnV Tryz.prog 65 [.agg (r.cells pv tv iv).toArray, uv] w (.int .i64 (lowM r us)) := by
  refine FnV.of (n := 16) Tryz.func65 rfl rfl ?_; refine G.seq (G.region ?_); refine G.op (og_box rfl rfl) rfl (fun bk2 _ => ?_); refine G.v (rv_assign rfl) rfl (G.done (G.thenN (G.seq ?_))); refine G.drawL [11] ?_; refine GE.q 0 rfl (by as_aux_lemma => kernel_rfl) rfl (qg_runs (rv_loadW 0 rfl rfl rfl)) rfl ?_; refine GE.q 1 rfl (by as_aux_lemma => kernel_rfl) rfl (qg_runs (rv_move rfl)) rfl ?_; refine GE.q 2 rfl (by as_aux_lemma => kernel_rfl) rfl (qg_call rfl rfl (fun w hh => slowerVolume_any (r := r) w (Rd.stays h _ hh) (Rd.stays h2 _ hh) (Rd.stays h3 _ hh) (Rd.stays h4 _ hh) hul)) rfl ?_; refine GE.q 3 rfl (by as_aux_lemma => kernel_rfl) rfl (qg_runs (rv_loadW 0 rfl rfl rfl)) rfl ?_; refine GE.q 4 rfl (by as_aux_lemma => kernel_rfl) rfl (qg_runs (rv_move rfl)) rfl ?_; refine GE.q 5 rfl (by as_aux_lemma => kernel_rfl) rfl (qg_call rfl rfl (fun w hh => slowerGram_any (r := r) w (Rd.stays h _ hh) (Rd.stays h2 _ hh) (Rd.stays h3 _ hh) (Rd.stays h4 _ hh) hul)) rfl ?_; refine GE.q 6 rfl (by as_aux_lemma => kernel_rfl) rfl (qg_call rfl rfl (fun w _ => l1Max_any _ _ w)) rfl ?_; refine GE.q 7 rfl (by as_aux_lemma => kernel_rfl) rfl (qg_runs (rv_loadW 0 rfl rfl rfl)) rfl ?_; refine GE.ol 8 (by as_aux_lemma => kernel_rfl) rfl rfl (og_runs (rv_move rfl)) rfl (fun _ _ h => by exact h) (fun _ _ => ?_)
  refine GE.ol 9 (by as_aux_lemma => kernel_rfl) rfl rfl (og_callV rfl rfl (fun w hh => slowerGreat_any (r := r) w (Rd.stays h _ hh) (Rd.stays h2 _ hh) (Rd.stays h3 _ hh) (Rd.stays h4 _ hh) hul)) rfl (fun _ _ h => by exact h) (fun _ _ => ?_); refine GE.ol 10 (by as_aux_lemma => kernel_rfl) rfl rfl (og_callV rfl rfl (fun w _ => l1Max_any _ _ w)) rfl (fun _ _ h => by exact h) (fun _ _ => ?_); refine GE.t 11 (by as_aux_lemma => kernel_rfl) rfl rfl rfl (og_runs (rv_assign rfl)) rfl (fun _ _ => ?_); refine GE.done (by as_aux_lemma => kernel_rfl) ?_; refine G.thenN (G.ret ?_)
  exact G.retFV rfl rfl rfl
end
end Go.Proofs.YtibkggjbkgdnkaaGreat
