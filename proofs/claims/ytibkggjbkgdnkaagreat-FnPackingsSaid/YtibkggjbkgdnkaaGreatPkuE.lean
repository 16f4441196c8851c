/-
  Texts of this proof, one behind the other: FirstW, FirstX, FitLaw, IsPackM, LaySort, SortG.
-/
import Derived.Test.YtibkggjbkgdnkaaGreatPkuD
import Derived.Shelf.Sort.Plain
import Derived.Test.YtibkggjbkgdnkaaGreatProg
import Derived.Test.YtibkggjbkgdnkaaGreatPkuB
import Derived.Sort.OwnSortedInts

/-
  First fit: both ways.
-/
namespace Go.Proofs.YtibkggjbkgdnkaaGreat
open Go.RowKit
attribute [local irreducible] Go.wpList Go.Code.wp Go.Exit.then Go.Exit.inBlock Go.bodyPost Go.Calls pE pB G RunsV FnV Fn FnM
set_option maxRecDepth 100000
set_option maxHeartbeats 4000000
theorem vkey_snoc {r : ReqM} {T : List Int} {k : Nat} {x : Int} (hx : T[k]? = some x) : ((T.take k).map (vOf r)).map icell ++ [[Value.int .i64 (vOf r x)]] = ((T.take (k + 1)).map (vOf r)).map icell := by
  simp [List.take_add_one, hx, icell]
theorem ordU_take {r : ReqM} {T : List Int} {k x : Nat} {u : Int} (hx : (ordM (keyM (T.map (vOf r))) (T.map (vOf r)).length)[k]? = some x) (hu : T[x]? = some u) : (ordU r T)[k]? = some u := ordU_at (by rw [← hx, List.length_map]) hu
section
variable {r : ReqM} {pv tv iv uv : Value} {us : List Int} (w : World) (h : Rd w pv 2 (r.pairs.map PairM.cells)) (h2 : Rd w tv 7 (r.types.map TypeM.cells)) (h3 : Rd w iv 7 (r.items.map ItemM.cells))
include h h2 h3
theorem firstFit1_any {g : List Int} {lv : Value} {q1 q2 : Nat} (u : Int) (h4 : Rd w lv 1 (g.map icell)) (hul : g.length + 1 ≤ 1048576) (h5 : Rd w (.slice (some ⟨q1, 0, none⟩) 1 1) 10 [r.cells pv tv iv]) (h6 : Rd w (.slice (some ⟨q2, 0, none⟩) 1 1) 1 [[.int .i64 u]]) : FnV Tryz.prog 104 [lv, pB q1 0, pB q2 0] w (.bool (roomM r g u)) := by
  rw [pB_eq_pE q1 10, pB_eq_pE q2 1]
  refine FnV.of (n := 9) Tryz.func104 rfl rfl ?_; refine G.seq (G.region (G.v (rv_assign rfl) rfl (G.done (G.thenN (G.seq (G.region ?_)))))); refine G.v (rv_loadEW rfl (by exact Rd.stays (by assumption)) rfl rfl) rfl ?_; refine G.v (rv_move rfl) rfl ?_; refine G.v (rv_loadE rfl (by exact Rd.stays (by assumption)) rfl rfl) rfl ?_; refine G.op (og_callV rfl rfl (fun w hh => room_any (r := r) (us := g) w (Rd.stays h _ hh) (Rd.stays h2 _ hh) (Rd.stays h3 _ hh) (Rd.stays h4 _ hh) hul u)) rfl (fun _ _ => ?_); refine G.v (rv_assign rfl) rfl (G.done (G.thenN (G.ret ?_)))
  exact G.retFV rfl rfl rfl
variable (h4 : Rd w uv 1 (us.map icell)) (hul : us.length ≤ 1048576)
include h4 hul
theorem firstFit_any : Fn Tryz.prog 36 [.agg (r.cells pv tv iv).toArray, uv] w (fun x : Value × List (List Int × Value) => x.1.oneCell' = true ∧ x.2.map Prod.fst = firstM r us) (fun x => x.1) (fun x => [.grp 3 1 (x.2.map (sub id)), .row x.1 44 1 (x.2.map gcell)]) := by
  obtain ⟨T, hT⟩ : ∃ T, T = thereM r us := ⟨_, rfl⟩
  have hTl : T.length ≤ 1048576 := by have := thereM_len r us; rw [hT]; omega
  have hTl2 : (T.map icell).length = T.length := by simp
  have hTl3 : (T.map (vOf r)).length = T.length := by simp
  have hol : ((ordM (keyM (T.map (vOf r))) (T.map (vOf r)).length).map ncell).length = T.length := by rw [List.length_map, ordM_len, hTl3]
  have hol2 : (ordM (keyM (T.map (vOf r))) (T.map (vOf r)).length).length = T.length := by rw [ordM_len, hTl3]
  have hul9 := ordU_len r T
  have hall : (r.cells pv tv iv).all Value.oneCell' = true := req_all h.one_ h2.one_ h3.one_
  refine Fn.of (n := 66) Tryz.func36 rfl rfl ?_; refine G.seq (G.region ?_); refine G.op (og_box rfl rfl) rfl (fun bk2 _ => ?_); refine G.v (rv_assign rfl) rfl (G.done (G.thenN (G.seq (G.region (G.v (rv_loadW 0 rfl rfl rfl) rfl (G.v (rv_move rfl) rfl ?_))))))
  (refine G.op (og_callF1 rfl rfl (fun w hh => by have q := thereOf_any (r := r) (us := us) w (Rd.stays h _ hh) (Rd.stays h2 _ hh) (Rd.stays h3 _ hh) (Rd.stays h4 _ hh) (by omega); rw [← hT] at q; exact q)) rfl ?_; rintro vt hvt; try dsimp only)
  refine G.v (rv_assign rfl) rfl (G.done (G.thenN (G.seq (G.region ?_)))); refine G.op (og_lit rfl .nil rfl rfl rfl rfl rfl rfl) rfl (fun vl _ => ?_); refine G.v (rv_assign rfl) rfl (G.done (G.thenN (G.seq (G.seq (G.region (G.v (rv_move rfl) rfl ?_)))))); refine G.v (rv_len rfl (by exact Rd.owned 1 rfl)) rfl ?_; refine G.v (rv_move rfl) rfl (G.done (G.thenN (G.block ?_)))
  -- loop 0: turned [6, 20], kept [2, 5, 18, 19]
  refine G.loopK (ι := Nat × Value) (ks := [2, 5, 18, 19]) (fun x => [(6, x.2), (20, .int .i64 (x.1 : Int))]) (fun x => [.row x.2 3 1 (((T.take x.1).map (vOf r)).map icell)]) (fun x => x.1 ≤ T.length) (fun x => T.length - x.1) (0, vl) (.cons rfl (.cons rfl (.cons rfl (.cons rfl (.nil))))) rfl ?_ ?_ ?_
  · exact Nat.zero_le _
  · exact ⟨rfl, rfl, trivial⟩
  rintro ⟨k0, v0⟩ hk0
  dsimp only at hk0 ⊢
  have hl9 : (((T.take k0).map (vOf r)).map icell).length = k0 := by (simp; omega)
  by_cases hlt0 : k0 < T.length
  case' pos => (obtain ⟨x, hx⟩ := get_of_lt hlt0; have he := get_map hx icell)
  case' neg => (have hkall : ((T.take k0).map (vOf r)).map icell = (T.map (vOf r)).map icell := (by rw [List.take_of_length_le (by omega)]))
  all_goals
   refine G.seq (G.region (G.v (rv_lss rfl rfl) rfl (G.done (G.thenN (G.seq ?_))))); refine G.cond rfl (fun hc => ?_) (fun hc => ?_)
   · try exact Bool.noConfusion hc
     all_goals
      try replace hc := of_decide_eq_true hc
      try simp only [hTl2, hol] at hc
      try (exfalso; omega)
      all_goals
       refine G.skip (G.thenN (G.seq (G.block (G.seq (G.region ?_))))); refine G.v (rv_indexH rfl rfl (by exact Rd.owned 1 rfl) rfl (by exact he)) rfl ?_; refine G.v (rv_loadE rfl (by exact Rd.owned 1 rfl) (by exact he) rfl) rfl ?_; refine G.v (rv_assign rfl) rfl (G.done (G.thenN (G.region (G.v (rv_move rfl) rfl (G.v (rv_loadW 2 rfl rfl rfl) rfl (G.v (rv_move rfl) rfl ?_)))))); refine G.op (og_lit rfl (.cons rfl .nil) rfl rfl rfl rfl rfl rfl) rfl (fun vx _ => ?_); refine G.op (og_callV rfl rfl (fun w hh => (volumeOf_any (r := r) (us := [x]) w (Rd.stays h _ hh) (Rd.stays h2 _ hh) (Rd.stays h3 _ hh) (Rd.owned 0 rfl _ hh) (by simp)).mono (congrArg (Value.int .i64) (volUS_one r x)))) rfl (fun _ _ => ?_); refine G.op (og_lit rfl (.cons rfl .nil) rfl rfl rfl rfl rfl rfl) rfl (fun vy _ => ?_); refine G.op (og_app2 rfl rfl rfl (by exact Rd.owned 0 rfl) rfl rfl (by (simp; omega)) (by (simp; omega))) rfl (fun va _ => ?_); refine G.v (rv_assign rfl) rfl (G.done (G.inN (G.thenN (G.region ?_)))); refine G.v (rv_incr rfl rfl (by omega)) rfl ?_; refine G.v (rv_move rfl) rfl (G.done ?_); refine G.frontR2 va rfl ?_
       (refine G.keep1 2 rfl ?_; refine G.backK (k0 + 1, va) 0 (one_eq (congrArg (fun z => Ch.row va 3 1 z) (vkey_snoc hx))) (.cons rfl (.cons rfl (.cons rfl (.cons rfl (.nil))))) ?_ ?_ ?_)
       · exact ⟨rfl, rfl, trivial⟩
       · dsimp only; omega
       · dsimp only; omega
   · try exact Bool.noConfusion hc
     all_goals
      try replace hc := of_decide_eq_false hc
      try simp only [hTl2, hol] at hc
      try (exfalso; omega)
      all_goals
       refine G.exit (G.thenX (G.thenX (G.inX (G.thenN (G.seq (G.region ?_)))))); refine G.op (og_lit rfl .nil rfl rfl rfl rfl rfl rfl) rfl (fun vl _ => ?_); refine G.v (rv_assign rfl) rfl (G.done (G.thenN (G.seq (G.seq (G.region (G.v (rv_move rfl) rfl ?_))))))
       (refine G.op (og_callF1 rfl rfl (fun w hh => sortDown_any (ks := T.map (vOf r)) w (by rw [← hkall]; exact Rd.owned 1 rfl _ hh) (by omega))) rfl ?_; rintro vo hvo; try dsimp only)
       refine G.v (rv_len rfl (by exact Rd.owned 0 rfl)) rfl ?_; refine G.v (rv_move rfl) rfl (G.done (G.thenN (G.block ?_)))
       -- loop 1: turned [9, 36], kept [2, 5, 34, 35]
       refine G.frontR1 vl rfl ?_; refine G.heap (fun w hh => hh.nilGrp 3 1) ?_; refine G.loopK (ι := Nat × List (List Int × Value) × Value) (ks := [2, 5, 34, 35]) (fun x => [(9, x.2.2), (36, .int .i64 (x.1 : Int))]) (fun x => [.grp 3 1 (x.2.1.map (sub id)), .row x.2.2 44 1 (x.2.1.map gcell)]) (fun x => x.1 ≤ T.length ∧ x.2.1.map Prod.fst = putAll (roomM r) ((ordU r T).take x.1)) (fun x => T.length - x.1) (0, [], vl) (.cons rfl (.cons rfl (.cons rfl (.cons rfl (.nil))))) rfl ?_ ?_ ?_
       · exact ⟨Nat.zero_le _, rfl⟩
       · exact ⟨rfl, rfl, trivial⟩
       rintro ⟨k, ts, v2⟩ ⟨hk, hM⟩
       dsimp only at hk hM ⊢
       have hl0 : (ts.map gcell).length = ts.length := (by simp)
       have htl : ts.length ≤ k := (by have := putAll_len (roomM r) ((ordU r T).take k); have e2 := congrArg List.length hM; rw [List.length_map] at e2; rw [List.length_take] at this; omega)
       have hblA : ∀ (j : Nat) (b : List Int × Value), ts[j]? = some b → b.1.length ≤ k := (by intro j b hb; have := (putAll_at (p := roomM r) (l := (ordU r T).take k) (q := j) (g := b.1) (by rw [← hM, List.getElem?_map, hb]; rfl)); rw [List.length_take] at this; omega)
       by_cases hlt : k < T.length
       case' pos => (obtain ⟨j, hj⟩ := get_of_lt (l := ordM (keyM (T.map (vOf r))) (T.map (vOf r)).length) (k := k) (by omega); have heo := get_map hj ncell; have hjl : j < T.length := (by have := ordM_mem.1 (List.mem_of_getElem? hj); omega); obtain ⟨u, hu⟩ := get_of_lt hjl; have het := get_map hu icell; have hx := ordU_take hj hu)
       all_goals
        refine G.seq (G.region (G.v (rv_lss rfl rfl) rfl (G.done (G.thenN (G.seq ?_))))); refine G.cond rfl (fun hc => ?_) (fun hc => ?_)
        · try exact Bool.noConfusion hc
          all_goals
           try replace hc := of_decide_eq_true hc
           try simp only [hTl2, hol] at hc
           try (exfalso; omega)
           all_goals
            refine G.skip (G.thenN (G.seq (G.block (G.seq (G.region ?_))))); refine G.v (rv_indexH rfl rfl (by exact Rd.owned 2 rfl) rfl (by exact heo)) rfl ?_; refine G.v (rv_loadE rfl (by exact Rd.owned 2 rfl) (by exact heo) rfl) rfl ?_; refine G.v (rv_assign rfl) rfl (G.done (G.thenN (G.seq (G.region (G.v (rv_move rfl) rfl (G.v (rv_move rfl) rfl ?_)))))); refine G.v (rv_indexH rfl rfl (by exact Rd.owned 4 rfl) rfl (by exact het)) rfl ?_; refine G.v (rv_loadE rfl (by exact Rd.owned 4 rfl) (by exact het) rfl) rfl ?_; refine G.op (og_alloc) rfl (fun bk12 _ => ?_); refine G.op0 (og_st0 rfl rfl rfl rfl rfl rfl (.zero (.cons .nil))) (fun _ _ => ?_); refine G.done (G.thenN (G.seq (G.region (G.v (rv_move rfl) rfl (G.v (rv_makeFunc rfl rfl) rfl ?_))))); refine G.op (og_callV rfl rfl (fun w hh => indexTbl_any (l := ts) (p := fun g => roomM r g u) w (by exact Rd.owned 2 rfl _ hh) (fun w' j b hw hb => firstFit1_any (r := r) (g := b.1) w' (Rd.stays (Rd.stays h _ hh) w' hw) (Rd.stays (Rd.stays h2 _ hh) w' hw) (Rd.stays (Rd.stays h3 _ hh) w' hw) u (Rd.stays (Subs.at (by exact Subs.owned 1 rfl _ hh) hb) w' hw) (by have := hblA j b hb; omega) (Rd.stays (by exact Rd.ofBlk 6 rfl hall w hh) w' hw) (Rd.stays (by exact Rd.ofBlk 0 rfl rfl w hh) w' hw)))) rfl (fun _ _ => ?_); refine G.v (rv_assign rfl) rfl (G.done (G.thenN ?_))
            refine G.seq (G.region (G.v (rv_move rfl) rfl (G.v (rv_lss rfl rfl) rfl (G.done (G.thenN ?_))))); refine G.cond rfl (fun hc => ?_) (fun hc => ?_)
            · try exact Bool.noConfusion hc
              all_goals
               try replace hc := of_decide_eq_true hc
               try simp only [hTl2, hol] at hc
               try (exfalso; contradiction)
               all_goals
                have hno := idx_neg hc
                all_goals
                 refine G.region (G.v (rv_move rfl) rfl (G.v (rv_load1 0 rfl rfl rfl) rfl ?_)); refine G.op (og_lit rfl (.cons rfl .nil) rfl rfl rfl rfl rfl rfl) rfl (fun vl _ => ?_); refine G.know (fun w hw => (Rd.owned 0 rfl w hw).one_) (fun hovl => ?_); refine G.op (og_lit rfl (.cons (cells_one (by assumption)) .nil) (by simp only [List.all_cons, List.all_nil, Bool.and_true, Bool.and_eq_true]; exact ⟨rfl, by assumption⟩) rfl rfl rfl rfl rfl) rfl (fun vm _ => ?_); refine G.op (og_app4 rfl rfl rfl (by exact Rd.owned 0 rfl) rfl rfl (by (simp; omega)) (by (simp; omega))) rfl (fun va _ => ?_); refine G.frontG3 _ rfl ?_; refine G.frontR2 vl rfl ?_; refine G.pushRow _ push_sub rfl ?_; refine G.v (rv_assign rfl) rfl (G.done (G.inN (G.thenN (G.region ?_)))); refine G.v (rv_incr rfl rfl (by omega)) rfl ?_; refine G.v (rv_move rfl) rfl (G.done ?_); refine G.frontR3 va rfl ?_; refine G.frontG1 _ rfl ?_
                 (refine G.keep2 2 rfl ?_; refine G.backK (k + 1, ts ++ [([u], vl)], va) 0 (by exact two_eq (congrArg (fun z => Ch.grp 3 1 z) rfl) (congrArg (fun z => Ch.row va 44 1 z) push_g)) (.cons rfl (.cons rfl (.cons rfl (.cons rfl (.nil))))) ?_ ?_ ?_)
                 · exact ⟨rfl, rfl, trivial⟩
                 · (exact ⟨hlt, by rw [putAll_next hx, ← hM]; exact (put_push (p := fun g => roomM r g u) hno).symm⟩)
                 · dsimp only; omega
            · try exact Bool.noConfusion hc
              all_goals
               try replace hc := of_decide_eq_false hc
               try simp only [hTl2, hol] at hc
               try (exfalso; contradiction)
               all_goals
                obtain ⟨q, b, hq, hqb, hpb, hbt⟩ := idx_pos hc
                have heq := get_map hqb gcell
                have hgi : (ts.map (sub id))[q]? = some (b.2, b.1.map icell) := get_mapS hqb
                have hbl : b.1.length ≤ k := hblA q b hqb
                all_goals
                 refine G.frontG1 _ rfl ?_; refine G.drawD1 [9, 10] rfl ?_; refine GE.q2 0 rfl (by as_aux_lemma => kernel_rfl) rfl (qg_runs (rv_move rfl)) (fun _ h => by exact h.drop 1) rfl ?_; refine GE.q2 1 rfl (by as_aux_lemma => kernel_rfl) rfl (qg_runs (rv_move rfl)) (fun _ h => by exact h.drop 1) rfl ?_; refine GE.q2 2 rfl (by as_aux_lemma => kernel_rfl) rfl (qg_runs (rv_move rfl)) (fun _ h => by exact h.drop 1) rfl ?_; refine GE.q2 3 rfl (by as_aux_lemma => kernel_rfl) rfl (qg_runs (rv_move rfl)) (fun _ h => by exact h.drop 1) rfl ?_; refine GE.q2 4 rfl (by as_aux_lemma => kernel_rfl) rfl (qg_runs (rv_indexH (k := q) rfl rfl (by exact Rd.owned 1 rfl) (by omega) heq)) (fun _ h => by exact h.drop 1) rfl ?_; refine GE.q2 5 rfl (by as_aux_lemma => kernel_rfl) rfl (qg_runs (rv_loadE rfl (by exact Rd.owned 1 rfl) (by exact heq) rfl)) (fun _ h => by exact h.drop 1) rfl ?_; refine GE.ol 6 (by as_aux_lemma => kernel_rfl) rfl rfl (og_runs (rv_load1 1 rfl rfl rfl)) rfl (fun _ _ h => by exact h.drop 1) (fun _ _ => ?_); refine GE.ol 7 (by as_aux_lemma => kernel_rfl) rfl rfl (og_lit rfl (.cons rfl .nil) rfl rfl rfl rfl rfl rfl) rfl (fun _ _ h => by exact h.drop 2) (fun vl _ => ?_); refine GE.ol 8 (by as_aux_lemma => kernel_rfl) rfl rfl (og_appG1 rfl rfl rfl hgi (by exact Rd.owned 0 rfl) rfl rfl (by (simp; omega)) (by (simp; omega))) rfl (fun _ _ h => by exact h.drop 2) (fun vb _ => ?_)
                 skip; refine GE.know (fun w hw => (Rd.grp 1 rfl (List.mem_of_getElem? (get_set1 hgi)) w hw).one_) (fun hova => ?_)
                 refine GE.t 9 (by as_aux_lemma => kernel_rfl) rfl rfl rfl (og_runs (rv_indexH (k := q) rfl rfl (by exact Rd.owned 3 rfl) (by omega) heq)) rfl (fun _ _ => ?_); refine GE.t0 10 (by as_aux_lemma => kernel_rfl) rfl rfl rfl (og_stE3 rfl rfl rfl (by exact heq) (cells_one (by assumption)) rfl (by repeat (first | rfl | refine one_cons (by assumption) ?_)) rfl (.zero (.cons .nil))) (fun _ _ => ?_); refine GE.done (by as_aux_lemma => kernel_rfl) ?_; refine G.inN (G.thenN (G.region ?_)); refine G.v (rv_incr rfl rfl (by omega)) rfl ?_; refine G.v (rv_move rfl) rfl (G.done ?_); refine G.frontR3 v2 rfl ?_; refine G.frontG2 _ rfl ?_
                 (refine G.keep2 2 rfl ?_; refine G.backK (k + 1, ts.set q (b.1 ++ [u], vb), v2) 0 (by exact two_eq (congrArg (fun z => Ch.grp 3 1 z) into_sub) (congrArg (fun z => Ch.row v2 44 1 z) into_g)) (.cons rfl (.cons rfl (.cons rfl (.cons rfl (.nil))))) ?_ ?_ ?_)
                 · exact ⟨rfl, rfl, trivial⟩
                 · (exact ⟨hlt, by rw [putAll_next hx, ← hM]; exact (put_into (p := fun g => roomM r g u) hqb hpb hbt).symm⟩)
                 · dsimp only; omega
        · try exact Bool.noConfusion hc
          all_goals
           try replace hc := of_decide_eq_false hc
           try simp only [hTl2, hol] at hc
           try (exfalso; omega)
           all_goals
            refine G.exit (G.thenX (G.thenX (G.inX (G.thenN (G.seq (G.region (G.v (rv_move rfl) rfl (G.v (rv_assign rfl) rfl (G.done (G.thenN (G.ret ?_))))))))))); refine G.know (fun w hw => (Rd.owned 1 rfl w hw).one_) (fun hone => G.retF (v2, ts) ⟨hone, by rw [take_all (l := ordU r T) (by omega), hT] at hM; exact hM⟩ rfl rfl rfl (fun w hw => hw.sublist (by repeat (first | exact List.Sublist.refl _ | refine List.Sublist.cons_cons _ ?_ | refine List.Sublist.cons _ ?_))))
end
end Go.Proofs.YtibkggjbkgdnkaaGreat

/-
  First fit, the reference's way; the way that an order asks for.
-/
namespace Go.Proofs.YtibkggjbkgdnkaaGreat
open Go.RowKit
attribute [local irreducible] Go.wpList Go.Code.wp Go.Exit.then Go.Exit.inBlock Go.bodyPost Go.Calls pE pB G RunsV FnV Fn FnM
set_option maxRecDepth 100000
set_option maxHeartbeats 4000000
section
variable {r : ReqM} {pv tv iv uv : Value} {us : List Int} (w : World) (h : Rd w pv 2 (r.pairs.map PairM.cells)) (h2 : Rd w tv 7 (r.types.map TypeM.cells)) (h3 : Rd w iv 7 (r.items.map ItemM.cells)) (h4 : Rd w uv 1 (us.map icell)) (hul : us.length ≤ 1048576)
include h h2 h3 h4 hul
omit h in
theorem l7First_any (hyes : classM r = 0) : Fn Tryz.prog 101 [.agg (r.cells pv tv iv).toArray, uv] w (fun x : Value × List (List Int × Value) => x.1.oneCell' = true ∧ x.2.map Prod.fst = putAll (roomM r) (ordU r us)) (fun x => x.1) (fun x => [.grp 3 1 (x.2.map (sub id)), .row x.1 44 1 (x.2.map gcell)]) := by
  have hTl2 : (us.map icell).length = us.length := by simp
  have hTl3 : (us.map (vOf r)).length = us.length := by simp
  have hol : ((ordM (keyM (us.map (vOf r))) (us.map (vOf r)).length).map ncell).length = us.length := by rw [List.length_map, ordM_len, hTl3]
  have hol2 : (ordM (keyM (us.map (vOf r))) (us.map (vOf r)).length).length = us.length := by rw [ordM_len, hTl3]
  have hul9 := ordU_len r us
  refine Fn.of (n := 93) Tryz.func101 rfl rfl ?_; refine G.seq (G.region ?_); refine G.op (og_box rfl rfl) rfl (fun bk2 _ => ?_); refine G.v (rv_assign rfl) rfl (G.done (G.thenN (G.seq (G.region (G.v (rv_loadW 0 rfl rfl rfl) rfl ?_))))); refine G.op (og_callV rfl rfl (fun w hh => smasterOf_any (r := r) w (Rd.stays h2 _ hh))) rfl (fun _ _ => ?_); refine G.v (rv_move rfl) rfl (G.v (rv_extract rfl rfl) rfl (G.v (rv_extract rfl rfl) rfl ?_)); refine G.op (og_alloc) rfl (fun bk5 _ => ?_); refine G.op0 (og_st0 rfl rfl rfl rfl rfl rfl (.zero (.cons (.cons (.cons (.cons (.cons (.cons (.cons .nil))))))))) (fun _ _ => ?_); refine G.v (rv_assign rfl) rfl (G.done (G.thenN (G.seq (G.region (G.v (rv_loadW 1 rfl rfl rfl) rfl ?_)))))
  (refine G.op (og_callF1 rfl rfl (fun w hh => by have q := sl6Units_any (r := r) (pv := pv) (tv := tv) w (bounds_items (cls_sound hyes)) (bounds_lens (cls_sound hyes)).1 (Rd.stays h3 _ hh); rw [← unitsM_yes hyes] at q; exact q)) rfl ?_; rintro vu hvu; try dsimp only)
  refine G.v (rv_assign rfl) rfl (G.done (G.thenN (G.seq (G.region ?_)))); refine G.op (og_lit rfl .nil rfl rfl rfl rfl rfl rfl) rfl (fun vl _ => ?_); refine G.v (rv_assign rfl) rfl (G.done (G.thenN (G.seq (G.seq (G.region (G.v (rv_assign rfl) rfl (G.done (G.thenN (G.block ?_)))))))))
  -- loop 0: turned [8, 9], kept [1, 2, 5, 7]
  refine G.frontR0 vl rfl ?_; refine G.loopK (ι := Nat × Value) (ks := [1, 2, 5, 7]) (fun x => [(8, x.2), (9, .int .i64 (x.1 : Int))]) (fun x => [.row x.2 3 1 (((us.take x.1).map (vOf r)).map icell)]) (fun x => x.1 ≤ us.length) (fun x => us.length - x.1) (0, vl) (.cons rfl (.cons rfl (.cons rfl (.cons rfl (.nil))))) rfl ?_ ?_ ?_
  · exact Nat.zero_le _
  · exact ⟨rfl, rfl, trivial⟩
  rintro ⟨k0, v0⟩ hk0
  dsimp only at hk0 ⊢
  have hl9 : (((us.take k0).map (vOf r)).map icell).length = k0 := (by simp; omega)
  by_cases hlt0 : k0 < us.length
  case' pos => (obtain ⟨x, hx⟩ := get_of_lt hlt0; have he := get_map hx icell; have hv1 := volUS_one r x)
  case' neg => (have hkall : ((us.take k0).map (vOf r)).map icell = (us.map (vOf r)).map icell := (by rw [List.take_of_length_le (by omega)]))
  all_goals
   refine G.seq (G.seq (G.region (G.v (rv_move rfl) rfl (G.v (rv_move rfl) rfl ?_)))); refine G.v (rv_len rfl (by exact Rd.stays (by assumption))) rfl ?_; refine G.v (rv_lss rfl rfl) rfl (G.done (G.thenN ?_)); refine G.cond rfl (fun hc => ?_) (fun hc => ?_)
   · try exact Bool.noConfusion hc
     all_goals
      try replace hc := of_decide_eq_true hc
      try simp only [hTl2, hol] at hc
      try (exfalso; omega)
      all_goals
       refine G.skip (G.thenN (G.seq (G.block ?_))); refine G.frontR0 v0 rfl ?_; refine G.drawD1 [12] rfl ?_; refine GE.q2 0 rfl (by as_aux_lemma => kernel_rfl) rfl (qg_runs (rv_move rfl)) (fun _ h => by exact h.drop 1) rfl ?_; refine GE.q2 1 rfl (by as_aux_lemma => kernel_rfl) rfl (qg_runs (rv_loadW 2 rfl rfl rfl)) (fun _ h => by exact h.drop 1) rfl ?_; refine GE.q2 2 rfl (by as_aux_lemma => kernel_rfl) rfl (qg_runs (rv_move rfl)) (fun _ h => by exact h.drop 1) rfl ?_; refine GE.q2 3 rfl (by as_aux_lemma => kernel_rfl) rfl (qg_runs (rv_move rfl)) (fun _ h => by exact h.drop 1) rfl ?_; refine GE.q2 4 rfl (by as_aux_lemma => kernel_rfl) rfl (qg_runs (rv_move rfl)) (fun _ h => by exact h.drop 1) rfl ?_; refine GE.ol 5 (by as_aux_lemma => kernel_rfl) rfl rfl (og_runs (rv_move rfl)) rfl (fun _ _ h => by exact h.drop 1) (fun _ _ => ?_); refine GE.ol 6 (by as_aux_lemma => kernel_rfl) rfl rfl (og_runs (rv_incr rfl rfl (by omega))) rfl (fun _ _ h => by exact h.drop 1) (fun _ _ => ?_); refine GE.ol 7 (by as_aux_lemma => kernel_rfl) rfl rfl (og_runs (rv_sliceLH (l := k0) (h := k0 + 1) rfl rfl rfl (by omega) (Rd.stays h4) (by omega) (by simp; omega))) rfl (fun _ _ h => by exact h.drop 1) (fun _ _ => ?_)
       refine GE.ol 8 (by as_aux_lemma => kernel_rfl) rfl rfl (og_callV rfl rfl (fun w hh => l7Of_any (r := r) (us := [x]) w (Rd.stays h3 _ hh) (by have q := (Rd.stays h4 _ hh).sub (l := k0) (k := k0 + 1) (by omega) (by simp; omega); rw [one_sub hx] at q; exact q) (by simp) (by exact Rd.owned 1 rfl _ hh))) rfl (fun _ _ h => by exact h.drop 1) (fun _ _ => ?_); refine GE.ol 9 (by as_aux_lemma => kernel_rfl) rfl rfl (og_runs (rv_fieldV 0 rfl (by kernel_rfl) rfl)) rfl (fun _ _ h => by exact h.drop 1) (fun _ _ => ?_); refine GE.ol 10 (by as_aux_lemma => kernel_rfl) rfl rfl (og_lit rfl (.cons rfl .nil) rfl rfl rfl rfl rfl rfl) rfl (fun _ _ h => by exact h.drop 2) (fun vy _ => ?_); refine GE.ol 11 (by as_aux_lemma => kernel_rfl) rfl rfl (og_app1 rfl rfl rfl (by exact Rd.owned 0 rfl) rfl rfl (by (simp; omega)) (by (simp; omega))) rfl (fun _ _ h => by exact h.drop 2) (fun va _ => ?_); refine GE.t 12 (by as_aux_lemma => kernel_rfl) rfl rfl rfl (og_runs (rv_assign rfl)) rfl (fun _ _ => ?_); refine GE.done (by as_aux_lemma => kernel_rfl) ?_; refine G.inN (G.thenN (G.region (G.v (rv_move rfl) rfl ?_))); refine G.v (rv_incr rfl rfl (by omega)) rfl ?_; refine G.v (rv_assign rfl) rfl (G.done ?_); refine G.frontR1 va rfl ?_
       (refine G.keep1 1 rfl ?_; refine G.backK (k0 + 1, va) 0 (one_eq (congrArg (fun z => Ch.row va 3 1 z) ((congrArg (fun z => ((us.take k0).map (vOf r)).map icell ++ [[Value.int .i64 z]]) hv1).trans (vkey_snoc hx)))) (.cons rfl (.cons rfl (.cons rfl (.cons rfl (.nil))))) ?_ ?_ ?_)
       · exact ⟨rfl, rfl, trivial⟩
       · dsimp only; omega
       · dsimp only; omega
   · try exact Bool.noConfusion hc
     all_goals
      try replace hc := of_decide_eq_false hc
      try simp only [hTl2, hol] at hc
      try (exfalso; omega)
      all_goals
       refine G.exit (G.thenX (G.thenX (G.inX (G.thenN (G.seq (G.region (G.v (rv_move rfl) rfl ?_)))))))
       (refine G.op (og_callF1 rfl rfl (fun w hh => ssortDown_any (ks := us.map (vOf r)) w (by rw [← hkall]; exact Rd.owned 0 rfl _ hh) (by omega))) rfl ?_; rintro vo hvo; try dsimp only)
       refine G.v (rv_assign rfl) rfl (G.done (G.thenN (G.seq (G.region ?_)))); refine G.op (og_lit rfl .nil rfl rfl rfl rfl rfl rfl) rfl (fun vl _ => ?_); refine G.v (rv_assign rfl) rfl (G.done (G.thenN (G.seq (G.seq (G.region (G.v (rv_assign rfl) rfl (G.done (G.thenN (G.block ?_)))))))))
       -- loop 1: turned [11, 12], kept [1, 2, 5, 7, 10]
       refine G.frontR0 vl rfl ?_; refine G.heap (fun w hh => hh.nilGrp 3 1) ?_; refine G.loopK (ι := Nat × List (List Int × Value) × Value) (ks := [1, 2, 5, 7, 10]) (fun x => [(11, x.2.2), (12, .int .i64 (x.1 : Int))]) (fun x => [.grp 3 1 (x.2.1.map (sub id)), .row x.2.2 44 1 (x.2.1.map gcell)]) (fun x => x.1 ≤ us.length ∧ x.2.1.map Prod.fst = putAll (roomM r) ((ordU r us).take x.1)) (fun x => us.length - x.1) (0, [], vl) (.cons rfl (.cons rfl (.cons rfl (.cons rfl (.cons rfl (.nil)))))) rfl ?_ ?_ ?_
       · exact ⟨Nat.zero_le _, rfl⟩
       · exact ⟨rfl, rfl, trivial⟩
       rintro ⟨k, ts, v2⟩ ⟨hk, hM⟩
       dsimp only at hk hM ⊢
       have hl0 : (ts.map gcell).length = ts.length := (by simp)
       have htl : ts.length ≤ k := (by have := putAll_len (roomM r) ((ordU r us).take k); have e2 := congrArg List.length hM; rw [List.length_map] at e2; rw [List.length_take] at this; omega)
       have hblA : ∀ (j : Nat) (b : List Int × Value), ts[j]? = some b → b.1.length ≤ k := (by intro j b hb; have := (putAll_at (p := roomM r) (l := (ordU r us).take k) (q := j) (g := b.1) (by rw [← hM, List.getElem?_map, hb]; rfl)); rw [List.length_take] at this; omega)
       by_cases hlt : k < us.length
       case' pos => (obtain ⟨j0, hj⟩ := get_of_lt (l := ordM (keyM (us.map (vOf r))) (us.map (vOf r)).length) (k := k) (by omega); have heo := get_map hj ncell; have hjl : j0 < us.length := (by have := ordM_mem.1 (List.mem_of_getElem? hj); omega); obtain ⟨u, hu⟩ := get_of_lt hjl; have het := get_map hu icell; have hx := ordU_take hj hu)
       all_goals
        refine G.seq (G.seq (G.region (G.v (rv_move rfl) rfl (G.v (rv_move rfl) rfl ?_)))); refine G.v (rv_len rfl (by exact Rd.owned 2 rfl)) rfl ?_; refine G.v (rv_lss rfl rfl) rfl (G.done (G.thenN ?_)); refine G.cond rfl (fun hc => ?_) (fun hc => ?_)
        · try exact Bool.noConfusion hc
          all_goals
           try replace hc := of_decide_eq_true hc
           try simp only [hTl2, hol] at hc
           try (exfalso; omega)
           all_goals
            refine G.skip (G.thenN (G.seq (G.block (G.seq (G.region (G.v (rv_move rfl) rfl (G.v (rv_move rfl) rfl (G.v (rv_move rfl) rfl ?_)))))))); refine G.v (rv_indexH rfl rfl (by exact Rd.owned 2 rfl) rfl (by exact heo)) rfl ?_; refine G.v (rv_loadE rfl (by exact Rd.owned 2 rfl) (by exact heo) rfl) rfl ?_; refine G.v (rv_indexH rfl rfl (by exact Rd.stays (by assumption)) rfl (by exact het)) rfl ?_; refine G.v (rv_loadE rfl (by exact Rd.stays (by assumption)) (by exact het) rfl) rfl ?_; refine G.v (rv_assign rfl) rfl (G.done (G.thenN (G.seq (G.region (G.v (rv_assign rfl) rfl (G.done (G.thenN (G.seq (G.seq (G.region (G.v (rv_move rfl) rfl ?_))))))))))); refine G.v (rv_len rfl (by exact Rd.owned 1 rfl)) rfl ?_; refine G.v (rv_subB rfl rfl (by omega) (by omega)) rfl ?_; refine G.v (rv_assign rfl) rfl (G.done (G.thenN (G.block ?_)))
            -- loop 2: turned [14, 15], kept [1, 2, 5, 7, 10, 11, 12, 13]
            refine G.loopK (ι := Nat) (ks := [1, 2, 5, 7, 10, 11, 12, 13]) (fun j => [(14, .int .i64 (idxFrom (fun b => roomM r b.1 u) ts j)), (15, .int .i64 ((j : Int) - 1))]) (fun _ => []) (fun j => j ≤ ts.length) (fun j => j) ts.length (.cons rfl (.cons rfl (.cons rfl (.cons rfl (.cons rfl (.cons rfl (.cons rfl (.cons rfl (.nil))))))))) rfl ?_ ?_ ?_
            · exact Nat.le_refl _
            · exact ⟨congrArg (fun z => some (Value.int .i64 z)) from_end.symm, congrArg (fun z : Nat => some (Value.int .i64 ((z : Int) - 1))) hl0, trivial⟩
            rintro j hk1
            rcases j with _ | j
            case' succ => (obtain ⟨b, hb⟩ := get_of_lt (l := ts) (k := j) (by omega); have heb := get_map hb gcell)
            all_goals
             refine G.seq (G.seq (G.region (G.v (rv_move rfl) rfl (G.v (rv_geq rfl rfl) rfl (G.done (G.thenN ?_)))))); refine G.cond rfl (fun hc => ?_) (fun hc => ?_)
             · try exact Bool.noConfusion hc
               all_goals
                try replace hc := of_decide_eq_true hc
                try simp only [hTl2, hol] at hc
                try (exfalso; contradiction)
                all_goals
                 refine G.skip (G.thenN (G.seq (G.block (G.seq ?_)))); refine G.drawL [] ?_; refine GE.q 0 rfl (by as_aux_lemma => kernel_rfl) rfl (qg_runs (rv_loadW 6 rfl rfl rfl)) rfl ?_; refine GE.q 1 rfl (by as_aux_lemma => kernel_rfl) rfl (qg_runs (rv_move rfl)) rfl ?_; refine GE.q 2 rfl (by as_aux_lemma => kernel_rfl) rfl (qg_runs (rv_loadW 5 rfl rfl rfl)) rfl ?_; refine GE.q 3 rfl (by as_aux_lemma => kernel_rfl) rfl (qg_runs (rv_move rfl)) rfl ?_; refine GE.q 4 rfl (by as_aux_lemma => kernel_rfl) rfl (qg_runs (rv_move rfl)) rfl ?_; refine GE.q 5 rfl (by as_aux_lemma => kernel_rfl) rfl (qg_runs (rv_indexH (k := j) rfl rfl (by exact Rd.owned 1 rfl) (by omega) heb)) rfl ?_; refine GE.q 6 rfl (by as_aux_lemma => kernel_rfl) rfl (qg_runs (rv_loadE rfl (by exact Rd.owned 1 rfl) (by exact heb) rfl)) rfl ?_; refine GE.ol 7 (by as_aux_lemma => kernel_rfl) rfl rfl (og_runs (rv_move rfl)) rfl (fun _ _ h => by exact h) (fun _ _ => ?_); refine GE.ol 8 (by as_aux_lemma => kernel_rfl) rfl rfl (og_callV rfl rfl (fun w hh => (l7Room_any (r := r) (us := b.1) w (Rd.stays h3 _ hh) (Subs.at (by exact Subs.owned 0 rfl _ hh) hb) (by have := hblA _ b hb; omega) (mst r) u (by exact Rd.owned 4 rfl _ hh)).mono (congrArg Value.bool (room_yes hyes b.1 u).symm))) rfl (fun _ _ h => by exact h) (fun _ _ => ?_); refine GE.done (by as_aux_lemma => kernel_rfl) ?_; refine G.thenN ?_; refine G.cond rfl (fun hc => ?_) (fun hc => ?_)
                 · try exact Bool.noConfusion hc
                   all_goals
                    try replace hc := of_decide_eq_true hc
                    try simp only [hTl2, hol] at hc
                    try (exfalso; contradiction)
                    all_goals
                     refine G.region (G.v (rv_move rfl) rfl (G.v (rv_assign rfl) rfl (G.done (G.inN (G.thenN (G.region (G.v (rv_move rfl) rfl ?_))))))); refine G.v (rv_subB rfl rfl (by omega) (by omega)) rfl ?_; refine G.v (rv_assign rfl) rfl (G.done ?_); refine G.backK j 0 rfl (.cons rfl (.cons rfl (.cons rfl (.cons rfl (.cons rfl (.cons rfl (.cons rfl (.cons rfl (.nil))))))))) ?_ ?_ ?_
                     · exact ⟨congrArg (fun z => some (Value.int .i64 z)) ((show ((j + 1 : Nat) : Int) - 1 = (j : Int) by omega).trans (from_yes hb hc)), congrArg (fun z => some (Value.int .i64 z)) (show ((j + 1 : Nat) : Int) - 1 - 1 = (j : Int) - 1 by omega), trivial⟩
                     · omega
                     · omega
                 · try exact Bool.noConfusion hc
                   all_goals
                    try replace hc := of_decide_eq_false hc
                    try simp only [hTl2, hol] at hc
                    try (exfalso; contradiction)
                    all_goals
                     refine G.skip (G.inN (G.thenN (G.region (G.v (rv_move rfl) rfl ?_)))); refine G.v (rv_subB rfl rfl (by omega) (by omega)) rfl ?_; refine G.v (rv_assign rfl) rfl (G.done ?_); refine G.backK j 0 rfl (.cons rfl (.cons rfl (.cons rfl (.cons rfl (.cons rfl (.cons rfl (.cons rfl (.cons rfl (.nil))))))))) ?_ ?_ ?_
                     · exact ⟨congrArg (fun z => some (Value.int .i64 z)) (from_no hb hc), congrArg (fun z => some (Value.int .i64 z)) (show ((j + 1 : Nat) : Int) - 1 - 1 = (j : Int) - 1 by omega), trivial⟩
                     · omega
                     · omega
             · try exact Bool.noConfusion hc
               all_goals
                try replace hc := of_decide_eq_false hc
                try simp only [hTl2, hol] at hc
                try (exfalso; omega)
                all_goals
                 refine G.exit (G.thenX (G.thenX (G.inX (G.thenN (G.seq (G.region (G.v (rv_move rfl) rfl (G.v (rv_lss rfl rfl) rfl (G.done (G.thenN ?_)))))))))); refine G.cond rfl (fun hc => ?_) (fun hc => ?_)
                 · try exact Bool.noConfusion hc
                   all_goals
                    try replace hc := of_decide_eq_true hc
                    try simp only [hTl2, hol] at hc
                    try (exfalso; contradiction)
                    all_goals
                     rw [from_zero] at hc
                     have hno := idx_neg hc
                     all_goals
                      refine G.region (G.v (rv_move rfl) rfl (G.v (rv_move rfl) rfl ?_)); refine G.op (og_lit rfl (.cons rfl .nil) rfl rfl rfl rfl rfl rfl) rfl (fun vl _ => ?_); refine G.know (fun w hw => (Rd.owned 0 rfl w hw).one_) (fun hovl => ?_); refine G.op (og_lit rfl (.cons (cells_one (by assumption)) .nil) (by simp only [List.all_cons, List.all_nil, Bool.and_true, Bool.and_eq_true]; exact ⟨rfl, by assumption⟩) rfl rfl rfl rfl rfl) rfl (fun vm _ => ?_); refine G.op (og_app3 rfl rfl rfl (by exact Rd.owned 0 rfl) rfl rfl (by (simp; omega)) (by (simp; omega))) rfl (fun va _ => ?_); refine G.frontG2 _ rfl ?_; refine G.frontR2 vl rfl ?_; refine G.pushRow _ push_sub rfl ?_; refine G.v (rv_assign rfl) rfl (G.done (G.inN (G.thenN (G.region (G.v (rv_move rfl) rfl ?_))))); refine G.v (rv_incr rfl rfl (by omega)) rfl ?_; refine G.v (rv_assign rfl) rfl (G.done ?_); refine G.frontR2 va rfl ?_; refine G.frontG1 _ rfl ?_
                      (refine G.keep2 1 rfl ?_; refine G.backK (k + 1, ts ++ [([u], vl)], va) 0 (by exact two_eq (congrArg (fun z => Ch.grp 3 1 z) rfl) (congrArg (fun z => Ch.row va 44 1 z) push_g)) (.cons rfl (.cons rfl (.cons rfl (.cons rfl (.cons rfl (.nil)))))) ?_ ?_ ?_)
                      · exact ⟨rfl, rfl, trivial⟩
                      · (exact ⟨hlt, by rw [putAll_next hx, ← hM]; exact (put_push (p := fun g => roomM r g u) hno).symm⟩)
                      · dsimp only; omega
                 · try exact Bool.noConfusion hc
                   all_goals
                    try replace hc := of_decide_eq_false hc
                    try simp only [hTl2, hol] at hc
                    try (exfalso; contradiction)
                    all_goals
                     rw [from_zero] at hc
                     obtain ⟨q, b, hq, hqb, hpb, hbt⟩ := idx_pos hc
                     have hq2 := (from_zero (p := fun b => roomM r b.1 u) (l := ts)).trans hq
                     have heq := get_map hqb gcell
                     have hgi : (ts.map (sub id))[q]? = some (b.2, b.1.map icell) := get_mapS hqb
                     have hbl : b.1.length ≤ k := hblA q b hqb
                     all_goals
                      refine G.region (G.v (rv_move rfl) rfl (G.v (rv_move rfl) rfl (G.v (rv_move rfl) rfl (G.v (rv_move rfl) rfl ?_)))); refine G.v (rv_indexH (k := q) rfl rfl (by exact Rd.owned 1 rfl) (by omega) heq) rfl ?_; refine G.v (rv_loadE rfl (by exact Rd.owned 1 rfl) (by exact heq) rfl) rfl ?_; refine G.v (rv_move rfl) rfl ?_; refine G.op (og_lit rfl (.cons rfl .nil) rfl rfl rfl rfl rfl rfl) rfl (fun vl _ => ?_); refine G.op (og_appG1 rfl rfl rfl hgi (by exact Rd.owned 0 rfl) rfl rfl (by (simp; omega)) (by (simp; omega))) rfl (fun vb _ => ?_)
                      skip; refine G.know (fun w hw => (Rd.grp 1 rfl (List.mem_of_getElem? (get_set1 hgi)) w hw).one_) (fun hova => ?_)
                      refine G.v (rv_indexH (k := q) rfl rfl (by exact Rd.owned 2 rfl) (by omega) heq) rfl ?_; refine G.op0 (og_stE2 rfl rfl rfl (by exact heq) (cells_one (by assumption)) rfl (by repeat (first | rfl | refine one_cons (by assumption) ?_)) rfl (.zero (.cons .nil))) (fun _ _ => ?_); refine G.done (G.inN (G.thenN (G.region (G.v (rv_move rfl) rfl ?_)))); refine G.v (rv_incr rfl rfl (by omega)) rfl ?_; refine G.v (rv_assign rfl) rfl (G.done ?_); refine G.frontR2 v2 rfl ?_; refine G.frontG2 _ rfl ?_
                      (refine G.keep2 1 rfl ?_; refine G.backK (k + 1, ts.set q (b.1 ++ [u], vb), v2) 0 (by exact two_eq (congrArg (fun z => Ch.grp 3 1 z) into_sub) (congrArg (fun z => Ch.row v2 44 1 z) into_g)) (.cons rfl (.cons rfl (.cons rfl (.cons rfl (.cons rfl (.nil)))))) ?_ ?_ ?_)
                      · exact ⟨rfl, rfl, trivial⟩
                      · (exact ⟨hlt, by rw [putAll_next hx, ← hM]; exact (put_into (p := fun g => roomM r g u) hqb hpb hbt).symm⟩)
                      · dsimp only; omega
        · try exact Bool.noConfusion hc
          all_goals
           try replace hc := of_decide_eq_false hc
           try simp only [hTl2, hol] at hc
           try (exfalso; omega)
           all_goals
            refine G.exit (G.thenX (G.thenX (G.inX (G.thenN (G.seq (G.region (G.v (rv_move rfl) rfl (G.v (rv_assign rfl) rfl (G.done (G.thenN (G.ret ?_))))))))))); refine G.know (fun w hw => (Rd.owned 1 rfl w hw).one_) (fun hone => G.retF (v2, ts) ⟨hone, by rw [take_all (l := ordU r us) (by omega)] at hM; exact hM⟩ rfl rfl rfl (fun w hw => hw.sublist (by repeat (first | exact List.Sublist.refl _ | refine List.Sublist.cons_cons _ ?_ | refine List.Sublist.cons _ ?_))))
theorem sfirstFit_any : Fn Tryz.prog 35 [.agg (r.cells pv tv iv).toArray, uv] w (fun x : Value × List (List Int × Value) => x.1.oneCell' = true ∧ x.2.map Prod.fst = firstM r us) (fun x => x.1) (fun x => [.grp 3 1 (x.2.map (sub id)), .row x.1 44 1 (x.2.map gcell)]) := by
  have hTl : (thereM r us).length ≤ 1048576 := by have := thereM_len r us; omega
  refine Fn.of (n := 15) Tryz.func35 rfl rfl ?_; refine G.seq (G.region ?_); refine G.op (og_box rfl rfl) rfl (fun bk2 _ => ?_); refine G.v (rv_assign rfl) rfl (G.done (G.thenN (G.seq (G.seq (G.region (G.v (rv_loadW 0 rfl rfl rfl) rfl ?_)))))); refine G.op (og_callV rfl rfl (fun w hh => sclass_any (r := r) w (Rd.stays h _ hh) (Rd.stays h2 _ hh) (Rd.stays h3 _ hh))) rfl (fun _ _ => ?_); refine G.v (rv_neq rfl rfl) rfl (G.done (G.thenN ?_)); refine G.cond rfl (fun hc => ?_) (fun hc => ?_)
  · try exact Bool.noConfusion hc
    all_goals
     try replace hc := of_decide_eq_true hc
     try (exfalso; contradiction)
     all_goals
      have hno : ¬ classM r = 0 := hc
      all_goals
       refine G.seq (G.region ?_); refine G.op (og_lit rfl .nil rfl rfl rfl rfl rfl rfl) rfl (fun vl _ => ?_); refine G.v (rv_assign rfl) rfl (G.done (G.thenN (G.ret (G.thenR ?_))))
       (refine G.heap (fun w hh => hh.nilGrp 3 1) ?_; refine G.know (fun w hw => (Rd.owned 1 rfl w hw).one_) (fun hone => G.retF (vl, []) ⟨hone, by rw [firstM, thereM_no hno, show ordU r [] = [] from List.eq_nil_of_length_eq_zero (ordU_len r [])]; rfl⟩ rfl rfl rfl (fun w hw => hw.sublist (by repeat (first | exact List.Sublist.refl _ | refine List.Sublist.cons_cons _ ?_ | refine List.Sublist.cons _ ?_)))))
  · try exact Bool.noConfusion hc
    all_goals
     try replace hc := of_decide_eq_false hc
     try (exfalso; contradiction)
     all_goals
      have hyes : classM r = 0 := by omega
      all_goals
       refine G.skip (G.thenN (G.seq ?_)); refine G.drawL [6] ?_; refine GE.q 0 rfl (by as_aux_lemma => kernel_rfl) rfl (qg_runs (rv_loadW 0 rfl rfl rfl)) rfl ?_; refine GE.q 1 rfl (by as_aux_lemma => kernel_rfl) rfl (qg_runs (rv_loadW 0 rfl rfl rfl)) rfl ?_; refine GE.q 3 rfl (by as_aux_lemma => kernel_rfl) rfl (qg_runs (rv_move rfl)) rfl ?_
       (refine GE.ol 2 (by as_aux_lemma => kernel_rfl) rfl rfl (og_callF1 rfl rfl (fun w hh => by have q := sl6Units_any (r := r) (pv := pv) (tv := tv) w (bounds_items (cls_sound hyes)) (bounds_lens (cls_sound hyes)).1 (Rd.stays h3 _ hh); rw [← unitsM_yes hyes] at q; exact q)) rfl (fun _ _ h => by exact h.drop 1) ?_; rintro vu hvu; try dsimp only)
       (refine GE.ol 4 (by as_aux_lemma => kernel_rfl) rfl rfl (og_callF1 rfl rfl (fun w hh => l7Known_any (r := r) (us := us) w (by exact Rd.owned 0 rfl _ hh) (Rd.stays h4 _ hh) (by omega))) rfl (fun _ _ h => by exact h.drop 2) ?_; rintro vt hvt; try dsimp only)
       (refine GE.ol 5 (by as_aux_lemma => kernel_rfl) rfl rfl (og_callF2 rfl rfl (fun w hh => l7First_any (r := r) (us := thereM r us) w (Rd.stays h2 _ hh) (Rd.stays h3 _ hh) (by exact Rd.owned 0 rfl _ hh) hTl hyes)) rfl (fun _ _ h => by exact h.drop 4) ?_; rintro ⟨vo, os⟩ ⟨hvo, hos⟩; try dsimp only)
       refine GE.t 6 (by as_aux_lemma => kernel_rfl) rfl rfl rfl (og_runs (rv_assign rfl)) rfl (fun _ _ => ?_); refine GE.done (by as_aux_lemma => kernel_rfl) ?_; refine G.thenN (G.ret ?_)
       exact G.retF (vo, os) ⟨hvo, hos⟩ rfl rfl rfl (fun w hw => hw.sublist (by repeat (first | exact List.Sublist.refl _ | refine List.Sublist.cons_cons _ ?_ | refine List.Sublist.cons _ ?_)))
/-- The cartons of the way that is asked for. -/
def wayM (r : ReqM) (us : List Int) : List (List Int) := if r.way = 1 then nextM r us else firstM r us
theorem packWay_any : Fn Tryz.prog 38 [.agg (r.cells pv tv iv).toArray, uv] w (fun x : Value × List (List Int × Value) => x.1.oneCell' = true ∧ x.2.map Prod.fst = wayM r us) (fun x => x.1) (fun x => [.grp 3 1 (x.2.map (sub id)), .row x.1 44 1 (x.2.map gcell)]) := by
  refine Fn.of (n := 14) Tryz.func38 rfl rfl ?_; refine G.seq (G.region ?_); refine G.op (og_box rfl rfl) rfl (fun bk2 _ => ?_); refine G.v (rv_assign rfl) rfl (G.done (G.thenN (G.seq (G.seq (G.region (G.v (rv_field rfl) rfl (G.v (rv_load1 0 rfl rfl rfl) rfl (G.v (rv_eql rfl rfl) rfl (G.done (G.thenN ?_)))))))))); refine G.cond rfl (fun hc => ?_) (fun hc => ?_)
  · try exact Bool.noConfusion hc
    all_goals
     try replace hc := of_decide_eq_true hc
     try (exfalso; contradiction)
     all_goals
      refine G.seq (G.region (G.v (rv_loadW 0 rfl rfl rfl) rfl (G.v (rv_move rfl) rfl ?_)))
      (refine G.op (og_callF2 rfl rfl (fun w hh => nextFit_any (r := r) (us := us) w (Rd.stays h _ hh) (Rd.stays h2 _ hh) (Rd.stays h3 _ hh) (Rd.stays h4 _ hh) hul)) rfl ?_; rintro ⟨vo, os⟩ ⟨hvo, hos⟩; try dsimp only)
      refine G.v (rv_assign rfl) rfl (G.done (G.thenN (G.ret (G.thenR ?_))))
      (exact G.retF (vo, os) ⟨hvo, by rw [wayM, if_pos hc]; exact hos⟩ rfl rfl rfl (fun w hw => hw.sublist (by repeat (first | exact List.Sublist.refl _ | refine List.Sublist.cons_cons _ ?_ | refine List.Sublist.cons _ ?_))))
  · try exact Bool.noConfusion hc
    all_goals
     try replace hc := of_decide_eq_false hc
     try (exfalso; contradiction)
     all_goals
      refine G.skip (G.thenN (G.seq (G.region (G.v (rv_loadW 0 rfl rfl rfl) rfl (G.v (rv_move rfl) rfl ?_)))))
      (refine G.op (og_callF2 rfl rfl (fun w hh => firstFit_any (r := r) (us := us) w (Rd.stays h _ hh) (Rd.stays h2 _ hh) (Rd.stays h3 _ hh) (Rd.stays h4 _ hh) hul)) rfl ?_; rintro ⟨vo, os⟩ ⟨hvo, hos⟩; try dsimp only)
      refine G.v (rv_assign rfl) rfl (G.done (G.thenN (G.ret ?_)))
      (exact G.retF (vo, os) ⟨hvo, by rw [wayM, if_neg hc]; exact hos⟩ rfl rfl rfl (fun w hw => hw.sublist (by repeat (first | exact List.Sublist.refl _ | refine List.Sublist.cons_cons _ ?_ | refine List.Sublist.cons _ ?_))))
end
end Go.Proofs.YtibkggjbkgdnkaaGreat

/-
  The laws of the ways of packing.
-/
namespace Go.Proofs.YtibkggjbkgdnkaaGreat
open Go.RowKit
attribute [local irreducible] Go.wpList Go.Code.wp Go.Exit.then Go.Exit.inBlock Go.bodyPost Go.Calls pE pB G RunsV FnV Fn FnM
set_option maxRecDepth 100000
set_option maxHeartbeats 4000000
theorem nextM_sum (r : ReqM) (us : List Int) : ((nextM r us).map List.length).sum ≤ us.length := by rw [nextM, lastAll_sum]; exact thereM_len r us
theorem firstM_sum (r : ReqM) (us : List Int) : ((firstM r us).map List.length).sum ≤ us.length := by rw [firstM, putAll_sum, ordU_len]; exact thereM_len r us
end Go.Proofs.YtibkggjbkgdnkaaGreat

/-
  Packings: what is asked of one. No program is in sight here.
-/
namespace Go.Proofs.YtibkggjbkgdnkaaGreat
open Go.RowKit
theorem srt_perm_eq : ∀ {xs ys : List Int}, xs.Pairwise (· ≤ ·) → ys.Pairwise (· ≤ ·) → xs.Perm ys → xs = ys
  | [], ys, _, _, h => (List.Perm.nil_eq h)
  | x :: xs, [], _, _, h => by have := h.length_eq; simp at this
  | x :: xs, y :: ys, h1, h2, h => by
    have p1 := List.pairwise_cons.1 h1
    have p2 := List.pairwise_cons.1 h2
    have e : x = y := by
      rcases List.mem_cons.1 (h.mem_iff.1 (List.mem_cons_self)) with e | e
      · exact e
      · rcases List.mem_cons.1 (h.mem_iff.2 (List.mem_cons_self)) with e2 | e2
        · exact e2.symm
        · have := p2.1 x e; have := p1.1 y e2; omega
    subst e
    rw [srt_perm_eq p1.2 p2.2 (List.Perm.cons_inv h)]
theorem sortM_eq {a b : List Int} : sortM a = sortM b ↔ a.Perm b :=
  ⟨fun h => (sortM_perm a).symm.trans (h ▸ sortM_perm b), fun h => srt_perm_eq (sortM_srt a) (sortM_srt b) ((sortM_perm a).trans (h.trans (sortM_perm b).symm))⟩
/-- How often x is there. -/
def timesM (l : List Int) (x : Int) : Nat := l.countP (fun y => decide (y = x))
/-- Whether no carton is empty, or over. -/
def okCs (r : ReqM) (cs : List (List Int)) : Bool := cs.all fun l => decide (l.length ≠ 0) && holdsM r l
/-- Whether cartons are a packing of units. -/
def packM (r : ReqM) (us : List Int) (cs : List (List Int)) : Bool := decide (classM r = 0) && (okCs r cs && decide (sortM cs.flatten = sortM (thereM r us)))
theorem packM_no {r : ReqM} {us : List Int} {cs : List (List Int)} (h : ¬ classM r = 0) : packM r us cs = false := by rw [packM, decide_eq_false h, Bool.false_and]
theorem packM_bad {r : ReqM} {us : List Int} {cs : List (List Int)} (h : okCs r cs = false) : packM r us cs = false := by rw [packM, h, Bool.false_and, Bool.and_false]
theorem packM_ok {r : ReqM} {us : List Int} {cs : List (List Int)} (hc : classM r = 0) (h : okCs r cs = true) : packM r us cs = decide (sortM cs.flatten = sortM (thereM r us)) := by rw [packM, h, decide_eq_true hc, Bool.true_and, Bool.true_and]
end Go.Proofs.YtibkggjbkgdnkaaGreat

/-
  The contract of the library's sort at this program: written by the kit's tools lay-shelf and lay-plain.
-/
namespace Go.Proofs
open Go.Shelf
def Tryz.lays189_ren : Go.Shelf.Ren := ⟨fun | 189 => 111 | 125 => 170 | 257 => 169 | 128 => 215 | 129 => 216 | 294 => 206 | 295 => 207 | 296 => 208 | 297 => 209 | 298 => 210 | 299 => 211 | 216 => 212 | 300 => 213 | 301 => 214 | 328 => 236 | 329 => 237 | 330 => 238 | 331 => 239 | 332 => 240 | 215 => 241 | 343 => 248 | n => n, fun | 28 => 44 | 3 => 3 | 46 => 168 | 0 => 0 | 51 => 203 | 53 => 205 | 4 => 4 | 183 => 195 | 182 => 194 | 131 => 200 | 5 => 5 | 9 => 9 | 218 => 217 | 222 => 221 | 228 => 226 | 229 => 139 | n => n, fun | n => n⟩
theorem Tryz.lays189 : Go.Proofs.Lays.n189 Tryz.prog Tryz.lays189_ren := {
  mixed := by kernel_rfl
  f125 := Tryz.func170.trans (congrArg some (by kernel_rfl))
  f128 := Tryz.func215.trans (congrArg some (by kernel_rfl))
  f129 := Tryz.func216.trans (congrArg some (by kernel_rfl))
  f189 := Tryz.func111.trans (congrArg some (by kernel_rfl))
  f215 := Tryz.func241.trans (congrArg some (by kernel_rfl))
  f216 := Tryz.func212.trans (congrArg some (by kernel_rfl))
  f257 := Tryz.func169.trans (congrArg some (by kernel_rfl))
  f294 := Tryz.func206.trans (congrArg some (by kernel_rfl))
  f295 := Tryz.func207.trans (congrArg some (by kernel_rfl))
  f296 := Tryz.func208.trans (congrArg some (by kernel_rfl))
  f297 := Tryz.func209.trans (congrArg some (by kernel_rfl))
  f298 := Tryz.func210.trans (congrArg some (by kernel_rfl))
  f299 := Tryz.func211.trans (congrArg some (by kernel_rfl))
  f300 := Tryz.func213.trans (congrArg some (by kernel_rfl))
  f301 := Tryz.func214.trans (congrArg some (by kernel_rfl))
  f328 := Tryz.func236.trans (congrArg some (by kernel_rfl))
  f329 := Tryz.func237.trans (congrArg some (by kernel_rfl))
  f330 := Tryz.func238.trans (congrArg some (by kernel_rfl))
  f331 := Tryz.func239.trans (congrArg some (by kernel_rfl))
  f332 := Tryz.func240.trans (congrArg some (by kernel_rfl))
  f343 := Tryz.func248.trans (congrArg some (by kernel_rfl))
  t0 := Tryz.underlying0
  a0 := Tryz.isAgg0
  z0 := Tryz.sizeOf0
  v0 := Tryz.zeroValue0
  t3 := Tryz.underlying3
  a3 := Tryz.isAgg3
  z3 := Tryz.sizeOf3
  v3 := Tryz.zeroValue3
  t4 := Tryz.underlying4
  a4 := Tryz.isAgg4
  z4 := Tryz.sizeOf4
  v4 := Tryz.zeroValue4
  t5 := Tryz.underlying5
  a5 := Tryz.isAgg5
  z5 := Tryz.sizeOf5
  v5 := Tryz.zeroValue5
  t9 := Tryz.underlying9
  a9 := Tryz.isAgg9
  z9 := Tryz.sizeOf9
  v9 := Tryz.zeroValue9
  t28 := Tryz.underlying44
  a28 := Tryz.isAgg44
  z28 := Tryz.sizeOf44
  v28 := Tryz.zeroValue44
  t46 := Tryz.underlying168
  a46 := Tryz.isAgg168
  z46 := Tryz.sizeOf168
  v46 := Tryz.zeroValue168
  t51 := Tryz.underlying203
  a51 := Tryz.isAgg203
  z51 := Tryz.sizeOf203
  v51 := Tryz.zeroValue203
  t53 := Tryz.underlying205
  a53 := Tryz.isAgg205
  z53 := Tryz.sizeOf205
  v53 := Tryz.zeroValue205
  t131 := Tryz.underlying200
  a131 := Tryz.isAgg200
  z131 := Tryz.sizeOf200
  v131 := Tryz.zeroValue200
  t182 := Tryz.underlying194
  a182 := Tryz.isAgg194
  z182 := Tryz.sizeOf194
  v182 := Tryz.zeroValue194
  t183 := Tryz.underlying195
  a183 := Tryz.isAgg195
  z183 := Tryz.sizeOf195
  v183 := Tryz.zeroValue195
  t218 := Tryz.underlying217
  a218 := Tryz.isAgg217
  z218 := Tryz.sizeOf217
  v218 := Tryz.zeroValue217
  t222 := Tryz.underlying221
  a222 := Tryz.isAgg221
  z222 := Tryz.sizeOf221
  v222 := Tryz.zeroValue221
  t228 := Tryz.underlying226
  a228 := Tryz.isAgg226
  z228 := Tryz.sizeOf226
  v228 := Tryz.zeroValue226
  t229 := Tryz.underlying139
  a229 := Tryz.isAgg139
  z229 := Tryz.sizeOf139
  v229 := Tryz.zeroValue139 }
open Go.Sort Go.RowKit in
theorem Tryz.slices_Sort_int (blk off cap : Nat) (zs : List Int) (w : World) (hH : Holds (Value.int .i64) w blk off zs.toArray) (hblk : blk < w.heap.size) (hsz : zs.length < 4611686018427387904) :
    Calls Tryz.prog 111 #[.slice (some ⟨blk, off, none⟩) zs.length cap] w fun e w' =>
      e = .returned (.tuple #[]) ∧ ∃ n os, w' = grow (putRow (Value.int .i64) (Sort.ahead w n) blk off (zs.mergeSort fun x y => decide (x ≤ y)).toArray) os := Any.slices_Sort_int Tryz.lays189 blk off cap zs w hH hblk hsz
end Go.Proofs

/-
  A list of numbers, sorted by the library, however long it is.
-/
namespace Go.Proofs.YtibkggjbkgdnkaaGreat
open Go.RowKit Go.Sort
theorem icell_flat (l : List Int) : (l.map icell).flatten = l.map (Value.int .i64) := by
  induction l with
  | nil => rfl
  | cons x r ih => rw [List.map_cons, List.flatten_cons, ih]; rfl
theorem sortM_merge (ks : List Int) : ks.mergeSort (fun x y => decide (x ≤ y)) = sortM ks := by
  refine srt_perm_eq ?_ (sortM_srt ks) ((List.mergeSort_perm _ _).trans (sortM_perm ks).symm)
  have h := List.pairwise_mergeSort (le := fun x y : Int => decide (x ≤ y)) (fun a b c h1 h2 => by simp only [decide_eq_true_eq] at *; omega) (fun a b => by simp only [Bool.or_eq_true, decide_eq_true_eq]; omega) ks
  exact h.imp (fun h => of_decide_eq_true h)
section
variable {w0 : World} {F : List Ch} {v : Value}
theorem sortG_any {ks : List Int} (hn : ks.length ≤ 1048576) :
    FnMF Tryz.prog 111 [v] w0 [.row v 3 1 (ks.map icell)] F (fun _ : Unit => True) (fun _ => .tuple #[]) (fun _ => [.row v 3 1 ((sortM ks).map icell)]) := by
  by_cases h12 : ks.length ≤ 12
  · exact sort_any h12
  · intro w hh
    have hln : (ks.map icell).length = ks.length := by simp
    obtain ⟨hrow, hgood⟩ := hh.ok _ (List.mem_cons_self)
    rcases hrow.2 with ⟨_, hz⟩ | ⟨g, cap, cur, hv, hB, hg, hle, hcm, hsz, htk⟩
    · omega
    · rw [Nat.mul_one, hln, icell_flat] at htk
      rw [hln] at hv hle
      subst hv
      have hlt : g < w.heap.size := (Array.getElem?_eq_some_iff.1 hg).1
      refine Calls.mono (Go.Proofs.Tryz.slices_Sort_int g 0 cap ks w (holds_of_blockI hg htk) hlt (by omega)) ?_
      rintro e w' ⟨rfl, n, os, rfl⟩
      have hgr := grownBy_sortedI (w := w) (g := g) (n := n) (os := os) (ks.mergeSort fun x y => decide (x ≤ y)).toArray
      have hml : (ks.mergeSort fun x y => decide (x ≤ y)).length = ks.length := by simp
      refine ⟨(), trivial, rfl, hh.below.grown hgr hh.below.size (fun k hk => by cases hk; exact hB), fun c hc => ?_, ?_⟩
      · rcases List.mem_cons.1 hc with rfl | hc
        · refine ⟨?_, fun e he => ?_⟩
          · have := ownsRow_sortedI (w := w) (base := w0.heap.size) (n := n) (os := os) (ss := ks) (ts := ks.mergeSort fun x y => decide (x ≤ y)) hml hB hg hle hcm hsz
            rw [sortM_merge] at this ⊢
            rw [icell_flat, List.length_map, sortM_len]
            exact this
          · obtain ⟨x, _, rfl⟩ := List.mem_map.1 he
            exact ⟨rfl, fun u hu => by rw [List.mem_singleton.1 hu]; rfl⟩
        · have hd := hh.ok c (List.mem_cons_of_mem _ hc)
          refine Ch.ok_of hd fun k hk => hgr.block k (Ch.lt hd hk).2 ?_
          intro e
          have hap := (List.pairwise_cons.1 hh.ap).1 c hc g rfl
          have : k = g := Option.some.inj e
          subst this
          exact hap hk
      · have hp := List.pairwise_cons.1 hh.ap
        exact List.pairwise_cons.2 ⟨fun d hd k hk => hp.1 d hd k hk, hp.2⟩
end
end Go.Proofs.YtibkggjbkgdnkaaGreat
