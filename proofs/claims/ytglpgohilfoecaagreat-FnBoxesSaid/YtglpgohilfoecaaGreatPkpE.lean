/-
  Texts of this proof, one behind the other: FirstX, IsPackM, LaySort, SortG, BoxO, Plan, Plan2, OnP, PGram, HoldW, CartW, CartX, Oks, Piles, Shelv, Shelv2, ShelfLaw, StackLaw, SpotP, Spots, Spots2.
-/
import Derived.Test.YtglpgohilfoecaaGreatPkpD
import Derived.Shelf.Sort.Plain
import Derived.Test.YtglpgohilfoecaaGreatProg
import Derived.Test.YtglpgohilfoecaaGreatPkpB
import Derived.Sort.OwnSortedInts
import Derived.Test.YtglpgohilfoecaaGreatPkpC
import Derived.Test.YtglpgohilfoecaaGreatPkpA
set_option linter.unusedVariables false
set_option linter.unusedSimpArgs false

/-
  First fit, the reference's way; the way that an order asks for.
-/
namespace Go.Proofs.YtglpgohilfoecaaGreat
open Go.RowKit
attribute [local irreducible] Go.wpList Go.Code.wp Go.Exit.then Go.Exit.inBlock Go.bodyPost Go.Calls pE pB G RunsV FnV Fn FnM
set_option maxRecDepth 100000
set_option maxHeartbeats 4000000
section
variable {r : ReqM} {pv tv iv uv : Value} {us : List Int} (w : World) (h : Rd w pv 2 (r.pairs.map PairM.cells)) (h2 : Rd w tv 7 (r.types.map TypeM.cells)) (h3 : Rd w iv 7 (r.items.map ItemM.cells)) (h4 : Rd w uv 1 (us.map icell)) (hul : us.length ≤ 1048576)
include h h2 h3 h4 hul
omit h in
theorem l7First_any (hyes : classM r = 0) : Fn Tryz.prog 195 [.agg (r.cells pv tv iv).toArray, uv] w (fun x : Value × List (List Int × Value) => x.1.oneCell' = true ∧ x.2.map Prod.fst = putAll (roomM r) (ordU r us)) (fun x => x.1) (fun x => [.grp 3 1 (x.2.map (sub id)), .row x.1 52 1 (x.2.map gcell)]) := by
  have hTl2 : (us.map icell).length = us.length := by simp
  have hTl3 : (us.map (vOf r)).length = us.length := by simp
  have hol : ((ordM (keyM (us.map (vOf r))) (us.map (vOf r)).length).map ncell).length = us.length := by rw [List.length_map, cP, hTl3]
  have hol2 : (ordM (keyM (us.map (vOf r))) (us.map (vOf r)).length).length = us.length := by rw [cP, hTl3]
  have hul9 := ordU_len r us
  refine Fn.of (n := 93) Tryz.func195 rfl rfl ?_; refine G.seq (G.region ?_); refine G.op (bE rfl rfl) rfl (fun bk2 _ => ?_); refine G.v (bb rfl) rfl (G.I (G.E (G.seq (G.region (G.v (bj 0 rfl rfl rfl) rfl ?_))))); refine G.op (bh rfl rfl (fun w hh => cX (r := r) w (Rd.stays h2 _ hh))) rfl (fun _ _ => ?_); refine G.v (ba rfl) rfl (G.v (bC rfl rfl) rfl (G.v (bC rfl rfl) rfl ?_)); refine G.op (bu) rfl (fun bk5 _ => ?_); refine G.bk (bL rfl rfl rfl rfl rfl rfl (.zero (.cons (.cons (.cons (.cons (.cons (.cons (.cons .nil))))))))) (fun _ _ => ?_); refine G.v (bb rfl) rfl (G.I (G.E (G.seq (G.region (G.v (bj 1 rfl rfl rfl) rfl ?_))))); refine G.op (bH rfl rfl (fun w hh => by have q := cK (r := r) (pv := pv) (tv := tv) w (b9 (bR hyes)) (cr (bR hyes)).1 (Rd.stays h3 _ hh); rw [← cw hyes] at q; exact q)) rfl ?_; rintro vu hvu; try dsimp only
  refine G.v (bb rfl) rfl (G.I (G.E (G.seq (G.region ?_)))); refine G.op (bq rfl .nil rfl rfl rfl rfl rfl rfl) rfl (fun vl _ => ?_); refine G.v (bb rfl) rfl (G.I (G.E (G.seq (G.seq (G.region (G.v (bb rfl) rfl (G.I (G.E (G.block ?_))))))))); refine G.bb vl rfl ?_; refine G.Y (ι := Nat × Value) (ks := [1, 2, 5, 7]) (fun x => [(8, x.2), (9, .int .i64 (x.1 : Int))]) (fun x => [.row x.2 3 1 (((us.take x.1).map (vOf r)).map icell)]) (fun x => x.1 ≤ us.length) (fun x => us.length - x.1) (0, vl) (.cons rfl (.cons rfl (.cons rfl (.cons rfl (.nil))))) rfl ?_ ?_ ?_
  exact Nat.zero_le _
  exact ⟨rfl, rfl, trivial⟩
  rintro ⟨k0, v0⟩ hk0
  dsimp only at hk0 ⊢
  have hl9 : (((us.take k0).map (vOf r)).map icell).length = k0 := (by simp; omega)
  by_cases hlt0 : k0 < us.length
  case' pos => (obtain ⟨x, hx⟩ := bn hlt0; have he := bt hx icell; have hv1 := volUS_one r x)
  case' neg => (have hkall : ((us.take k0).map (vOf r)).map icell = (us.map (vOf r)).map icell := (by rw [List.take_of_length_le (by omega)]))
  all_goals
   refine G.seq (G.seq (G.region (G.v (ba rfl) rfl (G.v (ba rfl) rfl ?_)))); refine G.v (bz rfl (by exact Rd.stays (by assumption))) rfl ?_; refine G.v (br rfl rfl) rfl (G.I (G.E ?_)); refine G.cond rfl (fun hc => ?_) (fun hc => ?_)
   · all_goals
      replace hc := of_decide_eq_true hc
      simp only [hTl2, hol] at hc
      try (exfalso; omega)
      all_goals
       refine G.skip (G.E (G.seq (G.block ?_))); refine G.bb v0 rfl ?_; refine G.bG [12] rfl ?_; refine GE.Y 0 rfl (by as_aux_lemma => kernel_rfl) rfl (bc (ba rfl)) (fun _ h => by exact h.drop 1) rfl ?_; refine GE.Y 1 rfl (by as_aux_lemma => kernel_rfl) rfl (bc (bj 2 rfl rfl rfl)) (fun _ h => by exact h.drop 1) rfl ?_; refine GE.Y 2 rfl (by as_aux_lemma => kernel_rfl) rfl (bc (ba rfl)) (fun _ h => by exact h.drop 1) rfl ?_; refine GE.Y 3 rfl (by as_aux_lemma => kernel_rfl) rfl (bc (ba rfl)) (fun _ h => by exact h.drop 1) rfl ?_; refine GE.Y 4 rfl (by as_aux_lemma => kernel_rfl) rfl (bc (ba rfl)) (fun _ h => by exact h.drop 1) rfl ?_; refine GE.V 5 (by as_aux_lemma => kernel_rfl) rfl rfl (bd (ba rfl)) rfl (fun _ _ h => by exact h.drop 1) (fun _ _ => ?_); refine GE.V 6 (by as_aux_lemma => kernel_rfl) rfl rfl (bd (bp rfl rfl (by omega))) rfl (fun _ _ h => by exact h.drop 1) (fun _ _ => ?_); refine GE.V 7 (by as_aux_lemma => kernel_rfl) rfl rfl (bd (rv_sliceLH (l := k0) (h := k0 + 1) rfl rfl rfl (by omega) (Rd.stays h4) (by omega) (by simp; omega))) rfl (fun _ _ h => by exact h.drop 1) (fun _ _ => ?_)
       refine GE.V 8 (by as_aux_lemma => kernel_rfl) rfl rfl (bh rfl rfl (fun w hh => ca (r := r) (us := [x]) w (Rd.stays h3 _ hh) (by have q := (Rd.stays h4 _ hh).sub (l := k0) (k := k0 + 1) (by omega) (by simp; omega); rw [one_sub hx] at q; exact q) (by simp) (by exact Rd.ba 1 rfl _ hh))) rfl (fun _ _ h => by exact h.drop 1) (fun _ _ => ?_); refine GE.V 9 (by as_aux_lemma => kernel_rfl) rfl rfl (bd (rv_fieldV 0 rfl (by kernel_rfl) rfl)) rfl (fun _ _ h => by exact h.drop 1) (fun _ _ => ?_); refine GE.V 10 (by as_aux_lemma => kernel_rfl) rfl rfl (bq rfl (.cons rfl .nil) rfl rfl rfl rfl rfl rfl) rfl (fun _ _ h => by exact h.drop 2) (fun vy _ => ?_); refine GE.V 11 (by as_aux_lemma => kernel_rfl) rfl rfl (bU rfl rfl rfl (by exact Rd.ba 0 rfl) rfl rfl (by (simp; omega)) (by (simp; omega))) rfl (fun _ _ h => by exact h.drop 2) (fun va _ => ?_); refine GE.t 12 (by as_aux_lemma => kernel_rfl) rfl rfl rfl (bd (bb rfl)) rfl (fun _ _ => ?_); refine GE.E (by as_aux_lemma => kernel_rfl) ?_; refine G.bc (G.E (G.region (G.v (ba rfl) rfl ?_))); refine G.v (bp rfl rfl (by omega)) rfl ?_; refine G.v (bb rfl) rfl (G.I ?_); refine G.bm va rfl ?_
       refine G.keep1 1 rfl ?_; refine G.V (k0 + 1, va) 0 (bV (congrArg (fun z => Ch.row va 3 1 z) ((congrArg (fun z => ((us.take k0).map (vOf r)).map icell ++ [[Value.int .i64 z]]) hv1).trans (vkey_snoc hx)))) (.cons rfl (.cons rfl (.cons rfl (.cons rfl (.nil))))) ?_ ?_ ?_
       exact ⟨rfl, rfl, trivial⟩
       dsimp only; omega
       dsimp only; omega
   · all_goals
      replace hc := of_decide_eq_false hc
      simp only [hTl2, hol] at hc
      try (exfalso; omega)
      all_goals
       refine G.exit (G.L (G.L (G.bn (G.E (G.seq (G.region (G.v (ba rfl) rfl ?_))))))); refine G.op (bH rfl rfl (fun w hh => ssortDown_any (ks := us.map (vOf r)) w (by rw [← hkall]; exact Rd.ba 0 rfl _ hh) (by omega))) rfl ?_; rintro vo hvo; try dsimp only
       refine G.v (bb rfl) rfl (G.I (G.E (G.seq (G.region ?_)))); refine G.op (bq rfl .nil rfl rfl rfl rfl rfl rfl) rfl (fun vl _ => ?_); refine G.v (bb rfl) rfl (G.I (G.E (G.seq (G.seq (G.region (G.v (bb rfl) rfl (G.I (G.E (G.block ?_))))))))); refine G.bb vl rfl ?_; refine G.heap (fun w hh => hh.nilGrp 3 1) ?_; refine G.Y (ι := Nat × List (List Int × Value) × Value) (ks := [1, 2, 5, 7, 10]) (fun x => [(11, x.2.2), (12, .int .i64 (x.1 : Int))]) (fun x => [.grp 3 1 (x.2.1.map (sub id)), .row x.2.2 52 1 (x.2.1.map gcell)]) (fun x => x.1 ≤ us.length ∧ x.2.1.map Prod.fst = putAll (roomM r) ((ordU r us).take x.1)) (fun x => us.length - x.1) (0, [], vl) (.cons rfl (.cons rfl (.cons rfl (.cons rfl (.cons rfl (.nil)))))) rfl ?_ ?_ ?_
       exact ⟨Nat.zero_le _, rfl⟩
       exact ⟨rfl, rfl, trivial⟩
       rintro ⟨k, ts, v2⟩ ⟨hk, hM⟩
       dsimp only at hk hM ⊢
       have hl0 : (ts.map gcell).length = ts.length := (by simp)
       have htl : ts.length ≤ k := (by have := cQ (roomM r) ((ordU r us).take k); have e2 := congrArg List.length hM; rw [List.length_map] at e2; rw [List.length_take] at this; omega)
       have hblA : ∀ (j : Nat) (b : List Int × Value), ts[j]? = some b → b.1.length ≤ k := (by intro j b hb; have := (putAll_at (p := roomM r) (l := (ordU r us).take k) (q := j) (g := b.1) (by rw [← hM, List.getElem?_map, hb]; rfl)); rw [List.length_take] at this; omega)
       by_cases hlt : k < us.length
       case' pos => (obtain ⟨j0, hj⟩ := bn (l := ordM (keyM (us.map (vOf r))) (us.map (vOf r)).length) (k := k) (by omega); have heo := bt hj ncell; have hjl : j0 < us.length := (by have := dJ.1 (List.mem_of_getElem? hj); omega); obtain ⟨u, hu⟩ := bn hjl; have het := bt hu icell; have hx := ordU_take hj hu)
       all_goals
        refine G.seq (G.seq (G.region (G.v (ba rfl) rfl (G.v (ba rfl) rfl ?_)))); refine G.v (bz rfl (by exact Rd.ba 2 rfl)) rfl ?_; refine G.v (br rfl rfl) rfl (G.I (G.E ?_)); refine G.cond rfl (fun hc => ?_) (fun hc => ?_)
        · all_goals
           replace hc := of_decide_eq_true hc
           simp only [hTl2, hol] at hc
           try (exfalso; omega)
           all_goals
            refine G.skip (G.E (G.seq (G.block (G.seq (G.region (G.v (ba rfl) rfl (G.v (ba rfl) rfl (G.v (ba rfl) rfl ?_)))))))); refine G.v (bg rfl rfl (by exact Rd.ba 2 rfl) rfl (by exact heo)) rfl ?_; refine G.v (bi rfl (by exact Rd.ba 2 rfl) (by exact heo) rfl) rfl ?_; refine G.v (bg rfl rfl (by exact Rd.stays (by assumption)) rfl (by exact het)) rfl ?_; refine G.v (bi rfl (by exact Rd.stays (by assumption)) (by exact het) rfl) rfl ?_; refine G.v (bb rfl) rfl (G.I (G.E (G.seq (G.region (G.v (bb rfl) rfl (G.I (G.E (G.seq (G.seq (G.region (G.v (ba rfl) rfl ?_))))))))))); refine G.v (bz rfl (by exact Rd.ba 1 rfl)) rfl ?_; refine G.v (b8 rfl rfl (by omega) (by omega)) rfl ?_; refine G.v (bb rfl) rfl (G.I (G.E (G.block ?_))); refine G.Y (ι := Nat) (ks := [1, 2, 5, 7, 10, 11, 12, 13]) (fun j => [(14, .int .i64 (idxFrom (fun b => roomM r b.1 u) ts j)), (15, .int .i64 ((j : Int) - 1))]) (fun _ => []) (fun j => j ≤ ts.length) (fun j => j) ts.length (.cons rfl (.cons rfl (.cons rfl (.cons rfl (.cons rfl (.cons rfl (.cons rfl (.cons rfl (.nil))))))))) rfl ?_ ?_ ?_
            exact Nat.le_refl _
            exact ⟨congrArg (fun z => some (Value.int .i64 z)) from_end.symm, congrArg (fun z : Nat => some (Value.int .i64 ((z : Int) - 1))) hl0, trivial⟩
            rintro j hk1
            rcases j with _ | j
            case' succ => (obtain ⟨b, hb⟩ := bn (l := ts) (k := j) (by omega); have heb := bt hb gcell)
            all_goals
             refine G.seq (G.seq (G.region (G.v (ba rfl) rfl (G.v (cu rfl rfl) rfl (G.I (G.E ?_)))))); refine G.cond rfl (fun hc => ?_) (fun hc => ?_)
             · try exact Bool.noConfusion hc
               all_goals
                replace hc := of_decide_eq_true hc
                all_goals
                 refine G.skip (G.E (G.seq (G.block (G.seq ?_)))); refine G.ba [] ?_; refine GE.q 0 rfl (by as_aux_lemma => kernel_rfl) rfl (bc (bj 6 rfl rfl rfl)) rfl ?_; refine GE.q 1 rfl (by as_aux_lemma => kernel_rfl) rfl (bc (ba rfl)) rfl ?_; refine GE.q 2 rfl (by as_aux_lemma => kernel_rfl) rfl (bc (bj 5 rfl rfl rfl)) rfl ?_; refine GE.q 3 rfl (by as_aux_lemma => kernel_rfl) rfl (bc (ba rfl)) rfl ?_; refine GE.q 4 rfl (by as_aux_lemma => kernel_rfl) rfl (bc (ba rfl)) rfl ?_; refine GE.q 5 rfl (by as_aux_lemma => kernel_rfl) rfl (bc (bg (k := j) rfl rfl (by exact Rd.ba 1 rfl) (by omega) heb)) rfl ?_; refine GE.q 6 rfl (by as_aux_lemma => kernel_rfl) rfl (bc (bi rfl (by exact Rd.ba 1 rfl) (by exact heb) rfl)) rfl ?_; refine GE.V 7 (by as_aux_lemma => kernel_rfl) rfl rfl (bd (ba rfl)) rfl (fun _ _ h => by exact h) (fun _ _ => ?_); refine GE.V 8 (by as_aux_lemma => kernel_rfl) rfl rfl (bh rfl rfl (fun w hh => (l7Room_any (r := r) (us := b.1) w (Rd.stays h3 _ hh) (Subs.at (by exact Subs.owned 0 rfl _ hh) hb) (by have := hblA _ b hb; omega) (mst r) u (by exact Rd.ba 4 rfl _ hh)).mono (congrArg Value.bool (room_yes hyes b.1 u).symm))) rfl (fun _ _ h => by exact h) (fun _ _ => ?_); refine GE.E (by as_aux_lemma => kernel_rfl) ?_; refine G.E ?_; refine G.cond rfl (fun hc => ?_) (fun hc => ?_)
                 · all_goals
                    all_goals
                     refine G.region (G.v (ba rfl) rfl (G.v (bb rfl) rfl (G.I (G.bc (G.E (G.region (G.v (ba rfl) rfl ?_))))))); refine G.v (b8 rfl rfl (by omega) (by omega)) rfl ?_; refine G.v (bb rfl) rfl (G.I ?_); refine G.V j 0 rfl (.cons rfl (.cons rfl (.cons rfl (.cons rfl (.cons rfl (.cons rfl (.cons rfl (.cons rfl (.nil))))))))) ?_ ?_ ?_
                     exact ⟨congrArg (fun z => some (Value.int .i64 z)) ((show ((j + 1 : Nat) : Int) - 1 = (j : Int) by omega).trans (from_yes hb hc)), congrArg (fun z => some (Value.int .i64 z)) (show ((j + 1 : Nat) : Int) - 1 - 1 = (j : Int) - 1 by omega), trivial⟩
                     omega
                     omega
                 · all_goals
                    all_goals
                     refine G.skip (G.bc (G.E (G.region (G.v (ba rfl) rfl ?_)))); refine G.v (b8 rfl rfl (by omega) (by omega)) rfl ?_; refine G.v (bb rfl) rfl (G.I ?_); refine G.V j 0 rfl (.cons rfl (.cons rfl (.cons rfl (.cons rfl (.cons rfl (.cons rfl (.cons rfl (.cons rfl (.nil))))))))) ?_ ?_ ?_
                     exact ⟨congrArg (fun z => some (Value.int .i64 z)) (from_no hb hc), congrArg (fun z => some (Value.int .i64 z)) (show ((j + 1 : Nat) : Int) - 1 - 1 = (j : Int) - 1 by omega), trivial⟩
                     omega
                     omega
             · all_goals
                replace hc := of_decide_eq_false hc
                try (exfalso; omega)
                all_goals
                 refine G.exit (G.L (G.L (G.bn (G.E (G.seq (G.region (G.v (ba rfl) rfl (G.v (br rfl rfl) rfl (G.I (G.E ?_)))))))))); refine G.cond rfl (fun hc => ?_) (fun hc => ?_)
                 · all_goals
                    replace hc := of_decide_eq_true hc
                    all_goals
                     rw [dE] at hc
                     have hno := idx_neg hc
                     all_goals
                      refine G.region (G.v (ba rfl) rfl (G.v (ba rfl) rfl ?_)); refine G.op (bq rfl (.cons rfl .nil) rfl rfl rfl rfl rfl rfl) rfl (fun vl _ => ?_); refine G.know (fun w hw => (Rd.ba 0 rfl w hw).one_) (fun hovl => ?_); refine G.op (bq rfl (.cons (bK (by assumption)) .nil) (by simp only [List.all_cons, List.all_nil, Bool.and_true, Bool.and_eq_true]; exact ⟨rfl, by assumption⟩) rfl rfl rfl rfl rfl) rfl (fun vm _ => ?_); refine G.op (dt rfl rfl rfl (by exact Rd.ba 0 rfl) rfl rfl (by (simp; omega)) (by (simp; omega))) rfl (fun va _ => ?_); refine G.br _ rfl ?_; refine G.be vl rfl ?_; refine G.bF _ d3 rfl ?_; refine G.v (bb rfl) rfl (G.I (G.bc (G.E (G.region (G.v (ba rfl) rfl ?_))))); refine G.v (bp rfl rfl (by omega)) rfl ?_; refine G.v (bb rfl) rfl (G.I ?_); refine G.be va rfl ?_; refine G.bA _ rfl ?_; refine G.bt 1 rfl ?_; refine G.V (k + 1, ts ++ [([u], vl)], va) 0 (by exact cG (congrArg (fun z => Ch.grp 3 1 z) rfl) (congrArg (fun z => Ch.row va 52 1 z) push_g)) (.cons rfl (.cons rfl (.cons rfl (.cons rfl (.cons rfl (.nil)))))) ?_ ?_ ?_
                      exact ⟨rfl, rfl, trivial⟩
                      exact ⟨hlt, by rw [dd hx, ← hM]; exact (put_push (p := fun g => roomM r g u) hno).symm⟩
                      dsimp only; omega
                 · all_goals
                    replace hc := of_decide_eq_false hc
                    all_goals
                     rw [dE] at hc
                     obtain ⟨q, b, hq, hqb, hpb, hbt⟩ := idx_pos hc
                     have hq2 := (dE (p := fun b => roomM r b.1 u) (l := ts)).trans hq
                     have heq := bt hqb gcell
                     have hgi : (ts.map (sub id))[q]? = some (b.2, b.1.map icell) := cn hqb
                     have hbl : b.1.length ≤ k := hblA q b hqb
                     all_goals
                      refine G.region (G.v (ba rfl) rfl (G.v (ba rfl) rfl (G.v (ba rfl) rfl (G.v (ba rfl) rfl ?_)))); refine G.v (bg (k := q) rfl rfl (by exact Rd.ba 1 rfl) (by omega) heq) rfl ?_; refine G.v (bi rfl (by exact Rd.ba 1 rfl) (by exact heq) rfl) rfl ?_; refine G.v (ba rfl) rfl ?_; refine G.op (bq rfl (.cons rfl .nil) rfl rfl rfl rfl rfl rfl) rfl (fun vl _ => ?_); refine G.op (dh rfl rfl rfl hgi (by exact Rd.ba 0 rfl) rfl rfl (by (simp; omega)) (by (simp; omega))) rfl (fun vb _ => ?_)
                      skip; refine G.know (fun w hw => (Rd.grp 1 rfl (List.mem_of_getElem? (bw hgi)) w hw).one_) (fun hova => ?_)
                      refine G.v (bg (k := q) rfl rfl (by exact Rd.ba 2 rfl) (by omega) heq) rfl ?_; refine G.bk (cx rfl rfl rfl (by exact heq) (bK (by assumption)) rfl (by repeat (first | rfl | refine bB (by assumption) ?_)) rfl (.zero (.cons .nil))) (fun _ _ => ?_); refine G.I (G.bc (G.E (G.region (G.v (ba rfl) rfl ?_)))); refine G.v (bp rfl rfl (by omega)) rfl ?_; refine G.v (bb rfl) rfl (G.I ?_); refine G.be v2 rfl ?_; refine G.br _ rfl ?_; refine G.bt 1 rfl ?_; refine G.V (k + 1, ts.set q (b.1 ++ [u], vb), v2) 0 (by exact cG (congrArg (fun z => Ch.grp 3 1 z) d4) (congrArg (fun z => Ch.row v2 52 1 z) into_g)) (.cons rfl (.cons rfl (.cons rfl (.cons rfl (.cons rfl (.nil)))))) ?_ ?_ ?_
                      exact ⟨rfl, rfl, trivial⟩
                      exact ⟨hlt, by rw [dd hx, ← hM]; exact (put_into (p := fun g => roomM r g u) hqb hpb hbt).symm⟩
                      dsimp only; omega
        · all_goals
           replace hc := of_decide_eq_false hc
           simp only [hTl2, hol] at hc
           try (exfalso; omega)
           all_goals
            refine G.exit (G.L (G.L (G.bn (G.E (G.seq (G.region (G.v (ba rfl) rfl (G.v (bb rfl) rfl (G.I (G.E (G.ret ?_))))))))))); refine G.know (fun w hw => (Rd.ba 1 rfl w hw).one_) (fun hone => G.bg (v2, ts) ⟨hone, by rw [bZ (l := ordU r us) (by omega)] at hM; exact hM⟩ rfl rfl rfl (fun w hw => hw.sublist (by repeat (first | exact List.Sublist.refl _ | refine List.Sublist.cons_cons _ ?_ | refine List.Sublist.cons _ ?_))))
theorem sfirstFit_any : Fn Tryz.prog 133 [.agg (r.cells pv tv iv).toArray, uv] w (fun x : Value × List (List Int × Value) => x.1.oneCell' = true ∧ x.2.map Prod.fst = firstM r us) (fun x => x.1) (fun x => [.grp 3 1 (x.2.map (sub id)), .row x.1 52 1 (x.2.map gcell)]) := by
  have hTl : (thereM r us).length ≤ 1048576 := by have := cL r us; omega
  refine Fn.of (n := 15) Tryz.func133 rfl rfl ?_; refine G.seq (G.region ?_); refine G.op (bE rfl rfl) rfl (fun bk2 _ => ?_); refine G.v (bb rfl) rfl (G.I (G.E (G.seq (G.seq (G.region (G.v (bj 0 rfl rfl rfl) rfl ?_)))))); refine G.op (bh rfl rfl (fun w hh => cJ (r := r) w (Rd.stays h _ hh) (Rd.stays h2 _ hh) (Rd.stays h3 _ hh))) rfl (fun _ _ => ?_); refine G.v (dk rfl rfl) rfl (G.I (G.E ?_)); refine G.bd rfl (fun hc => ?_) (fun hc => ?_)
  have hno : ¬ classM r = 0 := hc
  refine G.seq (G.region ?_); refine G.op (bq rfl .nil rfl rfl rfl rfl rfl rfl) rfl (fun vl _ => ?_); refine G.v (bb rfl) rfl (G.I (G.E (G.ret (G.O ?_)))); refine G.heap (fun w hh => hh.nilGrp 3 1) ?_; refine G.know (fun w hw => (Rd.ba 1 rfl w hw).one_) (fun hone => G.bg (vl, []) ⟨hone, by rw [firstM, thereM_no hno, show ordU r [] = [] from List.eq_nil_of_length_eq_zero (ordU_len r [])]; rfl⟩ rfl rfl rfl (fun w hw => hw.sublist (by repeat (first | exact List.Sublist.refl _ | refine List.Sublist.cons_cons _ ?_ | refine List.Sublist.cons _ ?_))))
  have hyes : classM r = 0 := by omega
  refine G.skip (G.E (G.seq ?_)); refine G.ba [6] ?_; refine GE.q 0 rfl (by as_aux_lemma => kernel_rfl) rfl (bc (bj 0 rfl rfl rfl)) rfl ?_; refine GE.q 1 rfl (by as_aux_lemma => kernel_rfl) rfl (bc (bj 0 rfl rfl rfl)) rfl ?_; refine GE.q 3 rfl (by as_aux_lemma => kernel_rfl) rfl (bc (ba rfl)) rfl ?_; refine GE.V 2 (by as_aux_lemma => kernel_rfl) rfl rfl (bH rfl rfl (fun w hh => by have q := cK (r := r) (pv := pv) (tv := tv) w (b9 (bR hyes)) (cr (bR hyes)).1 (Rd.stays h3 _ hh); rw [← cw hyes] at q; exact q)) rfl (fun _ _ h => by exact h.drop 1) ?_; rintro vu hvu; try dsimp only
  refine GE.V 4 (by as_aux_lemma => kernel_rfl) rfl rfl (bH rfl rfl (fun w hh => l7Known_any (r := r) (us := us) w (by exact Rd.ba 0 rfl _ hh) (Rd.stays h4 _ hh) (by omega))) rfl (fun _ _ h => by exact h.drop 2) ?_; rintro vt hvt; try dsimp only
  refine GE.V 5 (by as_aux_lemma => kernel_rfl) rfl rfl (bX rfl rfl (fun w hh => l7First_any (r := r) (us := thereM r us) w (Rd.stays h2 _ hh) (Rd.stays h3 _ hh) (by exact Rd.ba 0 rfl _ hh) hTl hyes)) rfl (fun _ _ h => by exact h.drop 4) ?_; rintro ⟨vo, os⟩ ⟨hvo, hos⟩; try dsimp only
  refine GE.t 6 (by as_aux_lemma => kernel_rfl) rfl rfl rfl (bd (bb rfl)) rfl (fun _ _ => ?_); refine GE.E (by as_aux_lemma => kernel_rfl) ?_; refine G.E (G.ret ?_)
  exact G.bg (vo, os) ⟨hvo, hos⟩ rfl rfl rfl (fun w hw => hw.sublist (by repeat (first | exact List.Sublist.refl _ | refine List.Sublist.cons_cons _ ?_ | refine List.Sublist.cons _ ?_)))
/-- The cartons of the way that is asked for. -/
def wayM (r : ReqM) (us : List Int) : List (List Int) := if r.way = 1 then nextM r us else firstM r us
theorem packWay_any : Fn Tryz.prog 70 [.agg (r.cells pv tv iv).toArray, uv] w (fun x : Value × List (List Int × Value) => x.1.oneCell' = true ∧ x.2.map Prod.fst = wayM r us) (fun x => x.1) (fun x => [.grp 3 1 (x.2.map (sub id)), .row x.1 52 1 (x.2.map gcell)]) := by
  refine Fn.of (n := 14) Tryz.func70 rfl rfl ?_; refine G.seq (G.region ?_); refine G.op (bE rfl rfl) rfl (fun bk2 _ => ?_); refine G.v (bb rfl) rfl (G.I (G.E (G.seq (G.seq (G.region (G.v (be rfl) rfl (G.v (bf 0 rfl rfl rfl) rfl (G.v (bQ rfl rfl) rfl (G.I (G.E ?_)))))))))); refine G.bd rfl (fun hc => ?_) (fun hc => ?_); refine G.seq (G.region (G.v (bj 0 rfl rfl rfl) rfl (G.v (ba rfl) rfl ?_))); refine G.op (bX rfl rfl (fun w hh => nextFit_any (r := r) (us := us) w (Rd.stays h _ hh) (Rd.stays h2 _ hh) (Rd.stays h3 _ hh) (Rd.stays h4 _ hh) hul)) rfl ?_; rintro ⟨vo, os⟩ ⟨hvo, hos⟩; try dsimp only
  refine G.v (bb rfl) rfl (G.I (G.E (G.ret (G.O ?_))))
  exact G.bg (vo, os) ⟨hvo, by rw [wayM, if_pos hc]; exact hos⟩ rfl rfl rfl (fun w hw => hw.sublist (by repeat (first | exact List.Sublist.refl _ | refine List.Sublist.cons_cons _ ?_ | refine List.Sublist.cons _ ?_)))
  refine G.skip (G.E (G.seq (G.region (G.v (bj 0 rfl rfl rfl) rfl (G.v (ba rfl) rfl ?_))))); refine G.op (bX rfl rfl (fun w hh => firstFit_any (r := r) (us := us) w (Rd.stays h _ hh) (Rd.stays h2 _ hh) (Rd.stays h3 _ hh) (Rd.stays h4 _ hh) hul)) rfl ?_; rintro ⟨vo, os⟩ ⟨hvo, hos⟩; try dsimp only
  refine G.v (bb rfl) rfl (G.I (G.E (G.ret ?_)))
  exact G.bg (vo, os) ⟨hvo, by rw [wayM, if_neg hc]; exact hos⟩ rfl rfl rfl (fun w hw => hw.sublist (by repeat (first | exact List.Sublist.refl _ | refine List.Sublist.cons_cons _ ?_ | refine List.Sublist.cons _ ?_)))
theorem spackWay_any : Fn Tryz.prog 73 [.agg (r.cells pv tv iv).toArray, uv] w (fun x : Value × List (List Int × Value) => x.1.oneCell' = true ∧ x.2.map Prod.fst = wayM r us) (fun x => x.1) (fun x => [.grp 3 1 (x.2.map (sub id)), .row x.1 52 1 (x.2.map gcell)]) := by
  refine Fn.of (n := 14) Tryz.func73 rfl rfl ?_; refine G.seq (G.region ?_); refine G.op (bE rfl rfl) rfl (fun bk2 _ => ?_); refine G.v (bb rfl) rfl (G.I (G.E (G.seq (G.seq (G.region (G.v (be rfl) rfl (G.v (bf 0 rfl rfl rfl) rfl (G.v (bQ rfl rfl) rfl (G.I (G.E ?_)))))))))); refine G.bd rfl (fun hc => ?_) (fun hc => ?_); refine G.seq (G.region (G.v (bj 0 rfl rfl rfl) rfl (G.v (ba rfl) rfl ?_))); refine G.op (bX rfl rfl (fun w hh => snextFit_any (r := r) (us := us) w (Rd.stays h _ hh) (Rd.stays h2 _ hh) (Rd.stays h3 _ hh) (Rd.stays h4 _ hh) hul)) rfl ?_; rintro ⟨vo, os⟩ ⟨hvo, hos⟩; try dsimp only
  refine G.v (bb rfl) rfl (G.I (G.E (G.ret (G.O ?_))))
  exact G.bg (vo, os) ⟨hvo, by rw [wayM, if_pos hc]; exact hos⟩ rfl rfl rfl (fun w hw => hw.sublist (by repeat (first | exact List.Sublist.refl _ | refine List.Sublist.cons_cons _ ?_ | refine List.Sublist.cons _ ?_)))
  refine G.skip (G.E (G.seq (G.region (G.v (bj 0 rfl rfl rfl) rfl (G.v (ba rfl) rfl ?_))))); refine G.op (bX rfl rfl (fun w hh => sfirstFit_any (r := r) (us := us) w (Rd.stays h _ hh) (Rd.stays h2 _ hh) (Rd.stays h3 _ hh) (Rd.stays h4 _ hh) hul)) rfl ?_; rintro ⟨vo, os⟩ ⟨hvo, hos⟩; try dsimp only
  refine G.v (bb rfl) rfl (G.I (G.E (G.ret ?_)))
  exact G.bg (vo, os) ⟨hvo, by rw [wayM, if_neg hc]; exact hos⟩ rfl rfl rfl (fun w hw => hw.sublist (by repeat (first | exact List.Sublist.refl _ | refine List.Sublist.cons_cons _ ?_ | refine List.Sublist.cons _ ?_)))
end
end Go.Proofs.YtglpgohilfoecaaGreat

/-
  Packings: what is asked of one. No program is in sight here.
-/
namespace Go.Proofs.YtglpgohilfoecaaGreat
open Go.RowKit
theorem srt_perm_eq : ∀ {xs ys : List Int}, xs.Pairwise (· ≤ ·) → ys.Pairwise (· ≤ ·) → xs.Perm ys → xs = ys
  | [], ys, _, _, h => (List.Perm.nil_eq h)
  | x :: xs, [], _, _, h => by have := h.length_eq; simp at this
  | x :: xs, y :: ys, h1, h2, h => by
    have p1 := List.pairwise_cons.1 h1
    have p2 := List.pairwise_cons.1 h2
    have e : x = y := by
      rcases List.mem_cons.1 (h.mem_iff.1 (List.mem_cons_self)) with e | e
      · exact e
      · rcases List.mem_cons.1 (h.mem_iff.2 (List.mem_cons_self)) with e2 | e2
        · exact e2.symm
        · have := p2.1 x e; have := p1.1 y e2; omega
    subst e
    rw [srt_perm_eq p1.2 p2.2 (List.Perm.cons_inv h)]
theorem sortM_eq {a b : List Int} : sortM a = sortM b ↔ a.Perm b :=
  ⟨fun h => (co a).symm.trans (h ▸ co b), fun h => srt_perm_eq (dY a) (dY b) ((co a).trans (h.trans (co b).symm))⟩
/-- How often x is there. -/
def timesM (l : List Int) (x : Int) : Nat := l.countP (fun y => decide (y = x))
/-- Whether no carton is empty, or over. -/
def okCs (r : ReqM) (cs : List (List Int)) : Bool := cs.all fun l => decide (l.length ≠ 0) && holdsM r l
/-- Whether cartons are a packing of units. -/
def packM (r : ReqM) (us : List Int) (cs : List (List Int)) : Bool := decide (classM r = 0) && (okCs r cs && decide (sortM cs.flatten = sortM (thereM r us)))
theorem packM_ok {r : ReqM} {us : List Int} {cs : List (List Int)} (hc : classM r = 0) (h : okCs r cs = true) : packM r us cs = decide (sortM cs.flatten = sortM (thereM r us)) := by rw [packM, h, decide_eq_true hc, Bool.true_and, Bool.true_and]
end Go.Proofs.YtglpgohilfoecaaGreat

/-
  The contract of the library's sort at this program: written by the kit's tools lay-shelf and lay-plain.
-/
namespace Go.Proofs
open Go.Shelf
def Tryz.lays189_ren : Go.Shelf.Ren := ⟨fun | 189 => 72 | 125 => 131 | 257 => 130 | 128 => 191 | 129 => 192 | 294 => 182 | 295 => 183 | 296 => 184 | 297 => 185 | 298 => 186 | 299 => 187 | 216 => 188 | 300 => 189 | 301 => 190 | 328 => 229 | 329 => 230 | 330 => 231 | 331 => 232 | 332 => 233 | 215 => 234 | 343 => 241 | n => n, fun | 28 => 52 | 3 => 3 | 46 => 156 | 0 => 0 | 51 => 194 | 53 => 196 | 4 => 4 | 183 => 186 | 182 => 185 | 131 => 191 | 5 => 5 | 9 => 9 | 218 => 220 | 222 => 224 | 228 => 232 | 229 => 233 | n => n, fun | n => n⟩
theorem Tryz.lays189 : Go.Proofs.Lays.n189 Tryz.prog Tryz.lays189_ren := {
  mixed := by kernel_rfl
  f125 := Tryz.func131.trans (congrArg some (by kernel_rfl))
  f128 := Tryz.func191.trans (congrArg some (by kernel_rfl))
  f129 := Tryz.func192.trans (congrArg some (by kernel_rfl))
  f189 := Tryz.func72.trans (congrArg some (by kernel_rfl))
  f215 := Tryz.func234.trans (congrArg some (by kernel_rfl))
  f216 := Tryz.func188.trans (congrArg some (by kernel_rfl))
  f257 := Tryz.func130.trans (congrArg some (by kernel_rfl))
  f294 := Tryz.func182.trans (congrArg some (by kernel_rfl))
  f295 := Tryz.func183.trans (congrArg some (by kernel_rfl))
  f296 := Tryz.func184.trans (congrArg some (by kernel_rfl))
  f297 := Tryz.func185.trans (congrArg some (by kernel_rfl))
  f298 := Tryz.func186.trans (congrArg some (by kernel_rfl))
  f299 := Tryz.func187.trans (congrArg some (by kernel_rfl))
  f300 := Tryz.func189.trans (congrArg some (by kernel_rfl))
  f301 := Tryz.func190.trans (congrArg some (by kernel_rfl))
  f328 := Tryz.func229.trans (congrArg some (by kernel_rfl))
  f329 := Tryz.func230.trans (congrArg some (by kernel_rfl))
  f330 := Tryz.func231.trans (congrArg some (by kernel_rfl))
  f331 := Tryz.func232.trans (congrArg some (by kernel_rfl))
  f332 := Tryz.func233.trans (congrArg some (by kernel_rfl))
  f343 := Tryz.func241.trans (congrArg some (by kernel_rfl))
  t0 := Tryz.underlying0
  a0 := Tryz.isAgg0
  z0 := Tryz.sizeOf0
  v0 := Tryz.zeroValue0
  t3 := Tryz.underlying3
  a3 := Tryz.isAgg3
  z3 := Tryz.sizeOf3
  v3 := Tryz.zeroValue3
  t4 := Tryz.underlying4
  a4 := Tryz.isAgg4
  z4 := Tryz.sizeOf4
  v4 := Tryz.zeroValue4
  t5 := Tryz.underlying5
  a5 := Tryz.isAgg5
  z5 := Tryz.sizeOf5
  v5 := Tryz.zeroValue5
  t9 := Tryz.underlying9
  a9 := Tryz.isAgg9
  z9 := Tryz.sizeOf9
  v9 := Tryz.zeroValue9
  t28 := Tryz.underlying52
  a28 := Tryz.isAgg52
  z28 := Tryz.sizeOf52
  v28 := Tryz.zeroValue52
  t46 := Tryz.underlying156
  a46 := Tryz.isAgg156
  z46 := Tryz.sizeOf156
  v46 := Tryz.zeroValue156
  t51 := Tryz.underlying194
  a51 := Tryz.isAgg194
  z51 := Tryz.sizeOf194
  v51 := Tryz.zeroValue194
  t53 := Tryz.underlying196
  a53 := Tryz.isAgg196
  z53 := Tryz.sizeOf196
  v53 := Tryz.zeroValue196
  t131 := Tryz.underlying191
  a131 := Tryz.isAgg191
  z131 := Tryz.sizeOf191
  v131 := Tryz.zeroValue191
  t182 := Tryz.underlying185
  a182 := Tryz.isAgg185
  z182 := Tryz.sizeOf185
  v182 := Tryz.zeroValue185
  t183 := Tryz.underlying186
  a183 := Tryz.isAgg186
  z183 := Tryz.sizeOf186
  v183 := Tryz.zeroValue186
  t218 := Tryz.underlying220
  a218 := Tryz.isAgg220
  z218 := Tryz.sizeOf220
  v218 := Tryz.zeroValue220
  t222 := Tryz.underlying224
  a222 := Tryz.isAgg224
  z222 := Tryz.sizeOf224
  v222 := Tryz.zeroValue224
  t228 := Tryz.underlying232
  a228 := Tryz.isAgg232
  z228 := Tryz.sizeOf232
  v228 := Tryz.zeroValue232
  t229 := Tryz.underlying233
  a229 := Tryz.isAgg233
  z229 := Tryz.sizeOf233
  v229 := Tryz.zeroValue233 }
open Go.Sort Go.RowKit in
theorem Tryz.slices_Sort_int (blk off cap : Nat) (zs : List Int) (w : World) (hH : Holds (Value.int .i64) w blk off zs.toArray) (hblk : blk < w.heap.size) (hsz : zs.length < 4611686018427387904) :
    Calls Tryz.prog 72 #[.slice (some ⟨blk, off, none⟩) zs.length cap] w fun e w' =>
      e = .returned (.tuple #[]) ∧ ∃ n os, w' = grow (putRow (Value.int .i64) (Sort.ahead w n) blk off (zs.mergeSort fun x y => decide (x ≤ y)).toArray) os := Any.slices_Sort_int Tryz.lays189 blk off cap zs w hH hblk hsz
end Go.Proofs

/-
  A list of numbers, sorted by the library, however long it is.
-/
namespace Go.Proofs.YtglpgohilfoecaaGreat
open Go.RowKit Go.Sort
theorem icell_flat (l : List Int) : (l.map icell).flatten = l.map (Value.int .i64) := by
  induction l with
  | nil => rfl
  | cons x r ih => rw [List.map_cons, List.flatten_cons, ih]; rfl
theorem sortM_merge (ks : List Int) : ks.mergeSort (fun x y => decide (x ≤ y)) = sortM ks := by
  refine srt_perm_eq ?_ (dY ks) ((List.mergeSort_perm _ _).trans (co ks).symm)
  have h := List.pairwise_mergeSort (le := fun x y : Int => decide (x ≤ y)) (fun a b c h1 h2 => by simp only [decide_eq_true_eq] at *; omega) (fun a b => by simp only [Bool.or_eq_true, decide_eq_true_eq]; omega) ks
  exact h.imp (fun h => of_decide_eq_true h)
section
variable {w0 : World} {F : List Ch} {v : Value}
theorem sortG_any {ks : List Int} (hn : ks.length ≤ 1048576) :
    FnMF Tryz.prog 72 [v] w0 [.row v 3 1 (ks.map icell)] F (fun _ : Unit => True) (fun _ => .tuple #[]) (fun _ => [.row v 3 1 ((sortM ks).map icell)]) := by
  by_cases h12 : ks.length ≤ 12
  · exact sort_any h12
  · intro w hh
    have hln : (ks.map icell).length = ks.length := by simp
    obtain ⟨hrow, hgood⟩ := hh.ok _ (List.mem_cons_self)
    rcases hrow.2 with ⟨_, hz⟩ | ⟨g, cap, cur, hv, hB, hg, hle, hcm, hsz, htk⟩
    · omega
    · rw [Nat.mul_one, hln, icell_flat] at htk
      rw [hln] at hv hle
      subst hv
      have hlt : g < w.heap.size := (Array.getElem?_eq_some_iff.1 hg).1
      refine Calls.mono (Go.Proofs.Tryz.slices_Sort_int g 0 cap ks w (holds_of_blockI hg htk) hlt (by omega)) ?_
      rintro e w' ⟨rfl, n, os, rfl⟩
      have hgr := grownBy_sortedI (w := w) (g := g) (n := n) (os := os) (ks.mergeSort fun x y => decide (x ≤ y)).toArray
      have hml : (ks.mergeSort fun x y => decide (x ≤ y)).length = ks.length := by simp
      refine ⟨(), trivial, rfl, hh.below.grown hgr hh.below.size (fun k hk => by cases hk; exact hB), fun c hc => ?_, ?_⟩
      · rcases List.mem_cons.1 hc with rfl | hc
        · refine ⟨?_, fun e he => ?_⟩
          · have := ownsRow_sortedI (w := w) (base := w0.heap.size) (n := n) (os := os) (ss := ks) (ts := ks.mergeSort fun x y => decide (x ≤ y)) hml hB hg hle hcm hsz
            rw [sortM_merge] at this ⊢
            rw [icell_flat, List.length_map, cB]
            exact this
          · obtain ⟨x, _, rfl⟩ := List.mem_map.1 he
            exact ⟨rfl, fun u hu => by rw [List.mem_singleton.1 hu]; rfl⟩
        · have hd := hh.ok c (List.mem_cons_of_mem _ hc)
          refine Ch.ok_of hd fun k hk => hgr.block k (Ch.lt hd hk).2 ?_
          intro e
          have hap := (List.pairwise_cons.1 hh.ap).1 c hc g rfl
          have : k = g := Option.some.inj e
          subst this
          exact hap hk
      · have hp := List.pairwise_cons.1 hh.ap
        exact List.pairwise_cons.2 ⟨fun d hd k hk => hp.1 d hd k hk, hp.2⟩
end
end Go.Proofs.YtglpgohilfoecaaGreat

/-
  A carton's box.
-/
namespace Go.Proofs.YtglpgohilfoecaaGreat
open Go.RowKit
attribute [local irreducible] Go.wpList Go.Code.wp Go.Exit.then Go.Exit.inBlock Go.bodyPost Go.Calls pE pB G RunsV FnV Fn FnM
set_option maxRecDepth 100000
set_option maxHeartbeats 4000000
def grossM (r : ReqM) (x : CartonM) : Int := if (typeAt r x.t).2 = true ∧ classM r = 0 then (typeAt r x.t).1.tare + gramM r x.l else 0
def boxOfM (r : ReqM) (x : CartonM) : BoxM := if (typeAt r x.t).2 = true ∧ classM r = 0 then ⟨(typeAt r x.t).1.w, (typeAt r x.t).1.d, (typeAt r x.t).1.h, grossM r x⟩ else ⟨0, 0, 0, 0⟩
theorem type_at_in {r : ReqM} {id : Int} (h : (typeAt r id).2 = true ∧ classM r = 0) : 0 ≤ (typeAt r id).1.tare ∧ (typeAt r id).1.tare ≤ 100000 := by
  rw [typeAt] at h ⊢
  cases hf : typeByM r id with
  | none => rw [hf] at h; exact absurd h.1 (by decide)
  | some t =>
    have := type_in (dj (bR h.2) t (List.mem_of_find?_eq_some hf))
    dsimp only
    omega
theorem gross_any {r : ReqM} {pv tv iv : Value} (x : CartonM × Value) (w : World) (h : Rd w pv 2 (r.pairs.map PairM.cells)) (h2 : Rd w tv 7 (r.types.map TypeM.cells)) (h3 : Rd w iv 7 (r.items.map ItemM.cells)) (h4 : Rd w x.2 1 (x.1.l.map icell)) (hul : x.1.l.length ≤ 1048576) :
    FnV Tryz.prog 24 [.agg (r.cells pv tv iv).toArray, .agg (CartonM.cells x).toArray] w (.int .i64 (grossM r x.1)) := by
  have hgi := gram_in r x.1.l
  refine FnV.of (n := 28) Tryz.func24 rfl rfl ?_; refine G.seq (G.region ?_); refine G.op (bE rfl rfl) rfl (fun bk2 _ => ?_); refine G.op (bE rfl rfl) rfl (fun bk3 _ => ?_); refine G.v (bb rfl) rfl (G.I (G.E (G.seq (G.region (G.v (bj 1 rfl rfl rfl) rfl (G.v (be rfl) rfl (G.v (bf 0 rfl rfl rfl) rfl ?_))))))); refine G.op (bh rfl rfl (fun w hh => typeById_any (r := r) x.1.t w (Rd.stays h2 _ hh))) rfl (fun _ _ => ?_); refine G.v (ba rfl) rfl (G.v (bC rfl rfl) rfl (G.v (bC rfl rfl) rfl ?_)); refine G.op (bu) rfl (fun bk5 _ => ?_); refine G.bk (bL rfl rfl rfl rfl rfl rfl (.zero (.cons (.cons (.cons (.cons (.cons (.cons (.cons .nil))))))))) (fun _ _ => ?_); refine G.v (bb rfl) rfl (G.I (G.E (G.seq (G.seq (G.region (G.v (ba rfl) rfl (G.v (bF rfl) rfl (G.v (ba rfl) rfl ?_))))))))
  (with_reducible refine G.gP rfl rfl (fun hg => ?_) (fun hg => ?_)) <;> (try exact Bool.noConfusion hg) <;> (first | (refine G.gY rfl rfl ?_; (refine G.v (bj 2 rfl rfl rfl) rfl ?_)) | refine G.gN rfl rfl rfl ?_)
  all_goals ((first | (refine G.gY rfl rfl ?_; refine G.op (bh rfl rfl (fun w hh => dc (r := r) w (Rd.stays h _ hh) (Rd.stays h2 _ hh) (Rd.stays h3 _ hh))) rfl (fun _ _ => ?_)) | refine G.gN rfl rfl rfl ?_))
  all_goals ((first | (refine G.gY rfl rfl ?_; refine G.v (bF rfl) rfl ?_) | refine G.gN rfl rfl rfl ?_))
  all_goals ((first | refine G.v (bk rfl rfl) rfl ?_ | refine G.v (bm rfl rfl) rfl ?_))
  all_goals
   refine G.I (G.E ?_); refine G.cond rfl (fun hc => ?_) (fun hc => ?_)
   · all_goals
      all_goals
       have hno : ¬ ((typeAt r x.1.t).2 = true ∧ classM r = 0) := by (clear h h2 h3 h4; simp_all)
       all_goals
        refine G.seq (G.region (G.v (bb rfl) rfl (G.I (G.E (G.ret (G.O ?_))))))
        exact G.U rfl rfl (congrArg (Value.int .i64) (by rw [grossM, if_neg hno]))
   · try exact Bool.noConfusion hc
     all_goals
      all_goals
       have hyes : (typeAt r x.1.t).2 = true ∧ classM r = 0 := by (clear h h2 h3 h4; simp_all)
       have htb := type_at_in hyes
       all_goals
        refine G.skip (G.E (G.seq ?_)); refine G.ba [7] ?_; refine GE.q 0 rfl (by as_aux_lemma => kernel_rfl) rfl (bc (be rfl)) rfl ?_; refine GE.q 1 rfl (by as_aux_lemma => kernel_rfl) rfl (bc (bf 0 rfl rfl rfl)) rfl ?_; refine GE.q 2 rfl (by as_aux_lemma => kernel_rfl) rfl (bc (bj 2 rfl rfl rfl)) rfl ?_; refine GE.V 3 (by as_aux_lemma => kernel_rfl) rfl rfl (bd (be rfl)) rfl (fun _ _ h => by exact h) (fun _ _ => ?_); refine GE.V 4 (by as_aux_lemma => kernel_rfl) rfl rfl (bd (bf 1 rfl rfl rfl)) rfl (fun _ _ h => by exact h) (fun _ _ => ?_); refine GE.V 5 (by as_aux_lemma => kernel_rfl) rfl rfl (bh rfl rfl (fun w hh => gramOf_any (r := r) w (Rd.stays h _ hh) (Rd.stays h2 _ hh) (Rd.stays h3 _ hh) (Rd.stays h4 _ hh) hul)) rfl (fun _ _ h => by exact h) (fun _ _ => ?_); refine GE.V 6 (by as_aux_lemma => kernel_rfl) rfl rfl (bd (bD rfl rfl (by omega) (by omega))) rfl (fun _ _ h => by exact h) (fun _ _ => ?_); refine GE.t 7 (by as_aux_lemma => kernel_rfl) rfl rfl rfl (bd (bb rfl)) rfl (fun _ _ => ?_); refine GE.E (by as_aux_lemma => kernel_rfl) ?_; refine G.E (G.ret ?_)
        exact G.U rfl rfl (congrArg (Value.int .i64) (by rw [grossM, if_pos hyes]))
theorem sgross_any {r : ReqM} {pv tv iv : Value} (x : CartonM × Value) (w : World) (h : Rd w pv 2 (r.pairs.map PairM.cells)) (h2 : Rd w tv 7 (r.types.map TypeM.cells)) (h3 : Rd w iv 7 (r.items.map ItemM.cells)) (h4 : Rd w x.2 1 (x.1.l.map icell)) (hul : x.1.l.length ≤ 1048576) :
    FnV Tryz.prog 90 [.agg (r.cells pv tv iv).toArray, .agg (CartonM.cells x).toArray] w (.int .i64 (grossM r x.1)) := by
  have hgi := gram_in r x.1.l
  refine FnV.of (n := 28) Tryz.func90 rfl rfl ?_; refine G.seq (G.region ?_); refine G.op (bE rfl rfl) rfl (fun bk2 _ => ?_); refine G.op (bE rfl rfl) rfl (fun bk3 _ => ?_); refine G.v (bb rfl) rfl (G.I (G.E (G.seq (G.region (G.v (bj 1 rfl rfl rfl) rfl (G.v (be rfl) rfl (G.v (bf 0 rfl rfl rfl) rfl ?_))))))); refine G.op (bh rfl rfl (fun w hh => stypeById_any (r := r) x.1.t w (Rd.stays h2 _ hh))) rfl (fun _ _ => ?_); refine G.v (ba rfl) rfl (G.v (bC rfl rfl) rfl (G.v (bC rfl rfl) rfl ?_)); refine G.op (bu) rfl (fun bk5 _ => ?_); refine G.bk (bL rfl rfl rfl rfl rfl rfl (.zero (.cons (.cons (.cons (.cons (.cons (.cons (.cons .nil))))))))) (fun _ _ => ?_); refine G.v (bb rfl) rfl (G.I (G.E (G.seq (G.seq (G.region (G.v (bj 2 rfl rfl rfl) rfl ?_)))))); refine G.op (bh rfl rfl (fun w hh => cJ (r := r) w (Rd.stays h _ hh) (Rd.stays h2 _ hh) (Rd.stays h3 _ hh))) rfl (fun _ _ => ?_); refine G.v (dk rfl rfl) rfl (G.v (ba rfl) rfl ?_)
  (with_reducible refine G.gP rfl rfl (fun hg => ?_) (fun hg => ?_)) <;> (try exact Bool.noConfusion hg) <;> (first | (refine G.gY rfl rfl ?_; refine G.v (ba rfl) rfl ?_) | refine G.gN rfl rfl rfl ?_)
  all_goals ((first | (refine G.gY rfl rfl ?_; refine G.v (bF rfl) rfl ?_) | refine G.gN rfl rfl rfl ?_))
  all_goals ((first | refine G.v (bk rfl rfl) rfl ?_ | refine G.v (bm rfl rfl) rfl ?_))
  all_goals
   refine G.I (G.E ?_); refine G.cond rfl (fun hc => ?_) (fun hc => ?_)
   · all_goals
      all_goals
       have hno : ¬ ((typeAt r x.1.t).2 = true ∧ classM r = 0) := by (clear h h2 h3 h4; simp_all)
       all_goals
        refine G.seq (G.region (G.v (bb rfl) rfl (G.I (G.E (G.ret (G.O ?_))))))
        exact G.U rfl rfl (congrArg (Value.int .i64) (by rw [grossM, if_neg hno]))
   · try exact Bool.noConfusion hc
     all_goals
      all_goals
       have hyes : (typeAt r x.1.t).2 = true ∧ classM r = 0 := by (clear h h2 h3 h4; simp_all)
       have htb := type_at_in hyes
       all_goals
        refine G.skip (G.E (G.seq ?_)); refine G.ba [7] ?_; refine GE.q 0 rfl (by as_aux_lemma => kernel_rfl) rfl (bc (be rfl)) rfl ?_; refine GE.q 1 rfl (by as_aux_lemma => kernel_rfl) rfl (bc (bf 0 rfl rfl rfl)) rfl ?_; refine GE.q 2 rfl (by as_aux_lemma => kernel_rfl) rfl (bc (bj 2 rfl rfl rfl)) rfl ?_; refine GE.V 3 (by as_aux_lemma => kernel_rfl) rfl rfl (bd (be rfl)) rfl (fun _ _ h => by exact h) (fun _ _ => ?_); refine GE.V 4 (by as_aux_lemma => kernel_rfl) rfl rfl (bd (bf 1 rfl rfl rfl)) rfl (fun _ _ h => by exact h) (fun _ _ => ?_); refine GE.V 5 (by as_aux_lemma => kernel_rfl) rfl rfl (bh rfl rfl (fun w hh => sgramOf_any (r := r) w (Rd.stays h _ hh) (Rd.stays h2 _ hh) (Rd.stays h3 _ hh) (Rd.stays h4 _ hh) hul)) rfl (fun _ _ h => by exact h) (fun _ _ => ?_); refine GE.V 6 (by as_aux_lemma => kernel_rfl) rfl rfl (bd (bD rfl rfl (by omega) (by omega))) rfl (fun _ _ h => by exact h) (fun _ _ => ?_); refine GE.t 7 (by as_aux_lemma => kernel_rfl) rfl rfl rfl (bd (bb rfl)) rfl (fun _ _ => ?_); refine GE.E (by as_aux_lemma => kernel_rfl) ?_; refine G.E (G.ret ?_)
        exact G.U rfl rfl (congrArg (Value.int .i64) (by rw [grossM, if_pos hyes]))
theorem boxOf_any {r : ReqM} {pv tv iv : Value} (x : CartonM × Value) (w : World) (h : Rd w pv 2 (r.pairs.map PairM.cells)) (h2 : Rd w tv 7 (r.types.map TypeM.cells)) (h3 : Rd w iv 7 (r.items.map ItemM.cells)) (h4 : Rd w x.2 1 (x.1.l.map icell)) (hul : x.1.l.length ≤ 1048576) :
    FnV Tryz.prog 34 [.agg (r.cells pv tv iv).toArray, .agg (CartonM.cells x).toArray] w (boxOfM r x.1).val := by
  refine FnV.of (n := 32) Tryz.func34 rfl rfl ?_; refine G.seq (G.region ?_); refine G.op (bE rfl rfl) rfl (fun bk2 _ => ?_); refine G.op (bE rfl rfl) rfl (fun bk3 _ => ?_); refine G.op (bu) rfl (fun bk4 _ => ?_); refine G.I (G.E (G.seq (G.region (G.v (bj 2 rfl rfl rfl) rfl (G.v (be rfl) rfl (G.v (bf 1 rfl rfl rfl) rfl ?_)))))); refine G.op (bh rfl rfl (fun w hh => typeById_any (r := r) x.1.t w (Rd.stays h2 _ hh))) rfl (fun _ _ => ?_); refine G.v (ba rfl) rfl (G.v (bC rfl rfl) rfl (G.v (bC rfl rfl) rfl ?_)); refine G.op (bu) rfl (fun bk5 _ => ?_); refine G.bk (bL rfl rfl rfl rfl rfl rfl (.zero (.cons (.cons (.cons (.cons (.cons (.cons (.cons .nil))))))))) (fun _ _ => ?_); refine G.v (bb rfl) rfl (G.I (G.E (G.seq (G.seq (G.region (G.v (ba rfl) rfl (G.v (bF rfl) rfl (G.v (ba rfl) rfl ?_))))))))
  (with_reducible refine G.gP rfl rfl (fun hg => ?_) (fun hg => ?_)) <;> (try exact Bool.noConfusion hg) <;> (first | (refine G.gY rfl rfl ?_; (refine G.v (bj 3 rfl rfl rfl) rfl ?_)) | refine G.gN rfl rfl rfl ?_)
  all_goals ((first | (refine G.gY rfl rfl ?_; refine G.op (bh rfl rfl (fun w hh => dc (r := r) w (Rd.stays h _ hh) (Rd.stays h2 _ hh) (Rd.stays h3 _ hh))) rfl (fun _ _ => ?_)) | refine G.gN rfl rfl rfl ?_))
  all_goals ((first | (refine G.gY rfl rfl ?_; refine G.v (bF rfl) rfl ?_) | refine G.gN rfl rfl rfl ?_))
  all_goals ((first | refine G.v (bk rfl rfl) rfl ?_ | refine G.v (bm rfl rfl) rfl ?_))
  all_goals
   refine G.I (G.E ?_); refine G.cond rfl (fun hc => ?_) (fun hc => ?_)
   · all_goals
      all_goals
       have hno : ¬ ((typeAt r x.1.t).2 = true ∧ classM r = 0) := by (clear h h2 h3 h4; simp_all)
       all_goals
        refine G.seq (G.region ?_); refine G.v (bJ rfl .nil .nil) rfl ?_; refine G.bk (cf rfl rfl rfl rfl rfl rfl (.zero (.cons (.cons (.cons (.cons .nil)))))) (fun _ _ => ?_); refine G.I (G.E (G.ret (G.O ?_)))
        (rw [boxOfM, if_neg hno]); exact G.retFVc 1 rfl rfl rfl rfl rfl
   · try exact Bool.noConfusion hc
     all_goals
      all_goals
       have hyes : (typeAt r x.1.t).2 = true ∧ classM r = 0 := by (clear h h2 h3 h4; simp_all)
       all_goals
        refine G.skip (G.E (G.seq ?_)); refine G.ba [10] ?_; refine GE.q 0 rfl (by as_aux_lemma => kernel_rfl) rfl (bc (be rfl)) rfl ?_; refine GE.q 1 rfl (by as_aux_lemma => kernel_rfl) rfl (bc (bf 0 rfl rfl rfl)) rfl ?_; refine GE.q 2 rfl (by as_aux_lemma => kernel_rfl) rfl (bc (be rfl)) rfl ?_; refine GE.q 3 rfl (by as_aux_lemma => kernel_rfl) rfl (bc (bf 0 rfl rfl rfl)) rfl ?_; refine GE.q 4 rfl (by as_aux_lemma => kernel_rfl) rfl (bc (be rfl)) rfl ?_; refine GE.q 5 rfl (by as_aux_lemma => kernel_rfl) rfl (bc (bf 0 rfl rfl rfl)) rfl ?_; refine GE.q 6 rfl (by as_aux_lemma => kernel_rfl) rfl (bc (bj 3 rfl rfl rfl)) rfl ?_; refine GE.V 7 (by as_aux_lemma => kernel_rfl) rfl rfl (bd (bj 2 rfl rfl rfl)) rfl (fun _ _ h => by exact h) (fun _ _ => ?_); refine GE.V 8 (by as_aux_lemma => kernel_rfl) rfl rfl (bh rfl rfl (fun w hh => gross_any (r := r) x w (Rd.stays h _ hh) (Rd.stays h2 _ hh) (Rd.stays h3 _ hh) (Rd.stays h4 _ hh) hul)) rfl (fun _ _ h => by exact h) (fun _ _ => ?_); refine GE.V 9 (by as_aux_lemma => kernel_rfl) rfl rfl (bd (bJ rfl (.cons rfl (.cons rfl (.cons rfl (.cons rfl .nil)))) (.cons rfl rfl (.zero (.cons .nil)) (.cons rfl rfl (.succ (.zero (.cons .nil))) (.cons rfl rfl (.succ (.succ (.zero (.cons .nil)))) (.cons rfl rfl (.succ (.succ (.succ (.zero (.cons .nil))))) .nil)))))) rfl (fun _ _ h => by exact h) (fun _ _ => ?_)
        refine GE.U 10 (by as_aux_lemma => kernel_rfl) rfl rfl rfl (cf rfl rfl rfl rfl rfl rfl (.zero (.cons (.cons (.cons (.cons .nil)))))) (fun _ _ => ?_); refine GE.E (by as_aux_lemma => kernel_rfl) ?_; refine G.E (G.ret ?_)
        (rw [boxOfM, if_pos hyes]); exact G.retFVc 1 rfl rfl rfl rfl rfl
theorem sboxOf_any {r : ReqM} {pv tv iv : Value} (x : CartonM × Value) (w : World) (h : Rd w pv 2 (r.pairs.map PairM.cells)) (h2 : Rd w tv 7 (r.types.map TypeM.cells)) (h3 : Rd w iv 7 (r.items.map ItemM.cells)) (h4 : Rd w x.2 1 (x.1.l.map icell)) (hul : x.1.l.length ≤ 1048576) :
    FnV Tryz.prog 35 [.agg (r.cells pv tv iv).toArray, .agg (CartonM.cells x).toArray] w (boxOfM r x.1).val := by
  refine FnV.of (n := 32) Tryz.func35 rfl rfl ?_; refine G.seq (G.region ?_); refine G.op (bE rfl rfl) rfl (fun bk2 _ => ?_); refine G.op (bE rfl rfl) rfl (fun bk3 _ => ?_); refine G.op (bu) rfl (fun bk4 _ => ?_); refine G.I (G.E (G.seq (G.region (G.v (bj 2 rfl rfl rfl) rfl (G.v (be rfl) rfl (G.v (bf 1 rfl rfl rfl) rfl ?_)))))); refine G.op (bh rfl rfl (fun w hh => stypeById_any (r := r) x.1.t w (Rd.stays h2 _ hh))) rfl (fun _ _ => ?_); refine G.v (ba rfl) rfl (G.v (bC rfl rfl) rfl (G.v (bC rfl rfl) rfl ?_)); refine G.op (bu) rfl (fun bk5 _ => ?_); refine G.bk (bL rfl rfl rfl rfl rfl rfl (.zero (.cons (.cons (.cons (.cons (.cons (.cons (.cons .nil))))))))) (fun _ _ => ?_); refine G.v (bb rfl) rfl (G.I (G.E (G.seq (G.seq (G.region (G.v (bj 3 rfl rfl rfl) rfl ?_)))))); refine G.op (bh rfl rfl (fun w hh => cJ (r := r) w (Rd.stays h _ hh) (Rd.stays h2 _ hh) (Rd.stays h3 _ hh))) rfl (fun _ _ => ?_); refine G.v (dk rfl rfl) rfl (G.v (ba rfl) rfl ?_)
  (with_reducible refine G.gP rfl rfl (fun hg => ?_) (fun hg => ?_)) <;> (try exact Bool.noConfusion hg) <;> (first | (refine G.gY rfl rfl ?_; refine G.v (ba rfl) rfl ?_) | refine G.gN rfl rfl rfl ?_)
  all_goals ((first | (refine G.gY rfl rfl ?_; refine G.v (bF rfl) rfl ?_) | refine G.gN rfl rfl rfl ?_))
  all_goals ((first | refine G.v (bk rfl rfl) rfl ?_ | refine G.v (bm rfl rfl) rfl ?_))
  all_goals
   refine G.I (G.E ?_); refine G.cond rfl (fun hc => ?_) (fun hc => ?_)
   · all_goals
      all_goals
       have hno : ¬ ((typeAt r x.1.t).2 = true ∧ classM r = 0) := by (clear h h2 h3 h4; simp_all)
       all_goals
        refine G.seq (G.region ?_); refine G.v (bJ rfl .nil .nil) rfl ?_; refine G.bk (cf rfl rfl rfl rfl rfl rfl (.zero (.cons (.cons (.cons (.cons .nil)))))) (fun _ _ => ?_); refine G.I (G.E (G.ret (G.O ?_)))
        (rw [boxOfM, if_neg hno]); exact G.retFVc 1 rfl rfl rfl rfl rfl
   · try exact Bool.noConfusion hc
     all_goals
      all_goals
       have hyes : (typeAt r x.1.t).2 = true ∧ classM r = 0 := by (clear h h2 h3 h4; simp_all)
       all_goals
        refine G.skip (G.E (G.seq ?_)); refine G.ba [10] ?_; refine GE.q 0 rfl (by as_aux_lemma => kernel_rfl) rfl (bc (be rfl)) rfl ?_; refine GE.q 1 rfl (by as_aux_lemma => kernel_rfl) rfl (bc (bf 0 rfl rfl rfl)) rfl ?_; refine GE.q 2 rfl (by as_aux_lemma => kernel_rfl) rfl (bc (be rfl)) rfl ?_; refine GE.q 3 rfl (by as_aux_lemma => kernel_rfl) rfl (bc (bf 0 rfl rfl rfl)) rfl ?_; refine GE.q 4 rfl (by as_aux_lemma => kernel_rfl) rfl (bc (be rfl)) rfl ?_; refine GE.q 5 rfl (by as_aux_lemma => kernel_rfl) rfl (bc (bf 0 rfl rfl rfl)) rfl ?_; refine GE.q 6 rfl (by as_aux_lemma => kernel_rfl) rfl (bc (bj 3 rfl rfl rfl)) rfl ?_; refine GE.V 7 (by as_aux_lemma => kernel_rfl) rfl rfl (bd (bj 2 rfl rfl rfl)) rfl (fun _ _ h => by exact h) (fun _ _ => ?_); refine GE.V 8 (by as_aux_lemma => kernel_rfl) rfl rfl (bh rfl rfl (fun w hh => sgross_any (r := r) x w (Rd.stays h _ hh) (Rd.stays h2 _ hh) (Rd.stays h3 _ hh) (Rd.stays h4 _ hh) hul)) rfl (fun _ _ h => by exact h) (fun _ _ => ?_); refine GE.V 9 (by as_aux_lemma => kernel_rfl) rfl rfl (bd (bJ rfl (.cons rfl (.cons rfl (.cons rfl (.cons rfl .nil)))) (.cons rfl rfl (.zero (.cons .nil)) (.cons rfl rfl (.succ (.zero (.cons .nil))) (.cons rfl rfl (.succ (.succ (.zero (.cons .nil)))) (.cons rfl rfl (.succ (.succ (.succ (.zero (.cons .nil))))) .nil)))))) rfl (fun _ _ h => by exact h) (fun _ _ => ?_)
        refine GE.U 10 (by as_aux_lemma => kernel_rfl) rfl rfl rfl (cf rfl rfl rfl rfl rfl rfl (.zero (.cons (.cons (.cons (.cons .nil)))))) (fun _ _ => ?_); refine GE.E (by as_aux_lemma => kernel_rfl) ?_; refine G.E (G.ret ?_)
        (rw [boxOfM, if_pos hyes]); exact G.retFVc 1 rfl rfl rfl rfl rfl
end Go.Proofs.YtglpgohilfoecaaGreat

/-
  Plans that are right.
-/
namespace Go.Proofs.YtglpgohilfoecaaGreat
open Go.RowKit
attribute [local irreducible] Go.wpList Go.Code.wp Go.Exit.then Go.Exit.inBlock Go.bodyPost Go.Calls pE pB G RunsV FnV Fn FnM
set_option maxRecDepth 100000

/-- The numbers of a list go up, and are in bounds: at one place. -/
def upAt (l : List Int) (i : Nat) : Bool := match l[i]? with
  | none => true
  | some u => inB u 0 999 && (match i with | 0 => true | j + 1 => match l[j]? with | none => true | some v => decide (v < u))
def upM (l : List Int) : Bool := decide (l.length ≤ 100) && (List.range l.length).all (upAt l)
def planAt (cs : List CartonM) (ss : List SpotM) (i : Nat) : Bool := match cs[i]?, ss[i]? with
  | some c, some s => (inB c.t 0 999 && inB c.g 0 3 && upM c.l) && inB s.p 0 2000 && inB s.x 0 2000 && inB s.y 0 2000 && inB s.z 0 2000
  | _, _ => true
def planOkM (cs : List CartonM) (ss : List SpotM) : Bool := decide (ss.length = cs.length) && decide (cs.length ≤ 100) && (List.range cs.length).all (planAt cs ss)
end Go.Proofs.YtglpgohilfoecaaGreat

/-
  Plans that are alike, and what lies on a pallet.
-/
namespace Go.Proofs.YtglpgohilfoecaaGreat
open Go.RowKit
attribute [local irreducible] Go.wpList Go.Code.wp Go.Exit.then Go.Exit.inBlock Go.bodyPost Go.Calls pE pB G RunsV FnV Fn FnM
set_option maxRecDepth 100000
set_option maxHeartbeats 1000000
def onP (k : Int) (s : SpotM) : Bool := decide (s.p = k)
def onPalletM (n : Nat) (ss : List SpotM) (k : Int) : List Int := if ss.length = n then whereG (onP k) ss else []
end Go.Proofs.YtglpgohilfoecaaGreat

/-
  What a pallet weighs: both ways, and the law.
-/
namespace Go.Proofs.YtglpgohilfoecaaGreat
open Go.RowKit
attribute [local irreducible] Go.wpList Go.Code.wp Go.Exit.then Go.Exit.inBlock Go.bodyPost Go.Calls pE pB G RunsV FnV Fn FnM
set_option maxRecDepth 100000
set_option maxHeartbeats 4000000
def grossAt (r : ReqM) (cs : List CartonM) (i : Int) : Int := match cs[i.toNat]? with | some c => grossM r c | none => 0
def palletGramM (r : ReqM) (cs : List CartonM) (ss : List SpotM) (z : Int) : Int := ((onPalletM cs.length ss z).map (grossAt r cs)).sum
section
variable {r : ReqM} {pv tv iv cv sv : Value} {cs : List (CartonM × Value)} {ss : List SpotM} {z : Int} (w : World) (h : Rd w pv 2 (r.pairs.map PairM.cells)) (h2 : Rd w tv 7 (r.types.map TypeM.cells)) (h3 : Rd w iv 7 (r.items.map ItemM.cells)) (h4 : Rd w cv 3 (cs.map CartonM.cells)) (hs : Subs w CartonM.l cs) (h5 : Rd w sv 4 (ss.map SpotM.cells)) (hb : ss.length ≤ 1048576) (hcs : ∀ c ∈ cs.map Prod.fst, c.l.length ≤ 1048576)
include h h2 h3 h4 hs h5 hb hcs
end
def unitFits (r : ReqM) (t : TypeM) (u : Int) : Bool := match itemAt r u with | some x => fitsM x t | none => false
def holdM (r : ReqM) (c : List Int) (t : TypeM) : Bool := decide (classM r = 0) && (c.all (unitFits r t) && withinT r c t)
theorem here_item (r : ReqM) (u : Int) : hereM r u = (itemAt r u).isSome := by
  by_cases h : hereM r u = true
  · obtain ⟨_, _, x, _, _, _, hx⟩ := item_in (r := r) (u := u) (by rw [List.length_map]; exact h)
    rw [h, hx]; rfl
  · have hx := item_out (r := r) (u := u) (by rw [List.length_map]; exact h)
    rw [hx]; simpa using h
theorem unitFits_eq (r : ReqM) (t : TypeM) (u : Int) : unitFits r t u = ((itemAt r u).isSome && fitsM (itemOr r u) t) := by
  rw [unitFits, itemOr]; cases itemAt r u <;> rfl
theorem all_fit (r : ReqM) (t : TypeM) : ∀ c : List Int, c.all (unitFits r t) = (decide ((thereM r c).length = c.length) && (itemsM r c).all fun x => fitsM x t)
  | [] => rfl
  | u :: c => by
    have ih := all_fit r t c
    have hl := cL r c
    have hh := here_item r u
    cases hx : itemAt r u with
    | none =>
      rw [hx] at hh
      have e1 : unitFits r t u = false := by rw [unitFits, hx]
      have e2 : thereM r (u :: c) = thereM r c := by rw [thereM, List.filter_cons, hh]; rfl
      have e3 : ¬ (thereM r (u :: c)).length = (u :: c).length := by rw [e2, List.length_cons]; omega
      rw [List.all_cons, e1, decide_eq_false e3]; rfl
    | some x =>
      rw [hx] at hh
      have e1 : unitFits r t u = fitsM x t := by rw [unitFits, hx]
      have e2 : thereM r (u :: c) = u :: thereM r c := by rw [thereM, List.filter_cons, hh]; rfl
      have e3 : itemsM r (u :: c) = x :: itemsM r c := by simp only [itemsM, List.filterMap_cons, hx]
      have e4 : decide ((thereM r (u :: c)).length = (u :: c).length) = decide ((thereM r c).length = c.length) := by rw [e2]; simp
      rw [List.all_cons, e1, ih, e4, e3, List.all_cons]
      cases fitsM x t <;> cases decide ((thereM r c).length = c.length) <;> rfl
theorem hold_no {r : ReqM} {c : List Int} {t : TypeM} (h : ¬ classM r = 0) : holdM r c t = false := by rw [holdM, decide_eq_false h, Bool.false_and]
theorem hold_short {r : ReqM} {c : List Int} {t : TypeM} (h : ¬ (thereM r c).length = c.length) : holdM r c t = false := by rw [holdM, all_fit, decide_eq_false h, Bool.false_and, Bool.false_and, Bool.and_false]
theorem hold_long {r : ReqM} {c : List Int} {t : TypeM} (hc : classM r = 0) (h : (thereM r c).length = c.length) : holdM r c t = (((itemsM r c).all fun x => fitsM x t) && withinT r c t) := by rw [holdM, all_fit, decide_eq_true h, decide_eq_true hc, Bool.true_and, Bool.true_and]
theorem hold_at {r : ReqM} {c : List Int} {t : TypeM} {k : Nat} {u : Int} (hb : c[k]? = some u) (h : unitFits r t u = false) : holdM r c t = false := by
  rw [holdM, all_no hb h, Bool.false_and, Bool.and_false]
theorem hold_all {r : ReqM} {c : List Int} {t : TypeM} (hc : classM r = 0) (h : c.all (unitFits r t) = true) : holdM r c t = withinT r c t := by rw [holdM, decide_eq_true hc, h, Bool.true_and, Bool.true_and]
theorem holds1_any (t : TypeM) (x : ItemM) {q : Nat} (w : World) (h : Rd w (.slice (some ⟨q, 0, none⟩) 1 1) 7 [t.cells]) : FnV Tryz.prog 141 [.agg (ItemM.cells x).toArray, pB q 0] w (.bool (!fitsM x t)) := by
  rw [cp q 7]
  refine FnV.of (n := 8) Tryz.func141 rfl rfl ?_; refine G.seq (G.region ?_); refine G.op (bE rfl rfl) rfl (fun bk2 _ => ?_); refine G.v (bb rfl) rfl (G.I (G.E (G.seq (G.region (G.v (bj 0 rfl rfl rfl) rfl ?_))))); refine G.v (bN rfl (by exact Rd.stays (by assumption)) rfl rfl) rfl ?_; refine G.op (bh rfl rfl (fun w _ => fits_any x t w)) rfl (fun _ _ => ?_); refine G.v (bF rfl) rfl (G.v (bb rfl) rfl (G.I (G.E (G.ret ?_))))
  exact G.U rfl rfl rfl
section
variable {r : ReqM} {pv tv iv uv : Value} {us : List Int} (w : World) (h : Rd w pv 2 (r.pairs.map PairM.cells)) (h2 : Rd w tv 7 (r.types.map TypeM.cells)) (h3 : Rd w iv 7 (r.items.map ItemM.cells)) (h4 : Rd w uv 1 (us.map icell)) (hul : us.length ≤ 1048576)
include h h2 h3 h4 hul
theorem holds_any (t : TypeM) : FnV Tryz.prog 79 [.agg (r.cells pv tv iv).toArray, uv, t.val] w (.bool (holdM r us t)) := by
  have hul2 : (us.map icell).length = us.length := by simp
  have htl2 : ((thereM r us).map icell).length = (thereM r us).length := by simp
  obtain ⟨B, hB⟩ : ∃ B, B = (itemsM r us).all fun x => fitsM x t := ⟨_, rfl⟩
  refine FnV.of (n := 31) Tryz.func79 rfl rfl ?_; refine G.seq (G.region ?_); refine G.op (bE rfl rfl) rfl (fun bk3 _ => ?_); refine G.op (bE rfl rfl) rfl (fun bk5 _ => ?_); refine G.v (bb rfl) rfl (G.I (G.E (G.seq (G.seq (G.region (G.v (bj 1 rfl rfl rfl) rfl ?_)))))); refine G.op (bh rfl rfl (fun w hh => dc (r := r) w (Rd.stays h _ hh) (Rd.stays h2 _ hh) (Rd.stays h3 _ hh))) rfl (fun _ _ => ?_); refine G.v (bF rfl) rfl (G.v (ba rfl) rfl ?_)
  (with_reducible refine G.gP rfl rfl (fun hg => ?_) (fun hg => ?_)) <;> (try exact Bool.noConfusion hg) <;> (first | (refine G.gY rfl rfl ?_; (refine G.v (bj 1 rfl rfl rfl) rfl ?_)) | refine G.gN rfl rfl rfl ?_)
  all_goals ((first | (refine G.gY rfl rfl ?_; refine G.v (ba rfl) rfl ?_) | refine G.gN rfl rfl rfl ?_))
  all_goals ((first | (refine G.gY rfl rfl ?_; (refine G.op (bH rfl rfl (fun w hh => thereOf_any (r := r) (us := us) w (Rd.stays h _ hh) (Rd.stays h2 _ hh) (Rd.stays h3 _ hh) (Rd.stays h4 _ hh) hul)) rfl ?_; rintro vt hvt; try dsimp only)) | refine G.gN rfl rfl rfl ?_ | refine G.gU rfl rfl rfl ?_))
  all_goals ((first | (refine G.gY rfl rfl ?_; refine G.v (bz rfl (by exact Rd.ba 0 rfl)) rfl ?_) | refine G.gN rfl rfl rfl ?_))
  all_goals ((first | (refine G.gY rfl rfl ?_; refine G.v (ba rfl) rfl ?_) | refine G.gN rfl rfl rfl ?_))
  all_goals ((first | (refine G.gY rfl rfl ?_; refine G.v (bz rfl (by exact Rd.stays (by assumption))) rfl ?_) | refine G.gN rfl rfl rfl ?_))
  all_goals ((first | (refine G.gY rfl rfl ?_; refine G.v (dk rfl rfl) rfl ?_) | refine G.gN rfl rfl rfl ?_))
  all_goals ((first | refine G.v (bk rfl rfl) rfl ?_ | refine G.v (bm rfl rfl) rfl ?_))
  all_goals
   refine G.I (G.E ?_); refine G.cond rfl (fun hc => ?_) (fun hc => ?_)
   · all_goals
      try replace hc := of_decide_eq_true hc
      all_goals
       have hbad : holdM r us t = false := (by first | exact hold_no (by simpa using hg) | exact hold_short (by simp only [hul2, htl2] at hc; omega))
       all_goals
        refine G.seq (G.region (G.v (bb rfl) rfl (G.I (G.E (G.ret (G.O ?_))))))
        first | exact G.U rfl rfl (congrArg Value.bool hbad.symm) | (refine G.U rfl rfl (congrArg Value.bool ?_); rw [hgood]; cases B <;> simp_all; done)
   · try exact Bool.noConfusion hc
     all_goals
      replace hc := of_decide_eq_false hc
      all_goals
       have hyes : classM r = 0 := by simpa using hg
       have hsame : (thereM r us).length = us.length := (by simp only [hul2, htl2] at hc; omega)
       have hgood := hold_long (t := t) hyes hsame
       rw [← hB] at hgood
       all_goals
        refine G.skip (G.E (G.seq (G.region (G.v (bj 2 rfl rfl rfl) rfl (G.v (ba rfl) rfl ?_))))); refine G.op (bH rfl rfl (fun w hh => itemsOf_any (r := r) (us := us) w (Rd.stays h _ hh) (Rd.stays h2 _ hh) (Rd.stays h3 _ hh) (Rd.stays h4 _ hh) hul)) rfl ?_; rintro vs hvs; try dsimp only
        refine G.v (bY rfl rfl) rfl ?_; refine G.op (bh rfl rfl (fun w hh => (containsItem_any (l := itemsM r us) (p := fun x => !fitsM x t) w (by exact Rd.ba 0 rfl _ hh) (fun w' j c hw hb => holds1_any t c w' (Rd.stays (by exact Rd.bb 2 rfl rfl w hh) w' hw))).mono (congrArg Value.bool (any_not.trans (by rw [← hB]))))) rfl (fun _ _ => ?_); refine G.v (bF rfl) rfl (G.v (ba rfl) rfl ?_)
        all_goals (((with_reducible refine G.gP rfl rfl (fun hg => ?_) (fun hg => ?_)) <;> (try exact Bool.noConfusion hg) <;> (first | (refine G.gY rfl rfl ?_; (refine G.v (bj 3 rfl rfl rfl) rfl ?_)) | refine G.gN rfl rfl rfl ?_)))
        all_goals ((first | (refine G.gY rfl rfl ?_; refine G.v (ba rfl) rfl ?_) | refine G.gN rfl rfl rfl ?_))
        all_goals ((first | (refine G.gY rfl rfl ?_; (refine G.v (bj 2 rfl rfl rfl) rfl ?_)) | refine G.gN rfl rfl rfl ?_))
        all_goals ((first | (refine G.gY rfl rfl ?_; refine G.op (bh rfl rfl (fun w hh => within_any (r := r) (us := us) w (Rd.stays h _ hh) (Rd.stays h2 _ hh) (Rd.stays h3 _ hh) (Rd.stays h4 _ hh) hul t)) rfl (fun _ _ => ?_)) | refine G.gN rfl rfl rfl ?_))
        all_goals ((first | refine G.v (bk rfl rfl) rfl ?_ | refine G.v (bm rfl rfl) rfl ?_))
        all_goals (refine G.v (bb rfl) rfl ?_)
        all_goals
         refine G.I (G.E (G.ret ?_))
         first | exact G.U rfl rfl (congrArg Value.bool hbad.symm) | (refine G.U rfl rfl (congrArg Value.bool ?_); rw [hgood]; cases B <;> simp_all; done)
theorem sholds_any (t : TypeM) : FnV Tryz.prog 136 [.agg (r.cells pv tv iv).toArray, uv, t.val] w (.bool (holdM r us t)) := by
  have hul2 : (us.map icell).length = us.length := by simp
  refine FnV.of (n := 62) Tryz.func136 rfl rfl ?_; refine G.seq (G.region ?_); refine G.op (bE rfl rfl) rfl (fun bk3 _ => ?_); refine G.op (bE rfl rfl) rfl (fun bk5 _ => ?_); refine G.v (bb rfl) rfl (G.I (G.E (G.seq (G.seq (G.region (G.v (bj 1 rfl rfl rfl) rfl ?_)))))); refine G.op (bh rfl rfl (fun w hh => cJ (r := r) w (Rd.stays h _ hh) (Rd.stays h2 _ hh) (Rd.stays h3 _ hh))) rfl (fun _ _ => ?_); refine G.v (dk rfl rfl) rfl (G.I (G.E ?_)); refine G.bd rfl (fun hc => ?_) (fun hc => ?_)
  have hbad := hold_no (r := r) (c := us) (t := t) hc
  refine G.seq (G.region (G.v (bb rfl) rfl (G.I (G.E (G.ret (G.O ?_))))))
  exact G.U rfl rfl (congrArg Value.bool hbad.symm)
  · have hyes : classM r = 0 := by omega
    refine G.skip (G.E (G.seq (G.region (G.v (bj 1 rfl rfl rfl) rfl ?_)))); refine G.op (bH rfl rfl (fun w hh => by have q := cK (r := r) (pv := pv) (tv := tv) w (b9 (bR hyes)) (cr (bR hyes)).1 (Rd.stays h3 _ hh); rw [← cw hyes] at q; exact q)) rfl ?_; rintro vu hvu; try dsimp only
    refine G.v (bb rfl) rfl (G.I (G.E (G.seq (G.seq (G.region (G.v (bb rfl) rfl (G.I (G.E (G.block ?_))))))))); refine G.Y (ι := Nat) (ks := [1, 3, 5, 7]) (fun k => [(8, .int .i64 k)]) (fun _ => []) (fun k => k ≤ us.length ∧ (us.take k).all (unitFits r t) = true) (fun k => us.length - k) 0 (.cons rfl (.cons rfl (.cons rfl (.cons rfl (.nil))))) rfl ?_ ?_ ?_
    exact ⟨Nat.zero_le _, rfl⟩
    exact ⟨rfl, trivial⟩
    rintro k ⟨hk, ht⟩
    by_cases hlt : k < us.length
    case' pos => (obtain ⟨u, hb⟩ := bn hlt; have e1 := bt hb icell; obtain ⟨A, hA⟩ : ∃ A, A = (itemAt r u).isSome := ⟨_, rfl⟩; obtain ⟨B, hB⟩ : ∃ B, B = fitsM (itemOr r u) t := ⟨_, rfl⟩; have hAB : unitFits r t u = (A && B) := (by rw [unitFits_eq, hA, hB]))
    case' neg => (have hgood := hold_all (t := t) hyes (d5 ht hlt))
    all_goals
     refine G.seq (G.seq (G.region (G.v (ba rfl) rfl (G.v (ba rfl) rfl ?_)))); refine G.v (bz rfl (by exact Rd.stays (by assumption))) rfl ?_; refine G.v (br rfl rfl) rfl (G.I (G.E ?_)); refine G.cond rfl (fun hc => ?_) (fun hc => ?_)
     · all_goals
        replace hc := of_decide_eq_true hc
        simp only [hul2] at hc
        try (exfalso; omega)
        all_goals
         refine G.skip (G.E (G.seq (G.block (G.seq ?_)))); refine G.ba [12] ?_; refine GE.q 0 rfl (by as_aux_lemma => kernel_rfl) rfl (bc (bj 2 rfl rfl rfl)) rfl ?_; refine GE.q 1 rfl (by as_aux_lemma => kernel_rfl) rfl (bc (ba rfl)) rfl ?_; refine GE.q 2 rfl (by as_aux_lemma => kernel_rfl) rfl (bc (ba rfl)) rfl ?_; refine GE.q 3 rfl (by as_aux_lemma => kernel_rfl) rfl (bc (ba rfl)) rfl ?_; refine GE.q 4 rfl (by as_aux_lemma => kernel_rfl) rfl (bc (bg rfl rfl (by exact Rd.stays (by assumption)) rfl (by exact e1))) rfl ?_; refine GE.q 5 rfl (by as_aux_lemma => kernel_rfl) rfl (bc (bi rfl (by exact Rd.stays (by assumption)) (by exact e1) rfl)) rfl ?_; refine GE.q 6 rfl (by as_aux_lemma => kernel_rfl) rfl (cY rfl rfl (fun w hh => (l6Item_any (r := r) u w (Rd.stays h3 _ hh) (by exact Rd.ba 0 rfl _ hh)).mono (show _ = Value.tuple #[(itemOr r u).val, .bool A] by rw [hA]))) rfl ?_; refine GE.q 7 rfl (by as_aux_lemma => kernel_rfl) rfl (bc (ba rfl)) rfl ?_; refine GE.q 8 rfl (by as_aux_lemma => kernel_rfl) rfl (bc (bC rfl rfl)) rfl ?_; refine GE.q 9 rfl (by as_aux_lemma => kernel_rfl) rfl (bc (bC rfl rfl)) rfl ?_; refine GE.V 10 (by as_aux_lemma => kernel_rfl) rfl rfl (bu) rfl (fun _ _ h => by exact h.drop 1) (fun bk9 _ => ?_)
         refine GE.ol0 11 (by as_aux_lemma => kernel_rfl) rfl rfl (bL rfl rfl rfl rfl rfl rfl (.zero (.cons (.cons (.cons (.cons (.cons (.cons (.cons .nil))))))))) (fun _ _ h => by exact h.drop 1) (fun _ _ => ?_); refine GE.t 12 (by as_aux_lemma => kernel_rfl) rfl rfl rfl (bd (bb rfl)) rfl (fun _ _ => ?_); refine GE.E (by as_aux_lemma => kernel_rfl) ?_; refine G.E (G.seq (G.region (G.v (ba rfl) rfl (G.v (bF rfl) rfl (G.v (ba rfl) rfl ?_)))))
         all_goals (((with_reducible refine G.gP rfl rfl (fun hg => ?_) (fun hg => ?_)) <;> (try exact Bool.noConfusion hg) <;> (first | (refine G.gY rfl rfl ?_; (refine G.v (bj 0 rfl rfl rfl) rfl ?_)) | refine G.gN rfl rfl rfl ?_)))
         all_goals ((first | (refine G.gY rfl rfl ?_; (refine G.v (bj 2 rfl rfl rfl) rfl ?_)) | refine G.gN rfl rfl rfl ?_))
         all_goals ((first | (refine G.gY rfl rfl ?_; refine G.op (bh rfl rfl (fun w _ => (sfits_any (itemOr r u) t w).mono (congrArg Value.bool hB.symm))) rfl (fun _ _ => ?_)) | refine G.gN rfl rfl rfl ?_))
         all_goals ((first | (refine G.gY rfl rfl ?_; refine G.v (bF rfl) rfl ?_) | refine G.gN rfl rfl rfl ?_))
         all_goals ((first | refine G.v (bk rfl rfl) rfl ?_ | refine G.v (bm rfl rfl) rfl ?_))
         all_goals
          refine G.I (G.E ?_); refine G.cond rfl (fun hc => ?_) (fun hc => ?_)
          · all_goals
             try simp only [hul2] at hc
             all_goals
              have hbad := hold_at (t := t) hb (by rw [hAB]; cases A <;> cases B <;> simp_all)
              all_goals
               refine G.seq (G.region (G.v (bb rfl) rfl (G.I (G.E (G.ret (G.bq (G.O (G.O (G.bq (G.O ?_))))))))))
               exact G.U rfl rfl (congrArg Value.bool hbad.symm)
          · try exact Bool.noConfusion hc
            all_goals
             all_goals
              have hfit : unitFits r t u = true := (by rw [hAB]; cases A <;> cases B <;> simp_all)
              all_goals
               refine G.skip (G.bc (G.E (G.region (G.v (ba rfl) rfl ?_)))); refine G.v (bp rfl rfl (by omega)) rfl ?_; refine G.v (bb rfl) rfl (G.I ?_); refine G.V (k + 1) 1 rfl (.cons rfl (.cons rfl (.cons rfl (.cons rfl (.nil))))) ?_ ?_ ?_
               exact ⟨rfl, trivial⟩
               exact ⟨hlt, dG ht hb hfit⟩
               omega
     · all_goals
        replace hc := of_decide_eq_false hc
        simp only [hul2] at hc
        try (exfalso; omega)
        all_goals
         refine G.exit (G.L (G.L (G.bn (G.E (G.seq (G.region (G.v (bj 2 rfl rfl rfl) rfl (G.v (ba rfl) rfl (G.v (ba rfl) rfl ?_))))))))); refine G.op (bT rfl rfl (fun w hh => (ca (r := r) (us := us) w (Rd.stays h3 _ hh) (Rd.stays h4 _ hh) hul (by exact Rd.ba 0 rfl _ hh)).toFn)) rfl ?_; rintro ⟨⟩ _; try dsimp only
         refine G.op (bu) rfl (fun bk11 _ => ?_); refine G.bk (bL rfl rfl rfl rfl rfl rfl (.zero (.cons (.cons .nil)))) (fun _ _ => ?_); refine G.I (G.E (G.seq ?_)); refine G.ba [17] ?_; refine GE.q 0 rfl (by as_aux_lemma => kernel_rfl) rfl (bc (be rfl)) rfl ?_; refine GE.q 1 rfl (by as_aux_lemma => kernel_rfl) rfl (bc (bf 0 rfl rfl rfl)) rfl ?_; refine GE.q 2 rfl (by as_aux_lemma => kernel_rfl) rfl (bc (be rfl)) rfl ?_; refine GE.q 3 rfl (by as_aux_lemma => kernel_rfl) rfl (bc (bf 2 rfl rfl rfl)) rfl ?_; refine GE.q 4 rfl (by as_aux_lemma => kernel_rfl) rfl (bc (be rfl)) rfl ?_; refine GE.q 5 rfl (by as_aux_lemma => kernel_rfl) rfl (bc (bf 2 rfl rfl rfl)) rfl ?_; refine GE.V 6 (by as_aux_lemma => kernel_rfl) rfl rfl (bd (be rfl)) rfl (fun _ _ h => by exact h) (fun _ _ => ?_); refine GE.V 7 (by as_aux_lemma => kernel_rfl) rfl rfl (bd (bf 2 rfl rfl rfl)) rfl (fun _ _ h => by exact h) (fun _ _ => ?_); refine GE.V 8 (by as_aux_lemma => kernel_rfl) rfl rfl (bh rfl rfl (fun w hh => svolume_any t.w t.h t.d w)) rfl (fun _ _ h => by exact h) (fun _ _ => ?_); refine GE.V 9 (by as_aux_lemma => kernel_rfl) rfl rfl (bd (ci rfl rfl)) rfl (fun _ _ h => by exact h) (fun _ _ => ?_); refine GE.V 10 (by as_aux_lemma => kernel_rfl) rfl rfl (bd (ba rfl)) rfl (fun _ _ h => by exact h) (fun _ _ => ?_)
         all_goals (((with_reducible refine GE.part (t := 55) rfl (fun hg => ?_) (fun hg => ?_)) <;> (try exact Bool.noConfusion hg) <;> (first | (refine GE.q 11 rfl (by as_aux_lemma => kernel_rfl) rfl (bc (be rfl)) rfl ?_) | refine GE.O 11 rfl (by as_aux_lemma => kernel_rfl) rfl rfl ?_)))
         all_goals ((first | (refine GE.q 12 rfl (by as_aux_lemma => kernel_rfl) rfl (bc (bf 0 rfl rfl rfl)) rfl ?_) | refine GE.O 12 rfl (by as_aux_lemma => kernel_rfl) rfl rfl ?_))
         all_goals ((first | (refine GE.q 13 rfl (by as_aux_lemma => kernel_rfl) rfl (bc (be rfl)) rfl ?_) | refine GE.O 13 rfl (by as_aux_lemma => kernel_rfl) rfl rfl ?_))
         all_goals ((first | (refine GE.q 14 rfl (by as_aux_lemma => kernel_rfl) rfl (bc (bf 2 rfl rfl rfl)) rfl ?_) | refine GE.O 14 rfl (by as_aux_lemma => kernel_rfl) rfl rfl ?_))
         all_goals ((first | refine GE.q 15 rfl (by as_aux_lemma => kernel_rfl) rfl (bc (ci rfl rfl)) rfl ?_ | refine GE.O 15 rfl (by as_aux_lemma => kernel_rfl) rfl rfl ?_))
         all_goals ((first | refine GE.V 16 (by as_aux_lemma => kernel_rfl) rfl rfl (bd (bk rfl rfl)) rfl (fun _ _ h => by exact h) (fun _ _ => ?_) | refine GE.V 16 (by as_aux_lemma => kernel_rfl) rfl rfl (bd (bm rfl rfl)) rfl (fun _ _ h => by exact h) (fun _ _ => ?_)))
         all_goals (refine GE.t 17 (by as_aux_lemma => kernel_rfl) rfl rfl rfl (bd (bb rfl)) rfl (fun _ _ => ?_))
         all_goals
          refine GE.E (by as_aux_lemma => kernel_rfl) ?_; refine G.E (G.ret ?_)
          first | (refine G.U rfl rfl (congrArg Value.bool ?_); rw [hgood]; simp_all [withinT]; done) | (refine G.U rfl rfl (congrArg Value.bool ?_); rw [hgood]; simp_all [withinT]; intro hq9; omega)
end
def betterM (a : TypeM × Bool) (t : TypeM) : Bool := !a.2 || decide (t.cost < a.1.cost) || (decide (t.cost = a.1.cost) && decide (t.id < a.1.id))
def cheapStep (r : ReqM) (c : List Int) (a : TypeM × Bool) (t : TypeM) : TypeM × Bool := if holdM r c t && betterM a t then (t, true) else a
/-- The cheapest type that holds units. -/
def cheapM (r : ReqM) (c : List Int) : TypeM × Bool := r.types.foldl (cheapStep r c) (typeZ, false)
theorem cheap_yes {r : ReqM} {c : List Int} {k : Nat} {t : TypeM} {a : TypeM × Bool} (hb : r.types[k]? = some t) (ha : (r.types.take k).foldl (cheapStep r c) (typeZ, false) = a) (h : holdM r c t = true) (h2 : betterM a t = true) : (r.types.take (k + 1)).foldl (cheapStep r c) (typeZ, false) = (t, true) := by
  rw [bP hb, ha, cheapStep, h, h2]; rfl
theorem cheap_no {r : ReqM} {c : List Int} {k : Nat} {t : TypeM} {a : TypeM × Bool} (hb : r.types[k]? = some t) (ha : (r.types.take k).foldl (cheapStep r c) (typeZ, false) = a) (h : (holdM r c t && betterM a t) = false) : (r.types.take (k + 1)).foldl (cheapStep r c) (typeZ, false) = a := by
  rw [bP hb, ha, cheapStep, h]; rfl
section
variable {r : ReqM} {pv tv iv uv : Value} {us : List Int} (w : World) (h : Rd w pv 2 (r.pairs.map PairM.cells)) (h2 : Rd w tv 7 (r.types.map TypeM.cells)) (h3 : Rd w iv 7 (r.items.map ItemM.cells)) (h4 : Rd w uv 1 (us.map icell)) (hul : us.length ≤ 1048576)
include h h2 h3 h4 hul
theorem cheapest_any : FnV Tryz.prog 23 [.agg (r.cells pv tv iv).toArray, uv] w (.tuple #[(cheapM r us).1.val, .bool (cheapM r us).2]) := by
  have hle := h2.le_map
  have hln : (r.types.map TypeM.cells).length = r.types.length := by simp
  refine FnV.of (n := 50) Tryz.func23 rfl rfl ?_; refine G.seq (G.region ?_); refine G.op (bE rfl rfl) rfl (fun bk2 _ => ?_); refine G.op (bu) rfl (fun bk4 _ => ?_); refine G.v (bb rfl) rfl (G.I (G.E (G.seq (G.region ?_)))); refine G.v (bJ rfl .nil .nil) rfl ?_; refine G.op (bu) rfl (fun bk6 _ => ?_); refine G.bk (bL rfl rfl rfl rfl rfl rfl (.zero (.cons (.cons (.cons (.cons (.cons (.cons (.cons .nil))))))))) (fun _ _ => ?_); refine G.v (bb rfl) rfl (G.I (G.E (G.seq (G.seq (G.region (G.v (be rfl) rfl (G.v (bf 2 rfl rfl rfl) rfl ?_))))))); refine G.v (bz rfl (by exact Rd.stays (by assumption))) rfl ?_; refine G.v (ba rfl) rfl (G.I (G.E (G.block ?_))); refine G.Y (ι := Nat × (TypeM × Bool)) (ks := [1, 2, 4, 6, 12, 13]) (fun x => [(7, .bool x.2.2), (14, .int .i64 (x.1 : Int))]) (fun x => [.blk bk6 56 x.2.1.cells]) (fun x => x.1 ≤ r.types.length ∧ (r.types.take x.1).foldl (cheapStep r us) (typeZ, false) = x.2) (fun x => r.types.length - x.1) (0, (typeZ, false)) (.cons rfl (.cons rfl (.cons rfl (.cons rfl (.cons rfl (.cons rfl (.nil))))))) rfl ?_ ?_ ?_
  exact ⟨Nat.zero_le _, rfl⟩
  exact ⟨rfl, rfl, trivial⟩
  rintro ⟨k, a⟩ ⟨hk, hM⟩
  dsimp only at hk hM ⊢
  by_cases hlt : k < r.types.length
  case' pos => (obtain ⟨b, hb⟩ := bn hlt; have he := bt hb TypeM.cells)
  all_goals
   refine G.seq (G.region (G.v (br rfl rfl) rfl (G.I (G.E (G.seq ?_))))); refine G.cond rfl (fun hc => ?_) (fun hc => ?_)
   · all_goals
      replace hc := of_decide_eq_true hc
      simp only [hln] at hc
      try (exfalso; omega)
      all_goals
       refine G.skip (G.E (G.seq (G.block (G.seq (G.region ?_))))); refine G.v (bg rfl rfl (by exact Rd.stays (by assumption)) rfl (by exact he)) rfl ?_; refine G.v (bN rfl (by exact Rd.stays (by assumption)) (by exact he) rfl) rfl ?_; refine G.op (bu) rfl (fun bk9 _ => ?_); refine G.bk (bL rfl rfl rfl rfl rfl rfl (.zero (.cons (.cons (.cons (.cons (.cons (.cons (.cons .nil))))))))) (fun _ _ => ?_); refine G.I (G.E (G.seq (G.seq (G.region (G.v (bj 3 rfl rfl rfl) rfl (G.v (ba rfl) rfl (G.v (bj 0 rfl rfl rfl) rfl ?_))))))); refine G.op (bh rfl rfl (fun w hh => holds_any (r := r) (us := us) w (Rd.stays h _ hh) (Rd.stays h2 _ hh) (Rd.stays h3 _ hh) (Rd.stays h4 _ hh) hul b)) rfl (fun _ _ => ?_); refine G.v (bF rfl) rfl (G.I (G.E ?_)); refine G.cond rfl (fun hc => ?_) (fun hc => ?_)
       · all_goals
          all_goals
           have hst : (r.types.take (k + 1)).foldl (cheapStep r us) (typeZ, false) = a := cheap_no hb hM (by simp_all)
           all_goals
            refine G.exit (G.L (G.bn (G.E (G.region ?_)))); refine G.v (bp rfl rfl (by omega)) rfl ?_; refine G.v (ba rfl) rfl (G.I ?_); refine G.bh bk6 rfl ?_; refine G.keep1 1 rfl ?_; refine G.V (k + 1, a) 0 rfl (.cons rfl (.cons rfl (.cons rfl (.cons rfl (.cons rfl (.cons rfl (.nil))))))) ?_ ?_ ?_
            exact ⟨rfl, rfl, trivial⟩
            exact ⟨hlt, hst⟩
            dsimp only; omega
       · all_goals
          all_goals
           have hho : holdM r us b = true := by simpa using hc
           all_goals
            refine G.skip (G.E (G.seq (G.region (G.v (ba rfl) rfl (G.v (bF rfl) rfl (G.v (ba rfl) rfl ?_))))))
            all_goals (((with_reducible refine G.gP rfl rfl (fun hg => ?_) (fun hg => ?_)) <;> (try exact Bool.noConfusion hg) <;> (first | (refine G.gY rfl rfl ?_; (refine G.v (be rfl) rfl ?_)) | refine G.gN rfl rfl rfl ?_)))
            all_goals ((first | (refine G.gY rfl rfl ?_; (refine G.v (bf 0 rfl rfl rfl) rfl ?_)) | refine G.gN rfl rfl rfl ?_))
            all_goals ((first | (refine G.gY rfl rfl ?_; (refine G.v (be rfl) rfl ?_)) | refine G.gN rfl rfl rfl ?_))
            all_goals ((first | (refine G.gY rfl rfl ?_; (refine G.v (bf 1 rfl rfl rfl) rfl ?_)) | refine G.gN rfl rfl rfl ?_))
            all_goals ((first | (refine G.gY rfl rfl ?_; refine G.v (br rfl rfl) rfl ?_) | refine G.gN rfl rfl rfl ?_))
            all_goals ((first | refine G.v (bk rfl rfl) rfl ?_ | refine G.v (bm rfl rfl) rfl ?_))
            all_goals (refine G.v (ba rfl) rfl ?_)
            all_goals (((with_reducible refine G.gP rfl rfl (fun hg => ?_) (fun hg => ?_)) <;> (try exact Bool.noConfusion hg) <;> (first | (refine G.gY rfl rfl ?_; (refine G.v (be rfl) rfl ?_)) | refine G.gN rfl rfl rfl ?_)))
            all_goals ((first | (refine G.gY rfl rfl ?_; (refine G.v (bf 0 rfl rfl rfl) rfl ?_)) | refine G.gN rfl rfl rfl ?_))
            all_goals ((first | (refine G.gY rfl rfl ?_; (refine G.v (be rfl) rfl ?_)) | refine G.gN rfl rfl rfl ?_))
            all_goals ((first | (refine G.gY rfl rfl ?_; (refine G.v (bf 1 rfl rfl rfl) rfl ?_)) | refine G.gN rfl rfl rfl ?_))
            all_goals ((first | (refine G.gY rfl rfl ?_; refine G.v (bQ rfl rfl) rfl ?_) | refine G.gN rfl rfl rfl ?_))
            all_goals ((first | (refine G.gY rfl rfl ?_; refine G.v (ba rfl) rfl ?_) | refine G.gN rfl rfl rfl ?_))
            all_goals ((first | refine G.gU rfl rfl rfl ?_ | ((with_reducible refine G.gP rfl rfl (fun hg => ?_) (fun hg => ?_)) <;> (try exact Bool.noConfusion hg) <;> (first | (refine G.gY rfl rfl ?_; (refine G.v (be rfl) rfl ?_)) | refine G.gN rfl rfl rfl ?_))))
            all_goals ((first | (refine G.gY rfl rfl ?_; (refine G.v (bf 0 rfl rfl rfl) rfl ?_)) | refine G.gN rfl rfl rfl ?_ | refine G.gU rfl rfl rfl ?_))
            all_goals ((first | (refine G.gY rfl rfl ?_; (refine G.v (be rfl) rfl ?_)) | refine G.gN rfl rfl rfl ?_ | refine G.gU rfl rfl rfl ?_))
            all_goals ((first | (refine G.gY rfl rfl ?_; (refine G.v (bf 1 rfl rfl rfl) rfl ?_)) | refine G.gN rfl rfl rfl ?_ | refine G.gU rfl rfl rfl ?_))
            all_goals ((first | (refine G.gY rfl rfl ?_; refine G.v (br rfl rfl) rfl ?_) | refine G.gN rfl rfl rfl ?_ | refine G.gU rfl rfl rfl ?_))
            all_goals ((first | (refine G.gY rfl rfl ?_; (first | refine G.v (bk rfl rfl) rfl ?_ | refine G.v (bm rfl rfl) rfl ?_)) | refine G.gN rfl rfl rfl ?_))
            all_goals ((first | refine G.v (bk rfl rfl) rfl ?_ | refine G.v (bm rfl rfl) rfl ?_))
            all_goals
             refine G.I (G.E ?_); refine G.cond rfl (fun hc => ?_) (fun hc => ?_)
             · try exact Bool.noConfusion hc
               all_goals
                try replace hc := of_decide_eq_true hc
                try simp only [hln] at hc
                all_goals
                 have hbe : betterM a b = true := (by simp only [betterM]; (try simp only [decide_eq_true_eq, decide_eq_false_iff_not] at *); simp_all <;> omega)
                 have hst := cheap_yes hb hM hho hbe
                 all_goals
                  refine G.region (G.v (bj 0 rfl rfl rfl) rfl ?_); refine G.bk (cf rfl rfl rfl rfl rfl rfl (.zero (.cons (.cons (.cons (.cons (.cons (.cons (.cons .nil))))))))) (fun _ _ => ?_); refine G.v (bb rfl) rfl (G.I (G.bc (G.E (G.region ?_)))); refine G.v (bp rfl rfl (by omega)) rfl ?_; refine G.v (ba rfl) rfl (G.I ?_); refine G.bh bk6 rfl ?_; refine G.keep1 1 rfl ?_; refine G.V (k + 1, (b, true)) 0 rfl (.cons rfl (.cons rfl (.cons rfl (.cons rfl (.cons rfl (.cons rfl (.nil))))))) ?_ ?_ ?_
                  exact ⟨rfl, rfl, trivial⟩
                  exact ⟨hlt, hst⟩
                  dsimp only; omega
             · try exact Bool.noConfusion hc
               all_goals
                try replace hc := of_decide_eq_false hc
                try simp only [hln] at hc
                all_goals
                 have hbe : betterM a b = false := (by simp only [betterM]; (try simp only [decide_eq_true_eq, decide_eq_false_iff_not] at *); simp_all <;> omega)
                 have hst : (r.types.take (k + 1)).foldl (cheapStep r us) (typeZ, false) = a := cheap_no hb hM (by rw [hbe, Bool.and_false])
                 all_goals
                  refine G.skip (G.bc (G.E (G.region ?_))); refine G.v (bp rfl rfl (by omega)) rfl ?_; refine G.v (ba rfl) rfl (G.I ?_); refine G.bh bk6 rfl ?_; refine G.keep1 1 rfl ?_; refine G.V (k + 1, a) 0 rfl (.cons rfl (.cons rfl (.cons rfl (.cons rfl (.cons rfl (.cons rfl (.nil))))))) ?_ ?_ ?_
                  exact ⟨rfl, rfl, trivial⟩
                  exact ⟨hlt, hst⟩
                  dsimp only; omega
   · all_goals
      replace hc := of_decide_eq_false hc
      simp only [hln] at hc
      try (exfalso; omega)
      all_goals
       refine G.exit (G.L (G.L (G.bn (G.E (G.seq (G.region (G.v (bj 0 rfl rfl rfl) rfl (G.v (ba rfl) rfl ?_)))))))); refine G.bk (cf rfl rfl rfl rfl rfl rfl (.zero (.cons (.cons (.cons (.cons (.cons (.cons (.cons .nil))))))))) (fun _ _ => ?_); refine G.v (bb rfl) rfl (G.I (G.E (G.ret ?_)))
       have hfin : cheapM r us = a := (by rw [cheapM, ← hM, bZ (by omega)]); rw [hfin]; exact G.bI rfl (.cons (by exact .cell 1 rfl rfl rfl) (.cons (.tmp rfl) .nil)) rfl
theorem scheapest_any : FnV Tryz.prog 75 [.agg (r.cells pv tv iv).toArray, uv] w (.tuple #[(cheapM r us).1.val, .bool (cheapM r us).2]) := by
  have hle := h2.le_map
  have hln : (r.types.map TypeM.cells).length = r.types.length := by simp
  refine FnV.of (n := 54) Tryz.func75 rfl rfl ?_; refine G.seq (G.region ?_); refine G.op (bE rfl rfl) rfl (fun bk2 _ => ?_); refine G.op (bu) rfl (fun bk4 _ => ?_); refine G.v (bb rfl) rfl (G.I (G.E (G.seq (G.region ?_)))); refine G.v (bJ rfl .nil .nil) rfl ?_; refine G.op (bu) rfl (fun bk6 _ => ?_); refine G.bk (bL rfl rfl rfl rfl rfl rfl (.zero (.cons (.cons (.cons (.cons (.cons (.cons (.cons .nil))))))))) (fun _ _ => ?_); refine G.I (G.E (G.seq (G.region (G.v (bb rfl) rfl (G.I (G.E (G.seq (G.seq (G.region (G.v (bb rfl) rfl (G.I ?_))))))))))); refine G.E (G.block ?_); refine G.Y (ι := Nat × (TypeM × Bool)) (ks := [1, 2, 4, 6]) (fun x => [(7, .bool x.2.2), (8, .int .i64 (x.1 : Int))]) (fun x => [.blk bk6 56 x.2.1.cells]) (fun x => x.1 ≤ r.types.length ∧ (r.types.take x.1).foldl (cheapStep r us) (typeZ, false) = x.2) (fun x => r.types.length - x.1) (0, (typeZ, false)) (.cons rfl (.cons rfl (.cons rfl (.cons rfl (.nil))))) rfl ?_ ?_ ?_
  exact ⟨Nat.zero_le _, rfl⟩
  exact ⟨rfl, rfl, trivial⟩
  rintro ⟨k, a⟩ ⟨hk, hM⟩
  dsimp only at hk hM ⊢
  by_cases hlt : k < r.types.length
  case' pos => (obtain ⟨b, hb⟩ := bn hlt; have he := bt hb TypeM.cells)
  all_goals
   refine G.seq (G.seq (G.region (G.v (ba rfl) rfl (G.v (be rfl) rfl (G.v (bf 2 rfl rfl rfl) rfl ?_))))); refine G.v (bz rfl (by exact Rd.stays (by assumption))) rfl ?_; refine G.v (br rfl rfl) rfl (G.I (G.E ?_)); refine G.cond rfl (fun hc => ?_) (fun hc => ?_)
   · all_goals
      replace hc := of_decide_eq_true hc
      simp only [hln] at hc
      try (exfalso; omega)
      all_goals
       refine G.skip (G.E (G.seq (G.block (G.seq (G.region (G.v (be rfl) rfl (G.v (bf 2 rfl rfl rfl) rfl (G.v (ba rfl) rfl ?_)))))))); refine G.v (bg rfl rfl (by exact Rd.stays (by assumption)) rfl (by exact he)) rfl ?_; refine G.v (bN rfl (by exact Rd.stays (by assumption)) (by exact he) rfl) rfl ?_; refine G.op (bu) rfl (fun bk9 _ => ?_); refine G.bk (bL rfl rfl rfl rfl rfl rfl (.zero (.cons (.cons (.cons (.cons (.cons (.cons (.cons .nil))))))))) (fun _ _ => ?_); refine G.I (G.E (G.seq (G.seq (G.region (G.v (bj 3 rfl rfl rfl) rfl (G.v (ba rfl) rfl (G.v (bj 0 rfl rfl rfl) rfl ?_))))))); refine G.op (bh rfl rfl (fun w hh => sholds_any (r := r) (us := us) w (Rd.stays h _ hh) (Rd.stays h2 _ hh) (Rd.stays h3 _ hh) (Rd.stays h4 _ hh) hul b)) rfl (fun _ _ => ?_); refine G.v (bF rfl) rfl (G.I (G.E ?_)); refine G.cond rfl (fun hc => ?_) (fun hc => ?_)
       · all_goals
          all_goals
           have hst : (r.types.take (k + 1)).foldl (cheapStep r us) (typeZ, false) = a := cheap_no hb hM (by simp_all)
           all_goals
            refine G.exit (G.L (G.bn (G.E (G.region (G.v (ba rfl) rfl ?_))))); refine G.v (bp rfl rfl (by omega)) rfl ?_; refine G.v (bb rfl) rfl (G.I ?_); refine G.bh bk6 rfl ?_; refine G.keep1 1 rfl ?_; refine G.V (k + 1, a) 0 rfl (.cons rfl (.cons rfl (.cons rfl (.cons rfl (.nil))))) ?_ ?_ ?_
            exact ⟨rfl, rfl, trivial⟩
            exact ⟨hlt, hst⟩
            dsimp only; omega
       · all_goals
          all_goals
           have hho : holdM r us b = true := by simpa using hc
           all_goals
            refine G.skip (G.E (G.seq (G.region (G.v (ba rfl) rfl (G.v (bF rfl) rfl (G.v (ba rfl) rfl ?_))))))
            all_goals (((with_reducible refine G.gP rfl rfl (fun hg => ?_) (fun hg => ?_)) <;> (try exact Bool.noConfusion hg) <;> (first | (refine G.gY rfl rfl ?_; (refine G.v (be rfl) rfl ?_)) | refine G.gN rfl rfl rfl ?_)))
            all_goals ((first | (refine G.gY rfl rfl ?_; (refine G.v (bf 0 rfl rfl rfl) rfl ?_)) | refine G.gN rfl rfl rfl ?_))
            all_goals ((first | (refine G.gY rfl rfl ?_; (refine G.v (be rfl) rfl ?_)) | refine G.gN rfl rfl rfl ?_))
            all_goals ((first | (refine G.gY rfl rfl ?_; (refine G.v (bf 1 rfl rfl rfl) rfl ?_)) | refine G.gN rfl rfl rfl ?_))
            all_goals ((first | (refine G.gY rfl rfl ?_; refine G.v (br rfl rfl) rfl ?_) | refine G.gN rfl rfl rfl ?_))
            all_goals ((first | refine G.v (bk rfl rfl) rfl ?_ | refine G.v (bm rfl rfl) rfl ?_))
            all_goals (refine G.v (ba rfl) rfl ?_)
            all_goals (((with_reducible refine G.gP rfl rfl (fun hg => ?_) (fun hg => ?_)) <;> (try exact Bool.noConfusion hg) <;> (first | (refine G.gY rfl rfl ?_; (refine G.v (be rfl) rfl ?_)) | refine G.gN rfl rfl rfl ?_)))
            all_goals ((first | (refine G.gY rfl rfl ?_; (refine G.v (bf 0 rfl rfl rfl) rfl ?_)) | refine G.gN rfl rfl rfl ?_))
            all_goals ((first | (refine G.gY rfl rfl ?_; (refine G.v (be rfl) rfl ?_)) | refine G.gN rfl rfl rfl ?_))
            all_goals ((first | (refine G.gY rfl rfl ?_; (refine G.v (bf 1 rfl rfl rfl) rfl ?_)) | refine G.gN rfl rfl rfl ?_))
            all_goals ((first | (refine G.gY rfl rfl ?_; refine G.v (bQ rfl rfl) rfl ?_) | refine G.gN rfl rfl rfl ?_))
            all_goals ((first | (refine G.gY rfl rfl ?_; refine G.v (ba rfl) rfl ?_) | refine G.gN rfl rfl rfl ?_))
            all_goals ((first | refine G.gU rfl rfl rfl ?_ | ((with_reducible refine G.gP rfl rfl (fun hg => ?_) (fun hg => ?_)) <;> (try exact Bool.noConfusion hg) <;> (first | (refine G.gY rfl rfl ?_; (refine G.v (be rfl) rfl ?_)) | refine G.gN rfl rfl rfl ?_))))
            all_goals ((first | (refine G.gY rfl rfl ?_; (refine G.v (bf 0 rfl rfl rfl) rfl ?_)) | refine G.gN rfl rfl rfl ?_ | refine G.gU rfl rfl rfl ?_))
            all_goals ((first | (refine G.gY rfl rfl ?_; (refine G.v (be rfl) rfl ?_)) | refine G.gN rfl rfl rfl ?_ | refine G.gU rfl rfl rfl ?_))
            all_goals ((first | (refine G.gY rfl rfl ?_; (refine G.v (bf 1 rfl rfl rfl) rfl ?_)) | refine G.gN rfl rfl rfl ?_ | refine G.gU rfl rfl rfl ?_))
            all_goals ((first | (refine G.gY rfl rfl ?_; refine G.v (br rfl rfl) rfl ?_) | refine G.gN rfl rfl rfl ?_ | refine G.gU rfl rfl rfl ?_))
            all_goals ((first | (refine G.gY rfl rfl ?_; (first | refine G.v (bk rfl rfl) rfl ?_ | refine G.v (bm rfl rfl) rfl ?_)) | refine G.gN rfl rfl rfl ?_))
            all_goals ((first | refine G.v (bk rfl rfl) rfl ?_ | refine G.v (bm rfl rfl) rfl ?_))
            all_goals
             refine G.I (G.E ?_); refine G.cond rfl (fun hc => ?_) (fun hc => ?_)
             · try exact Bool.noConfusion hc
               all_goals
                try replace hc := of_decide_eq_true hc
                try simp only [hln] at hc
                all_goals
                 have hbe : betterM a b = true := (by simp only [betterM]; (try simp only [decide_eq_true_eq, decide_eq_false_iff_not] at *); simp_all <;> omega)
                 have hst := cheap_yes hb hM hho hbe
                 all_goals
                  refine G.seq (G.region (G.v (bj 0 rfl rfl rfl) rfl ?_)); refine G.bk (cf rfl rfl rfl rfl rfl rfl (.zero (.cons (.cons (.cons (.cons (.cons (.cons (.cons .nil))))))))) (fun _ _ => ?_); refine G.I (G.E (G.region (G.v (bb rfl) rfl (G.I (G.bc (G.E (G.region (G.v (ba rfl) rfl ?_)))))))); refine G.v (bp rfl rfl (by omega)) rfl ?_; refine G.v (bb rfl) rfl (G.I ?_); refine G.bh bk6 rfl ?_; refine G.keep1 1 rfl ?_; refine G.V (k + 1, (b, true)) 0 rfl (.cons rfl (.cons rfl (.cons rfl (.cons rfl (.nil))))) ?_ ?_ ?_
                  exact ⟨rfl, rfl, trivial⟩
                  exact ⟨hlt, hst⟩
                  dsimp only; omega
             · try exact Bool.noConfusion hc
               all_goals
                try replace hc := of_decide_eq_false hc
                try simp only [hln] at hc
                all_goals
                 have hbe : betterM a b = false := (by simp only [betterM]; (try simp only [decide_eq_true_eq, decide_eq_false_iff_not] at *); simp_all <;> omega)
                 have hst : (r.types.take (k + 1)).foldl (cheapStep r us) (typeZ, false) = a := cheap_no hb hM (by rw [hbe, Bool.and_false])
                 all_goals
                  refine G.skip (G.bc (G.E (G.region (G.v (ba rfl) rfl ?_)))); refine G.v (bp rfl rfl (by omega)) rfl ?_; refine G.v (bb rfl) rfl (G.I ?_); refine G.bh bk6 rfl ?_; refine G.keep1 1 rfl ?_; refine G.V (k + 1, a) 0 rfl (.cons rfl (.cons rfl (.cons rfl (.cons rfl (.nil))))) ?_ ?_ ?_
                  exact ⟨rfl, rfl, trivial⟩
                  exact ⟨hlt, hst⟩
                  dsimp only; omega
   · all_goals
      replace hc := of_decide_eq_false hc
      simp only [hln] at hc
      try (exfalso; omega)
      all_goals
       refine G.exit (G.L (G.L (G.bn (G.E (G.seq (G.region (G.v (bj 0 rfl rfl rfl) rfl (G.v (ba rfl) rfl ?_)))))))); refine G.bk (cf rfl rfl rfl rfl rfl rfl (.zero (.cons (.cons (.cons (.cons (.cons (.cons (.cons .nil))))))))) (fun _ _ => ?_); refine G.v (bb rfl) rfl (G.I (G.E (G.ret ?_)))
       have hfin : cheapM r us = a := (by rw [cheapM, ← hM, bZ (by omega)]); rw [hfin]; exact G.bI rfl (.cons (by exact .cell 1 rfl rfl rfl) (.cons (.tmp rfl) .nil)) rfl
end
theorem G.partG {n : Nat} {w0 : World} {fr : Fr} {H F : List Ch} {t : TypeId} {s : Nat} {v : Value} {es : List (List Value)} {rs0 rs : List (Value × List (List Value))} {K : Act → World → Prop} (e : rs0 = (v, es) :: rs) (hH : H = .grp t s rs0 :: F) (h : G n w0 fr (.row v t s es :: .grp t s rs :: F) K) : G n w0 fr H K :=
  G.heap (fun w hh => by subst e hH; exact hh.part) h
theorem G.keep3 {n : Nat} {w0 : World} {fr : Fr} {H : List Ch} (m : Nat) {c1 c2 c3 : Ch} {J : List Ch} {K : Act → World → Prop} (hH : H = c1 :: c2 :: c3 :: J) (h : G n w0 fr (c1 :: c2 :: c3 :: J.drop m) K) : G n w0 fr H K := G.heap (fun w hh => by subst hH; exact hh.sublist (List.Sublist.cons_cons _ (List.Sublist.cons_cons _ (List.Sublist.cons_cons _ (List.drop_sublist m J))))) h
theorem three_eq {a a' b b' c c' : Ch} {F : List Ch} (h1 : a = a') (h2 : b = b') (h3 : c = c') : a :: b :: c :: F = [a', b', c'] ++ F := by subst h1 h2 h3; rfl
def unitsI (r : ReqM) (k : Nat) : List Int := (unitsOfM r (k : Int)).map fun n : Nat => (n : Int)
theorem cM (r : ReqM) (k : Nat) : (unitsI r k).length ≤ 48 := by rw [unitsI, List.length_map]; exact unitsOf_len r _
def cartonM (r : ReqM) (k : Nat) (l : List Int) : CartonM := ⟨(cheapM r l).1.id, (k : Int), sortM l⟩
/-- The cartons of a group. -/
def cartonsAt (r : ReqM) (k : Nat) : List CartonM := (wayM r (unitsI r k)).map (cartonM r k)
/-- The cartons of an order. -/
def cartonsM (r : ReqM) : List CartonM := (List.range (groupsOfM r).length).flatMap (cartonsAt r)
theorem cartons_next (r : ReqM) (k : Nat) : (List.range (k + 1)).flatMap (cartonsAt r) = (List.range k).flatMap (cartonsAt r) ++ cartonsAt r k := by
  rw [List.range_succ, List.flatMap_append]; simp
theorem wayM_len (r : ReqM) (us : List Int) : (wayM r us).length ≤ us.length := by
  have h1 := cL r us
  rw [wayM]; split
  · have := lastAll_len (roomM r) (thereM r us); rw [nextM]; omega
  · have := cQ (roomM r) (ordU r (thereM r us)); rw [ordU_len] at this; rw [firstM]; omega
theorem wayM_elt {r : ReqM} {us : List Int} {k : Nat} {l : List Int} (h : (wayM r us)[k]? = some l) : l.length ≤ us.length := by
  have h1 := len_le_sum (List.mem_of_getElem? h)
  have h2 : ((wayM r us).map List.length).sum ≤ us.length := by
    rw [wayM]; split
    · rw [nextM, lastAll_sum]; exact cL r us
    · rw [firstM, putAll_sum, ordU_len]; exact cL r us
  omega
theorem groups_len4 (r : ReqM) : (groupsOfM r).length ≤ 4 := by
  have := cQ (fun g x => joinsM r.pairs g x) (presI r)
  have h4 := presI_len r
  simp only [groupsOfM, groupsM]; omega
theorem cart_next {r : ReqM} {k i : Nat} {cs : List (CartonM × Value)} {ts : List (List Int × Value)} {b : List Int × Value} {v : Value} (hc : cs.map Prod.fst = (List.range k).flatMap (cartonsAt r) ++ ((ts.map Prod.fst).take i).map (cartonM r k)) (hb : ts[i]? = some b) : (cs ++ [(cartonM r k b.1, v)]).map Prod.fst = (List.range k).flatMap (cartonsAt r) ++ ((ts.map Prod.fst).take (i + 1)).map (cartonM r k) := by
  have e : (ts.map Prod.fst)[i]? = some b.1 := by rw [List.getElem?_map, hb]; rfl
  rw [List.map_append, hc, List.take_add_one, e, List.map_append, List.append_assoc]; rfl
theorem drop_part {ts : List (List Int × Value)} {i : Nat} {b : List Int × Value} (hb : ts[i]? = some b) : (ts.drop i).map (sub id) = (b.2, b.1.map icell) :: (ts.drop (i + 1)).map (sub id) := by
  obtain ⟨h1, rfl⟩ := List.getElem?_eq_some_iff.1 hb
  rw [List.drop_eq_getElem_cons h1]; rfl
theorem cart_cells {cs : List (CartonM × Value)} {r : ReqM} {k : Nat} {l : List Int} {v : Value} : cs.map CartonM.cells ++ [[Value.int .i64 (cheapM r l).1.id, Value.int .i64 (k : Int), v]] = (cs ++ [(cartonM r k l, v)]).map CartonM.cells := by rw [List.map_append]; rfl
theorem cart_sub {cs : List (CartonM × Value)} {r : ReqM} {k : Nat} {l : List Int} {v : Value} : cs.map (sub CartonM.l) ++ [(v, (sortM l).map icell)] = (cs ++ [(cartonM r k l, v)]).map (sub CartonM.l) := by rw [List.map_append]; rfl
section
variable {r : ReqM} {pv tv iv : Value} (w : World) (h : Rd w pv 2 (r.pairs.map PairM.cells)) (h2 : Rd w tv 7 (r.types.map TypeM.cells)) (h3 : Rd w iv 7 (r.items.map ItemM.cells))
include h h2 h3
theorem cartonsOf_any : Fn Tryz.prog 20 [.agg (r.cells pv tv iv).toArray] w (fun x : Value × List (CartonM × Value) => x.1.oneCell' = true ∧ x.2.map Prod.fst = cartonsM r) (fun x => x.1) (fun x => [.grp 3 1 (x.2.map (sub CartonM.l)), .row x.1 54 3 (x.2.map CartonM.cells)]) := by
  have hg4 := groups_len4 r
  refine Fn.of (n := 45) Tryz.func20 rfl rfl ?_; refine G.seq (G.region ?_); refine G.op (bE rfl rfl) rfl (fun bk1 _ => ?_); refine G.v (bb rfl) rfl (G.I (G.E (G.seq (G.region ?_)))); refine G.op (bq rfl .nil (by rfl) rfl rfl rfl rfl rfl) rfl (fun vl _ => ?_); refine G.v (bb rfl) rfl (G.I (G.E (G.seq (G.seq (G.region (G.v (bj 1 rfl rfl rfl) rfl ?_)))))); refine G.op (bX rfl rfl (fun w hh => groupsOf_any (r := r) w (Rd.stays h _ hh) (Rd.stays h2 _ hh) (Rd.stays h3 _ hh))) rfl ?_; rintro ⟨vg, gs⟩ ⟨hvg, hgs⟩; try dsimp only
  have hgl : (gs.map gcell).length = (groupsOfM r).length := by rw [← hgs]; simp
  refine G.v (bz rfl (by exact Rd.ba 1 rfl)) rfl ?_; refine G.v (ba rfl) rfl (G.I (G.E (G.block ?_))); refine G.be vl rfl ?_; refine G.heap (fun w hh => hh.nilGrp 3 1) ?_; refine G.Y (ι := Nat × List (CartonM × Value) × Value) (ks := [1, 12]) (fun x => [(3, x.2.2), (13, .int .i64 (x.1 : Int))]) (fun x => [.grp 3 1 (x.2.1.map (sub CartonM.l)), .row x.2.2 54 3 (x.2.1.map CartonM.cells)]) (fun x => x.1 ≤ (groupsOfM r).length ∧ x.2.1.map Prod.fst = (List.range x.1).flatMap (cartonsAt r) ∧ x.2.1.length ≤ 48 * x.1) (fun x => (groupsOfM r).length - x.1) (0, [], vl) (.cons rfl (.cons rfl (.nil))) rfl ?_ ?_ ?_
  exact ⟨Nat.zero_le _, rfl, Nat.zero_le _⟩
  exact ⟨rfl, rfl, trivial⟩
  rintro ⟨k, cs, v2⟩ ⟨hk, hM, hcl⟩
  dsimp only at hk hM hcl ⊢
  refine G.seq (G.region (G.v (br rfl rfl) rfl (G.I (G.E (G.seq ?_))))); refine G.bd rfl (fun hc => ?_) (fun hc => ?_)
  · simp only [hgl] at hc
    refine G.skip (G.E (G.seq (G.block (G.seq (G.region (G.v (ba rfl) rfl (G.v (bb rfl) rfl (G.I (G.E (G.seq ?_)))))))))); refine G.ba [] ?_; refine GE.q 0 rfl (by as_aux_lemma => kernel_rfl) rfl (bc (bj 4 rfl rfl rfl)) rfl ?_; refine GE.q 1 rfl (by as_aux_lemma => kernel_rfl) rfl (bc (bj 4 rfl rfl rfl)) rfl ?_; refine GE.q 2 rfl (by as_aux_lemma => kernel_rfl) rfl (bc (ba rfl)) rfl ?_; refine GE.q 6 rfl (by as_aux_lemma => kernel_rfl) rfl (bc (ba rfl)) rfl ?_; refine GE.V 3 (by as_aux_lemma => kernel_rfl) rfl rfl (bH rfl rfl (fun w hh => by have q := unitsOf_any (r := r) (pv := pv) (tv := tv) (iv := iv) w (Rd.stays h _ hh) (Rd.stays h2 _ hh) (Rd.stays h3 _ hh) (k : Int); rw [ncell_eq] at q; exact q)) rfl (fun _ _ h => by exact h.drop 1) ?_; rintro vu hvu; try dsimp only
    refine GE.V 4 (by as_aux_lemma => kernel_rfl) rfl rfl (bX rfl rfl (fun w hh => packWay_any (r := r) (us := unitsI r k) w (Rd.stays h _ hh) (Rd.stays h2 _ hh) (Rd.stays h3 _ hh) (by exact Rd.ba 0 rfl _ hh) (by have := cM r k; omega))) rfl (fun _ _ h => by exact h.drop 3) ?_; rintro ⟨vt, ts⟩ ⟨hvt, hts⟩; try dsimp only
    refine GE.V 5 (by as_aux_lemma => kernel_rfl) rfl rfl (bd (bz rfl (by exact Rd.ba 1 rfl))) rfl (fun _ _ h => by exact h.drop 3) (fun _ _ => ?_); refine GE.E (by as_aux_lemma => kernel_rfl) ?_; refine G.E (G.block ?_)
    have htl : ts.length ≤ 48 := (by have e : ts.length = (wayM r (unitsI r k)).length := (by rw [← hts, List.length_map]); have := wayM_len r (unitsI r k); have := cM r k; omega)
    have htl2 : (ts.map gcell).length = ts.length := List.length_map _
    refine G.frontG0 (ts.map (sub id)) rfl ?_; refine G.bp v2 rfl ?_; refine G.frontG4 (cs.map (sub CartonM.l)) rfl ?_; refine G.Y (ι := Nat × List (CartonM × Value) × Value) (ks := [1, 4, 12, 13, 20, 21]) (fun x => [(3, x.2.2), (22, .int .i64 (x.1 : Int))]) (fun x => [.grp 3 1 (x.2.1.map (sub CartonM.l)), .row x.2.2 54 3 (x.2.1.map CartonM.cells), .grp 3 1 ((ts.drop x.1).map (sub id))]) (fun x => x.1 ≤ ts.length ∧ x.2.1.map Prod.fst = (List.range k).flatMap (cartonsAt r) ++ ((ts.map Prod.fst).take x.1).map (cartonM r k) ∧ x.2.1.length ≤ 48 * k + x.1) (fun x => ts.length - x.1) (0, cs, v2) (.cons rfl (.cons rfl (.cons rfl (.cons rfl (.cons rfl (.cons rfl (.nil))))))) rfl ?_ ?_ ?_
    exact ⟨Nat.zero_le _, by rw [hM]; simp, by omega⟩
    exact ⟨rfl, rfl, trivial⟩
    rintro ⟨i, cs2, v3⟩ ⟨hi, hM2, hcl2⟩
    dsimp only at hi hM2 hcl2 ⊢
    have hl0 : (cs2.map CartonM.cells).length = cs2.length := (by simp)
    by_cases hlt : i < ts.length
    case' pos => (obtain ⟨b, hb⟩ := bn hlt; have heb := bt hb gcell; have hbl : b.1.length ≤ 48 := (by have e : (wayM r (unitsI r k))[i]? = some b.1 := (by rw [← hts, List.getElem?_map, hb]; rfl); have := wayM_elt e; have := cM r k; omega); (refine G.br ((ts.drop i).map (sub id)) rfl ?_); refine G.partG (drop_part hb) rfl ?_)
    all_goals
     refine G.seq (G.region (G.v (br rfl rfl) rfl (G.I (G.E (G.seq ?_))))); refine G.cond rfl (fun hc => ?_) (fun hc => ?_)
     · all_goals
        replace hc := of_decide_eq_true hc
        try (exfalso; omega)
        all_goals
         refine G.skip (G.E (G.seq (G.block (G.seq (G.region ?_))))); refine G.v (bg rfl rfl (by exact Rd.ba 4 rfl) rfl (by exact heb)) rfl ?_; refine G.v (bi rfl (by exact Rd.ba 4 rfl) (by exact heb) rfl) rfl ?_; refine G.v (bb rfl) rfl (G.I (G.E (G.seq (G.region (G.v (bj 8 rfl rfl rfl) rfl (G.v (ba rfl) rfl ?_)))))); refine G.op (bh rfl rfl (fun w hh => cheapest_any (r := r) (us := b.1) w (Rd.stays h _ hh) (Rd.stays h2 _ hh) (Rd.stays h3 _ hh) (by exact Rd.ba 0 rfl _ hh) (by omega))) rfl (fun _ _ => ?_); refine G.v (ba rfl) rfl (G.v (bC rfl rfl) rfl (G.v (bC rfl rfl) rfl ?_)); refine G.op (bu) rfl (fun bk7 _ => ?_); refine G.bk (bL rfl rfl rfl rfl rfl rfl (.zero (.cons (.cons (.cons (.cons (.cons (.cons (.cons .nil))))))))) (fun _ _ => ?_); refine G.v (bb rfl) rfl (G.I (G.E (G.seq (G.region (G.v (ba rfl) rfl ?_)))))
         (refine G.bm (b.2) rfl ?_); refine G.op (bO rfl rfl rfl (sortG_any (ks := b.1) (by omega))) rfl ?_; rintro ⟨⟩ _; try dsimp only
         refine G.know (fun w hw => (Rd.ba 0 rfl w hw).one_) (fun hob => ?_); refine G.I (G.E (G.region (G.v (ba rfl) rfl (G.v (be rfl) rfl (G.v (bf 1 rfl rfl rfl) rfl (G.v (ba rfl) rfl (G.v (ba rfl) rfl ?_))))))); refine G.v (bJ rfl (.cons rfl (.cons rfl (.cons (bK (by assumption)) .nil))) (.cons rfl rfl (.zero (.cons .nil)) (.cons rfl rfl (.succ (.zero (.cons .nil))) (.cons rfl rfl (.succ (.succ (.zero (.cons .nil)))) .nil)))) rfl ?_; refine G.op (bq rfl (.cons rfl .nil) (by (simp only [List.all_cons, List.all_nil, Bool.and_true, Bool.and_eq_true]; refine ⟨rfl, ?_⟩; (repeat (first | assumption | refine ⟨rfl, ?_⟩)))) rfl rfl rfl rfl rfl) rfl (fun vx _ => ?_); refine G.op (og_app5 rfl rfl rfl (by exact Rd.ba 0 rfl) rfl rfl (by (simp; omega)) (by (simp; omega))) rfl (fun va _ => ?_); refine G.frontG4 (cs2.map (sub CartonM.l)) rfl ?_; refine G.be b.2 rfl ?_; refine G.bF _ (cart_sub (r := r) (k := k) (l := b.1)) rfl ?_; refine G.v (bb rfl) rfl (G.I (G.bc (G.E (G.region ?_)))); refine G.v (bp rfl rfl (by omega)) rfl ?_; refine G.v (ba rfl) rfl (G.I ?_); refine G.bE ((ts.drop (i + 1)).map (sub id)) rfl ?_; refine G.bp va rfl ?_; refine G.br ((cs2 ++ [(cartonM r k b.1, b.2)]).map (sub CartonM.l)) rfl ?_
         refine G.keep3 2 rfl ?_; refine G.V (i + 1, cs2 ++ [(cartonM r k b.1, b.2)], va) 0 (three_eq rfl (congrArg (fun z => Ch.row va 54 3 z) cart_cells) rfl) (.cons rfl (.cons rfl (.cons rfl (.cons rfl (.cons rfl (.cons rfl (.nil))))))) ?_ ?_ ?_
         exact ⟨rfl, rfl, trivial⟩
         exact ⟨hlt, cart_next hM2 hb, by rw [List.length_append, List.length_singleton]; omega⟩
         dsimp only; omega
     · all_goals
        replace hc := of_decide_eq_false hc
        try (exfalso; omega)
        all_goals
         refine G.exit (G.L (G.L (G.bn (G.bc (G.E (G.region ?_)))))); refine G.v (bp rfl rfl (by omega)) rfl ?_; refine G.v (ba rfl) rfl (G.I ?_); refine G.bm v3 rfl ?_; refine G.bA (cs2.map (sub CartonM.l)) rfl ?_; refine G.bt 3 rfl ?_; refine G.V (k + 1, cs2, v3) 0 rfl (.cons rfl (.cons rfl (.nil))) ?_ ?_ ?_
         exact ⟨rfl, rfl, trivial⟩
         exact ⟨by (dsimp only; omega), by rw [cartons_next, hM2, bZ (by rw [List.length_map]; omega), hts]; rfl, by (dsimp only; omega)⟩
         dsimp only; omega
  simp only [hgl] at hc
  refine G.exit (G.L (G.L (G.bn (G.E (G.seq (G.region (G.v (ba rfl) rfl (G.v (bb rfl) rfl (G.I (G.E (G.ret ?_))))))))))); refine G.know (fun w hw => (Rd.ba 1 rfl w hw).one_) (fun hone => G.bg (v2, cs) ⟨hone, by rw [hM, cartonsM, show k = (groupsOfM r).length by omega]⟩ rfl rfl rfl (fun w hw => hw.sublist (by repeat (first | exact List.Sublist.refl _ | refine List.Sublist.cons_cons _ ?_ | refine List.Sublist.cons _ ?_))))
end
theorem srt_take {ks : List Int} {j x : Nat} (hx : (ordM (keyU ks) ks.length)[j]? = some x) : (((ordM (keyU ks) ks.length).take j).map (keyU ks)).map icell ++ [[Value.int .i64 (keyU ks x)]] = (((ordM (keyU ks) ks.length).take (j + 1)).map (keyU ks)).map icell := by
  simp [List.take_add_one, hx, icell]
section
variable {r : ReqM} {pv tv iv : Value} (w : World) (h : Rd w pv 2 (r.pairs.map PairM.cells)) (h2 : Rd w tv 7 (r.types.map TypeM.cells)) (h3 : Rd w iv 7 (r.items.map ItemM.cells))
include h h2 h3
theorem scartonsOf_any : Fn Tryz.prog 21 [.agg (r.cells pv tv iv).toArray] w (fun x : Value × List (CartonM × Value) => x.1.oneCell' = true ∧ x.2.map Prod.fst = cartonsM r) (fun x => x.1) (fun x => [.grp 3 1 (x.2.map (sub CartonM.l)), .row x.1 54 3 (x.2.map CartonM.cells)]) := by
  have hg4 := groups_len4 r
  refine Fn.of (n := 76) Tryz.func21 rfl rfl ?_; refine G.seq (G.region ?_); refine G.op (bE rfl rfl) rfl (fun bk1 _ => ?_); refine G.v (bb rfl) rfl (G.I (G.E (G.seq (G.region ?_)))); refine G.op (bq rfl .nil (by rfl) rfl rfl rfl rfl rfl) rfl (fun vl _ => ?_); refine G.v (bb rfl) rfl (G.I (G.E (G.seq (G.region (G.v (bj 1 rfl rfl rfl) rfl ?_))))); refine G.op (bX rfl rfl (fun w hh => sgroupsOf_any (r := r) w (Rd.stays h _ hh) (Rd.stays h2 _ hh) (Rd.stays h3 _ hh))) rfl ?_; rintro ⟨vg, gs⟩ ⟨hvg, hgs⟩; try dsimp only
  have hgl : (gs.map gcell).length = (groupsOfM r).length := by rw [← hgs]; simp
  refine G.v (bb rfl) rfl (G.I (G.E (G.seq (G.seq (G.region (G.v (bb rfl) rfl (G.I (G.E (G.block ?_))))))))); refine G.be vl rfl ?_; refine G.heap (fun w hh => hh.nilGrp 3 1) ?_; refine G.Y (ι := Nat × List (CartonM × Value) × Value) (ks := [1, 4]) (fun x => [(3, x.2.2), (5, .int .i64 (x.1 : Int))]) (fun x => [.grp 3 1 (x.2.1.map (sub CartonM.l)), .row x.2.2 54 3 (x.2.1.map CartonM.cells)]) (fun x => x.1 ≤ (groupsOfM r).length ∧ x.2.1.map Prod.fst = (List.range x.1).flatMap (cartonsAt r) ∧ x.2.1.length ≤ 48 * x.1) (fun x => (groupsOfM r).length - x.1) (0, [], vl) (.cons rfl (.cons rfl (.nil))) rfl ?_ ?_ ?_
  exact ⟨Nat.zero_le _, rfl, Nat.zero_le _⟩
  exact ⟨rfl, rfl, trivial⟩
  rintro ⟨k, cs, v2⟩ ⟨hk, hM, hcl⟩
  dsimp only at hk hM hcl ⊢
  refine G.seq (G.seq (G.region (G.v (ba rfl) rfl (G.v (ba rfl) rfl ?_)))); refine G.v (bz rfl (by exact Rd.ba 3 rfl)) rfl ?_; refine G.v (br rfl rfl) rfl (G.I (G.E ?_)); refine G.bd rfl (fun hc => ?_) (fun hc => ?_)
  · simp only [hgl] at hc
    refine G.skip (G.E (G.seq (G.block (G.seq ?_)))); refine G.ba [5] ?_; refine GE.q 0 rfl (by as_aux_lemma => kernel_rfl) rfl (bc (bj 4 rfl rfl rfl)) rfl ?_; refine GE.q 1 rfl (by as_aux_lemma => kernel_rfl) rfl (bc (bj 4 rfl rfl rfl)) rfl ?_; refine GE.V 2 (by as_aux_lemma => kernel_rfl) rfl rfl (bd (ba rfl)) rfl (fun _ _ h => by exact h) (fun _ _ => ?_); refine GE.V 3 (by as_aux_lemma => kernel_rfl) rfl rfl (bH rfl rfl (fun w hh => by have q := sunitsOf_any (r := r) (pv := pv) (tv := tv) (iv := iv) w (Rd.stays h _ hh) (Rd.stays h2 _ hh) (Rd.stays h3 _ hh) (k : Int); rw [ncell_eq] at q; exact q)) rfl (fun _ _ h => by exact h.drop 1) ?_; rintro vu hvu; try dsimp only
    refine GE.V 4 (by as_aux_lemma => kernel_rfl) rfl rfl (bX rfl rfl (fun w hh => spackWay_any (r := r) (us := unitsI r k) w (Rd.stays h _ hh) (Rd.stays h2 _ hh) (Rd.stays h3 _ hh) (by exact Rd.ba 0 rfl _ hh) (by have := cM r k; omega))) rfl (fun _ _ h => by exact h.drop 3) ?_; rintro ⟨vt, ts⟩ ⟨hvt, hts⟩; try dsimp only
    refine GE.t 5 (by as_aux_lemma => kernel_rfl) rfl rfl rfl (bd (bb rfl)) rfl (fun _ _ => ?_); refine GE.E (by as_aux_lemma => kernel_rfl) ?_; refine G.E (G.seq (G.region (G.v (bb rfl) rfl (G.I (G.E (G.block ?_))))))
    have htl : ts.length ≤ 48 := (by have e : ts.length = (wayM r (unitsI r k)).length := (by rw [← hts, List.length_map]); have := wayM_len r (unitsI r k); have := cM r k; omega)
    have htl2 : (ts.map gcell).length = ts.length := List.length_map _
    refine G.bp v2 rfl ?_; refine G.frontG4 (cs.map (sub CartonM.l)) rfl ?_; refine G.Y (ι := Nat × List (CartonM × Value) × Value) (ks := [1, 4, 5, 6]) (fun x => [(3, x.2.2), (7, .int .i64 (x.1 : Int))]) (fun x => [.grp 3 1 (x.2.1.map (sub CartonM.l)), .row x.2.2 54 3 (x.2.1.map CartonM.cells)]) (fun x => x.1 ≤ ts.length ∧ x.2.1.map Prod.fst = (List.range k).flatMap (cartonsAt r) ++ ((ts.map Prod.fst).take x.1).map (cartonM r k) ∧ x.2.1.length ≤ 48 * k + x.1) (fun x => ts.length - x.1) (0, cs, v2) (.cons rfl (.cons rfl (.cons rfl (.cons rfl (.nil))))) rfl ?_ ?_ ?_
    exact ⟨Nat.zero_le _, by rw [hM]; simp, by omega⟩
    exact ⟨rfl, rfl, trivial⟩
    rintro ⟨i, cs2, v3⟩ ⟨hi, hM2, hcl2⟩
    dsimp only at hi hM2 hcl2 ⊢
    have hl0 : (cs2.map CartonM.cells).length = cs2.length := (by simp)
    by_cases hlt : i < ts.length
    case' pos => (obtain ⟨b, hb⟩ := bn hlt; have heb := bt hb gcell; have hgi : (ts.map (sub id))[i]? = some (b.2, b.1.map icell) := cn hb; have hbl : b.1.length ≤ 48 := (by have e : (wayM r (unitsI r k))[i]? = some b.1 := (by rw [← hts, List.getElem?_map, hb]; rfl); have := wayM_elt e; have := cM r k; omega); have hol := cP (keyU b.1) b.1.length; have hol2 : ((ordM (keyU b.1) b.1.length).map ncell).length = b.1.length := (by rw [List.length_map, hol]))
    all_goals
     refine G.seq (G.seq (G.region (G.v (ba rfl) rfl (G.v (ba rfl) rfl ?_)))); refine G.v (bz rfl (by exact Rd.ba 3 rfl)) rfl ?_; refine G.v (br rfl rfl) rfl (G.I (G.E ?_)); refine G.cond rfl (fun hc => ?_) (fun hc => ?_)
     · all_goals
        replace hc := of_decide_eq_true hc
        try (exfalso; omega)
        all_goals
         refine G.skip (G.E (G.seq (G.block (G.seq ?_)))); refine G.ba [11] ?_; refine GE.q 0 rfl (by as_aux_lemma => kernel_rfl) rfl (bc (bj 7 rfl rfl rfl)) rfl ?_; refine GE.q 1 rfl (by as_aux_lemma => kernel_rfl) rfl (bc (ba rfl)) rfl ?_; refine GE.q 2 rfl (by as_aux_lemma => kernel_rfl) rfl (bc (ba rfl)) rfl ?_; refine GE.q 3 rfl (by as_aux_lemma => kernel_rfl) rfl (bc (bg rfl rfl (by exact Rd.ba 3 rfl) rfl (by exact heb))) rfl ?_; refine GE.q 4 rfl (by as_aux_lemma => kernel_rfl) rfl (bc (bi rfl (by exact Rd.ba 3 rfl) (by exact heb) rfl)) rfl ?_; refine GE.q 5 rfl (by as_aux_lemma => kernel_rfl) rfl (cY rfl rfl (fun w hh => scheapest_any (r := r) (us := b.1) w (Rd.stays h _ hh) (Rd.stays h2 _ hh) (Rd.stays h3 _ hh) (Subs.at (by exact Subs.owned 2 rfl _ hh) hb) (by omega))) rfl ?_; refine GE.q 6 rfl (by as_aux_lemma => kernel_rfl) rfl (bc (ba rfl)) rfl ?_; refine GE.q 7 rfl (by as_aux_lemma => kernel_rfl) rfl (bc (bC rfl rfl)) rfl ?_; refine GE.q 8 rfl (by as_aux_lemma => kernel_rfl) rfl (bc (bC rfl rfl)) rfl ?_; refine GE.V 9 (by as_aux_lemma => kernel_rfl) rfl rfl (bu) rfl (fun _ _ h => by exact h.drop 1) (fun bk8 _ => ?_)
         refine GE.ol0 10 (by as_aux_lemma => kernel_rfl) rfl rfl (bL rfl rfl rfl rfl rfl rfl (.zero (.cons (.cons (.cons (.cons (.cons (.cons (.cons .nil))))))))) (fun _ _ h => by exact h.drop 1) (fun _ _ => ?_); refine GE.t 11 (by as_aux_lemma => kernel_rfl) rfl rfl rfl (bd (bb rfl)) rfl (fun _ _ => ?_); refine GE.E (by as_aux_lemma => kernel_rfl) ?_; refine G.E (G.seq (G.region (G.v (ba rfl) rfl (G.v (ba rfl) rfl ?_)))); refine G.v (bg rfl rfl (by exact Rd.ba 4 rfl) rfl (by exact heb)) rfl ?_; refine G.v (bi rfl (by exact Rd.ba 4 rfl) (by exact heb) rfl) rfl ?_; refine G.op (bH rfl rfl (fun w hh => ssortUp_any (ks := b.1) w (Subs.at (by exact Subs.owned 3 rfl _ hh) hb) (by omega))) rfl ?_; rintro vs hvs; try dsimp only
         refine G.v (bb rfl) rfl (G.I (G.E (G.seq (G.region ?_)))); refine G.op (bq rfl .nil rfl rfl rfl rfl rfl rfl) rfl (fun vz _ => ?_); refine G.v (bb rfl) rfl (G.I (G.E (G.seq (G.seq (G.region (G.v (bb rfl) rfl (G.I (G.E (G.block ?_))))))))); refine G.bb vz rfl ?_; refine G.Y (ι := Nat × Value) (ks := [1, 3, 4, 5, 6, 7, 8, 10]) (fun x => [(11, x.2), (12, .int .i64 (x.1 : Int))]) (fun x => [.row x.2 3 1 ((((ordM (keyU b.1) b.1.length).take x.1).map (keyU b.1)).map icell)]) (fun x => x.1 ≤ b.1.length) (fun x => b.1.length - x.1) (0, vz) (.cons rfl (.cons rfl (.cons rfl (.cons rfl (.cons rfl (.cons rfl (.cons rfl (.cons rfl (.nil))))))))) rfl ?_ ?_ ?_
         exact Nat.zero_le _
         exact ⟨rfl, rfl, trivial⟩
         rintro ⟨j, v11⟩ hj
         dsimp only at hj ⊢
         have hl11 : ((((ordM (keyU b.1) b.1.length).take j).map (keyU b.1)).map icell).length = j := (by rw [List.length_map, List.length_map, List.length_take, hol]; omega)
         by_cases hlt2 : j < b.1.length
         case' pos => (obtain ⟨x, hx⟩ := bn (l := ordM (keyU b.1) b.1.length) (k := j) (by omega); have hex := bt hx ncell; have hxl : x < b.1.length := dJ.1 (List.mem_of_getElem? hx); obtain ⟨y, hy⟩ := bn hxl; have hyk : keyU b.1 x = y := (by rw [keyU, hy]; rfl); have hey := bt hy icell)
         case' neg => (refine G.bo ((sortM b.1).map icell) (by rw [List.take_of_length_le (by omega)]; rfl) rfl ?_; refine G.know (fun w hw => (Rd.ba 0 rfl w hw).one_) (fun hov11 => ?_))
         all_goals
          refine G.seq (G.seq (G.region (G.v (ba rfl) rfl (G.v (ba rfl) rfl ?_)))); refine G.v (bz rfl (by exact Rd.ba 1 rfl)) rfl ?_; refine G.v (br rfl rfl) rfl (G.I (G.E ?_)); refine G.cond rfl (fun hc => ?_) (fun hc => ?_)
          · all_goals
             replace hc := of_decide_eq_true hc
             try (exfalso; omega)
             all_goals
              refine G.skip (G.E (G.seq (G.block ?_))); refine G.bb v11 rfl ?_; refine G.bG [13] rfl ?_; refine GE.Y 0 rfl (by as_aux_lemma => kernel_rfl) rfl (bc (ba rfl)) (fun _ h => by exact h.drop 1) rfl ?_; refine GE.Y 1 rfl (by as_aux_lemma => kernel_rfl) rfl (bc (ba rfl)) (fun _ h => by exact h.drop 1) rfl ?_; refine GE.Y 2 rfl (by as_aux_lemma => kernel_rfl) rfl (bc (ba rfl)) (fun _ h => by exact h.drop 1) rfl ?_; refine GE.Y 3 rfl (by as_aux_lemma => kernel_rfl) rfl (bc (bg rfl rfl (by exact Rd.ba 5 rfl) rfl (by exact heb))) (fun _ h => by exact h.drop 1) rfl ?_; refine GE.Y 4 rfl (by as_aux_lemma => kernel_rfl) rfl (bc (bi rfl (by exact Rd.ba 5 rfl) (by exact heb) rfl)) (fun _ h => by exact h.drop 1) rfl ?_; refine GE.Y 5 rfl (by as_aux_lemma => kernel_rfl) rfl (bc (ba rfl)) (fun _ h => by exact h.drop 1) rfl ?_; refine GE.V 6 (by as_aux_lemma => kernel_rfl) rfl rfl (bd (ba rfl)) rfl (fun _ _ h => by exact h.drop 1) (fun _ _ => ?_); refine GE.V 7 (by as_aux_lemma => kernel_rfl) rfl rfl (bd (bg rfl rfl (by exact Rd.ba 1 rfl) rfl (by exact hex))) rfl (fun _ _ h => by exact h.drop 1) (fun _ _ => ?_); refine GE.V 8 (by as_aux_lemma => kernel_rfl) rfl rfl (bd (bi rfl (by exact Rd.ba 1 rfl) (by exact hex) rfl)) rfl (fun _ _ h => by exact h.drop 1) (fun _ _ => ?_)
              refine GE.V 9 (by as_aux_lemma => kernel_rfl) rfl rfl (bd (bg rfl rfl (by exact Rd.grp 5 rfl (List.mem_of_getElem? hgi)) rfl (by exact hey))) rfl (fun _ _ h => by exact h.drop 1) (fun _ _ => ?_); refine GE.V 10 (by as_aux_lemma => kernel_rfl) rfl rfl (bd (bi rfl (by exact Rd.grp 5 rfl (List.mem_of_getElem? hgi)) (by exact hey) rfl)) rfl (fun _ _ h => by exact h.drop 1) (fun _ _ => ?_); refine GE.V 11 (by as_aux_lemma => kernel_rfl) rfl rfl (bq rfl (.cons rfl .nil) rfl rfl rfl rfl rfl rfl) rfl (fun _ _ h => by exact h.drop 2) (fun vy _ => ?_); refine GE.V 12 (by as_aux_lemma => kernel_rfl) rfl rfl (bU rfl rfl rfl (by exact Rd.ba 0 rfl) rfl rfl (by (simp; omega)) (by (simp; omega))) rfl (fun _ _ h => by exact h.drop 2) (fun vb _ => ?_); refine GE.t 13 (by as_aux_lemma => kernel_rfl) rfl rfl rfl (bd (bb rfl)) rfl (fun _ _ => ?_); refine GE.E (by as_aux_lemma => kernel_rfl) ?_; refine G.bc (G.E (G.region (G.v (ba rfl) rfl ?_))); refine G.v (bp rfl rfl (by omega)) rfl ?_; refine G.v (bb rfl) rfl (G.I ?_); refine G.bm vb rfl ?_
              refine G.keep1 1 rfl ?_; refine G.V (j + 1, vb) 0 (bV (congrArg (fun z => Ch.row vb 3 1 z) ((congrArg (fun z => (((ordM (keyU b.1) b.1.length).take j).map (keyU b.1)).map icell ++ [[Value.int .i64 z]]) hyk.symm).trans (srt_take hx)))) (.cons rfl (.cons rfl (.cons rfl (.cons rfl (.cons rfl (.cons rfl (.cons rfl (.cons rfl (.nil))))))))) ?_ ?_ ?_
              exact ⟨rfl, rfl, trivial⟩
              exact hlt2
              dsimp only; omega
          · all_goals
             replace hc := of_decide_eq_false hc
             try (exfalso; omega)
             all_goals
              refine G.exit (G.L (G.L (G.bn (G.E (G.region (G.v (ba rfl) rfl (G.v (be rfl) rfl (G.v (bf 2 rfl rfl rfl) rfl (G.v (ba rfl) rfl (G.v (ba rfl) rfl ?_)))))))))); refine G.v (bJ rfl (.cons rfl (.cons rfl (.cons (bK (by assumption)) .nil))) (.cons rfl rfl (.zero (.cons .nil)) (.cons rfl rfl (.succ (.zero (.cons .nil))) (.cons rfl rfl (.succ (.succ (.zero (.cons .nil)))) .nil)))) rfl ?_; refine G.op (bq rfl (.cons rfl .nil) (by (simp only [List.all_cons, List.all_nil, Bool.and_true, Bool.and_eq_true]; refine ⟨rfl, ?_⟩; (repeat (first | assumption | refine ⟨rfl, ?_⟩)))) rfl rfl rfl rfl rfl) rfl (fun vx _ => ?_); refine G.op (og_app5 rfl rfl rfl (by exact Rd.ba 0 rfl) rfl rfl (by (simp; omega)) (by (simp; omega))) rfl (fun va _ => ?_); refine G.frontG4 (cs2.map (sub CartonM.l)) rfl ?_; refine G.be v11 rfl ?_; refine G.bF _ (cart_sub (r := r) (k := k) (l := b.1)) rfl ?_; refine G.v (bb rfl) rfl (G.I (G.bc (G.E (G.region (G.v (ba rfl) rfl ?_))))); refine G.v (bp rfl rfl (by omega)) rfl ?_; refine G.v (bb rfl) rfl (G.I ?_); refine G.bp va rfl ?_; refine G.bA ((cs2 ++ [(cartonM r k b.1, v11)]).map (sub CartonM.l)) rfl ?_
              refine G.bt 3 rfl ?_; refine G.V (i + 1, cs2 ++ [(cartonM r k b.1, v11)], va) 0 (cG rfl (congrArg (fun z => Ch.row va 54 3 z) cart_cells)) (.cons rfl (.cons rfl (.cons rfl (.cons rfl (.nil))))) ?_ ?_ ?_
              exact ⟨rfl, rfl, trivial⟩
              exact ⟨hlt, cart_next hM2 hb, by rw [List.length_append, List.length_singleton]; omega⟩
              dsimp only; omega
     · all_goals
        replace hc := of_decide_eq_false hc
        try (exfalso; omega)
        all_goals
         refine G.exit (G.L (G.L (G.bn (G.bc (G.E (G.region (G.v (ba rfl) rfl ?_))))))); refine G.v (bp rfl rfl (by omega)) rfl ?_; refine G.v (bb rfl) rfl (G.I ?_); refine G.bm v3 rfl ?_; refine G.bA (cs2.map (sub CartonM.l)) rfl ?_; refine G.bt 3 rfl ?_; refine G.V (k + 1, cs2, v3) 0 rfl (.cons rfl (.cons rfl (.nil))) ?_ ?_ ?_
         exact ⟨rfl, rfl, trivial⟩
         exact ⟨by (dsimp only; omega), by rw [cartons_next, hM2, bZ (by rw [List.length_map]; omega), hts]; rfl, by (dsimp only; omega)⟩
         dsimp only; omega
  simp only [hgl] at hc
  refine G.exit (G.L (G.L (G.bn (G.E (G.seq (G.region (G.v (ba rfl) rfl (G.v (bb rfl) rfl (G.I (G.E (G.ret ?_))))))))))); refine G.know (fun w hw => (Rd.ba 1 rfl w hw).one_) (fun hone => G.bg (v2, cs) ⟨hone, by rw [hM, cartonsM, show k = (groupsOfM r).length by omega]⟩ rfl rfl rfl (fun w hw => hw.sublist (by repeat (first | exact List.Sublist.refl _ | refine List.Sublist.cons_cons _ ?_ | refine List.Sublist.cons _ ?_))))
end
theorem cartons_len (r : ReqM) : ∀ n, ((List.range n).flatMap (cartonsAt r)).length ≤ 48 * n
  | 0 => by simp
  | n + 1 => by
    have h1 := cartons_len r n
    have h2 := wayM_len r (unitsI r n)
    have h3 := cM r n
    rw [cartons_next, List.length_append, cartonsAt, List.length_map]; omega
theorem cartons_elt {r : ReqM} {c : CartonM} (h : c ∈ cartonsM r) : c.l.length ≤ 48 := by
  obtain ⟨k, _, h2⟩ := List.mem_flatMap.1 h
  obtain ⟨l, hl, rfl⟩ := List.mem_map.1 h2
  obtain ⟨i, hi⟩ := List.mem_iff_getElem?.1 hl
  have h3 := wayM_elt hi
  have h4 := cM r k
  show (sortM l).length ≤ 48
  rw [cB]; omega
end Go.Proofs.YtglpgohilfoecaaGreat

/-
  Boxes, shelves and layers that are right for a pallet; the depth of shelves.
-/
namespace Go.Proofs.YtglpgohilfoecaaGreat
open Go.RowKit
attribute [local irreducible] Go.wpList Go.Code.wp Go.Exit.then Go.Exit.inBlock Go.bodyPost Go.Calls pE pB G RunsV FnV Fn FnM
set_option maxRecDepth 100000

theorem indexBox_any {g : Nat} [FnOk Tryz.prog g] {cap : List Value} {v : Value} {l : List BoxM} {p : BoxM → Bool} (w : World) (h : Rd w v 4 (l.map BoxM.cells)) (hf : ∀ (w' : World) (k : Nat) (b : BoxM), HeapOk w w' [] → l[k]? = some b → FnV Tryz.prog g ([.agg (BoxM.cells b).toArray] ++ cap) w' (.bool (p b))) :
    FnV Tryz.prog 155 [v, .func (.func g) #[] cap.toArray] w (.int .i64 (idxM p l)) := by
  have hle := h.le_map
  have hln : (l.map BoxM.cells).length = l.length := by simp
  refine FnV.of (n := 19) Tryz.func155 rfl rfl ?_; refine G.seq (G.region (G.v (bb rfl) rfl (G.I (G.E (G.seq (G.seq (G.region (G.v (ba rfl) rfl ?_)))))))); refine G.v (bz rfl (by exact Rd.stays (by assumption))) rfl ?_; refine G.v (ba rfl) rfl (G.I (G.E (G.block ?_))); refine G.Y (ι := Nat) (ks := [0, 1, 7]) (fun k => [(8, .int .i64 k)]) (fun _ => []) (fun k => k ≤ l.length ∧ (l.take k).any p = false) (fun k => l.length - k) 0 (.cons rfl (.cons rfl (.cons rfl (.nil)))) rfl ?_ ?_ ?_
  exact ⟨Nat.zero_le _, rfl⟩
  exact ⟨rfl, trivial⟩
  rintro k ⟨hk, ht⟩
  by_cases hlt : k < l.length
  case' pos => (obtain ⟨b, hb⟩ := bn hlt; have he := bt hb BoxM.cells)
  all_goals
   refine G.seq (G.region (G.v (br rfl rfl) rfl (G.I (G.E (G.seq ?_))))); refine G.cond rfl (fun hc => ?_) (fun hc => ?_)
   · all_goals
      replace hc := of_decide_eq_true hc
      try (exfalso; omega)
      all_goals
       refine G.skip (G.E (G.seq (G.block (G.seq (G.region (G.v (ba rfl) rfl (G.v (bb rfl) rfl (G.I (G.E (G.seq (G.region ?_))))))))))); refine G.v (ba rfl) rfl (G.v (ba rfl) rfl (G.v (ba rfl) rfl ?_)); refine G.v (bg rfl rfl (by exact Rd.stays (by assumption)) rfl (by assumption)) rfl ?_; refine G.v (bN rfl (by exact Rd.stays (by assumption)) (by assumption) rfl) rfl ?_; refine G.op (bh rfl rfl (fun w hh => hf w k b hh.none hb)) rfl (fun _ _ => ?_); refine G.I (G.E ?_); refine G.cond rfl (fun hc => ?_) (fun hc => ?_)
       · all_goals
          all_goals
           refine G.seq (G.region (G.v (ba rfl) rfl (G.v (bb rfl) rfl (G.I (G.E (G.ret (G.bq (G.O (G.O (G.bq (G.O ?_)))))))))))
           exact G.U rfl rfl (congrArg (Value.int .i64) (di ht hb hc).symm)
       · all_goals
          all_goals
           refine G.skip (G.bc (G.E (G.region ?_))); refine G.v (bp rfl rfl (by omega)) rfl ?_; refine G.v (ba rfl) rfl (G.I ?_); refine G.V (k + 1) 0 rfl (.cons rfl (.cons rfl (.cons rfl (.nil)))) ?_ ?_ ?_
           exact ⟨rfl, trivial⟩
           exact ⟨hlt, cc ht hb hc⟩
           omega
   · all_goals
      replace hc := of_decide_eq_false hc
      try (exfalso; omega)
      all_goals
       refine G.exit (G.L (G.L (G.bn (G.E (G.seq (G.region (G.v (bb rfl) rfl (G.I (G.E (G.ret ?_))))))))))
       exact G.U rfl rfl (congrArg (Value.int .i64) (cy ht hlt).symm)
theorem containsBox_any {g : Nat} [FnOk Tryz.prog g] {cap : List Value} {v : Value} {l : List BoxM} {p : BoxM → Bool} (w : World) (h : Rd w v 4 (l.map BoxM.cells)) (hf : ∀ (w' : World) (k : Nat) (b : BoxM), HeapOk w w' [] → l[k]? = some b → FnV Tryz.prog g ([.agg (BoxM.cells b).toArray] ++ cap) w' (.bool (p b))) :
    FnV Tryz.prog 92 [v, .func (.func g) #[] cap.toArray] w (.bool (l.any p)) := by
  refine FnV.of (n := 9) Tryz.func92 rfl rfl ?_; refine G.seq (G.region (G.v (bb rfl) rfl (G.I (G.E (G.seq (G.region (G.v (ba rfl) rfl (G.v (ba rfl) rfl ?_)))))))); refine G.op (bh rfl rfl (fun w hh => indexBox_any w (Rd.stays h _ hh) (fun w' k b hw hb => hf w' k b ((hh.call hw).none) hb))) rfl (fun _ _ => ?_); refine G.v (cu rfl rfl) rfl (G.v (bb rfl) rfl (G.I (G.E (G.ret ?_))))
  exact G.U rfl rfl (congrArg Value.bool (cT p l))

theorem indexShelf_any {g : Nat} [FnOk Tryz.prog g] {cap : List Value} {v : Value} {l : List (ShelfM×Value)} {p : (ShelfM×Value) → Bool} (w : World) (h : Rd w v 5 (l.map ShelfM.cells)) (hf : ∀ (w' : World) (k : Nat) (b : (ShelfM×Value)), HeapOk w w' [] → l[k]? = some b → FnV Tryz.prog g ([.agg (ShelfM.cells b).toArray] ++ cap) w' (.bool (p b))) :
    FnV Tryz.prog 237 [v, .func (.func g) #[] cap.toArray] w (.int .i64 (idxM p l)) := by
  have hle := h.le_map
  have hln : (l.map ShelfM.cells).length = l.length := by simp
  refine FnV.of (n := 19) Tryz.func237 rfl rfl ?_; refine G.seq (G.region (G.v (bb rfl) rfl (G.I (G.E (G.seq (G.seq (G.region (G.v (ba rfl) rfl ?_)))))))); refine G.v (bz rfl (by exact Rd.stays (by assumption))) rfl ?_; refine G.v (ba rfl) rfl (G.I (G.E (G.block ?_))); refine G.Y (ι := Nat) (ks := [0, 1, 7]) (fun k => [(8, .int .i64 k)]) (fun _ => []) (fun k => k ≤ l.length ∧ (l.take k).any p = false) (fun k => l.length - k) 0 (.cons rfl (.cons rfl (.cons rfl (.nil)))) rfl ?_ ?_ ?_
  exact ⟨Nat.zero_le _, rfl⟩
  exact ⟨rfl, trivial⟩
  rintro k ⟨hk, ht⟩
  by_cases hlt : k < l.length
  case' pos => (obtain ⟨b, hb⟩ := bn hlt; have he := bt hb ShelfM.cells)
  all_goals
   refine G.seq (G.region (G.v (br rfl rfl) rfl (G.I (G.E (G.seq ?_))))); refine G.cond rfl (fun hc => ?_) (fun hc => ?_)
   · all_goals
      replace hc := of_decide_eq_true hc
      try (exfalso; omega)
      all_goals
       refine G.skip (G.E (G.seq (G.block (G.seq (G.region (G.v (ba rfl) rfl (G.v (bb rfl) rfl (G.I (G.E (G.seq (G.region ?_))))))))))); refine G.v (ba rfl) rfl (G.v (ba rfl) rfl (G.v (ba rfl) rfl ?_)); refine G.v (bg rfl rfl (by exact Rd.stays (by assumption)) rfl (by assumption)) rfl ?_; refine G.v (bN rfl (by exact Rd.stays (by assumption)) (by assumption) rfl) rfl ?_; refine G.op (bh rfl rfl (fun w hh => hf w k b hh.none hb)) rfl (fun _ _ => ?_); refine G.I (G.E ?_); refine G.cond rfl (fun hc => ?_) (fun hc => ?_)
       · all_goals
          all_goals
           refine G.seq (G.region (G.v (ba rfl) rfl (G.v (bb rfl) rfl (G.I (G.E (G.ret (G.bq (G.O (G.O (G.bq (G.O ?_)))))))))))
           exact G.U rfl rfl (congrArg (Value.int .i64) (di ht hb hc).symm)
       · all_goals
          all_goals
           refine G.skip (G.bc (G.E (G.region ?_))); refine G.v (bp rfl rfl (by omega)) rfl ?_; refine G.v (ba rfl) rfl (G.I ?_); refine G.V (k + 1) 0 rfl (.cons rfl (.cons rfl (.cons rfl (.nil)))) ?_ ?_ ?_
           exact ⟨rfl, trivial⟩
           exact ⟨hlt, cc ht hb hc⟩
           omega
   · all_goals
      replace hc := of_decide_eq_false hc
      try (exfalso; omega)
      all_goals
       refine G.exit (G.L (G.L (G.bn (G.E (G.seq (G.region (G.v (bb rfl) rfl (G.I (G.E (G.ret ?_))))))))))
       exact G.U rfl rfl (congrArg (Value.int .i64) (cy ht hlt).symm)
theorem containsShelf_any {g : Nat} [FnOk Tryz.prog g] {cap : List Value} {v : Value} {l : List (ShelfM×Value)} {p : (ShelfM×Value) → Bool} (w : World) (h : Rd w v 5 (l.map ShelfM.cells)) (hf : ∀ (w' : World) (k : Nat) (b : (ShelfM×Value)), HeapOk w w' [] → l[k]? = some b → FnV Tryz.prog g ([.agg (ShelfM.cells b).toArray] ++ cap) w' (.bool (p b))) :
    FnV Tryz.prog 213 [v, .func (.func g) #[] cap.toArray] w (.bool (l.any p)) := by
  refine FnV.of (n := 9) Tryz.func213 rfl rfl ?_; refine G.seq (G.region (G.v (bb rfl) rfl (G.I (G.E (G.seq (G.region (G.v (ba rfl) rfl (G.v (ba rfl) rfl ?_)))))))); refine G.op (bh rfl rfl (fun w hh => indexShelf_any w (Rd.stays h _ hh) (fun w' k b hw hb => hf w' k b ((hh.call hw).none) hb))) rfl (fun _ _ => ?_); refine G.v (cu rfl rfl) rfl (G.v (bb rfl) rfl (G.I (G.E (G.ret ?_))))
  exact G.U rfl rfl (congrArg Value.bool (cT p l))

theorem indexLayer_any {g : Nat} [FnOk Tryz.prog g] {cap : List Value} {v : Value} {l : List (LayerM×Value)} {p : (LayerM×Value) → Bool} (w : World) (h : Rd w v 4 (l.map LayerM.cells)) (hf : ∀ (w' : World) (k : Nat) (b : (LayerM×Value)), HeapOk w w' [] → l[k]? = some b → FnV Tryz.prog g ([.agg (LayerM.cells b).toArray] ++ cap) w' (.bool (p b))) :
    FnV Tryz.prog 238 [v, .func (.func g) #[] cap.toArray] w (.int .i64 (idxM p l)) := by
  have hle := h.le_map
  have hln : (l.map LayerM.cells).length = l.length := by simp
  refine FnV.of (n := 19) Tryz.func238 rfl rfl ?_; refine G.seq (G.region (G.v (bb rfl) rfl (G.I (G.E (G.seq (G.seq (G.region (G.v (ba rfl) rfl ?_)))))))); refine G.v (bz rfl (by exact Rd.stays (by assumption))) rfl ?_; refine G.v (ba rfl) rfl (G.I (G.E (G.block ?_))); refine G.Y (ι := Nat) (ks := [0, 1, 7]) (fun k => [(8, .int .i64 k)]) (fun _ => []) (fun k => k ≤ l.length ∧ (l.take k).any p = false) (fun k => l.length - k) 0 (.cons rfl (.cons rfl (.cons rfl (.nil)))) rfl ?_ ?_ ?_
  exact ⟨Nat.zero_le _, rfl⟩
  exact ⟨rfl, trivial⟩
  rintro k ⟨hk, ht⟩
  by_cases hlt : k < l.length
  case' pos => (obtain ⟨b, hb⟩ := bn hlt; have he := bt hb LayerM.cells)
  all_goals
   refine G.seq (G.region (G.v (br rfl rfl) rfl (G.I (G.E (G.seq ?_))))); refine G.cond rfl (fun hc => ?_) (fun hc => ?_)
   · all_goals
      replace hc := of_decide_eq_true hc
      try (exfalso; omega)
      all_goals
       refine G.skip (G.E (G.seq (G.block (G.seq (G.region (G.v (ba rfl) rfl (G.v (bb rfl) rfl (G.I (G.E (G.seq (G.region ?_))))))))))); refine G.v (ba rfl) rfl (G.v (ba rfl) rfl (G.v (ba rfl) rfl ?_)); refine G.v (bg rfl rfl (by exact Rd.stays (by assumption)) rfl (by assumption)) rfl ?_; refine G.v (bN rfl (by exact Rd.stays (by assumption)) (by assumption) rfl) rfl ?_; refine G.op (bh rfl rfl (fun w hh => hf w k b hh.none hb)) rfl (fun _ _ => ?_); refine G.I (G.E ?_); refine G.cond rfl (fun hc => ?_) (fun hc => ?_)
       · all_goals
          all_goals
           refine G.seq (G.region (G.v (ba rfl) rfl (G.v (bb rfl) rfl (G.I (G.E (G.ret (G.bq (G.O (G.O (G.bq (G.O ?_)))))))))))
           exact G.U rfl rfl (congrArg (Value.int .i64) (di ht hb hc).symm)
       · all_goals
          all_goals
           refine G.skip (G.bc (G.E (G.region ?_))); refine G.v (bp rfl rfl (by omega)) rfl ?_; refine G.v (ba rfl) rfl (G.I ?_); refine G.V (k + 1) 0 rfl (.cons rfl (.cons rfl (.cons rfl (.nil)))) ?_ ?_ ?_
           exact ⟨rfl, trivial⟩
           exact ⟨hlt, cc ht hb hc⟩
           omega
   · all_goals
      replace hc := of_decide_eq_false hc
      try (exfalso; omega)
      all_goals
       refine G.exit (G.L (G.L (G.bn (G.E (G.seq (G.region (G.v (bb rfl) rfl (G.I (G.E (G.ret ?_))))))))))
       exact G.U rfl rfl (congrArg (Value.int .i64) (cy ht hlt).symm)
theorem containsLayer_any {g : Nat} [FnOk Tryz.prog g] {cap : List Value} {v : Value} {l : List (LayerM×Value)} {p : (LayerM×Value) → Bool} (w : World) (h : Rd w v 4 (l.map LayerM.cells)) (hf : ∀ (w' : World) (k : Nat) (b : (LayerM×Value)), HeapOk w w' [] → l[k]? = some b → FnV Tryz.prog g ([.agg (LayerM.cells b).toArray] ++ cap) w' (.bool (p b))) :
    FnV Tryz.prog 215 [v, .func (.func g) #[] cap.toArray] w (.bool (l.any p)) := by
  refine FnV.of (n := 9) Tryz.func215 rfl rfl ?_; refine G.seq (G.region (G.v (bb rfl) rfl (G.I (G.E (G.seq (G.region (G.v (ba rfl) rfl (G.v (ba rfl) rfl ?_)))))))); refine G.op (bh rfl rfl (fun w hh => indexLayer_any w (Rd.stays h _ hh) (fun w' k b hw hb => hf w' k b ((hh.call hw).none) hb))) rfl (fun _ _ => ?_); refine G.v (cu rfl rfl) rfl (G.v (bb rfl) rfl (G.I (G.E (G.ret ?_))))
  exact G.U rfl rfl (congrArg Value.bool (cT p l))

theorem boxesOk1_any (p : PalletM) (b : BoxM) {q : Nat} (w : World) (h : Rd w (.slice (some ⟨q, 0, none⟩) 1 1) 4 [p.cells]) : FnV Tryz.prog 93 [b.val, pB q 0] w (.bool (!boxOkM p b)) := by
  rw [cp q 4]
  refine FnV.of (n := 34) Tryz.func93 rfl rfl ?_; refine G.seq (G.region ?_); refine G.op (bE rfl rfl) rfl (fun bk2 _ => ?_); refine G.v (bb rfl) rfl (G.I (G.E (G.seq (G.region (G.v (be rfl) rfl (G.v (bf 0 rfl rfl rfl) rfl (G.v (bo rfl) rfl ?_))))))); refine G.v (bi rfl (by exact Rd.stays (by assumption)) rfl rfl) rfl ?_; refine G.op (bh rfl rfl (fun w _ => b5 _ _ _ w)) rfl (fun _ _ => ?_); refine G.v (bF rfl) rfl (G.v (ba rfl) rfl ?_)
  (with_reducible refine G.gP rfl rfl (fun hg => ?_) (fun hg => ?_)) <;> (try exact Bool.noConfusion hg) <;> (first | (refine G.gY rfl rfl ?_; (refine G.v (be rfl) rfl ?_)) | refine G.gN rfl rfl rfl ?_)
  all_goals ((first | (refine G.gY rfl rfl ?_; refine G.v (bf 0 rfl rfl rfl) rfl ?_) | refine G.gN rfl rfl rfl ?_))
  all_goals ((first | (refine G.gY rfl rfl ?_; (refine G.v (bo rfl) rfl ?_)) | refine G.gN rfl rfl rfl ?_))
  all_goals ((first | (refine G.gY rfl rfl ?_; (refine G.v (bi rfl (by exact Rd.stays (by assumption)) rfl rfl) rfl ?_)) | refine G.gN rfl rfl rfl ?_))
  all_goals ((first | (refine G.gY rfl rfl ?_; refine G.op (bh rfl rfl (fun w _ => b5 _ _ _ w)) rfl (fun _ _ => ?_)) | refine G.gN rfl rfl rfl ?_))
  all_goals ((first | (refine G.gY rfl rfl ?_; refine G.v (bF rfl) rfl ?_) | refine G.gN rfl rfl rfl ?_))
  all_goals ((first | refine G.v (bk rfl rfl) rfl ?_ | refine G.v (bm rfl rfl) rfl ?_))
  all_goals (refine G.v (ba rfl) rfl ?_)
  all_goals (((with_reducible refine G.gP rfl rfl (fun hg => ?_) (fun hg => ?_)) <;> (try exact Bool.noConfusion hg) <;> (first | (refine G.gY rfl rfl ?_; (refine G.v (be rfl) rfl ?_)) | refine G.gN rfl rfl rfl ?_)))
  all_goals ((first | (refine G.gY rfl rfl ?_; refine G.v (bf 0 rfl rfl rfl) rfl ?_) | refine G.gN rfl rfl rfl ?_))
  all_goals ((first | (refine G.gY rfl rfl ?_; (refine G.v (bo rfl) rfl ?_)) | refine G.gN rfl rfl rfl ?_))
  all_goals ((first | (refine G.gY rfl rfl ?_; (refine G.v (bi rfl (by exact Rd.stays (by assumption)) rfl rfl) rfl ?_)) | refine G.gN rfl rfl rfl ?_))
  all_goals ((first | (refine G.gY rfl rfl ?_; refine G.op (bh rfl rfl (fun w _ => b5 _ _ _ w)) rfl (fun _ _ => ?_)) | refine G.gN rfl rfl rfl ?_))
  all_goals ((first | (refine G.gY rfl rfl ?_; refine G.v (bF rfl) rfl ?_) | refine G.gN rfl rfl rfl ?_))
  all_goals ((first | refine G.v (bk rfl rfl) rfl ?_ | refine G.v (bm rfl rfl) rfl ?_))
  all_goals (refine G.v (ba rfl) rfl ?_)
  all_goals (((with_reducible refine G.gP rfl rfl (fun hg => ?_) (fun hg => ?_)) <;> (try exact Bool.noConfusion hg) <;> (first | (refine G.gY rfl rfl ?_; (refine G.v (be rfl) rfl ?_)) | refine G.gN rfl rfl rfl ?_)))
  all_goals ((first | (refine G.gY rfl rfl ?_; refine G.v (bf 0 rfl rfl rfl) rfl ?_) | refine G.gN rfl rfl rfl ?_))
  all_goals ((first | (refine G.gY rfl rfl ?_; (refine G.v (bo rfl) rfl ?_)) | refine G.gN rfl rfl rfl ?_))
  all_goals ((first | (refine G.gY rfl rfl ?_; (refine G.v (bi rfl (by exact Rd.stays (by assumption)) rfl rfl) rfl ?_)) | refine G.gN rfl rfl rfl ?_))
  all_goals ((first | (refine G.gY rfl rfl ?_; refine G.op (bh rfl rfl (fun w _ => b5 _ _ _ w)) rfl (fun _ _ => ?_)) | refine G.gN rfl rfl rfl ?_))
  all_goals ((first | (refine G.gY rfl rfl ?_; refine G.v (bF rfl) rfl ?_) | refine G.gN rfl rfl rfl ?_))
  all_goals ((first | refine G.v (bk rfl rfl) rfl ?_ | refine G.v (bm rfl rfl) rfl ?_))
  all_goals (refine G.v (bb rfl) rfl ?_)
  all_goals
   refine G.I (G.E (G.ret ?_)); refine G.U rfl rfl (congrArg Value.bool ?_); simp_all [boxOkM]
theorem shelvesOk1_any (p : PalletM) (b : ShelfM × Value) {q : Nat} (w : World) (h : Rd w (.slice (some ⟨q, 0, none⟩) 1 1) 4 [p.cells]) : FnV Tryz.prog 214 [.agg (ShelfM.cells b).toArray, pB q 0] w (.bool (!heapOkM p b.1.d b.1.h b.1.g)) := by
  rw [cp q 4]
  refine FnV.of (n := 26) Tryz.func214 rfl rfl ?_; refine G.seq (G.region ?_); refine G.op (bE rfl rfl) rfl (fun bk2 _ => ?_); refine G.v (bb rfl) rfl (G.I (G.E (G.seq (G.region (G.v (be rfl) rfl (G.v (bf 0 rfl rfl rfl) rfl (G.v (bo rfl) rfl ?_))))))); refine G.v (bi rfl (by exact Rd.stays (by assumption)) rfl rfl) rfl ?_; refine G.op (bh rfl rfl (fun w _ => b5 _ _ _ w)) rfl (fun _ _ => ?_); refine G.v (bF rfl) rfl (G.v (ba rfl) rfl ?_)
  (with_reducible refine G.gP rfl rfl (fun hg => ?_) (fun hg => ?_)) <;> (try exact Bool.noConfusion hg) <;> (first | (refine G.gY rfl rfl ?_; (refine G.v (be rfl) rfl ?_)) | refine G.gN rfl rfl rfl ?_)
  all_goals ((first | (refine G.gY rfl rfl ?_; refine G.v (bf 0 rfl rfl rfl) rfl ?_) | refine G.gN rfl rfl rfl ?_))
  all_goals ((first | (refine G.gY rfl rfl ?_; (refine G.v (bo rfl) rfl ?_)) | refine G.gN rfl rfl rfl ?_))
  all_goals ((first | (refine G.gY rfl rfl ?_; (refine G.v (bi rfl (by exact Rd.stays (by assumption)) rfl rfl) rfl ?_)) | refine G.gN rfl rfl rfl ?_))
  all_goals ((first | (refine G.gY rfl rfl ?_; refine G.op (bh rfl rfl (fun w _ => b5 _ _ _ w)) rfl (fun _ _ => ?_)) | refine G.gN rfl rfl rfl ?_))
  all_goals ((first | (refine G.gY rfl rfl ?_; refine G.v (bF rfl) rfl ?_) | refine G.gN rfl rfl rfl ?_))
  all_goals ((first | refine G.v (bk rfl rfl) rfl ?_ | refine G.v (bm rfl rfl) rfl ?_))
  all_goals (refine G.v (ba rfl) rfl ?_)
  all_goals (((with_reducible refine G.gP rfl rfl (fun hg => ?_) (fun hg => ?_)) <;> (try exact Bool.noConfusion hg) <;> (first | (refine G.gY rfl rfl ?_; (refine G.v (be rfl) rfl ?_)) | refine G.gN rfl rfl rfl ?_)))
  all_goals ((first | (refine G.gY rfl rfl ?_; refine G.v (bf 0 rfl rfl rfl) rfl ?_) | refine G.gN rfl rfl rfl ?_))
  all_goals ((first | (refine G.gY rfl rfl ?_; (refine G.v (bo rfl) rfl ?_)) | refine G.gN rfl rfl rfl ?_))
  all_goals ((first | (refine G.gY rfl rfl ?_; (refine G.v (bi rfl (by exact Rd.stays (by assumption)) rfl rfl) rfl ?_)) | refine G.gN rfl rfl rfl ?_))
  all_goals ((first | (refine G.gY rfl rfl ?_; refine G.op (bh rfl rfl (fun w _ => b5 _ _ _ w)) rfl (fun _ _ => ?_)) | refine G.gN rfl rfl rfl ?_))
  all_goals ((first | (refine G.gY rfl rfl ?_; refine G.v (bF rfl) rfl ?_) | refine G.gN rfl rfl rfl ?_))
  all_goals ((first | refine G.v (bk rfl rfl) rfl ?_ | refine G.v (bm rfl rfl) rfl ?_))
  all_goals (refine G.v (bb rfl) rfl ?_)
  all_goals
   refine G.I (G.E (G.ret ?_)); refine G.U rfl rfl (congrArg Value.bool ?_); simp_all [heapOkM]
theorem stacksOk1_any (p : PalletM) (b : LayerM × Value) {q : Nat} (w : World) (h : Rd w (.slice (some ⟨q, 0, none⟩) 1 1) 4 [p.cells]) : FnV Tryz.prog 216 [.agg (LayerM.cells b).toArray, pB q 0] w (.bool (!heapOkM p b.1.d b.1.h b.1.g)) := by
  rw [cp q 4]
  refine FnV.of (n := 26) Tryz.func216 rfl rfl ?_; refine G.seq (G.region ?_); refine G.op (bE rfl rfl) rfl (fun bk2 _ => ?_); refine G.v (bb rfl) rfl (G.I (G.E (G.seq (G.region (G.v (be rfl) rfl (G.v (bf 0 rfl rfl rfl) rfl (G.v (bo rfl) rfl ?_))))))); refine G.v (bi rfl (by exact Rd.stays (by assumption)) rfl rfl) rfl ?_; refine G.op (bh rfl rfl (fun w _ => b5 _ _ _ w)) rfl (fun _ _ => ?_); refine G.v (bF rfl) rfl (G.v (ba rfl) rfl ?_)
  (with_reducible refine G.gP rfl rfl (fun hg => ?_) (fun hg => ?_)) <;> (try exact Bool.noConfusion hg) <;> (first | (refine G.gY rfl rfl ?_; (refine G.v (be rfl) rfl ?_)) | refine G.gN rfl rfl rfl ?_)
  all_goals ((first | (refine G.gY rfl rfl ?_; refine G.v (bf 0 rfl rfl rfl) rfl ?_) | refine G.gN rfl rfl rfl ?_))
  all_goals ((first | (refine G.gY rfl rfl ?_; (refine G.v (bo rfl) rfl ?_)) | refine G.gN rfl rfl rfl ?_))
  all_goals ((first | (refine G.gY rfl rfl ?_; (refine G.v (bi rfl (by exact Rd.stays (by assumption)) rfl rfl) rfl ?_)) | refine G.gN rfl rfl rfl ?_))
  all_goals ((first | (refine G.gY rfl rfl ?_; refine G.op (bh rfl rfl (fun w _ => b5 _ _ _ w)) rfl (fun _ _ => ?_)) | refine G.gN rfl rfl rfl ?_))
  all_goals ((first | (refine G.gY rfl rfl ?_; refine G.v (bF rfl) rfl ?_) | refine G.gN rfl rfl rfl ?_))
  all_goals ((first | refine G.v (bk rfl rfl) rfl ?_ | refine G.v (bm rfl rfl) rfl ?_))
  all_goals (refine G.v (ba rfl) rfl ?_)
  all_goals (((with_reducible refine G.gP rfl rfl (fun hg => ?_) (fun hg => ?_)) <;> (try exact Bool.noConfusion hg) <;> (first | (refine G.gY rfl rfl ?_; (refine G.v (be rfl) rfl ?_)) | refine G.gN rfl rfl rfl ?_)))
  all_goals ((first | (refine G.gY rfl rfl ?_; refine G.v (bf 0 rfl rfl rfl) rfl ?_) | refine G.gN rfl rfl rfl ?_))
  all_goals ((first | (refine G.gY rfl rfl ?_; (refine G.v (bo rfl) rfl ?_)) | refine G.gN rfl rfl rfl ?_))
  all_goals ((first | (refine G.gY rfl rfl ?_; (refine G.v (bi rfl (by exact Rd.stays (by assumption)) rfl rfl) rfl ?_)) | refine G.gN rfl rfl rfl ?_))
  all_goals ((first | (refine G.gY rfl rfl ?_; refine G.op (bh rfl rfl (fun w _ => b5 _ _ _ w)) rfl (fun _ _ => ?_)) | refine G.gN rfl rfl rfl ?_))
  all_goals ((first | (refine G.gY rfl rfl ?_; refine G.v (bF rfl) rfl ?_) | refine G.gN rfl rfl rfl ?_))
  all_goals ((first | refine G.v (bk rfl rfl) rfl ?_ | refine G.v (bm rfl rfl) rfl ?_))
  all_goals (refine G.v (bb rfl) rfl ?_)
  all_goals
   refine G.I (G.E (G.ret ?_)); refine G.U rfl rfl (congrArg Value.bool ?_); simp_all [heapOkM]
theorem boxesOk_any (p : PalletM) {v : Value} {l : List BoxM} (w : World) (h : Rd w v 4 (l.map BoxM.cells)) : FnV Tryz.prog 36 [p.val, v] w (.bool (boxesOkM p l)) := by
  refine FnV.of (n := 13) Tryz.func36 rfl rfl ?_; refine G.seq (G.region ?_); refine G.op (bE rfl rfl) rfl (fun bk2 _ => ?_); refine G.v (bb rfl) rfl (G.I (G.E (G.seq (G.region (G.v (bj 0 rfl rfl rfl) rfl ?_))))); refine G.op (bh rfl rfl (fun w _ => palletOk_any _ w)) rfl (fun _ _ => ?_); refine G.v (ba rfl) rfl ?_
  (with_reducible refine G.gP rfl rfl (fun hg => ?_) (fun hg => ?_)) <;> (try exact Bool.noConfusion hg) <;> (first | (refine G.gY rfl rfl ?_; refine G.v (ba rfl) rfl ?_) | refine G.gN rfl rfl rfl ?_)
  all_goals ((first | (refine G.gY rfl rfl ?_; refine G.v (bY rfl rfl) rfl ?_) | refine G.gN rfl rfl rfl ?_))
  all_goals ((first | (refine G.gY rfl rfl ?_; refine G.op (bh rfl rfl (fun w hh => containsBox_any w (Rd.stays h _ hh) (fun w' k b hw hb => boxesOk1_any p b w' (Rd.stays (Rd.bb 0 rfl rfl w hh) w' hw)))) rfl (fun _ _ => ?_)) | refine G.gN rfl rfl rfl ?_))
  all_goals ((first | (refine G.gY rfl rfl ?_; refine G.v (bF rfl) rfl ?_) | refine G.gN rfl rfl rfl ?_))
  all_goals ((first | refine G.v (bk rfl rfl) rfl ?_ | refine G.v (bm rfl rfl) rfl ?_))
  all_goals (refine G.v (bb rfl) rfl ?_)
  all_goals
   refine G.I (G.E (G.ret ?_)); refine G.U rfl rfl (congrArg Value.bool ?_); simp only [boxesOkM, not_any_not]; simp [*]
theorem implShelvesOk_any (p : PalletM) {v : Value} {l : List (ShelfM × Value)} (w : World) (h : Rd w v 5 (l.map ShelfM.cells)) : FnV Tryz.prog 157 [p.val, v] w (.bool (palletOkM p && (l.map Prod.fst).all fun s => heapOkM p s.d s.h s.g)) := by
  refine FnV.of (n := 13) Tryz.func157 rfl rfl ?_; refine G.seq (G.region ?_); refine G.op (bE rfl rfl) rfl (fun bk2 _ => ?_); refine G.v (bb rfl) rfl (G.I (G.E (G.seq (G.region (G.v (bj 0 rfl rfl rfl) rfl ?_))))); refine G.op (bh rfl rfl (fun w _ => palletOk_any _ w)) rfl (fun _ _ => ?_); refine G.v (ba rfl) rfl ?_
  (with_reducible refine G.gP rfl rfl (fun hg => ?_) (fun hg => ?_)) <;> (try exact Bool.noConfusion hg) <;> (first | (refine G.gY rfl rfl ?_; refine G.v (ba rfl) rfl ?_) | refine G.gN rfl rfl rfl ?_)
  all_goals ((first | (refine G.gY rfl rfl ?_; refine G.v (bY rfl rfl) rfl ?_) | refine G.gN rfl rfl rfl ?_))
  all_goals ((first | (refine G.gY rfl rfl ?_; refine G.op (bh rfl rfl (fun w hh => containsShelf_any w (Rd.stays h _ hh) (fun w' k b hw hb => shelvesOk1_any p b w' (Rd.stays (Rd.bb 0 rfl rfl w hh) w' hw)))) rfl (fun _ _ => ?_)) | refine G.gN rfl rfl rfl ?_))
  all_goals ((first | (refine G.gY rfl rfl ?_; refine G.v (bF rfl) rfl ?_) | refine G.gN rfl rfl rfl ?_))
  all_goals ((first | refine G.v (bk rfl rfl) rfl ?_ | refine G.v (bm rfl rfl) rfl ?_))
  all_goals (refine G.v (bb rfl) rfl ?_)
  all_goals
   refine G.I (G.E (G.ret ?_)); refine G.U rfl rfl (congrArg Value.bool ?_); simp only [not_any_not, List.all_map]; simp [*]; (try rfl)
theorem implStacksOk_any (p : PalletM) {v : Value} {l : List (LayerM × Value)} (w : World) (h : Rd w v 4 (l.map LayerM.cells)) : FnV Tryz.prog 158 [p.val, v] w (.bool (palletOkM p && (l.map Prod.fst).all fun s => heapOkM p s.d s.h s.g)) := by
  refine FnV.of (n := 13) Tryz.func158 rfl rfl ?_; refine G.seq (G.region ?_); refine G.op (bE rfl rfl) rfl (fun bk2 _ => ?_); refine G.v (bb rfl) rfl (G.I (G.E (G.seq (G.region (G.v (bj 0 rfl rfl rfl) rfl ?_))))); refine G.op (bh rfl rfl (fun w _ => palletOk_any _ w)) rfl (fun _ _ => ?_); refine G.v (ba rfl) rfl ?_
  (with_reducible refine G.gP rfl rfl (fun hg => ?_) (fun hg => ?_)) <;> (try exact Bool.noConfusion hg) <;> (first | (refine G.gY rfl rfl ?_; refine G.v (ba rfl) rfl ?_) | refine G.gN rfl rfl rfl ?_)
  all_goals ((first | (refine G.gY rfl rfl ?_; refine G.v (bY rfl rfl) rfl ?_) | refine G.gN rfl rfl rfl ?_))
  all_goals ((first | (refine G.gY rfl rfl ?_; refine G.op (bh rfl rfl (fun w hh => containsLayer_any w (Rd.stays h _ hh) (fun w' k b hw hb => stacksOk1_any p b w' (Rd.stays (Rd.bb 0 rfl rfl w hh) w' hw)))) rfl (fun _ _ => ?_)) | refine G.gN rfl rfl rfl ?_))
  all_goals ((first | (refine G.gY rfl rfl ?_; refine G.v (bF rfl) rfl ?_) | refine G.gN rfl rfl rfl ?_))
  all_goals ((first | refine G.v (bk rfl rfl) rfl ?_ | refine G.v (bm rfl rfl) rfl ?_))
  all_goals (refine G.v (bb rfl) rfl ?_)
  all_goals
   refine G.I (G.E (G.ret ?_)); refine G.U rfl rfl (congrArg Value.bool ?_); simp only [not_any_not, List.all_map]; simp [*]; (try rfl)
end Go.Proofs.YtglpgohilfoecaaGreat

/-
  Shelves that are put into layers, and layers into loads.
-/
namespace Go.Proofs.YtglpgohilfoecaaGreat
open Go.RowKit
attribute [local irreducible] Go.wpList Go.Code.wp Go.Exit.then Go.Exit.inBlock Go.bodyPost Go.Calls pE pB G RunsV FnV Fn FnM
set_option maxRecDepth 100000
set_option maxHeartbeats 1000000
theorem sub_set {M : Type} {f : M → List Int} {us : List (M × Value)} {q : Nat} {m : M} {v : Value} {es : List (List Value)} (h : (f m).map icell = es) : (us.map (sub f)).set q (v, es) = (us.set q (m, v)).map (sub f) := by
  subst h; rw [List.map_set]; rfl
theorem dF {M : Type} {c : M × Value → List Value} {us : List (M × Value)} {q : Nat} {m : M × Value} {e : List Value} (h : c m = e) : (us.map c).set q e = (us.set q m).map c := by
  subst h; rw [List.map_set]

theorem lay_end {p : PalletM} {ss : List ShelfM} {m : List LayerM} {k : Nat} (hok : shelvesOkM p ss = true) (hM : m = (ss.zipIdx.take k).foldl (pileStep (layRoom p) layAdd layZ) []) (hk : ¬ k < ss.length) : m = layersM p ss := by
  rw [hM, layersM, if_pos hok, List.take_of_length_le (by simp; omega)]; rfl
theorem load_end {p : PalletM} {ss : List LayerM} {m : List LoadM} {k : Nat} (hok : stacksOkM p ss = true) (hM : m = (ss.zipIdx.take k).foldl (pileStep (loadRoom p) loadAdd loadZ) []) (hk : ¬ k < ss.length) : m = loadsM p ss := by
  rw [hM, loadsM, if_pos hok, List.take_of_length_le (by simp; omega)]; rfl

theorem bnot_no {b : Bool} (h : (!b) = false) : b = true := by cases b <;> simp_all
theorem palletOk_of {q r : Bool} (h : (!(q && r)) = false) : q = true := by cases q <;> simp_all
theorem pile_sum {M S : Type} {room : M → S → Bool} {add : M → Nat → S → M} {z : M} (f : M → Nat) (hz : ∀ k s, f (add z k s) ≤ 1) (hs : ∀ t k s, f (add t k s) = f t + 1) : ∀ (xs : List (S × Nat)) (out : List M) (n : Nat), (∀ t ∈ out, f t ≤ n) → ∀ t ∈ xs.foldl (pileStep room add z) out, f t ≤ n + xs.length
  | [], out, n, h => h
  | x :: r, out, n, h => by
    intro t ht
    have h2 : ∀ t ∈ pileStep room add z out x, f t ≤ n + 1 := by
      intro t ht
      unfold pileStep at ht
      split at ht
      · rename_i u hu
        split at ht
        · rcases List.mem_or_eq_of_mem_set ht with h1 | h1
          · have := h t h1; omega
          · rw [h1, hs]; have := h u (List.mem_of_getLast? hu); omega
        · rcases List.mem_append.1 ht with h1 | h1
          · have := h t h1; omega
          · rw [List.mem_singleton.1 h1]; have := hz x.2 x.1; omega
      · rcases List.mem_append.1 ht with h1 | h1
        · have := h t h1; omega
        · rw [List.mem_singleton.1 h1]; have := hz x.2 x.1; omega
    have := pile_sum f hz hs r _ (n + 1) h2 t ht
    simp only [List.length_cons]; omega
theorem lay_lens {p : PalletM} (xs : List (ShelfM × Nat)) (k : Nat) : ∀ t ∈ (xs.take k).foldl (pileStep (layRoom p) layAdd layZ) [], t.l.length ≤ k := by
  intro t ht
  have := pile_sum (room := layRoom p) (add := layAdd) (z := layZ) (fun t => t.l.length) (by simp [layAdd, layZ]) (by simp [layAdd]) (xs.take k) [] 0 (by simp) t ht
  rw [List.length_take] at this; omega
theorem load_lens {p : PalletM} (xs : List (LayerM × Nat)) (k : Nat) : ∀ t ∈ (xs.take k).foldl (pileStep (loadRoom p) loadAdd loadZ) [], t.l.length ≤ k := by
  intro t ht
  have := pile_sum (room := loadRoom p) (add := loadAdd) (z := loadZ) (fun t => t.l.length) (by simp [loadAdd, loadZ]) (by simp [loadAdd]) (xs.take k) [] 0 (by simp) t ht
  rw [List.length_take] at this; omega

theorem implLayersOf_any (p : PalletM) {v : Value} {l : List (ShelfM × Value)} (w : World) (h : Rd w v 5 (l.map ShelfM.cells)) (hb : l.length ≤ 1048576) :
    Fn Tryz.prog 96 [p.val, v] w (fun x : Value × List (LayerM × Value) => x.1.oneCell' = true ∧ x.2.map Prod.fst = layersM p (l.map Prod.fst)) (fun x => x.1) (fun x => [.grp 3 1 (x.2.map (sub LayerM.l)), .row x.1 129 4 (x.2.map LayerM.cells)]) := by
  have pile_lens : ∀ (xs : List (ShelfM × Nat)) (k : Nat), ∀ t ∈ (xs.take k).foldl (pileStep (layRoom p) layAdd layZ) [], t.l.length ≤ k := fun xs k => lay_lens xs k
  refine Fn.of (n := 102) Tryz.func96 rfl rfl ?_; refine G.seq (G.region ?_); refine G.op (bE rfl rfl) rfl (fun bk2 _ => ?_); refine G.v (bb rfl) rfl (G.I (G.E (G.seq (G.seq (G.region (G.v (bj 0 rfl rfl rfl) rfl (G.v (ba rfl) rfl ?_))))))); refine G.op (bh rfl rfl (fun w hh => implShelvesOk_any _ w (by exact Rd.stays (by assumption) _ hh))) rfl (fun _ _ => ?_); refine G.v (bF rfl) rfl (G.I (G.E ?_)); refine G.cond rfl (fun hc => ?_) (fun hc => ?_); refine G.seq (G.region (G.v (bb rfl) rfl (G.I (G.E (G.ret (G.O ?_))))))
  exact G.bg (.slice none 0 0, []) ⟨rfl, by rw [layersM, if_neg (by intro hq; simp only [shelvesOkM] at hq; rw [hq] at hc; exact Bool.noConfusion hc)]; rfl⟩ rfl rfl rfl (fun w hw => (hw.none.nilRow _ _).nilGrp _ _)
  · refine G.skip ?_
    refine G.E (G.seq (G.region ?_)); refine G.op (bq rfl .nil (by rfl) rfl rfl rfl rfl rfl) rfl (fun vl _ => ?_); refine G.v (bb rfl) rfl (G.I (G.E (G.seq (G.seq (G.region (G.v (ba rfl) rfl ?_)))))); refine G.v (bz rfl (by exact Rd.stays (by assumption))) rfl ?_; refine G.v (ba rfl) rfl (G.I (G.E (G.block ?_)))
    have hok := hc
    have hpp := pallet_in (palletOk_of hc)
    refine G.heap (fun w hh => hh.nilGrp 3 1) ?_; refine G.Y (ι := Nat × List (LayerM × Value) × Value) (ks := [2, 15, 16]) (fun x => [(5, x.2.2), (17, .int .i64 x.1)]) (fun x => [.grp 3 1 (x.2.1.map (sub LayerM.l)), .row x.2.2 129 4 (x.2.1.map LayerM.cells)]) (fun x => x.1 ≤ l.length ∧ x.2.1.map Prod.fst = ((l.map Prod.fst).zipIdx.take x.1).foldl (pileStep (layRoom p) layAdd layZ) []) (fun x => l.length - x.1) (0, [], vl) (.cons rfl (.cons rfl (.cons rfl (.nil)))) rfl ?_ ?_ ?_
    exact ⟨Nat.zero_le _, rfl⟩
    exact ⟨rfl, rfl, trivial⟩
    rintro ⟨k, ts, v2⟩ ⟨hk, hM⟩
    dsimp only at hk hM ⊢
    by_cases hlt : k < l.length
    case' pos => (obtain ⟨b, hb2⟩ := bn hlt; have heb := bt hb2 ShelfM.cells; have hobb := heap_in (ok_at hok (dA hb2 : (l.map Prod.fst)[k]? = some b.1)).2; have hov : b.2.oneCell' = true := (h.good _ (List.mem_of_getElem? heb)).2 b.2 (by simp [ShelfM.cells]); have hz := zip_get (dA hb2 : (l.map Prod.fst)[k]? = some b.1); have hl0 : (ts.map LayerM.cells).length = ts.length := (by simp); have hlk : ts.length ≤ k := (by (have := dI (room := layRoom p) (add := layAdd) (z := layZ) ((l.map Prod.fst).zipIdx.take k) []; rw [← hM] at this; simp only [List.length_map, List.length_nil, List.length_take] at this; omega)); rcases dx ts with hts | ⟨tp, t, hts⟩; have hn0 : ts.length = 0 := (by rw [hts]; rfl); rotate_left; have hn1 : ts.length = tp.length + 1 := (by (rw [hts]; simp)); obtain ⟨q, hq⟩ : ∃ y, y = tp.length := ⟨_, rfl⟩; have htq : ts[q]? = some t := (by (rw [hq]; exact get_last hts)); have he := bt htq LayerM.cells; have hgi : (ts.map (sub LayerM.l))[q]? = some (t.2, t.1.l.map icell) := cn htq; have hbt : 0 ≤ t.1.d ∧ t.1.d ≤ p.d ∧ 0 ≤ t.1.h ∧ t.1.h ≤ p.h ∧ 0 ≤ t.1.g ∧ t.1.g ≤ p.g := (by (have := lay_bd (p := p) (ss := (l.map Prod.fst)) (bnot_no hok) k; rw [← hM] at this; exact this t.1 (List.mem_map.2 ⟨t, List.mem_of_getElem? htq, rfl⟩))); refine G.know (fun w hw => (Rd.grp 0 rfl (List.mem_of_getElem? hgi) w hw).one_) (fun hov2 => ?_); have hlb : t.1.l.length ≤ 1048576 := (by (have := pile_lens (l.map Prod.fst).zipIdx k; rw [← hM] at this; have := this t.1 (List.mem_map.2 ⟨t, List.mem_of_getElem? htq, rfl⟩); omega)))
    all_goals
     refine G.seq (G.region (G.v (br rfl rfl) rfl (G.I (G.E (G.seq ?_))))); refine G.cond rfl (fun hc => ?_) (fun hc => ?_)
     · all_goals
        replace hc := of_decide_eq_true hc
        simp only [List.length_map] at hc
        try (exfalso; omega)
        all_goals
         refine G.skip (G.E (G.seq (G.block (G.seq (G.region (G.v (ba rfl) rfl ?_)))))); refine G.v (bg rfl rfl (by exact Rd.stays (by assumption)) rfl (by exact heb)) rfl ?_; refine G.v (bN rfl (by exact Rd.stays (by assumption)) (by exact heb) rfl) rfl ?_; refine G.op (bu) rfl (fun bk7 _ => ?_); refine G.v (bb rfl) rfl ?_; refine G.bk (bL rfl rfl rfl rfl rfl (by repeat (first | rfl | refine bB (by assumption) ?_)) (.zero (.cons (.cons (.cons (.cons (.cons .nil))))))) (fun _ _ => ?_); refine G.I (G.E (G.seq (G.region (G.v (ba rfl) rfl ?_)))); refine G.v (bz rfl (by exact Rd.ba 2 rfl)) rfl ?_
         first | refine G.v (cq rfl rfl (by omega) (by omega)) rfl ?_ | refine G.v (b8 rfl rfl (by omega) (by omega)) rfl ?_
         refine G.v (bb rfl) rfl (G.I (G.E (G.seq (G.seq ?_)))); refine G.ba [] ?_; refine GE.V 0 (by as_aux_lemma => kernel_rfl) rfl rfl (bd (ba rfl)) rfl (fun _ _ h => by exact h) (fun _ _ => ?_); refine GE.V 1 (by as_aux_lemma => kernel_rfl) rfl rfl (bd (br rfl rfl)) rfl (fun _ _ h => by exact h) (fun _ _ => ?_); refine GE.V 2 (by as_aux_lemma => kernel_rfl) rfl rfl (bd (ba rfl)) rfl (fun _ _ h => by exact h) (fun _ _ => ?_)
         all_goals (((with_reducible refine GE.part (t := 27) rfl (fun hg => ?_) (fun hg => ?_)) <;> (try exact Bool.noConfusion hg) <;> (try (exfalso; (have hq := of_decide_eq_false hg; omega))) <;> (first | refine GE.q 3 rfl (by as_aux_lemma => kernel_rfl) rfl (bc (ba rfl)) rfl ?_ | refine GE.O 3 rfl (by as_aux_lemma => kernel_rfl) rfl rfl ?_)))
         all_goals ((first | refine GE.q 4 rfl (by as_aux_lemma => kernel_rfl) rfl (bc (ba rfl)) rfl ?_ | refine GE.O 4 rfl (by as_aux_lemma => kernel_rfl) rfl rfl ?_))
         all_goals ((first | (refine GE.q 5 rfl (by as_aux_lemma => kernel_rfl) rfl (bc (bg (k := q) rfl rfl (by exact Rd.ba 2 rfl) (by omega) (by exact he))) rfl ?_) | refine GE.O 5 rfl (by as_aux_lemma => kernel_rfl) rfl rfl ?_))
         all_goals ((first | (refine GE.q 6 rfl (by as_aux_lemma => kernel_rfl) rfl (bc (bo rfl)) rfl ?_) | refine GE.O 6 rfl (by as_aux_lemma => kernel_rfl) rfl rfl ?_))
         all_goals ((first | refine GE.q 7 rfl (by as_aux_lemma => kernel_rfl) rfl (bc (bi rfl (by first | exact Rd.stays (by assumption) | exact Rd.ba 2 rfl) (by first | exact he | exact heb) rfl)) rfl ?_ | refine GE.O 7 rfl (by as_aux_lemma => kernel_rfl) rfl rfl ?_))
         all_goals ((first | (refine GE.q 8 rfl (by as_aux_lemma => kernel_rfl) rfl (bc (be rfl)) rfl ?_) | refine GE.O 8 rfl (by as_aux_lemma => kernel_rfl) rfl rfl ?_))
         all_goals ((first | (refine GE.q 9 rfl (by as_aux_lemma => kernel_rfl) rfl (bc (bf 0 rfl rfl rfl)) rfl ?_) | refine GE.O 9 rfl (by as_aux_lemma => kernel_rfl) rfl rfl ?_))
         all_goals ((first | (refine GE.q 10 rfl (by as_aux_lemma => kernel_rfl) rfl (bc (bD rfl rfl (by omega) (by omega))) rfl ?_) | refine GE.O 10 rfl (by as_aux_lemma => kernel_rfl) rfl rfl ?_))
         all_goals ((first | (refine GE.q 11 rfl (by as_aux_lemma => kernel_rfl) rfl (bc (be rfl)) rfl ?_) | refine GE.O 11 rfl (by as_aux_lemma => kernel_rfl) rfl rfl ?_))
         all_goals ((first | (refine GE.q 12 rfl (by as_aux_lemma => kernel_rfl) rfl (bc (bf 3 rfl rfl rfl)) rfl ?_) | refine GE.O 12 rfl (by as_aux_lemma => kernel_rfl) rfl rfl ?_))
         all_goals ((first | refine GE.q 13 rfl (by as_aux_lemma => kernel_rfl) rfl (bc (b6 rfl rfl)) rfl ?_ | refine GE.O 13 rfl (by as_aux_lemma => kernel_rfl) rfl rfl ?_))
         all_goals ((first | refine GE.V 14 (by as_aux_lemma => kernel_rfl) rfl rfl (bd (bk rfl rfl)) rfl (fun _ _ h => by exact h) (fun _ _ => ?_) | refine GE.V 14 (by as_aux_lemma => kernel_rfl) rfl rfl (bd (bm rfl rfl)) rfl (fun _ _ h => by exact h) (fun _ _ => ?_)))
         all_goals (refine GE.V 15 (by as_aux_lemma => kernel_rfl) rfl rfl (bd (ba rfl)) rfl (fun _ _ h => by exact h) (fun _ _ => ?_))
         all_goals (((with_reducible refine GE.part (t := 40) rfl (fun hg => ?_) (fun hg => ?_)) <;> (try exact Bool.noConfusion hg) <;> (try (exfalso; (have hq := of_decide_eq_false hg; omega))) <;> (first | refine GE.q 16 rfl (by as_aux_lemma => kernel_rfl) rfl (bc (ba rfl)) rfl ?_ | refine GE.O 16 rfl (by as_aux_lemma => kernel_rfl) rfl rfl ?_)))
         all_goals ((first | refine GE.q 17 rfl (by as_aux_lemma => kernel_rfl) rfl (bc (ba rfl)) rfl ?_ | refine GE.O 17 rfl (by as_aux_lemma => kernel_rfl) rfl rfl ?_))
         all_goals ((first | (refine GE.q 18 rfl (by as_aux_lemma => kernel_rfl) rfl (bc (bg (k := q) rfl rfl (by exact Rd.ba 2 rfl) (by omega) (by exact he))) rfl ?_) | refine GE.O 18 rfl (by as_aux_lemma => kernel_rfl) rfl rfl ?_))
         all_goals ((first | (refine GE.q 19 rfl (by as_aux_lemma => kernel_rfl) rfl (bc (bo rfl)) rfl ?_) | refine GE.O 19 rfl (by as_aux_lemma => kernel_rfl) rfl rfl ?_))
         all_goals ((first | refine GE.q 20 rfl (by as_aux_lemma => kernel_rfl) rfl (bc (bi rfl (by first | exact Rd.stays (by assumption) | exact Rd.ba 2 rfl) (by first | exact he | exact heb) rfl)) rfl ?_ | refine GE.O 20 rfl (by as_aux_lemma => kernel_rfl) rfl rfl ?_))
         all_goals ((first | (refine GE.q 21 rfl (by as_aux_lemma => kernel_rfl) rfl (bc (be rfl)) rfl ?_) | refine GE.O 21 rfl (by as_aux_lemma => kernel_rfl) rfl rfl ?_))
         all_goals ((first | (refine GE.q 22 rfl (by as_aux_lemma => kernel_rfl) rfl (bc (bf 0 rfl rfl rfl)) rfl ?_) | refine GE.O 22 rfl (by as_aux_lemma => kernel_rfl) rfl rfl ?_))
         all_goals ((first | (refine GE.q 23 rfl (by as_aux_lemma => kernel_rfl) rfl (bc (bD rfl rfl (by omega) (by omega))) rfl ?_) | refine GE.O 23 rfl (by as_aux_lemma => kernel_rfl) rfl rfl ?_))
         all_goals ((first | (refine GE.q 24 rfl (by as_aux_lemma => kernel_rfl) rfl (bc (be rfl)) rfl ?_) | refine GE.O 24 rfl (by as_aux_lemma => kernel_rfl) rfl rfl ?_))
         all_goals ((first | (refine GE.q 25 rfl (by as_aux_lemma => kernel_rfl) rfl (bc (bf 3 rfl rfl rfl)) rfl ?_) | refine GE.O 25 rfl (by as_aux_lemma => kernel_rfl) rfl rfl ?_))
         all_goals ((first | refine GE.q 26 rfl (by as_aux_lemma => kernel_rfl) rfl (bc (b6 rfl rfl)) rfl ?_ | refine GE.O 26 rfl (by as_aux_lemma => kernel_rfl) rfl rfl ?_))
         all_goals ((first | refine GE.V 27 (by as_aux_lemma => kernel_rfl) rfl rfl (bd (bk rfl rfl)) rfl (fun _ _ h => by exact h) (fun _ _ => ?_) | refine GE.V 27 (by as_aux_lemma => kernel_rfl) rfl rfl (bd (bm rfl rfl)) rfl (fun _ _ h => by exact h) (fun _ _ => ?_)))
         all_goals
          refine GE.E (by as_aux_lemma => kernel_rfl) ?_; refine G.E ?_; refine G.cond rfl (fun hc => ?_) (fun hc => ?_)
          · all_goals
             try replace hc := of_decide_eq_true hc
             try simp only [List.length_map] at hc
             all_goals
              refine G.seq (G.region (G.v (ba rfl) rfl ?_)); refine G.v (bJ rfl .nil .nil) rfl ?_; refine G.op (bq rfl (.cons rfl .nil) (by rfl) rfl rfl rfl rfl rfl) rfl (fun vl _ => ?_); refine G.op (dt rfl rfl rfl (by exact Rd.ba 0 rfl) rfl rfl (by (simp; omega)) (by (simp; omega))) rfl (fun va _ => ?_); refine G.v (bb rfl) rfl (G.I (G.E (G.region (G.v (ba rfl) rfl ?_))))
              first | refine G.v (bp rfl rfl (by omega)) rfl ?_ | refine G.v (bD rfl rfl (by omega) (by omega)) rfl ?_
              obtain ⟨q, hq⟩ : ∃ y, y = ts.length := ⟨_, rfl⟩
              obtain ⟨t, htt⟩ : ∃ y, y = ((layZ, .slice none 0 0) : LayerM × Value) := ⟨_, rfl⟩
              obtain ⟨us, hus⟩ : ∃ y, y = ts ++ [t] := ⟨_, rfl⟩
              obtain ⟨vr, hvr⟩ : ∃ y, y = va := ⟨_, rfl⟩
              subst hvr
              have huq : us[q]? = some t := by rw [hus, hq]; simp
              have he : (us.map LayerM.cells)[q]? = some (LayerM.cells t) := bt huq LayerM.cells
              have hgi : (us.map (sub LayerM.l))[q]? = some (t.2, t.1.l.map icell) := cn huq
              have hl1 : (us.map LayerM.cells).length = q + 1 := by rw [hus, hq]; simp
              have hzd : t.1.d = 0 := (by rw [htt]; rfl); have hzh : t.1.h = 0 := (by rw [htt]; rfl); have hzg : t.1.g = 0 := (by rw [htt]; rfl)
              have htl : t.1.l.length = 0 := by rw [htt]; rfl
              have hov2 : t.2.oneCell' = true := by rw [htt]; rfl
              have hst : pileStep (layRoom p) layAdd layZ (ts.map Prod.fst) (b.1, k) = (us.map Prod.fst).set q (layAdd t.1 k b.1) := by
                have e : us.map Prod.fst = ts.map Prod.fst ++ [layZ] := by rw [hus, htt]; simp
                rw [e, htt, hq]
                have := pile_new (room := layRoom p) (add := layAdd) (z := layZ) (out := ts.map Prod.fst) (s := b.1) (k := k) (by intro t2 ht2; first | (rw [hts] at ht2; simp at ht2; done) | (rw [last_of hts] at ht2; obtain rfl := Option.some.inj ht2; simp only [layRoom, Bool.and_eq_false_iff, decide_eq_false_iff_not]; (first | (have hq9 := of_decide_eq_true hg; omega) | omega)))
                rw [this]; simp
              refine G.bi vr rfl ?_; refine G.bo (us.map LayerM.cells) (by rw [hus, htt]; simp [LayerM.cells, layZ]) rfl ?_; refine G.bE _ rfl ?_; refine G.pushNil (us.map (sub LayerM.l)) (by rw [hus, htt]; simp [sub, layZ]) rfl ?_; refine G.v (bb rfl) rfl (G.I (G.E (G.seq (G.region (G.v (ba rfl) rfl (G.v (ba rfl) rfl ?_)))))); refine G.v (bg (k := q) rfl rfl (by exact Rd.ba 1 rfl) (by omega) (by exact he)) rfl ?_; refine G.v (bb rfl) rfl (G.I (G.E (G.seq (G.region (G.v (ba rfl) rfl (G.v (ba rfl) rfl (G.v (bx rfl) rfl (G.v (bo rfl) rfl ?_)))))))); refine G.v (bi rfl (by exact Rd.ba 1 rfl) (by exact he) rfl) rfl ?_; refine G.v (ba rfl) rfl ?_; refine G.op (bq rfl (.cons rfl .nil) rfl rfl rfl rfl rfl rfl) rfl (fun vl _ => ?_); refine G.op (dh rfl rfl rfl hgi (by exact Rd.ba 0 rfl) rfl rfl (by (simp; omega)) (by (simp; omega))) rfl (fun va _ => ?_)
              skip; refine G.know (fun w hw => (Rd.grp 1 rfl (List.mem_of_getElem? (bw hgi)) w hw).one_) (fun hova => ?_)
              refine G.v (bx rfl) rfl (G.v (bo rfl) rfl ?_); refine G.bk (cx rfl rfl rfl (by exact he) (bK (by assumption)) rfl (by repeat (first | rfl | refine bB (by assumption) ?_)) rfl (.zero (.cons .nil))) (fun _ _ => ?_); refine G.I (G.E (G.seq ?_)); refine G.ba [7, 8, 9] ?_; refine GE.q 0 rfl (by as_aux_lemma => kernel_rfl) rfl (bc (ba rfl)) rfl ?_; refine GE.q 1 rfl (by as_aux_lemma => kernel_rfl) rfl (bc (bx rfl)) rfl ?_; refine GE.q 2 rfl (by as_aux_lemma => kernel_rfl) rfl (bc (bo rfl)) rfl ?_; refine GE.q 3 rfl (by as_aux_lemma => kernel_rfl) rfl (bc (bi rfl (by exact Rd.ba 2 rfl) (by exact bw he) rfl)) rfl ?_; refine GE.V 4 (by as_aux_lemma => kernel_rfl) rfl rfl (bd (be rfl)) rfl (fun _ _ h => by exact h) (fun _ _ => ?_); refine GE.V 5 (by as_aux_lemma => kernel_rfl) rfl rfl (bd (bf 4 rfl rfl rfl)) rfl (fun _ _ h => by exact h) (fun _ _ => ?_); refine GE.V 6 (by as_aux_lemma => kernel_rfl) rfl rfl (bd (bD rfl rfl (by omega) (by omega))) rfl (fun _ _ h => by exact h) (fun _ _ => ?_); refine GE.t 7 (by as_aux_lemma => kernel_rfl) rfl rfl rfl (bd (bx rfl)) rfl (fun _ _ => ?_); refine GE.t 8 (by as_aux_lemma => kernel_rfl) rfl rfl rfl (bd (bo rfl)) rfl (fun _ _ => ?_)
              refine GE.U 9 (by as_aux_lemma => kernel_rfl) rfl rfl rfl (cx rfl rfl rfl (by exact bw he) rfl rfl rfl rfl (.succ (.zero (.cons .nil)))) (fun _ _ => ?_); refine GE.E (by as_aux_lemma => kernel_rfl) ?_; refine G.E (G.seq ?_); refine G.ba [8, 9, 10] ?_; refine GE.q 0 rfl (by as_aux_lemma => kernel_rfl) rfl (bc (ba rfl)) rfl ?_; refine GE.q 1 rfl (by as_aux_lemma => kernel_rfl) rfl (bc (ba rfl)) rfl ?_; refine GE.q 2 rfl (by as_aux_lemma => kernel_rfl) rfl (bc (bx rfl)) rfl ?_; refine GE.q 3 rfl (by as_aux_lemma => kernel_rfl) rfl (bc (bo rfl)) rfl ?_; refine GE.q 4 rfl (by as_aux_lemma => kernel_rfl) rfl (bc (bi rfl (by exact Rd.ba 2 rfl) (by exact bw (bw he)) rfl)) rfl ?_; refine GE.V 5 (by as_aux_lemma => kernel_rfl) rfl rfl (bd (be rfl)) rfl (fun _ _ h => by exact h) (fun _ _ => ?_); refine GE.V 6 (by as_aux_lemma => kernel_rfl) rfl rfl (bd (bf 4 rfl rfl rfl)) rfl (fun _ _ h => by exact h) (fun _ _ => ?_); refine GE.V 7 (by as_aux_lemma => kernel_rfl) rfl rfl (bd (rv_max rfl rfl)) rfl (fun _ _ h => by exact h) (fun _ _ => ?_); refine GE.t 8 (by as_aux_lemma => kernel_rfl) rfl rfl rfl (bd (bx rfl)) rfl (fun _ _ => ?_); refine GE.t 9 (by as_aux_lemma => kernel_rfl) rfl rfl rfl (bd (bo rfl)) rfl (fun _ _ => ?_)
              refine GE.U 10 (by as_aux_lemma => kernel_rfl) rfl rfl rfl (cx rfl rfl rfl (by exact bw (bw he)) rfl rfl rfl rfl (.succ (.succ (.zero (.cons .nil))))) (fun _ _ => ?_); refine GE.E (by as_aux_lemma => kernel_rfl) ?_; refine G.E ?_; refine G.ba [7, 8, 9] ?_; refine GE.q 0 rfl (by as_aux_lemma => kernel_rfl) rfl (bc (ba rfl)) rfl ?_; refine GE.q 1 rfl (by as_aux_lemma => kernel_rfl) rfl (bc (bx rfl)) rfl ?_; refine GE.q 2 rfl (by as_aux_lemma => kernel_rfl) rfl (bc (bo rfl)) rfl ?_; refine GE.q 3 rfl (by as_aux_lemma => kernel_rfl) rfl (bc (bi rfl (by exact Rd.ba 2 rfl) (by exact bw (bw (bw he))) rfl)) rfl ?_; refine GE.V 4 (by as_aux_lemma => kernel_rfl) rfl rfl (bd (be rfl)) rfl (fun _ _ h => by exact h) (fun _ _ => ?_); refine GE.V 5 (by as_aux_lemma => kernel_rfl) rfl rfl (bd (bf 4 rfl rfl rfl)) rfl (fun _ _ h => by exact h) (fun _ _ => ?_); refine GE.V 6 (by as_aux_lemma => kernel_rfl) rfl rfl (bd (bD rfl rfl (by omega) (by omega))) rfl (fun _ _ h => by exact h) (fun _ _ => ?_); refine GE.t 7 (by as_aux_lemma => kernel_rfl) rfl rfl rfl (bd (bx rfl)) rfl (fun _ _ => ?_); refine GE.t 8 (by as_aux_lemma => kernel_rfl) rfl rfl rfl (bd (bo rfl)) rfl (fun _ _ => ?_)
              refine GE.U 9 (by as_aux_lemma => kernel_rfl) rfl rfl rfl (cx rfl rfl rfl (by exact bw (bw (bw he))) rfl rfl rfl rfl (.succ (.succ (.succ (.zero (.cons .nil)))))) (fun _ _ => ?_); refine GE.E (by as_aux_lemma => kernel_rfl) ?_; refine G.bc (G.E (G.region ?_)); refine G.v (bp rfl rfl (by omega)) rfl ?_; refine G.v (ba rfl) rfl (G.I ?_); refine G.be vr rfl ?_; refine G.br _ rfl ?_; refine G.bt 3 rfl ?_; refine G.V (k + 1, us.set q (layAdd t.1 k b.1, va), vr) 0 (cG (congrArg (fun z => Ch.grp 3 1 z) (sub_set (by simp only [layAdd, List.map_append, List.map_cons, List.map_nil, icell]))) (congrArg (fun z => Ch.row vr 129 4 z) (by rw [List.set_set, List.set_set, List.set_set]; exact dF rfl))) (.cons rfl (.cons rfl (.cons rfl (.nil)))) ?_ ?_ ?_
              exact ⟨rfl, rfl, trivial⟩
              exact ⟨hlt, by rw [bP hz, ← hM, hst, List.map_set]⟩
              omega
          · try exact Bool.noConfusion hc
            all_goals
             replace hc := of_decide_eq_false hc
             all_goals
              obtain ⟨us, hus⟩ : ∃ y, y = ts := ⟨_, rfl⟩
              obtain ⟨vr, hvr⟩ : ∃ y, y = v2 := ⟨_, rfl⟩
              have hl1 : (us.map LayerM.cells).length = q + 1 := by rw [hus]; omega
              have htl : t.1.l.length ≤ 1048576 := hlb
              have hst : pileStep (layRoom p) layAdd layZ (ts.map Prod.fst) (b.1, k) = (us.map Prod.fst).set q (layAdd t.1 k b.1) := by
                rw [hus]; exact pile_room (dA htq) (by rw [List.length_map]; omega) (by simp only [layRoom, Bool.and_eq_true, decide_eq_true_eq]; ((have hq9 := of_decide_eq_false hg; omega)))
              subst hvr hus
              all_goals
               refine G.skip (G.E (G.seq (G.region (G.v (ba rfl) rfl (G.v (ba rfl) rfl ?_))))); refine G.v (bg (k := q) rfl rfl (by exact Rd.ba 2 rfl) (by omega) (by exact he)) rfl ?_; refine G.v (bb rfl) rfl (G.I (G.E (G.seq (G.region (G.v (ba rfl) rfl (G.v (ba rfl) rfl (G.v (bx rfl) rfl (G.v (bo rfl) rfl ?_)))))))); refine G.v (bi rfl (by exact Rd.ba 2 rfl) (by exact he) rfl) rfl ?_; refine G.v (ba rfl) rfl ?_; refine G.op (bq rfl (.cons rfl .nil) rfl rfl rfl rfl rfl rfl) rfl (fun vl _ => ?_); refine G.op (og_appG2 rfl rfl rfl hgi (by exact Rd.ba 0 rfl) rfl rfl (by (simp; omega)) (by (simp; omega))) rfl (fun va _ => ?_)
               skip; refine G.know (fun w hw => (Rd.grp 2 rfl (List.mem_of_getElem? (bw hgi)) w hw).one_) (fun hova => ?_)
               refine G.v (bx rfl) rfl (G.v (bo rfl) rfl ?_); refine G.bk (cD rfl rfl rfl (by exact he) (bK (by assumption)) rfl (by repeat (first | rfl | refine bB (by assumption) ?_)) rfl (.zero (.cons .nil))) (fun _ _ => ?_); refine G.I (G.E (G.seq ?_)); refine G.ba [7, 8, 9] ?_; refine GE.q 0 rfl (by as_aux_lemma => kernel_rfl) rfl (bc (ba rfl)) rfl ?_; refine GE.q 1 rfl (by as_aux_lemma => kernel_rfl) rfl (bc (bx rfl)) rfl ?_; refine GE.q 2 rfl (by as_aux_lemma => kernel_rfl) rfl (bc (bo rfl)) rfl ?_; refine GE.q 3 rfl (by as_aux_lemma => kernel_rfl) rfl (bc (bi rfl (by exact Rd.ba 3 rfl) (by exact bw he) rfl)) rfl ?_; refine GE.V 4 (by as_aux_lemma => kernel_rfl) rfl rfl (bd (be rfl)) rfl (fun _ _ h => by exact h) (fun _ _ => ?_); refine GE.V 5 (by as_aux_lemma => kernel_rfl) rfl rfl (bd (bf 1 rfl rfl rfl)) rfl (fun _ _ h => by exact h) (fun _ _ => ?_); refine GE.V 6 (by as_aux_lemma => kernel_rfl) rfl rfl (bd (bD rfl rfl (by omega) (by omega))) rfl (fun _ _ h => by exact h) (fun _ _ => ?_); refine GE.t 7 (by as_aux_lemma => kernel_rfl) rfl rfl rfl (bd (bx rfl)) rfl (fun _ _ => ?_); refine GE.t 8 (by as_aux_lemma => kernel_rfl) rfl rfl rfl (bd (bo rfl)) rfl (fun _ _ => ?_)
               refine GE.U 9 (by as_aux_lemma => kernel_rfl) rfl rfl rfl (cD rfl rfl rfl (by exact bw he) rfl rfl rfl rfl (.succ (.zero (.cons .nil)))) (fun _ _ => ?_); refine GE.E (by as_aux_lemma => kernel_rfl) ?_; refine G.E (G.seq ?_); refine G.ba [8, 9, 10] ?_; refine GE.q 0 rfl (by as_aux_lemma => kernel_rfl) rfl (bc (ba rfl)) rfl ?_; refine GE.q 1 rfl (by as_aux_lemma => kernel_rfl) rfl (bc (ba rfl)) rfl ?_; refine GE.q 2 rfl (by as_aux_lemma => kernel_rfl) rfl (bc (bx rfl)) rfl ?_; refine GE.q 3 rfl (by as_aux_lemma => kernel_rfl) rfl (bc (bo rfl)) rfl ?_; refine GE.q 4 rfl (by as_aux_lemma => kernel_rfl) rfl (bc (bi rfl (by exact Rd.ba 3 rfl) (by exact bw (bw he)) rfl)) rfl ?_; refine GE.V 5 (by as_aux_lemma => kernel_rfl) rfl rfl (bd (be rfl)) rfl (fun _ _ h => by exact h) (fun _ _ => ?_); refine GE.V 6 (by as_aux_lemma => kernel_rfl) rfl rfl (bd (bf 1 rfl rfl rfl)) rfl (fun _ _ h => by exact h) (fun _ _ => ?_); refine GE.V 7 (by as_aux_lemma => kernel_rfl) rfl rfl (bd (rv_max rfl rfl)) rfl (fun _ _ h => by exact h) (fun _ _ => ?_); refine GE.t 8 (by as_aux_lemma => kernel_rfl) rfl rfl rfl (bd (bx rfl)) rfl (fun _ _ => ?_); refine GE.t 9 (by as_aux_lemma => kernel_rfl) rfl rfl rfl (bd (bo rfl)) rfl (fun _ _ => ?_)
               refine GE.U 10 (by as_aux_lemma => kernel_rfl) rfl rfl rfl (cD rfl rfl rfl (by exact bw (bw he)) rfl rfl rfl rfl (.succ (.succ (.zero (.cons .nil))))) (fun _ _ => ?_); refine GE.E (by as_aux_lemma => kernel_rfl) ?_; refine G.E ?_; refine G.ba [7, 8, 9] ?_; refine GE.q 0 rfl (by as_aux_lemma => kernel_rfl) rfl (bc (ba rfl)) rfl ?_; refine GE.q 1 rfl (by as_aux_lemma => kernel_rfl) rfl (bc (bx rfl)) rfl ?_; refine GE.q 2 rfl (by as_aux_lemma => kernel_rfl) rfl (bc (bo rfl)) rfl ?_; refine GE.q 3 rfl (by as_aux_lemma => kernel_rfl) rfl (bc (bi rfl (by exact Rd.ba 3 rfl) (by exact bw (bw (bw he))) rfl)) rfl ?_; refine GE.V 4 (by as_aux_lemma => kernel_rfl) rfl rfl (bd (be rfl)) rfl (fun _ _ h => by exact h) (fun _ _ => ?_); refine GE.V 5 (by as_aux_lemma => kernel_rfl) rfl rfl (bd (bf 1 rfl rfl rfl)) rfl (fun _ _ h => by exact h) (fun _ _ => ?_); refine GE.V 6 (by as_aux_lemma => kernel_rfl) rfl rfl (bd (bD rfl rfl (by omega) (by omega))) rfl (fun _ _ h => by exact h) (fun _ _ => ?_); refine GE.t 7 (by as_aux_lemma => kernel_rfl) rfl rfl rfl (bd (bx rfl)) rfl (fun _ _ => ?_); refine GE.t 8 (by as_aux_lemma => kernel_rfl) rfl rfl rfl (bd (bo rfl)) rfl (fun _ _ => ?_)
               refine GE.U 9 (by as_aux_lemma => kernel_rfl) rfl rfl rfl (cD rfl rfl rfl (by exact bw (bw (bw he))) rfl rfl rfl rfl (.succ (.succ (.succ (.zero (.cons .nil)))))) (fun _ _ => ?_); refine GE.E (by as_aux_lemma => kernel_rfl) ?_; refine G.bc (G.E (G.region ?_)); refine G.v (bp rfl rfl (by omega)) rfl ?_; refine G.v (ba rfl) rfl (G.I ?_); refine G.bi vr rfl ?_; refine G.bE _ rfl ?_; refine G.bt 2 rfl ?_; refine G.V (k + 1, us.set q (layAdd t.1 k b.1, va), vr) 0 (cG (congrArg (fun z => Ch.grp 3 1 z) (sub_set (by simp only [layAdd, List.map_append, List.map_cons, List.map_nil, icell]))) (congrArg (fun z => Ch.row vr 129 4 z) (by rw [List.set_set, List.set_set, List.set_set]; exact dF rfl))) (.cons rfl (.cons rfl (.cons rfl (.nil)))) ?_ ?_ ?_
               exact ⟨rfl, rfl, trivial⟩
               exact ⟨hlt, by rw [bP hz, ← hM, hst, List.map_set]⟩
               omega
     · all_goals
        replace hc := of_decide_eq_false hc
        simp only [List.length_map] at hc
        try (exfalso; omega)
        all_goals
         refine G.exit (G.L (G.L (G.bn (G.E (G.seq (G.region (G.v (ba rfl) rfl (G.v (bb rfl) rfl (G.I (G.E (G.ret ?_))))))))))); refine G.know (fun w hw => (Rd.ba 1 rfl w hw).one_) (fun hone => G.bg (v2, ts) ⟨hone, lay_end (bnot_no hok) hM (by rw [List.length_map]; exact hlt)⟩ rfl rfl rfl (fun w hw => hw.sublist (by repeat (first | exact List.Sublist.refl _ | refine List.Sublist.cons_cons _ ?_ | refine List.Sublist.cons _ ?_)))); done

theorem implLoadsOf_any (p : PalletM) {v : Value} {l : List (LayerM × Value)} (w : World) (h : Rd w v 4 (l.map LayerM.cells)) (hb : l.length ≤ 1048576) :
    Fn Tryz.prog 97 [p.val, v] w (fun x : Value × List (LoadM × Value) => x.1.oneCell' = true ∧ x.2.map Prod.fst = loadsM p (l.map Prod.fst)) (fun x => x.1) (fun x => [.grp 3 1 (x.2.map (sub LoadM.l)), .row x.1 127 3 (x.2.map LoadM.cells)]) := by
  have pile_lens : ∀ (xs : List (LayerM × Nat)) (k : Nat), ∀ t ∈ (xs.take k).foldl (pileStep (loadRoom p) loadAdd loadZ) [], t.l.length ≤ k := fun xs k => load_lens xs k
  refine Fn.of (n := 92) Tryz.func97 rfl rfl ?_; refine G.seq (G.region ?_); refine G.op (bE rfl rfl) rfl (fun bk2 _ => ?_); refine G.v (bb rfl) rfl (G.I (G.E (G.seq (G.seq (G.region (G.v (bj 0 rfl rfl rfl) rfl (G.v (ba rfl) rfl ?_))))))); refine G.op (bh rfl rfl (fun w hh => implStacksOk_any _ w (by exact Rd.stays (by assumption) _ hh))) rfl (fun _ _ => ?_); refine G.v (bF rfl) rfl (G.I (G.E ?_)); refine G.cond rfl (fun hc => ?_) (fun hc => ?_); refine G.seq (G.region (G.v (bb rfl) rfl (G.I (G.E (G.ret (G.O ?_))))))
  exact G.bg (.slice none 0 0, []) ⟨rfl, by rw [loadsM, if_neg (by intro hq; simp only [stacksOkM] at hq; rw [hq] at hc; exact Bool.noConfusion hc)]; rfl⟩ rfl rfl rfl (fun w hw => (hw.none.nilRow _ _).nilGrp _ _)
  · refine G.skip ?_
    refine G.E (G.seq (G.region ?_)); refine G.op (bq rfl .nil (by rfl) rfl rfl rfl rfl rfl) rfl (fun vl _ => ?_); refine G.v (bb rfl) rfl (G.I (G.E (G.seq (G.seq (G.region (G.v (ba rfl) rfl ?_)))))); refine G.v (bz rfl (by exact Rd.stays (by assumption))) rfl ?_; refine G.v (ba rfl) rfl (G.I (G.E (G.block ?_)))
    have hok := hc
    have hpp := pallet_in (palletOk_of hc)
    refine G.heap (fun w hh => hh.nilGrp 3 1) ?_; refine G.Y (ι := Nat × List (LoadM × Value) × Value) (ks := [2, 15, 16]) (fun x => [(5, x.2.2), (17, .int .i64 x.1)]) (fun x => [.grp 3 1 (x.2.1.map (sub LoadM.l)), .row x.2.2 127 3 (x.2.1.map LoadM.cells)]) (fun x => x.1 ≤ l.length ∧ x.2.1.map Prod.fst = ((l.map Prod.fst).zipIdx.take x.1).foldl (pileStep (loadRoom p) loadAdd loadZ) []) (fun x => l.length - x.1) (0, [], vl) (.cons rfl (.cons rfl (.cons rfl (.nil)))) rfl ?_ ?_ ?_
    exact ⟨Nat.zero_le _, rfl⟩
    exact ⟨rfl, rfl, trivial⟩
    rintro ⟨k, ts, v2⟩ ⟨hk, hM⟩
    dsimp only at hk hM ⊢
    by_cases hlt : k < l.length
    case' pos => (obtain ⟨b, hb2⟩ := bn hlt; have heb := bt hb2 LayerM.cells; have hobb := heap_in (ok_at hok (dA hb2 : (l.map Prod.fst)[k]? = some b.1)).2; have hov : b.2.oneCell' = true := (h.good _ (List.mem_of_getElem? heb)).2 b.2 (by simp [LayerM.cells]); have hz := zip_get (dA hb2 : (l.map Prod.fst)[k]? = some b.1); have hl0 : (ts.map LoadM.cells).length = ts.length := (by simp); have hlk : ts.length ≤ k := (by (have := dI (room := loadRoom p) (add := loadAdd) (z := loadZ) ((l.map Prod.fst).zipIdx.take k) []; rw [← hM] at this; simp only [List.length_map, List.length_nil, List.length_take] at this; omega)); rcases dx ts with hts | ⟨tp, t, hts⟩; have hn0 : ts.length = 0 := (by rw [hts]; rfl); rotate_left; have hn1 : ts.length = tp.length + 1 := (by (rw [hts]; simp)); obtain ⟨q, hq⟩ : ∃ y, y = tp.length := ⟨_, rfl⟩; have htq : ts[q]? = some t := (by (rw [hq]; exact get_last hts)); have he := bt htq LoadM.cells; have hgi : (ts.map (sub LoadM.l))[q]? = some (t.2, t.1.l.map icell) := cn htq; have hbt : 0 ≤ t.1.h ∧ t.1.h ≤ p.h ∧ 0 ≤ t.1.g ∧ t.1.g ≤ p.g := (by (have := load_bd (p := p) (ss := (l.map Prod.fst)) (bnot_no hok) k; rw [← hM] at this; exact this t.1 (List.mem_map.2 ⟨t, List.mem_of_getElem? htq, rfl⟩))); refine G.know (fun w hw => (Rd.grp 0 rfl (List.mem_of_getElem? hgi) w hw).one_) (fun hov2 => ?_); have hlb : t.1.l.length ≤ 1048576 := (by (have := pile_lens (l.map Prod.fst).zipIdx k; rw [← hM] at this; have := this t.1 (List.mem_map.2 ⟨t, List.mem_of_getElem? htq, rfl⟩); omega)))
    all_goals
     refine G.seq (G.region (G.v (br rfl rfl) rfl (G.I (G.E (G.seq ?_))))); refine G.cond rfl (fun hc => ?_) (fun hc => ?_)
     · all_goals
        replace hc := of_decide_eq_true hc
        simp only [List.length_map] at hc
        try (exfalso; omega)
        all_goals
         refine G.skip (G.E (G.seq (G.block (G.seq (G.region (G.v (ba rfl) rfl ?_)))))); refine G.v (bg rfl rfl (by exact Rd.stays (by assumption)) rfl (by exact heb)) rfl ?_; refine G.v (bN rfl (by exact Rd.stays (by assumption)) (by exact heb) rfl) rfl ?_; refine G.op (bu) rfl (fun bk7 _ => ?_); refine G.v (bb rfl) rfl ?_; refine G.bk (bL rfl rfl rfl rfl rfl (by repeat (first | rfl | refine bB (by assumption) ?_)) (.zero (.cons (.cons (.cons (.cons .nil)))))) (fun _ _ => ?_); refine G.I (G.E (G.seq (G.region (G.v (ba rfl) rfl ?_)))); refine G.v (bz rfl (by exact Rd.ba 2 rfl)) rfl ?_
         first | refine G.v (cq rfl rfl (by omega) (by omega)) rfl ?_ | refine G.v (b8 rfl rfl (by omega) (by omega)) rfl ?_
         refine G.v (bb rfl) rfl (G.I (G.E (G.seq (G.seq ?_)))); refine G.ba [] ?_; refine GE.V 0 (by as_aux_lemma => kernel_rfl) rfl rfl (bd (ba rfl)) rfl (fun _ _ h => by exact h) (fun _ _ => ?_); refine GE.V 1 (by as_aux_lemma => kernel_rfl) rfl rfl (bd (br rfl rfl)) rfl (fun _ _ h => by exact h) (fun _ _ => ?_); refine GE.V 2 (by as_aux_lemma => kernel_rfl) rfl rfl (bd (ba rfl)) rfl (fun _ _ h => by exact h) (fun _ _ => ?_)
         all_goals (((with_reducible refine GE.part (t := 27) rfl (fun hg => ?_) (fun hg => ?_)) <;> (try exact Bool.noConfusion hg) <;> (try (exfalso; (have hq := of_decide_eq_false hg; omega))) <;> (first | refine GE.q 3 rfl (by as_aux_lemma => kernel_rfl) rfl (bc (ba rfl)) rfl ?_ | refine GE.O 3 rfl (by as_aux_lemma => kernel_rfl) rfl rfl ?_)))
         all_goals ((first | refine GE.q 4 rfl (by as_aux_lemma => kernel_rfl) rfl (bc (ba rfl)) rfl ?_ | refine GE.O 4 rfl (by as_aux_lemma => kernel_rfl) rfl rfl ?_))
         all_goals ((first | (refine GE.q 5 rfl (by as_aux_lemma => kernel_rfl) rfl (bc (bg (k := q) rfl rfl (by exact Rd.ba 2 rfl) (by omega) (by exact he))) rfl ?_) | refine GE.O 5 rfl (by as_aux_lemma => kernel_rfl) rfl rfl ?_))
         all_goals ((first | (refine GE.q 6 rfl (by as_aux_lemma => kernel_rfl) rfl (bc (bo rfl)) rfl ?_) | refine GE.O 6 rfl (by as_aux_lemma => kernel_rfl) rfl rfl ?_))
         all_goals ((first | refine GE.q 7 rfl (by as_aux_lemma => kernel_rfl) rfl (bc (bi rfl (by first | exact Rd.stays (by assumption) | exact Rd.ba 2 rfl) (by first | exact he | exact heb) rfl)) rfl ?_ | refine GE.O 7 rfl (by as_aux_lemma => kernel_rfl) rfl rfl ?_))
         all_goals ((first | (refine GE.q 8 rfl (by as_aux_lemma => kernel_rfl) rfl (bc (be rfl)) rfl ?_) | refine GE.O 8 rfl (by as_aux_lemma => kernel_rfl) rfl rfl ?_))
         all_goals ((first | (refine GE.q 9 rfl (by as_aux_lemma => kernel_rfl) rfl (bc (bf 0 rfl rfl rfl)) rfl ?_) | refine GE.O 9 rfl (by as_aux_lemma => kernel_rfl) rfl rfl ?_))
         all_goals ((first | (refine GE.q 10 rfl (by as_aux_lemma => kernel_rfl) rfl (bc (bD rfl rfl (by omega) (by omega))) rfl ?_) | refine GE.O 10 rfl (by as_aux_lemma => kernel_rfl) rfl rfl ?_))
         all_goals ((first | (refine GE.q 11 rfl (by as_aux_lemma => kernel_rfl) rfl (bc (be rfl)) rfl ?_) | refine GE.O 11 rfl (by as_aux_lemma => kernel_rfl) rfl rfl ?_))
         all_goals ((first | (refine GE.q 12 rfl (by as_aux_lemma => kernel_rfl) rfl (bc (bf 3 rfl rfl rfl)) rfl ?_) | refine GE.O 12 rfl (by as_aux_lemma => kernel_rfl) rfl rfl ?_))
         all_goals ((first | refine GE.q 13 rfl (by as_aux_lemma => kernel_rfl) rfl (bc (b6 rfl rfl)) rfl ?_ | refine GE.O 13 rfl (by as_aux_lemma => kernel_rfl) rfl rfl ?_))
         all_goals ((first | refine GE.V 14 (by as_aux_lemma => kernel_rfl) rfl rfl (bd (bk rfl rfl)) rfl (fun _ _ h => by exact h) (fun _ _ => ?_) | refine GE.V 14 (by as_aux_lemma => kernel_rfl) rfl rfl (bd (bm rfl rfl)) rfl (fun _ _ h => by exact h) (fun _ _ => ?_)))
         all_goals (refine GE.V 15 (by as_aux_lemma => kernel_rfl) rfl rfl (bd (ba rfl)) rfl (fun _ _ h => by exact h) (fun _ _ => ?_))
         all_goals (((with_reducible refine GE.part (t := 40) rfl (fun hg => ?_) (fun hg => ?_)) <;> (try exact Bool.noConfusion hg) <;> (try (exfalso; (have hq := of_decide_eq_false hg; omega))) <;> (first | refine GE.q 16 rfl (by as_aux_lemma => kernel_rfl) rfl (bc (ba rfl)) rfl ?_ | refine GE.O 16 rfl (by as_aux_lemma => kernel_rfl) rfl rfl ?_)))
         all_goals ((first | refine GE.q 17 rfl (by as_aux_lemma => kernel_rfl) rfl (bc (ba rfl)) rfl ?_ | refine GE.O 17 rfl (by as_aux_lemma => kernel_rfl) rfl rfl ?_))
         all_goals ((first | (refine GE.q 18 rfl (by as_aux_lemma => kernel_rfl) rfl (bc (bg (k := q) rfl rfl (by exact Rd.ba 2 rfl) (by omega) (by exact he))) rfl ?_) | refine GE.O 18 rfl (by as_aux_lemma => kernel_rfl) rfl rfl ?_))
         all_goals ((first | (refine GE.q 19 rfl (by as_aux_lemma => kernel_rfl) rfl (bc (bo rfl)) rfl ?_) | refine GE.O 19 rfl (by as_aux_lemma => kernel_rfl) rfl rfl ?_))
         all_goals ((first | refine GE.q 20 rfl (by as_aux_lemma => kernel_rfl) rfl (bc (bi rfl (by first | exact Rd.stays (by assumption) | exact Rd.ba 2 rfl) (by first | exact he | exact heb) rfl)) rfl ?_ | refine GE.O 20 rfl (by as_aux_lemma => kernel_rfl) rfl rfl ?_))
         all_goals ((first | (refine GE.q 21 rfl (by as_aux_lemma => kernel_rfl) rfl (bc (be rfl)) rfl ?_) | refine GE.O 21 rfl (by as_aux_lemma => kernel_rfl) rfl rfl ?_))
         all_goals ((first | (refine GE.q 22 rfl (by as_aux_lemma => kernel_rfl) rfl (bc (bf 0 rfl rfl rfl)) rfl ?_) | refine GE.O 22 rfl (by as_aux_lemma => kernel_rfl) rfl rfl ?_))
         all_goals ((first | (refine GE.q 23 rfl (by as_aux_lemma => kernel_rfl) rfl (bc (bD rfl rfl (by omega) (by omega))) rfl ?_) | refine GE.O 23 rfl (by as_aux_lemma => kernel_rfl) rfl rfl ?_))
         all_goals ((first | (refine GE.q 24 rfl (by as_aux_lemma => kernel_rfl) rfl (bc (be rfl)) rfl ?_) | refine GE.O 24 rfl (by as_aux_lemma => kernel_rfl) rfl rfl ?_))
         all_goals ((first | (refine GE.q 25 rfl (by as_aux_lemma => kernel_rfl) rfl (bc (bf 3 rfl rfl rfl)) rfl ?_) | refine GE.O 25 rfl (by as_aux_lemma => kernel_rfl) rfl rfl ?_))
         all_goals ((first | refine GE.q 26 rfl (by as_aux_lemma => kernel_rfl) rfl (bc (b6 rfl rfl)) rfl ?_ | refine GE.O 26 rfl (by as_aux_lemma => kernel_rfl) rfl rfl ?_))
         all_goals ((first | refine GE.V 27 (by as_aux_lemma => kernel_rfl) rfl rfl (bd (bk rfl rfl)) rfl (fun _ _ h => by exact h) (fun _ _ => ?_) | refine GE.V 27 (by as_aux_lemma => kernel_rfl) rfl rfl (bd (bm rfl rfl)) rfl (fun _ _ h => by exact h) (fun _ _ => ?_)))
         all_goals
          refine GE.E (by as_aux_lemma => kernel_rfl) ?_; refine G.E ?_; refine G.cond rfl (fun hc => ?_) (fun hc => ?_)
          · all_goals
             try replace hc := of_decide_eq_true hc
             try simp only [List.length_map] at hc
             all_goals
              refine G.seq (G.region (G.v (ba rfl) rfl ?_)); refine G.v (bJ rfl .nil .nil) rfl ?_; refine G.op (bq rfl (.cons rfl .nil) (by rfl) rfl rfl rfl rfl rfl) rfl (fun vl _ => ?_); refine G.op (dt rfl rfl rfl (by exact Rd.ba 0 rfl) rfl rfl (by (simp; omega)) (by (simp; omega))) rfl (fun va _ => ?_); refine G.v (bb rfl) rfl (G.I (G.E (G.region (G.v (ba rfl) rfl ?_))))
              first | refine G.v (bp rfl rfl (by omega)) rfl ?_ | refine G.v (bD rfl rfl (by omega) (by omega)) rfl ?_
              obtain ⟨q, hq⟩ : ∃ y, y = ts.length := ⟨_, rfl⟩
              obtain ⟨t, htt⟩ : ∃ y, y = ((loadZ, .slice none 0 0) : LoadM × Value) := ⟨_, rfl⟩
              obtain ⟨us, hus⟩ : ∃ y, y = ts ++ [t] := ⟨_, rfl⟩
              obtain ⟨vr, hvr⟩ : ∃ y, y = va := ⟨_, rfl⟩
              subst hvr
              have huq : us[q]? = some t := by rw [hus, hq]; simp
              have he : (us.map LoadM.cells)[q]? = some (LoadM.cells t) := bt huq LoadM.cells
              have hgi : (us.map (sub LoadM.l))[q]? = some (t.2, t.1.l.map icell) := cn huq
              have hl1 : (us.map LoadM.cells).length = q + 1 := by rw [hus, hq]; simp
              have hzh : t.1.h = 0 := (by rw [htt]; rfl); have hzg : t.1.g = 0 := (by rw [htt]; rfl)
              have htl : t.1.l.length = 0 := by rw [htt]; rfl
              have hov2 : t.2.oneCell' = true := by rw [htt]; rfl
              have hst : pileStep (loadRoom p) loadAdd loadZ (ts.map Prod.fst) (b.1, k) = (us.map Prod.fst).set q (loadAdd t.1 k b.1) := by
                have e : us.map Prod.fst = ts.map Prod.fst ++ [loadZ] := by rw [hus, htt]; simp
                rw [e, htt, hq]
                have := pile_new (room := loadRoom p) (add := loadAdd) (z := loadZ) (out := ts.map Prod.fst) (s := b.1) (k := k) (by intro t2 ht2; first | (rw [hts] at ht2; simp at ht2; done) | (rw [last_of hts] at ht2; obtain rfl := Option.some.inj ht2; simp only [loadRoom, Bool.and_eq_false_iff, decide_eq_false_iff_not]; (first | (have hq9 := of_decide_eq_true hg; omega) | omega)))
                rw [this]; simp
              refine G.bi vr rfl ?_; refine G.bo (us.map LoadM.cells) (by rw [hus, htt]; simp [LoadM.cells, loadZ]) rfl ?_; refine G.bE _ rfl ?_; refine G.pushNil (us.map (sub LoadM.l)) (by rw [hus, htt]; simp [sub, loadZ]) rfl ?_; refine G.v (bb rfl) rfl (G.I (G.E (G.seq (G.region (G.v (ba rfl) rfl (G.v (ba rfl) rfl ?_)))))); refine G.v (bg (k := q) rfl rfl (by exact Rd.ba 1 rfl) (by omega) (by exact he)) rfl ?_; refine G.v (bb rfl) rfl (G.I (G.E (G.seq (G.region (G.v (ba rfl) rfl (G.v (ba rfl) rfl (G.v (bx rfl) rfl (G.v (bo rfl) rfl ?_)))))))); refine G.v (bi rfl (by exact Rd.ba 1 rfl) (by exact he) rfl) rfl ?_; refine G.v (ba rfl) rfl ?_; refine G.op (bq rfl (.cons rfl .nil) rfl rfl rfl rfl rfl rfl) rfl (fun vl _ => ?_); refine G.op (dh rfl rfl rfl hgi (by exact Rd.ba 0 rfl) rfl rfl (by (simp; omega)) (by (simp; omega))) rfl (fun va _ => ?_)
              skip; refine G.know (fun w hw => (Rd.grp 1 rfl (List.mem_of_getElem? (bw hgi)) w hw).one_) (fun hova => ?_)
              refine G.v (bx rfl) rfl (G.v (bo rfl) rfl ?_); refine G.bk (cx rfl rfl rfl (by exact he) (bK (by assumption)) rfl (by repeat (first | rfl | refine bB (by assumption) ?_)) rfl (.zero (.cons .nil))) (fun _ _ => ?_); refine G.I (G.E (G.seq ?_)); refine G.ba [7, 8, 9] ?_; refine GE.q 0 rfl (by as_aux_lemma => kernel_rfl) rfl (bc (ba rfl)) rfl ?_; refine GE.q 1 rfl (by as_aux_lemma => kernel_rfl) rfl (bc (bx rfl)) rfl ?_; refine GE.q 2 rfl (by as_aux_lemma => kernel_rfl) rfl (bc (bo rfl)) rfl ?_; refine GE.q 3 rfl (by as_aux_lemma => kernel_rfl) rfl (bc (bi rfl (by exact Rd.ba 2 rfl) (by exact bw he) rfl)) rfl ?_; refine GE.V 4 (by as_aux_lemma => kernel_rfl) rfl rfl (bd (be rfl)) rfl (fun _ _ h => by exact h) (fun _ _ => ?_); refine GE.V 5 (by as_aux_lemma => kernel_rfl) rfl rfl (bd (bf 4 rfl rfl rfl)) rfl (fun _ _ h => by exact h) (fun _ _ => ?_); refine GE.V 6 (by as_aux_lemma => kernel_rfl) rfl rfl (bd (bD rfl rfl (by omega) (by omega))) rfl (fun _ _ h => by exact h) (fun _ _ => ?_); refine GE.t 7 (by as_aux_lemma => kernel_rfl) rfl rfl rfl (bd (bx rfl)) rfl (fun _ _ => ?_); refine GE.t 8 (by as_aux_lemma => kernel_rfl) rfl rfl rfl (bd (bo rfl)) rfl (fun _ _ => ?_)
              refine GE.U 9 (by as_aux_lemma => kernel_rfl) rfl rfl rfl (cx rfl rfl rfl (by exact bw he) rfl rfl rfl rfl (.succ (.zero (.cons .nil)))) (fun _ _ => ?_); refine GE.E (by as_aux_lemma => kernel_rfl) ?_; refine G.E ?_; refine G.ba [7, 8, 9] ?_; refine GE.q 0 rfl (by as_aux_lemma => kernel_rfl) rfl (bc (ba rfl)) rfl ?_; refine GE.q 1 rfl (by as_aux_lemma => kernel_rfl) rfl (bc (bx rfl)) rfl ?_; refine GE.q 2 rfl (by as_aux_lemma => kernel_rfl) rfl (bc (bo rfl)) rfl ?_; refine GE.q 3 rfl (by as_aux_lemma => kernel_rfl) rfl (bc (bi rfl (by exact Rd.ba 2 rfl) (by exact bw (bw he)) rfl)) rfl ?_; refine GE.V 4 (by as_aux_lemma => kernel_rfl) rfl rfl (bd (be rfl)) rfl (fun _ _ h => by exact h) (fun _ _ => ?_); refine GE.V 5 (by as_aux_lemma => kernel_rfl) rfl rfl (bd (bf 4 rfl rfl rfl)) rfl (fun _ _ h => by exact h) (fun _ _ => ?_); refine GE.V 6 (by as_aux_lemma => kernel_rfl) rfl rfl (bd (bD rfl rfl (by omega) (by omega))) rfl (fun _ _ h => by exact h) (fun _ _ => ?_); refine GE.t 7 (by as_aux_lemma => kernel_rfl) rfl rfl rfl (bd (bx rfl)) rfl (fun _ _ => ?_); refine GE.t 8 (by as_aux_lemma => kernel_rfl) rfl rfl rfl (bd (bo rfl)) rfl (fun _ _ => ?_)
              refine GE.U 9 (by as_aux_lemma => kernel_rfl) rfl rfl rfl (cx rfl rfl rfl (by exact bw (bw he)) rfl rfl rfl rfl (.succ (.succ (.zero (.cons .nil))))) (fun _ _ => ?_); refine GE.E (by as_aux_lemma => kernel_rfl) ?_; refine G.bc (G.E (G.region ?_)); refine G.v (bp rfl rfl (by omega)) rfl ?_; refine G.v (ba rfl) rfl (G.I ?_); refine G.be vr rfl ?_; refine G.br _ rfl ?_; refine G.bt 3 rfl ?_; refine G.V (k + 1, us.set q (loadAdd t.1 k b.1, va), vr) 0 (cG (congrArg (fun z => Ch.grp 3 1 z) (sub_set (by simp only [loadAdd, List.map_append, List.map_cons, List.map_nil, icell]))) (congrArg (fun z => Ch.row vr 127 3 z) (by rw [List.set_set, List.set_set]; exact dF rfl))) (.cons rfl (.cons rfl (.cons rfl (.nil)))) ?_ ?_ ?_
              exact ⟨rfl, rfl, trivial⟩
              exact ⟨hlt, by rw [bP hz, ← hM, hst, List.map_set]⟩
              omega
          · try exact Bool.noConfusion hc
            all_goals
             replace hc := of_decide_eq_false hc
             all_goals
              obtain ⟨us, hus⟩ : ∃ y, y = ts := ⟨_, rfl⟩
              obtain ⟨vr, hvr⟩ : ∃ y, y = v2 := ⟨_, rfl⟩
              have hl1 : (us.map LoadM.cells).length = q + 1 := by rw [hus]; omega
              have htl : t.1.l.length ≤ 1048576 := hlb
              have hst : pileStep (loadRoom p) loadAdd loadZ (ts.map Prod.fst) (b.1, k) = (us.map Prod.fst).set q (loadAdd t.1 k b.1) := by
                rw [hus]; exact pile_room (dA htq) (by rw [List.length_map]; omega) (by simp only [loadRoom, Bool.and_eq_true, decide_eq_true_eq]; ((have hq9 := of_decide_eq_false hg; omega)))
              subst hvr hus
              all_goals
               refine G.skip (G.E (G.seq (G.region (G.v (ba rfl) rfl (G.v (ba rfl) rfl ?_))))); refine G.v (bg (k := q) rfl rfl (by exact Rd.ba 2 rfl) (by omega) (by exact he)) rfl ?_; refine G.v (bb rfl) rfl (G.I (G.E (G.seq (G.region (G.v (ba rfl) rfl (G.v (ba rfl) rfl (G.v (bx rfl) rfl (G.v (bo rfl) rfl ?_)))))))); refine G.v (bi rfl (by exact Rd.ba 2 rfl) (by exact he) rfl) rfl ?_; refine G.v (ba rfl) rfl ?_; refine G.op (bq rfl (.cons rfl .nil) rfl rfl rfl rfl rfl rfl) rfl (fun vl _ => ?_); refine G.op (og_appG2 rfl rfl rfl hgi (by exact Rd.ba 0 rfl) rfl rfl (by (simp; omega)) (by (simp; omega))) rfl (fun va _ => ?_)
               skip; refine G.know (fun w hw => (Rd.grp 2 rfl (List.mem_of_getElem? (bw hgi)) w hw).one_) (fun hova => ?_)
               refine G.v (bx rfl) rfl (G.v (bo rfl) rfl ?_); refine G.bk (cD rfl rfl rfl (by exact he) (bK (by assumption)) rfl (by repeat (first | rfl | refine bB (by assumption) ?_)) rfl (.zero (.cons .nil))) (fun _ _ => ?_); refine G.I (G.E (G.seq ?_)); refine G.ba [7, 8, 9] ?_; refine GE.q 0 rfl (by as_aux_lemma => kernel_rfl) rfl (bc (ba rfl)) rfl ?_; refine GE.q 1 rfl (by as_aux_lemma => kernel_rfl) rfl (bc (bx rfl)) rfl ?_; refine GE.q 2 rfl (by as_aux_lemma => kernel_rfl) rfl (bc (bo rfl)) rfl ?_; refine GE.q 3 rfl (by as_aux_lemma => kernel_rfl) rfl (bc (bi rfl (by exact Rd.ba 3 rfl) (by exact bw he) rfl)) rfl ?_; refine GE.V 4 (by as_aux_lemma => kernel_rfl) rfl rfl (bd (be rfl)) rfl (fun _ _ h => by exact h) (fun _ _ => ?_); refine GE.V 5 (by as_aux_lemma => kernel_rfl) rfl rfl (bd (bf 1 rfl rfl rfl)) rfl (fun _ _ h => by exact h) (fun _ _ => ?_); refine GE.V 6 (by as_aux_lemma => kernel_rfl) rfl rfl (bd (bD rfl rfl (by omega) (by omega))) rfl (fun _ _ h => by exact h) (fun _ _ => ?_); refine GE.t 7 (by as_aux_lemma => kernel_rfl) rfl rfl rfl (bd (bx rfl)) rfl (fun _ _ => ?_); refine GE.t 8 (by as_aux_lemma => kernel_rfl) rfl rfl rfl (bd (bo rfl)) rfl (fun _ _ => ?_)
               refine GE.U 9 (by as_aux_lemma => kernel_rfl) rfl rfl rfl (cD rfl rfl rfl (by exact bw he) rfl rfl rfl rfl (.succ (.zero (.cons .nil)))) (fun _ _ => ?_); refine GE.E (by as_aux_lemma => kernel_rfl) ?_; refine G.E ?_; refine G.ba [7, 8, 9] ?_; refine GE.q 0 rfl (by as_aux_lemma => kernel_rfl) rfl (bc (ba rfl)) rfl ?_; refine GE.q 1 rfl (by as_aux_lemma => kernel_rfl) rfl (bc (bx rfl)) rfl ?_; refine GE.q 2 rfl (by as_aux_lemma => kernel_rfl) rfl (bc (bo rfl)) rfl ?_; refine GE.q 3 rfl (by as_aux_lemma => kernel_rfl) rfl (bc (bi rfl (by exact Rd.ba 3 rfl) (by exact bw (bw he)) rfl)) rfl ?_; refine GE.V 4 (by as_aux_lemma => kernel_rfl) rfl rfl (bd (be rfl)) rfl (fun _ _ h => by exact h) (fun _ _ => ?_); refine GE.V 5 (by as_aux_lemma => kernel_rfl) rfl rfl (bd (bf 1 rfl rfl rfl)) rfl (fun _ _ h => by exact h) (fun _ _ => ?_); refine GE.V 6 (by as_aux_lemma => kernel_rfl) rfl rfl (bd (bD rfl rfl (by omega) (by omega))) rfl (fun _ _ h => by exact h) (fun _ _ => ?_); refine GE.t 7 (by as_aux_lemma => kernel_rfl) rfl rfl rfl (bd (bx rfl)) rfl (fun _ _ => ?_); refine GE.t 8 (by as_aux_lemma => kernel_rfl) rfl rfl rfl (bd (bo rfl)) rfl (fun _ _ => ?_)
               refine GE.U 9 (by as_aux_lemma => kernel_rfl) rfl rfl rfl (cD rfl rfl rfl (by exact bw (bw he)) rfl rfl rfl rfl (.succ (.succ (.zero (.cons .nil))))) (fun _ _ => ?_); refine GE.E (by as_aux_lemma => kernel_rfl) ?_; refine G.bc (G.E (G.region ?_)); refine G.v (bp rfl rfl (by omega)) rfl ?_; refine G.v (ba rfl) rfl (G.I ?_); refine G.bi vr rfl ?_; refine G.bE _ rfl ?_; refine G.bt 2 rfl ?_; refine G.V (k + 1, us.set q (loadAdd t.1 k b.1, va), vr) 0 (cG (congrArg (fun z => Ch.grp 3 1 z) (sub_set (by simp only [loadAdd, List.map_append, List.map_cons, List.map_nil, icell]))) (congrArg (fun z => Ch.row vr 127 3 z) (by rw [List.set_set, List.set_set]; exact dF rfl))) (.cons rfl (.cons rfl (.cons rfl (.nil)))) ?_ ?_ ?_
               exact ⟨rfl, rfl, trivial⟩
               exact ⟨hlt, by rw [bP hz, ← hM, hst, List.map_set]⟩
               omega
     · all_goals
        replace hc := of_decide_eq_false hc
        simp only [List.length_map] at hc
        try (exfalso; omega)
        all_goals
         refine G.exit (G.L (G.L (G.bn (G.E (G.seq (G.region (G.v (ba rfl) rfl (G.v (bb rfl) rfl (G.I (G.E (G.ret ?_))))))))))); refine G.know (fun w hw => (Rd.ba 1 rfl w hw).one_) (fun hone => G.bg (v2, ts) ⟨hone, load_end (bnot_no hok) hM (by rw [List.length_map]; exact hlt)⟩ rfl rfl rfl (fun w hw => hw.sublist (by repeat (first | exact List.Sublist.refl _ | refine List.Sublist.cons_cons _ ?_ | refine List.Sublist.cons _ ?_)))); done

theorem shelf_lens {p : PalletM} (xs : List (BoxM × Nat)) (k : Nat) : ∀ t ∈ (xs.take k).foldl (pileStep (shelfRoom p) shelfAdd shelfZ) [], t.l.length ≤ k := by
  intro t ht
  have := pile_sum (room := shelfRoom p) (add := shelfAdd) (z := shelfZ) (fun t => t.l.length) (by simp [shelfAdd, shelfZ]) (by simp [shelfAdd]) (xs.take k) [] 0 (by simp) t ht
  rw [List.length_take] at this; omega
theorem implShelves_any (p : PalletM) {v : Value} {l : List BoxM} (w : World) (h : Rd w v 4 (l.map BoxM.cells)) (hb : l.length ≤ 1048576) :
    Fn Tryz.prog 95 [p.val, v] w (fun x : Value × List (ShelfM × Value) => x.1.oneCell' = true ∧ x.2.map Prod.fst = shelvesM p l) (fun x => x.1) (fun x => [.grp 3 1 (x.2.map (sub ShelfM.l)), .row x.1 131 5 (x.2.map ShelfM.cells)]) := by
  have pile_lens : ∀ (xs : List (BoxM × Nat)) (k : Nat), ∀ t ∈ (xs.take k).foldl (pileStep (shelfRoom p) shelfAdd shelfZ) [], t.l.length ≤ k := fun xs k => shelf_lens xs k
  have hln : (l.map BoxM.cells).length = l.length := by simp
  have hlk0 : (l.map BoxM.d).length = l.length := by simp
  refine Fn.of (n := 133) Tryz.func95 rfl rfl ?_; refine G.seq (G.region ?_); refine G.op (bE rfl rfl) rfl (fun bk2 _ => ?_); refine G.v (bb rfl) rfl (G.I (G.E (G.seq (G.seq (G.region (G.v (bj 0 rfl rfl rfl) rfl (G.v (ba rfl) rfl ?_))))))); refine G.op (bh rfl rfl (fun w hh => boxesOk_any _ w (by exact Rd.stays (by assumption) _ hh))) rfl (fun _ _ => ?_); refine G.v (bF rfl) rfl (G.I (G.E ?_)); refine G.cond rfl (fun hc => ?_) (fun hc => ?_); refine G.seq (G.region (G.v (bb rfl) rfl (G.I (G.E (G.ret (G.O ?_))))))
  exact G.bg (.slice none 0 0, []) ⟨rfl, by rw [shelf_no (by simpa using hc)]; rfl⟩ rfl rfl rfl (fun w hw => (hw.none.nilRow _ _).nilGrp _ _)
  · refine G.skip ?_
    refine G.E (G.seq (G.region ?_)); refine G.op (bq rfl .nil rfl rfl rfl rfl rfl rfl) rfl (fun vl _ => ?_); refine G.v (bb rfl) rfl (G.I (G.E (G.seq (G.seq (G.region (G.v (ba rfl) rfl ?_)))))); refine G.v (bz rfl (by exact Rd.stays (by assumption))) rfl ?_; refine G.v (ba rfl) rfl (G.I (G.E (G.block ?_)))
    have hok := hc
    have hpp := pallet_in (palletOk_of hc)
    refine G.Y (ι := Nat × Value) (ks := [1, 2, 19, 20]) (fun x => [(5, x.2), (21, .int .i64 (x.1 : Int))]) (fun x => [.row x.2 3 1 (((l.take x.1).map BoxM.d).map icell)]) (fun x => x.1 ≤ l.length) (fun x => l.length - x.1) (0, vl) (.cons rfl (.cons rfl (.cons rfl (.cons rfl (.nil))))) rfl ?_ ?_ ?_
    exact Nat.zero_le _
    exact ⟨rfl, rfl, trivial⟩
    rintro ⟨k0, v0⟩ hk0
    dsimp only at hk0 ⊢
    have hl9 : (((l.take k0).map BoxM.d).map icell).length = k0 := by (simp; omega)
    by_cases hlt0 : k0 < l.length
    case' pos => (obtain ⟨b, hb2⟩ := bn hlt0; have heb := bt hb2 BoxM.cells)
    case' neg => (have hkall : ((l.take k0).map BoxM.d).map icell = (l.map BoxM.d).map icell := (by rw [List.take_of_length_le (by omega)]))
    all_goals
     refine G.seq (G.region (G.v (br rfl rfl) rfl (G.I (G.E (G.seq ?_))))); refine G.cond rfl (fun hc => ?_) (fun hc => ?_)
     · all_goals
        replace hc := of_decide_eq_true hc
        simp only [List.length_map] at hc
        try (exfalso; omega)
        all_goals
         refine G.skip (G.E (G.seq (G.block (G.seq (G.region ?_))))); refine G.v (bg rfl rfl (by exact Rd.stays (by assumption)) rfl (by exact heb)) rfl ?_; refine G.v (bN rfl (by exact Rd.stays (by assumption)) (by exact heb) rfl) rfl ?_; refine G.op (bu) rfl (fun bk7 _ => ?_); refine G.bk (bL rfl rfl rfl rfl rfl rfl (.zero (.cons (.cons (.cons (.cons .nil)))))) (fun _ _ => ?_); refine G.I (G.E (G.region (G.v (ba rfl) rfl (G.v (be rfl) rfl (G.v (bf 0 rfl rfl rfl) rfl ?_))))); refine G.op (bq rfl (.cons rfl .nil) rfl rfl rfl rfl rfl rfl) rfl (fun vl _ => ?_); refine G.op (cC rfl rfl rfl (by exact Rd.ba 0 rfl) rfl rfl (by (simp; omega)) (by (simp; omega))) rfl (fun va _ => ?_); refine G.v (bb rfl) rfl (G.I (G.bc (G.E (G.region ?_)))); refine G.v (bp rfl rfl (by omega)) rfl ?_; refine G.v (ba rfl) rfl (G.I ?_); refine G.V (k0 + 1, va) 2 (bV (congrArg (fun z => Ch.row va 3 1 z) (dsnoc hb2))) (.cons rfl (.cons rfl (.cons rfl (.cons rfl (.nil))))) ?_ ?_ ?_
         exact ⟨rfl, rfl, trivial⟩
         dsimp only; omega
         dsimp only; omega
     · all_goals
        replace hc := of_decide_eq_false hc
        simp only [List.length_map] at hc
        try (exfalso; omega)
        all_goals
         refine G.exit (G.L (G.L (G.bn (G.E (G.seq (G.region ?_)))))); refine G.op (bq rfl .nil (by rfl) rfl rfl rfl rfl rfl) rfl (fun vl _ => ?_); refine G.v (bb rfl) rfl (G.I (G.E (G.seq (G.seq (G.region (G.v (ba rfl) rfl ?_))))))
         first | (refine G.op (bH rfl rfl (fun w hh => cU (ks := l.map BoxM.d) w (by rw [← hkall]; first | exact Rd.ba 0 rfl _ hh | exact Rd.ba 1 rfl _ hh | exact Rd.ba 2 rfl _ hh | exact Rd.ba 3 rfl _ hh) (by omega))) rfl ?_; rintro vo hvo; try dsimp only) | (refine G.op (bX rfl rfl (fun w hh => cU (ks := l.map BoxM.d) w (by rw [← hkall]; first | exact Rd.ba 0 rfl _ hh | exact Rd.ba 1 rfl _ hh | exact Rd.ba 2 rfl _ hh | exact Rd.ba 3 rfl _ hh) (by omega))) rfl ?_; rintro vo hvo; try dsimp only) | (refine G.op (og_callF3 rfl rfl (fun w hh => cU (ks := l.map BoxM.d) w (by rw [← hkall]; first | exact Rd.ba 0 rfl _ hh | exact Rd.ba 1 rfl _ hh | exact Rd.ba 2 rfl _ hh | exact Rd.ba 3 rfl _ hh) (by omega))) rfl ?_; rintro vo hvo; try dsimp only) | (refine G.op (bT rfl rfl (fun w hh => cU (ks := l.map BoxM.d) w (by rw [← hkall]; first | exact Rd.ba 0 rfl _ hh | exact Rd.ba 1 rfl _ hh | exact Rd.ba 2 rfl _ hh | exact Rd.ba 3 rfl _ hh) (by omega))) rfl ?_; rintro vo hvo; try dsimp only) | (refine G.op (dv rfl rfl (fun w hh => cU (ks := l.map BoxM.d) w (by rw [← hkall]; first | exact Rd.ba 0 rfl _ hh | exact Rd.ba 1 rfl _ hh | exact Rd.ba 2 rfl _ hh | exact Rd.ba 3 rfl _ hh) (by omega))) rfl ?_; rintro vo hvo; try dsimp only)
         refine G.v (bz rfl (by exact Rd.ba 0 rfl)) rfl ?_; refine G.v (ba rfl) rfl (G.I (G.E (G.block ?_))); refine G.bm vl rfl ?_; refine G.heap (fun w hh => hh.nilGrp 3 1) ?_
         have hoL := cP (keyM (l.map BoxM.d)) l.length
         have hol2 : ((ordM (keyM (l.map BoxM.d)) (l.map BoxM.d).length).map ncell).length = l.length := by rw [List.length_map, cP, hlk0]
         refine G.Y (ι := Nat × List (ShelfM × Value) × Value) (ks := [1, 2, 33, 34]) (fun x => [(8, x.2.2), (35, .int .i64 (x.1 : Int))]) (fun x => [.grp 3 1 (x.2.1.map (sub ShelfM.l)), .row x.2.2 131 5 (x.2.1.map ShelfM.cells)]) (fun x => x.1 ≤ l.length ∧ x.2.1.map Prod.fst = ((shelfXs l).take x.1).foldl (pileStep (shelfRoom p) shelfAdd shelfZ) []) (fun x => l.length - x.1) (0, [], vl) (.cons rfl (.cons rfl (.cons rfl (.cons rfl (.nil))))) rfl ?_ ?_ ?_
         exact ⟨Nat.zero_le _, rfl⟩
         exact ⟨rfl, rfl, trivial⟩
         rintro ⟨k, ts, v2⟩ ⟨hk, hM⟩
         dsimp only at hk hM ⊢
         by_cases hlt : k < l.length
         case' pos => (obtain ⟨x, hx⟩ := bn (l := ordM (keyM (l.map BoxM.d)) l.length) (k := k) (by omega); have hxl : x < l.length := dJ.1 (List.mem_of_getElem? hx); have heo : ((ordM (keyM (l.map BoxM.d)) (l.map BoxM.d).length).map ncell)[k]? = some (ncell x) := bt (by rw [hlk0]; exact hx) ncell; obtain ⟨b, hb2⟩ := bn hxl; have heb := bt hb2 BoxM.cells; have hobb := box_in (ok_at hok hb2).2; have hz := xs_get hx hb2; have hl0 : (ts.map ShelfM.cells).length = ts.length := (by simp); have hlk : ts.length ≤ k := (by (have := dI (room := shelfRoom p) (add := shelfAdd) (z := shelfZ) ((shelfXs l).take k) []; rw [← hM] at this; simp only [List.length_map, List.length_nil, List.length_take] at this; omega)); rcases dx ts with hts | ⟨tp, t, hts⟩; have hn0 : ts.length = 0 := (by rw [hts]; rfl); rotate_left; have hn1 : ts.length = tp.length + 1 := (by (rw [hts]; simp)); obtain ⟨q, hq⟩ : ∃ y, y = tp.length := ⟨_, rfl⟩; have htq : ts[q]? = some t := (by (rw [hq]; exact get_last hts)); have he := bt htq ShelfM.cells; have hgi : (ts.map (sub ShelfM.l))[q]? = some (t.2, t.1.l.map icell) := cn htq; have hbt : 0 ≤ t.1.w ∧ t.1.w ≤ p.w ∧ 0 ≤ t.1.d ∧ t.1.d ≤ p.d ∧ 0 ≤ t.1.h ∧ t.1.h ≤ p.h ∧ 0 ≤ t.1.g ∧ t.1.g ≤ p.g := (by (have := shelf_bd (p := p) (l := l) (bnot_no hok) k; rw [← hM] at this; exact this t.1 (List.mem_map.2 ⟨t, List.mem_of_getElem? htq, rfl⟩))); refine G.know (fun w hw => (Rd.grp 0 rfl (List.mem_of_getElem? hgi) w hw).one_) (fun hov2 => ?_); have hlb : t.1.l.length ≤ 1048576 := (by (have := pile_lens (shelfXs l) k; rw [← hM] at this; have := this t.1 (List.mem_map.2 ⟨t, List.mem_of_getElem? htq, rfl⟩); omega)))
         all_goals
          refine G.seq (G.region (G.v (br rfl rfl) rfl (G.I (G.E (G.seq ?_))))); refine G.cond rfl (fun hc => ?_) (fun hc => ?_)
          · all_goals
             replace hc := of_decide_eq_true hc
             simp only [List.length_map] at hc
             try (exfalso; omega)
             all_goals
              refine G.skip (G.E (G.seq (G.block (G.seq (G.region ?_))))); refine G.v (bg rfl rfl (by exact Rd.ba 2 rfl) rfl (by exact heo)) rfl ?_; refine G.v (bi rfl (by exact Rd.ba 2 rfl) (by exact heo) rfl) rfl ?_; refine G.v (bb rfl) rfl (G.I (G.E (G.seq (G.region (G.v (ba rfl) rfl (G.v (ba rfl) rfl ?_)))))); refine G.v (bg rfl rfl (by exact Rd.stays (by assumption)) rfl (by exact heb)) rfl ?_; refine G.v (bN rfl (by exact Rd.stays (by assumption)) (by exact heb) rfl) rfl ?_; refine G.op (bu) rfl (fun bk11 _ => ?_); refine G.bk (bL rfl rfl rfl rfl rfl rfl (.zero (.cons (.cons (.cons (.cons .nil)))))) (fun _ _ => ?_); refine G.I (G.E (G.seq (G.region (G.v (ba rfl) rfl ?_)))); refine G.v (bz rfl (by exact Rd.ba 2 rfl)) rfl ?_
              first | refine G.v (cq rfl rfl (by omega) (by omega)) rfl ?_ | refine G.v (b8 rfl rfl (by omega) (by omega)) rfl ?_
              refine G.v (bb rfl) rfl (G.I (G.E (G.seq (G.seq ?_)))); refine G.ba [] ?_; refine GE.V 0 (by as_aux_lemma => kernel_rfl) rfl rfl (bd (ba rfl)) rfl (fun _ _ h => by exact h) (fun _ _ => ?_); refine GE.V 1 (by as_aux_lemma => kernel_rfl) rfl rfl (bd (br rfl rfl)) rfl (fun _ _ h => by exact h) (fun _ _ => ?_); refine GE.V 2 (by as_aux_lemma => kernel_rfl) rfl rfl (bd (ba rfl)) rfl (fun _ _ h => by exact h) (fun _ _ => ?_)
              all_goals (((with_reducible refine GE.part (t := 48) rfl (fun hg => ?_) (fun hg => ?_)) <;> (try exact Bool.noConfusion hg) <;> (try (exfalso; (have hq := of_decide_eq_false hg; omega))) <;> (first | refine GE.q 3 rfl (by as_aux_lemma => kernel_rfl) rfl (bc (ba rfl)) rfl ?_ | refine GE.O 3 rfl (by as_aux_lemma => kernel_rfl) rfl rfl ?_)))
              all_goals ((first | refine GE.q 4 rfl (by as_aux_lemma => kernel_rfl) rfl (bc (ba rfl)) rfl ?_ | refine GE.O 4 rfl (by as_aux_lemma => kernel_rfl) rfl rfl ?_))
              all_goals ((first | (refine GE.q 5 rfl (by as_aux_lemma => kernel_rfl) rfl (bc (bg (k := q) rfl rfl (by exact Rd.ba 2 rfl) (by omega) (by exact he))) rfl ?_) | refine GE.O 5 rfl (by as_aux_lemma => kernel_rfl) rfl rfl ?_))
              all_goals ((first | (refine GE.q 6 rfl (by as_aux_lemma => kernel_rfl) rfl (bc (bo rfl)) rfl ?_) | refine GE.O 6 rfl (by as_aux_lemma => kernel_rfl) rfl rfl ?_))
              all_goals ((first | refine GE.q 7 rfl (by as_aux_lemma => kernel_rfl) rfl (bc (bi rfl (by first | exact Rd.stays (by assumption) | exact Rd.ba 2 rfl) (by first | exact he | exact heb) rfl)) rfl ?_ | refine GE.O 7 rfl (by as_aux_lemma => kernel_rfl) rfl rfl ?_))
              all_goals ((first | (refine GE.q 8 rfl (by as_aux_lemma => kernel_rfl) rfl (bc (be rfl)) rfl ?_) | refine GE.O 8 rfl (by as_aux_lemma => kernel_rfl) rfl rfl ?_))
              all_goals ((first | (refine GE.q 9 rfl (by as_aux_lemma => kernel_rfl) rfl (bc (bf 0 rfl rfl rfl)) rfl ?_) | refine GE.O 9 rfl (by as_aux_lemma => kernel_rfl) rfl rfl ?_))
              all_goals ((first | (refine GE.q 10 rfl (by as_aux_lemma => kernel_rfl) rfl (bc (bD rfl rfl (by omega) (by omega))) rfl ?_) | refine GE.O 10 rfl (by as_aux_lemma => kernel_rfl) rfl rfl ?_))
              all_goals ((first | (refine GE.q 11 rfl (by as_aux_lemma => kernel_rfl) rfl (bc (be rfl)) rfl ?_) | refine GE.O 11 rfl (by as_aux_lemma => kernel_rfl) rfl rfl ?_))
              all_goals ((first | (refine GE.q 12 rfl (by as_aux_lemma => kernel_rfl) rfl (bc (bf 5 rfl rfl rfl)) rfl ?_) | refine GE.O 12 rfl (by as_aux_lemma => kernel_rfl) rfl rfl ?_))
              all_goals ((first | refine GE.q 13 rfl (by as_aux_lemma => kernel_rfl) rfl (bc (b6 rfl rfl)) rfl ?_ | refine GE.O 13 rfl (by as_aux_lemma => kernel_rfl) rfl rfl ?_))
              all_goals ((first | refine GE.V 14 (by as_aux_lemma => kernel_rfl) rfl rfl (bd (bk rfl rfl)) rfl (fun _ _ h => by exact h) (fun _ _ => ?_) | refine GE.V 14 (by as_aux_lemma => kernel_rfl) rfl rfl (bd (bm rfl rfl)) rfl (fun _ _ h => by exact h) (fun _ _ => ?_)))
              all_goals (refine GE.V 15 (by as_aux_lemma => kernel_rfl) rfl rfl (bd (ba rfl)) rfl (fun _ _ h => by exact h) (fun _ _ => ?_))
              all_goals (((with_reducible refine GE.part (t := 61) rfl (fun hg => ?_) (fun hg => ?_)) <;> (try exact Bool.noConfusion hg) <;> (try (exfalso; (have hq := of_decide_eq_false hg; omega))) <;> (first | refine GE.q 16 rfl (by as_aux_lemma => kernel_rfl) rfl (bc (ba rfl)) rfl ?_ | refine GE.O 16 rfl (by as_aux_lemma => kernel_rfl) rfl rfl ?_)))
              all_goals ((first | refine GE.q 17 rfl (by as_aux_lemma => kernel_rfl) rfl (bc (ba rfl)) rfl ?_ | refine GE.O 17 rfl (by as_aux_lemma => kernel_rfl) rfl rfl ?_))
              all_goals ((first | (refine GE.q 18 rfl (by as_aux_lemma => kernel_rfl) rfl (bc (bg (k := q) rfl rfl (by exact Rd.ba 2 rfl) (by omega) (by exact he))) rfl ?_) | refine GE.O 18 rfl (by as_aux_lemma => kernel_rfl) rfl rfl ?_))
              all_goals ((first | (refine GE.q 19 rfl (by as_aux_lemma => kernel_rfl) rfl (bc (bo rfl)) rfl ?_) | refine GE.O 19 rfl (by as_aux_lemma => kernel_rfl) rfl rfl ?_))
              all_goals ((first | refine GE.q 20 rfl (by as_aux_lemma => kernel_rfl) rfl (bc (bi rfl (by first | exact Rd.stays (by assumption) | exact Rd.ba 2 rfl) (by first | exact he | exact heb) rfl)) rfl ?_ | refine GE.O 20 rfl (by as_aux_lemma => kernel_rfl) rfl rfl ?_))
              all_goals ((first | (refine GE.q 21 rfl (by as_aux_lemma => kernel_rfl) rfl (bc (be rfl)) rfl ?_) | refine GE.O 21 rfl (by as_aux_lemma => kernel_rfl) rfl rfl ?_))
              all_goals ((first | (refine GE.q 22 rfl (by as_aux_lemma => kernel_rfl) rfl (bc (bf 0 rfl rfl rfl)) rfl ?_) | refine GE.O 22 rfl (by as_aux_lemma => kernel_rfl) rfl rfl ?_))
              all_goals ((first | (refine GE.q 23 rfl (by as_aux_lemma => kernel_rfl) rfl (bc (bD rfl rfl (by omega) (by omega))) rfl ?_) | refine GE.O 23 rfl (by as_aux_lemma => kernel_rfl) rfl rfl ?_))
              all_goals ((first | (refine GE.q 24 rfl (by as_aux_lemma => kernel_rfl) rfl (bc (be rfl)) rfl ?_) | refine GE.O 24 rfl (by as_aux_lemma => kernel_rfl) rfl rfl ?_))
              all_goals ((first | (refine GE.q 25 rfl (by as_aux_lemma => kernel_rfl) rfl (bc (bf 5 rfl rfl rfl)) rfl ?_) | refine GE.O 25 rfl (by as_aux_lemma => kernel_rfl) rfl rfl ?_))
              all_goals ((first | refine GE.q 26 rfl (by as_aux_lemma => kernel_rfl) rfl (bc (b6 rfl rfl)) rfl ?_ | refine GE.O 26 rfl (by as_aux_lemma => kernel_rfl) rfl rfl ?_))
              all_goals ((first | refine GE.V 27 (by as_aux_lemma => kernel_rfl) rfl rfl (bd (bk rfl rfl)) rfl (fun _ _ h => by exact h) (fun _ _ => ?_) | refine GE.V 27 (by as_aux_lemma => kernel_rfl) rfl rfl (bd (bm rfl rfl)) rfl (fun _ _ h => by exact h) (fun _ _ => ?_)))
              all_goals
               refine GE.E (by as_aux_lemma => kernel_rfl) ?_; refine G.E ?_; refine G.cond rfl (fun hc => ?_) (fun hc => ?_)
               · all_goals
                  try replace hc := of_decide_eq_true hc
                  try simp only [List.length_map] at hc
                  all_goals
                   refine G.seq (G.region (G.v (ba rfl) rfl ?_)); refine G.v (bJ rfl .nil .nil) rfl ?_; refine G.op (bq rfl (.cons rfl .nil) (by rfl) rfl rfl rfl rfl rfl) rfl (fun vl _ => ?_); refine G.op (dt rfl rfl rfl (by exact Rd.ba 0 rfl) rfl rfl (by (simp; omega)) (by (simp; omega))) rfl (fun va _ => ?_); refine G.v (bb rfl) rfl (G.I (G.E (G.region (G.v (ba rfl) rfl ?_))))
                   first | refine G.v (bp rfl rfl (by omega)) rfl ?_ | refine G.v (bD rfl rfl (by omega) (by omega)) rfl ?_
                   obtain ⟨q, hq⟩ : ∃ y, y = ts.length := ⟨_, rfl⟩
                   obtain ⟨t, htt⟩ : ∃ y, y = ((shelfZ, .slice none 0 0) : ShelfM × Value) := ⟨_, rfl⟩
                   obtain ⟨us, hus⟩ : ∃ y, y = ts ++ [t] := ⟨_, rfl⟩
                   obtain ⟨vr, hvr⟩ : ∃ y, y = va := ⟨_, rfl⟩
                   subst hvr
                   have huq : us[q]? = some t := by rw [hus, hq]; simp
                   have he : (us.map ShelfM.cells)[q]? = some (ShelfM.cells t) := bt huq ShelfM.cells
                   have hgi : (us.map (sub ShelfM.l))[q]? = some (t.2, t.1.l.map icell) := cn huq
                   have hl1 : (us.map ShelfM.cells).length = q + 1 := by rw [hus, hq]; simp
                   have hzw : t.1.w = 0 := (by rw [htt]; rfl); have hzd : t.1.d = 0 := (by rw [htt]; rfl); have hzh : t.1.h = 0 := (by rw [htt]; rfl); have hzg : t.1.g = 0 := (by rw [htt]; rfl)
                   have htl : t.1.l.length = 0 := by rw [htt]; rfl
                   have hov2 : t.2.oneCell' = true := by rw [htt]; rfl
                   have hst : pileStep (shelfRoom p) shelfAdd shelfZ (ts.map Prod.fst) (b, x) = (us.map Prod.fst).set q (shelfAdd t.1 x b) := by
                     have e : us.map Prod.fst = ts.map Prod.fst ++ [shelfZ] := by rw [hus, htt]; simp
                     rw [e, htt, hq]
                     have := pile_new (room := shelfRoom p) (add := shelfAdd) (z := shelfZ) (out := ts.map Prod.fst) (s := b) (k := x) (by intro t2 ht2; first | (rw [hts] at ht2; simp at ht2; done) | (rw [last_of hts] at ht2; obtain rfl := Option.some.inj ht2; simp only [shelfRoom, Bool.and_eq_false_iff, decide_eq_false_iff_not]; (first | (have hq9 := of_decide_eq_true hg; omega) | omega)))
                     rw [this]; simp
                   refine G.bi vr rfl ?_; refine G.bo (us.map ShelfM.cells) (by rw [hus, htt]; simp [ShelfM.cells, shelfZ]) rfl ?_; refine G.bE _ rfl ?_; refine G.pushNil (us.map (sub ShelfM.l)) (by rw [hus, htt]; simp [sub, shelfZ]) rfl ?_; refine G.v (bb rfl) rfl (G.I (G.E (G.seq (G.region (G.v (ba rfl) rfl (G.v (ba rfl) rfl ?_)))))); refine G.v (bg (k := q) rfl rfl (by exact Rd.ba 1 rfl) (by omega) (by exact he)) rfl ?_; refine G.v (bb rfl) rfl (G.I (G.E (G.seq (G.region (G.v (ba rfl) rfl (G.v (ba rfl) rfl (G.v (bx rfl) rfl (G.v (bo rfl) rfl ?_)))))))); refine G.v (bi rfl (by exact Rd.ba 1 rfl) (by exact he) rfl) rfl ?_; refine G.v (ba rfl) rfl ?_; refine G.op (bq rfl (.cons rfl .nil) rfl rfl rfl rfl rfl rfl) rfl (fun vl _ => ?_); refine G.op (dh rfl rfl rfl hgi (by exact Rd.ba 0 rfl) rfl rfl (by (simp; omega)) (by (simp; omega))) rfl (fun va _ => ?_)
                   skip; refine G.know (fun w hw => (Rd.grp 1 rfl (List.mem_of_getElem? (bw hgi)) w hw).one_) (fun hova => ?_)
                   refine G.v (bx rfl) rfl (G.v (bo rfl) rfl ?_); refine G.bk (cx rfl rfl rfl (by exact he) (bK (by assumption)) rfl (by repeat (first | rfl | refine bB (by assumption) ?_)) rfl (.zero (.cons .nil))) (fun _ _ => ?_); refine G.I (G.E (G.seq ?_)); refine G.ba [7, 8, 9] ?_; refine GE.q 0 rfl (by as_aux_lemma => kernel_rfl) rfl (bc (ba rfl)) rfl ?_; refine GE.q 1 rfl (by as_aux_lemma => kernel_rfl) rfl (bc (bx rfl)) rfl ?_; refine GE.q 2 rfl (by as_aux_lemma => kernel_rfl) rfl (bc (bo rfl)) rfl ?_; refine GE.q 3 rfl (by as_aux_lemma => kernel_rfl) rfl (bc (bi rfl (by exact Rd.ba 2 rfl) (by exact bw he) rfl)) rfl ?_; refine GE.V 4 (by as_aux_lemma => kernel_rfl) rfl rfl (bd (be rfl)) rfl (fun _ _ h => by exact h) (fun _ _ => ?_); refine GE.V 5 (by as_aux_lemma => kernel_rfl) rfl rfl (bd (bf 4 rfl rfl rfl)) rfl (fun _ _ h => by exact h) (fun _ _ => ?_); refine GE.V 6 (by as_aux_lemma => kernel_rfl) rfl rfl (bd (bD rfl rfl (by omega) (by omega))) rfl (fun _ _ h => by exact h) (fun _ _ => ?_); refine GE.t 7 (by as_aux_lemma => kernel_rfl) rfl rfl rfl (bd (bx rfl)) rfl (fun _ _ => ?_); refine GE.t 8 (by as_aux_lemma => kernel_rfl) rfl rfl rfl (bd (bo rfl)) rfl (fun _ _ => ?_)
                   refine GE.U 9 (by as_aux_lemma => kernel_rfl) rfl rfl rfl (cx rfl rfl rfl (by exact bw he) rfl rfl rfl rfl (.succ (.zero (.cons .nil)))) (fun _ _ => ?_); refine GE.E (by as_aux_lemma => kernel_rfl) ?_; refine G.E (G.seq ?_); refine G.ba [8, 9, 10] ?_; refine GE.q 0 rfl (by as_aux_lemma => kernel_rfl) rfl (bc (ba rfl)) rfl ?_; refine GE.q 1 rfl (by as_aux_lemma => kernel_rfl) rfl (bc (ba rfl)) rfl ?_; refine GE.q 2 rfl (by as_aux_lemma => kernel_rfl) rfl (bc (bx rfl)) rfl ?_; refine GE.q 3 rfl (by as_aux_lemma => kernel_rfl) rfl (bc (bo rfl)) rfl ?_; refine GE.q 4 rfl (by as_aux_lemma => kernel_rfl) rfl (bc (bi rfl (by exact Rd.ba 2 rfl) (by exact bw (bw he)) rfl)) rfl ?_; refine GE.V 5 (by as_aux_lemma => kernel_rfl) rfl rfl (bd (be rfl)) rfl (fun _ _ h => by exact h) (fun _ _ => ?_); refine GE.V 6 (by as_aux_lemma => kernel_rfl) rfl rfl (bd (bf 4 rfl rfl rfl)) rfl (fun _ _ h => by exact h) (fun _ _ => ?_); refine GE.V 7 (by as_aux_lemma => kernel_rfl) rfl rfl (bd (rv_max rfl rfl)) rfl (fun _ _ h => by exact h) (fun _ _ => ?_); refine GE.t 8 (by as_aux_lemma => kernel_rfl) rfl rfl rfl (bd (bx rfl)) rfl (fun _ _ => ?_); refine GE.t 9 (by as_aux_lemma => kernel_rfl) rfl rfl rfl (bd (bo rfl)) rfl (fun _ _ => ?_)
                   refine GE.U 10 (by as_aux_lemma => kernel_rfl) rfl rfl rfl (cx rfl rfl rfl (by exact bw (bw he)) rfl rfl rfl rfl (.succ (.succ (.zero (.cons .nil))))) (fun _ _ => ?_); refine GE.E (by as_aux_lemma => kernel_rfl) ?_; refine G.E (G.seq ?_); refine G.ba [8, 9, 10] ?_; refine GE.q 0 rfl (by as_aux_lemma => kernel_rfl) rfl (bc (ba rfl)) rfl ?_; refine GE.q 1 rfl (by as_aux_lemma => kernel_rfl) rfl (bc (ba rfl)) rfl ?_; refine GE.q 2 rfl (by as_aux_lemma => kernel_rfl) rfl (bc (bx rfl)) rfl ?_; refine GE.q 3 rfl (by as_aux_lemma => kernel_rfl) rfl (bc (bo rfl)) rfl ?_; refine GE.q 4 rfl (by as_aux_lemma => kernel_rfl) rfl (bc (bi rfl (by exact Rd.ba 2 rfl) (by exact bw (bw (bw he))) rfl)) rfl ?_; refine GE.V 5 (by as_aux_lemma => kernel_rfl) rfl rfl (bd (be rfl)) rfl (fun _ _ h => by exact h) (fun _ _ => ?_); refine GE.V 6 (by as_aux_lemma => kernel_rfl) rfl rfl (bd (bf 4 rfl rfl rfl)) rfl (fun _ _ h => by exact h) (fun _ _ => ?_); refine GE.V 7 (by as_aux_lemma => kernel_rfl) rfl rfl (bd (rv_max rfl rfl)) rfl (fun _ _ h => by exact h) (fun _ _ => ?_); refine GE.t 8 (by as_aux_lemma => kernel_rfl) rfl rfl rfl (bd (bx rfl)) rfl (fun _ _ => ?_); refine GE.t 9 (by as_aux_lemma => kernel_rfl) rfl rfl rfl (bd (bo rfl)) rfl (fun _ _ => ?_)
                   refine GE.U 10 (by as_aux_lemma => kernel_rfl) rfl rfl rfl (cx rfl rfl rfl (by exact bw (bw (bw he))) rfl rfl rfl rfl (.succ (.succ (.succ (.zero (.cons .nil)))))) (fun _ _ => ?_); refine GE.E (by as_aux_lemma => kernel_rfl) ?_; refine G.E ?_; refine G.ba [7, 8, 9] ?_; refine GE.q 0 rfl (by as_aux_lemma => kernel_rfl) rfl (bc (ba rfl)) rfl ?_; refine GE.q 1 rfl (by as_aux_lemma => kernel_rfl) rfl (bc (bx rfl)) rfl ?_; refine GE.q 2 rfl (by as_aux_lemma => kernel_rfl) rfl (bc (bo rfl)) rfl ?_; refine GE.q 3 rfl (by as_aux_lemma => kernel_rfl) rfl (bc (bi rfl (by exact Rd.ba 2 rfl) (by exact bw (bw (bw (bw he)))) rfl)) rfl ?_; refine GE.V 4 (by as_aux_lemma => kernel_rfl) rfl rfl (bd (be rfl)) rfl (fun _ _ h => by exact h) (fun _ _ => ?_); refine GE.V 5 (by as_aux_lemma => kernel_rfl) rfl rfl (bd (bf 4 rfl rfl rfl)) rfl (fun _ _ h => by exact h) (fun _ _ => ?_); refine GE.V 6 (by as_aux_lemma => kernel_rfl) rfl rfl (bd (bD rfl rfl (by omega) (by omega))) rfl (fun _ _ h => by exact h) (fun _ _ => ?_); refine GE.t 7 (by as_aux_lemma => kernel_rfl) rfl rfl rfl (bd (bx rfl)) rfl (fun _ _ => ?_); refine GE.t 8 (by as_aux_lemma => kernel_rfl) rfl rfl rfl (bd (bo rfl)) rfl (fun _ _ => ?_)
                   refine GE.U 9 (by as_aux_lemma => kernel_rfl) rfl rfl rfl (cx rfl rfl rfl (by exact bw (bw (bw (bw he)))) rfl rfl rfl rfl (.succ (.succ (.succ (.succ (.zero (.cons .nil))))))) (fun _ _ => ?_); refine GE.E (by as_aux_lemma => kernel_rfl) ?_; refine G.bc (G.E (G.region ?_)); refine G.v (bp rfl rfl (by omega)) rfl ?_; refine G.v (ba rfl) rfl (G.I ?_); refine G.be vr rfl ?_; refine G.br _ rfl ?_; refine G.bt 3 rfl ?_; refine G.V (k + 1, us.set q (shelfAdd t.1 x b, va), vr) 0 (cG (congrArg (fun z => Ch.grp 3 1 z) (sub_set (by simp only [shelfAdd, List.map_append, List.map_cons, List.map_nil, icell]))) (congrArg (fun z => Ch.row vr 131 5 z) (by rw [List.set_set, List.set_set, List.set_set, List.set_set]; exact dF rfl))) (.cons rfl (.cons rfl (.cons rfl (.cons rfl (.nil))))) ?_ ?_ ?_
                   exact ⟨rfl, rfl, trivial⟩
                   exact ⟨hlt, by rw [bP hz, ← hM, hst, List.map_set]⟩
                   omega
               · try exact Bool.noConfusion hc
                 all_goals
                  replace hc := of_decide_eq_false hc
                  all_goals
                   obtain ⟨us, hus⟩ : ∃ y, y = ts := ⟨_, rfl⟩
                   obtain ⟨vr, hvr⟩ : ∃ y, y = v2 := ⟨_, rfl⟩
                   have hl1 : (us.map ShelfM.cells).length = q + 1 := by rw [hus]; omega
                   have htl : t.1.l.length ≤ 1048576 := hlb
                   have hst : pileStep (shelfRoom p) shelfAdd shelfZ (ts.map Prod.fst) (b, x) = (us.map Prod.fst).set q (shelfAdd t.1 x b) := by
                     rw [hus]; exact pile_room (dA htq) (by rw [List.length_map]; omega) (by simp only [shelfRoom, Bool.and_eq_true, decide_eq_true_eq]; ((have hq9 := of_decide_eq_false hg; omega)))
                   subst hvr hus
                   all_goals
                    refine G.skip (G.E (G.seq (G.region (G.v (ba rfl) rfl (G.v (ba rfl) rfl ?_))))); refine G.v (bg (k := q) rfl rfl (by exact Rd.ba 2 rfl) (by omega) (by exact he)) rfl ?_; refine G.v (bb rfl) rfl (G.I (G.E (G.seq (G.region (G.v (ba rfl) rfl (G.v (ba rfl) rfl (G.v (bx rfl) rfl (G.v (bo rfl) rfl ?_)))))))); refine G.v (bi rfl (by exact Rd.ba 2 rfl) (by exact he) rfl) rfl ?_; refine G.v (ba rfl) rfl ?_; refine G.op (bq rfl (.cons rfl .nil) rfl rfl rfl rfl rfl rfl) rfl (fun vl _ => ?_); refine G.op (og_appG2 rfl rfl rfl hgi (by exact Rd.ba 0 rfl) rfl rfl (by (simp; omega)) (by (simp; omega))) rfl (fun va _ => ?_)
                    skip; refine G.know (fun w hw => (Rd.grp 2 rfl (List.mem_of_getElem? (bw hgi)) w hw).one_) (fun hova => ?_)
                    refine G.v (bx rfl) rfl (G.v (bo rfl) rfl ?_); refine G.bk (cD rfl rfl rfl (by exact he) (bK (by assumption)) rfl (by repeat (first | rfl | refine bB (by assumption) ?_)) rfl (.zero (.cons .nil))) (fun _ _ => ?_); refine G.I (G.E (G.seq ?_)); refine G.ba [7, 8, 9] ?_; refine GE.q 0 rfl (by as_aux_lemma => kernel_rfl) rfl (bc (ba rfl)) rfl ?_; refine GE.q 1 rfl (by as_aux_lemma => kernel_rfl) rfl (bc (bx rfl)) rfl ?_; refine GE.q 2 rfl (by as_aux_lemma => kernel_rfl) rfl (bc (bo rfl)) rfl ?_; refine GE.q 3 rfl (by as_aux_lemma => kernel_rfl) rfl (bc (bi rfl (by exact Rd.ba 3 rfl) (by exact bw he) rfl)) rfl ?_; refine GE.V 4 (by as_aux_lemma => kernel_rfl) rfl rfl (bd (be rfl)) rfl (fun _ _ h => by exact h) (fun _ _ => ?_); refine GE.V 5 (by as_aux_lemma => kernel_rfl) rfl rfl (bd (bf 1 rfl rfl rfl)) rfl (fun _ _ h => by exact h) (fun _ _ => ?_); refine GE.V 6 (by as_aux_lemma => kernel_rfl) rfl rfl (bd (bD rfl rfl (by omega) (by omega))) rfl (fun _ _ h => by exact h) (fun _ _ => ?_); refine GE.t 7 (by as_aux_lemma => kernel_rfl) rfl rfl rfl (bd (bx rfl)) rfl (fun _ _ => ?_); refine GE.t 8 (by as_aux_lemma => kernel_rfl) rfl rfl rfl (bd (bo rfl)) rfl (fun _ _ => ?_)
                    refine GE.U 9 (by as_aux_lemma => kernel_rfl) rfl rfl rfl (cD rfl rfl rfl (by exact bw he) rfl rfl rfl rfl (.succ (.zero (.cons .nil)))) (fun _ _ => ?_); refine GE.E (by as_aux_lemma => kernel_rfl) ?_; refine G.E (G.seq ?_); refine G.ba [8, 9, 10] ?_; refine GE.q 0 rfl (by as_aux_lemma => kernel_rfl) rfl (bc (ba rfl)) rfl ?_; refine GE.q 1 rfl (by as_aux_lemma => kernel_rfl) rfl (bc (ba rfl)) rfl ?_; refine GE.q 2 rfl (by as_aux_lemma => kernel_rfl) rfl (bc (bx rfl)) rfl ?_; refine GE.q 3 rfl (by as_aux_lemma => kernel_rfl) rfl (bc (bo rfl)) rfl ?_; refine GE.q 4 rfl (by as_aux_lemma => kernel_rfl) rfl (bc (bi rfl (by exact Rd.ba 3 rfl) (by exact bw (bw he)) rfl)) rfl ?_; refine GE.V 5 (by as_aux_lemma => kernel_rfl) rfl rfl (bd (be rfl)) rfl (fun _ _ h => by exact h) (fun _ _ => ?_); refine GE.V 6 (by as_aux_lemma => kernel_rfl) rfl rfl (bd (bf 1 rfl rfl rfl)) rfl (fun _ _ h => by exact h) (fun _ _ => ?_); refine GE.V 7 (by as_aux_lemma => kernel_rfl) rfl rfl (bd (rv_max rfl rfl)) rfl (fun _ _ h => by exact h) (fun _ _ => ?_); refine GE.t 8 (by as_aux_lemma => kernel_rfl) rfl rfl rfl (bd (bx rfl)) rfl (fun _ _ => ?_); refine GE.t 9 (by as_aux_lemma => kernel_rfl) rfl rfl rfl (bd (bo rfl)) rfl (fun _ _ => ?_)
                    refine GE.U 10 (by as_aux_lemma => kernel_rfl) rfl rfl rfl (cD rfl rfl rfl (by exact bw (bw he)) rfl rfl rfl rfl (.succ (.succ (.zero (.cons .nil))))) (fun _ _ => ?_); refine GE.E (by as_aux_lemma => kernel_rfl) ?_; refine G.E (G.seq ?_); refine G.ba [8, 9, 10] ?_; refine GE.q 0 rfl (by as_aux_lemma => kernel_rfl) rfl (bc (ba rfl)) rfl ?_; refine GE.q 1 rfl (by as_aux_lemma => kernel_rfl) rfl (bc (ba rfl)) rfl ?_; refine GE.q 2 rfl (by as_aux_lemma => kernel_rfl) rfl (bc (bx rfl)) rfl ?_; refine GE.q 3 rfl (by as_aux_lemma => kernel_rfl) rfl (bc (bo rfl)) rfl ?_; refine GE.q 4 rfl (by as_aux_lemma => kernel_rfl) rfl (bc (bi rfl (by exact Rd.ba 3 rfl) (by exact bw (bw (bw he))) rfl)) rfl ?_; refine GE.V 5 (by as_aux_lemma => kernel_rfl) rfl rfl (bd (be rfl)) rfl (fun _ _ h => by exact h) (fun _ _ => ?_); refine GE.V 6 (by as_aux_lemma => kernel_rfl) rfl rfl (bd (bf 1 rfl rfl rfl)) rfl (fun _ _ h => by exact h) (fun _ _ => ?_); refine GE.V 7 (by as_aux_lemma => kernel_rfl) rfl rfl (bd (rv_max rfl rfl)) rfl (fun _ _ h => by exact h) (fun _ _ => ?_); refine GE.t 8 (by as_aux_lemma => kernel_rfl) rfl rfl rfl (bd (bx rfl)) rfl (fun _ _ => ?_); refine GE.t 9 (by as_aux_lemma => kernel_rfl) rfl rfl rfl (bd (bo rfl)) rfl (fun _ _ => ?_)
                    refine GE.U 10 (by as_aux_lemma => kernel_rfl) rfl rfl rfl (cD rfl rfl rfl (by exact bw (bw (bw he))) rfl rfl rfl rfl (.succ (.succ (.succ (.zero (.cons .nil)))))) (fun _ _ => ?_); refine GE.E (by as_aux_lemma => kernel_rfl) ?_; refine G.E ?_; refine G.ba [7, 8, 9] ?_; refine GE.q 0 rfl (by as_aux_lemma => kernel_rfl) rfl (bc (ba rfl)) rfl ?_; refine GE.q 1 rfl (by as_aux_lemma => kernel_rfl) rfl (bc (bx rfl)) rfl ?_; refine GE.q 2 rfl (by as_aux_lemma => kernel_rfl) rfl (bc (bo rfl)) rfl ?_; refine GE.q 3 rfl (by as_aux_lemma => kernel_rfl) rfl (bc (bi rfl (by exact Rd.ba 3 rfl) (by exact bw (bw (bw (bw he)))) rfl)) rfl ?_; refine GE.V 4 (by as_aux_lemma => kernel_rfl) rfl rfl (bd (be rfl)) rfl (fun _ _ h => by exact h) (fun _ _ => ?_); refine GE.V 5 (by as_aux_lemma => kernel_rfl) rfl rfl (bd (bf 1 rfl rfl rfl)) rfl (fun _ _ h => by exact h) (fun _ _ => ?_); refine GE.V 6 (by as_aux_lemma => kernel_rfl) rfl rfl (bd (bD rfl rfl (by omega) (by omega))) rfl (fun _ _ h => by exact h) (fun _ _ => ?_); refine GE.t 7 (by as_aux_lemma => kernel_rfl) rfl rfl rfl (bd (bx rfl)) rfl (fun _ _ => ?_); refine GE.t 8 (by as_aux_lemma => kernel_rfl) rfl rfl rfl (bd (bo rfl)) rfl (fun _ _ => ?_)
                    refine GE.U 9 (by as_aux_lemma => kernel_rfl) rfl rfl rfl (cD rfl rfl rfl (by exact bw (bw (bw (bw he)))) rfl rfl rfl rfl (.succ (.succ (.succ (.succ (.zero (.cons .nil))))))) (fun _ _ => ?_); refine GE.E (by as_aux_lemma => kernel_rfl) ?_; refine G.bc (G.E (G.region ?_)); refine G.v (bp rfl rfl (by omega)) rfl ?_; refine G.v (ba rfl) rfl (G.I ?_); refine G.bi vr rfl ?_; refine G.bE _ rfl ?_; refine G.bt 2 rfl ?_; refine G.V (k + 1, us.set q (shelfAdd t.1 x b, va), vr) 0 (cG (congrArg (fun z => Ch.grp 3 1 z) (sub_set (by simp only [shelfAdd, List.map_append, List.map_cons, List.map_nil, icell]))) (congrArg (fun z => Ch.row vr 131 5 z) (by rw [List.set_set, List.set_set, List.set_set, List.set_set]; exact dF rfl))) (.cons rfl (.cons rfl (.cons rfl (.cons rfl (.nil))))) ?_ ?_ ?_
                    exact ⟨rfl, rfl, trivial⟩
                    exact ⟨hlt, by rw [bP hz, ← hM, hst, List.map_set]⟩
                    omega
          · all_goals
             replace hc := of_decide_eq_false hc
             simp only [List.length_map] at hc
             try (exfalso; omega)
             all_goals
              refine G.exit (G.L (G.L (G.bn (G.E (G.seq (G.region (G.v (ba rfl) rfl (G.v (bb rfl) rfl (G.I (G.E (G.ret ?_))))))))))); refine G.know (fun w hw => (Rd.ba 1 rfl w hw).one_) (fun hone => G.bg (v2, ts) ⟨hone, shelf_end (bnot_no hok) hM hlt⟩ rfl rfl rfl (fun w hw => hw.sublist (by repeat (first | exact List.Sublist.refl _ | refine List.Sublist.cons_cons _ ?_ | refine List.Sublist.cons _ ?_)))); done
end Go.Proofs.YtglpgohilfoecaaGreat

/-
  What piles keep: their order, their need, their sums. No program is in sight here.
-/
namespace Go.Proofs.YtglpgohilfoecaaGreat
open Go.RowKit
section
variable {M S : Type} {room : M → S → Bool} {add : M → Nat → S → M} {z : M} (f : M → List Int) (hz : f z = []) (ha : ∀ t k s, f (add t k s) = f t ++ [(k : Int)])
include hz ha
theorem step_flat (out : List M) (x : S × Nat) : ((pileStep room add z out x).map f).flatten = (out.map f).flatten ++ [(x.2 : Int)] := by
  rcases List.eq_nil_or_concat out with h | ⟨o, t, h⟩
  · subst h; simp [pileStep, ha, hz]
  · rw [List.concat_eq_append] at h
    subst h
    unfold pileStep
    simp only [List.getLast?_concat]
    split
    · rw [List.length_append, List.length_singleton, Nat.add_sub_cancel, List.set_append_right _ _ (Nat.le_refl _), Nat.sub_self, List.set_cons_zero]
      simp [ha]
    · simp [ha, hz]
theorem pile_flat : ∀ (xs : List (S × Nat)) (out : List M), ((xs.foldl (pileStep room add z) out).map f).flatten = (out.map f).flatten ++ xs.map fun x => (x.2 : Int)
  | [], out => by simp
  | x :: r, out => by rw [List.foldl_cons, pile_flat r, step_flat f hz ha]; simp
end
/-! ### Shelves -/
def wAt (l : List BoxM) (n : Int) : Int := (boxAt l n.toNat).w
def gAt (l : List BoxM) (n : Int) : Int := (boxAt l n.toNat).g
structure ShOk (p : PalletM) (l : List BoxM) (t : ShelfM) : Prop where
  at_ : ∀ n ∈ t.l, ∃ j : Nat, n = (j : Int) ∧ j < l.length ∧ (boxAt l j).d ≤ t.d ∧ (boxAt l j).h ≤ t.h
  ws : (t.l.map (wAt l)).sum = t.w
  gs : (t.l.map (gAt l)).sum = t.g
  wb : t.w ≤ p.w
  gb : t.g ≤ p.g
theorem shOk_add {p : PalletM} {l : List BoxM} {t : ShelfM} {x : BoxM × Nat} (hx : l[x.2]? = some x.1) (h : ∀ n ∈ t.l, ∃ j : Nat, n = (j : Int) ∧ j < l.length ∧ (boxAt l j).d ≤ t.d ∧ (boxAt l j).h ≤ t.h) (hw : (t.l.map (wAt l)).sum = t.w) (hg : (t.l.map (gAt l)).sum = t.g) (h1 : t.w + x.1.w ≤ p.w) (h2 : t.g + x.1.g ≤ p.g) : ShOk p l (shelfAdd t x.2 x.1) := by
  have hlt : x.2 < l.length := by
    rcases Nat.lt_or_ge x.2 l.length with h | h
    · exact h
    · rw [List.getElem?_eq_none h] at hx; cases hx
  have hb := boxAt_get hx
  refine ⟨fun n hn => ?_, ?_, ?_, h1, h2⟩
  · simp only [shelfAdd] at hn ⊢
    rcases List.mem_append.1 hn with hn | hn
    · obtain ⟨j, e, j1, j2, j3⟩ := h n hn
      exact ⟨j, e, j1, by omega, by omega⟩
    · exact ⟨x.2, List.mem_singleton.1 hn, hlt, by rw [hb]; omega, by rw [hb]; omega⟩
  · simp only [shelfAdd, List.map_append, List.sum_append, List.map_cons, List.map_nil, List.sum_cons, List.sum_nil, hw, wAt, Int.toNat_natCast, hb]; omega
  · simp only [shelfAdd, List.map_append, List.sum_append, List.map_cons, List.map_nil, List.sum_cons, List.sum_nil, hg, gAt, Int.toNat_natCast, hb]; omega
theorem shelf_ok {p : PalletM} {l : List BoxM} (hok : boxesOkM p l = true) : ∀ t ∈ shelvesM p l, ShOk p l t := by
  rw [shelvesM, if_pos hok]
  refine dH (P := ShOk p l) _ _ (fun x hx => ?_) (by simp)
  have hx' := xs_mem hx
  have hm : x.1 ∈ l := List.mem_of_getElem? hx'
  simp only [boxesOkM, Bool.and_eq_true, List.all_eq_true] at hok
  have hh := box_in (hok.2 x.1 hm)
  refine ⟨shOk_add hx' (by simp [shelfZ]) (by simp [shelfZ]) (by simp [shelfZ]) (by simp only [shelfZ]; omega) (by simp only [shelfZ]; omega), fun t ht hr => ?_⟩
  simp only [shelfRoom, Bool.and_eq_true, decide_eq_true_eq] at hr
  exact shOk_add hx' ht.at_ ht.ws ht.gs hr.1 hr.2
structure Dsc (l : List BoxM) (out : List ShelfM) (xs : List (BoxM × Nat)) : Prop where
  pw : out.Pairwise fun s t => t.d ≤ s.d
  nx : ∀ t ∈ out, ∀ x ∈ xs, x.1.d ≤ t.d
  hd : ∀ t ∈ out, ∃ j : Nat, t.l[0]? = some (j : Int) ∧ t.d = (boxAt l j).d
theorem lay_ok {p : PalletM} {ss : List ShelfM} (hok : shelvesOkM p ss = true) : ∀ t ∈ layersM p ss, 1 ≤ t.d ∧ t.d ≤ p.d ∧ 1 ≤ t.h ∧ t.h ≤ p.h ∧ 1 ≤ t.g ∧ t.g ≤ p.g := by
  rw [layersM, if_pos hok]
  refine dH _ _ (fun x hx => ?_) (by simp)
  have hx' : x.1 ∈ ss := (List.mem_zipIdx' hx).2 ▸ List.getElem_mem _
  simp only [shelvesOkM, Bool.and_eq_true, List.all_eq_true] at hok
  have hh := heap_in (hok.2 x.1 hx')
  refine ⟨by simp only [layAdd, layZ]; omega, fun t ht hr => ?_⟩
  simp only [layRoom, Bool.and_eq_true, decide_eq_true_eq] at hr
  simp only [layAdd]; omega
theorem lay_stacks {p : PalletM} {ss : List ShelfM} (hok : shelvesOkM p ss = true) : stacksOkM p (layersM p ss) = true := by
  have hp : palletOkM p = true := by simp only [shelvesOkM, Bool.and_eq_true] at hok; exact hok.1
  simp only [stacksOkM, Bool.and_eq_true, List.all_eq_true]
  refine ⟨hp, fun t ht => ?_⟩
  have := lay_ok hok t ht
  simp only [heapOkM, inB, Bool.and_eq_true, decide_eq_true_eq]; omega
theorem zip_snd {α : Type} (l : List α) : (l.zipIdx.map fun x => (x.2 : Int)) = (List.range l.length).map fun (j : Nat) => (j : Int) := by
  have : l.zipIdx.map Prod.snd = List.range l.length := by rw [List.zipIdx_map_snd, List.range_eq_range']
  rw [← this, List.map_map]; rfl
theorem lay_flat {p : PalletM} {ss : List ShelfM} (hok : shelvesOkM p ss = true) : ((layersM p ss).map LayerM.l).flatten = (List.range ss.length).map fun (j : Nat) => (j : Int) := by
  rw [layersM, if_pos hok, pile, pile_flat LayerM.l rfl (fun _ _ _ => rfl), zip_snd]; simp
theorem load_flat {p : PalletM} {ss : List LayerM} (hok : stacksOkM p ss = true) : ((loadsM p ss).map LoadM.l).flatten = (List.range ss.length).map fun (j : Nat) => (j : Int) := by
  rw [loadsM, if_pos hok, pile, pile_flat LoadM.l rfl (fun _ _ _ => rfl), zip_snd]; simp
section
variable {M : Type} {f : M → List Int} {m : List M} {i k N : Nat} {t : M} {x : Int}
def offM (f : M → List Int) (m : List M) (i : Nat) : Nat := ((m.take i).map f).flatten.length
theorem off_at (h : (m.map f).flatten = (List.range N).map fun (j : Nat) => (j : Int)) (ht : m[i]? = some t) (hx : (f t)[k]? = some x) : x = ((offM f m i + k : Nat) : Int) ∧ offM f m i + k < N := by
  have hi : i < m.length := by
    rcases Nat.lt_or_ge i m.length with h1 | h1
    · exact h1
    · rw [List.getElem?_eq_none h1] at ht; cases ht
  have e : (m.map f).flatten = ((m.take i).map f).flatten ++ (f t ++ ((m.drop (i + 1)).map f).flatten) := by
    have e2 : m = m.take i ++ t :: m.drop (i + 1) := by
      rw [List.getElem?_eq_getElem hi] at ht
      conv => lhs; rw [← List.take_append_drop i m, List.drop_eq_getElem_cons hi]
      rw [Option.some.inj ht]
    conv => lhs; rw [e2]
    simp
  have hk : k < (f t).length := by
    rcases Nat.lt_or_ge k (f t).length with h1 | h1
    · exact h1
    · rw [List.getElem?_eq_none h1] at hx; cases hx
  have hz : (m.map f).flatten[offM f m i + k]? = some x := by
    rw [e, List.getElem?_append_right (by unfold offM; omega), show offM f m i + k - ((m.take i).map f).flatten.length = k from by unfold offM; omega, List.getElem?_append_left hk]
    exact hx
  rw [h] at hz
  have hN : offM f m i + k < N := by
    rcases Nat.lt_or_ge (offM f m i + k) N with h1 | h1
    · exact h1
    · rw [List.getElem?_eq_none (by simpa using h1)] at hz; cases hz
  rw [List.getElem?_map, List.getElem?_range hN] at hz
  exact ⟨(Option.some.inj hz).symm, hN⟩
end
def shAt (ss : List ShelfM) (n : Int) : ShelfM := ss.getD n.toNat shelfZ
def lyAt (ls : List LayerM) (n : Int) : LayerM := ls.getD n.toNat layZ
def boxStep (l : List BoxM) (o y z : Int) (st : List SpotM × Int) (b : Int) : List SpotM × Int := (st.1.set b.toNat ⟨o, st.2, y, z⟩, IntKind.i64.wrap (st.2 + (boxAt l b.toNat).w))
def shelfStep (l : List BoxM) (ss : List ShelfM) (o z : Int) (st : List SpotM × Int) (s : Int) : List SpotM × Int := (((shAt ss s).l.foldl (boxStep l o st.2 z) (st.1, 0)).1, IntKind.i64.wrap (st.2 + (shAt ss s).d))
def layerStep (l : List BoxM) (ss : List ShelfM) (ls : List LayerM) (o : Int) (st : List SpotM × Int) (i : Int) : List SpotM × Int := (((lyAt ls i).l.foldl (shelfStep l ss o st.2) (st.1, 0)).1, IntKind.i64.wrap (st.2 + (lyAt ls i).h))
def loadStep (l : List BoxM) (ss : List ShelfM) (ls : List LayerM) (out : List SpotM) (x : LoadM × Nat) : List SpotM := (x.1.l.foldl (layerStep l ss ls (x.2 : Int)) (out, 0)).1
def spotsM (p : PalletM) (l : List BoxM) : List SpotM :=
  if boxesOkM p l then (loadsM p (layersM p (shelvesM p l))).zipIdx.foldl (loadStep l (shelvesM p l) (layersM p (shelvesM p l))) (List.replicate l.length ⟨0, 0, 0, 0⟩) else []
theorem shAt_get {ss : List ShelfM} {j : Nat} {t : ShelfM} (h : ss[j]? = some t) : shAt ss (j : Int) = t := by simp [shAt, List.getD_eq_getElem?_getD, h]
theorem lyAt_get {ls : List LayerM} {j : Nat} {t : LayerM} (h : ls[j]? = some t) : lyAt ls (j : Int) = t := by simp [lyAt, List.getD_eq_getElem?_getD, h]
section
variable {l : List BoxM} {ss : List ShelfM} {ls : List LayerM} {o y z : Int}
theorem box_len : ∀ (bs : List Int) (st : List SpotM × Int), (bs.foldl (boxStep l o y z) st).1.length = st.1.length
  | [], _ => rfl
  | b :: r, st => by rw [List.foldl_cons, box_len r]; simp [boxStep]
theorem shelf_lenS : ∀ (bs : List Int) (st : List SpotM × Int), (bs.foldl (shelfStep l ss o z) st).1.length = st.1.length
  | [], _ => rfl
  | b :: r, st => by rw [List.foldl_cons, shelf_lenS r]; simp [shelfStep, box_len]
theorem layer_lenS : ∀ (bs : List Int) (st : List SpotM × Int), (bs.foldl (layerStep l ss ls o) st).1.length = st.1.length
  | [], _ => rfl
  | b :: r, st => by rw [List.foldl_cons, layer_lenS r]; simp [layerStep, shelf_lenS]
theorem load_lenS : ∀ (xs : List (LoadM × Nat)) (out : List SpotM), (xs.foldl (loadStep l ss ls) out).length = out.length
  | [], _ => rfl
  | x :: r, out => by rw [List.foldl_cons, load_lenS r]; simp [loadStep, layer_lenS]
end
theorem spots_len {p : PalletM} {l : List BoxM} (hok : boxesOkM p l = true) : (spotsM p l).length = l.length := by
  rw [spotsM, if_pos hok, load_lenS, List.length_replicate]
theorem shelf_ge {p : PalletM} {l : List BoxM} (hok : boxesOkM p l = true) : ∀ t ∈ shelvesM p l, 1 ≤ t.w ∧ t.w ≤ p.w ∧ 1 ≤ t.d ∧ t.d ≤ p.d ∧ 1 ≤ t.h ∧ t.h ≤ p.h ∧ 1 ≤ t.g ∧ t.g ≤ p.g := by
  rw [shelvesM, if_pos hok]
  refine dH _ _ (fun x hx => ?_) (by simp)
  have hx' : x.1 ∈ l := List.mem_of_getElem? (xs_mem hx)
  simp only [boxesOkM, Bool.and_eq_true, List.all_eq_true] at hok
  have hh := box_in (hok.2 x.1 hx')
  refine ⟨by simp only [shelfAdd, shelfZ]; omega, fun t ht hr => ?_⟩
  simp only [shelfRoom, Bool.and_eq_true, decide_eq_true_eq] at hr
  simp only [shelfAdd]; omega
theorem shelves_okL {p : PalletM} {l : List BoxM} (hok : boxesOkM p l = true) : shelvesOkM p (shelvesM p l) = true := by
  have hp : palletOkM p = true := by simp only [boxesOkM, Bool.and_eq_true] at hok; exact hok.1
  simp only [shelvesOkM, Bool.and_eq_true, List.all_eq_true]
  refine ⟨hp, fun t ht => ?_⟩
  have := shelf_ge hok t ht
  simp only [heapOkM, inB, Bool.and_eq_true, decide_eq_true_eq]; omega
theorem set_cellsP {bs : List SpotM} {i : Nat} {a b c d : Int} : (bs.map SpotM.cells).set i [.int .i64 a, .int .i64 b, .int .i64 c, .int .i64 d] = (bs.set i ⟨a, b, c, d⟩).map SpotM.cells := by rw [List.map_set]; rfl
end Go.Proofs.YtglpgohilfoecaaGreat

/-
  Where boxes stand: the program's way.
-/
namespace Go.Proofs.YtglpgohilfoecaaGreat
open Go.RowKit
attribute [local irreducible] Go.wpList Go.Code.wp Go.Exit.then Go.Exit.inBlock Go.bodyPost Go.Calls pE pB G RunsV FnV Fn FnM
set_option maxRecDepth 100000
set_option maxHeartbeats 4000000
theorem implSpotsOf_any (p : PalletM) {v : Value} {l : List BoxM} (w : World) (h : Rd w v 4 (l.map BoxM.cells)) (hb : l.length ≤ 1048576) :
    Fn Tryz.prog 37 [p.val, v] w (fun x : Value => x.oneCell' = true) (fun x => x) (fun x => [.row x 86 4 ((spotsM p l).map SpotM.cells)]) := by
  have hln : (l.map BoxM.cells).length = l.length := by simp
  refine Fn.of (n := 102) Tryz.func37 rfl rfl ?_; refine G.seq (G.region ?_); refine G.op (bE rfl rfl) rfl (fun bk2 _ => ?_); refine G.v (bb rfl) rfl (G.I (G.E (G.seq (G.seq (G.region (G.v (bj 0 rfl rfl rfl) rfl (G.v (ba rfl) rfl ?_))))))); refine G.op (bh rfl rfl (fun w hh => boxesOk_any _ w (by exact Rd.stays (by assumption) _ hh))) rfl (fun _ _ => ?_); refine G.v (bF rfl) rfl (G.I (G.E ?_)); refine G.cond rfl (fun hc => ?_) (fun hc => ?_); refine G.seq (G.region (G.v (bb rfl) rfl (G.I (G.E (G.ret (G.O ?_))))))
  exact G.bg (.slice none 0 0) rfl rfl rfl rfl (fun w hw => by rw [spotsM, if_neg (by intro hq; rw [hq] at hc; exact Bool.noConfusion hc)]; exact hw.none.nilRow _ _)
  · refine G.skip ?_
    refine G.E (G.seq (G.region (G.v (bj 0 rfl rfl rfl) rfl (G.v (ba rfl) rfl ?_)))); refine G.op (bX rfl rfl (fun w hh => implShelves_any p w (by exact Rd.stays (by assumption) _ hh) (by omega))) rfl ?_; rintro ⟨vg, gs⟩ ⟨hvg, hgs⟩; try dsimp only
    dsimp only at hgs hvg
    have hgl : gs.length = (shelvesM p l).length := by rw [← hgs, List.length_map]
    have hsl := shelves_len p l
    refine G.v (bb rfl) rfl (G.I (G.E (G.seq (G.region (G.v (bj 2 rfl rfl rfl) rfl (G.v (ba rfl) rfl ?_)))))); refine G.op (bX rfl rfl (fun w hh => implLayersOf_any p w (by exact Rd.ba 1 rfl _ hh) (by omega))) rfl ?_; rintro ⟨vy, ys⟩ ⟨hvy, hys⟩; try dsimp only
    dsimp only at hys hvy
    rw [hgs] at hys
    have hyl : ys.length = (layersM p (shelvesM p l)).length := by rw [← hys, List.length_map]
    have hyl2 := layers_len p (shelvesM p l)
    refine G.v (bb rfl) rfl (G.I (G.E (G.seq (G.region (G.v (ba rfl) rfl ?_))))); refine G.v (bz rfl (by exact Rd.stays (by assumption))) rfl ?_; refine G.op (og_make rfl rfl rfl rfl rfl (by omega) (by omega)) rfl (fun vm _ => ?_); refine G.v (bb rfl) rfl (G.I (G.E (G.seq (G.seq (G.region (G.v (bj 5 rfl rfl rfl) rfl (G.v (ba rfl) rfl ?_))))))); refine G.op (bX rfl rfl (fun w hh => implLoadsOf_any p w (by exact Rd.ba 2 rfl _ hh) (by omega))) rfl ?_; rintro ⟨vj, js⟩ ⟨hvj, hjs⟩; try dsimp only
    dsimp only at hjs hvj
    rw [hys] at hjs
    have hjl : js.length = (loadsM p (layersM p (shelvesM p l))).length := by rw [← hjs, List.length_map]
    have hjl2 := loads_len p (layersM p (shelvesM p l))
    have hjl3 : (js.map LoadM.cells).length = js.length := by simp
    refine G.v (bz rfl (by exact Rd.ba 1 rfl)) rfl ?_; refine G.v (ba rfl) rfl (G.I (G.E (G.block ?_)))
    have hok : boxesOkM p l = true := by simpa using hc
    have hso := shelves_okL hok
    have hst := lay_stacks hso
    have hlf := lay_flat hso
    have hof := load_flat hst
    refine G.be vm rfl ?_; refine G.bo ((List.replicate l.length (⟨0, 0, 0, 0⟩ : SpotM)).map SpotM.cells) (by simp [SpotM.cells]) rfl ?_; refine G.Y (ι := Nat × List SpotM) (ks := [1, 5, 6, 7, 34, 35]) (fun x => [(36, .int .i64 (x.1 : Int))]) (fun x => [.row vm 86 4 (x.2.map SpotM.cells)]) (fun x => x.1 ≤ js.length ∧ x.2.length = l.length ∧ x.2 = ((loadsM p (layersM p (shelvesM p l))).zipIdx.take x.1).foldl (loadStep l (shelvesM p l) (layersM p (shelvesM p l))) (List.replicate l.length ⟨0, 0, 0, 0⟩)) (fun x => js.length - x.1) (0, List.replicate l.length ⟨0, 0, 0, 0⟩) (.cons rfl (.cons rfl (.cons rfl (.cons rfl (.cons rfl (.cons rfl (.nil))))))) rfl ?_ ?_ ?_
    exact ⟨Nat.zero_le _, by simp, rfl⟩
    exact ⟨rfl, trivial⟩
    rintro ⟨q, out0⟩ ⟨hq0, hol0, hoe0⟩
    dsimp only at hq0 hol0 hoe0 ⊢
    by_cases hlt0 : q < js.length
    case' pos => (obtain ⟨t, hgt⟩ := bn hlt0; have het := bt hgt LoadM.cells; have hg1 : (js.map (sub LoadM.l))[q]? = some (t.2, t.1.l.map icell) := cn hgt; have hm1 : (loadsM p (layersM p (shelvesM p l)))[q]? = some t.1 := hjs ▸ dA hgt; have hz1 := zip_get hm1; have hlc1 : (t.1.l.map icell).length = t.1.l.length := (by simp); refine G.know (fun w hw => (Rd.grp 1 rfl (List.mem_of_getElem? hg1) w hw).one_) (fun hov1 => ?_); refine G.know (fun w hw => (Rd.grp 1 rfl (List.mem_of_getElem? hg1) w hw).le_map) (fun hbn1 => ?_))
    all_goals
     refine G.seq (G.region (G.v (br rfl rfl) rfl (G.I (G.E (G.seq ?_))))); refine G.cond rfl (fun hc => ?_) (fun hc => ?_)
     · all_goals
        replace hc := of_decide_eq_true hc
        try (exfalso; omega)
        all_goals
         refine G.skip (G.E (G.seq (G.block (G.seq (G.region (G.v (ba rfl) rfl ?_)))))); refine G.v (bg rfl rfl (by exact Rd.ba 2 rfl) rfl (by exact het)) rfl ?_; refine G.v (bN rfl (by exact Rd.ba 2 rfl) (by exact het) rfl) rfl ?_; refine G.op (bu) rfl (fun bk9 _ => ?_); refine G.v (bb rfl) rfl ?_; refine G.bk (bL rfl rfl rfl rfl rfl (by repeat (first | rfl | refine bB (by assumption) ?_)) (.zero (.cons (.cons (.cons .nil))))) (fun _ _ => ?_); refine G.I (G.E (G.seq (G.region (G.v (bb rfl) rfl (G.I (G.E (G.seq (G.region (G.v (be rfl) rfl (G.v (bf 0 rfl rfl rfl) rfl ?_)))))))))); refine G.v (bz rfl (by exact Rd.grp 2 rfl (List.mem_of_getElem? hg1))) rfl ?_; refine G.v (ba rfl) rfl (G.I (G.E (G.block ?_))); refine G.bm vm rfl ?_
         refine G.Y (ι := Nat × List SpotM × Int) (ks := [1, 5, 6, 7, 8, 34, 35, 36, 42, 43]) (fun x => [(10, .int .i64 x.2.2), (44, .int .i64 (x.1 : Int))]) (fun x => [.row vm 86 4 (x.2.1.map SpotM.cells)]) (fun x => x.1 ≤ t.1.l.length ∧ x.2.1.length = l.length ∧ (x.2.1, x.2.2) = (t.1.l.take x.1).foldl (layerStep l (shelvesM p l) (layersM p (shelvesM p l)) (q : Int)) (out0, 0)) (fun x => t.1.l.length - x.1) (0, out0, 0) (.cons rfl (.cons rfl (.cons rfl (.cons rfl (.cons rfl (.cons rfl (.cons rfl (.cons rfl (.cons rfl (.cons rfl (.nil))))))))))) rfl ?_ ?_ ?_
         exact ⟨Nat.zero_le _, hol0, rfl⟩
         exact ⟨rfl, rfl, trivial⟩
         rintro ⟨j, out1, z⟩ ⟨hj0, hol1, hoe1⟩
         dsimp only at hj0 hol1 hoe1 ⊢
         by_cases hlt1 : j < t.1.l.length
         case' pos => (obtain ⟨xj, hxj⟩ := bn hlt1; have hej := bt hxj icell; obtain ⟨hxe, hxb⟩ := off_at hof hm1 hxj; generalize hz9 : offM LoadM.l (loadsM p (layersM p (shelvesM p l))) q + j = j1 at hxe hxb; subst hxe; obtain ⟨yy, hgy⟩ := bn (l := ys) (k := j1) (by omega); have hey := bt hgy LayerM.cells; have hg2 : (ys.map (sub LayerM.l))[j1]? = some (yy.2, yy.1.l.map icell) := cn hgy; have hm2 : (layersM p (shelvesM p l))[j1]? = some yy.1 := hys ▸ dA hgy; have hya := lyAt_get hm2; have hlc2 : (yy.1.l.map icell).length = yy.1.l.length := (by simp); have hfs1 := bP hxj (layerStep l (shelvesM p l) (layersM p (shelvesM p l)) (q : Int)) (out0, 0); rw [← hoe1] at hfs1; refine G.know (fun w hw => (Rd.grp 4 rfl (List.mem_of_getElem? hg2) w hw).le_map) (fun hbn2 => ?_))
         all_goals
          refine G.seq (G.region (G.v (br rfl rfl) rfl (G.I (G.E (G.seq ?_))))); refine G.cond rfl (fun hc => ?_) (fun hc => ?_)
          · all_goals
             replace hc := of_decide_eq_true hc
             try (exfalso; omega)
             all_goals
              refine G.skip (G.E (G.seq (G.block (G.seq (G.region ?_))))); refine G.v (bg rfl rfl (by exact Rd.grp 2 rfl (List.mem_of_getElem? hg1)) rfl (by exact hej)) rfl ?_; refine G.v (bi rfl (by exact Rd.grp 2 rfl (List.mem_of_getElem? hg1)) (by exact hej) rfl) rfl ?_; refine G.v (bb rfl) rfl (G.I (G.E (G.seq (G.region (G.v (bb rfl) rfl (G.I (G.E (G.seq (G.seq (G.region (G.v (ba rfl) rfl ?_))))))))))); refine G.v (ba rfl) rfl ?_; refine G.v (bg rfl rfl (by exact Rd.ba 5 rfl) rfl (by exact hey)) rfl ?_; refine G.v (bo rfl) rfl ?_; refine G.v (bi rfl (by exact Rd.ba 5 rfl) (by exact hey) rfl) rfl ?_; refine G.v (bz rfl (by exact Rd.grp 4 rfl (List.mem_of_getElem? hg2))) rfl ?_; refine G.v (ba rfl) rfl (G.I (G.E (G.block ?_))); refine G.bb vm rfl ?_
              refine G.Y (ι := Nat × List SpotM × Int) (ks := [1, 5, 6, 7, 8, 10, 12, 34, 35, 36, 42, 43, 44, 52, 53]) (fun x => [(13, .int .i64 x.2.2), (54, .int .i64 (x.1 : Int))]) (fun x => [.row vm 86 4 (x.2.1.map SpotM.cells)]) (fun x => x.1 ≤ yy.1.l.length ∧ x.2.1.length = l.length ∧ (x.2.1, x.2.2) = (yy.1.l.take x.1).foldl (shelfStep l (shelvesM p l) (q : Int) z) (out1, 0)) (fun x => yy.1.l.length - x.1) (0, out1, 0) (.cons rfl (.cons rfl (.cons rfl (.cons rfl (.cons rfl (.cons rfl (.cons rfl (.cons rfl (.cons rfl (.cons rfl (.cons rfl (.cons rfl (.cons rfl (.cons rfl (.cons rfl (.nil)))))))))))))))) rfl ?_ ?_ ?_
              exact ⟨Nat.zero_le _, hol1, rfl⟩
              exact ⟨rfl, rfl, trivial⟩
              rintro ⟨k, out2, y⟩ ⟨hk0, hol2, hoe2⟩
              dsimp only at hk0 hol2 hoe2 ⊢
              by_cases hlt2 : k < yy.1.l.length
              case' pos => (obtain ⟨xk, hxk⟩ := bn hlt2; have hek := bt hxk icell; obtain ⟨hxe, hxb⟩ := off_at hlf hm2 hxk; generalize hz8 : offM LayerM.l (layersM p (shelvesM p l)) j1 + k = k1 at hxe hxb; subst hxe; obtain ⟨sh, hgs2⟩ := bn (l := gs) (k := k1) (by omega); have hes := bt hgs2 ShelfM.cells; have hg3 : (gs.map (sub ShelfM.l))[k1]? = some (sh.2, sh.1.l.map icell) := cn hgs2; have hm3 : (shelvesM p l)[k1]? = some sh.1 := hgs ▸ dA hgs2; have hsa := shAt_get hm3; have hlc3 : (sh.1.l.map icell).length = sh.1.l.length := (by simp); have hsk := shelf_ok hok sh.1 (List.mem_of_getElem? hm3); have hfs2 := bP hxk (shelfStep l (shelvesM p l) (q : Int) z) (out1, 0); rw [← hoe2] at hfs2; refine G.know (fun w hw => (Rd.grp 6 rfl (List.mem_of_getElem? hg3) w hw).le_map) (fun hbn3 => ?_))
              all_goals
               refine G.seq (G.region (G.v (br rfl rfl) rfl (G.I (G.E (G.seq ?_))))); refine G.cond rfl (fun hc => ?_) (fun hc => ?_)
               · all_goals
                  replace hc := of_decide_eq_true hc
                  try (exfalso; omega)
                  all_goals
                   refine G.skip (G.E (G.seq (G.block (G.seq (G.region ?_))))); refine G.v (bg rfl rfl (by exact Rd.grp 4 rfl (List.mem_of_getElem? hg2)) rfl (by exact hek)) rfl ?_; refine G.v (bi rfl (by exact Rd.grp 4 rfl (List.mem_of_getElem? hg2)) (by exact hek) rfl) rfl ?_; refine G.v (bb rfl) rfl (G.I (G.E (G.seq (G.region (G.v (bb rfl) rfl (G.I (G.E (G.seq (G.seq (G.region (G.v (ba rfl) rfl ?_))))))))))); refine G.v (ba rfl) rfl ?_; refine G.v (bg rfl rfl (by exact Rd.ba 7 rfl) rfl (by exact hes)) rfl ?_; refine G.v (bo rfl) rfl ?_; refine G.v (bi rfl (by exact Rd.ba 7 rfl) (by exact hes) rfl) rfl ?_; refine G.v (bz rfl (by exact Rd.grp 6 rfl (List.mem_of_getElem? hg3))) rfl ?_; refine G.v (ba rfl) rfl (G.I (G.E (G.block ?_))); refine G.bb vm rfl ?_
                   refine G.Y (ι := Nat × List SpotM × Int) (ks := [1, 5, 6, 7, 8, 10, 12, 13, 15, 34, 35, 36, 42, 43, 44, 52, 53, 54, 62, 63]) (fun x => [(16, .int .i64 x.2.2), (64, .int .i64 (x.1 : Int))]) (fun x => [.row vm 86 4 (x.2.1.map SpotM.cells)]) (fun x => x.1 ≤ sh.1.l.length ∧ x.2.1.length = l.length ∧ (x.2.1, x.2.2) = (sh.1.l.take x.1).foldl (boxStep l (q : Int) y z) (out2, 0)) (fun x => sh.1.l.length - x.1) (0, out2, 0) (.cons rfl (.cons rfl (.cons rfl (.cons rfl (.cons rfl (.cons rfl (.cons rfl (.cons rfl (.cons rfl (.cons rfl (.cons rfl (.cons rfl (.cons rfl (.cons rfl (.cons rfl (.cons rfl (.cons rfl (.cons rfl (.cons rfl (.cons rfl (.nil))))))))))))))))))))) rfl ?_ ?_ ?_
                   exact ⟨Nat.zero_le _, hol2, rfl⟩
                   exact ⟨rfl, rfl, trivial⟩
                   rintro ⟨m, out3, x⟩ ⟨hm0, hol3, hoe3⟩
                   dsimp only at hm0 hol3 hoe3 ⊢
                   by_cases hlt3 : m < sh.1.l.length
                   case' pos => (obtain ⟨xm, hxm⟩ := bn hlt3; have hem := bt hxm icell; obtain ⟨b1, hbe, hbl, _, _⟩ := hsk.at_ xm (List.mem_of_getElem? hxm); subst hbe; obtain ⟨b, hb2⟩ := bn hbl; have heb := bt hb2 BoxM.cells; have hba := boxAt_get hb2; obtain ⟨s0, hs0⟩ := bn (l := out3) (k := b1) (by omega); have heo := bt hs0 SpotM.cells; have hfs3 := bP hxm (boxStep l (q : Int) y z) (out2, 0); rw [← hoe3] at hfs3)
                   all_goals
                    refine G.seq (G.region (G.v (br rfl rfl) rfl (G.I (G.E (G.seq ?_))))); refine G.cond rfl (fun hc => ?_) (fun hc => ?_)
                    · all_goals
                       replace hc := of_decide_eq_true hc
                       try (exfalso; omega)
                       all_goals
                        refine G.skip (G.E (G.seq (G.block (G.seq (G.region ?_))))); refine G.v (bg rfl rfl (by exact Rd.grp 6 rfl (List.mem_of_getElem? hg3)) rfl (by exact hem)) rfl ?_; refine G.v (bi rfl (by exact Rd.grp 6 rfl (List.mem_of_getElem? hg3)) (by exact hem) rfl) rfl ?_; refine G.v (bb rfl) rfl (G.I (G.E (G.seq (G.region (G.v (ba rfl) rfl (G.v (ba rfl) rfl (G.v (ba rfl) rfl (G.v (ba rfl) rfl (G.v (ba rfl) rfl (G.v (ba rfl) rfl ?_)))))))))); refine G.v (bJ rfl (.cons rfl (.cons rfl (.cons rfl (.cons rfl .nil)))) (.cons rfl rfl (.zero (.cons .nil)) (.cons rfl rfl (.succ (.zero (.cons .nil))) (.cons rfl rfl (.succ (.succ (.zero (.cons .nil)))) (.cons rfl rfl (.succ (.succ (.succ (.zero (.cons .nil))))) .nil))))) rfl ?_; refine G.v (bg rfl rfl (by exact Rd.ba 0 rfl) rfl (by exact heo)) rfl ?_; refine G.bk (cR rfl rfl rfl (by exact heo) rfl rfl rfl rfl (.zero (.cons (.cons (.cons (.cons .nil)))))) (fun _ _ => ?_); refine G.I (G.E (G.region (G.v (ba rfl) rfl (G.v (ba rfl) rfl (G.v (ba rfl) rfl ?_))))); refine G.v (bg rfl rfl (by exact Rd.stays (by assumption)) rfl (by exact heb)) rfl ?_; refine G.v (bo rfl) rfl ?_
                        refine G.v (bi rfl (by exact Rd.stays (by assumption)) (by exact heb) rfl) rfl ?_; refine G.v (df rfl rfl) rfl ?_; refine G.v (bb rfl) rfl (G.I (G.bc (G.E (G.region ?_)))); refine G.v (bp rfl rfl (by omega)) rfl ?_; refine G.v (ba rfl) rfl (G.I ?_); refine G.V (m + 1, out3.set b1 ⟨(q : Int), x, y, z⟩, IntKind.i64.wrap (x + b.w)) 0 (bV (congrArg (fun z => Ch.row vm 86 4 z) set_cellsP)) (.cons rfl (.cons rfl (.cons rfl (.cons rfl (.cons rfl (.cons rfl (.cons rfl (.cons rfl (.cons rfl (.cons rfl (.cons rfl (.cons rfl (.cons rfl (.cons rfl (.cons rfl (.cons rfl (.cons rfl (.cons rfl (.cons rfl (.cons rfl (.nil))))))))))))))))))))) ?_ ?_ ?_
                        exact ⟨rfl, rfl, trivial⟩
                        exact ⟨hlt3, by simp [hol3], by rw [hfs3]; simp [boxStep, hba]⟩
                        dsimp only; omega
                    · all_goals
                       replace hc := of_decide_eq_false hc
                       try (exfalso; omega)
                       all_goals
                        refine G.exit (G.L (G.L (G.bn (G.E (G.region (G.v (ba rfl) rfl (G.v (ba rfl) rfl (G.v (ba rfl) rfl ?_)))))))); refine G.v (bg rfl rfl (by exact Rd.ba 7 rfl) rfl (by exact hes)) rfl ?_; refine G.v (bo rfl) rfl ?_; refine G.v (bi rfl (by exact Rd.ba 7 rfl) (by exact hes) rfl) rfl ?_; refine G.v (df rfl rfl) rfl ?_; refine G.v (bb rfl) rfl (G.I (G.bc (G.E (G.region ?_)))); refine G.v (bp rfl rfl (by omega)) rfl ?_; refine G.v (ba rfl) rfl (G.I ?_); refine G.V (k + 1, out3, IntKind.i64.wrap (y + sh.1.d)) 0 rfl (.cons rfl (.cons rfl (.cons rfl (.cons rfl (.cons rfl (.cons rfl (.cons rfl (.cons rfl (.cons rfl (.cons rfl (.cons rfl (.cons rfl (.cons rfl (.cons rfl (.cons rfl (.nil)))))))))))))))) ?_ ?_ ?_
                        exact ⟨rfl, rfl, trivial⟩
                        exact ⟨hlt2, hol3, by rw [List.take_of_length_le (by omega)] at hoe3; rw [hfs2]; simp only [shelfStep, hsa, ← hoe3]⟩
                        dsimp only; omega
               · all_goals
                  replace hc := of_decide_eq_false hc
                  try (exfalso; omega)
                  all_goals
                   refine G.exit (G.L (G.L (G.bn (G.E (G.region (G.v (ba rfl) rfl (G.v (ba rfl) rfl (G.v (ba rfl) rfl ?_)))))))); refine G.v (bg rfl rfl (by exact Rd.ba 5 rfl) rfl (by exact hey)) rfl ?_; refine G.v (bo rfl) rfl ?_; refine G.v (bi rfl (by exact Rd.ba 5 rfl) (by exact hey) rfl) rfl ?_; refine G.v (df rfl rfl) rfl ?_; refine G.v (bb rfl) rfl (G.I (G.bc (G.E (G.region ?_)))); refine G.v (bp rfl rfl (by omega)) rfl ?_; refine G.v (ba rfl) rfl (G.I ?_); refine G.V (j + 1, out2, IntKind.i64.wrap (z + yy.1.h)) 0 rfl (.cons rfl (.cons rfl (.cons rfl (.cons rfl (.cons rfl (.cons rfl (.cons rfl (.cons rfl (.cons rfl (.cons rfl (.nil))))))))))) ?_ ?_ ?_
                   exact ⟨rfl, rfl, trivial⟩
                   exact ⟨hlt1, hol2, by rw [List.take_of_length_le (by omega)] at hoe2; rw [hfs1]; simp only [layerStep, hya, ← hoe2]⟩
                   dsimp only; omega
          · all_goals
             replace hc := of_decide_eq_false hc
             try (exfalso; omega)
             all_goals
              refine G.exit (G.L (G.L (G.bn (G.bc (G.E (G.region ?_)))))); refine G.v (bp rfl rfl (by omega)) rfl ?_; refine G.v (ba rfl) rfl (G.I ?_); refine G.keep1 1 rfl ?_; refine G.V (q + 1, out1) 0 rfl (.cons rfl (.cons rfl (.cons rfl (.cons rfl (.cons rfl (.cons rfl (.nil))))))) ?_ ?_ ?_
              exact ⟨rfl, trivial⟩
              exact ⟨hlt0, hol1, by rw [List.take_of_length_le (by omega)] at hoe1; rw [bP hz1, ← hoe0]; simp only [loadStep, ← hoe1]⟩
              dsimp only; omega
     · all_goals
        replace hc := of_decide_eq_false hc
        try (exfalso; omega)
        all_goals
         refine G.exit (G.L (G.L (G.bn (G.E (G.seq (G.region (G.v (ba rfl) rfl (G.v (bb rfl) rfl (G.I (G.E (G.ret ?_))))))))))); refine G.know (fun w hw => (Rd.ba 0 rfl w hw).one_) (fun hone => G.bg vm hone rfl rfl rfl (fun w hw => by rw [List.take_of_length_le (by simp; omega)] at hoe0; rw [spotsM, if_pos hok, ← hoe0]; exact hw.sublist (by repeat (first | exact List.Sublist.refl _ | refine List.Sublist.cons_cons _ ?_ | refine List.Sublist.cons _ ?_)))); done
end Go.Proofs.YtglpgohilfoecaaGreat
