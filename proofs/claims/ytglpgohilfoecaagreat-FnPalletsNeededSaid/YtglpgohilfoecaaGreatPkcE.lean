/-
  Texts of this proof, one behind the other: FirstX, IsPackM, LaySort, SortG, BoxO, Plan, Plan2, OnP, PGram, HoldW, CartW, CartX, Oks.
-/
import Derived.Test.YtglpgohilfoecaaGreatPkcD
import Derived.Shelf.Sort.Plain
import Derived.Test.YtglpgohilfoecaaGreatProg
import Derived.Test.YtglpgohilfoecaaGreatPkcB
import Derived.Sort.OwnSortedInts
import Derived.Test.YtglpgohilfoecaaGreatPkcC
import Derived.Test.YtglpgohilfoecaaGreatPkcA
set_option linter.unusedVariables false
set_option linter.unusedSimpArgs false

/-
  First fit, the reference's way; the way that an order asks for.
-/
namespace Go.Proofs.YtglpgohilfoecaaGreat
open Go.RowKit
attribute [local irreducible] Go.wpList Go.Code.wp Go.Exit.then Go.Exit.inBlock Go.bodyPost Go.Calls pE pB G RunsV FnV Fn FnM
set_option maxRecDepth 100000
set_option maxHeartbeats 4000000
section
variable {r : ReqM} {pv tv iv uv : Value} {us : List Int} (w : World) (h : Rd w pv 2 (r.pairs.map PairM.cells)) (h2 : Rd w tv 7 (r.types.map TypeM.cells)) (h3 : Rd w iv 7 (r.items.map ItemM.cells)) (h4 : Rd w uv 1 (us.map icell)) (hul : us.length ≤ 1048576)
include h h2 h3 h4 hul
omit h in
theorem l7First_any (hyes : classM r = 0) : Fn Tryz.prog 195 [.agg (r.cells pv tv iv).toArray, uv] w (fun x : Value × List (List Int × Value) => x.1.oneCell' = true ∧ x.2.map Prod.fst = putAll (roomM r) (ordU r us)) (fun x => x.1) (fun x => [.grp 3 1 (x.2.map (sub id)), .row x.1 52 1 (x.2.map gcell)]) := by
  have hTl2 : (us.map icell).length = us.length := by simp
  have hTl3 : (us.map (vOf r)).length = us.length := by simp
  have hol : ((ordM (keyM (us.map (vOf r))) (us.map (vOf r)).length).map ncell).length = us.length := by rw [List.length_map, ordM_len, hTl3]
  have hol2 : (ordM (keyM (us.map (vOf r))) (us.map (vOf r)).length).length = us.length := by rw [ordM_len, hTl3]
  have hul9 := ordU_len r us
  refine Fn.of (n := 93) Tryz.func195 rfl rfl ?_; refine zaU (fun bk2 _ => ?_); refine zf9 ?_; refine zfr (fun _ _ => ?_); refine zbi (fun bk5 _ => ?_); refine zaV (fun _ _ => ?_); refine zbk ?_; refine zbM ?_; refine zbR ?_; rintro vu hvu; try dsimp only
  refine zaL ?_; refine za6 (fun vl _ => ?_); refine zd8 ?_; refine G.frontR0 vl rfl ?_; refine G.loopK (ι := Nat × Value) (ks := [1, 2, 5, 7]) (fun x => [(8, x.2), (9, .int .i64 (x.1 : Int))]) (fun x => [.row x.2 3 1 (((us.take x.1).map (vOf r)).map icell)]) (fun x => x.1 ≤ us.length) (fun x => us.length - x.1) (0, vl) (.cons rfl (.cons rfl (.cons rfl (.cons rfl (.nil))))) rfl ?_ ?_ ?_
  exact Nat.zero_le _
  exact ⟨rfl, rfl, trivial⟩
  rintro ⟨k0, v0⟩ hk0
  dsimp only at hk0 ⊢
  have hl9 : (((us.take k0).map (vOf r)).map icell).length = k0 := z8
  by_cases hlt0 : k0 < us.length
  case' pos => (obtain ⟨x, hx⟩ := get_of_lt hlt0; have he := get_map hx icell; have hv1 := volUS_one r x)
  case' neg => (have hkall : ((us.take k0).map (vOf r)).map icell = (us.map (vOf r)).map icell := (by rw [List.take_of_length_le zb]))
  all_goals
   refine zcu ?_; refine zcW ?_; refine G.cond rfl (fun hc => ?_) (fun hc => ?_)
   · all_goals
      replace hc := of_decide_eq_true hc
      simp only [hTl2, hol] at hc
      try (exfalso; omega)
      all_goals
       refine za3 ?_; refine G.frontR0 v0 rfl ?_; refine G.drawD1 [12] rfl ?_; refine zdA ?_; refine GE.q2 1 rfl za rfl (qg_runs (rv_loadW 2 rfl rfl rfl)) zn rfl ?_; refine zeZ ?_; refine GE.q2 3 rfl za rfl (qg_runs (rv_move rfl)) zn rfl ?_; refine GE.q2 4 rfl za rfl (qg_runs (rv_move rfl)) zn rfl ?_; refine GE.ol 5 za rfl rfl (og_runs (rv_move rfl)) rfl zj (fun _ _ => ?_); refine GE.ol 6 za rfl rfl (og_runs (rv_incr rfl rfl zb)) rfl zj (fun _ _ => ?_); refine GE.ol 7 za rfl rfl (og_runs (rv_sliceLH (l := k0) (h := k0 + 1) rfl rfl rfl zb (Rd.stays h4) zb z8)) rfl zj (fun _ _ => ?_)
       refine GE.ol 8 za rfl rfl (og_callV rfl rfl (fun w hh => l7Of_any (r := r) (us := [x]) w (Rd.stays h3 _ hh) (by have q := (Rd.stays h4 _ hh).sub (l := k0) (k := k0 + 1) zb z8; rw [one_sub hx] at q; exact q) zD zax)) rfl zj (fun _ _ => ?_); refine GE.ol 9 za rfl rfl (og_runs (rv_fieldV 0 rfl (by kernel_rfl) rfl)) rfl zj (fun _ _ => ?_); refine GE.ol 10 za rfl rfl (og_lit rfl (.cons rfl .nil) rfl rfl rfl rfl rfl rfl) rfl zf (fun vy _ => ?_); refine GE.ol 11 za rfl rfl (og_app1 rfl rfl rfl zg rfl rfl zh zh) rfl zf (fun va _ => ?_); refine zc3 (fun _ _ => ?_); refine zb3 ?_; refine zaO ?_; refine G.frontR1 va rfl ?_
       refine G.keep1 1 rfl ?_; refine G.backK (k0 + 1, va) 0 (one_eq (congrArg (fun z => Ch.row va 3 1 z) ((congrArg (fun z => ((us.take k0).map (vOf r)).map icell ++ [[Value.int .i64 z]]) hv1).trans (vkey_snoc hx)))) (.cons rfl (.cons rfl (.cons rfl (.cons rfl (.nil))))) ?_ ?_ ?_
       exact ⟨rfl, rfl, trivial⟩
       dsimp only; omega
       dsimp only; omega
   · all_goals
      replace hc := of_decide_eq_false hc
      simp only [hTl2, hol] at hc
      try (exfalso; omega)
      all_goals
       refine zaW ?_; refine zaN ?_; refine G.op (og_callF1 rfl rfl (fun w hh => ssortDown_any (ks := us.map (vOf r)) w (by rw [← hkall]; exact Rd.owned 0 rfl _ hh) zb)) rfl ?_; rintro vo hvo; try dsimp only
       refine zaL ?_; refine za6 (fun vl _ => ?_); refine zd8 ?_; refine G.frontR0 vl rfl ?_; refine zcf ?_; refine G.loopK (ι := Nat × List (List Int × Value) × Value) (ks := [1, 2, 5, 7, 10]) (fun x => [(11, x.2.2), (12, .int .i64 (x.1 : Int))]) (fun x => [.grp 3 1 (x.2.1.map (sub id)), .row x.2.2 52 1 (x.2.1.map gcell)]) (fun x => x.1 ≤ us.length ∧ x.2.1.map Prod.fst = putAll (roomM r) ((ordU r us).take x.1)) (fun x => us.length - x.1) (0, [], vl) (.cons rfl (.cons rfl (.cons rfl (.cons rfl (.cons rfl (.nil)))))) rfl ?_ ?_ ?_
       exact ⟨Nat.zero_le _, rfl⟩
       exact ⟨rfl, rfl, trivial⟩
       rintro ⟨k, ts, v2⟩ ⟨hk, hM⟩
       dsimp only at hk hM ⊢
       have hl0 : (ts.map gcell).length = ts.length := zD
       have htl : ts.length ≤ k := (by have := putAll_len (roomM r) ((ordU r us).take k); have e2 := congrArg List.length hM; rw [List.length_map] at e2; rw [List.length_take] at this; omega)
       have hblA : ∀ (j : Nat) (b : List Int × Value), ts[j]? = some b → b.1.length ≤ k := (by intro j b hb; have := (putAll_at (p := roomM r) (l := (ordU r us).take k) (q := j) (g := b.1) (by rw [← hM, List.getElem?_map, hb]; rfl)); rw [List.length_take] at this; omega)
       by_cases hlt : k < us.length
       case' pos => (obtain ⟨j0, hj⟩ := get_of_lt (l := ordM (keyM (us.map (vOf r))) (us.map (vOf r)).length) (k := k) zb; have heo := get_map hj ncell; have hjl : j0 < us.length := (by have := ordM_mem.1 (List.mem_of_getElem? hj); omega); obtain ⟨u, hu⟩ := get_of_lt hjl; have het := get_map hu icell; have hx := ordU_take hj hu)
       all_goals
        refine zcu ?_; refine zdG ?_; refine zaT ?_; refine G.cond rfl (fun hc => ?_) (fun hc => ?_)
        · all_goals
           replace hc := of_decide_eq_true hc
           simp only [hTl2, hol] at hc
           try (exfalso; omega)
           all_goals
            refine za3 ?_; refine zaZ ?_; refine zaM ?_; refine zdV ?_; refine G.v (rv_indexH rfl rfl ze rfl (by exact het)) rfl ?_; refine G.v (rv_loadE rfl ze (by exact het) rfl) rfl ?_; refine zaL ?_; refine zcK ?_; refine zc0 ?_; refine zdf ?_; refine zaL ?_; refine G.block ?_; refine G.loopK (ι := Nat) (ks := [1, 2, 5, 7, 10, 11, 12, 13]) (fun j => [(14, .int .i64 (idxFrom (fun b => roomM r b.1 u) ts j)), (15, .int .i64 ((j : Int) - 1))]) (fun _ => []) (fun j => j ≤ ts.length) (fun j => j) ts.length (.cons rfl (.cons rfl (.cons rfl (.cons rfl (.cons rfl (.cons rfl (.cons rfl (.cons rfl (.nil))))))))) rfl ?_ ?_ ?_
            exact Nat.le_refl _
            exact ⟨congrArg (fun z => some (Value.int .i64 z)) from_end.symm, congrArg (fun z : Nat => some (Value.int .i64 ((z : Int) - 1))) hl0, trivial⟩
            rintro j hk1
            rcases j with _ | j
            case' succ => (obtain ⟨b, hb⟩ := get_of_lt (l := ts) (k := j) zb; have heb := get_map hb gcell)
            all_goals
             refine zeA ?_; refine zdW ?_; refine zbe ?_; refine G.cond rfl (fun hc => ?_) (fun hc => ?_)
             · try exact Bool.noConfusion hc
               all_goals
                replace hc := of_decide_eq_true hc
                all_goals
                 refine za3 ?_; refine zeS ?_; refine GE.q 0 rfl za rfl (qg_runs (rv_loadW 6 rfl rfl rfl)) rfl ?_; refine zc7 ?_; refine GE.q 2 rfl za rfl (qg_runs (rv_loadW 5 rfl rfl rfl)) rfl ?_; refine zbO ?_; refine zbU ?_; refine GE.q 5 rfl za rfl (qg_runs (rv_indexH (k := j) rfl rfl zi zb heb)) rfl ?_; refine GE.q 6 rfl za rfl (qg_runs (rv_loadE rfl zi zX rfl)) rfl ?_; refine GE.ol 7 za rfl rfl (og_runs (rv_move rfl)) rfl zd (fun _ _ => ?_); refine GE.ol 8 za rfl rfl (og_callV rfl rfl (fun w hh => (l7Room_any (r := r) (us := b.1) w (Rd.stays h3 _ hh) (Subs.at (by exact Subs.owned 0 rfl _ hh) hb) (by have := hblA _ b hb; omega) (mst r) u (by exact Rd.owned 4 rfl _ hh)).mono (congrArg Value.bool (room_yes hyes b.1 u).symm))) rfl zd (fun _ _ => ?_); refine zbm ?_; refine G.cond rfl (fun hc => ?_) (fun hc => ?_)
                 · all_goals
                    all_goals
                     refine zbq ?_; refine zbb ?_; refine G.inN (G.thenN ?_); refine zbq ?_; refine zdf ?_; refine zbb ?_; refine G.backK j 0 rfl (.cons rfl (.cons rfl (.cons rfl (.cons rfl (.cons rfl (.cons rfl (.cons rfl (.cons rfl (.nil))))))))) ?_ ?_ ?_
                     exact ⟨congrArg (fun z => some (Value.int .i64 z)) ((show ((j + 1 : Nat) : Int) - 1 = (j : Int) by omega).trans (from_yes hb hc)), congrArg (fun z => some (Value.int .i64 z)) (show ((j + 1 : Nat) : Int) - 1 - 1 = (j : Int) - 1 by omega), trivial⟩
                     omega
                     omega
                 · all_goals
                    all_goals
                     refine G.skip (G.inN (G.thenN ?_)); refine zbq ?_; refine zdf ?_; refine zbb ?_; refine G.backK j 0 rfl (.cons rfl (.cons rfl (.cons rfl (.cons rfl (.cons rfl (.cons rfl (.cons rfl (.cons rfl (.nil))))))))) ?_ ?_ ?_
                     exact ⟨congrArg (fun z => some (Value.int .i64 z)) (from_no hb hc), congrArg (fun z => some (Value.int .i64 z)) (show ((j + 1 : Nat) : Int) - 1 - 1 = (j : Int) - 1 by omega), trivial⟩
                     omega
                     omega
             · all_goals
                replace hc := of_decide_eq_false hc
                try (exfalso; omega)
                all_goals
                 refine zaW ?_; refine zaN ?_; refine zaT ?_; refine G.cond rfl (fun hc => ?_) (fun hc => ?_)
                 · all_goals
                    replace hc := of_decide_eq_true hc
                    all_goals
                     rw [from_zero] at hc
                     have hno := idx_neg hc
                     all_goals
                      refine zdR ?_; refine za2 (fun vl _ => ?_); refine zbW (fun hovl => ?_); refine zc4 (fun vm _ => ?_); refine zcC (fun va _ => ?_); refine G.frontG2 _ rfl ?_; refine zdi ?_; refine zaO ?_; refine zeq ?_; refine G.backK (k + 1, ts ++ [([u], vl)], va) 0 zK (.cons rfl (.cons rfl (.cons rfl (.cons rfl (.cons rfl (.nil)))))) ?_ ?_ ?_
                      exact ⟨rfl, rfl, trivial⟩
                      exact ⟨hlt, by rw [putAll_next hx, ← hM]; exact (put_push (p := fun g => roomM r g u) hno).symm⟩
                      dsimp only; omega
                 · all_goals
                    replace hc := of_decide_eq_false hc
                    all_goals
                     rw [from_zero] at hc
                     obtain ⟨q, b, hq, hqb, hpb, hbt⟩ := idx_pos hc
                     have hq2 := (from_zero (p := fun b => roomM r b.1 u) (l := ts)).trans hq
                     have heq := get_map hqb gcell
                     have hgi : (ts.map (sub id))[q]? = some (b.2, b.1.map icell) := get_mapS hqb
                     have hbl : b.1.length ≤ k := hblA q b hqb
                     all_goals
                      refine zdH ?_; refine zen ?_; refine za2 (fun vl _ => ?_); refine zdX (fun vb _ => ?_)
                      skip; refine zcN (fun hova => ?_)
                      refine G.v (rv_indexH (k := q) rfl rfl zm zb heq) rfl ?_; refine G.op0 (og_stE2 rfl rfl rfl zay (cells_one zc) rfl (by repeat (first | rfl | refine one_cons zc ?_)) rfl (.zero (.cons .nil))) (fun _ _ => ?_); refine G.done ?_; refine zaO ?_; refine zer ?_; refine G.backK (k + 1, ts.set q (b.1 ++ [u], vb), v2) 0 zI (.cons rfl (.cons rfl (.cons rfl (.cons rfl (.cons rfl (.nil)))))) ?_ ?_ ?_
                      exact ⟨rfl, rfl, trivial⟩
                      exact ⟨hlt, by rw [putAll_next hx, ← hM]; exact (put_into (p := fun g => roomM r g u) hqb hpb hbt).symm⟩
                      dsimp only; omega
        · all_goals
           replace hc := of_decide_eq_false hc
           simp only [hTl2, hol] at hc
           try (exfalso; omega)
           all_goals
            refine zcX ?_; refine G.know (fun w hw => (Rd.owned 1 rfl w hw).one_) (fun hone => G.retF (v2, ts) ⟨hone, by rw [take_all (l := ordU r us) zb] at hM; exact hM⟩ rfl rfl rfl (fun w hw => hw.sublist (by repeat (first | exact List.Sublist.refl _ | refine List.Sublist.cons_cons _ ?_ | refine List.Sublist.cons _ ?_))))
theorem sfirstFit_any : Fn Tryz.prog 133 [.agg (r.cells pv tv iv).toArray, uv] w (fun x : Value × List (List Int × Value) => x.1.oneCell' = true ∧ x.2.map Prod.fst = firstM r us) (fun x => x.1) (fun x => [.grp 3 1 (x.2.map (sub id)), .row x.1 52 1 (x.2.map gcell)]) := by
  have hTl : (thereM r us).length ≤ 1048576 := by have := thereM_len r us; omega
  refine Fn.of (n := 15) Tryz.func133 rfl rfl ?_; refine zaU (fun bk2 _ => ?_); refine zbk ?_; refine za7 ?_; refine zbD (fun _ _ => ?_); refine zeG ?_; refine G.condD rfl (fun hc => ?_) (fun hc => ?_)
  have hno : ¬ classM r = 0 := hc
  refine za6 (fun vl _ => ?_); refine zco ?_; refine G.thenR ?_; refine zcf ?_; refine G.know (fun w hw => (Rd.owned 1 rfl w hw).one_) (fun hone => G.retF (vl, []) ⟨hone, by rw [firstM, thereM_no hno, show ordU r [] = [] from List.eq_nil_of_length_eq_zero (ordU_len r [])]; rfl⟩ rfl rfl rfl (fun w hw => hw.sublist (by repeat (first | exact List.Sublist.refl _ | refine List.Sublist.cons_cons _ ?_ | refine List.Sublist.cons _ ?_))))
  have hyes : classM r = 0 := by omega
  refine zcH ?_; rintro vu hvu; try dsimp only
  refine GE.ol 4 za rfl rfl (og_callF1 rfl rfl (fun w hh => l7Known_any (r := r) (us := us) w zP (Rd.stays h4 _ hh) zb)) rfl zf ?_; rintro vt hvt; try dsimp only
  refine GE.ol 5 za rfl rfl (og_callF2 rfl rfl (fun w hh => l7First_any (r := r) (us := thereM r us) w (Rd.stays h2 _ hh) (Rd.stays h3 _ hh) zP hTl hyes)) rfl zu ?_; rintro ⟨vo, os⟩ ⟨hvo, hos⟩; try dsimp only
  refine GE.t 6 za rfl rfl rfl (og_runs (rv_assign rfl)) rfl (fun _ _ => ?_); refine zbm ?_; refine G.ret ?_
  exact G.retF (vo, os) ⟨hvo, hos⟩ rfl rfl rfl (fun w hw => hw.sublist (by repeat (first | exact List.Sublist.refl _ | refine List.Sublist.cons_cons _ ?_ | refine List.Sublist.cons _ ?_)))
/-- The cartons of the way that is asked for. -/
def wayM (r : ReqM) (us : List Int) : List (List Int) := if r.way = 1 then nextM r us else firstM r us
theorem packWay_any : Fn Tryz.prog 70 [.agg (r.cells pv tv iv).toArray, uv] w (fun x : Value × List (List Int × Value) => x.1.oneCell' = true ∧ x.2.map Prod.fst = wayM r us) (fun x => x.1) (fun x => [.grp 3 1 (x.2.map (sub id)), .row x.1 52 1 (x.2.map gcell)]) := by
  refine Fn.of (n := 14) Tryz.func70 rfl rfl ?_; refine zaU (fun bk2 _ => ?_); refine zbk ?_; refine G.seq ?_; refine zbx ?_; refine zdy ?_; refine G.condD rfl (fun hc => ?_) (fun hc => ?_); refine za7 ?_; refine zaM ?_; refine G.op (og_callF2 rfl rfl (fun w hh => nextFit_any (r := r) (us := us) w (Rd.stays h _ hh) (Rd.stays h2 _ hh) (Rd.stays h3 _ hh) (Rd.stays h4 _ hh) hul)) rfl ?_; rintro ⟨vo, os⟩ ⟨hvo, hos⟩; try dsimp only
  refine zco ?_; refine G.thenR ?_
  exact G.retF (vo, os) ⟨hvo, by rw [wayM, if_pos hc]; exact hos⟩ rfl rfl rfl (fun w hw => hw.sublist (by repeat (first | exact List.Sublist.refl _ | refine List.Sublist.cons_cons _ ?_ | refine List.Sublist.cons _ ?_)))
  refine zc1 ?_; refine za7 ?_; refine zaM ?_; refine G.op (og_callF2 rfl rfl (fun w hh => firstFit_any (r := r) (us := us) w (Rd.stays h _ hh) (Rd.stays h2 _ hh) (Rd.stays h3 _ hh) (Rd.stays h4 _ hh) hul)) rfl ?_; rintro ⟨vo, os⟩ ⟨hvo, hos⟩; try dsimp only
  refine zco ?_
  exact G.retF (vo, os) ⟨hvo, by rw [wayM, if_neg hc]; exact hos⟩ rfl rfl rfl (fun w hw => hw.sublist (by repeat (first | exact List.Sublist.refl _ | refine List.Sublist.cons_cons _ ?_ | refine List.Sublist.cons _ ?_)))
theorem spackWay_any : Fn Tryz.prog 73 [.agg (r.cells pv tv iv).toArray, uv] w (fun x : Value × List (List Int × Value) => x.1.oneCell' = true ∧ x.2.map Prod.fst = wayM r us) (fun x => x.1) (fun x => [.grp 3 1 (x.2.map (sub id)), .row x.1 52 1 (x.2.map gcell)]) := by
  refine Fn.of (n := 14) Tryz.func73 rfl rfl ?_; refine zaU (fun bk2 _ => ?_); refine zbk ?_; refine G.seq ?_; refine zbx ?_; refine zdy ?_; refine G.condD rfl (fun hc => ?_) (fun hc => ?_); refine za7 ?_; refine zaM ?_; refine G.op (og_callF2 rfl rfl (fun w hh => snextFit_any (r := r) (us := us) w (Rd.stays h _ hh) (Rd.stays h2 _ hh) (Rd.stays h3 _ hh) (Rd.stays h4 _ hh) hul)) rfl ?_; rintro ⟨vo, os⟩ ⟨hvo, hos⟩; try dsimp only
  refine zco ?_; refine G.thenR ?_
  exact G.retF (vo, os) ⟨hvo, by rw [wayM, if_pos hc]; exact hos⟩ rfl rfl rfl (fun w hw => hw.sublist (by repeat (first | exact List.Sublist.refl _ | refine List.Sublist.cons_cons _ ?_ | refine List.Sublist.cons _ ?_)))
  refine zc1 ?_; refine za7 ?_; refine zaM ?_; refine G.op (og_callF2 rfl rfl (fun w hh => sfirstFit_any (r := r) (us := us) w (Rd.stays h _ hh) (Rd.stays h2 _ hh) (Rd.stays h3 _ hh) (Rd.stays h4 _ hh) hul)) rfl ?_; rintro ⟨vo, os⟩ ⟨hvo, hos⟩; try dsimp only
  refine zco ?_
  exact G.retF (vo, os) ⟨hvo, by rw [wayM, if_neg hc]; exact hos⟩ rfl rfl rfl (fun w hw => hw.sublist (by repeat (first | exact List.Sublist.refl _ | refine List.Sublist.cons_cons _ ?_ | refine List.Sublist.cons _ ?_)))
end
end Go.Proofs.YtglpgohilfoecaaGreat

/-
  Packings: what is asked of one. No program is in sight here.
-/
namespace Go.Proofs.YtglpgohilfoecaaGreat
open Go.RowKit
theorem srt_perm_eq : ∀ {xs ys : List Int}, xs.Pairwise (· ≤ ·) → ys.Pairwise (· ≤ ·) → xs.Perm ys → xs = ys
  | [], ys, _, _, h => (List.Perm.nil_eq h)
  | x :: xs, [], _, _, h => by have := h.length_eq; simp at this
  | x :: xs, y :: ys, h1, h2, h => by
    have p1 := List.pairwise_cons.1 h1
    have p2 := List.pairwise_cons.1 h2
    have e : x = y := by
      rcases List.mem_cons.1 (h.mem_iff.1 (List.mem_cons_self)) with e | e
      · exact e
      · rcases List.mem_cons.1 (h.mem_iff.2 (List.mem_cons_self)) with e2 | e2
        · exact e2.symm
        · have := p2.1 x e; have := p1.1 y e2; omega
    subst e
    rw [srt_perm_eq p1.2 p2.2 (List.Perm.cons_inv h)]
theorem sortM_eq {a b : List Int} : sortM a = sortM b ↔ a.Perm b :=
  ⟨fun h => (sortM_perm a).symm.trans (h ▸ sortM_perm b), fun h => srt_perm_eq (sortM_srt a) (sortM_srt b) ((sortM_perm a).trans (h.trans (sortM_perm b).symm))⟩
/-- How often x is there. -/
def timesM (l : List Int) (x : Int) : Nat := l.countP (fun y => decide (y = x))
/-- Whether no carton is empty, or over. -/
def okCs (r : ReqM) (cs : List (List Int)) : Bool := cs.all fun l => decide (l.length ≠ 0) && holdsM r l
/-- Whether cartons are a packing of units. -/
def packM (r : ReqM) (us : List Int) (cs : List (List Int)) : Bool := decide (classM r = 0) && (okCs r cs && decide (sortM cs.flatten = sortM (thereM r us)))
theorem packM_ok {r : ReqM} {us : List Int} {cs : List (List Int)} (hc : classM r = 0) (h : okCs r cs = true) : packM r us cs = decide (sortM cs.flatten = sortM (thereM r us)) := by rw [packM, h, decide_eq_true hc, Bool.true_and, Bool.true_and]
end Go.Proofs.YtglpgohilfoecaaGreat

/-
  The contract of the library's sort at this program: written by the kit's tools lay-shelf and lay-plain.
-/
namespace Go.Proofs
open Go.Shelf
def Tryz.lays189_ren : Go.Shelf.Ren := ⟨fun | 189 => 72 | 125 => 131 | 257 => 130 | 128 => 191 | 129 => 192 | 294 => 182 | 295 => 183 | 296 => 184 | 297 => 185 | 298 => 186 | 299 => 187 | 216 => 188 | 300 => 189 | 301 => 190 | 328 => 229 | 329 => 230 | 330 => 231 | 331 => 232 | 332 => 233 | 215 => 234 | 343 => 241 | n => n, fun | 28 => 52 | 3 => 3 | 46 => 156 | 0 => 0 | 51 => 194 | 53 => 196 | 4 => 4 | 183 => 186 | 182 => 185 | 131 => 191 | 5 => 5 | 9 => 9 | 218 => 220 | 222 => 224 | 228 => 232 | 229 => 233 | n => n, fun | n => n⟩
theorem Tryz.lays189 : Go.Proofs.Lays.n189 Tryz.prog Tryz.lays189_ren := {
  mixed := by kernel_rfl
  f125 := Tryz.func131.trans (congrArg some (by kernel_rfl))
  f128 := Tryz.func191.trans (congrArg some (by kernel_rfl))
  f129 := Tryz.func192.trans (congrArg some (by kernel_rfl))
  f189 := Tryz.func72.trans (congrArg some (by kernel_rfl))
  f215 := Tryz.func234.trans (congrArg some (by kernel_rfl))
  f216 := Tryz.func188.trans (congrArg some (by kernel_rfl))
  f257 := Tryz.func130.trans (congrArg some (by kernel_rfl))
  f294 := Tryz.func182.trans (congrArg some (by kernel_rfl))
  f295 := Tryz.func183.trans (congrArg some (by kernel_rfl))
  f296 := Tryz.func184.trans (congrArg some (by kernel_rfl))
  f297 := Tryz.func185.trans (congrArg some (by kernel_rfl))
  f298 := Tryz.func186.trans (congrArg some (by kernel_rfl))
  f299 := Tryz.func187.trans (congrArg some (by kernel_rfl))
  f300 := Tryz.func189.trans (congrArg some (by kernel_rfl))
  f301 := Tryz.func190.trans (congrArg some (by kernel_rfl))
  f328 := Tryz.func229.trans (congrArg some (by kernel_rfl))
  f329 := Tryz.func230.trans (congrArg some (by kernel_rfl))
  f330 := Tryz.func231.trans (congrArg some (by kernel_rfl))
  f331 := Tryz.func232.trans (congrArg some (by kernel_rfl))
  f332 := Tryz.func233.trans (congrArg some (by kernel_rfl))
  f343 := Tryz.func241.trans (congrArg some (by kernel_rfl))
  t0 := Tryz.underlying0
  a0 := Tryz.isAgg0
  z0 := Tryz.sizeOf0
  v0 := Tryz.zeroValue0
  t3 := Tryz.underlying3
  a3 := Tryz.isAgg3
  z3 := Tryz.sizeOf3
  v3 := Tryz.zeroValue3
  t4 := Tryz.underlying4
  a4 := Tryz.isAgg4
  z4 := Tryz.sizeOf4
  v4 := Tryz.zeroValue4
  t5 := Tryz.underlying5
  a5 := Tryz.isAgg5
  z5 := Tryz.sizeOf5
  v5 := Tryz.zeroValue5
  t9 := Tryz.underlying9
  a9 := Tryz.isAgg9
  z9 := Tryz.sizeOf9
  v9 := Tryz.zeroValue9
  t28 := Tryz.underlying52
  a28 := Tryz.isAgg52
  z28 := Tryz.sizeOf52
  v28 := Tryz.zeroValue52
  t46 := Tryz.underlying156
  a46 := Tryz.isAgg156
  z46 := Tryz.sizeOf156
  v46 := Tryz.zeroValue156
  t51 := Tryz.underlying194
  a51 := Tryz.isAgg194
  z51 := Tryz.sizeOf194
  v51 := Tryz.zeroValue194
  t53 := Tryz.underlying196
  a53 := Tryz.isAgg196
  z53 := Tryz.sizeOf196
  v53 := Tryz.zeroValue196
  t131 := Tryz.underlying191
  a131 := Tryz.isAgg191
  z131 := Tryz.sizeOf191
  v131 := Tryz.zeroValue191
  t182 := Tryz.underlying185
  a182 := Tryz.isAgg185
  z182 := Tryz.sizeOf185
  v182 := Tryz.zeroValue185
  t183 := Tryz.underlying186
  a183 := Tryz.isAgg186
  z183 := Tryz.sizeOf186
  v183 := Tryz.zeroValue186
  t218 := Tryz.underlying220
  a218 := Tryz.isAgg220
  z218 := Tryz.sizeOf220
  v218 := Tryz.zeroValue220
  t222 := Tryz.underlying224
  a222 := Tryz.isAgg224
  z222 := Tryz.sizeOf224
  v222 := Tryz.zeroValue224
  t228 := Tryz.underlying232
  a228 := Tryz.isAgg232
  z228 := Tryz.sizeOf232
  v228 := Tryz.zeroValue232
  t229 := Tryz.underlying233
  a229 := Tryz.isAgg233
  z229 := Tryz.sizeOf233
  v229 := Tryz.zeroValue233 }
open Go.Sort Go.RowKit in
theorem Tryz.slices_Sort_int (blk off cap : Nat) (zs : List Int) (w : World) (hH : Holds (Value.int .i64) w blk off zs.toArray) (hblk : blk < w.heap.size) (hsz : zs.length < 4611686018427387904) :
    Calls Tryz.prog 72 #[.slice (some ⟨blk, off, none⟩) zs.length cap] w fun e w' =>
      e = .returned (.tuple #[]) ∧ ∃ n os, w' = grow (putRow (Value.int .i64) (Sort.ahead w n) blk off (zs.mergeSort fun x y => decide (x ≤ y)).toArray) os := Any.slices_Sort_int Tryz.lays189 blk off cap zs w hH hblk hsz
end Go.Proofs

/-
  A list of numbers, sorted by the library, however long it is.
-/
namespace Go.Proofs.YtglpgohilfoecaaGreat
open Go.RowKit Go.Sort
theorem icell_flat (l : List Int) : (l.map icell).flatten = l.map (Value.int .i64) := by
  induction l with
  | nil => rfl
  | cons x r ih => rw [List.map_cons, List.flatten_cons, ih]; rfl
theorem sortM_merge (ks : List Int) : ks.mergeSort (fun x y => decide (x ≤ y)) = sortM ks := by
  refine srt_perm_eq ?_ (sortM_srt ks) ((List.mergeSort_perm _ _).trans (sortM_perm ks).symm)
  have h := List.pairwise_mergeSort (le := fun x y : Int => decide (x ≤ y)) (fun a b c h1 h2 => by simp only [decide_eq_true_eq] at *; omega) (fun a b => by simp only [Bool.or_eq_true, decide_eq_true_eq]; omega) ks
  exact h.imp (fun h => of_decide_eq_true h)
section
variable {w0 : World} {F : List Ch} {v : Value}
theorem sortG_any {ks : List Int} (hn : ks.length ≤ 1048576) :
    FnMF Tryz.prog 72 [v] w0 [.row v 3 1 (ks.map icell)] F (fun _ : Unit => True) (fun _ => .tuple #[]) (fun _ => [.row v 3 1 ((sortM ks).map icell)]) := by
  by_cases h12 : ks.length ≤ 12
  · exact sort_any h12
  · intro w hh
    have hln : (ks.map icell).length = ks.length := by simp
    obtain ⟨hrow, hgood⟩ := hh.ok _ (List.mem_cons_self)
    rcases hrow.2 with ⟨_, hz⟩ | ⟨g, cap, cur, hv, hB, hg, hle, hcm, hsz, htk⟩
    · omega
    · rw [Nat.mul_one, hln, icell_flat] at htk
      rw [hln] at hv hle
      subst hv
      have hlt : g < w.heap.size := (Array.getElem?_eq_some_iff.1 hg).1
      refine Calls.mono (Go.Proofs.Tryz.slices_Sort_int g 0 cap ks w (holds_of_blockI hg htk) hlt zb) ?_
      rintro e w' ⟨rfl, n, os, rfl⟩
      have hgr := grownBy_sortedI (w := w) (g := g) (n := n) (os := os) (ks.mergeSort fun x y => decide (x ≤ y)).toArray
      have hml : (ks.mergeSort fun x y => decide (x ≤ y)).length = ks.length := by simp
      refine ⟨(), trivial, rfl, hh.below.grown hgr hh.below.size (fun k hk => by cases hk; exact hB), fun c hc => ?_, ?_⟩
      · rcases List.mem_cons.1 hc with rfl | hc
        · refine ⟨?_, fun e he => ?_⟩
          · have := ownsRow_sortedI (w := w) (base := w0.heap.size) (n := n) (os := os) (ss := ks) (ts := ks.mergeSort fun x y => decide (x ≤ y)) hml hB hg hle hcm hsz
            rw [sortM_merge] at this ⊢
            rw [icell_flat, List.length_map, sortM_len]
            exact this
          · obtain ⟨x, _, rfl⟩ := List.mem_map.1 he
            exact ⟨rfl, fun u hu => by rw [List.mem_singleton.1 hu]; rfl⟩
        · have hd := hh.ok c (List.mem_cons_of_mem _ hc)
          refine Ch.ok_of hd fun k hk => hgr.block k (Ch.lt hd hk).2 ?_
          intro e
          have hap := (List.pairwise_cons.1 hh.ap).1 c hc g rfl
          have : k = g := Option.some.inj e
          subst this
          exact hap hk
      · have hp := List.pairwise_cons.1 hh.ap
        exact List.pairwise_cons.2 ⟨fun d hd k hk => hp.1 d hd k hk, hp.2⟩
end
end Go.Proofs.YtglpgohilfoecaaGreat

/-
  A carton's box.
-/
namespace Go.Proofs.YtglpgohilfoecaaGreat
open Go.RowKit
attribute [local irreducible] Go.wpList Go.Code.wp Go.Exit.then Go.Exit.inBlock Go.bodyPost Go.Calls pE pB G RunsV FnV Fn FnM
set_option maxRecDepth 100000
set_option maxHeartbeats 4000000
def grossM (r : ReqM) (x : CartonM) : Int := if (typeAt r x.t).2 = true ∧ classM r = 0 then (typeAt r x.t).1.tare + gramM r x.l else 0
def boxOfM (r : ReqM) (x : CartonM) : BoxM := if (typeAt r x.t).2 = true ∧ classM r = 0 then ⟨(typeAt r x.t).1.w, (typeAt r x.t).1.d, (typeAt r x.t).1.h, grossM r x⟩ else ⟨0, 0, 0, 0⟩
theorem type_at_in {r : ReqM} {id : Int} (h : (typeAt r id).2 = true ∧ classM r = 0) : 0 ≤ (typeAt r id).1.tare ∧ (typeAt r id).1.tare ≤ 100000 := by
  rw [typeAt] at h ⊢
  cases hf : typeByM r id with
  | none => rw [hf] at h; exact absurd h.1 (by decide)
  | some t =>
    have := type_in (bounds_types (cls_sound h.2) t (List.mem_of_find?_eq_some hf))
    dsimp only
    omega
theorem gross_any {r : ReqM} {pv tv iv : Value} (x : CartonM × Value) (w : World) (h : Rd w pv 2 (r.pairs.map PairM.cells)) (h2 : Rd w tv 7 (r.types.map TypeM.cells)) (h3 : Rd w iv 7 (r.items.map ItemM.cells)) (h4 : Rd w x.2 1 (x.1.l.map icell)) (hul : x.1.l.length ≤ 1048576) :
    FnV Tryz.prog 24 [.agg (r.cells pv tv iv).toArray, .agg (CartonM.cells x).toArray] w (.int .i64 (grossM r x.1)) := by
  have hgi := gram_in r x.1.l
  refine FnV.of (n := 28) Tryz.func24 rfl rfl ?_; refine zaU (fun bk2 _ => ?_); refine zdc (fun bk3 _ => ?_); refine zbk ?_; refine zbM ?_; refine zdJ ?_; refine G.op (og_callV rfl rfl (fun w hh => typeById_any (r := r) x.1.t w (Rd.stays h2 _ hh))) rfl (fun _ _ => ?_); refine zbi (fun bk5 _ => ?_); refine zaV (fun _ _ => ?_); refine zfb ?_; refine zem ?_
  (with_reducible refine G.gP rfl rfl (fun hg => ?_) (fun hg => ?_)) <;> (try exact Bool.noConfusion hg) <;> (first | (refine zaQ ?_; (refine G.v (rv_loadW 2 rfl rfl rfl) rfl ?_)) | refine zaP ?_)
  all_goals ((first | (refine zaQ ?_; refine zbN (fun _ _ => ?_)) | refine zaP ?_))
  all_goals ((first | (refine zcF ?_) | refine zaP ?_))
  all_goals ((first | refine zba ?_ | refine zbc ?_))
  all_goals
   refine zbe ?_; refine G.cond rfl (fun hc => ?_) (fun hc => ?_)
   · all_goals
      all_goals
       have hno : ¬ ((typeAt r x.1.t).2 = true ∧ classM r = 0) := by (clear h h2 h3 h4; simp_all)
       all_goals
        refine zdM ?_
        exact G.retFV rfl rfl (congrArg (Value.int .i64) (by rw [grossM, if_neg hno]))
   · try exact Bool.noConfusion hc
     all_goals
      all_goals
       have hyes : (typeAt r x.1.t).2 = true ∧ classM r = 0 := by (clear h h2 h3 h4; simp_all)
       have htb := type_at_in hyes
       all_goals
        refine zc1 ?_; refine G.seq (G.drawL [7] ?_); refine zbP ?_; refine GE.q 2 rfl za rfl (qg_runs (rv_loadW 2 rfl rfl rfl)) rfl ?_; refine GE.ol 3 za rfl rfl (og_runs (rv_field rfl)) rfl zd (fun _ _ => ?_); refine GE.ol 4 za rfl rfl (og_runs (rv_load1 1 rfl rfl rfl)) rfl zd (fun _ _ => ?_); refine GE.ol 5 za rfl rfl (og_callV rfl rfl (fun w hh => gramOf_any (r := r) w (Rd.stays h _ hh) (Rd.stays h2 _ hh) (Rd.stays h3 _ hh) (Rd.stays h4 _ hh) hul)) rfl zd (fun _ _ => ?_); refine zbK (fun _ _ => ?_); refine GE.t 7 za rfl rfl rfl (og_runs (rv_assign rfl)) rfl (fun _ _ => ?_); refine zbm ?_; refine G.ret ?_
        exact G.retFV rfl rfl (congrArg (Value.int .i64) (by rw [grossM, if_pos hyes]))
theorem sgross_any {r : ReqM} {pv tv iv : Value} (x : CartonM × Value) (w : World) (h : Rd w pv 2 (r.pairs.map PairM.cells)) (h2 : Rd w tv 7 (r.types.map TypeM.cells)) (h3 : Rd w iv 7 (r.items.map ItemM.cells)) (h4 : Rd w x.2 1 (x.1.l.map icell)) (hul : x.1.l.length ≤ 1048576) :
    FnV Tryz.prog 90 [.agg (r.cells pv tv iv).toArray, .agg (CartonM.cells x).toArray] w (.int .i64 (grossM r x.1)) := by
  have hgi := gram_in r x.1.l
  refine FnV.of (n := 28) Tryz.func90 rfl rfl ?_; refine zaU (fun bk2 _ => ?_); refine zdc (fun bk3 _ => ?_); refine zbk ?_; refine zbM ?_; refine zdJ ?_; refine G.op (og_callV rfl rfl (fun w hh => stypeById_any (r := r) x.1.t w (Rd.stays h2 _ hh))) rfl (fun _ _ => ?_); refine zbi (fun bk5 _ => ?_); refine zaV (fun _ _ => ?_); refine zbk ?_; refine zbQ ?_; refine zbD (fun _ _ => ?_); refine G.v (rv_neq rfl rfl) rfl ?_; refine zaM ?_
  (with_reducible refine G.gP rfl rfl (fun hg => ?_) (fun hg => ?_)) <;> (try exact Bool.noConfusion hg) <;> (first | (refine zbr ?_) | refine zaP ?_)
  all_goals ((first | (refine zcF ?_) | refine zaP ?_))
  all_goals ((first | refine zba ?_ | refine zbc ?_))
  all_goals
   refine zbe ?_; refine G.cond rfl (fun hc => ?_) (fun hc => ?_)
   · all_goals
      all_goals
       have hno : ¬ ((typeAt r x.1.t).2 = true ∧ classM r = 0) := by (clear h h2 h3 h4; simp_all)
       all_goals
        refine zdM ?_
        exact G.retFV rfl rfl (congrArg (Value.int .i64) (by rw [grossM, if_neg hno]))
   · try exact Bool.noConfusion hc
     all_goals
      all_goals
       have hyes : (typeAt r x.1.t).2 = true ∧ classM r = 0 := by (clear h h2 h3 h4; simp_all)
       have htb := type_at_in hyes
       all_goals
        refine zc1 ?_; refine G.seq (G.drawL [7] ?_); refine zbP ?_; refine GE.q 2 rfl za rfl (qg_runs (rv_loadW 2 rfl rfl rfl)) rfl ?_; refine GE.ol 3 za rfl rfl (og_runs (rv_field rfl)) rfl zd (fun _ _ => ?_); refine GE.ol 4 za rfl rfl (og_runs (rv_load1 1 rfl rfl rfl)) rfl zd (fun _ _ => ?_); refine GE.ol 5 za rfl rfl (og_callV rfl rfl (fun w hh => sgramOf_any (r := r) w (Rd.stays h _ hh) (Rd.stays h2 _ hh) (Rd.stays h3 _ hh) (Rd.stays h4 _ hh) hul)) rfl zd (fun _ _ => ?_); refine zbK (fun _ _ => ?_); refine GE.t 7 za rfl rfl rfl (og_runs (rv_assign rfl)) rfl (fun _ _ => ?_); refine zbm ?_; refine G.ret ?_
        exact G.retFV rfl rfl (congrArg (Value.int .i64) (by rw [grossM, if_pos hyes]))
theorem boxOf_any {r : ReqM} {pv tv iv : Value} (x : CartonM × Value) (w : World) (h : Rd w pv 2 (r.pairs.map PairM.cells)) (h2 : Rd w tv 7 (r.types.map TypeM.cells)) (h3 : Rd w iv 7 (r.items.map ItemM.cells)) (h4 : Rd w x.2 1 (x.1.l.map icell)) (hul : x.1.l.length ≤ 1048576) :
    FnV Tryz.prog 34 [.agg (r.cells pv tv iv).toArray, .agg (CartonM.cells x).toArray] w (boxOfM r x.1).val := by
  refine FnV.of (n := 32) Tryz.func34 rfl rfl ?_; refine zaU (fun bk2 _ => ?_); refine zdc (fun bk3 _ => ?_); refine zbu (fun bk4 _ => ?_); refine zbe ?_; refine zbQ ?_; refine zbl ?_; refine G.op (og_callV rfl rfl (fun w hh => typeById_any (r := r) x.1.t w (Rd.stays h2 _ hh))) rfl (fun _ _ => ?_); refine zbi (fun bk5 _ => ?_); refine zaV (fun _ _ => ?_); refine zfb ?_; refine zem ?_
  (with_reducible refine G.gP rfl rfl (fun hg => ?_) (fun hg => ?_)) <;> (try exact Bool.noConfusion hg) <;> (first | (refine zaQ ?_; (refine zd6 ?_)) | refine zaP ?_)
  all_goals ((first | (refine zaQ ?_; refine zbN (fun _ _ => ?_)) | refine zaP ?_))
  all_goals ((first | (refine zcF ?_) | refine zaP ?_))
  all_goals ((first | refine zba ?_ | refine zbc ?_))
  all_goals
   refine zbe ?_; refine G.cond rfl (fun hc => ?_) (fun hc => ?_)
   · all_goals
      all_goals
       have hno : ¬ ((typeAt r x.1.t).2 = true ∧ classM r = 0) := by (clear h h2 h3 h4; simp_all)
       all_goals
        refine zdE ?_; refine G.op0 (og_st1 rfl rfl rfl rfl rfl rfl (.zero (.cons (.cons (.cons (.cons .nil)))))) (fun _ _ => ?_); refine zc2 ?_; refine G.thenR ?_
        (rw [boxOfM, if_neg hno]); exact G.retFVc 1 rfl rfl rfl rfl rfl
   · try exact Bool.noConfusion hc
     all_goals
      all_goals
       have hyes : (typeAt r x.1.t).2 = true ∧ classM r = 0 := by (clear h h2 h3 h4; simp_all)
       all_goals
        refine zc1 ?_; refine G.seq (G.drawL [10] ?_); refine zbP ?_; refine zcp ?_; refine GE.q 6 rfl za rfl (qg_runs (rv_loadW 3 rfl rfl rfl)) rfl ?_; refine GE.ol 7 za rfl rfl (og_runs (rv_loadW 2 rfl rfl rfl)) rfl zd (fun _ _ => ?_); refine GE.ol 8 za rfl rfl (og_callV rfl rfl (fun w hh => gross_any (r := r) x w (Rd.stays h _ hh) (Rd.stays h2 _ hh) (Rd.stays h3 _ hh) (Rd.stays h4 _ hh) hul)) rfl zd (fun _ _ => ?_); refine zdl (fun _ _ => ?_)
        refine GE.t0 10 za rfl rfl rfl (og_st1 rfl rfl rfl rfl rfl rfl (.zero (.cons (.cons (.cons (.cons .nil)))))) (fun _ _ => ?_); refine zbm ?_; refine G.ret ?_
        (rw [boxOfM, if_pos hyes]); exact G.retFVc 1 rfl rfl rfl rfl rfl
theorem sboxOf_any {r : ReqM} {pv tv iv : Value} (x : CartonM × Value) (w : World) (h : Rd w pv 2 (r.pairs.map PairM.cells)) (h2 : Rd w tv 7 (r.types.map TypeM.cells)) (h3 : Rd w iv 7 (r.items.map ItemM.cells)) (h4 : Rd w x.2 1 (x.1.l.map icell)) (hul : x.1.l.length ≤ 1048576) :
    FnV Tryz.prog 35 [.agg (r.cells pv tv iv).toArray, .agg (CartonM.cells x).toArray] w (boxOfM r x.1).val := by
  refine FnV.of (n := 32) Tryz.func35 rfl rfl ?_; refine zaU (fun bk2 _ => ?_); refine zdc (fun bk3 _ => ?_); refine zbu (fun bk4 _ => ?_); refine zbe ?_; refine zbQ ?_; refine zbl ?_; refine G.op (og_callV rfl rfl (fun w hh => stypeById_any (r := r) x.1.t w (Rd.stays h2 _ hh))) rfl (fun _ _ => ?_); refine zbi (fun bk5 _ => ?_); refine zaV (fun _ _ => ?_); refine zbk ?_; refine zct ?_; refine zd6 ?_; refine zbD (fun _ _ => ?_); refine G.v (rv_neq rfl rfl) rfl ?_; refine zaM ?_
  (with_reducible refine G.gP rfl rfl (fun hg => ?_) (fun hg => ?_)) <;> (try exact Bool.noConfusion hg) <;> (first | (refine zbr ?_) | refine zaP ?_)
  all_goals ((first | (refine zcF ?_) | refine zaP ?_))
  all_goals ((first | refine zba ?_ | refine zbc ?_))
  all_goals
   refine zbe ?_; refine G.cond rfl (fun hc => ?_) (fun hc => ?_)
   · all_goals
      all_goals
       have hno : ¬ ((typeAt r x.1.t).2 = true ∧ classM r = 0) := by (clear h h2 h3 h4; simp_all)
       all_goals
        refine zdE ?_; refine G.op0 (og_st1 rfl rfl rfl rfl rfl rfl (.zero (.cons (.cons (.cons (.cons .nil)))))) (fun _ _ => ?_); refine zc2 ?_; refine G.thenR ?_
        (rw [boxOfM, if_neg hno]); exact G.retFVc 1 rfl rfl rfl rfl rfl
   · try exact Bool.noConfusion hc
     all_goals
      all_goals
       have hyes : (typeAt r x.1.t).2 = true ∧ classM r = 0 := by (clear h h2 h3 h4; simp_all)
       all_goals
        refine zc1 ?_; refine G.seq (G.drawL [10] ?_); refine zbP ?_; refine zcp ?_; refine GE.q 6 rfl za rfl (qg_runs (rv_loadW 3 rfl rfl rfl)) rfl ?_; refine GE.ol 7 za rfl rfl (og_runs (rv_loadW 2 rfl rfl rfl)) rfl zd (fun _ _ => ?_); refine GE.ol 8 za rfl rfl (og_callV rfl rfl (fun w hh => sgross_any (r := r) x w (Rd.stays h _ hh) (Rd.stays h2 _ hh) (Rd.stays h3 _ hh) (Rd.stays h4 _ hh) hul)) rfl zd (fun _ _ => ?_); refine zdl (fun _ _ => ?_)
        refine GE.t0 10 za rfl rfl rfl (og_st1 rfl rfl rfl rfl rfl rfl (.zero (.cons (.cons (.cons (.cons .nil)))))) (fun _ _ => ?_); refine zbm ?_; refine G.ret ?_
        (rw [boxOfM, if_pos hyes]); exact G.retFVc 1 rfl rfl rfl rfl rfl
end Go.Proofs.YtglpgohilfoecaaGreat

/-
  Plans that are right.
-/
namespace Go.Proofs.YtglpgohilfoecaaGreat
open Go.RowKit
attribute [local irreducible] Go.wpList Go.Code.wp Go.Exit.then Go.Exit.inBlock Go.bodyPost Go.Calls pE pB G RunsV FnV Fn FnM
set_option maxRecDepth 100000

/-- The numbers of a list go up, and are in bounds: at one place. -/
def upAt (l : List Int) (i : Nat) : Bool := match l[i]? with
  | none => true
  | some u => inB u 0 999 && (match i with | 0 => true | j + 1 => match l[j]? with | none => true | some v => decide (v < u))
def upM (l : List Int) : Bool := decide (l.length ≤ 100) && (List.range l.length).all (upAt l)
def planAt (cs : List CartonM) (ss : List SpotM) (i : Nat) : Bool := match cs[i]?, ss[i]? with
  | some c, some s => (inB c.t 0 999 && inB c.g 0 3 && upM c.l) && inB s.p 0 2000 && inB s.x 0 2000 && inB s.y 0 2000 && inB s.z 0 2000
  | _, _ => true
def planOkM (cs : List CartonM) (ss : List SpotM) : Bool := decide (ss.length = cs.length) && decide (cs.length ≤ 100) && (List.range cs.length).all (planAt cs ss)
end Go.Proofs.YtglpgohilfoecaaGreat

/-
  Plans that are alike, and what lies on a pallet.
-/
namespace Go.Proofs.YtglpgohilfoecaaGreat
open Go.RowKit
attribute [local irreducible] Go.wpList Go.Code.wp Go.Exit.then Go.Exit.inBlock Go.bodyPost Go.Calls pE pB G RunsV FnV Fn FnM
set_option maxRecDepth 100000
set_option maxHeartbeats 1000000
def onP (k : Int) (s : SpotM) : Bool := decide (s.p = k)
def onPalletM (n : Nat) (ss : List SpotM) (k : Int) : List Int := if ss.length = n then whereG (onP k) ss else []
theorem onPallet_len (n : Nat) (ss : List SpotM) (k : Int) : (onPalletM n ss k).length ≤ ss.length := by
  unfold onPalletM; split
  · exact where_len _ _
  · simp
theorem onPallet_any {cv sv : Value} {cs : List (CartonM × Value)} {ss : List SpotM} {z : Int} (w : World) (h : Rd w cv 3 (cs.map CartonM.cells)) (h3 : Rd w sv 4 (ss.map SpotM.cells)) (hb : ss.length ≤ 1048576) :
    Fn Tryz.prog 41 [.agg [cv, sv].toArray, .int .i64 z] w (fun v : Value => v.oneCell' = true) (fun v => v) (fun v => [.row v 3 1 ((onPalletM cs.length ss z).map icell)]) := by
  have hle := h3.le_map
  refine Fn.of (n := 34) Tryz.func41 rfl rfl ?_; refine zaU (fun bk2 _ => ?_); refine zbk ?_; refine G.seq ?_; refine zbx ?_; refine zbg ?_; refine zdJ ?_; refine zbg ?_; refine zeG ?_; refine G.condD rfl (fun hc => ?_) (fun hc => ?_)
  simp only [List.length_map] at hc
  refine zdM ?_
  exact G.retF (.slice none 0 0) rfl rfl rfl rfl (fun w hw => by rw [onPalletM, if_neg zb]; exact hw.none.nilRow _ _)
  · simp only [List.length_map] at hc
    refine zc1 ?_; refine za6 (fun vl _ => ?_); refine zbk ?_; refine zct ?_; refine zbl ?_; refine zeV ?_
    have hl : ss.length = cs.length := by omega
    refine G.loopK (ι := Nat × Value) (ks := [1, 17, 18]) (fun x => [(5, x.2), (19, .int .i64 x.1)]) (fun x => [.row x.2 3 1 ((whereG (onP z) (ss.take x.1)).map icell)]) (fun x => x.1 ≤ ss.length) (fun x => ss.length - x.1) (0, vl) (.cons rfl (.cons rfl (.cons rfl (.nil)))) rfl ?_ ?_ ?_
    exact Nat.zero_le _
    exact ⟨rfl, rfl, trivial⟩
    rintro ⟨k, v2⟩ hk
    have hwl := where_len (onP z) (ss.take k)
    have htl : (ss.take k).length ≤ k := by (rw [List.length_take]; omega)
    by_cases hlt : k < ss.length
    case' pos => (obtain ⟨b, hb2⟩ := get_of_lt hlt; have he := get_map hb2 SpotM.cells)
    all_goals
     refine zbs ?_; refine G.cond rfl (fun hc => ?_) (fun hc => ?_)
     · all_goals
        replace hc := of_decide_eq_true hc
        simp only [List.length_map] at hc
        try (exfalso; omega)
        all_goals
         refine zee ?_; refine zbh ?_; refine zbu (fun bk7 _ => ?_); refine zcD ?_; refine zbT (fun _ _ => ?_); refine ze1 ?_; refine zbx ?_; refine zaM ?_; refine zdy ?_; refine G.cond rfl (fun hc => ?_) (fun hc => ?_)
         · all_goals
            replace hc := of_decide_eq_true hc
            all_goals
             refine zdR ?_; refine za2 (fun vl _ => ?_); refine zdI (fun va _ => ?_); refine zbb ?_; refine zaX ?_; refine G.backK (k + 1, va) 2 (by exact one_eq (congrArg (fun z => Ch.row _ 3 1 z) (where_yes hb2 (decide_eq_true hc)))) (.cons rfl (.cons rfl (.cons rfl (.nil)))) (⟨rfl, rfl, trivial⟩) ?_ ?_
             exact hlt
             omega
         · all_goals
            replace hc := of_decide_eq_false hc
            all_goals
             refine G.skip ?_; refine zaX ?_; refine G.backK (k + 1, v2) 1 (by exact one_eq (congrArg (fun z => Ch.row _ 3 1 z) (where_no hb2 (decide_eq_false hc)))) (.cons rfl (.cons rfl (.cons rfl (.nil)))) (⟨rfl, rfl, trivial⟩) ?_ ?_
             exact hlt
             omega
     · all_goals
        replace hc := of_decide_eq_false hc
        simp only [List.length_map] at hc
        try (exfalso; omega)
        all_goals
         refine zcX ?_; refine G.know (fun w hw => (Rd.owned 0 rfl w hw).one_) (fun hone => G.retF v2 hone rfl rfl rfl (fun w hw => by rw [onPalletM, if_pos hl, ← take_all hlt]; exact hw.sublist (by repeat (first | exact List.Sublist.refl _ | refine List.Sublist.cons_cons _ ?_ | refine List.Sublist.cons _ ?_)))); done
end Go.Proofs.YtglpgohilfoecaaGreat

/-
  What a pallet weighs: both ways, and the law.
-/
namespace Go.Proofs.YtglpgohilfoecaaGreat
open Go.RowKit
attribute [local irreducible] Go.wpList Go.Code.wp Go.Exit.then Go.Exit.inBlock Go.bodyPost Go.Calls pE pB G RunsV FnV Fn FnM
set_option maxRecDepth 100000
set_option maxHeartbeats 4000000
def grossAt (r : ReqM) (cs : List CartonM) (i : Int) : Int := match cs[i.toNat]? with | some c => grossM r c | none => 0
def palletGramM (r : ReqM) (cs : List CartonM) (ss : List SpotM) (z : Int) : Int := ((onPalletM cs.length ss z).map (grossAt r cs)).sum
theorem onPallet_mem {n : Nat} {ss : List SpotM} {z x : Int} (h : x ∈ onPalletM n ss z) : ∃ m : Nat, x = m ∧ m < n := by
  rw [onPalletM] at h
  split at h
  · rename_i hl
    obtain ⟨p, hp, rfl⟩ := List.mem_map.1 h
    have h1 := (List.mem_filter.1 hp).1
    obtain ⟨_, hlt⟩ := List.getElem?_eq_some_iff.1 (List.mk_mem_zipIdx_iff_getElem?.1 h1)
    exact ⟨p.2, rfl, by have := (List.getElem?_eq_some_iff.1 (List.mk_mem_zipIdx_iff_getElem?.1 h1)).1; omega⟩
  · simp at h
theorem gross_in {r : ReqM} {x : CartonM} (hl : x.l.length ≤ 1048576) : 0 ≤ grossM r x ∧ grossM r x ≤ 104857700000 := by
  have h1 := gram_in r x.l
  rw [grossM]
  split
  · rename_i h
    have := type_at_in h
    omega
  · omega
theorem pg_next {r : ReqM} {cs : List CartonM} {l : List Int} {k m : Nat} {c : CartonM} (hb : l[k]? = some (m : Int)) (hc : cs[m]? = some c) : ((l.take (k + 1)).map (grossAt r cs)).sum = ((l.take k).map (grossAt r cs)).sum + grossM r c := by
  have e : grossAt r cs (m : Int) = grossM r c := by rw [grossAt, Int.toNat_natCast, hc]
  simp [List.take_add_one, hb, List.sum_append, e]
theorem pg_in {r : ReqM} {cs : List CartonM} (hcs : ∀ c ∈ cs, c.l.length ≤ 1048576) : ∀ l : List Int, 0 ≤ (l.map (grossAt r cs)).sum ∧ (l.map (grossAt r cs)).sum ≤ 104857700000 * l.length
  | [] => by simp
  | i :: l => by
    have h1 := pg_in (r := r) hcs l
    have h2 : 0 ≤ grossAt r cs i ∧ grossAt r cs i ≤ 104857700000 := by
      rw [grossAt]; split
      · rename_i c hc; exact gross_in (hcs c (List.mem_of_getElem? hc))
      · omega
    simp only [List.map_cons, List.sum_cons, List.length_cons] at *
    omega
section
variable {r : ReqM} {pv tv iv cv sv : Value} {cs : List (CartonM × Value)} {ss : List SpotM} {z : Int} (w : World) (h : Rd w pv 2 (r.pairs.map PairM.cells)) (h2 : Rd w tv 7 (r.types.map TypeM.cells)) (h3 : Rd w iv 7 (r.items.map ItemM.cells)) (h4 : Rd w cv 3 (cs.map CartonM.cells)) (hs : Subs w CartonM.l cs) (h5 : Rd w sv 4 (ss.map SpotM.cells)) (hb : ss.length ≤ 1048576) (hcs : ∀ c ∈ cs.map Prod.fst, c.l.length ≤ 1048576)
include h h2 h3 h4 hs h5 hb hcs
theorem palletGram_any : FnV Tryz.prog 40 [.agg (r.cells pv tv iv).toArray, .agg [cv, sv].toArray, .int .i64 z] w (.int .i64 (palletGramM r (cs.map Prod.fst) ss z)) := by
  obtain ⟨L, hL⟩ : ∃ L, L = onPalletM cs.length ss z := ⟨_, rfl⟩
  have hLl := onPallet_len cs.length ss z
  rw [← hL] at hLl
  have hLl2 : (L.map icell).length = L.length := by simp
  refine FnV.of (n := 29) Tryz.func40 rfl rfl ?_; refine zaU (fun bk3 _ => ?_); refine zdc (fun bk4 _ => ?_); refine zaL ?_; refine zaR ?_; refine G.seq ?_; refine zct ?_
  first | refine ze6 ?_ | refine G.v (rv_loadW 1 rfl rfl rfl) rfl ?_ | refine G.v (rv_loadW 2 rfl rfl rfl) rfl ?_ | refine zd6 ?_ | refine G.v (rv_loadP 0 rfl rfl (.one (.one .nil))) rfl ?_ | refine G.v (rv_loadP 1 rfl rfl (.one (.one .nil))) rfl ?_ | refine G.v (rv_loadP 2 rfl rfl (.one (.one .nil))) rfl ?_ | refine G.v (rv_loadP 3 rfl rfl (.one (.one .nil))) rfl ?_
  refine zaM ?_; refine G.op (og_callF1 rfl rfl (fun w hh => by have q := onPallet_any (cs := cs) (ss := ss) (z := z) w (Rd.stays h4 _ hh) (Rd.stays h5 _ hh) hb; rw [← hL] at q; exact q)) rfl ?_; rintro vo hvo; try dsimp only
  refine G.v (rv_len rfl zo) rfl ?_; refine zby ?_; refine G.loopK (ι := Nat) (ks := [3, 4, 12, 13]) (fun k => [(7, .int .i64 (((L.take k).map (grossAt r (cs.map Prod.fst))).sum)), (14, .int .i64 k)]) (fun _ => []) (fun k => k ≤ L.length) (fun k => L.length - k) 0 (.cons rfl (.cons rfl (.cons rfl (.cons rfl (.nil))))) rfl ?_ ?_ ?_
  exact Nat.zero_le _
  exact ⟨rfl, rfl, trivial⟩
  rintro k hk
  have hpi := pg_in (r := r) hcs (L.take k)
  rw [List.length_take, Nat.min_eq_left hk] at hpi
  by_cases hlt : k < L.length
  case' pos => (obtain ⟨x, hx⟩ := get_of_lt hlt; obtain ⟨m, rfl, hm⟩ := onPallet_mem (hL ▸ List.mem_of_getElem? hx); have he := get_map hx icell; obtain ⟨c, hc9⟩ := get_of_lt hm; have e2 := get_map hc9 CartonM.cells; have hcl : c.1.l.length ≤ 1048576 := hcs c.1 (List.mem_map.2 ⟨c, List.mem_of_getElem? hc9, rfl⟩); have hgi := gross_in (r := r) hcl; have hpn := pg_next (r := r) (cs := cs.map Prod.fst) (c := c.1) hx (by rw [List.getElem?_map, hc9]; rfl))
  all_goals
   refine zbs ?_; refine G.cond rfl (fun hc => ?_) (fun hc => ?_)
   · all_goals
      replace hc := of_decide_eq_true hc
      simp only [hLl2] at hc
      try (exfalso; first | contradiction | omega)
      all_goals
       refine zdx ?_
       first | refine G.v (rv_indexH (k := m) rfl rfl (Rd.stays h4) rfl e2) rfl ?_ | refine G.v (rv_indexH rfl rfl zo rfl zaH) rfl ?_ | refine G.v (rv_index rfl rfl zo rfl zc) rfl ?_
       refine G.v (rv_loadE rfl zo zaH rfl) rfl ?_; refine zaL ?_; refine G.drawL [9] ?_; refine zes ?_
       first | refine GE.q 1 rfl za rfl (qg_runs (rv_loadW 0 rfl rfl rfl)) rfl ?_ | refine GE.q 1 rfl za rfl (qg_runs (rv_loadW 1 rfl rfl rfl)) rfl ?_ | refine GE.q 1 rfl za rfl (qg_runs (rv_loadW 2 rfl rfl rfl)) rfl ?_ | refine GE.q 1 rfl za rfl (qg_runs (rv_loadW 3 rfl rfl rfl)) rfl ?_ | refine GE.q 1 rfl za rfl (qg_runs (rv_loadP 0 rfl rfl (.one (.one (.one (.one (.one (.one (.one (.one (.one (.one .nil)))))))))))) rfl ?_ | refine GE.q 1 rfl za rfl (qg_runs (rv_loadP 1 rfl rfl (.one (.one (.one (.one (.one (.one (.one (.one (.one (.one .nil)))))))))))) rfl ?_ | refine GE.q 1 rfl za rfl (qg_runs (rv_loadP 2 rfl rfl (.one (.one (.one (.one (.one (.one (.one (.one (.one (.one .nil)))))))))))) rfl ?_ | refine GE.q 1 rfl za rfl (qg_runs (rv_loadP 3 rfl rfl (.one (.one (.one (.one (.one (.one (.one (.one (.one (.one .nil)))))))))))) rfl ?_
       first | refine zdL ?_ | refine GE.q 2 rfl za rfl (qg_runs (rv_fieldE rfl)) rfl ?_
       first | refine GE.q 3 rfl za rfl (qg_runs (rv_load1 0 rfl rfl rfl)) rfl ?_ | refine GE.q 3 rfl za rfl (qg_runs (rv_load1 1 rfl rfl rfl)) rfl ?_ | refine GE.q 3 rfl za rfl (qg_runs (rv_load1 2 rfl rfl rfl)) rfl ?_ | refine GE.q 3 rfl za rfl (qg_runs (rv_load1 3 rfl rfl rfl)) rfl ?_
       refine GE.ol 4 za rfl rfl (og_runs (rv_move rfl)) rfl zl (fun _ _ => ?_)
       first | refine GE.ol 5 za rfl rfl (og_runs (rv_indexH (k := m) rfl rfl (Rd.stays h4) rfl e2)) rfl zl (fun _ _ => ?_) | refine GE.ol 5 za rfl rfl (og_runs (rv_indexH rfl rfl zo rfl zaH)) rfl zl (fun _ _ => ?_) | refine GE.ol 5 za rfl rfl (og_runs (rv_index rfl rfl zo rfl zc)) rfl zl (fun _ _ => ?_)
       first | refine GE.ol 6 za rfl rfl (og_runs (rv_loadEW rfl zo zaH rfl)) rfl zl (fun _ _ => ?_) | refine GE.ol 6 za rfl rfl (og_runs (rv_loadEP rfl zo zaH (.one (.one (.one .nil))))) rfl zl (fun _ _ => ?_)
       refine GE.ol 7 za rfl rfl (og_callV rfl rfl (fun w hh => gross_any (r := r) c w (Rd.stays h _ hh) (Rd.stays h2 _ hh) (Rd.stays h3 _ hh) (Rd.stays (hs.at hc9) _ hh) hcl)) rfl zl (fun _ _ => ?_)
       first | refine GE.ol 8 za rfl rfl (og_runs (rv_incr rfl rfl zb)) rfl zl (fun _ _ => ?_) | refine GE.ol 8 za rfl rfl (og_runs (rv_addB rfl rfl zb zb)) rfl zl (fun _ _ => ?_)
       refine zfX (fun _ _ => ?_); refine zb3 ?_; refine G.inN (G.thenN (G.region ?_))
       first | refine zeQ ?_ | refine zcd ?_
       refine zaM ?_; refine G.done ?_
       first | refine G.backK (k + 1) 0 rfl (.cons rfl (.cons rfl (.cons rfl (.cons rfl (.nil))))) ?_ ?_ ?_ | refine G.backK (k + 1) 1 rfl (.cons rfl (.cons rfl (.cons rfl (.cons rfl (.nil))))) ?_ ?_ ?_ | refine G.backK (k + 1) 2 rfl (.cons rfl (.cons rfl (.cons rfl (.cons rfl (.nil))))) ?_ ?_ ?_ | refine G.backK (k + 1) 3 rfl (.cons rfl (.cons rfl (.cons rfl (.cons rfl (.nil))))) ?_ ?_ ?_
       exact ⟨congrArg (fun z => some (Value.int .i64 z)) hpn.symm, rfl, trivial⟩
       exact hlt
       omega
   · all_goals
      replace hc := of_decide_eq_false hc
      simp only [hLl2] at hc
      try (exfalso; first | contradiction | omega)
      all_goals
       refine zcX ?_
       exact G.retFV rfl rfl (congrArg (Value.int .i64) (by rw [take_all (l := L) zb, hL, palletGramM, List.length_map]))
end
def unitFits (r : ReqM) (t : TypeM) (u : Int) : Bool := match itemAt r u with | some x => fitsM x t | none => false
def holdM (r : ReqM) (c : List Int) (t : TypeM) : Bool := decide (classM r = 0) && (c.all (unitFits r t) && withinT r c t)
theorem here_item (r : ReqM) (u : Int) : hereM r u = (itemAt r u).isSome := by
  by_cases h : hereM r u = true
  · obtain ⟨_, _, x, _, _, _, hx⟩ := item_in (r := r) (u := u) (by rw [List.length_map]; exact h)
    rw [h, hx]; rfl
  · have hx := item_out (r := r) (u := u) (by rw [List.length_map]; exact h)
    rw [hx]; simpa using h
theorem unitFits_eq (r : ReqM) (t : TypeM) (u : Int) : unitFits r t u = ((itemAt r u).isSome && fitsM (itemOr r u) t) := by
  rw [unitFits, itemOr]; cases itemAt r u <;> rfl
theorem all_fit (r : ReqM) (t : TypeM) : ∀ c : List Int, c.all (unitFits r t) = (decide ((thereM r c).length = c.length) && (itemsM r c).all fun x => fitsM x t)
  | [] => rfl
  | u :: c => by
    have ih := all_fit r t c
    have hl := thereM_len r c
    have hh := here_item r u
    cases hx : itemAt r u with
    | none =>
      rw [hx] at hh
      have e1 : unitFits r t u = false := by rw [unitFits, hx]
      have e2 : thereM r (u :: c) = thereM r c := by rw [thereM, List.filter_cons, hh]; rfl
      have e3 : ¬ (thereM r (u :: c)).length = (u :: c).length := by rw [e2, List.length_cons]; omega
      rw [List.all_cons, e1, decide_eq_false e3]; rfl
    | some x =>
      rw [hx] at hh
      have e1 : unitFits r t u = fitsM x t := by rw [unitFits, hx]
      have e2 : thereM r (u :: c) = u :: thereM r c := by rw [thereM, List.filter_cons, hh]; rfl
      have e3 : itemsM r (u :: c) = x :: itemsM r c := by simp only [itemsM, List.filterMap_cons, hx]
      have e4 : decide ((thereM r (u :: c)).length = (u :: c).length) = decide ((thereM r c).length = c.length) := by rw [e2]; simp
      rw [List.all_cons, e1, ih, e4, e3, List.all_cons]
      cases fitsM x t <;> cases decide ((thereM r c).length = c.length) <;> rfl
theorem hold_no {r : ReqM} {c : List Int} {t : TypeM} (h : ¬ classM r = 0) : holdM r c t = false := by rw [holdM, decide_eq_false h, Bool.false_and]
theorem hold_short {r : ReqM} {c : List Int} {t : TypeM} (h : ¬ (thereM r c).length = c.length) : holdM r c t = false := by rw [holdM, all_fit, decide_eq_false h, Bool.false_and, Bool.false_and, Bool.and_false]
theorem hold_long {r : ReqM} {c : List Int} {t : TypeM} (hc : classM r = 0) (h : (thereM r c).length = c.length) : holdM r c t = (((itemsM r c).all fun x => fitsM x t) && withinT r c t) := by rw [holdM, all_fit, decide_eq_true h, decide_eq_true hc, Bool.true_and, Bool.true_and]
theorem hold_at {r : ReqM} {c : List Int} {t : TypeM} {k : Nat} {u : Int} (hb : c[k]? = some u) (h : unitFits r t u = false) : holdM r c t = false := by
  rw [holdM, all_no hb h, Bool.false_and, Bool.and_false]
theorem hold_all {r : ReqM} {c : List Int} {t : TypeM} (hc : classM r = 0) (h : c.all (unitFits r t) = true) : holdM r c t = withinT r c t := by rw [holdM, decide_eq_true hc, h, Bool.true_and, Bool.true_and]
theorem holds1_any (t : TypeM) (x : ItemM) {q : Nat} (w : World) (h : Rd w (.slice (some ⟨q, 0, none⟩) 1 1) 7 [t.cells]) : FnV Tryz.prog 141 [.agg (ItemM.cells x).toArray, pB q 0] w (.bool (!fitsM x t)) := by
  rw [pB_eq_pE q 7]
  refine FnV.of (n := 8) Tryz.func141 rfl rfl ?_; refine zaU (fun bk2 _ => ?_); refine zf9 ?_; refine G.v (rv_loadEW rfl ze rfl rfl) rfl ?_; refine G.op (og_callV rfl rfl (fun w _ => fits_any x t w)) rfl (fun _ _ => ?_); refine zbB ?_; refine zco ?_
  exact G.retFV rfl rfl rfl
section
variable {r : ReqM} {pv tv iv uv : Value} {us : List Int} (w : World) (h : Rd w pv 2 (r.pairs.map PairM.cells)) (h2 : Rd w tv 7 (r.types.map TypeM.cells)) (h3 : Rd w iv 7 (r.items.map ItemM.cells)) (h4 : Rd w uv 1 (us.map icell)) (hul : us.length ≤ 1048576)
include h h2 h3 h4 hul
theorem holds_any (t : TypeM) : FnV Tryz.prog 79 [.agg (r.cells pv tv iv).toArray, uv, t.val] w (.bool (holdM r us t)) := by
  have hul2 : (us.map icell).length = us.length := by simp
  have htl2 : ((thereM r us).map icell).length = (thereM r us).length := by simp
  obtain ⟨B, hB⟩ : ∃ B, B = (itemsM r us).all fun x => fitsM x t := ⟨_, rfl⟩
  refine FnV.of (n := 31) Tryz.func79 rfl rfl ?_; refine zaU (fun bk3 _ => ?_); refine zdc (fun bk5 _ => ?_); refine zbk ?_; refine G.seq ?_; refine zbM ?_; refine zbN (fun _ _ => ?_); refine zem ?_
  (with_reducible refine G.gP rfl rfl (fun hg => ?_) (fun hg => ?_)) <;> (try exact Bool.noConfusion hg) <;> (first | (refine zaQ ?_; (refine G.v (rv_loadW 1 rfl rfl rfl) rfl ?_)) | refine zaP ?_)
  all_goals ((first | (refine zbr ?_) | refine zaP ?_))
  all_goals ((first | (refine zaQ ?_; (refine G.op (og_callF1 rfl rfl (fun w hh => thereOf_any (r := r) (us := us) w (Rd.stays h _ hh) (Rd.stays h2 _ hh) (Rd.stays h3 _ hh) (Rd.stays h4 _ hh) hul)) rfl ?_; rintro vt hvt; try dsimp only)) | refine zaP ?_ | refine zfn ?_))
  all_goals ((first | (refine zaQ ?_; refine zde ?_) | refine zaP ?_))
  all_goals ((first | (refine zbr ?_) | refine zaP ?_))
  all_goals ((first | (refine zaQ ?_; refine zbg ?_) | refine zaP ?_))
  all_goals ((first | (refine zaQ ?_; refine G.v (rv_neq rfl rfl) rfl ?_) | refine zaP ?_))
  all_goals ((first | refine zba ?_ | refine zbc ?_))
  all_goals
   refine zbe ?_; refine G.cond rfl (fun hc => ?_) (fun hc => ?_)
   · all_goals
      try replace hc := of_decide_eq_true hc
      all_goals
       have hbad : holdM r us t = false := (by first | exact hold_no (by simpa using hg) | exact hold_short (by simp only [hul2, htl2] at hc; omega))
       all_goals
        refine zdM ?_
        first | exact G.retFV rfl rfl (congrArg Value.bool hbad.symm) | (refine G.retFV rfl rfl (congrArg Value.bool ?_); rw [hgood]; cases B <;> simp_all; done)
   · try exact Bool.noConfusion hc
     all_goals
      replace hc := of_decide_eq_false hc
      all_goals
       have hyes : classM r = 0 := by simpa using hg
       have hsame : (thereM r us).length = us.length := (by simp only [hul2, htl2] at hc; omega)
       have hgood := hold_long (t := t) hyes hsame
       rw [← hB] at hgood
       all_goals
        refine zc1 ?_; refine zbQ ?_; refine zdb ?_; rintro vs hvs; try dsimp only
        refine zdN ?_; refine G.op (og_callV rfl rfl (fun w hh => (containsItem_any (l := itemsM r us) (p := fun x => !fitsM x t) w zP (fun w' j c hw hb => holds1_any t c w' (Rd.stays (by exact Rd.ofBlk 2 rfl rfl w hh) w' hw))).mono (congrArg Value.bool (any_not.trans (by rw [← hB]))))) rfl (fun _ _ => ?_); refine zem ?_
        all_goals (((with_reducible refine G.gP rfl rfl (fun hg => ?_) (fun hg => ?_)) <;> (try exact Bool.noConfusion hg) <;> (first | (refine zaQ ?_; (refine zd6 ?_)) | refine zaP ?_)))
        all_goals ((first | (refine zbr ?_) | refine zaP ?_))
        all_goals ((first | (refine zaQ ?_; (refine G.v (rv_loadW 2 rfl rfl rfl) rfl ?_)) | refine zaP ?_))
        all_goals ((first | (refine zaQ ?_; refine G.op (og_callV rfl rfl (fun w hh => within_any (r := r) (us := us) w (Rd.stays h _ hh) (Rd.stays h2 _ hh) (Rd.stays h3 _ hh) (Rd.stays h4 _ hh) hul t)) rfl (fun _ _ => ?_)) | refine zaP ?_))
        all_goals ((first | refine zba ?_ | refine zbc ?_))
        all_goals (refine zcD ?_)
        all_goals
         refine zc2 ?_
         first | exact G.retFV rfl rfl (congrArg Value.bool hbad.symm) | (refine G.retFV rfl rfl (congrArg Value.bool ?_); rw [hgood]; cases B <;> simp_all; done)
theorem sholds_any (t : TypeM) : FnV Tryz.prog 136 [.agg (r.cells pv tv iv).toArray, uv, t.val] w (.bool (holdM r us t)) := by
  have hul2 : (us.map icell).length = us.length := by simp
  refine FnV.of (n := 62) Tryz.func136 rfl rfl ?_; refine zaU (fun bk3 _ => ?_); refine zdc (fun bk5 _ => ?_); refine zbk ?_; refine G.seq ?_; refine zbM ?_; refine zbD (fun _ _ => ?_); refine zeG ?_; refine G.condD rfl (fun hc => ?_) (fun hc => ?_)
  have hbad := hold_no (r := r) (c := us) (t := t) hc
  refine zdM ?_
  exact G.retFV rfl rfl (congrArg Value.bool hbad.symm)
  · have hyes : classM r = 0 := by omega
    refine zc1 ?_; refine G.seq ?_; refine zbM ?_; refine zbR ?_; rintro vu hvu; try dsimp only
    refine zd8 ?_; refine G.loopK (ι := Nat) (ks := [1, 3, 5, 7]) (fun k => [(8, .int .i64 k)]) (fun _ => []) (fun k => k ≤ us.length ∧ (us.take k).all (unitFits r t) = true) (fun k => us.length - k) 0 (.cons rfl (.cons rfl (.cons rfl (.cons rfl (.nil))))) rfl ?_ ?_ ?_
    exact ⟨Nat.zero_le _, rfl⟩
    exact ⟨rfl, trivial⟩
    rintro k ⟨hk, ht⟩
    by_cases hlt : k < us.length
    case' pos => (obtain ⟨u, hb⟩ := get_of_lt hlt; have e1 := get_map hb icell; obtain ⟨A, hA⟩ : ∃ A, A = (itemAt r u).isSome := ⟨_, rfl⟩; obtain ⟨B, hB⟩ : ∃ B, B = fitsM (itemOr r u) t := ⟨_, rfl⟩; have hAB : unitFits r t u = (A && B) := (by rw [unitFits_eq, hA, hB]))
    case' neg => (have hgood := hold_all (t := t) hyes (all_end ht hlt))
    all_goals
     refine zcu ?_; refine zcW ?_; refine G.cond rfl (fun hc => ?_) (fun hc => ?_)
     · all_goals
        replace hc := of_decide_eq_true hc
        simp only [hul2] at hc
        try (exfalso; omega)
        all_goals
         refine za3 ?_; refine G.seq (G.drawL [12] ?_); refine GE.q 0 rfl za rfl (qg_runs (rv_loadW 2 rfl rfl rfl)) rfl ?_; refine zc7 ?_; refine zcO ?_; refine zbO ?_; refine GE.q 4 rfl za rfl (qg_runs (rv_indexH rfl rfl ze rfl zE)) rfl ?_; refine GE.q 5 rfl za rfl (qg_runs (rv_loadE rfl ze zE rfl)) rfl ?_; refine GE.q 6 rfl za rfl (qg_call rfl rfl (fun w hh => (l6Item_any (r := r) u w (Rd.stays h3 _ hh) zP).mono (show _ = Value.tuple #[(itemOr r u).val, .bool A] by rw [hA]))) rfl ?_; refine zcy (fun bk9 _ => ?_)
         refine zd2 (fun _ _ => ?_); refine zc3 (fun _ _ => ?_); refine zbm ?_; refine zaN ?_; refine zem ?_
         all_goals (((with_reducible refine G.gP rfl rfl (fun hg => ?_) (fun hg => ?_)) <;> (try exact Bool.noConfusion hg) <;> (first | (refine zaQ ?_; (refine ze6 ?_)) | refine zaP ?_)))
         all_goals ((first | (refine zaQ ?_; (refine G.v (rv_loadW 2 rfl rfl rfl) rfl ?_)) | refine zaP ?_))
         all_goals ((first | (refine zaQ ?_; refine G.op (og_callV rfl rfl (fun w _ => (sfits_any (itemOr r u) t w).mono (congrArg Value.bool hB.symm))) rfl (fun _ _ => ?_)) | refine zaP ?_))
         all_goals ((first | (refine zcF ?_) | refine zaP ?_))
         all_goals ((first | refine zba ?_ | refine zbc ?_))
         all_goals
          refine zbe ?_; refine G.cond rfl (fun hc => ?_) (fun hc => ?_)
          · all_goals
             try simp only [hul2] at hc
             all_goals
              have hbad := hold_at (t := t) hb (by rw [hAB]; cases A <;> cases B <;> simp_all)
              all_goals
               refine zb6 ?_; refine zbt ?_
               exact G.retFV rfl rfl (congrArg Value.bool hbad.symm)
          · try exact Bool.noConfusion hc
            all_goals
             all_goals
              have hfit : unitFits r t u = true := (by rw [hAB]; cases A <;> cases B <;> simp_all)
              all_goals
               refine zfL ?_; refine G.backK (k + 1) 1 rfl (.cons rfl (.cons rfl (.cons rfl (.cons rfl (.nil))))) ?_ ?_ ?_
               exact ⟨rfl, trivial⟩
               exact ⟨hlt, all_next ht hb hfit⟩
               omega
     · all_goals
        replace hc := of_decide_eq_false hc
        simp only [hul2] at hc
        try (exfalso; omega)
        all_goals
         refine zaW ?_; refine zbQ ?_; refine zbH ?_; refine G.op (og_callF0 rfl rfl (fun w hh => (l7Of_any (r := r) (us := us) w (Rd.stays h3 _ hh) (Rd.stays h4 _ hh) hul zP).toFn)) rfl ?_; rintro ⟨⟩ _; try dsimp only
         refine zbu (fun bk11 _ => ?_); refine G.op0 (og_st0 rfl rfl rfl rfl rfl rfl (.zero (.cons (.cons .nil)))) (fun _ _ => ?_); refine ze1 ?_; refine G.drawL [17] ?_; refine zbP ?_; refine zdL ?_; refine GE.q 3 rfl za rfl (qg_runs (rv_load1 2 rfl rfl rfl)) rfl ?_; refine GE.q 4 rfl za rfl (qg_runs (rv_field rfl)) rfl ?_; refine GE.q 5 rfl za rfl (qg_runs (rv_load1 2 rfl rfl rfl)) rfl ?_; refine zdv (fun _ _ => ?_); refine GE.ol 7 za rfl rfl (og_runs (rv_load1 2 rfl rfl rfl)) rfl zd (fun _ _ => ?_); refine GE.ol 8 za rfl rfl (og_callV rfl rfl (fun w hh => svolume_any t.w t.h t.d w)) rfl zd (fun _ _ => ?_); refine GE.ol 9 za rfl rfl (og_runs (rv_leq rfl rfl)) rfl zd (fun _ _ => ?_); refine GE.ol 10 za rfl rfl (og_runs (rv_move rfl)) rfl zd (fun _ _ => ?_)
         all_goals (((with_reducible refine GE.part (t := 55) rfl (fun hg => ?_) (fun hg => ?_)) <;> (try exact Bool.noConfusion hg) <;> (first | (refine zek ?_) | refine zdF ?_)))
         all_goals ((first | (refine GE.q 12 rfl za rfl (qg_runs (rv_load1 0 rfl rfl rfl)) rfl ?_) | refine zdq ?_))
         all_goals ((first | (refine GE.q 13 rfl za rfl (qg_runs (rv_field rfl)) rfl ?_) | refine zdr ?_))
         all_goals ((first | (refine GE.q 14 rfl za rfl (qg_runs (rv_load1 2 rfl rfl rfl)) rfl ?_) | refine zey ?_))
         all_goals ((first | refine GE.q 15 rfl za rfl (qg_runs (rv_leq rfl rfl)) rfl ?_ | refine GE.qn 15 rfl za rfl rfl ?_))
         all_goals ((first | refine zfG (fun _ _ => ?_) | refine zfH (fun _ _ => ?_)))
         all_goals (refine GE.t 17 za rfl rfl rfl (og_runs (rv_assign rfl)) rfl (fun _ _ => ?_))
         all_goals
          refine zbm ?_; refine G.ret ?_
          first | (refine G.retFV rfl rfl (congrArg Value.bool ?_); rw [hgood]; simp_all [withinT]; done) | (refine G.retFV rfl rfl (congrArg Value.bool ?_); rw [hgood]; simp_all [withinT]; intro hq9; omega)
end
def betterM (a : TypeM × Bool) (t : TypeM) : Bool := !a.2 || decide (t.cost < a.1.cost) || (decide (t.cost = a.1.cost) && decide (t.id < a.1.id))
def cheapStep (r : ReqM) (c : List Int) (a : TypeM × Bool) (t : TypeM) : TypeM × Bool := if holdM r c t && betterM a t then (t, true) else a
/-- The cheapest type that holds units. -/
def cheapM (r : ReqM) (c : List Int) : TypeM × Bool := r.types.foldl (cheapStep r c) (typeZ, false)
theorem cheap_yes {r : ReqM} {c : List Int} {k : Nat} {t : TypeM} {a : TypeM × Bool} (hb : r.types[k]? = some t) (ha : (r.types.take k).foldl (cheapStep r c) (typeZ, false) = a) (h : holdM r c t = true) (h2 : betterM a t = true) : (r.types.take (k + 1)).foldl (cheapStep r c) (typeZ, false) = (t, true) := by
  rw [foldl_take_succ hb, ha, cheapStep, h, h2]; rfl
theorem cheap_no {r : ReqM} {c : List Int} {k : Nat} {t : TypeM} {a : TypeM × Bool} (hb : r.types[k]? = some t) (ha : (r.types.take k).foldl (cheapStep r c) (typeZ, false) = a) (h : (holdM r c t && betterM a t) = false) : (r.types.take (k + 1)).foldl (cheapStep r c) (typeZ, false) = a := by
  rw [foldl_take_succ hb, ha, cheapStep, h]; rfl
section
variable {r : ReqM} {pv tv iv uv : Value} {us : List Int} (w : World) (h : Rd w pv 2 (r.pairs.map PairM.cells)) (h2 : Rd w tv 7 (r.types.map TypeM.cells)) (h3 : Rd w iv 7 (r.items.map ItemM.cells)) (h4 : Rd w uv 1 (us.map icell)) (hul : us.length ≤ 1048576)
include h h2 h3 h4 hul
theorem cheapest_any : FnV Tryz.prog 23 [.agg (r.cells pv tv iv).toArray, uv] w (.tuple #[(cheapM r us).1.val, .bool (cheapM r us).2]) := by
  have hle := h2.le_map
  have hln : (r.types.map TypeM.cells).length = r.types.length := by simp
  refine FnV.of (n := 50) Tryz.func23 rfl rfl ?_; refine zaU (fun bk2 _ => ?_); refine zbu (fun bk4 _ => ?_); refine zfC ?_; refine G.v (rv_build2 rfl .nil .nil) rfl ?_; refine zbu (fun bk6 _ => ?_); refine zaV (fun _ _ => ?_); refine zbk ?_; refine zct ?_; refine zbw ?_; refine zeV ?_; refine G.loopK (ι := Nat × (TypeM × Bool)) (ks := [1, 2, 4, 6, 12, 13]) (fun x => [(7, .bool x.2.2), (14, .int .i64 (x.1 : Int))]) (fun x => [.blk bk6 56 x.2.1.cells]) (fun x => x.1 ≤ r.types.length ∧ (r.types.take x.1).foldl (cheapStep r us) (typeZ, false) = x.2) (fun x => r.types.length - x.1) (0, (typeZ, false)) (.cons rfl (.cons rfl (.cons rfl (.cons rfl (.cons rfl (.cons rfl (.nil))))))) rfl ?_ ?_ ?_
  exact ⟨Nat.zero_le _, rfl⟩
  exact ⟨rfl, rfl, trivial⟩
  rintro ⟨k, a⟩ ⟨hk, hM⟩
  dsimp only at hk hM ⊢
  by_cases hlt : k < r.types.length
  case' pos => (obtain ⟨b, hb⟩ := get_of_lt hlt; have he := get_map hb TypeM.cells)
  all_goals
   refine zbs ?_; refine G.cond rfl (fun hc => ?_) (fun hc => ?_)
   · all_goals
      replace hc := of_decide_eq_true hc
      simp only [hln] at hc
      try (exfalso; omega)
      all_goals
       refine zdx ?_; refine G.v (rv_indexH rfl rfl ze rfl zq) rfl ?_; refine G.v (rv_loadEW rfl ze zq rfl) rfl ?_; refine zbu (fun bk9 _ => ?_); refine zaV (fun _ _ => ?_); refine ze1 ?_; refine zct ?_; refine zd6 ?_; refine zaM ?_; refine ze6 ?_; refine G.op (og_callV rfl rfl (fun w hh => holds_any (r := r) (us := us) w (Rd.stays h _ hh) (Rd.stays h2 _ hh) (Rd.stays h3 _ hh) (Rd.stays h4 _ hh) hul b)) rfl (fun _ _ => ?_); refine zcI ?_; refine G.cond rfl (fun hc => ?_) (fun hc => ?_)
       · all_goals
          all_goals
           have hst : (r.types.take (k + 1)).foldl (cheapStep r us) (typeZ, false) = a := cheap_no hb hM (by simp_all)
           all_goals
            refine G.exit (G.thenX (G.inX (G.thenN (G.region ?_)))); refine zeQ ?_; refine zaM ?_; refine G.done ?_; refine zeB ?_; refine G.backK (k + 1, a) 0 rfl (.cons rfl (.cons rfl (.cons rfl (.cons rfl (.cons rfl (.cons rfl (.nil))))))) ?_ ?_ ?_
            exact ⟨rfl, rfl, trivial⟩
            exact ⟨hlt, hst⟩
            dsimp only; omega
       · all_goals
          all_goals
           have hho : holdM r us b = true := by simpa using hc
           all_goals
            refine zc1 ?_; refine zaN ?_; refine zem ?_
            all_goals (((with_reducible refine G.gP rfl rfl (fun hg => ?_) (fun hg => ?_)) <;> (try exact Bool.noConfusion hg) <;> (first | (refine zaQ ?_; (refine za1 ?_)) | refine zaP ?_)))
            all_goals ((first | (refine zaQ ?_; (refine za0 ?_)) | refine zaP ?_))
            all_goals ((first | (refine zaQ ?_; (refine za1 ?_)) | refine zaP ?_))
            all_goals ((first | (refine zaQ ?_; (refine zdw ?_)) | refine zaP ?_))
            all_goals ((first | (refine zcj ?_) | refine zaP ?_))
            all_goals ((first | refine zba ?_ | refine zbc ?_))
            all_goals (refine zaM ?_)
            all_goals (((with_reducible refine G.gP rfl rfl (fun hg => ?_) (fun hg => ?_)) <;> (try exact Bool.noConfusion hg) <;> (first | (refine zaQ ?_; (refine za1 ?_)) | refine zaP ?_)))
            all_goals ((first | (refine zaQ ?_; (refine za0 ?_)) | refine zaP ?_))
            all_goals ((first | (refine zaQ ?_; (refine za1 ?_)) | refine zaP ?_))
            all_goals ((first | (refine zaQ ?_; (refine zdw ?_)) | refine zaP ?_))
            all_goals ((first | (refine zaQ ?_; refine G.v (rv_eql rfl rfl) rfl ?_) | refine zaP ?_))
            all_goals ((first | (refine zbr ?_) | refine zaP ?_))
            all_goals ((first | refine zfn ?_ | ((with_reducible refine G.gP rfl rfl (fun hg => ?_) (fun hg => ?_)) <;> (try exact Bool.noConfusion hg) <;> (first | (refine zaQ ?_; (refine za1 ?_)) | refine zaP ?_))))
            all_goals ((first | (refine zaQ ?_; (refine za0 ?_)) | refine zaP ?_ | refine zfn ?_))
            all_goals ((first | (refine zaQ ?_; (refine za1 ?_)) | refine zaP ?_ | refine zfn ?_))
            all_goals ((first | (refine zaQ ?_; (refine zdw ?_)) | refine zaP ?_ | refine zfn ?_))
            all_goals ((first | (refine zcj ?_) | refine zaP ?_ | refine zfn ?_))
            all_goals ((first | (refine zaQ ?_; (first | refine zba ?_ | refine zbc ?_)) | refine zaP ?_))
            all_goals ((first | refine zba ?_ | refine zbc ?_))
            all_goals
             refine zbe ?_; refine G.cond rfl (fun hc => ?_) (fun hc => ?_)
             · try exact Bool.noConfusion hc
               all_goals
                try replace hc := of_decide_eq_true hc
                try simp only [hln] at hc
                all_goals
                 have hbe : betterM a b = true := zW
                 have hst := cheap_yes hb hM hho hbe
                 all_goals
                  refine G.region ?_; refine ze6 ?_; refine zcJ (fun _ _ => ?_); refine zbb ?_; refine zaX ?_; refine zeB ?_; refine G.backK (k + 1, (b, true)) 0 rfl (.cons rfl (.cons rfl (.cons rfl (.cons rfl (.cons rfl (.cons rfl (.nil))))))) ?_ ?_ ?_
                  exact ⟨rfl, rfl, trivial⟩
                  exact ⟨hlt, hst⟩
                  dsimp only; omega
             · try exact Bool.noConfusion hc
               all_goals
                try replace hc := of_decide_eq_false hc
                try simp only [hln] at hc
                all_goals
                 have hbe : betterM a b = false := zW
                 have hst : (r.types.take (k + 1)).foldl (cheapStep r us) (typeZ, false) = a := cheap_no hb hM (by rw [hbe, Bool.and_false])
                 all_goals
                  refine G.skip ?_; refine zaX ?_; refine zeB ?_; refine G.backK (k + 1, a) 0 rfl (.cons rfl (.cons rfl (.cons rfl (.cons rfl (.cons rfl (.cons rfl (.nil))))))) ?_ ?_ ?_
                  exact ⟨rfl, rfl, trivial⟩
                  exact ⟨hlt, hst⟩
                  dsimp only; omega
   · all_goals
      replace hc := of_decide_eq_false hc
      simp only [hln] at hc
      try (exfalso; omega)
      all_goals
       refine zaW ?_; refine za7 ?_; refine zaM ?_; refine zcJ (fun _ _ => ?_); refine zco ?_
       have hfin : cheapM r us = a := (by rw [cheapM, ← hM, take_all zb]); rw [hfin]; exact G.retVL rfl (.cons (by exact .cell 1 rfl rfl rfl) (.cons (.tmp rfl) .nil)) rfl
theorem scheapest_any : FnV Tryz.prog 75 [.agg (r.cells pv tv iv).toArray, uv] w (.tuple #[(cheapM r us).1.val, .bool (cheapM r us).2]) := by
  have hle := h2.le_map
  have hln : (r.types.map TypeM.cells).length = r.types.length := by simp
  refine FnV.of (n := 54) Tryz.func75 rfl rfl ?_; refine zaU (fun bk2 _ => ?_); refine zbu (fun bk4 _ => ?_); refine zfC ?_; refine G.v (rv_build2 rfl .nil .nil) rfl ?_; refine zbu (fun bk6 _ => ?_); refine zaV (fun _ _ => ?_); refine zbe ?_; refine zf2 ?_; refine G.loopK (ι := Nat × (TypeM × Bool)) (ks := [1, 2, 4, 6]) (fun x => [(7, .bool x.2.2), (8, .int .i64 (x.1 : Int))]) (fun x => [.blk bk6 56 x.2.1.cells]) (fun x => x.1 ≤ r.types.length ∧ (r.types.take x.1).foldl (cheapStep r us) (typeZ, false) = x.2) (fun x => r.types.length - x.1) (0, (typeZ, false)) (.cons rfl (.cons rfl (.cons rfl (.cons rfl (.nil))))) rfl ?_ ?_ ?_
  exact ⟨Nat.zero_le _, rfl⟩
  exact ⟨rfl, rfl, trivial⟩
  rintro ⟨k, a⟩ ⟨hk, hM⟩
  dsimp only at hk hM ⊢
  by_cases hlt : k < r.types.length
  case' pos => (obtain ⟨b, hb⟩ := get_of_lt hlt; have he := get_map hb TypeM.cells)
  all_goals
   refine zeA ?_; refine zbw ?_; refine zcW ?_; refine G.cond rfl (fun hc => ?_) (fun hc => ?_)
   · all_goals
      replace hc := of_decide_eq_true hc
      simp only [hln] at hc
      try (exfalso; omega)
      all_goals
       refine zdx ?_; refine zbw ?_; refine zaM ?_; refine G.v (rv_indexH rfl rfl ze rfl zq) rfl ?_; refine G.v (rv_loadEW rfl ze zq rfl) rfl ?_; refine zbu (fun bk9 _ => ?_); refine zaV (fun _ _ => ?_); refine ze1 ?_; refine zct ?_; refine zd6 ?_; refine zaM ?_; refine ze6 ?_; refine G.op (og_callV rfl rfl (fun w hh => sholds_any (r := r) (us := us) w (Rd.stays h _ hh) (Rd.stays h2 _ hh) (Rd.stays h3 _ hh) (Rd.stays h4 _ hh) hul b)) rfl (fun _ _ => ?_); refine zcI ?_; refine G.cond rfl (fun hc => ?_) (fun hc => ?_)
       · all_goals
          all_goals
           have hst : (r.types.take (k + 1)).foldl (cheapStep r us) (typeZ, false) = a := cheap_no hb hM (by simp_all)
           all_goals
            refine G.exit (G.thenX (G.inX (G.thenN ?_))); refine zbX ?_; refine zeB ?_; refine G.backK (k + 1, a) 0 rfl (.cons rfl (.cons rfl (.cons rfl (.cons rfl (.nil))))) ?_ ?_ ?_
            exact ⟨rfl, rfl, trivial⟩
            exact ⟨hlt, hst⟩
            dsimp only; omega
       · all_goals
          all_goals
           have hho : holdM r us b = true := by simpa using hc
           all_goals
            refine zc1 ?_; refine zaN ?_; refine zem ?_
            all_goals (((with_reducible refine G.gP rfl rfl (fun hg => ?_) (fun hg => ?_)) <;> (try exact Bool.noConfusion hg) <;> (first | (refine zaQ ?_; (refine za1 ?_)) | refine zaP ?_)))
            all_goals ((first | (refine zaQ ?_; (refine za0 ?_)) | refine zaP ?_))
            all_goals ((first | (refine zaQ ?_; (refine za1 ?_)) | refine zaP ?_))
            all_goals ((first | (refine zaQ ?_; (refine zdw ?_)) | refine zaP ?_))
            all_goals ((first | (refine zcj ?_) | refine zaP ?_))
            all_goals ((first | refine zba ?_ | refine zbc ?_))
            all_goals (refine zaM ?_)
            all_goals (((with_reducible refine G.gP rfl rfl (fun hg => ?_) (fun hg => ?_)) <;> (try exact Bool.noConfusion hg) <;> (first | (refine zaQ ?_; (refine za1 ?_)) | refine zaP ?_)))
            all_goals ((first | (refine zaQ ?_; (refine za0 ?_)) | refine zaP ?_))
            all_goals ((first | (refine zaQ ?_; (refine za1 ?_)) | refine zaP ?_))
            all_goals ((first | (refine zaQ ?_; (refine zdw ?_)) | refine zaP ?_))
            all_goals ((first | (refine zaQ ?_; refine G.v (rv_eql rfl rfl) rfl ?_) | refine zaP ?_))
            all_goals ((first | (refine zbr ?_) | refine zaP ?_))
            all_goals ((first | refine zfn ?_ | ((with_reducible refine G.gP rfl rfl (fun hg => ?_) (fun hg => ?_)) <;> (try exact Bool.noConfusion hg) <;> (first | (refine zaQ ?_; (refine za1 ?_)) | refine zaP ?_))))
            all_goals ((first | (refine zaQ ?_; (refine za0 ?_)) | refine zaP ?_ | refine zfn ?_))
            all_goals ((first | (refine zaQ ?_; (refine za1 ?_)) | refine zaP ?_ | refine zfn ?_))
            all_goals ((first | (refine zaQ ?_; (refine zdw ?_)) | refine zaP ?_ | refine zfn ?_))
            all_goals ((first | (refine zcj ?_) | refine zaP ?_ | refine zfn ?_))
            all_goals ((first | (refine zaQ ?_; (first | refine zba ?_ | refine zbc ?_)) | refine zaP ?_))
            all_goals ((first | refine zba ?_ | refine zbc ?_))
            all_goals
             refine zbe ?_; refine G.cond rfl (fun hc => ?_) (fun hc => ?_)
             · try exact Bool.noConfusion hc
               all_goals
                try replace hc := of_decide_eq_true hc
                try simp only [hln] at hc
                all_goals
                 have hbe : betterM a b = true := zW
                 have hst := cheap_yes hb hM hho hbe
                 all_goals
                  refine za7 ?_; refine zcJ (fun _ _ => ?_); refine zbe ?_; refine G.region ?_; refine zbb ?_; refine zaO ?_; refine zeB ?_; refine G.backK (k + 1, (b, true)) 0 rfl (.cons rfl (.cons rfl (.cons rfl (.cons rfl (.nil))))) ?_ ?_ ?_
                  exact ⟨rfl, rfl, trivial⟩
                  exact ⟨hlt, hst⟩
                  dsimp only; omega
             · try exact Bool.noConfusion hc
               all_goals
                try replace hc := of_decide_eq_false hc
                try simp only [hln] at hc
                all_goals
                 have hbe : betterM a b = false := zW
                 have hst : (r.types.take (k + 1)).foldl (cheapStep r us) (typeZ, false) = a := cheap_no hb hM (by rw [hbe, Bool.and_false])
                 all_goals
                  refine zfL ?_; refine zeB ?_; refine G.backK (k + 1, a) 0 rfl (.cons rfl (.cons rfl (.cons rfl (.cons rfl (.nil))))) ?_ ?_ ?_
                  exact ⟨rfl, rfl, trivial⟩
                  exact ⟨hlt, hst⟩
                  dsimp only; omega
   · all_goals
      replace hc := of_decide_eq_false hc
      simp only [hln] at hc
      try (exfalso; omega)
      all_goals
       refine zaW ?_; refine za7 ?_; refine zaM ?_; refine zcJ (fun _ _ => ?_); refine zco ?_
       have hfin : cheapM r us = a := (by rw [cheapM, ← hM, take_all zb]); rw [hfin]; exact G.retVL rfl (.cons (by exact .cell 1 rfl rfl rfl) (.cons (.tmp rfl) .nil)) rfl
end
theorem G.partG {n : Nat} {w0 : World} {fr : Fr} {H F : List Ch} {t : TypeId} {s : Nat} {v : Value} {es : List (List Value)} {rs0 rs : List (Value × List (List Value))} {K : Act → World → Prop} (e : rs0 = (v, es) :: rs) (hH : H = .grp t s rs0 :: F) (h : G n w0 fr (.row v t s es :: .grp t s rs :: F) K) : G n w0 fr H K :=
  G.heap (fun w hh => by subst e hH; exact hh.part) h
theorem G.keep3 {n : Nat} {w0 : World} {fr : Fr} {H : List Ch} (m : Nat) {c1 c2 c3 : Ch} {J : List Ch} {K : Act → World → Prop} (hH : H = c1 :: c2 :: c3 :: J) (h : G n w0 fr (c1 :: c2 :: c3 :: J.drop m) K) : G n w0 fr H K := G.heap (fun w hh => by subst hH; exact hh.sublist (List.Sublist.cons_cons _ (List.Sublist.cons_cons _ (List.Sublist.cons_cons _ (List.drop_sublist m J))))) h
theorem three_eq {a a' b b' c c' : Ch} {F : List Ch} (h1 : a = a') (h2 : b = b') (h3 : c = c') : a :: b :: c :: F = [a', b', c'] ++ F := by subst h1 h2 h3; rfl
def unitsI (r : ReqM) (k : Nat) : List Int := (unitsOfM r (k : Int)).map fun n : Nat => (n : Int)
theorem unitsI_len (r : ReqM) (k : Nat) : (unitsI r k).length ≤ 48 := by rw [unitsI, List.length_map]; exact unitsOf_len r _
def cartonM (r : ReqM) (k : Nat) (l : List Int) : CartonM := ⟨(cheapM r l).1.id, (k : Int), sortM l⟩
/-- The cartons of a group. -/
def cartonsAt (r : ReqM) (k : Nat) : List CartonM := (wayM r (unitsI r k)).map (cartonM r k)
/-- The cartons of an order. -/
def cartonsM (r : ReqM) : List CartonM := (List.range (groupsOfM r).length).flatMap (cartonsAt r)
theorem cartons_next (r : ReqM) (k : Nat) : (List.range (k + 1)).flatMap (cartonsAt r) = (List.range k).flatMap (cartonsAt r) ++ cartonsAt r k := by
  rw [List.range_succ, List.flatMap_append]; simp
theorem wayM_len (r : ReqM) (us : List Int) : (wayM r us).length ≤ us.length := by
  have h1 := thereM_len r us
  rw [wayM]; split
  · have := lastAll_len (roomM r) (thereM r us); rw [nextM]; omega
  · have := putAll_len (roomM r) (ordU r (thereM r us)); rw [ordU_len] at this; rw [firstM]; omega
theorem wayM_elt {r : ReqM} {us : List Int} {k : Nat} {l : List Int} (h : (wayM r us)[k]? = some l) : l.length ≤ us.length := by
  have h1 := len_le_sum (List.mem_of_getElem? h)
  have h2 : ((wayM r us).map List.length).sum ≤ us.length := by
    rw [wayM]; split
    · rw [nextM, lastAll_sum]; exact thereM_len r us
    · rw [firstM, putAll_sum, ordU_len]; exact thereM_len r us
  omega
theorem groups_len4 (r : ReqM) : (groupsOfM r).length ≤ 4 := by
  have := putAll_len (fun g x => joinsM r.pairs g x) (presI r)
  have h4 := presI_len r
  simp only [groupsOfM, groupsM]; omega
theorem cart_next {r : ReqM} {k i : Nat} {cs : List (CartonM × Value)} {ts : List (List Int × Value)} {b : List Int × Value} {v : Value} (hc : cs.map Prod.fst = (List.range k).flatMap (cartonsAt r) ++ ((ts.map Prod.fst).take i).map (cartonM r k)) (hb : ts[i]? = some b) : (cs ++ [(cartonM r k b.1, v)]).map Prod.fst = (List.range k).flatMap (cartonsAt r) ++ ((ts.map Prod.fst).take (i + 1)).map (cartonM r k) := by
  have e : (ts.map Prod.fst)[i]? = some b.1 := by rw [List.getElem?_map, hb]; rfl
  rw [List.map_append, hc, List.take_add_one, e, List.map_append, List.append_assoc]; rfl
theorem drop_part {ts : List (List Int × Value)} {i : Nat} {b : List Int × Value} (hb : ts[i]? = some b) : (ts.drop i).map (sub id) = (b.2, b.1.map icell) :: (ts.drop (i + 1)).map (sub id) := by
  obtain ⟨h1, rfl⟩ := List.getElem?_eq_some_iff.1 hb
  rw [List.drop_eq_getElem_cons h1]; rfl
theorem cart_cells {cs : List (CartonM × Value)} {r : ReqM} {k : Nat} {l : List Int} {v : Value} : cs.map CartonM.cells ++ [[Value.int .i64 (cheapM r l).1.id, Value.int .i64 (k : Int), v]] = (cs ++ [(cartonM r k l, v)]).map CartonM.cells := by rw [List.map_append]; rfl
theorem cart_sub {cs : List (CartonM × Value)} {r : ReqM} {k : Nat} {l : List Int} {v : Value} : cs.map (sub CartonM.l) ++ [(v, (sortM l).map icell)] = (cs ++ [(cartonM r k l, v)]).map (sub CartonM.l) := by rw [List.map_append]; rfl
section
variable {r : ReqM} {pv tv iv : Value} (w : World) (h : Rd w pv 2 (r.pairs.map PairM.cells)) (h2 : Rd w tv 7 (r.types.map TypeM.cells)) (h3 : Rd w iv 7 (r.items.map ItemM.cells))
include h h2 h3
theorem cartonsOf_any : Fn Tryz.prog 20 [.agg (r.cells pv tv iv).toArray] w (fun x : Value × List (CartonM × Value) => x.1.oneCell' = true ∧ x.2.map Prod.fst = cartonsM r) (fun x => x.1) (fun x => [.grp 3 1 (x.2.map (sub CartonM.l)), .row x.1 54 3 (x.2.map CartonM.cells)]) := by
  have hg4 := groups_len4 r
  refine Fn.of (n := 45) Tryz.func20 rfl rfl ?_; refine zaU (fun bk1 _ => ?_); refine zfC ?_; refine zda (fun vl _ => ?_); refine zbk ?_; refine G.seq ?_; refine zbM ?_; refine zeb ?_; rintro ⟨vg, gs⟩ ⟨hvg, hgs⟩; try dsimp only
  have hgl : (gs.map gcell).length = (groupsOfM r).length := by rw [← hgs]; simp
  refine zc0 ?_; refine zby ?_; refine G.frontR2 vl rfl ?_; refine zcf ?_; refine G.loopK (ι := Nat × List (CartonM × Value) × Value) (ks := [1, 12]) (fun x => [(3, x.2.2), (13, .int .i64 (x.1 : Int))]) (fun x => [.grp 3 1 (x.2.1.map (sub CartonM.l)), .row x.2.2 54 3 (x.2.1.map CartonM.cells)]) (fun x => x.1 ≤ (groupsOfM r).length ∧ x.2.1.map Prod.fst = (List.range x.1).flatMap (cartonsAt r) ∧ x.2.1.length ≤ 48 * x.1) (fun x => (groupsOfM r).length - x.1) (0, [], vl) (.cons rfl (.cons rfl (.nil))) rfl ?_ ?_ ?_
  exact ⟨Nat.zero_le _, rfl, Nat.zero_le _⟩
  exact ⟨rfl, rfl, trivial⟩
  rintro ⟨k, cs, v2⟩ ⟨hk, hM, hcl⟩
  dsimp only at hk hM hcl ⊢
  refine zbs ?_; refine G.condD rfl (fun hc => ?_) (fun hc => ?_)
  · simp only [hgl] at hc
    refine zee ?_; refine zbk ?_; refine G.drawL [] ?_; refine GE.q 0 rfl za rfl (qg_runs (rv_loadW 4 rfl rfl rfl)) rfl ?_; refine GE.q 1 rfl za rfl (qg_runs (rv_loadW 4 rfl rfl rfl)) rfl ?_; refine zcO ?_; refine zdQ ?_; refine GE.ol 3 za rfl rfl (og_callF1 rfl rfl (fun w hh => by have q := unitsOf_any (r := r) (pv := pv) (tv := tv) (iv := iv) w (Rd.stays h _ hh) (Rd.stays h2 _ hh) (Rd.stays h3 _ hh) (k : Int); rw [ncell_eq] at q; exact q)) rfl zj ?_; rintro vu hvu; try dsimp only
    refine GE.ol 4 za rfl rfl (og_callF2 rfl rfl (fun w hh => packWay_any (r := r) (us := unitsI r k) w (Rd.stays h _ hh) (Rd.stays h2 _ hh) (Rd.stays h3 _ hh) zP (by have := unitsI_len r k; omega))) rfl zk ?_; rintro ⟨vt, ts⟩ ⟨hvt, hts⟩; try dsimp only
    refine GE.ol 5 za rfl rfl (og_runs (rv_len rfl zi)) rfl zk (fun _ _ => ?_); refine zbm ?_; refine G.block ?_
    have htl : ts.length ≤ 48 := (by have e : ts.length = (wayM r (unitsI r k)).length := (by rw [← hts, List.length_map]); have := wayM_len r (unitsI r k); have := unitsI_len r k; omega)
    have htl2 : (ts.map gcell).length = ts.length := List.length_map _
    refine G.frontG0 (ts.map (sub id)) rfl ?_; refine G.frontR4 v2 rfl ?_; refine G.frontG4 (cs.map (sub CartonM.l)) rfl ?_; refine G.loopK (ι := Nat × List (CartonM × Value) × Value) (ks := [1, 4, 12, 13, 20, 21]) (fun x => [(3, x.2.2), (22, .int .i64 (x.1 : Int))]) (fun x => [.grp 3 1 (x.2.1.map (sub CartonM.l)), .row x.2.2 54 3 (x.2.1.map CartonM.cells), .grp 3 1 ((ts.drop x.1).map (sub id))]) (fun x => x.1 ≤ ts.length ∧ x.2.1.map Prod.fst = (List.range k).flatMap (cartonsAt r) ++ ((ts.map Prod.fst).take x.1).map (cartonM r k) ∧ x.2.1.length ≤ 48 * k + x.1) (fun x => ts.length - x.1) (0, cs, v2) (.cons rfl (.cons rfl (.cons rfl (.cons rfl (.cons rfl (.cons rfl (.nil))))))) rfl ?_ ?_ ?_
    exact ⟨Nat.zero_le _, by rw [hM]; simp, by omega⟩
    exact ⟨rfl, rfl, trivial⟩
    rintro ⟨i, cs2, v3⟩ ⟨hi, hM2, hcl2⟩
    dsimp only at hi hM2 hcl2 ⊢
    have hl0 : (cs2.map CartonM.cells).length = cs2.length := zD
    by_cases hlt : i < ts.length
    case' pos => (obtain ⟨b, hb⟩ := get_of_lt hlt; have heb := get_map hb gcell; have hbl : b.1.length ≤ 48 := (by have e : (wayM r (unitsI r k))[i]? = some b.1 := (by rw [← hts, List.getElem?_map, hb]; rfl); have := wayM_elt e; have := unitsI_len r k; omega); (refine G.frontG2 ((ts.drop i).map (sub id)) rfl ?_); refine G.partG (drop_part hb) rfl ?_)
    all_goals
     refine zbs ?_; refine G.cond rfl (fun hc => ?_) (fun hc => ?_)
     · all_goals
        replace hc := of_decide_eq_true hc
        try (exfalso; omega)
        all_goals
         refine zdx ?_; refine G.v (rv_indexH rfl rfl zT rfl zX) rfl ?_; refine G.v (rv_loadE rfl zT zX rfl) rfl ?_; refine zfC ?_; refine G.v (rv_loadW 8 rfl rfl rfl) rfl ?_; refine zaM ?_; refine G.op (og_callV rfl rfl (fun w hh => cheapest_any (r := r) (us := b.1) w (Rd.stays h _ hh) (Rd.stays h2 _ hh) (Rd.stays h3 _ hh) zP zb)) rfl (fun _ _ => ?_); refine zbi (fun bk7 _ => ?_); refine zaV (fun _ _ => ?_); refine zdS ?_
         (refine G.frontR1 (b.2) rfl ?_); refine G.op (og_callMM1 rfl rfl rfl (sortG_any (ks := b.1) zb)) rfl ?_; rintro ⟨⟩ _; try dsimp only
         refine zbW (fun hob => ?_); refine zbe ?_; refine zbq ?_; refine zbl ?_; refine zbH ?_; refine zeu ?_; refine G.op (og_lit rfl (.cons rfl .nil) (by (simp only [List.all_cons, List.all_nil, Bool.and_true, Bool.and_eq_true]; refine ⟨rfl, ?_⟩; (repeat (first | assumption | refine ⟨rfl, ?_⟩)))) rfl rfl rfl rfl rfl) rfl (fun vx _ => ?_); refine G.op (og_app5 rfl rfl rfl zg rfl rfl zh zh) rfl (fun va _ => ?_); refine G.frontG4 (cs2.map (sub CartonM.l)) rfl ?_; refine G.frontR2 b.2 rfl ?_; refine G.pushRow _ (cart_sub (r := r) (k := k) (l := b.1)) rfl ?_; refine zbb ?_; refine zaX ?_; refine G.frontG3 ((ts.drop (i + 1)).map (sub id)) rfl ?_; refine G.frontR4 va rfl ?_; refine G.frontG2 ((cs2 ++ [(cartonM r k b.1, b.2)]).map (sub CartonM.l)) rfl ?_
         refine G.keep3 2 rfl ?_; refine G.backK (i + 1, cs2 ++ [(cartonM r k b.1, b.2)], va) 0 (three_eq rfl (congrArg (fun z => Ch.row va 54 3 z) cart_cells) rfl) (.cons rfl (.cons rfl (.cons rfl (.cons rfl (.cons rfl (.cons rfl (.nil))))))) ?_ ?_ ?_
         exact ⟨rfl, rfl, trivial⟩
         exact ⟨hlt, cart_next hM2 hb, by rw [List.length_append, List.length_singleton]; omega⟩
         dsimp only; omega
     · all_goals
        replace hc := of_decide_eq_false hc
        try (exfalso; omega)
        all_goals
         refine zcZ ?_; refine zaX ?_; refine G.frontR1 v3 rfl ?_; refine G.frontG1 (cs2.map (sub CartonM.l)) rfl ?_; refine G.keep2 3 rfl ?_; refine G.backK (k + 1, cs2, v3) 0 rfl (.cons rfl (.cons rfl (.nil))) ?_ ?_ ?_
         exact ⟨rfl, rfl, trivial⟩
         exact ⟨by (dsimp only; omega), by rw [cartons_next, hM2, take_all zY, hts]; rfl, by (dsimp only; omega)⟩
         dsimp only; omega
  simp only [hgl] at hc
  refine zcX ?_; refine G.know (fun w hw => (Rd.owned 1 rfl w hw).one_) (fun hone => G.retF (v2, cs) ⟨hone, by rw [hM, cartonsM, show k = (groupsOfM r).length by omega]⟩ rfl rfl rfl (fun w hw => hw.sublist (by repeat (first | exact List.Sublist.refl _ | refine List.Sublist.cons_cons _ ?_ | refine List.Sublist.cons _ ?_))))
end
theorem srt_take {ks : List Int} {j x : Nat} (hx : (ordM (keyU ks) ks.length)[j]? = some x) : (((ordM (keyU ks) ks.length).take j).map (keyU ks)).map icell ++ [[Value.int .i64 (keyU ks x)]] = (((ordM (keyU ks) ks.length).take (j + 1)).map (keyU ks)).map icell := by
  simp [List.take_add_one, hx, icell]
section
variable {r : ReqM} {pv tv iv : Value} (w : World) (h : Rd w pv 2 (r.pairs.map PairM.cells)) (h2 : Rd w tv 7 (r.types.map TypeM.cells)) (h3 : Rd w iv 7 (r.items.map ItemM.cells))
include h h2 h3
theorem scartonsOf_any : Fn Tryz.prog 21 [.agg (r.cells pv tv iv).toArray] w (fun x : Value × List (CartonM × Value) => x.1.oneCell' = true ∧ x.2.map Prod.fst = cartonsM r) (fun x => x.1) (fun x => [.grp 3 1 (x.2.map (sub CartonM.l)), .row x.1 54 3 (x.2.map CartonM.cells)]) := by
  have hg4 := groups_len4 r
  refine Fn.of (n := 76) Tryz.func21 rfl rfl ?_; refine zaU (fun bk1 _ => ?_); refine zfC ?_; refine zda (fun vl _ => ?_); refine zbk ?_; refine zbM ?_; refine zd7 ?_; rintro ⟨vg, gs⟩ ⟨hvg, hgs⟩; try dsimp only
  have hgl : (gs.map gcell).length = (groupsOfM r).length := by rw [← hgs]; simp
  refine zd8 ?_; refine G.frontR2 vl rfl ?_; refine zcf ?_; refine G.loopK (ι := Nat × List (CartonM × Value) × Value) (ks := [1, 4]) (fun x => [(3, x.2.2), (5, .int .i64 (x.1 : Int))]) (fun x => [.grp 3 1 (x.2.1.map (sub CartonM.l)), .row x.2.2 54 3 (x.2.1.map CartonM.cells)]) (fun x => x.1 ≤ (groupsOfM r).length ∧ x.2.1.map Prod.fst = (List.range x.1).flatMap (cartonsAt r) ∧ x.2.1.length ≤ 48 * x.1) (fun x => (groupsOfM r).length - x.1) (0, [], vl) (.cons rfl (.cons rfl (.nil))) rfl ?_ ?_ ?_
  exact ⟨Nat.zero_le _, rfl, Nat.zero_le _⟩
  exact ⟨rfl, rfl, trivial⟩
  rintro ⟨k, cs, v2⟩ ⟨hk, hM, hcl⟩
  dsimp only at hk hM hcl ⊢
  refine zcu ?_; refine G.v (rv_len rfl zA) rfl ?_; refine zaT ?_; refine G.condD rfl (fun hc => ?_) (fun hc => ?_)
  · simp only [hgl] at hc
    refine za3 ?_; refine G.seq (G.drawL [5] ?_); refine GE.q 0 rfl za rfl (qg_runs (rv_loadW 4 rfl rfl rfl)) rfl ?_; refine GE.q 1 rfl za rfl (qg_runs (rv_loadW 4 rfl rfl rfl)) rfl ?_; refine zcl (fun _ _ => ?_); refine GE.ol 3 za rfl rfl (og_callF1 rfl rfl (fun w hh => by have q := sunitsOf_any (r := r) (pv := pv) (tv := tv) (iv := iv) w (Rd.stays h _ hh) (Rd.stays h2 _ hh) (Rd.stays h3 _ hh) (k : Int); rw [ncell_eq] at q; exact q)) rfl zj ?_; rintro vu hvu; try dsimp only
    refine GE.ol 4 za rfl rfl (og_callF2 rfl rfl (fun w hh => spackWay_any (r := r) (us := unitsI r k) w (Rd.stays h _ hh) (Rd.stays h2 _ hh) (Rd.stays h3 _ hh) zP (by have := unitsI_len r k; omega))) rfl zk ?_; rintro ⟨vt, ts⟩ ⟨hvt, hts⟩; try dsimp only
    refine GE.t 5 za rfl rfl rfl (og_runs (rv_assign rfl)) rfl (fun _ _ => ?_); refine zbm ?_; refine zb8 ?_
    have htl : ts.length ≤ 48 := (by have e : ts.length = (wayM r (unitsI r k)).length := (by rw [← hts, List.length_map]); have := wayM_len r (unitsI r k); have := unitsI_len r k; omega)
    have htl2 : (ts.map gcell).length = ts.length := List.length_map _
    refine G.frontR4 v2 rfl ?_; refine G.frontG4 (cs.map (sub CartonM.l)) rfl ?_; refine G.loopK (ι := Nat × List (CartonM × Value) × Value) (ks := [1, 4, 5, 6]) (fun x => [(3, x.2.2), (7, .int .i64 (x.1 : Int))]) (fun x => [.grp 3 1 (x.2.1.map (sub CartonM.l)), .row x.2.2 54 3 (x.2.1.map CartonM.cells)]) (fun x => x.1 ≤ ts.length ∧ x.2.1.map Prod.fst = (List.range k).flatMap (cartonsAt r) ++ ((ts.map Prod.fst).take x.1).map (cartonM r k) ∧ x.2.1.length ≤ 48 * k + x.1) (fun x => ts.length - x.1) (0, cs, v2) (.cons rfl (.cons rfl (.cons rfl (.cons rfl (.nil))))) rfl ?_ ?_ ?_
    exact ⟨Nat.zero_le _, by rw [hM]; simp, by omega⟩
    exact ⟨rfl, rfl, trivial⟩
    rintro ⟨i, cs2, v3⟩ ⟨hi, hM2, hcl2⟩
    dsimp only at hi hM2 hcl2 ⊢
    have hl0 : (cs2.map CartonM.cells).length = cs2.length := zD
    by_cases hlt : i < ts.length
    case' pos => (obtain ⟨b, hb⟩ := get_of_lt hlt; have heb := get_map hb gcell; have hgi : (ts.map (sub id))[i]? = some (b.2, b.1.map icell) := get_mapS hb; have hbl : b.1.length ≤ 48 := (by have e : (wayM r (unitsI r k))[i]? = some b.1 := (by rw [← hts, List.getElem?_map, hb]; rfl); have := wayM_elt e; have := unitsI_len r k; omega); have hol := ordM_len (keyU b.1) b.1.length; have hol2 : ((ordM (keyU b.1) b.1.length).map ncell).length = b.1.length := (by rw [List.length_map, hol]))
    all_goals
     refine zcu ?_; refine G.v (rv_len rfl zA) rfl ?_; refine zaT ?_; refine G.cond rfl (fun hc => ?_) (fun hc => ?_)
     · all_goals
        replace hc := of_decide_eq_true hc
        try (exfalso; omega)
        all_goals
         refine za3 ?_; refine G.seq (G.drawL [11] ?_); refine GE.q 0 rfl za rfl (qg_runs (rv_loadW 7 rfl rfl rfl)) rfl ?_; refine zc7 ?_; refine zcO ?_; refine GE.q 3 rfl za rfl (qg_runs (rv_indexH rfl rfl zA rfl zX)) rfl ?_; refine GE.q 4 rfl za rfl (qg_runs (rv_loadE rfl zA zX rfl)) rfl ?_; refine GE.q 5 rfl za rfl (qg_call rfl rfl (fun w hh => scheapest_any (r := r) (us := b.1) w (Rd.stays h _ hh) (Rd.stays h2 _ hh) (Rd.stays h3 _ hh) (Subs.at (by exact Subs.owned 2 rfl _ hh) hb) zb)) rfl ?_; refine zdQ ?_; refine GE.q 7 rfl za rfl (qg_runs (rv_extract rfl rfl)) rfl ?_; refine GE.q 8 rfl za rfl (qg_runs (rv_extract rfl rfl)) rfl ?_; refine GE.ol 9 za rfl rfl (og_alloc) rfl zj (fun bk8 _ => ?_)
         refine GE.ol0 10 za rfl rfl (og_st0 rfl rfl rfl rfl rfl rfl (.zero (.cons (.cons (.cons (.cons (.cons (.cons (.cons .nil))))))))) zj (fun _ _ => ?_); refine GE.t 11 za rfl rfl rfl (og_runs (rv_assign rfl)) rfl (fun _ _ => ?_); refine zbm ?_; refine zaZ ?_; refine G.v (rv_indexH rfl rfl zT rfl zX) rfl ?_; refine G.v (rv_loadE rfl zT zX rfl) rfl ?_; refine G.op (og_callF1 rfl rfl (fun w hh => ssortUp_any (ks := b.1) w (Subs.at (by exact Subs.owned 3 rfl _ hh) hb) zb)) rfl ?_; rintro vs hvs; try dsimp only
         refine zaL ?_; refine za6 (fun vz _ => ?_); refine zd8 ?_; refine G.frontR0 vz rfl ?_; refine G.loopK (ι := Nat × Value) (ks := [1, 3, 4, 5, 6, 7, 8, 10]) (fun x => [(11, x.2), (12, .int .i64 (x.1 : Int))]) (fun x => [.row x.2 3 1 ((((ordM (keyU b.1) b.1.length).take x.1).map (keyU b.1)).map icell)]) (fun x => x.1 ≤ b.1.length) (fun x => b.1.length - x.1) (0, vz) (.cons rfl (.cons rfl (.cons rfl (.cons rfl (.cons rfl (.cons rfl (.cons rfl (.cons rfl (.nil))))))))) rfl ?_ ?_ ?_
         exact Nat.zero_le _
         exact ⟨rfl, rfl, trivial⟩
         rintro ⟨j, v11⟩ hj
         dsimp only at hj ⊢
         have hl11 : ((((ordM (keyU b.1) b.1.length).take j).map (keyU b.1)).map icell).length = j := (by rw [List.length_map, List.length_map, List.length_take, hol]; omega)
         by_cases hlt2 : j < b.1.length
         case' pos => (obtain ⟨x, hx⟩ := get_of_lt (l := ordM (keyU b.1) b.1.length) (k := j) zb; have hex := get_map hx ncell; have hxl : x < b.1.length := ordM_mem.1 (List.mem_of_getElem? hx); obtain ⟨y, hy⟩ := get_of_lt hxl; have hyk : keyU b.1 x = y := (by rw [keyU, hy]; rfl); have hey := get_map hy icell)
         case' neg => (refine G.rowEq ((sortM b.1).map icell) (by rw [List.take_of_length_le zb]; rfl) rfl ?_; refine zbW (fun hov11 => ?_))
         all_goals
          refine zcu ?_; refine zc0 ?_; refine zaT ?_; refine G.cond rfl (fun hc => ?_) (fun hc => ?_)
          · all_goals
             replace hc := of_decide_eq_true hc
             try (exfalso; omega)
             all_goals
              refine za3 ?_; refine G.frontR0 v11 rfl ?_; refine G.drawD1 [13] rfl ?_; refine zdA ?_; refine GE.q2 1 rfl za rfl (qg_runs (rv_move rfl)) zn rfl ?_; refine zeZ ?_; refine GE.q2 3 rfl za rfl (qg_runs (rv_indexH rfl rfl z6 rfl zX)) zn rfl ?_; refine GE.q2 4 rfl za rfl (qg_runs (rv_loadE rfl z6 zX rfl)) zn rfl ?_; refine GE.q2 5 rfl za rfl (qg_runs (rv_move rfl)) zn rfl ?_; refine GE.ol 6 za rfl rfl (og_runs (rv_move rfl)) rfl zj (fun _ _ => ?_); refine GE.ol 7 za rfl rfl (og_runs (rv_indexH rfl rfl zi rfl (by exact hex))) rfl zj (fun _ _ => ?_); refine GE.ol 8 za rfl rfl (og_runs (rv_loadE rfl zi (by exact hex) rfl)) rfl zj (fun _ _ => ?_)
              refine GE.ol 9 za rfl rfl (og_runs (rv_indexH rfl rfl (by exact Rd.grp 5 rfl (List.mem_of_getElem? hgi)) rfl (by exact hey))) rfl zj (fun _ _ => ?_); refine GE.ol 10 za rfl rfl (og_runs (rv_loadE rfl (by exact Rd.grp 5 rfl (List.mem_of_getElem? hgi)) (by exact hey) rfl)) rfl zj (fun _ _ => ?_); refine GE.ol 11 za rfl rfl (og_lit rfl (.cons rfl .nil) rfl rfl rfl rfl rfl rfl) rfl zf (fun vy _ => ?_); refine GE.ol 12 za rfl rfl (og_app1 rfl rfl rfl zg rfl rfl zh zh) rfl zf (fun vb _ => ?_); refine GE.t 13 za rfl rfl rfl (og_runs (rv_assign rfl)) rfl (fun _ _ => ?_); refine zb3 ?_; refine zaO ?_; refine G.frontR1 vb rfl ?_
              refine G.keep1 1 rfl ?_; refine G.backK (j + 1, vb) 0 (one_eq (congrArg (fun z => Ch.row vb 3 1 z) ((congrArg (fun z => (((ordM (keyU b.1) b.1.length).take j).map (keyU b.1)).map icell ++ [[Value.int .i64 z]]) hyk.symm).trans (srt_take hx)))) (.cons rfl (.cons rfl (.cons rfl (.cons rfl (.cons rfl (.cons rfl (.cons rfl (.cons rfl (.nil))))))))) ?_ ?_ ?_
              exact ⟨rfl, rfl, trivial⟩
              exact hlt2
              dsimp only; omega
          · all_goals
             replace hc := of_decide_eq_false hc
             try (exfalso; omega)
             all_goals
              refine zaW ?_; refine zbq ?_; refine zbw ?_; refine zbH ?_; refine zeu ?_; refine G.op (og_lit rfl (.cons rfl .nil) (by (simp only [List.all_cons, List.all_nil, Bool.and_true, Bool.and_eq_true]; refine ⟨rfl, ?_⟩; (repeat (first | assumption | refine ⟨rfl, ?_⟩)))) rfl rfl rfl rfl rfl) rfl (fun vx _ => ?_); refine G.op (og_app5 rfl rfl rfl zg rfl rfl zh zh) rfl (fun va _ => ?_); refine G.frontG4 (cs2.map (sub CartonM.l)) rfl ?_; refine G.frontR2 v11 rfl ?_; refine G.pushRow _ (cart_sub (r := r) (k := k) (l := b.1)) rfl ?_; refine zbb ?_; refine zaO ?_; refine G.frontR4 va rfl ?_; refine G.frontG1 ((cs2 ++ [(cartonM r k b.1, v11)]).map (sub CartonM.l)) rfl ?_
              refine G.keep2 3 rfl ?_; refine G.backK (i + 1, cs2 ++ [(cartonM r k b.1, v11)], va) 0 (two_eq rfl (congrArg (fun z => Ch.row va 54 3 z) cart_cells)) (.cons rfl (.cons rfl (.cons rfl (.cons rfl (.nil))))) ?_ ?_ ?_
              exact ⟨rfl, rfl, trivial⟩
              exact ⟨hlt, cart_next hM2 hb, by rw [List.length_append, List.length_singleton]; omega⟩
              dsimp only; omega
     · all_goals
        replace hc := of_decide_eq_false hc
        try (exfalso; omega)
        all_goals
         refine zcZ ?_; refine zaO ?_; refine G.frontR1 v3 rfl ?_; refine G.frontG1 (cs2.map (sub CartonM.l)) rfl ?_; refine G.keep2 3 rfl ?_; refine G.backK (k + 1, cs2, v3) 0 rfl (.cons rfl (.cons rfl (.nil))) ?_ ?_ ?_
         exact ⟨rfl, rfl, trivial⟩
         exact ⟨by (dsimp only; omega), by rw [cartons_next, hM2, take_all zY, hts]; rfl, by (dsimp only; omega)⟩
         dsimp only; omega
  simp only [hgl] at hc
  refine zcX ?_; refine G.know (fun w hw => (Rd.owned 1 rfl w hw).one_) (fun hone => G.retF (v2, cs) ⟨hone, by rw [hM, cartonsM, show k = (groupsOfM r).length by omega]⟩ rfl rfl rfl (fun w hw => hw.sublist (by repeat (first | exact List.Sublist.refl _ | refine List.Sublist.cons_cons _ ?_ | refine List.Sublist.cons _ ?_))))
end
theorem cartons_elt {r : ReqM} {c : CartonM} (h : c ∈ cartonsM r) : c.l.length ≤ 48 := by
  obtain ⟨k, _, h2⟩ := List.mem_flatMap.1 h
  obtain ⟨l, hl, rfl⟩ := List.mem_map.1 h2
  obtain ⟨i, hi⟩ := List.mem_iff_getElem?.1 hl
  have h3 := wayM_elt hi
  have h4 := unitsI_len r k
  show (sortM l).length ≤ 48
  rw [sortM_len]; omega
end Go.Proofs.YtglpgohilfoecaaGreat

/-
  Boxes, shelves and layers that are right for a pallet; the depth of shelves.
-/
namespace Go.Proofs.YtglpgohilfoecaaGreat
open Go.RowKit
attribute [local irreducible] Go.wpList Go.Code.wp Go.Exit.then Go.Exit.inBlock Go.bodyPost Go.Calls pE pB G RunsV FnV Fn FnM
set_option maxRecDepth 100000

theorem indexBox_any {g : Nat} [FnOk Tryz.prog g] {cap : List Value} {v : Value} {l : List BoxM} {p : BoxM → Bool} (w : World) (h : Rd w v 4 (l.map BoxM.cells)) (hf : ∀ (w' : World) (k : Nat) (b : BoxM), HeapOk w w' [] → l[k]? = some b → FnV Tryz.prog g ([.agg (BoxM.cells b).toArray] ++ cap) w' (.bool (p b))) :
    FnV Tryz.prog 155 [v, .func (.func g) #[] cap.toArray] w (.int .i64 (idxM p l)) := by
  have hle := h.le_map
  have hln : (l.map BoxM.cells).length = l.length := by simp
  refine FnV.of (n := 19) Tryz.func155 rfl rfl ?_; refine zcK ?_; refine zeV ?_; refine G.loopK (ι := Nat) (ks := [0, 1, 7]) (fun k => [(8, .int .i64 k)]) (fun _ => []) (fun k => k ≤ l.length ∧ (l.take k).any p = false) (fun k => l.length - k) 0 (.cons rfl (.cons rfl (.cons rfl (.nil)))) rfl ?_ ?_ ?_
  exact ⟨Nat.zero_le _, rfl⟩
  exact ⟨rfl, trivial⟩
  rintro k ⟨hk, ht⟩
  by_cases hlt : k < l.length
  case' pos => (obtain ⟨b, hb⟩ := get_of_lt hlt; have he := get_map hb BoxM.cells)
  all_goals
   refine zbs ?_; refine G.cond rfl (fun hc => ?_) (fun hc => ?_)
   · all_goals
      replace hc := of_decide_eq_true hc
      try (exfalso; omega)
      all_goals
       refine zcn (fun _ _ => ?_); refine zbe ?_; refine G.cond rfl (fun hc => ?_) (fun hc => ?_)
       · all_goals
          all_goals
           refine zbp ?_; refine zbt ?_
           exact G.retFV rfl rfl (congrArg (Value.int .i64) (idx_at ht hb hc).symm)
       · all_goals
          all_goals
           refine G.skip ?_; refine zaX ?_; refine G.backK (k + 1) 0 rfl (.cons rfl (.cons rfl (.cons rfl (.nil)))) ?_ ?_ ?_
           exact ⟨rfl, trivial⟩
           exact ⟨hlt, any_next ht hb hc⟩
           omega
   · all_goals
      replace hc := of_decide_eq_false hc
      try (exfalso; omega)
      all_goals
       refine zfR ?_
       exact G.retFV rfl rfl (congrArg (Value.int .i64) (idx_none ht hlt).symm)
theorem containsBox_any {g : Nat} [FnOk Tryz.prog g] {cap : List Value} {v : Value} {l : List BoxM} {p : BoxM → Bool} (w : World) (h : Rd w v 4 (l.map BoxM.cells)) (hf : ∀ (w' : World) (k : Nat) (b : BoxM), HeapOk w w' [] → l[k]? = some b → FnV Tryz.prog g ([.agg (BoxM.cells b).toArray] ++ cap) w' (.bool (p b))) :
    FnV Tryz.prog 92 [v, .func (.func g) #[] cap.toArray] w (.bool (l.any p)) := by
  refine FnV.of (n := 9) Tryz.func92 rfl rfl ?_; refine zfP ?_; refine G.op (og_callV rfl rfl (fun w hh => indexBox_any w (Rd.stays h _ hh) (fun w' k b hw hb => hf w' k b ((hh.call hw).none) hb))) rfl (fun _ _ => ?_); refine zdW ?_; refine zco ?_
  exact G.retFV rfl rfl (congrArg Value.bool (idx_any p l))

theorem indexShelf_any {g : Nat} [FnOk Tryz.prog g] {cap : List Value} {v : Value} {l : List (ShelfM×Value)} {p : (ShelfM×Value) → Bool} (w : World) (h : Rd w v 5 (l.map ShelfM.cells)) (hf : ∀ (w' : World) (k : Nat) (b : (ShelfM×Value)), HeapOk w w' [] → l[k]? = some b → FnV Tryz.prog g ([.agg (ShelfM.cells b).toArray] ++ cap) w' (.bool (p b))) :
    FnV Tryz.prog 237 [v, .func (.func g) #[] cap.toArray] w (.int .i64 (idxM p l)) := by
  have hle := h.le_map
  have hln : (l.map ShelfM.cells).length = l.length := by simp
  refine FnV.of (n := 19) Tryz.func237 rfl rfl ?_; refine zcK ?_; refine zeV ?_; refine G.loopK (ι := Nat) (ks := [0, 1, 7]) (fun k => [(8, .int .i64 k)]) (fun _ => []) (fun k => k ≤ l.length ∧ (l.take k).any p = false) (fun k => l.length - k) 0 (.cons rfl (.cons rfl (.cons rfl (.nil)))) rfl ?_ ?_ ?_
  exact ⟨Nat.zero_le _, rfl⟩
  exact ⟨rfl, trivial⟩
  rintro k ⟨hk, ht⟩
  by_cases hlt : k < l.length
  case' pos => (obtain ⟨b, hb⟩ := get_of_lt hlt; have he := get_map hb ShelfM.cells)
  all_goals
   refine zbs ?_; refine G.cond rfl (fun hc => ?_) (fun hc => ?_)
   · all_goals
      replace hc := of_decide_eq_true hc
      try (exfalso; omega)
      all_goals
       refine zcn (fun _ _ => ?_); refine zbe ?_; refine G.cond rfl (fun hc => ?_) (fun hc => ?_)
       · all_goals
          all_goals
           refine zbp ?_; refine zbt ?_
           exact G.retFV rfl rfl (congrArg (Value.int .i64) (idx_at ht hb hc).symm)
       · all_goals
          all_goals
           refine G.skip ?_; refine zaX ?_; refine G.backK (k + 1) 0 rfl (.cons rfl (.cons rfl (.cons rfl (.nil)))) ?_ ?_ ?_
           exact ⟨rfl, trivial⟩
           exact ⟨hlt, any_next ht hb hc⟩
           omega
   · all_goals
      replace hc := of_decide_eq_false hc
      try (exfalso; omega)
      all_goals
       refine zfR ?_
       exact G.retFV rfl rfl (congrArg (Value.int .i64) (idx_none ht hlt).symm)
theorem containsShelf_any {g : Nat} [FnOk Tryz.prog g] {cap : List Value} {v : Value} {l : List (ShelfM×Value)} {p : (ShelfM×Value) → Bool} (w : World) (h : Rd w v 5 (l.map ShelfM.cells)) (hf : ∀ (w' : World) (k : Nat) (b : (ShelfM×Value)), HeapOk w w' [] → l[k]? = some b → FnV Tryz.prog g ([.agg (ShelfM.cells b).toArray] ++ cap) w' (.bool (p b))) :
    FnV Tryz.prog 213 [v, .func (.func g) #[] cap.toArray] w (.bool (l.any p)) := by
  refine FnV.of (n := 9) Tryz.func213 rfl rfl ?_; refine zfP ?_; refine G.op (og_callV rfl rfl (fun w hh => indexShelf_any w (Rd.stays h _ hh) (fun w' k b hw hb => hf w' k b ((hh.call hw).none) hb))) rfl (fun _ _ => ?_); refine zdW ?_; refine zco ?_
  exact G.retFV rfl rfl (congrArg Value.bool (idx_any p l))

theorem indexLayer_any {g : Nat} [FnOk Tryz.prog g] {cap : List Value} {v : Value} {l : List (LayerM×Value)} {p : (LayerM×Value) → Bool} (w : World) (h : Rd w v 4 (l.map LayerM.cells)) (hf : ∀ (w' : World) (k : Nat) (b : (LayerM×Value)), HeapOk w w' [] → l[k]? = some b → FnV Tryz.prog g ([.agg (LayerM.cells b).toArray] ++ cap) w' (.bool (p b))) :
    FnV Tryz.prog 238 [v, .func (.func g) #[] cap.toArray] w (.int .i64 (idxM p l)) := by
  have hle := h.le_map
  have hln : (l.map LayerM.cells).length = l.length := by simp
  refine FnV.of (n := 19) Tryz.func238 rfl rfl ?_; refine zcK ?_; refine zeV ?_; refine G.loopK (ι := Nat) (ks := [0, 1, 7]) (fun k => [(8, .int .i64 k)]) (fun _ => []) (fun k => k ≤ l.length ∧ (l.take k).any p = false) (fun k => l.length - k) 0 (.cons rfl (.cons rfl (.cons rfl (.nil)))) rfl ?_ ?_ ?_
  exact ⟨Nat.zero_le _, rfl⟩
  exact ⟨rfl, trivial⟩
  rintro k ⟨hk, ht⟩
  by_cases hlt : k < l.length
  case' pos => (obtain ⟨b, hb⟩ := get_of_lt hlt; have he := get_map hb LayerM.cells)
  all_goals
   refine zbs ?_; refine G.cond rfl (fun hc => ?_) (fun hc => ?_)
   · all_goals
      replace hc := of_decide_eq_true hc
      try (exfalso; omega)
      all_goals
       refine zcn (fun _ _ => ?_); refine zbe ?_; refine G.cond rfl (fun hc => ?_) (fun hc => ?_)
       · all_goals
          all_goals
           refine zbp ?_; refine zbt ?_
           exact G.retFV rfl rfl (congrArg (Value.int .i64) (idx_at ht hb hc).symm)
       · all_goals
          all_goals
           refine G.skip ?_; refine zaX ?_; refine G.backK (k + 1) 0 rfl (.cons rfl (.cons rfl (.cons rfl (.nil)))) ?_ ?_ ?_
           exact ⟨rfl, trivial⟩
           exact ⟨hlt, any_next ht hb hc⟩
           omega
   · all_goals
      replace hc := of_decide_eq_false hc
      try (exfalso; omega)
      all_goals
       refine zfR ?_
       exact G.retFV rfl rfl (congrArg (Value.int .i64) (idx_none ht hlt).symm)
theorem containsLayer_any {g : Nat} [FnOk Tryz.prog g] {cap : List Value} {v : Value} {l : List (LayerM×Value)} {p : (LayerM×Value) → Bool} (w : World) (h : Rd w v 4 (l.map LayerM.cells)) (hf : ∀ (w' : World) (k : Nat) (b : (LayerM×Value)), HeapOk w w' [] → l[k]? = some b → FnV Tryz.prog g ([.agg (LayerM.cells b).toArray] ++ cap) w' (.bool (p b))) :
    FnV Tryz.prog 215 [v, .func (.func g) #[] cap.toArray] w (.bool (l.any p)) := by
  refine FnV.of (n := 9) Tryz.func215 rfl rfl ?_; refine zfP ?_; refine G.op (og_callV rfl rfl (fun w hh => indexLayer_any w (Rd.stays h _ hh) (fun w' k b hw hb => hf w' k b ((hh.call hw).none) hb))) rfl (fun _ _ => ?_); refine zdW ?_; refine zco ?_
  exact G.retFV rfl rfl (congrArg Value.bool (idx_any p l))

theorem boxesOk1_any (p : PalletM) (b : BoxM) {q : Nat} (w : World) (h : Rd w (.slice (some ⟨q, 0, none⟩) 1 1) 4 [p.cells]) : FnV Tryz.prog 93 [b.val, pB q 0] w (.bool (!boxOkM p b)) := by
  rw [pB_eq_pE q 4]
  refine FnV.of (n := 34) Tryz.func93 rfl rfl ?_; refine zaU (fun bk2 _ => ?_); refine zbk ?_; refine zbx ?_; refine zcg ?_; refine zbY ?_; refine za9 (fun _ _ => ?_); refine zem ?_
  (with_reducible refine G.gP rfl rfl (fun hg => ?_) (fun hg => ?_)) <;> (try exact Bool.noConfusion hg) <;> (first | (refine zaQ ?_; (refine za1 ?_)) | refine zaP ?_)
  all_goals ((first | (refine zb2 ?_) | refine zaP ?_))
  all_goals ((first | (refine zaQ ?_; (refine zcg ?_)) | refine zaP ?_))
  all_goals ((first | (refine zaQ ?_; (refine zbY ?_)) | refine zaP ?_))
  all_goals ((first | (refine zeO (fun _ _ => ?_)) | refine zaP ?_))
  all_goals ((first | (refine zcF ?_) | refine zaP ?_))
  all_goals ((first | refine zba ?_ | refine zbc ?_))
  all_goals (refine zaM ?_)
  all_goals (((with_reducible refine G.gP rfl rfl (fun hg => ?_) (fun hg => ?_)) <;> (try exact Bool.noConfusion hg) <;> (first | (refine zaQ ?_; (refine za1 ?_)) | refine zaP ?_)))
  all_goals ((first | (refine zb2 ?_) | refine zaP ?_))
  all_goals ((first | (refine zaQ ?_; (refine zcg ?_)) | refine zaP ?_))
  all_goals ((first | (refine zaQ ?_; (refine zbY ?_)) | refine zaP ?_))
  all_goals ((first | (refine zeO (fun _ _ => ?_)) | refine zaP ?_))
  all_goals ((first | (refine zcF ?_) | refine zaP ?_))
  all_goals ((first | refine zba ?_ | refine zbc ?_))
  all_goals (refine zaM ?_)
  all_goals (((with_reducible refine G.gP rfl rfl (fun hg => ?_) (fun hg => ?_)) <;> (try exact Bool.noConfusion hg) <;> (first | (refine zaQ ?_; (refine za1 ?_)) | refine zaP ?_)))
  all_goals ((first | (refine zb2 ?_) | refine zaP ?_))
  all_goals ((first | (refine zaQ ?_; (refine zcg ?_)) | refine zaP ?_))
  all_goals ((first | (refine zaQ ?_; (refine zbY ?_)) | refine zaP ?_))
  all_goals ((first | (refine zeO (fun _ _ => ?_)) | refine zaP ?_))
  all_goals ((first | (refine zcF ?_) | refine zaP ?_))
  all_goals ((first | refine zba ?_ | refine zbc ?_))
  all_goals (refine zcD ?_)
  all_goals
   refine zc2 ?_; refine G.retFV rfl rfl (congrArg Value.bool ?_); simp_all [boxOkM]
theorem shelvesOk1_any (p : PalletM) (b : ShelfM × Value) {q : Nat} (w : World) (h : Rd w (.slice (some ⟨q, 0, none⟩) 1 1) 4 [p.cells]) : FnV Tryz.prog 214 [.agg (ShelfM.cells b).toArray, pB q 0] w (.bool (!heapOkM p b.1.d b.1.h b.1.g)) := by
  rw [pB_eq_pE q 4]
  refine FnV.of (n := 26) Tryz.func214 rfl rfl ?_; refine zaU (fun bk2 _ => ?_); refine zbk ?_; refine zbx ?_; refine zcg ?_; refine zbY ?_; refine za9 (fun _ _ => ?_); refine zem ?_
  (with_reducible refine G.gP rfl rfl (fun hg => ?_) (fun hg => ?_)) <;> (try exact Bool.noConfusion hg) <;> (first | (refine zaQ ?_; (refine za1 ?_)) | refine zaP ?_)
  all_goals ((first | (refine zb2 ?_) | refine zaP ?_))
  all_goals ((first | (refine zaQ ?_; (refine zcg ?_)) | refine zaP ?_))
  all_goals ((first | (refine zaQ ?_; (refine zbY ?_)) | refine zaP ?_))
  all_goals ((first | (refine zeO (fun _ _ => ?_)) | refine zaP ?_))
  all_goals ((first | (refine zcF ?_) | refine zaP ?_))
  all_goals ((first | refine zba ?_ | refine zbc ?_))
  all_goals (refine zaM ?_)
  all_goals (((with_reducible refine G.gP rfl rfl (fun hg => ?_) (fun hg => ?_)) <;> (try exact Bool.noConfusion hg) <;> (first | (refine zaQ ?_; (refine za1 ?_)) | refine zaP ?_)))
  all_goals ((first | (refine zb2 ?_) | refine zaP ?_))
  all_goals ((first | (refine zaQ ?_; (refine zcg ?_)) | refine zaP ?_))
  all_goals ((first | (refine zaQ ?_; (refine zbY ?_)) | refine zaP ?_))
  all_goals ((first | (refine zeO (fun _ _ => ?_)) | refine zaP ?_))
  all_goals ((first | (refine zcF ?_) | refine zaP ?_))
  all_goals ((first | refine zba ?_ | refine zbc ?_))
  all_goals (refine zcD ?_)
  all_goals
   refine zc2 ?_; refine G.retFV rfl rfl (congrArg Value.bool ?_); simp_all [heapOkM]
theorem stacksOk1_any (p : PalletM) (b : LayerM × Value) {q : Nat} (w : World) (h : Rd w (.slice (some ⟨q, 0, none⟩) 1 1) 4 [p.cells]) : FnV Tryz.prog 216 [.agg (LayerM.cells b).toArray, pB q 0] w (.bool (!heapOkM p b.1.d b.1.h b.1.g)) := by
  rw [pB_eq_pE q 4]
  refine FnV.of (n := 26) Tryz.func216 rfl rfl ?_; refine zaU (fun bk2 _ => ?_); refine zbk ?_; refine zbx ?_; refine zcg ?_; refine zbY ?_; refine za9 (fun _ _ => ?_); refine zem ?_
  (with_reducible refine G.gP rfl rfl (fun hg => ?_) (fun hg => ?_)) <;> (try exact Bool.noConfusion hg) <;> (first | (refine zaQ ?_; (refine za1 ?_)) | refine zaP ?_)
  all_goals ((first | (refine zb2 ?_) | refine zaP ?_))
  all_goals ((first | (refine zaQ ?_; (refine zcg ?_)) | refine zaP ?_))
  all_goals ((first | (refine zaQ ?_; (refine zbY ?_)) | refine zaP ?_))
  all_goals ((first | (refine zeO (fun _ _ => ?_)) | refine zaP ?_))
  all_goals ((first | (refine zcF ?_) | refine zaP ?_))
  all_goals ((first | refine zba ?_ | refine zbc ?_))
  all_goals (refine zaM ?_)
  all_goals (((with_reducible refine G.gP rfl rfl (fun hg => ?_) (fun hg => ?_)) <;> (try exact Bool.noConfusion hg) <;> (first | (refine zaQ ?_; (refine za1 ?_)) | refine zaP ?_)))
  all_goals ((first | (refine zb2 ?_) | refine zaP ?_))
  all_goals ((first | (refine zaQ ?_; (refine zcg ?_)) | refine zaP ?_))
  all_goals ((first | (refine zaQ ?_; (refine zbY ?_)) | refine zaP ?_))
  all_goals ((first | (refine zeO (fun _ _ => ?_)) | refine zaP ?_))
  all_goals ((first | (refine zcF ?_) | refine zaP ?_))
  all_goals ((first | refine zba ?_ | refine zbc ?_))
  all_goals (refine zcD ?_)
  all_goals
   refine zc2 ?_; refine G.retFV rfl rfl (congrArg Value.bool ?_); simp_all [heapOkM]
theorem boxesOk_any (p : PalletM) {v : Value} {l : List BoxM} (w : World) (h : Rd w v 4 (l.map BoxM.cells)) : FnV Tryz.prog 36 [p.val, v] w (.bool (boxesOkM p l)) := by
  refine FnV.of (n := 13) Tryz.func36 rfl rfl ?_; refine zaU (fun bk2 _ => ?_); refine zf9 ?_; refine G.op (og_callV rfl rfl (fun w _ => palletOk_any _ w)) rfl (fun _ _ => ?_); refine zaM ?_
  (with_reducible refine G.gP rfl rfl (fun hg => ?_) (fun hg => ?_)) <;> (try exact Bool.noConfusion hg) <;> (first | (refine zbr ?_) | refine zaP ?_)
  all_goals ((first | (refine zaQ ?_; refine zdN ?_) | refine zaP ?_))
  all_goals ((first | (refine zaQ ?_; refine G.op (og_callV rfl rfl (fun w hh => containsBox_any w (Rd.stays h _ hh) (fun w' k b hw hb => boxesOk1_any p b w' (Rd.stays (Rd.ofBlk 0 rfl rfl w hh) w' hw)))) rfl (fun _ _ => ?_)) | refine zaP ?_))
  all_goals ((first | (refine zcF ?_) | refine zaP ?_))
  all_goals ((first | refine zba ?_ | refine zbc ?_))
  all_goals (refine zcD ?_)
  all_goals
   refine zc2 ?_; refine G.retFV rfl rfl (congrArg Value.bool ?_); simp only [boxesOkM, not_any_not]; simp [*]
theorem sboxesOk_any (p : PalletM) {v : Value} {l : List BoxM} (w : World) (h : Rd w v 4 (l.map BoxM.cells)) : FnV Tryz.prog 106 [p.val, v] w (.bool (boxesOkM p l)) := by
  have hle := h.le_map
  have hln : (l.map BoxM.cells).length = l.length := by simp
  refine FnV.of (n := 50) Tryz.func106 rfl rfl ?_; refine zaU (fun bk2 _ => ?_); refine zbk ?_; refine za7 ?_; refine G.op (og_callV rfl rfl (fun w _ => spalletOk_any _ w)) rfl (fun _ _ => ?_); refine zcI ?_; refine G.cond rfl (fun hc => ?_) (fun hc => ?_); refine zdM ?_
  exact G.retFV rfl rfl (congrArg Value.bool (okOut hc))
  · refine G.skip ?_
    refine G.thenN (G.seq ?_); refine zb8 ?_
    have hpo : palletOkM p = true := by simpa using hc
    refine G.loopK (ι := Nat) (ks := [1, 2]) (fun k => [(5, .int .i64 k)]) (fun _ => []) (fun k => k ≤ l.length ∧ (l.take k).all (boxOkM p) = true) (fun k => l.length - k) 0 (.cons rfl (.cons rfl (.nil))) rfl ?_ ?_ ?_
    exact ⟨Nat.zero_le _, rfl⟩
    exact ⟨rfl, trivial⟩
    rintro k ⟨hk, ht⟩
    by_cases hlt : k < l.length
    case' pos => (obtain ⟨b, hb⟩ := get_of_lt hlt; have he := get_map hb BoxM.cells)
    all_goals
     refine zcu ?_; refine zcW ?_; refine G.cond rfl (fun hc => ?_) (fun hc => ?_)
     · all_goals
        replace hc := of_decide_eq_true hc
        try (exfalso; omega)
        all_goals
         refine za3 ?_; refine zaZ ?_; refine zbh ?_; refine zbu (fun bk6 _ => ?_); refine zbT (fun _ _ => ?_); refine ze1 ?_; refine zbx ?_; refine zbl ?_; refine zbf (fun _ _ => ?_); refine zem ?_
         all_goals (((with_reducible refine G.gP rfl rfl (fun hg => ?_) (fun hg => ?_)) <;> (try exact Bool.noConfusion hg) <;> (first | (refine zaQ ?_; (refine za1 ?_)) | refine zaP ?_)))
         all_goals ((first | (refine zaQ ?_; (refine za0 ?_)) | refine zaP ?_))
         all_goals ((first | (refine zaQ ?_; (refine za1 ?_)) | refine zaP ?_))
         all_goals ((first | (refine zaQ ?_; (refine zdw ?_)) | refine zaP ?_))
         all_goals ((first | (refine zfo (fun _ _ => ?_)) | refine zaP ?_))
         all_goals ((first | (refine zcF ?_) | refine zaP ?_))
         all_goals ((first | refine zba ?_ | refine zbc ?_))
         all_goals (refine zaM ?_)
         all_goals (((with_reducible refine G.gP rfl rfl (fun hg => ?_) (fun hg => ?_)) <;> (try exact Bool.noConfusion hg) <;> (first | (refine zaQ ?_; (refine za1 ?_)) | refine zaP ?_)))
         all_goals ((first | (refine zaQ ?_; (refine za0 ?_)) | refine zaP ?_))
         all_goals ((first | (refine zaQ ?_; (refine za1 ?_)) | refine zaP ?_))
         all_goals ((first | (refine zaQ ?_; (refine zdw ?_)) | refine zaP ?_))
         all_goals ((first | (refine zfo (fun _ _ => ?_)) | refine zaP ?_))
         all_goals ((first | (refine zcF ?_) | refine zaP ?_))
         all_goals ((first | refine zba ?_ | refine zbc ?_))
         all_goals (refine zaM ?_)
         all_goals (((with_reducible refine G.gP rfl rfl (fun hg => ?_) (fun hg => ?_)) <;> (try exact Bool.noConfusion hg) <;> (first | (refine zaQ ?_; (refine za1 ?_)) | refine zaP ?_)))
         all_goals ((first | (refine zaQ ?_; (refine za0 ?_)) | refine zaP ?_))
         all_goals ((first | (refine zaQ ?_; (refine za1 ?_)) | refine zaP ?_))
         all_goals ((first | (refine zaQ ?_; (refine zdw ?_)) | refine zaP ?_))
         all_goals ((first | (refine zfo (fun _ _ => ?_)) | refine zaP ?_))
         all_goals ((first | (refine zcF ?_) | refine zaP ?_))
         all_goals ((first | refine zba ?_ | refine zbc ?_))
         all_goals
          refine zbe ?_; refine G.cond rfl (fun hc => ?_) (fun hc => ?_)
          · all_goals
             all_goals
              refine zb6 ?_; refine zbt ?_
              exact G.retFV rfl rfl (congrArg Value.bool (okNo (f := boxOkM p) hb (by (simp_all [boxOkM]; done))))
          · try exact Bool.noConfusion hc
            all_goals
             all_goals
              refine zfL ?_; refine G.backK (k + 1) 1 rfl (.cons rfl (.cons rfl (.nil))) ?_ ?_ ?_
              exact ⟨rfl, trivial⟩
              exact ⟨hlt, all_next ht hb (by (simp_all [boxOkM]; done))⟩
              omega
     · all_goals
        replace hc := of_decide_eq_false hc
        try (exfalso; omega)
        all_goals
         refine zfR ?_
         exact G.retFV rfl rfl (congrArg Value.bool (okEnd hpo ht hlt))
theorem l11Ok_any (p : PalletM) (d h g : Int) (w : World) : FnV Tryz.prog 220 [p.val, .int .i64 d, .int .i64 h, .int .i64 g] w (.bool (heapOkM p d h g)) := by
  refine FnV.of (n := 25) Tryz.func220 rfl rfl ?_; refine zaU (fun bk4 _ => ?_); refine zdS ?_; refine zdJ ?_; refine zbf (fun _ _ => ?_); refine zaM ?_
  (with_reducible refine G.gP rfl rfl (fun hg => ?_) (fun hg => ?_)) <;> (try exact Bool.noConfusion hg) <;> (first | (refine zbr ?_) | refine zaP ?_)
  all_goals ((first | (refine zaQ ?_; (refine za1 ?_)) | refine zaP ?_))
  all_goals ((first | (refine zb2 ?_) | refine zaP ?_))
  all_goals ((first | (refine zfo (fun _ _ => ?_)) | refine zaP ?_))
  all_goals ((first | refine zba ?_ | refine zbc ?_))
  all_goals (refine zaM ?_)
  all_goals (((with_reducible refine G.gP rfl rfl (fun hg => ?_) (fun hg => ?_)) <;> (try exact Bool.noConfusion hg) <;> (first | (refine zbr ?_) | refine zaP ?_)))
  all_goals ((first | (refine zaQ ?_; (refine za1 ?_)) | refine zaP ?_))
  all_goals ((first | (refine zb2 ?_) | refine zaP ?_))
  all_goals ((first | (refine zfo (fun _ _ => ?_)) | refine zaP ?_))
  all_goals ((first | refine zba ?_ | refine zbc ?_))
  all_goals (refine zcD ?_)
  all_goals
   refine zc2 ?_; refine G.retFV rfl rfl (congrArg Value.bool ?_); simp_all [heapOkM]
theorem implShelvesOk_any (p : PalletM) {v : Value} {l : List (ShelfM × Value)} (w : World) (h : Rd w v 5 (l.map ShelfM.cells)) : FnV Tryz.prog 157 [p.val, v] w (.bool (palletOkM p && (l.map Prod.fst).all fun s => heapOkM p s.d s.h s.g)) := by
  refine FnV.of (n := 13) Tryz.func157 rfl rfl ?_; refine zaU (fun bk2 _ => ?_); refine zf9 ?_; refine G.op (og_callV rfl rfl (fun w _ => palletOk_any _ w)) rfl (fun _ _ => ?_); refine zaM ?_
  (with_reducible refine G.gP rfl rfl (fun hg => ?_) (fun hg => ?_)) <;> (try exact Bool.noConfusion hg) <;> (first | (refine zbr ?_) | refine zaP ?_)
  all_goals ((first | (refine zaQ ?_; refine zdN ?_) | refine zaP ?_))
  all_goals ((first | (refine zaQ ?_; refine G.op (og_callV rfl rfl (fun w hh => containsShelf_any w (Rd.stays h _ hh) (fun w' k b hw hb => shelvesOk1_any p b w' (Rd.stays (Rd.ofBlk 0 rfl rfl w hh) w' hw)))) rfl (fun _ _ => ?_)) | refine zaP ?_))
  all_goals ((first | (refine zcF ?_) | refine zaP ?_))
  all_goals ((first | refine zba ?_ | refine zbc ?_))
  all_goals (refine zcD ?_)
  all_goals
   refine zc2 ?_; refine G.retFV rfl rfl (congrArg Value.bool ?_); simp only [not_any_not, List.all_map]; simp [*]; (try rfl)
theorem specShelvesOk_any (p : PalletM) {v : Value} {l : List (ShelfM × Value)} (w : World) (h : Rd w v 5 (l.map ShelfM.cells)) : FnV Tryz.prog 168 [p.val, v] w (.bool (palletOkM p && (l.map Prod.fst).all fun s => heapOkM p s.d s.h s.g)) := by
  have hle := h.le_map
  have hln : (l.map ShelfM.cells).length = l.length := by simp
  rw [List.all_map]
  refine FnV.of (n := 33) Tryz.func168 rfl rfl ?_; refine zaU (fun bk2 _ => ?_); refine zbk ?_; refine za7 ?_; refine G.op (og_callV rfl rfl (fun w _ => spalletOk_any _ w)) rfl (fun _ _ => ?_); refine zcI ?_; refine G.cond rfl (fun hc => ?_) (fun hc => ?_); refine zdM ?_
  exact G.retFV rfl rfl (congrArg Value.bool (okOut hc))
  · refine G.skip ?_
    refine G.thenN (G.seq ?_); refine zb8 ?_
    have hpo : palletOkM p = true := by simpa using hc
    refine G.loopK (ι := Nat) (ks := [1, 2]) (fun k => [(5, .int .i64 k)]) (fun _ => []) (fun k => k ≤ l.length ∧ (l.take k).all ((fun s => heapOkM p s.d s.h s.g) ∘ Prod.fst) = true) (fun k => l.length - k) 0 (.cons rfl (.cons rfl (.nil))) rfl ?_ ?_ ?_
    exact ⟨Nat.zero_le _, rfl⟩
    exact ⟨rfl, trivial⟩
    rintro k ⟨hk, ht⟩
    by_cases hlt : k < l.length
    case' pos => (obtain ⟨b, hb⟩ := get_of_lt hlt; have he := get_map hb ShelfM.cells)
    all_goals
     refine zcu ?_; refine zcW ?_; refine G.cond rfl (fun hc => ?_) (fun hc => ?_)
     · all_goals
        replace hc := of_decide_eq_true hc
        try (exfalso; omega)
        all_goals
         refine za3 ?_; refine zbA ?_
         refine GE.ol 12 za rfl rfl (og_runs (rv_move rfl)) rfl zd (fun _ _ => ?_); refine GE.ol 13 za rfl rfl (og_runs (rv_indexH rfl rfl ze rfl zc)) rfl zd (fun _ _ => ?_); refine GE.ol 14 za rfl rfl (og_runs (rv_fieldE rfl)) rfl zd (fun _ _ => ?_); refine GE.ol 15 za rfl rfl (og_runs (rv_loadE rfl ze zc rfl)) rfl zd (fun _ _ => ?_); refine GE.ol 16 za rfl rfl (og_callV rfl rfl (fun w _ => l11Ok_any _ _ _ _ w)) rfl zd (fun _ _ => ?_); refine GE.ol 17 za rfl rfl (og_runs (rv_not rfl)) rfl zd (fun _ _ => ?_); refine zbm ?_; refine G.cond rfl (fun hc => ?_) (fun hc => ?_)
         · all_goals
            all_goals
             refine zb6 ?_; refine zbt ?_
             exact G.retFV rfl rfl (congrArg Value.bool (okNo (f := (fun s => heapOkM p s.d s.h s.g) ∘ Prod.fst) hb (by (simpa using hc))))
         · all_goals
            all_goals
             refine zfL ?_; refine G.backK (k + 1) 0 rfl (.cons rfl (.cons rfl (.nil))) ?_ ?_ ?_
             exact ⟨rfl, trivial⟩
             exact ⟨hlt, all_next ht hb zB⟩
             omega
     · all_goals
        replace hc := of_decide_eq_false hc
        try (exfalso; omega)
        all_goals
         refine zfR ?_
         exact G.retFV rfl rfl (congrArg Value.bool (okEnd hpo ht hlt))

theorem implStacksOk_any (p : PalletM) {v : Value} {l : List (LayerM × Value)} (w : World) (h : Rd w v 4 (l.map LayerM.cells)) : FnV Tryz.prog 158 [p.val, v] w (.bool (palletOkM p && (l.map Prod.fst).all fun s => heapOkM p s.d s.h s.g)) := by
  refine FnV.of (n := 13) Tryz.func158 rfl rfl ?_; refine zaU (fun bk2 _ => ?_); refine zf9 ?_; refine G.op (og_callV rfl rfl (fun w _ => palletOk_any _ w)) rfl (fun _ _ => ?_); refine zaM ?_
  (with_reducible refine G.gP rfl rfl (fun hg => ?_) (fun hg => ?_)) <;> (try exact Bool.noConfusion hg) <;> (first | (refine zbr ?_) | refine zaP ?_)
  all_goals ((first | (refine zaQ ?_; refine zdN ?_) | refine zaP ?_))
  all_goals ((first | (refine zaQ ?_; refine G.op (og_callV rfl rfl (fun w hh => containsLayer_any w (Rd.stays h _ hh) (fun w' k b hw hb => stacksOk1_any p b w' (Rd.stays (Rd.ofBlk 0 rfl rfl w hh) w' hw)))) rfl (fun _ _ => ?_)) | refine zaP ?_))
  all_goals ((first | (refine zcF ?_) | refine zaP ?_))
  all_goals ((first | refine zba ?_ | refine zbc ?_))
  all_goals (refine zcD ?_)
  all_goals
   refine zc2 ?_; refine G.retFV rfl rfl (congrArg Value.bool ?_); simp only [not_any_not, List.all_map]; simp [*]; (try rfl)
theorem specStacksOk_any (p : PalletM) {v : Value} {l : List (LayerM × Value)} (w : World) (h : Rd w v 4 (l.map LayerM.cells)) : FnV Tryz.prog 169 [p.val, v] w (.bool (palletOkM p && (l.map Prod.fst).all fun s => heapOkM p s.d s.h s.g)) := by
  have hle := h.le_map
  have hln : (l.map LayerM.cells).length = l.length := by simp
  rw [List.all_map]
  refine FnV.of (n := 33) Tryz.func169 rfl rfl ?_; refine zaU (fun bk2 _ => ?_); refine zbk ?_; refine za7 ?_; refine G.op (og_callV rfl rfl (fun w _ => spalletOk_any _ w)) rfl (fun _ _ => ?_); refine zcI ?_; refine G.cond rfl (fun hc => ?_) (fun hc => ?_); refine zdM ?_
  exact G.retFV rfl rfl (congrArg Value.bool (okOut hc))
  · refine G.skip ?_
    refine G.thenN (G.seq ?_); refine zb8 ?_
    have hpo : palletOkM p = true := by simpa using hc
    refine G.loopK (ι := Nat) (ks := [1, 2]) (fun k => [(5, .int .i64 k)]) (fun _ => []) (fun k => k ≤ l.length ∧ (l.take k).all ((fun s => heapOkM p s.d s.h s.g) ∘ Prod.fst) = true) (fun k => l.length - k) 0 (.cons rfl (.cons rfl (.nil))) rfl ?_ ?_ ?_
    exact ⟨Nat.zero_le _, rfl⟩
    exact ⟨rfl, trivial⟩
    rintro k ⟨hk, ht⟩
    by_cases hlt : k < l.length
    case' pos => (obtain ⟨b, hb⟩ := get_of_lt hlt; have he := get_map hb LayerM.cells)
    all_goals
     refine zcu ?_; refine zcW ?_; refine G.cond rfl (fun hc => ?_) (fun hc => ?_)
     · all_goals
        replace hc := of_decide_eq_true hc
        try (exfalso; omega)
        all_goals
         refine za3 ?_; refine zbA ?_
         refine GE.ol 12 za rfl rfl (og_runs (rv_move rfl)) rfl zd (fun _ _ => ?_); refine GE.ol 13 za rfl rfl (og_runs (rv_indexH rfl rfl ze rfl zc)) rfl zd (fun _ _ => ?_); refine GE.ol 14 za rfl rfl (og_runs (rv_fieldE rfl)) rfl zd (fun _ _ => ?_); refine GE.ol 15 za rfl rfl (og_runs (rv_loadE rfl ze zc rfl)) rfl zd (fun _ _ => ?_); refine GE.ol 16 za rfl rfl (og_callV rfl rfl (fun w _ => l11Ok_any _ _ _ _ w)) rfl zd (fun _ _ => ?_); refine GE.ol 17 za rfl rfl (og_runs (rv_not rfl)) rfl zd (fun _ _ => ?_); refine zbm ?_; refine G.cond rfl (fun hc => ?_) (fun hc => ?_)
         · all_goals
            all_goals
             refine zb6 ?_; refine zbt ?_
             exact G.retFV rfl rfl (congrArg Value.bool (okNo (f := (fun s => heapOkM p s.d s.h s.g) ∘ Prod.fst) hb (by (simpa using hc))))
         · all_goals
            all_goals
             refine zfL ?_; refine G.backK (k + 1) 0 rfl (.cons rfl (.cons rfl (.nil))) ?_ ?_ ?_
             exact ⟨rfl, trivial⟩
             exact ⟨hlt, all_next ht hb zB⟩
             omega
     · all_goals
        replace hc := of_decide_eq_false hc
        try (exfalso; omega)
        all_goals
         refine zfR ?_
         exact G.retFV rfl rfl (congrArg Value.bool (okEnd hpo ht hlt))

end Go.Proofs.YtglpgohilfoecaaGreat
