/-
  Texts of this proof, one behind the other: PlanW.
-/
import Derived.Test.YtglpgohilfoecaaGreatPkdE
import Derived.Test.YtglpgohilfoecaaGreatPkdF
set_option linter.unusedVariables false
set_option linter.unusedSimpArgs false

/-
  The plan of an order: both ways.
-/
namespace Go.Proofs.YtglpgohilfoecaaGreat
open Go.RowKit
/-- A place, some pallets on. -/
def movedM (a : Int) (s : SpotM) : SpotM := ⟨IntKind.i64.wrap (s.p + a), s.x, s.y, s.z⟩
/-- The boxes of a group's cartons. -/
def boxesAt (r : ReqM) (cs : List CartonM) (k : Nat) : List BoxM := (cs.filter fun c => decide (c.g = (k : Int))).map (boxOfM r)
def planStep (r : ReqM) (st : List SpotM × Int) (k : Nat) : List SpotM × Int :=
  (st.1 ++ (spotsM r.pal (boxesAt r (cartonsM r) k)).map (movedM st.2), IntKind.i64.wrap (st.2 + palletsM (spotsM r.pal (boxesAt r (cartonsM r) k))))
def spotsAt (r : ReqM) (n : Nat) : List SpotM × Int := (List.range n).foldl (planStep r) ([], 0)
/-- The places of an order's plan. -/
def planSpotsM (r : ReqM) : List SpotM := (spotsAt r (groupsOfM r).length).1
theorem spotsAt_next (r : ReqM) (k : Nat) : spotsAt r (k + 1) = planStep r (spotsAt r k) k := by
  rw [spotsAt, List.range_succ, List.foldl_append]; rfl
theorem cartons_no {r : ReqM} (h : ¬ classM r = 0) : cartonsM r = [] := by rw [cartonsM, groupsOf_no h]; rfl
theorem planSpots_no {r : ReqM} (h : ¬ classM r = 0) : planSpotsM r = [] := by rw [planSpotsM, groupsOf_no h]; rfl
theorem cartons_lenP (r : ReqM) : (cartonsM r).length ≤ 192 := by
  have : ∀ k, ((List.range k).flatMap (cartonsAt r)).length ≤ 48 * k := by
    intro k
    induction k with
    | zero => simp
    | succ k ih =>
      rw [cartons_next, List.length_append, cartonsAt, List.length_map]
      have := wayM_len r (unitsI r k)
      have := unitsI_len r k
      omega
  have h1 := this (groupsOfM r).length
  have h2 := groups_len4 r
  rw [cartonsM]; omega
theorem bx_yes {r : ReqM} {cs : List (CartonM × Value)} {k i : Nat} {b : CartonM × Value} (hb : cs[i]? = some b) (hg : b.1.g = (k : Int)) : (boxesAt r ((cs.take i).map Prod.fst) k).map BoxM.cells ++ [(boxOfM r b.1).cells] = (boxesAt r ((cs.take (i + 1)).map Prod.fst) k).map BoxM.cells := by
  rw [boxesAt, boxesAt, List.take_add_one, hb, List.map_append, List.filter_append, List.map_append, List.map_append]
  simp [hg]
theorem bx_no {r : ReqM} {cs : List (CartonM × Value)} {k i : Nat} {b : CartonM × Value} (hb : cs[i]? = some b) (hg : ¬ b.1.g = (k : Int)) : (boxesAt r ((cs.take i).map Prod.fst) k).map BoxM.cells = (boxesAt r ((cs.take (i + 1)).map Prod.fst) k).map BoxM.cells := by
  rw [boxesAt, boxesAt, List.take_add_one, hb, List.map_append, List.filter_append, List.map_append, List.map_append]
  simp [hg]
theorem bx_len (r : ReqM) (cs : List CartonM) (k : Nat) : (boxesAt r cs k).length ≤ cs.length := by rw [boxesAt, List.length_map]; exact List.length_filter_le _ _
theorem pl_len {r : ReqM} {k : Nat} (hsl : (spotsAt r k).1.length ≤ 192 * k) : (spotsAt r (k + 1)).1.length ≤ 192 * (k + 1) := by
  rw [spotsAt_next, planStep]
  simp only [List.length_append, List.length_map]
  have := spots_le r.pal (boxesAt r (cartonsM r) k)
  have := bx_len r (cartonsM r) k
  have := cartons_lenP r
  omega
theorem planSpots_len (r : ReqM) : (planSpotsM r).length ≤ 768 := by
  have : ∀ k, (spotsAt r k).1.length ≤ 192 * k := by
    intro k
    induction k with
    | zero => exact Nat.zero_le _
    | succ k ih => exact pl_len ih
  have h1 := this (groupsOfM r).length
  have h2 := groups_len4 r
  rw [planSpotsM]; omega
theorem plan_eq {r : ReqM} {cs : List (CartonM × Value)} {k : Nat} {sp : List SpotM} (hcs : cs.map Prod.fst = cartonsM r) (hsp : sp = spotsM r.pal (boxesAt r (cs.map Prod.fst) k)) : spotsAt r (k + 1) = ((spotsAt r k).1 ++ sp.map (movedM (spotsAt r k).2), IntKind.i64.wrap ((spotsAt r k).2 + palletsM sp)) := by
  rw [spotsAt_next, planStep, hsp, hcs]
theorem mv_next {ss sp : List SpotM} {a : Int} {j : Nat} {s : SpotM} (hs : sp[j]? = some s) : (ss ++ (sp.take j).map (movedM a)).map SpotM.cells ++ [[Value.int .i64 (IntKind.i64.wrap (s.p + a)), .int .i64 s.x, .int .i64 s.y, .int .i64 s.z]] = (ss ++ (sp.take (j + 1)).map (movedM a)).map SpotM.cells := by
  rw [List.take_add_one, hs, List.map_append, List.map_append, List.map_append, List.map_append]
  simp [movedM, SpotM.cells]
theorem one_eqP {a a' : Ch} {F : List Ch} (h1 : a = a') : a :: F = [a'] ++ F := by subst h1; rfl
theorem two_eqP {a a' b b' : Ch} {F : List Ch} (h1 : a = a') (h2 : b = b') : a :: b :: F = [a', b'] ++ F := by subst h1 h2; rfl
theorem G.keep1P {n : Nat} {w0 : World} {fr : Fr} {H : List Ch} (m : Nat) {c1 : Ch} {J : List Ch} {K : Act → World → Prop} (hH : H = c1 :: J) (h : G n w0 fr (c1 :: J.drop m) K) : G n w0 fr H K := by
  subst hH
  exact G.heap (fun w hh => hh.sublist (List.Sublist.cons_cons _ (List.drop_sublist _ _))) h
theorem G.keep2P {n : Nat} {w0 : World} {fr : Fr} {H : List Ch} (m : Nat) {c1 c2 : Ch} {J : List Ch} {K : Act → World → Prop} (hH : H = c1 :: c2 :: J) (h : G n w0 fr (c1 :: c2 :: J.drop m) K) : G n w0 fr H K := by
  subst hH
  exact G.heap (fun w hh => hh.sublist (List.Sublist.cons_cons _ (List.Sublist.cons_cons _ (List.drop_sublist _ _)))) h
attribute [local irreducible] Go.wpList Go.Code.wp Go.Exit.then Go.Exit.inBlock Go.bodyPost Go.Calls pE pB G RunsV FnV Fn FnM
set_option maxRecDepth 100000
set_option maxHeartbeats 4000000
section
variable {r : ReqM} {pv tv iv : Value} (w : World) (h : Rd w pv 2 (r.pairs.map PairM.cells)) (h2 : Rd w tv 7 (r.types.map TypeM.cells)) (h3 : Rd w iv 7 (r.items.map ItemM.cells))
include h h2 h3
theorem planOf_any : Fn Tryz.prog 12 [.agg (r.cells pv tv iv).toArray] w (fun x : (Value × List (CartonM × Value)) × Value => x.1.1.oneCell' = true ∧ x.2.oneCell' = true ∧ x.1.2.map Prod.fst = cartonsM r) (fun x => .tuple #[.agg [x.1.1, x.2].toArray, .bool (decide (classM r = 0))]) (fun x => [.grp 3 1 (x.1.2.map (sub CartonM.l)), .row x.1.1 54 3 (x.1.2.map CartonM.cells), .row x.2 86 4 ((planSpotsM r).map SpotM.cells)]) := by
  have hg4 := groups_len4 r
  have hcn := cartons_lenP r
  have hone1 := h.one_
  have hone2 := h2.one_
  have hone3 := h3.one_
  refine Fn.of (n := 75) Tryz.func12 rfl rfl ?_; refine zaP (fun bk1 _ => ?_); refine zbo (fun bk2 _ => ?_); refine zbf ?_; refine G.seq ?_; refine zbI ?_; refine zbK (fun _ _ => ?_); refine zcG ?_; refine G.cond rfl (fun hc => ?_) (fun hc => ?_)
  · have hno : ¬ classM r = 0 := (by clear h h2 h3; simp_all)
    refine zdB ?_; refine G.op0 (og_st0 rfl rfl rfl rfl rfl (by repeat (rfl)) (.zero (.cons (.cons .nil)))) (fun _ _ => ?_); refine zb6 ?_; refine G.thenR ?_
    (refine G.frontB0 bk2 rfl ?_); refine G.nilRow 86 4 ?_; refine G.nilRow 54 3 ?_; refine zb9 ?_; refine G.retL ((.slice none 0 0, []), .slice none 0 0) ⟨rfl, rfl, (cartons_no hno).symm⟩ rfl (.cons (.cell 3 rfl rfl rfl) (.cons (.tmp rfl) .nil)) (by rw [decide_eq_false hno]) (fun w hh => by rw [planSpots_no hno]; exact hh.sublist (List.Sublist.cons_cons _ (List.Sublist.cons_cons _ (List.Sublist.cons_cons _ (List.nil_sublist _))))); done
  have hyes : classM r = 0 := (by clear h h2 h3; simp_all)
  refine zcT ?_; refine G.seq ?_; refine zbI ?_; refine G.op (og_callF2 rfl rfl (fun w hh => cartonsOf_any (r := r) w (Rd.stays h _ hh) (Rd.stays h2 _ hh) (Rd.stays h3 _ hh))) rfl ?_; rintro ⟨cv, cs⟩ ⟨hcv, hcs⟩; try dsimp only
  refine zfx (fun hova => ?_)
  have h48 : ∀ c ∈ cs, c.1.l.length ≤ 48 := (fun c hc => cartons_elt (by rw [← show cs.map Prod.fst = cartonsM r from hcs]; exact List.mem_map_of_mem hc))
  have hcl : cs.length ≤ 192 := (by have e : cs.length = (cartonsM r).length := (by rw [← show cs.map Prod.fst = cartonsM r from hcs, List.length_map]); omega)
  have hcl2 : (cs.map CartonM.cells).length = cs.length := List.length_map ..
  refine G.v (rv_build2 rfl (.cons (cells_one zc) .nil) (.cons rfl rfl (.zero (.cons .nil)) .nil)) rfl ?_; refine zbo (fun bk4 _ => ?_); refine G.op0 (og_st0 rfl rfl rfl rfl rfl (by repeat (first | rfl | refine one_cons zc ?_)) (.zero (.cons (.cons .nil)))) (fun _ _ => ?_); refine za8 ?_; refine zaM ?_; refine G.seq ?_; refine zcv ?_; refine G.v (rv_loadW 4 rfl rfl rfl) rfl ?_; refine zd4 ?_; rintro ⟨vg, gs⟩ ⟨hvg, hgs⟩; try dsimp only
  have hgl : (gs.map gcell).length = (groupsOfM r).length := by rw [← hgs]; simp
  refine zc6 ?_; refine zbs ?_; refine G.nilRow 86 4 ?_; refine G.frontB3 bk4 rfl ?_; refine G.frontR1 (.slice none 0 0) rfl ?_; refine G.loopK (ι := Nat × Value) (ks := [1, 2, 4, 23]) (fun x => [(5, .int .i64 (spotsAt r x.1).2), (24, .int .i64 (x.1 : Int))]) (fun x => [.row x.2 86 4 ((spotsAt r x.1).1.map SpotM.cells), .blk bk4 33 [cv, x.2]]) (fun x => x.1 ≤ (groupsOfM r).length ∧ x.2.oneCell' = true ∧ (spotsAt r x.1).1.length ≤ 192 * x.1) (fun x => (groupsOfM r).length - x.1) (0, .slice none 0 0) (.cons rfl (.cons rfl (.cons rfl (.cons rfl (.nil))))) rfl ?_ ?_ ?_
  exact ⟨Nat.zero_le _, rfl, Nat.zero_le _⟩
  exact ⟨rfl, rfl, trivial⟩
  rintro ⟨k, sv⟩ ⟨hk, hosv, hsl⟩
  dsimp only at hk hosv hsl ⊢
  refine zbn ?_; refine G.condD rfl (fun hc => ?_) (fun hc => ?_)
  · simp only [hgl] at hc
    refine zdI ?_; refine zaG ?_; refine za2 (fun vl _ => ?_); refine zbf ?_; refine zcv ?_; refine zbr ?_; refine G.v (rv_len rfl zap) rfl ?_; refine zbs ?_; refine G.frontR0 vl rfl ?_; refine G.loopK (ι := Nat × Value) (ks := [1, 2, 4, 5, 6, 23, 24, 29, 30]) (fun x => [(7, x.2), (31, .int .i64 (x.1 : Int))]) (fun x => [.row x.2 71 4 ((boxesAt r ((cs.take x.1).map Prod.fst) k).map BoxM.cells)]) (fun x => x.1 ≤ cs.length) (fun x => cs.length - x.1) (0, vl) (.cons rfl (.cons rfl (.cons rfl (.cons rfl (.cons rfl (.cons rfl (.cons rfl (.cons rfl (.cons rfl (.nil)))))))))) rfl ?_ ?_ ?_
    exact Nat.zero_le _
    exact ⟨rfl, rfl, trivial⟩
    rintro ⟨i, bv⟩ hi
    dsimp only at hi ⊢
    have hbl := bx_len r ((cs.take i).map Prod.fst) k
    have hbl4 : (boxesAt r ((cs.map Prod.fst).take i) k).length ≤ i := Nat.le_trans (bx_len r ((cs.map Prod.fst).take i) k) zad
    have hbl2 : ((boxesAt r ((cs.take i).map Prod.fst) k).map BoxM.cells).length = (boxesAt r ((cs.take i).map Prod.fst) k).length := List.length_map ..
    have hbl3 : ((cs.take i).map Prod.fst).length = i := (by rw [List.length_map, List.length_take]; omega)
    by_cases hlt : i < cs.length
    case' pos => (obtain ⟨b, hb⟩ := get_of_lt hlt; have he := get_map hb CartonM.cells; have hov := hova b (List.mem_of_getElem? hb); have hbl9 := h48 b (List.mem_of_getElem? hb))
    case' neg => (have hall : cs.take i = cs := take_all hlt; rw [hall])
    all_goals
     refine zbn ?_; refine G.cond rfl (fun hc => ?_) (fun hc => ?_)
     · all_goals
        replace hc := of_decide_eq_true hc
        try (exfalso; omega)
        all_goals
         refine zdF ?_; refine G.v (rv_indexH rfl rfl zap rfl zp) rfl ?_; refine G.v (rv_loadEW rfl zap zp rfl) rfl ?_; refine zbo (fun bk9 _ => ?_); refine G.op0 (og_st0 rfl rfl rfl rfl rfl (by repeat (first | rfl | refine one_cons zx ?_)) (.zero (.cons (.cons (.cons .nil))))) (fun _ _ => ?_); refine zeW ?_; refine zbu ?_; refine zaH ?_; refine zcd ?_; refine za8 ?_; refine G.cond rfl (fun hc => ?_) (fun hc => ?_)
         · all_goals
            replace hc := of_decide_eq_true hc
            all_goals
             refine zbk ?_; refine G.v (rv_loadW 9 rfl rfl rfl) rfl ?_; refine zeB ?_; refine G.op (og_callV rfl rfl (fun w hh => boxOf_any (r := r) b w (Rd.stays h _ hh) (Rd.stays h2 _ hh) (Rd.stays h3 _ hh) (Subs.at (by exact Subs.owned 6 rfl _ hh) hb) zb)) rfl (fun _ _ => ?_); refine zaX (fun vx _ => ?_); refine zei (fun va _ => ?_); refine za7 ?_; refine zaT ?_; refine G.frontR2 va rfl ?_; refine G.keep1P 2 rfl ?_; refine G.backK (i + 1, va) 0 (by exact one_eqP (congrArg (fun z => Ch.row va 71 4 z) (bx_yes hb hc))) (.cons rfl (.cons rfl (.cons rfl (.cons rfl (.cons rfl (.cons rfl (.cons rfl (.cons rfl (.cons rfl (.nil)))))))))) ?_ ?_ ?_
             exact ⟨rfl, rfl, trivial⟩
             dsimp only; omega
             dsimp only; omega
         · all_goals
            replace hc := of_decide_eq_false hc
            all_goals
             refine G.skip ?_; refine zaT ?_; refine G.frontR1 bv rfl ?_; refine G.keep1P 1 rfl ?_; refine G.backK (i + 1, bv) 0 (by exact one_eqP (congrArg (fun z => Ch.row bv 71 4 z) (bx_no hb hc))) (.cons rfl (.cons rfl (.cons rfl (.cons rfl (.cons rfl (.cons rfl (.cons rfl (.cons rfl (.cons rfl (.nil)))))))))) ?_ ?_ ?_
             exact ⟨rfl, rfl, trivial⟩
             dsimp only; omega
             dsimp only; omega
     · all_goals
        replace hc := of_decide_eq_false hc
        try (exfalso; omega)
        all_goals
         refine zaR ?_; refine zcv ?_; refine zaW ?_; refine G.v (rv_loadP 8 rfl rfl (.skip (.one (.one (.one (.one .nil)))))) rfl ?_; refine zaH ?_; refine G.op (og_callF1 rfl rfl (fun w hh => implSpotsOf_any r.pal (l := boxesAt r (cs.map Prod.fst) k) w zO (Nat.le_trans (bx_len r (cs.map Prod.fst) k) z7))) rfl ?_; rintro vs hvs; try dsimp only
         obtain ⟨sp, hsp⟩ : ∃ sp, sp = spotsM r.pal (boxesAt r (cs.map Prod.fst) k) := ⟨_, rfl⟩
         rw [← hsp]
         have hspl : sp.length ≤ 192 := (by have := spots_le r.pal (boxesAt r (cs.map Prod.fst) k); have := bx_len r (cs.map Prod.fst) k; have : (cs.map Prod.fst).length = cs.length := List.length_map ..; rw [hsp]; omega)
         have hspl2 : (sp.map SpotM.cells).length = sp.length := List.length_map ..
         refine zdO ?_; refine G.op (og_callV rfl rfl (fun w hh => pallets_any (bs := sp) w zO)) rfl (fun _ _ => ?_); refine ze7 ?_; refine zdo ?_; refine zbs ?_; refine zfn ?_; refine G.loopK (ι := Nat × Value) (ks := [1, 2, 4, 5, 11, 23, 24, 52, 53]) (fun x => [(54, .int .i64 (x.1 : Int))]) (fun x => [.row x.2 86 4 (((spotsAt r k).1 ++ (sp.take x.1).map (movedM (spotsAt r k).2)).map SpotM.cells), .blk bk4 33 [cv, x.2]]) (fun x => x.1 ≤ sp.length ∧ x.2.oneCell' = true) (fun x => sp.length - x.1) (0, sv) (.cons rfl (.cons rfl (.cons rfl (.cons rfl (.cons rfl (.cons rfl (.cons rfl (.cons rfl (.cons rfl (.nil)))))))))) rfl ?_ ?_ ?_
         exact ⟨Nat.zero_le _, hosv⟩
         exact ⟨rfl, trivial⟩
         rintro ⟨j, sv2⟩ ⟨hj, hosv2⟩
         dsimp only at hj hosv2 ⊢
         have hl9 : (((spotsAt r k).1 ++ (sp.take j).map (movedM (spotsAt r k).2)).map SpotM.cells).length = (spotsAt r k).1.length + j := zah
         by_cases hltj : j < sp.length
         case' pos => (obtain ⟨s, hs⟩ := get_of_lt hltj; have he := get_map hs SpotM.cells)
         case' neg => (have hall2 : sp.take j = sp := take_all hltj)
         all_goals
          refine zbn ?_; refine G.cond rfl (fun hc => ?_) (fun hc => ?_)
          · all_goals
             replace hc := of_decide_eq_true hc
             try (exfalso; omega)
             all_goals
              refine zdF ?_; refine G.v (rv_indexH rfl rfl zn rfl zp) rfl ?_; refine G.v (rv_loadEW rfl zn zp rfl) rfl ?_; refine zbo (fun bk13 _ => ?_); refine zb3 (fun _ _ => ?_); refine zeW ?_; refine zbu ?_; refine zaH ?_; refine zeg ?_; refine zaW ?_; refine zed (fun _ _ => ?_); refine za8 ?_; refine G.region ?_; refine zbr ?_; refine zeB ?_; refine zaX (fun vy _ => ?_); refine zei (fun vb _ => ?_); refine G.know (fun w hw => by exact (Rd.owned 2 rfl (v := vb) w hw).one_) (fun hovb => ?_); refine zaW ?_; refine G.op0 (og_st3 rfl rfl rfl (cells_one zc) rfl (by repeat (first | rfl | refine one_cons zc ?_)) (.succ (.zero (.cons .nil)))) (fun _ _ => ?_); refine G.done ?_
              refine zaT ?_; refine G.frontB3 bk4 rfl ?_; refine G.frontR3 vb rfl ?_; refine G.keep2P 2 rfl ?_; refine G.backK (j + 1, vb) 0 (two_eqP (congrArg (fun z => Ch.row vb 86 4 z) (mv_next hs)) rfl) (.cons rfl (.cons rfl (.cons rfl (.cons rfl (.cons rfl (.cons rfl (.cons rfl (.cons rfl (.cons rfl (.nil)))))))))) ?_ ?_ ?_
              exact ⟨rfl, trivial⟩
              exact ⟨hltj, hovb⟩
              dsimp only; omega
          · all_goals
             replace hc := of_decide_eq_false hc
             try (exfalso; omega)
             all_goals
              refine zaR ?_; refine zd6 ?_; refine zeg ?_; refine za7 ?_; refine zaT ?_; refine G.frontB1 bk4 rfl ?_; refine G.frontR1 sv2 rfl ?_; refine G.keep2P 2 rfl ?_; refine G.backK (k + 1, sv2) 0 (two_eqP (congrArg (fun z : List SpotM => Ch.row sv2 86 4 (z.map SpotM.cells)) (by rw [plan_eq hcs hsp, hall2])) rfl) (.cons rfl (.cons rfl (.cons rfl (.cons rfl (.nil))))) ?_ ?_ ?_
              exact ⟨congrArg (fun z => some (Value.int .i64 z)) (by rw [plan_eq hcs hsp]), rfl, trivial⟩
              exact ⟨by (dsimp only; omega), hosv2, pl_len hsl⟩
              dsimp only; omega
  · simp only [hgl] at hc
    refine zaR ?_; refine G.seq ?_; refine zbI ?_; refine G.op0 (og_st6 rfl rfl rfl rfl rfl (by repeat (first | rfl | refine one_cons zc ?_)) (.zero (.cons (.cons .nil)))) (fun _ _ => ?_); refine zb6 ?_
    have hkG : k = (groupsOfM r).length := zb; (refine zfs ?_); (refine G.frontR1 sv rfl ?_); (refine G.frontR6 cv rfl ?_); (refine G.frontG6 (cs.map (sub CartonM.l)) rfl ?_); refine G.retL ((cv, cs), sv) ⟨hcv, hosv, hcs⟩ rfl (.cons (.cell 3 rfl rfl rfl) (.cons (.tmp rfl) .nil)) (by rw [decide_eq_true hyes]) (fun w hh => by rw [show planSpotsM r = (spotsAt r k).1 from by rw [planSpotsM, hkG]]; exact hh.sublist (List.Sublist.cons_cons _ (List.Sublist.cons_cons _ (List.Sublist.cons_cons _ (List.nil_sublist _))))); done
theorem splanOf_any : Fn Tryz.prog 10 [.agg (r.cells pv tv iv).toArray] w (fun x : (Value × List (CartonM × Value)) × Value => x.1.1.oneCell' = true ∧ x.2.oneCell' = true ∧ x.1.2.map Prod.fst = cartonsM r) (fun x => .tuple #[.agg [x.1.1, x.2].toArray, .bool (decide (classM r = 0))]) (fun x => [.grp 3 1 (x.1.2.map (sub CartonM.l)), .row x.1.1 54 3 (x.1.2.map CartonM.cells), .row x.2 86 4 ((planSpotsM r).map SpotM.cells)]) := by
  have hg4 := groups_len4 r
  have hcn := cartons_lenP r
  have hone1 := h.one_
  have hone2 := h2.one_
  have hone3 := h3.one_
  refine Fn.of (n := 84) Tryz.func10 rfl rfl ?_; refine zaP (fun bk1 _ => ?_); refine zbo (fun bk2 _ => ?_); refine zbf ?_; refine G.seq ?_; refine zbI ?_; refine zbx (fun _ _ => ?_); refine zdN ?_; refine G.condD rfl (fun hc => ?_) (fun hc => ?_)
  · have hno : ¬ classM r = 0 := (by clear h h2 h3; simp_all)
    refine zdB ?_; refine G.op0 (og_st0 rfl rfl rfl rfl rfl (by repeat (rfl)) (.zero (.cons (.cons .nil)))) (fun _ _ => ?_); refine zb6 ?_; refine G.thenR ?_
    (refine G.frontB0 bk2 rfl ?_); refine G.nilRow 86 4 ?_; refine G.nilRow 54 3 ?_; refine zb9 ?_; refine G.retL ((.slice none 0 0, []), .slice none 0 0) ⟨rfl, rfl, (cartons_no hno).symm⟩ rfl (.cons (.cell 3 rfl rfl rfl) (.cons (.tmp rfl) .nil)) (by rw [decide_eq_false hno]) (fun w hh => by rw [planSpots_no hno]; exact hh.sublist (List.Sublist.cons_cons _ (List.Sublist.cons_cons _ (List.Sublist.cons_cons _ (List.nil_sublist _))))); done
  have hyes : classM r = 0 := (by clear h h2 h3; simp_all)
  refine zcT ?_; refine G.seq ?_; refine zbI ?_; refine G.op (og_callF2 rfl rfl (fun w hh => scartonsOf_any (r := r) w (Rd.stays h _ hh) (Rd.stays h2 _ hh) (Rd.stays h3 _ hh))) rfl ?_; rintro ⟨cv, cs⟩ ⟨hcv, hcs⟩; try dsimp only
  refine zfx (fun hova => ?_)
  have h48 : ∀ c ∈ cs, c.1.l.length ≤ 48 := (fun c hc => cartons_elt (by rw [← show cs.map Prod.fst = cartonsM r from hcs]; exact List.mem_map_of_mem hc))
  have hcl : cs.length ≤ 192 := (by have e : cs.length = (cartonsM r).length := (by rw [← show cs.map Prod.fst = cartonsM r from hcs, List.length_map]); omega)
  have hcl2 : (cs.map CartonM.cells).length = cs.length := List.length_map ..
  refine G.v (rv_build2 rfl (.cons (cells_one zc) .nil) (.cons rfl rfl (.zero (.cons .nil)) .nil)) rfl ?_; refine zbo (fun bk4 _ => ?_); refine G.op0 (og_st0 rfl rfl rfl rfl rfl (by repeat (first | rfl | refine one_cons zc ?_)) (.zero (.cons (.cons .nil)))) (fun _ _ => ?_); refine za8 ?_; refine zaM ?_; refine zcv ?_; refine G.v (rv_loadW 4 rfl rfl rfl) rfl ?_; refine zd0 ?_; rintro ⟨vg, gs⟩ ⟨hvg, hgs⟩; try dsimp only
  have hgl : (gs.map gcell).length = (groupsOfM r).length := by rw [← hgs]; simp
  refine zd1 ?_; refine G.nilRow 86 4 ?_; refine G.frontB3 bk4 rfl ?_; refine G.frontR1 (.slice none 0 0) rfl ?_; refine G.loopK (ι := Nat × Value) (ks := [1, 2, 4, 6]) (fun x => [(5, .int .i64 (spotsAt r x.1).2), (7, .int .i64 (x.1 : Int))]) (fun x => [.row x.2 86 4 ((spotsAt r x.1).1.map SpotM.cells), .blk bk4 33 [cv, x.2]]) (fun x => x.1 ≤ (groupsOfM r).length ∧ x.2.oneCell' = true ∧ (spotsAt r x.1).1.length ≤ 192 * x.1) (fun x => (groupsOfM r).length - x.1) (0, .slice none 0 0) (.cons rfl (.cons rfl (.cons rfl (.cons rfl (.nil))))) rfl ?_ ?_ ?_
  exact ⟨Nat.zero_le _, rfl, Nat.zero_le _⟩
  exact ⟨rfl, rfl, trivial⟩
  rintro ⟨k, sv⟩ ⟨hk, hosv, hsl⟩
  dsimp only at hk hosv hsl ⊢
  refine zcr ?_; refine G.v (rv_len rfl zC) rfl ?_; refine zaO ?_; refine G.condD rfl (fun hc => ?_) (fun hc => ?_)
  · simp only [hgl] at hc
    refine zaY ?_; refine za2 (fun vl _ => ?_); refine zd1 ?_; refine G.frontR0 vl rfl ?_; refine G.loopK (ι := Nat × Value) (ks := [1, 2, 4, 5, 6, 7]) (fun x => [(8, x.2), (9, .int .i64 (x.1 : Int))]) (fun x => [.row x.2 71 4 ((boxesAt r ((cs.take x.1).map Prod.fst) k).map BoxM.cells)]) (fun x => x.1 ≤ cs.length) (fun x => cs.length - x.1) (0, vl) (.cons rfl (.cons rfl (.cons rfl (.cons rfl (.cons rfl (.cons rfl (.nil))))))) rfl ?_ ?_ ?_
    exact Nat.zero_le _
    exact ⟨rfl, rfl, trivial⟩
    rintro ⟨i, bv⟩ hi
    dsimp only at hi ⊢
    have hbl := bx_len r ((cs.take i).map Prod.fst) k
    have hbl4 : (boxesAt r ((cs.map Prod.fst).take i) k).length ≤ i := Nat.le_trans (bx_len r ((cs.map Prod.fst).take i) k) zad
    have hbl2 : ((boxesAt r ((cs.take i).map Prod.fst) k).map BoxM.cells).length = (boxesAt r ((cs.take i).map Prod.fst) k).length := List.length_map ..
    have hbl3 : ((cs.take i).map Prod.fst).length = i := (by rw [List.length_map, List.length_take]; omega)
    by_cases hlt : i < cs.length
    case' pos => (obtain ⟨b, hb⟩ := get_of_lt hlt; have he := get_map hb CartonM.cells; have hov := hova b (List.mem_of_getElem? hb); have hbl9 := h48 b (List.mem_of_getElem? hb))
    case' neg => (have hall : cs.take i = cs := take_all hlt; rw [hall])
    all_goals
     refine zee ?_; refine zbr ?_; refine G.v (rv_len rfl zap) rfl ?_; refine zaO ?_; refine G.cond rfl (fun hc => ?_) (fun hc => ?_)
     · all_goals
        replace hc := of_decide_eq_true hc
        try (exfalso; omega)
        all_goals
         refine zdF ?_; refine zbr ?_; refine zaH ?_; refine G.v (rv_indexH rfl rfl zap rfl zp) rfl ?_; refine zca ?_; refine G.v (rv_loadE rfl zap zp rfl) rfl ?_; refine zaH ?_; refine zcd ?_; refine za8 ?_; refine G.cond rfl (fun hc => ?_) (fun hc => ?_)
         · all_goals
            replace hc := of_decide_eq_true hc
            all_goals
             refine G.frontR0 bv rfl ?_; refine G.drawD1 [10] rfl ?_; refine zdu ?_; refine GE.q2 1 rfl za rfl (qg_runs (rv_loadW 7 rfl rfl rfl)) zl rfl ?_; refine GE.q2 2 rfl za rfl (qg_runs (rv_field rfl)) zl rfl ?_; refine GE.q2 3 rfl za rfl (qg_runs (rv_load1 1 rfl rfl rfl)) zl rfl ?_; refine GE.ol 4 za rfl rfl (og_runs (rv_move rfl)) rfl zj (fun _ _ => ?_); refine GE.ol 5 za rfl rfl (og_runs (rv_indexH rfl rfl zap rfl zp)) rfl zj (fun _ _ => ?_); refine GE.ol 6 za rfl rfl (og_runs (rv_loadEW rfl zap zp rfl)) rfl zj (fun _ _ => ?_); refine GE.ol 7 za rfl rfl (og_callV rfl rfl (fun w hh => sboxOf_any (r := r) b w (Rd.stays h _ hh) (Rd.stays h2 _ hh) (Rd.stays h3 _ hh) (Subs.at (by exact Subs.owned 5 rfl _ hh) hb) zb)) rfl zj (fun _ _ => ?_); refine zdd (fun vx _ => ?_)
             refine zcl (fun va _ => ?_); refine GE.t 10 za rfl rfl rfl (og_runs (rv_assign rfl)) rfl (fun _ _ => ?_); refine zb2 ?_; refine zaJ ?_; refine G.frontR1 va rfl ?_; refine G.keep1P 1 rfl ?_; refine G.backK (i + 1, va) 0 (by exact one_eqP (congrArg (fun z => Ch.row va 71 4 z) (bx_yes hb hc))) (.cons rfl (.cons rfl (.cons rfl (.cons rfl (.cons rfl (.cons rfl (.nil))))))) ?_ ?_ ?_
             exact ⟨rfl, rfl, trivial⟩
             dsimp only; omega
             dsimp only; omega
         · all_goals
            replace hc := of_decide_eq_false hc
            all_goals
             refine zfT ?_; refine G.frontR0 bv rfl ?_; refine G.keep1P 0 rfl ?_; refine G.backK (i + 1, bv) 0 (by exact one_eqP (congrArg (fun z => Ch.row bv 71 4 z) (bx_no hb hc))) (.cons rfl (.cons rfl (.cons rfl (.cons rfl (.cons rfl (.cons rfl (.nil))))))) ?_ ?_ ?_
             exact ⟨rfl, rfl, trivial⟩
             dsimp only; omega
             dsimp only; omega
     · all_goals
        replace hc := of_decide_eq_false hc
        try (exfalso; omega)
        all_goals
         refine zaR ?_; refine zcv ?_; refine zaW ?_; refine G.v (rv_loadP 8 rfl rfl (.skip (.one (.one (.one (.one .nil)))))) rfl ?_; refine zaH ?_; refine G.op (og_callF1 rfl rfl (fun w hh => specSpotsOf_any r.pal (l := boxesAt r (cs.map Prod.fst) k) w zO (Nat.le_trans (bx_len r (cs.map Prod.fst) k) z7))) rfl ?_; rintro vs hvs; try dsimp only
         obtain ⟨sp, hsp⟩ : ∃ sp, sp = spotsM r.pal (boxesAt r (cs.map Prod.fst) k) := ⟨_, rfl⟩
         rw [← hsp]
         have hspl : sp.length ≤ 192 := (by have := spots_le r.pal (boxesAt r (cs.map Prod.fst) k); have := bx_len r (cs.map Prod.fst) k; have : (cs.map Prod.fst).length = cs.length := List.length_map ..; rw [hsp]; omega)
         have hspl2 : (sp.map SpotM.cells).length = sp.length := List.length_map ..
         refine zd1 ?_; refine zfn ?_; refine G.loopK (ι := Nat × Value) (ks := [1, 2, 4, 5, 6, 7, 10]) (fun x => [(11, .int .i64 (x.1 : Int))]) (fun x => [.row x.2 86 4 (((spotsAt r k).1 ++ (sp.take x.1).map (movedM (spotsAt r k).2)).map SpotM.cells), .blk bk4 33 [cv, x.2]]) (fun x => x.1 ≤ sp.length ∧ x.2.oneCell' = true) (fun x => sp.length - x.1) (0, sv) (.cons rfl (.cons rfl (.cons rfl (.cons rfl (.cons rfl (.cons rfl (.cons rfl (.nil)))))))) rfl ?_ ?_ ?_
         exact ⟨Nat.zero_le _, hosv⟩
         exact ⟨rfl, trivial⟩
         rintro ⟨j, sv2⟩ ⟨hj, hosv2⟩
         dsimp only at hj hosv2 ⊢
         have hl9 : (((spotsAt r k).1 ++ (sp.take j).map (movedM (spotsAt r k).2)).map SpotM.cells).length = (spotsAt r k).1.length + j := zah
         by_cases hltj : j < sp.length
         case' pos => (obtain ⟨s, hs⟩ := get_of_lt hltj; have he := get_map hs SpotM.cells)
         case' neg => (have hall2 : sp.take j = sp := take_all hltj)
         all_goals
          refine zcr ?_; refine zdD ?_; refine zaO ?_; refine G.cond rfl (fun hc => ?_) (fun hc => ?_)
          · all_goals
             replace hc := of_decide_eq_true hc
             try (exfalso; omega)
             all_goals
              refine zaY ?_; refine zaV ?_; refine G.v (rv_indexH rfl rfl zn rfl zp) rfl ?_; refine G.v (rv_loadEW rfl zn zp rfl) rfl ?_; refine zbo (fun bk12 _ => ?_); refine zb3 (fun _ _ => ?_); refine zeW ?_; refine zbu ?_; refine zaH ?_; refine zeg ?_; refine zaW ?_; refine zed (fun _ _ => ?_); refine za8 ?_; refine G.region ?_; refine zbr ?_; refine zeB ?_; refine zaX (fun vy _ => ?_); refine zei (fun vb _ => ?_); refine G.know (fun w hw => by exact (Rd.owned 2 rfl (v := vb) w hw).one_) (fun hovb => ?_); refine zaW ?_
              refine G.op0 (og_st3 rfl rfl rfl (cells_one zc) rfl (by repeat (first | rfl | refine one_cons zc ?_)) (.succ (.zero (.cons .nil)))) (fun _ _ => ?_); refine G.done ?_; refine zaJ ?_; refine G.frontB3 bk4 rfl ?_; refine G.frontR3 vb rfl ?_; refine G.keep2P 2 rfl ?_; refine G.backK (j + 1, vb) 0 (two_eqP (congrArg (fun z => Ch.row vb 86 4 z) (mv_next hs)) rfl) (.cons rfl (.cons rfl (.cons rfl (.cons rfl (.cons rfl (.cons rfl (.cons rfl (.nil)))))))) ?_ ?_ ?_
              exact ⟨rfl, trivial⟩
              exact ⟨hltj, hovb⟩
              dsimp only; omega
          · all_goals
             replace hc := of_decide_eq_false hc
             try (exfalso; omega)
             all_goals
              refine zaR ?_; refine zd6 ?_; refine G.op (og_callV rfl rfl (fun w hh => spallets_any (bs := sp) w zac)) rfl (fun _ _ => ?_); refine zeg ?_; refine za7 ?_; refine zaJ ?_; refine G.frontB1 bk4 rfl ?_; refine G.frontR1 sv2 rfl ?_; refine G.keep2P 2 rfl ?_; refine G.backK (k + 1, sv2) 0 (two_eqP (congrArg (fun z : List SpotM => Ch.row sv2 86 4 (z.map SpotM.cells)) (by rw [plan_eq hcs hsp, hall2])) rfl) (.cons rfl (.cons rfl (.cons rfl (.cons rfl (.nil))))) ?_ ?_ ?_
              exact ⟨congrArg (fun z => some (Value.int .i64 z)) (by rw [plan_eq hcs hsp]), rfl, trivial⟩
              exact ⟨by (dsimp only; omega), hosv2, pl_len hsl⟩
              dsimp only; omega
  · simp only [hgl] at hc
    refine zaR ?_; refine G.seq ?_; refine zbI ?_; refine G.op0 (og_st6 rfl rfl rfl rfl rfl (by repeat (first | rfl | refine one_cons zc ?_)) (.zero (.cons (.cons .nil)))) (fun _ _ => ?_); refine zb6 ?_
    have hkG : k = (groupsOfM r).length := zb; (refine zfs ?_); (refine G.frontR1 sv rfl ?_); (refine G.frontR6 cv rfl ?_); (refine G.frontG6 (cs.map (sub CartonM.l)) rfl ?_); refine G.retL ((cv, cs), sv) ⟨hcv, hosv, hcs⟩ rfl (.cons (.cell 3 rfl rfl rfl) (.cons (.tmp rfl) .nil)) (by rw [decide_eq_true hyes]) (fun w hh => by rw [show planSpotsM r = (spotsAt r k).1 from by rw [planSpotsM, hkG]]; exact hh.sublist (List.Sublist.cons_cons _ (List.Sublist.cons_cons _ (List.Sublist.cons_cons _ (List.nil_sublist _))))); done
end
end Go.Proofs.YtglpgohilfoecaaGreat
