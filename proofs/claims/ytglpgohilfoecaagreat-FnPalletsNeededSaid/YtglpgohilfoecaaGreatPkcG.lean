/-
  Texts of this proof, one behind the other: PlanW, ApartLaw, ApartLaw2, NeedLaw.
-/
import Derived.Test.YtglpgohilfoecaaGreatPkcE
import Derived.Test.YtglpgohilfoecaaGreatPkcF
set_option linter.unusedVariables false
set_option linter.unusedSimpArgs false

/-
  The plan of an order: both ways.
-/
namespace Go.Proofs.YtglpgohilfoecaaGreat
open Go.RowKit
/-- A place, some pallets on. -/
def movedM (a : Int) (s : SpotM) : SpotM := ⟨IntKind.i64.wrap (s.p + a), s.x, s.y, s.z⟩
/-- The boxes of a group's cartons. -/
def boxesAt (r : ReqM) (cs : List CartonM) (k : Nat) : List BoxM := (cs.filter fun c => decide (c.g = (k : Int))).map (boxOfM r)
def planStep (r : ReqM) (st : List SpotM × Int) (k : Nat) : List SpotM × Int :=
  (st.1 ++ (spotsM r.pal (boxesAt r (cartonsM r) k)).map (movedM st.2), IntKind.i64.wrap (st.2 + palletsM (spotsM r.pal (boxesAt r (cartonsM r) k))))
def spotsAt (r : ReqM) (n : Nat) : List SpotM × Int := (List.range n).foldl (planStep r) ([], 0)
/-- The places of an order's plan. -/
def planSpotsM (r : ReqM) : List SpotM := (spotsAt r (groupsOfM r).length).1
theorem spotsAt_next (r : ReqM) (k : Nat) : spotsAt r (k + 1) = planStep r (spotsAt r k) k := by
  rw [spotsAt, List.range_succ, List.foldl_append]; rfl
theorem cartons_no {r : ReqM} (h : ¬ classM r = 0) : cartonsM r = [] := by rw [cartonsM, groupsOf_no h]; rfl
theorem planSpots_no {r : ReqM} (h : ¬ classM r = 0) : planSpotsM r = [] := by rw [planSpotsM, groupsOf_no h]; rfl
theorem cartons_lenP (r : ReqM) : (cartonsM r).length ≤ 192 := by
  have : ∀ k, ((List.range k).flatMap (cartonsAt r)).length ≤ 48 * k := by
    intro k
    induction k with
    | zero => simp
    | succ k ih =>
      rw [cartons_next, List.length_append, cartonsAt, List.length_map]
      have := wayM_len r (unitsI r k)
      have := unitsI_len r k
      omega
  have h1 := this (groupsOfM r).length
  have h2 := groups_len4 r
  rw [cartonsM]; omega
theorem bx_yes {r : ReqM} {cs : List (CartonM × Value)} {k i : Nat} {b : CartonM × Value} (hb : cs[i]? = some b) (hg : b.1.g = (k : Int)) : (boxesAt r ((cs.take i).map Prod.fst) k).map BoxM.cells ++ [(boxOfM r b.1).cells] = (boxesAt r ((cs.take (i + 1)).map Prod.fst) k).map BoxM.cells := by
  rw [boxesAt, boxesAt, List.take_add_one, hb, List.map_append, List.filter_append, List.map_append, List.map_append]
  simp [hg]
theorem bx_no {r : ReqM} {cs : List (CartonM × Value)} {k i : Nat} {b : CartonM × Value} (hb : cs[i]? = some b) (hg : ¬ b.1.g = (k : Int)) : (boxesAt r ((cs.take i).map Prod.fst) k).map BoxM.cells = (boxesAt r ((cs.take (i + 1)).map Prod.fst) k).map BoxM.cells := by
  rw [boxesAt, boxesAt, List.take_add_one, hb, List.map_append, List.filter_append, List.map_append, List.map_append]
  simp [hg]
theorem bx_len (r : ReqM) (cs : List CartonM) (k : Nat) : (boxesAt r cs k).length ≤ cs.length := by rw [boxesAt, List.length_map]; exact List.length_filter_le _ _
theorem pl_len {r : ReqM} {k : Nat} (hsl : (spotsAt r k).1.length ≤ 192 * k) : (spotsAt r (k + 1)).1.length ≤ 192 * (k + 1) := by
  rw [spotsAt_next, planStep]
  simp only [List.length_append, List.length_map]
  have := spots_le r.pal (boxesAt r (cartonsM r) k)
  have := bx_len r (cartonsM r) k
  have := cartons_lenP r
  omega
theorem planSpots_len (r : ReqM) : (planSpotsM r).length ≤ 768 := by
  have : ∀ k, (spotsAt r k).1.length ≤ 192 * k := by
    intro k
    induction k with
    | zero => exact Nat.zero_le _
    | succ k ih => exact pl_len ih
  have h1 := this (groupsOfM r).length
  have h2 := groups_len4 r
  rw [planSpotsM]; omega
theorem plan_eq {r : ReqM} {cs : List (CartonM × Value)} {k : Nat} {sp : List SpotM} (hcs : cs.map Prod.fst = cartonsM r) (hsp : sp = spotsM r.pal (boxesAt r (cs.map Prod.fst) k)) : spotsAt r (k + 1) = ((spotsAt r k).1 ++ sp.map (movedM (spotsAt r k).2), IntKind.i64.wrap ((spotsAt r k).2 + palletsM sp)) := by
  rw [spotsAt_next, planStep, hsp, hcs]
theorem mv_next {ss sp : List SpotM} {a : Int} {j : Nat} {s : SpotM} (hs : sp[j]? = some s) : (ss ++ (sp.take j).map (movedM a)).map SpotM.cells ++ [[Value.int .i64 (IntKind.i64.wrap (s.p + a)), .int .i64 s.x, .int .i64 s.y, .int .i64 s.z]] = (ss ++ (sp.take (j + 1)).map (movedM a)).map SpotM.cells := by
  rw [List.take_add_one, hs, List.map_append, List.map_append, List.map_append, List.map_append]
  simp [movedM, SpotM.cells]
theorem one_eqP {a a' : Ch} {F : List Ch} (h1 : a = a') : a :: F = [a'] ++ F := by subst h1; rfl
theorem two_eqP {a a' b b' : Ch} {F : List Ch} (h1 : a = a') (h2 : b = b') : a :: b :: F = [a', b'] ++ F := by subst h1 h2; rfl
theorem G.keep1P {n : Nat} {w0 : World} {fr : Fr} {H : List Ch} (m : Nat) {c1 : Ch} {J : List Ch} {K : Act → World → Prop} (hH : H = c1 :: J) (h : G n w0 fr (c1 :: J.drop m) K) : G n w0 fr H K := by
  subst hH
  exact G.heap (fun w hh => hh.sublist (List.Sublist.cons_cons _ (List.drop_sublist _ _))) h
theorem G.keep2P {n : Nat} {w0 : World} {fr : Fr} {H : List Ch} (m : Nat) {c1 c2 : Ch} {J : List Ch} {K : Act → World → Prop} (hH : H = c1 :: c2 :: J) (h : G n w0 fr (c1 :: c2 :: J.drop m) K) : G n w0 fr H K := by
  subst hH
  exact G.heap (fun w hh => hh.sublist (List.Sublist.cons_cons _ (List.Sublist.cons_cons _ (List.drop_sublist _ _)))) h
attribute [local irreducible] Go.wpList Go.Code.wp Go.Exit.then Go.Exit.inBlock Go.bodyPost Go.Calls pE pB G RunsV FnV Fn FnM
set_option maxRecDepth 100000
set_option maxHeartbeats 4000000
section
variable {r : ReqM} {pv tv iv : Value} (w : World) (h : Rd w pv 2 (r.pairs.map PairM.cells)) (h2 : Rd w tv 7 (r.types.map TypeM.cells)) (h3 : Rd w iv 7 (r.items.map ItemM.cells))
include h h2 h3
theorem planOf_any : Fn Tryz.prog 12 [.agg (r.cells pv tv iv).toArray] w (fun x : (Value × List (CartonM × Value)) × Value => x.1.1.oneCell' = true ∧ x.2.oneCell' = true ∧ x.1.2.map Prod.fst = cartonsM r) (fun x => .tuple #[.agg [x.1.1, x.2].toArray, .bool (decide (classM r = 0))]) (fun x => [.grp 3 1 (x.1.2.map (sub CartonM.l)), .row x.1.1 54 3 (x.1.2.map CartonM.cells), .row x.2 86 4 ((planSpotsM r).map SpotM.cells)]) := by
  have hg4 := groups_len4 r
  have hcn := cartons_lenP r
  have hone1 := h.one_
  have hone2 := h2.one_
  have hone3 := h3.one_
  refine Fn.of (n := 75) Tryz.func12 rfl rfl ?_; refine zaU (fun bk1 _ => ?_); refine zbu (fun bk2 _ => ?_); refine zbk ?_; refine G.seq ?_; refine zbM ?_; refine zbN (fun _ _ => ?_); refine zcI ?_; refine G.cond rfl (fun hc => ?_) (fun hc => ?_)
  · have hno : ¬ classM r = 0 := (by clear h h2 h3; simp_all)
    refine zdE ?_; refine G.op0 (og_st0 rfl rfl rfl rfl rfl (by repeat (rfl)) (.zero (.cons (.cons .nil)))) (fun _ _ => ?_); refine zco ?_; refine G.thenR ?_
    (refine G.frontB0 bk2 rfl ?_); refine G.nilRow 86 4 ?_; refine G.nilRow 54 3 ?_; refine zcf ?_; refine G.retL ((.slice none 0 0, []), .slice none 0 0) ⟨rfl, rfl, (cartons_no hno).symm⟩ rfl (.cons (.cell 3 rfl rfl rfl) (.cons (.tmp rfl) .nil)) (by rw [decide_eq_false hno]) (fun w hh => by rw [planSpots_no hno]; exact hh.sublist (List.Sublist.cons_cons _ (List.Sublist.cons_cons _ (List.Sublist.cons_cons _ (List.nil_sublist _))))); done
  have hyes : classM r = 0 := (by clear h h2 h3; simp_all)
  refine zc1 ?_; refine G.seq ?_; refine zbM ?_; refine G.op (og_callF2 rfl rfl (fun w hh => cartonsOf_any (r := r) w (Rd.stays h _ hh) (Rd.stays h2 _ hh) (Rd.stays h3 _ hh))) rfl ?_; rintro ⟨cv, cs⟩ ⟨hcv, hcs⟩; try dsimp only
  refine zfB (fun hova => ?_)
  have h48 : ∀ c ∈ cs, c.1.l.length ≤ 48 := (fun c hc => cartons_elt zap)
  have hcl : cs.length ≤ 192 := (by have e : cs.length = (cartonsM r).length := zaw; omega)
  have hcl2 : (cs.map CartonM.cells).length = cs.length := List.length_map ..
  refine G.v (rv_build2 rfl (.cons (cells_one zc) .nil) (.cons rfl rfl (.zero (.cons .nil)) .nil)) rfl ?_; refine zbu (fun bk4 _ => ?_); refine G.op0 (og_st0 rfl rfl rfl rfl rfl (by repeat (first | rfl | refine one_cons zc ?_)) (.zero (.cons (.cons .nil)))) (fun _ _ => ?_); refine zbe ?_; refine zaR ?_; refine G.seq ?_; refine zct ?_; refine G.v (rv_loadW 4 rfl rfl rfl) rfl ?_; refine zeb ?_; rintro ⟨vg, gs⟩ ⟨hvg, hgs⟩; try dsimp only
  have hgl : (gs.map gcell).length = (groupsOfM r).length := by rw [← hgs]; simp
  refine zc0 ?_; refine zby ?_; refine G.nilRow 86 4 ?_; refine G.frontB3 bk4 rfl ?_; refine G.frontR1 (.slice none 0 0) rfl ?_; refine G.loopK (ι := Nat × Value) (ks := [1, 2, 4, 23]) (fun x => [(5, .int .i64 (spotsAt r x.1).2), (24, .int .i64 (x.1 : Int))]) (fun x => [.row x.2 86 4 ((spotsAt r x.1).1.map SpotM.cells), .blk bk4 33 [cv, x.2]]) (fun x => x.1 ≤ (groupsOfM r).length ∧ x.2.oneCell' = true ∧ (spotsAt r x.1).1.length ≤ 192 * x.1) (fun x => (groupsOfM r).length - x.1) (0, .slice none 0 0) (.cons rfl (.cons rfl (.cons rfl (.cons rfl (.nil))))) rfl ?_ ?_ ?_
  exact ⟨Nat.zero_le _, rfl, Nat.zero_le _⟩
  exact ⟨rfl, rfl, trivial⟩
  rintro ⟨k, sv⟩ ⟨hk, hosv, hsl⟩
  dsimp only at hk hosv hsl ⊢
  refine zbs ?_; refine G.condD rfl (fun hc => ?_) (fun hc => ?_)
  · simp only [hgl] at hc
    refine zee ?_; refine zaL ?_; refine za6 (fun vl _ => ?_); refine zbk ?_; refine zct ?_; refine zbw ?_; refine G.v (rv_len rfl zaa) rfl ?_; refine zby ?_; refine G.frontR0 vl rfl ?_; refine G.loopK (ι := Nat × Value) (ks := [1, 2, 4, 5, 6, 23, 24, 29, 30]) (fun x => [(7, x.2), (31, .int .i64 (x.1 : Int))]) (fun x => [.row x.2 71 4 ((boxesAt r ((cs.take x.1).map Prod.fst) k).map BoxM.cells)]) (fun x => x.1 ≤ cs.length) (fun x => cs.length - x.1) (0, vl) (.cons rfl (.cons rfl (.cons rfl (.cons rfl (.cons rfl (.cons rfl (.cons rfl (.cons rfl (.cons rfl (.nil)))))))))) rfl ?_ ?_ ?_
    exact Nat.zero_le _
    exact ⟨rfl, rfl, trivial⟩
    rintro ⟨i, bv⟩ hi
    dsimp only at hi ⊢
    have hbl := bx_len r ((cs.take i).map Prod.fst) k
    have hbl4 : (boxesAt r ((cs.map Prod.fst).take i) k).length ≤ i := Nat.le_trans (bx_len r ((cs.map Prod.fst).take i) k) zad
    have hbl2 : ((boxesAt r ((cs.take i).map Prod.fst) k).map BoxM.cells).length = (boxesAt r ((cs.take i).map Prod.fst) k).length := List.length_map ..
    have hbl3 : ((cs.take i).map Prod.fst).length = i := (by rw [List.length_map, List.length_take]; omega)
    by_cases hlt : i < cs.length
    case' pos => (obtain ⟨b, hb⟩ := get_of_lt hlt; have he := get_map hb CartonM.cells; have hov := hova b (List.mem_of_getElem? hb); have hbl9 := h48 b (List.mem_of_getElem? hb))
    case' neg => (have hall : cs.take i = cs := take_all hlt; rw [hall])
    all_goals
     refine zbs ?_; refine G.cond rfl (fun hc => ?_) (fun hc => ?_)
     · all_goals
        replace hc := of_decide_eq_true hc
        try (exfalso; omega)
        all_goals
         refine zdx ?_; refine G.v (rv_indexH rfl rfl zaa rfl zq) rfl ?_; refine G.v (rv_loadEW rfl zaa zq rfl) rfl ?_; refine zbu (fun bk9 _ => ?_); refine G.op0 (og_st0 rfl rfl rfl rfl rfl (by repeat (first | rfl | refine one_cons zC ?_)) (.zero (.cons (.cons (.cons .nil))))) (fun _ _ => ?_); refine ze1 ?_; refine zbx ?_; refine zaM ?_; refine zdy ?_; refine G.cond rfl (fun hc => ?_) (fun hc => ?_)
         · all_goals
            replace hc := of_decide_eq_true hc
            all_goals
             refine zbq ?_; refine G.v (rv_loadW 9 rfl rfl rfl) rfl ?_; refine ze6 ?_; refine G.op (og_callV rfl rfl (fun w hh => boxOf_any (r := r) b w (Rd.stays h _ hh) (Rd.stays h2 _ hh) (Rd.stays h3 _ hh) (Subs.at (by exact Subs.owned 6 rfl _ hh) hb) zb)) rfl (fun _ _ => ?_); refine za2 (fun vx _ => ?_); refine zdI (fun va _ => ?_); refine zbb ?_; refine zaX ?_; refine G.frontR2 va rfl ?_; refine G.keep1P 2 rfl ?_; refine G.backK (i + 1, va) 0 (by exact one_eqP (congrArg (fun z => Ch.row va 71 4 z) (bx_yes hb hc))) (.cons rfl (.cons rfl (.cons rfl (.cons rfl (.cons rfl (.cons rfl (.cons rfl (.cons rfl (.cons rfl (.nil)))))))))) ?_ ?_ ?_
             exact ⟨rfl, rfl, trivial⟩
             dsimp only; omega
             dsimp only; omega
         · all_goals
            replace hc := of_decide_eq_false hc
            all_goals
             refine G.skip ?_; refine zaX ?_; refine G.frontR1 bv rfl ?_; refine G.keep1P 1 rfl ?_; refine G.backK (i + 1, bv) 0 (by exact one_eqP (congrArg (fun z => Ch.row bv 71 4 z) (bx_no hb hc))) (.cons rfl (.cons rfl (.cons rfl (.cons rfl (.cons rfl (.cons rfl (.cons rfl (.cons rfl (.cons rfl (.nil)))))))))) ?_ ?_ ?_
             exact ⟨rfl, rfl, trivial⟩
             dsimp only; omega
             dsimp only; omega
     · all_goals
        replace hc := of_decide_eq_false hc
        try (exfalso; omega)
        all_goals
         refine zaW ?_; refine zct ?_; refine za1 ?_; refine G.v (rv_loadP 8 rfl rfl (.skip (.one (.one (.one (.one .nil)))))) rfl ?_; refine zaM ?_; refine G.op (og_callF1 rfl rfl (fun w hh => implSpotsOf_any r.pal (l := boxesAt r (cs.map Prod.fst) k) w zP (Nat.le_trans (bx_len r (cs.map Prod.fst) k) zY))) rfl ?_; rintro vs hvs; try dsimp only
         obtain ⟨sp, hsp⟩ : ∃ sp, sp = spotsM r.pal (boxesAt r (cs.map Prod.fst) k) := ⟨_, rfl⟩
         rw [← hsp]
         have hspl : sp.length ≤ 192 := (by have := spots_le r.pal (boxesAt r (cs.map Prod.fst) k); have := bx_len r (cs.map Prod.fst) k; have : (cs.map Prod.fst).length = cs.length := List.length_map ..; rw [hsp]; omega)
         have hspl2 : (sp.map SpotM.cells).length = sp.length := List.length_map ..
         refine zdS ?_; refine G.op (og_callV rfl rfl (fun w hh => pallets_any (bs := sp) w zP)) rfl (fun _ _ => ?_); refine zfb ?_; refine zde ?_; refine zby ?_; refine zfq ?_; refine G.loopK (ι := Nat × Value) (ks := [1, 2, 4, 5, 11, 23, 24, 52, 53]) (fun x => [(54, .int .i64 (x.1 : Int))]) (fun x => [.row x.2 86 4 (((spotsAt r k).1 ++ (sp.take x.1).map (movedM (spotsAt r k).2)).map SpotM.cells), .blk bk4 33 [cv, x.2]]) (fun x => x.1 ≤ sp.length ∧ x.2.oneCell' = true) (fun x => sp.length - x.1) (0, sv) (.cons rfl (.cons rfl (.cons rfl (.cons rfl (.cons rfl (.cons rfl (.cons rfl (.cons rfl (.cons rfl (.nil)))))))))) rfl ?_ ?_ ?_
         exact ⟨Nat.zero_le _, hosv⟩
         exact ⟨rfl, trivial⟩
         rintro ⟨j, sv2⟩ ⟨hj, hosv2⟩
         dsimp only at hj hosv2 ⊢
         have hl9 : (((spotsAt r k).1 ++ (sp.take j).map (movedM (spotsAt r k).2)).map SpotM.cells).length = (spotsAt r k).1.length + j := z8
         by_cases hltj : j < sp.length
         case' pos => (obtain ⟨s, hs⟩ := get_of_lt hltj; have he := get_map hs SpotM.cells)
         case' neg => (have hall2 : sp.take j = sp := take_all hltj)
         all_goals
          refine zbs ?_; refine G.cond rfl (fun hc => ?_) (fun hc => ?_)
          · all_goals
             replace hc := of_decide_eq_true hc
             try (exfalso; omega)
             all_goals
              refine zdx ?_; refine G.v (rv_indexH rfl rfl zm rfl zq) rfl ?_; refine G.v (rv_loadEW rfl zm zq rfl) rfl ?_; refine zbu (fun bk13 _ => ?_); refine zbT (fun _ _ => ?_); refine ze1 ?_; refine zbx ?_; refine zaM ?_; refine zej ?_; refine za1 ?_; refine zei (fun _ _ => ?_); refine zbe ?_; refine G.region ?_; refine zbw ?_; refine ze6 ?_; refine za2 (fun vy _ => ?_); refine zdI (fun vb _ => ?_); refine G.know (fun w hw => by exact (Rd.owned 2 rfl (v := vb) w hw).one_) (fun hovb => ?_); refine za1 ?_; refine G.op0 (og_st3 rfl rfl rfl (cells_one zc) rfl (by repeat (first | rfl | refine one_cons zc ?_)) (.succ (.zero (.cons .nil)))) (fun _ _ => ?_); refine G.done ?_
              refine zaX ?_; refine G.frontB3 bk4 rfl ?_; refine G.frontR3 vb rfl ?_; refine G.keep2P 2 rfl ?_; refine G.backK (j + 1, vb) 0 (two_eqP (congrArg (fun z => Ch.row vb 86 4 z) (mv_next hs)) rfl) (.cons rfl (.cons rfl (.cons rfl (.cons rfl (.cons rfl (.cons rfl (.cons rfl (.cons rfl (.cons rfl (.nil)))))))))) ?_ ?_ ?_
              exact ⟨rfl, trivial⟩
              exact ⟨hltj, hovb⟩
              dsimp only; omega
          · all_goals
             replace hc := of_decide_eq_false hc
             try (exfalso; omega)
             all_goals
              refine zaW ?_; refine zdR ?_; refine zej ?_; refine zbb ?_; refine zaX ?_; refine G.frontB1 bk4 rfl ?_; refine G.frontR1 sv2 rfl ?_; refine G.keep2P 2 rfl ?_; refine G.backK (k + 1, sv2) 0 (two_eqP (congrArg (fun z : List SpotM => Ch.row sv2 86 4 (z.map SpotM.cells)) (by rw [plan_eq hcs hsp, hall2])) rfl) (.cons rfl (.cons rfl (.cons rfl (.cons rfl (.nil))))) ?_ ?_ ?_
              exact ⟨congrArg (fun z => some (Value.int .i64 z)) (by rw [plan_eq hcs hsp]), rfl, trivial⟩
              exact ⟨by (dsimp only; omega), hosv2, pl_len hsl⟩
              dsimp only; omega
  · simp only [hgl] at hc
    refine zaW ?_; refine G.seq ?_; refine zbM ?_; refine G.op0 (og_st6 rfl rfl rfl rfl rfl (by repeat (first | rfl | refine one_cons zc ?_)) (.zero (.cons (.cons .nil)))) (fun _ _ => ?_); refine zco ?_
    have hkG : k = (groupsOfM r).length := zb; (refine zfv ?_); (refine G.frontR1 sv rfl ?_); (refine G.frontR6 cv rfl ?_); (refine G.frontG6 (cs.map (sub CartonM.l)) rfl ?_); refine G.retL ((cv, cs), sv) ⟨hcv, hosv, hcs⟩ rfl (.cons (.cell 3 rfl rfl rfl) (.cons (.tmp rfl) .nil)) (by rw [decide_eq_true hyes]) (fun w hh => by rw [show planSpotsM r = (spotsAt r k).1 from by rw [planSpotsM, hkG]]; exact hh.sublist (List.Sublist.cons_cons _ (List.Sublist.cons_cons _ (List.Sublist.cons_cons _ (List.nil_sublist _))))); done
theorem splanOf_any : Fn Tryz.prog 10 [.agg (r.cells pv tv iv).toArray] w (fun x : (Value × List (CartonM × Value)) × Value => x.1.1.oneCell' = true ∧ x.2.oneCell' = true ∧ x.1.2.map Prod.fst = cartonsM r) (fun x => .tuple #[.agg [x.1.1, x.2].toArray, .bool (decide (classM r = 0))]) (fun x => [.grp 3 1 (x.1.2.map (sub CartonM.l)), .row x.1.1 54 3 (x.1.2.map CartonM.cells), .row x.2 86 4 ((planSpotsM r).map SpotM.cells)]) := by
  have hg4 := groups_len4 r
  have hcn := cartons_lenP r
  have hone1 := h.one_
  have hone2 := h2.one_
  have hone3 := h3.one_
  refine Fn.of (n := 84) Tryz.func10 rfl rfl ?_; refine zaU (fun bk1 _ => ?_); refine zbu (fun bk2 _ => ?_); refine zbk ?_; refine G.seq ?_; refine zbM ?_; refine zbD (fun _ _ => ?_); refine zeG ?_; refine G.condD rfl (fun hc => ?_) (fun hc => ?_)
  · have hno : ¬ classM r = 0 := (by clear h h2 h3; simp_all)
    refine zdE ?_; refine G.op0 (og_st0 rfl rfl rfl rfl rfl (by repeat (rfl)) (.zero (.cons (.cons .nil)))) (fun _ _ => ?_); refine zco ?_; refine G.thenR ?_
    (refine G.frontB0 bk2 rfl ?_); refine G.nilRow 86 4 ?_; refine G.nilRow 54 3 ?_; refine zcf ?_; refine G.retL ((.slice none 0 0, []), .slice none 0 0) ⟨rfl, rfl, (cartons_no hno).symm⟩ rfl (.cons (.cell 3 rfl rfl rfl) (.cons (.tmp rfl) .nil)) (by rw [decide_eq_false hno]) (fun w hh => by rw [planSpots_no hno]; exact hh.sublist (List.Sublist.cons_cons _ (List.Sublist.cons_cons _ (List.Sublist.cons_cons _ (List.nil_sublist _))))); done
  have hyes : classM r = 0 := (by clear h h2 h3; simp_all)
  refine zc1 ?_; refine G.seq ?_; refine zbM ?_; refine G.op (og_callF2 rfl rfl (fun w hh => scartonsOf_any (r := r) w (Rd.stays h _ hh) (Rd.stays h2 _ hh) (Rd.stays h3 _ hh))) rfl ?_; rintro ⟨cv, cs⟩ ⟨hcv, hcs⟩; try dsimp only
  refine zfB (fun hova => ?_)
  have h48 : ∀ c ∈ cs, c.1.l.length ≤ 48 := (fun c hc => cartons_elt zap)
  have hcl : cs.length ≤ 192 := (by have e : cs.length = (cartonsM r).length := zaw; omega)
  have hcl2 : (cs.map CartonM.cells).length = cs.length := List.length_map ..
  refine G.v (rv_build2 rfl (.cons (cells_one zc) .nil) (.cons rfl rfl (.zero (.cons .nil)) .nil)) rfl ?_; refine zbu (fun bk4 _ => ?_); refine G.op0 (og_st0 rfl rfl rfl rfl rfl (by repeat (first | rfl | refine one_cons zc ?_)) (.zero (.cons (.cons .nil)))) (fun _ _ => ?_); refine zbe ?_; refine zaR ?_; refine zct ?_; refine G.v (rv_loadW 4 rfl rfl rfl) rfl ?_; refine zd7 ?_; rintro ⟨vg, gs⟩ ⟨hvg, hgs⟩; try dsimp only
  have hgl : (gs.map gcell).length = (groupsOfM r).length := by rw [← hgs]; simp
  refine zd8 ?_; refine G.nilRow 86 4 ?_; refine G.frontB3 bk4 rfl ?_; refine G.frontR1 (.slice none 0 0) rfl ?_; refine G.loopK (ι := Nat × Value) (ks := [1, 2, 4, 6]) (fun x => [(5, .int .i64 (spotsAt r x.1).2), (7, .int .i64 (x.1 : Int))]) (fun x => [.row x.2 86 4 ((spotsAt r x.1).1.map SpotM.cells), .blk bk4 33 [cv, x.2]]) (fun x => x.1 ≤ (groupsOfM r).length ∧ x.2.oneCell' = true ∧ (spotsAt r x.1).1.length ≤ 192 * x.1) (fun x => (groupsOfM r).length - x.1) (0, .slice none 0 0) (.cons rfl (.cons rfl (.cons rfl (.cons rfl (.nil))))) rfl ?_ ?_ ?_
  exact ⟨Nat.zero_le _, rfl, Nat.zero_le _⟩
  exact ⟨rfl, rfl, trivial⟩
  rintro ⟨k, sv⟩ ⟨hk, hosv, hsl⟩
  dsimp only at hk hosv hsl ⊢
  refine zcu ?_; refine G.v (rv_len rfl zA) rfl ?_; refine zaT ?_; refine G.condD rfl (fun hc => ?_) (fun hc => ?_)
  · simp only [hgl] at hc
    refine za3 ?_; refine za6 (fun vl _ => ?_); refine zd8 ?_; refine G.frontR0 vl rfl ?_; refine G.loopK (ι := Nat × Value) (ks := [1, 2, 4, 5, 6, 7]) (fun x => [(8, x.2), (9, .int .i64 (x.1 : Int))]) (fun x => [.row x.2 71 4 ((boxesAt r ((cs.take x.1).map Prod.fst) k).map BoxM.cells)]) (fun x => x.1 ≤ cs.length) (fun x => cs.length - x.1) (0, vl) (.cons rfl (.cons rfl (.cons rfl (.cons rfl (.cons rfl (.cons rfl (.nil))))))) rfl ?_ ?_ ?_
    exact Nat.zero_le _
    exact ⟨rfl, rfl, trivial⟩
    rintro ⟨i, bv⟩ hi
    dsimp only at hi ⊢
    have hbl := bx_len r ((cs.take i).map Prod.fst) k
    have hbl4 : (boxesAt r ((cs.map Prod.fst).take i) k).length ≤ i := Nat.le_trans (bx_len r ((cs.map Prod.fst).take i) k) zad
    have hbl2 : ((boxesAt r ((cs.take i).map Prod.fst) k).map BoxM.cells).length = (boxesAt r ((cs.take i).map Prod.fst) k).length := List.length_map ..
    have hbl3 : ((cs.take i).map Prod.fst).length = i := (by rw [List.length_map, List.length_take]; omega)
    by_cases hlt : i < cs.length
    case' pos => (obtain ⟨b, hb⟩ := get_of_lt hlt; have he := get_map hb CartonM.cells; have hov := hova b (List.mem_of_getElem? hb); have hbl9 := h48 b (List.mem_of_getElem? hb))
    case' neg => (have hall : cs.take i = cs := take_all hlt; rw [hall])
    all_goals
     refine zeA ?_; refine zbw ?_; refine G.v (rv_len rfl zaa) rfl ?_; refine zaT ?_; refine G.cond rfl (fun hc => ?_) (fun hc => ?_)
     · all_goals
        replace hc := of_decide_eq_true hc
        try (exfalso; omega)
        all_goals
         refine zdx ?_; refine zbw ?_; refine zaM ?_; refine G.v (rv_indexH rfl rfl zaa rfl zq) rfl ?_; refine zcg ?_; refine G.v (rv_loadE rfl zaa zq rfl) rfl ?_; refine zaM ?_; refine zdy ?_; refine G.cond rfl (fun hc => ?_) (fun hc => ?_)
         · all_goals
            replace hc := of_decide_eq_true hc
            all_goals
             refine G.frontR0 bv rfl ?_; refine G.drawD1 [10] rfl ?_; refine zdA ?_; refine GE.q2 1 rfl za rfl (qg_runs (rv_loadW 7 rfl rfl rfl)) zn rfl ?_; refine GE.q2 2 rfl za rfl (qg_runs (rv_field rfl)) zn rfl ?_; refine GE.q2 3 rfl za rfl (qg_runs (rv_load1 1 rfl rfl rfl)) zn rfl ?_; refine GE.ol 4 za rfl rfl (og_runs (rv_move rfl)) rfl zj (fun _ _ => ?_); refine GE.ol 5 za rfl rfl (og_runs (rv_indexH rfl rfl zaa rfl zq)) rfl zj (fun _ _ => ?_); refine GE.ol 6 za rfl rfl (og_runs (rv_loadEW rfl zaa zq rfl)) rfl zj (fun _ _ => ?_); refine GE.ol 7 za rfl rfl (og_callV rfl rfl (fun w hh => sboxOf_any (r := r) b w (Rd.stays h _ hh) (Rd.stays h2 _ hh) (Rd.stays h3 _ hh) (Subs.at (by exact Subs.owned 5 rfl _ hh) hb) zb)) rfl zj (fun _ _ => ?_); refine zdh (fun vx _ => ?_)
             refine zcq (fun va _ => ?_); refine GE.t 10 za rfl rfl rfl (og_runs (rv_assign rfl)) rfl (fun _ _ => ?_); refine zb3 ?_; refine zaO ?_; refine G.frontR1 va rfl ?_; refine G.keep1P 1 rfl ?_; refine G.backK (i + 1, va) 0 (by exact one_eqP (congrArg (fun z => Ch.row va 71 4 z) (bx_yes hb hc))) (.cons rfl (.cons rfl (.cons rfl (.cons rfl (.cons rfl (.cons rfl (.nil))))))) ?_ ?_ ?_
             exact ⟨rfl, rfl, trivial⟩
             dsimp only; omega
             dsimp only; omega
         · all_goals
            replace hc := of_decide_eq_false hc
            all_goals
             refine zfL ?_; refine G.frontR0 bv rfl ?_; refine G.keep1P 0 rfl ?_; refine G.backK (i + 1, bv) 0 (by exact one_eqP (congrArg (fun z => Ch.row bv 71 4 z) (bx_no hb hc))) (.cons rfl (.cons rfl (.cons rfl (.cons rfl (.cons rfl (.cons rfl (.nil))))))) ?_ ?_ ?_
             exact ⟨rfl, rfl, trivial⟩
             dsimp only; omega
             dsimp only; omega
     · all_goals
        replace hc := of_decide_eq_false hc
        try (exfalso; omega)
        all_goals
         refine zaW ?_; refine zct ?_; refine za1 ?_; refine G.v (rv_loadP 8 rfl rfl (.skip (.one (.one (.one (.one .nil)))))) rfl ?_; refine zaM ?_; refine G.op (og_callF1 rfl rfl (fun w hh => specSpotsOf_any r.pal (l := boxesAt r (cs.map Prod.fst) k) w zP (Nat.le_trans (bx_len r (cs.map Prod.fst) k) zY))) rfl ?_; rintro vs hvs; try dsimp only
         obtain ⟨sp, hsp⟩ : ∃ sp, sp = spotsM r.pal (boxesAt r (cs.map Prod.fst) k) := ⟨_, rfl⟩
         rw [← hsp]
         have hspl : sp.length ≤ 192 := (by have := spots_le r.pal (boxesAt r (cs.map Prod.fst) k); have := bx_len r (cs.map Prod.fst) k; have : (cs.map Prod.fst).length = cs.length := List.length_map ..; rw [hsp]; omega)
         have hspl2 : (sp.map SpotM.cells).length = sp.length := List.length_map ..
         refine zd8 ?_; refine zfq ?_; refine G.loopK (ι := Nat × Value) (ks := [1, 2, 4, 5, 6, 7, 10]) (fun x => [(11, .int .i64 (x.1 : Int))]) (fun x => [.row x.2 86 4 (((spotsAt r k).1 ++ (sp.take x.1).map (movedM (spotsAt r k).2)).map SpotM.cells), .blk bk4 33 [cv, x.2]]) (fun x => x.1 ≤ sp.length ∧ x.2.oneCell' = true) (fun x => sp.length - x.1) (0, sv) (.cons rfl (.cons rfl (.cons rfl (.cons rfl (.cons rfl (.cons rfl (.cons rfl (.nil)))))))) rfl ?_ ?_ ?_
         exact ⟨Nat.zero_le _, hosv⟩
         exact ⟨rfl, trivial⟩
         rintro ⟨j, sv2⟩ ⟨hj, hosv2⟩
         dsimp only at hj hosv2 ⊢
         have hl9 : (((spotsAt r k).1 ++ (sp.take j).map (movedM (spotsAt r k).2)).map SpotM.cells).length = (spotsAt r k).1.length + j := z8
         by_cases hltj : j < sp.length
         case' pos => (obtain ⟨s, hs⟩ := get_of_lt hltj; have he := get_map hs SpotM.cells)
         case' neg => (have hall2 : sp.take j = sp := take_all hltj)
         all_goals
          refine zcu ?_; refine zdG ?_; refine zaT ?_; refine G.cond rfl (fun hc => ?_) (fun hc => ?_)
          · all_goals
             replace hc := of_decide_eq_true hc
             try (exfalso; omega)
             all_goals
              refine za3 ?_; refine zaZ ?_; refine G.v (rv_indexH rfl rfl zm rfl zq) rfl ?_; refine G.v (rv_loadEW rfl zm zq rfl) rfl ?_; refine zbu (fun bk12 _ => ?_); refine zbT (fun _ _ => ?_); refine ze1 ?_; refine zbx ?_; refine zaM ?_; refine zej ?_; refine za1 ?_; refine zei (fun _ _ => ?_); refine zbe ?_; refine G.region ?_; refine zbw ?_; refine ze6 ?_; refine za2 (fun vy _ => ?_); refine zdI (fun vb _ => ?_); refine G.know (fun w hw => by exact (Rd.owned 2 rfl (v := vb) w hw).one_) (fun hovb => ?_); refine za1 ?_
              refine G.op0 (og_st3 rfl rfl rfl (cells_one zc) rfl (by repeat (first | rfl | refine one_cons zc ?_)) (.succ (.zero (.cons .nil)))) (fun _ _ => ?_); refine G.done ?_; refine zaO ?_; refine G.frontB3 bk4 rfl ?_; refine G.frontR3 vb rfl ?_; refine G.keep2P 2 rfl ?_; refine G.backK (j + 1, vb) 0 (two_eqP (congrArg (fun z => Ch.row vb 86 4 z) (mv_next hs)) rfl) (.cons rfl (.cons rfl (.cons rfl (.cons rfl (.cons rfl (.cons rfl (.cons rfl (.nil)))))))) ?_ ?_ ?_
              exact ⟨rfl, trivial⟩
              exact ⟨hltj, hovb⟩
              dsimp only; omega
          · all_goals
             replace hc := of_decide_eq_false hc
             try (exfalso; omega)
             all_goals
              refine zaW ?_; refine zdR ?_; refine G.op (og_callV rfl rfl (fun w hh => spallets_any (bs := sp) w zan)) rfl (fun _ _ => ?_); refine zej ?_; refine zbb ?_; refine zaO ?_; refine G.frontB1 bk4 rfl ?_; refine G.frontR1 sv2 rfl ?_; refine G.keep2P 2 rfl ?_; refine G.backK (k + 1, sv2) 0 (two_eqP (congrArg (fun z : List SpotM => Ch.row sv2 86 4 (z.map SpotM.cells)) (by rw [plan_eq hcs hsp, hall2])) rfl) (.cons rfl (.cons rfl (.cons rfl (.cons rfl (.nil))))) ?_ ?_ ?_
              exact ⟨congrArg (fun z => some (Value.int .i64 z)) (by rw [plan_eq hcs hsp]), rfl, trivial⟩
              exact ⟨by (dsimp only; omega), hosv2, pl_len hsl⟩
              dsimp only; omega
  · simp only [hgl] at hc
    refine zaW ?_; refine G.seq ?_; refine zbM ?_; refine G.op0 (og_st6 rfl rfl rfl rfl rfl (by repeat (first | rfl | refine one_cons zc ?_)) (.zero (.cons (.cons .nil)))) (fun _ _ => ?_); refine zco ?_
    have hkG : k = (groupsOfM r).length := zb; (refine zfv ?_); (refine G.frontR1 sv rfl ?_); (refine G.frontR6 cv rfl ?_); (refine G.frontG6 (cs.map (sub CartonM.l)) rfl ?_); refine G.retL ((cv, cs), sv) ⟨hcv, hosv, hcs⟩ rfl (.cons (.cell 3 rfl rfl rfl) (.cons (.tmp rfl) .nil)) (by rw [decide_eq_true hyes]) (fun w hh => by rw [show planSpotsM r = (spotsAt r k).1 from by rw [planSpotsM, hkG]]; exact hh.sublist (List.Sublist.cons_cons _ (List.Sublist.cons_cons _ (List.Sublist.cons_cons _ (List.nil_sublist _))))); done
end
end Go.Proofs.YtglpgohilfoecaaGreat

/-
  No two boxes are in one place, and none is outside. No program is in sight here.
-/
namespace Go.Proofs.YtglpgohilfoecaaGreat
open Go.RowKit
def Sep (a : BoxM) (s : SpotM) (b : BoxM) (t : SpotM) : Prop := s.p ≠ t.p ∨ s.x + a.w ≤ t.x ∨ t.x + b.w ≤ s.x ∨ s.y + a.d ≤ t.y ∨ t.y + b.d ≤ s.y ∨ s.z + a.h ≤ t.z ∨ t.z + b.h ≤ s.z
theorem Sep.symm {a b : BoxM} {s t : SpotM} (h : Sep a s b t) : Sep b t a s := by unfold Sep at *; omega
def Inn (p : PalletM) (a : BoxM) (s : SpotM) : Prop := 0 ≤ s.p ∧ 0 ≤ s.x ∧ s.x + a.w ≤ p.w ∧ 0 ≤ s.y ∧ s.y + a.d ≤ p.d ∧ 0 ≤ s.z ∧ s.z + a.h ≤ p.h
structure Inv (p : PalletM) (l : List BoxM) (out : List SpotM) (dn : List (Int × Int)) (F : BoxM → SpotM → Prop) : Prop where
  len : out.length = l.length
  at_ : ∀ e ∈ dn, ∃ (j : Nat) (s : SpotM), e.1 = (j : Int) ∧ j < l.length ∧ out[j]? = some s ∧ s.p = e.2 ∧ Inn p (boxAt l j) s ∧ F (boxAt l j) s
  ap : ∀ e ∈ dn, ∀ e' ∈ dn, e.1 ≠ e'.1 → ∀ s t, out[e.1.toNat]? = some s → out[e'.1.toNat]? = some t → Sep (boxAt l e.1.toNat) s (boxAt l e'.1.toNat) t
section
variable {p : PalletM} {l : List BoxM} {out : List SpotM} {dn : List (Int × Int)} {F F' : BoxM → SpotM → Prop}
theorem Inv.weak (h : Inv p l out dn F) (hw : ∀ a s, F a s → F' a s) : Inv p l out dn F' :=
  ⟨h.len, fun e he => by obtain ⟨j, s, h1, h2, h3, h4, h5, h6⟩ := h.at_ e he; exact ⟨j, s, h1, h2, h3, h4, h5, hw _ _ h6⟩, h.ap⟩
theorem Inv.place {j : Nat} {s : SpotM} (h : Inv p l out dn F) (hj : j < l.length) (hnew : ∀ e ∈ dn, e.1 ≠ (j : Int)) (hin : Inn p (boxAt l j) s) (hF : F' (boxAt l j) s) (hw : ∀ a t, F a t → F' a t) (hsep : ∀ a t, F a t → Sep a t (boxAt l j) s) :
    Inv p l (out.set j s) (dn ++ [((j : Int), s.p)]) F' := by
  have hjo : j < out.length := by rw [h.len]; exact hj
  have hself : (out.set j s)[j]? = some s := by rw [List.getElem?_set_self hjo]
  have hoth : ∀ i : Nat, i ≠ j → (out.set j s)[i]? = out[i]? := fun i hi => List.getElem?_set_ne (Ne.symm hi)
  have old : ∀ e ∈ dn, ∃ (i : Nat) (u : SpotM), e.1 = (i : Int) ∧ i < l.length ∧ i ≠ j ∧ out[i]? = some u ∧ u.p = e.2 ∧ Inn p (boxAt l i) u ∧ F (boxAt l i) u := fun e he => by
    obtain ⟨i, u, h1, h2, h3, h4, h5, h6⟩ := h.at_ e he
    exact ⟨i, u, h1, h2, fun hij => hnew e he (by rw [h1, hij]), h3, h4, h5, h6⟩
  refine ⟨by rw [List.length_set]; exact h.len, fun e he => ?_, fun e he e' he' hne a b ha hb => ?_⟩
  · rcases List.mem_append.1 he with he | he
    · obtain ⟨i, u, h1, h2, h3, h4, h5, h6, h7⟩ := old e he
      exact ⟨i, u, h1, h2, by rw [hoth i h3]; exact h4, h5, h6, hw _ _ h7⟩
    · rw [List.mem_singleton.1 he]; exact ⟨j, s, rfl, hj, hself, rfl, hin, hF⟩
  · rcases List.mem_append.1 he with he | he
    · obtain ⟨i, u, h1, h2, h3, h4, h5, h6, h7⟩ := old e he
      have e1 : e.1.toNat = i := by rw [h1]; rfl
      rw [e1, hoth i h3] at ha
      rcases List.mem_append.1 he' with he' | he'
      · obtain ⟨i', u', g1, g2, g3, g4, g5, g6, g7⟩ := old e' he'
        have e2 : e'.1.toNat = i' := by rw [g1]; rfl
        rw [e2, hoth i' g3] at hb
        exact h.ap e he e' he' hne a b (by rw [e1]; exact ha) (by rw [e2]; exact hb)
      · rw [List.mem_singleton.1 he'] at hb ⊢
        simp only [Int.toNat_natCast] at hb ⊢
        rw [hself] at hb; cases hb
        rw [h4] at ha; cases ha
        rw [e1]; exact hsep _ _ h7
    · rw [List.mem_singleton.1 he] at ha hne ⊢
      simp only [Int.toNat_natCast] at ha ⊢
      rw [hself] at ha; cases ha
      rcases List.mem_append.1 he' with he' | he'
      · obtain ⟨i', u', g1, g2, g3, g4, g5, g6, g7⟩ := old e' he'
        have e2 : e'.1.toNat = i' := by rw [g1]; rfl
        rw [e2, hoth i' g3] at hb
        rw [g4] at hb; cases hb
        rw [e2]; exact (hsep _ _ g7).symm
      · rw [List.mem_singleton.1 he'] at hne; exact absurd rfl hne
end
def F0 (o : Int) (_ : BoxM) (s : SpotM) : Prop := s.p < o
def F1 (o z : Int) (a : BoxM) (s : SpotM) : Prop := s.p < o ∨ (s.p = o ∧ s.z + a.h ≤ z)
def F2 (o z y H : Int) (a : BoxM) (s : SpotM) : Prop := s.p < o ∨ (s.p = o ∧ (s.z + a.h ≤ z ∨ (s.z = z ∧ a.h ≤ H ∧ s.y + a.d ≤ y)))
def F3 (o z y x H D : Int) (a : BoxM) (s : SpotM) : Prop := s.p < o ∨ (s.p = o ∧ (s.z + a.h ≤ z ∨ (s.z = z ∧ a.h ≤ H ∧ (s.y + a.d ≤ y ∨ (s.y = y ∧ a.d ≤ D ∧ s.x + a.w ≤ x)))))
theorem sum_nn {α : Type} {f : α → Int} : ∀ {xs : List α}, (∀ x ∈ xs, 0 ≤ f x) → 0 ≤ (xs.map f).sum
  | [], _ => by simp
  | x :: r, h => by
    have h1 := h x List.mem_cons_self
    have h2 := sum_nn (xs := r) fun y hy => h y (List.mem_cons_of_mem _ hy)
    simp only [List.map_cons, List.sum_cons]; omega
theorem new_of {dn : List (Int × Int)} {b : Int} {r : List Int} (h : (dn.map Prod.fst ++ b :: r).Nodup) : ∀ e ∈ dn, e.1 ≠ b := fun e he hb => by
  have := (List.nodup_append.1 h).2.2 e.1 (List.mem_map.2 ⟨e, he, rfl⟩) b List.mem_cons_self
  exact this hb
section
variable {p : PalletM} {l : List BoxM} {ss : List ShelfM} {ls : List LayerM}
theorem boxes_inv {o z y H D : Int} (ho : 0 ≤ o) (hy : 0 ≤ y) (hz : 0 ≤ z) (hyd : y + D ≤ p.d) (hzh : z + H ≤ p.h) (hpw : p.w ≤ 2000) (hbx : ∀ j, j < l.length → 1 ≤ (boxAt l j).w) :
    ∀ (bs : List Int) (dn : List (Int × Int)) (st : List SpotM × Int), (∀ b ∈ bs, ∃ j : Nat, b = (j : Int) ∧ j < l.length ∧ (boxAt l j).d ≤ D ∧ (boxAt l j).h ≤ H) → (dn.map Prod.fst ++ bs).Nodup → 0 ≤ st.2 → st.2 + (bs.map (wAt l)).sum ≤ p.w → Inv p l st.1 dn (F3 o z y st.2 H D) →
      Inv p l (bs.foldl (boxStep l o y z) st).1 (dn ++ bs.map fun b => (b, o)) (F3 o z y (bs.foldl (boxStep l o y z) st).2 H D) ∧ (bs.foldl (boxStep l o y z) st).2 = st.2 + (bs.map (wAt l)).sum
  | [], dn, st, _, _, _, _, h => by simpa using h
  | b :: r, dn, st, hb, hn, h0, hs, h => by
    obtain ⟨j, rfl, hj, hd, hh⟩ := hb b List.mem_cons_self
    have hw1 := hbx j hj
    have hnn : 0 ≤ (r.map (wAt l)).sum := sum_nn fun x hx => by
      obtain ⟨i, rfl, hi, _, _⟩ := hb x (List.mem_cons_of_mem _ hx)
      have := hbx i hi
      simp only [wAt, Int.toNat_natCast]; omega
    have hwj : wAt l (j : Int) = (boxAt l j).w := by simp [wAt]
    simp only [List.map_cons, List.sum_cons, hwj] at hs
    have hst : boxStep l o y z st (j : Int) = (st.1.set j ⟨o, st.2, y, z⟩, st.2 + (boxAt l j).w) := by
      simp only [boxStep, Int.toNat_natCast]
      rw [wrap64_id zb zb]
    rw [List.foldl_cons, hst]
    have hp := h.place (F' := F3 o z y (st.2 + (boxAt l j).w) H D) (s := ⟨o, st.2, y, z⟩) hj (new_of hn) (by unfold Inn; dsimp only; omega) (by unfold F3; dsimp only; omega)
      (fun a t ht => by unfold F3 at *; omega) (fun a t ht => by unfold F3 at ht; unfold Sep; dsimp only; omega)
    have := boxes_inv ho hy hz hyd hzh hpw hbx r (dn ++ [((j : Int), o)]) (st.1.set j ⟨o, st.2, y, z⟩, st.2 + (boxAt l j).w) (fun x hx => hb x (List.mem_cons_of_mem _ hx)) (by simpa using hn) zao zao hp
    refine ⟨by simpa using this.1, ?_⟩
    rw [this.2]; simp only [List.map_cons, List.sum_cons, hwj]; omega
def BB (ss : List ShelfM) (k : Int) : List Int := (shAt ss k).l
def CC (ss : List ShelfM) (ls : List LayerM) (i : Int) : List Int := (lyAt ls i).l.flatMap (BB ss)
theorem shelves_inv {o z H : Int} (ho : 0 ≤ o) (hz : 0 ≤ z) (hzh : z + H ≤ p.h) (hpw : p.w ≤ 2000) (hpd : p.d ≤ 2000) (hbx : ∀ j, j < l.length → 1 ≤ (boxAt l j).w) :
    ∀ (ks : List Int) (dn : List (Int × Int)) (st : List SpotM × Int), (∀ k ∈ ks, ShOk p l (shAt ss k) ∧ (shAt ss k).h ≤ H ∧ 1 ≤ (shAt ss k).d) → (dn.map Prod.fst ++ ks.flatMap (BB ss)).Nodup → 0 ≤ st.2 → st.2 + (ks.map fun k => (shAt ss k).d).sum ≤ p.d → Inv p l st.1 dn (F2 o z st.2 H) →
      Inv p l (ks.foldl (shelfStep l ss o z) st).1 (dn ++ (ks.flatMap (BB ss)).map fun b => (b, o)) (F2 o z (ks.foldl (shelfStep l ss o z) st).2 H) ∧ (ks.foldl (shelfStep l ss o z) st).2 = st.2 + (ks.map fun k => (shAt ss k).d).sum
  | [], dn, st, _, _, _, _, h => by simpa using h
  | k :: r, dn, st, hk, hn, h0, hs, h => by
    obtain ⟨hok, hth, hd1⟩ := hk k List.mem_cons_self
    have hnn : 0 ≤ (r.map fun k => (shAt ss k).d).sum := sum_nn fun x hx => by
      have := (hk x (List.mem_cons_of_mem _ hx)).2.2; omega
    simp only [List.map_cons, List.sum_cons] at hs
    rw [List.flatMap_cons] at hn
    have hst : shelfStep l ss o z st k = (((shAt ss k).l.foldl (boxStep l o st.2 z) (st.1, 0)).1, st.2 + (shAt ss k).d) := by
      simp only [shelfStep]
      rw [wrap64_id zb zb]
    rw [List.foldl_cons, hst]
    have hn1 : (dn.map Prod.fst ++ (shAt ss k).l).Nodup := by
      rw [← List.append_assoc] at hn
      exact (List.nodup_append.1 hn).1
    have hin := boxes_inv (p := p) (l := l) ho h0 hz (D := (shAt ss k).d) zb hzh hpw hbx (shAt ss k).l dn (st.1, 0) (fun b hb => by
      obtain ⟨j, h1, h2, h3, h4⟩ := hok.at_ b hb
      exact ⟨j, h1, h2, h3, by omega⟩) hn1 (Int.le_refl 0) (by dsimp only; rw [hok.ws]; have := hok.wb; omega) (h.weak fun a s hs => by unfold F2 at hs; unfold F3; omega)
    have hnx := hin.1.weak (F' := F2 o z (st.2 + (shAt ss k).d) H) (fun a s hs => by unfold F3 at hs; unfold F2; omega)
    have := shelves_inv ho hz hzh hpw hpd hbx r (dn ++ (shAt ss k).l.map fun b => (b, o)) (((shAt ss k).l.foldl (boxStep l o st.2 z) (st.1, 0)).1, st.2 + (shAt ss k).d) (fun x hx => hk x (List.mem_cons_of_mem _ hx)) (by
      rw [List.map_append, List.map_map]
      have e : (Prod.fst ∘ fun b : Int => (b, o)) = id := rfl
      rw [e, List.map_id, List.append_assoc]; exact hn) zao zao hnx
    refine ⟨?_, by rw [this.2]; simp only [List.map_cons, List.sum_cons]; omega⟩
    have h3 := this.1
    rw [List.flatMap_cons, List.map_append, ← List.append_assoc]
    exact h3
structure LyOk (p : PalletM) (l : List BoxM) (ss : List ShelfM) (t : LayerM) : Prop where
  at_ : ∀ k ∈ t.l, ShOk p l (shAt ss k) ∧ (shAt ss k).h ≤ t.h ∧ 1 ≤ (shAt ss k).d
  ds : (t.l.map fun k => (shAt ss k).d).sum = t.d
  gs : (t.l.map fun k => (shAt ss k).g).sum = t.g
  db : t.d ≤ p.d
  h1 : 1 ≤ t.h
theorem layers_inv {o : Int} (ho : 0 ≤ o) (hpw : p.w ≤ 2000) (hpd : p.d ≤ 2000) (hph : p.h ≤ 2000) (hbx : ∀ j, j < l.length → 1 ≤ (boxAt l j).w) :
    ∀ (ks : List Int) (dn : List (Int × Int)) (st : List SpotM × Int), (∀ k ∈ ks, LyOk p l ss (lyAt ls k)) → (dn.map Prod.fst ++ ks.flatMap (CC ss ls)).Nodup → 0 ≤ st.2 → st.2 + (ks.map fun k => (lyAt ls k).h).sum ≤ p.h → Inv p l st.1 dn (F1 o st.2) →
      Inv p l (ks.foldl (layerStep l ss ls o) st).1 (dn ++ (ks.flatMap (CC ss ls)).map fun b => (b, o)) (F1 o (ks.foldl (layerStep l ss ls o) st).2) ∧ (ks.foldl (layerStep l ss ls o) st).2 = st.2 + (ks.map fun k => (lyAt ls k).h).sum
  | [], dn, st, _, _, _, _, h => by simpa using h
  | k :: r, dn, st, hk, hn, h0, hs, h => by
    have hok := hk k List.mem_cons_self
    have hh1 := hok.h1
    have hnn : 0 ≤ (r.map fun k => (lyAt ls k).h).sum := sum_nn fun x hx => by
      have := (hk x (List.mem_cons_of_mem _ hx)).h1; omega
    simp only [List.map_cons, List.sum_cons] at hs
    rw [List.flatMap_cons] at hn
    have hst : layerStep l ss ls o st k = (((lyAt ls k).l.foldl (shelfStep l ss o st.2) (st.1, 0)).1, st.2 + (lyAt ls k).h) := by
      simp only [layerStep]
      rw [wrap64_id zb zb]
    rw [List.foldl_cons, hst]
    have hn1 : (dn.map Prod.fst ++ (lyAt ls k).l.flatMap (BB ss)).Nodup := by
      rw [← List.append_assoc] at hn
      exact (List.nodup_append.1 hn).1
    have hin := shelves_inv (p := p) (l := l) (ss := ss) ho h0 (H := (lyAt ls k).h) zb hpw hpd hbx (lyAt ls k).l dn (st.1, 0) (fun b hb => hok.at_ b hb) hn1 (Int.le_refl 0) (by dsimp only; rw [hok.ds]; have := hok.db; omega) (h.weak fun a s hs => by unfold F1 at hs; unfold F2; omega)
    have hnx := hin.1.weak (F' := F1 o (st.2 + (lyAt ls k).h)) (fun a s hs => by unfold F2 at hs; unfold F1; omega)
    have := layers_inv ho hpw hpd hph hbx r (dn ++ ((lyAt ls k).l.flatMap (BB ss)).map fun b => (b, o)) (((lyAt ls k).l.foldl (shelfStep l ss o st.2) (st.1, 0)).1, st.2 + (lyAt ls k).h) (fun x hx => hk x (List.mem_cons_of_mem _ hx)) (by
      rw [List.map_append, List.map_map]
      have e : (Prod.fst ∘ fun b : Int => (b, o)) = id := rfl
      rw [e, List.map_id, List.append_assoc]; exact hn) zao zao hnx
    refine ⟨?_, by rw [this.2]; simp only [List.map_cons, List.sum_cons]; omega⟩
    have h3 := this.1
    rw [List.flatMap_cons, List.map_append, ← List.append_assoc]
    exact h3
structure LdOk (p : PalletM) (l : List BoxM) (ss : List ShelfM) (ls : List LayerM) (t : LoadM) : Prop where
  at_ : ∀ k ∈ t.l, LyOk p l ss (lyAt ls k)
  hs : (t.l.map fun k => (lyAt ls k).h).sum = t.h
  gs : (t.l.map fun k => (lyAt ls k).g).sum = t.g
  hb : t.h ≤ p.h
def TT (ss : List ShelfM) (ls : List LayerM) (xs : List (LoadM × Nat)) : List (Int × Int) := xs.flatMap fun x => (x.1.l.flatMap (CC ss ls)).map fun b => (b, (x.2 : Int))
theorem loads_inv (hpw : p.w ≤ 2000) (hpd : p.d ≤ 2000) (hph : p.h ≤ 2000) (hbx : ∀ j, j < l.length → 1 ≤ (boxAt l j).w) :
    ∀ (ms : List LoadM) (o : Nat) (dn : List (Int × Int)) (out : List SpotM), (∀ t ∈ ms, LdOk p l ss ls t) → (dn.map Prod.fst ++ (TT ss ls (ms.zipIdx o)).map Prod.fst).Nodup → Inv p l out dn (F0 o) →
      Inv p l ((ms.zipIdx o).foldl (loadStep l ss ls) out) (dn ++ TT ss ls (ms.zipIdx o)) (F0 ((o + ms.length : Nat) : Int))
  | [], o, dn, out, _, _, h => by simpa [TT] using h
  | t :: r, o, dn, out, hk, hn, h => by
    have hok := hk t List.mem_cons_self
    rw [List.zipIdx_cons, List.foldl_cons]
    rw [List.zipIdx_cons] at hn
    have eT : TT ss ls ((t, o) :: r.zipIdx (o + 1)) = ((t.l.flatMap (CC ss ls)).map fun b => (b, (o : Int))) ++ TT ss ls (r.zipIdx (o + 1)) := by simp [TT]
    have eF : ((t.l.flatMap (CC ss ls)).map fun b => (b, (o : Int))).map Prod.fst = t.l.flatMap (CC ss ls) := by
      rw [List.map_map]
      have e : (Prod.fst ∘ fun b : Int => (b, (o : Int))) = id := rfl
      rw [e, List.map_id]
    rw [eT, List.map_append, eF] at hn
    have hn1 : (dn.map Prod.fst ++ t.l.flatMap (CC ss ls)).Nodup := by
      rw [← List.append_assoc] at hn
      exact (List.nodup_append.1 hn).1
    have hin := layers_inv (p := p) (l := l) (ss := ss) (ls := ls) (o := (o : Int)) zb hpw hpd hph hbx t.l dn (out, 0) hok.at_ hn1 (Int.le_refl 0) (by dsimp only; rw [hok.hs]; have := hok.hb; omega) (h.weak fun a s hs => by unfold F0 at hs; unfold F1; omega)
    have hnx := hin.1.weak (F' := F0 ((o + 1 : Nat) : Int)) (fun a s hs => by unfold F1 at hs; unfold F0; omega)
    have := loads_inv hpw hpd hph hbx r (o + 1) (dn ++ (t.l.flatMap (CC ss ls)).map fun b => (b, (o : Int))) (loadStep l ss ls out (t, o)) (fun x hx => hk x (List.mem_cons_of_mem _ hx)) (by
      rw [List.map_append, eF, List.append_assoc]; exact hn) hnx
    rw [eT, ← List.append_assoc, show o + (t :: r).length = o + 1 + r.length from by simp only [List.length_cons]; omega]
    exact this
end
section
variable {p : PalletM} {l : List BoxM}
theorem ly_ok (hok : boxesOkM p l = true) : ∀ t ∈ layersM p (shelvesM p l), LyOk p l (shelvesM p l) t := by
  rw [layersM, if_pos (shelves_okL hok)]
  refine pile_inv (P := LyOk p l (shelvesM p l)) _ _ (fun x hx => ?_) zD
  have hz := zip_mem hx
  have hm := List.mem_of_getElem? hz
  have ha := shAt_get hz
  have hg := shelf_ge hok x.1 hm
  have hs := shelf_ok hok x.1 hm
  refine ⟨⟨fun k hk => ?_, ?_, ?_, ?_, ?_⟩, fun t ht hr => ⟨fun k hk => ?_, ?_, ?_, ?_, ?_⟩⟩
  · rw [List.mem_singleton.1 hk, ha]; exact ⟨hs, by simp only [layAdd, layZ]; omega, hg.2.2.1⟩
  · simp [layAdd, layZ, ha]
  · simp [layAdd, layZ, ha]
  · simp only [layAdd, layZ]; omega
  · simp only [layAdd, layZ]; omega
  · simp only [layAdd] at hk ⊢
    rcases List.mem_append.1 hk with hk | hk
    · have := ht.at_ k hk; exact ⟨this.1, by omega, this.2.2⟩
    · rw [List.mem_singleton.1 hk, ha]; exact ⟨hs, by omega, hg.2.2.1⟩
  · simp only [layAdd, List.map_append, List.sum_append, ht.ds, List.map_cons, List.map_nil, List.sum_cons, List.sum_nil, ha]; omega
  · simp only [layAdd, List.map_append, List.sum_append, ht.gs, List.map_cons, List.map_nil, List.sum_cons, List.sum_nil, ha]; omega
  · simp only [layRoom, Bool.and_eq_true, decide_eq_true_eq] at hr
    simp only [layAdd]; omega
  · have := ht.h1; simp only [layAdd]; omega
theorem ld_ok (hok : boxesOkM p l = true) : ∀ t ∈ loadsM p (layersM p (shelvesM p l)), LdOk p l (shelvesM p l) (layersM p (shelvesM p l)) t := by
  rw [loadsM, if_pos (lay_stacks (shelves_okL hok))]
  refine pile_inv (P := LdOk p l (shelvesM p l) (layersM p (shelvesM p l))) _ _ (fun x hx => ?_) zD
  have hz := zip_mem hx
  have hm := List.mem_of_getElem? hz
  have ha := lyAt_get hz
  have hg := lay_ok (shelves_okL hok) x.1 hm
  have hs := ly_ok hok x.1 hm
  refine ⟨⟨fun k hk => ?_, ?_, ?_, ?_⟩, fun t ht hr => ⟨fun k hk => ?_, ?_, ?_, ?_⟩⟩
  · rw [List.mem_singleton.1 hk, ha]; exact hs
  · simp [loadAdd, loadZ, ha]
  · simp [loadAdd, loadZ, ha]
  · simp only [loadAdd, loadZ]; omega
  · simp only [loadAdd] at hk
    rcases List.mem_append.1 hk with hk | hk
    · exact ht.at_ k hk
    · rw [List.mem_singleton.1 hk, ha]; exact hs
  · simp only [loadAdd, List.map_append, List.sum_append, ht.hs, List.map_cons, List.map_nil, List.sum_cons, List.sum_nil, ha]; omega
  · simp only [loadAdd, List.map_append, List.sum_append, ht.gs, List.map_cons, List.map_nil, List.sum_cons, List.sum_nil, ha]; omega
  · simp only [loadRoom, Bool.and_eq_true, decide_eq_true_eq] at hr
    simp only [loadAdd]; omega
theorem flat_flat {M : Type} {f : M → List Int} {C : Int → List Int} : ∀ (ms : List M), (ms.flatMap fun t => (f t).flatMap C) = ((ms.map f).flatten).flatMap C
  | [] => rfl
  | t :: r => by simp [flat_flat r]
theorem TT_fst {ss : List ShelfM} {ls : List LayerM} : ∀ (ms : List LoadM) (o : Nat), (TT ss ls (ms.zipIdx o)).map Prod.fst = ((ms.map LoadM.l).flatten).flatMap (CC ss ls)
  | [], _ => by simp [TT]
  | t :: r, o => by
    have ih := TT_fst (ss := ss) (ls := ls) r (o + 1)
    have e : (Prod.fst ∘ fun b : Int => (b, (o : Int))) = id := rfl
    simp only [TT] at ih ⊢
    rw [List.zipIdx_cons, List.flatMap_cons, List.map_append, ih, List.map_map, e, List.map_id]
    simp
theorem range_at {M : Type} {ms : List M} {f : Int → M} (h : ∀ (j : Nat) t, ms[j]? = some t → f (j : Int) = t) : ((List.range ms.length).map fun (j : Nat) => (j : Int)).map f = ms := by
  apply List.ext_getElem?
  intro j
  by_cases hj : j < ms.length
  · rw [List.getElem?_map, List.getElem?_map, List.getElem?_range hj]
    simp only [Option.map_some]
    rw [h j _ (List.getElem?_eq_getElem hj), List.getElem?_eq_getElem hj]
  · rw [List.getElem?_eq_none (by simpa using hj), List.getElem?_eq_none zb]
theorem range_CC {ss : List ShelfM} {ls : List LayerM} : ((List.range ls.length).map fun (j : Nat) => (j : Int)).flatMap (CC ss ls) = ((ls.map LayerM.l).flatten).flatMap (BB ss) := by
  rw [← flat_flat]
  have e : ((List.range ls.length).map fun (j : Nat) => (j : Int)).flatMap (CC ss ls) = (((List.range ls.length).map fun (j : Nat) => (j : Int)).map (lyAt ls)).flatMap fun Y => Y.l.flatMap (BB ss) := by
    simp only [List.flatMap_map]; rfl
  rw [e, range_at (fun j t h => lyAt_get h)]
theorem range_BB {ss : List ShelfM} : ((List.range ss.length).map fun (j : Nat) => (j : Int)).flatMap (BB ss) = (ss.map ShelfM.l).flatten := by
  have e : ((List.range ss.length).map fun (j : Nat) => (j : Int)).flatMap (BB ss) = (((List.range ss.length).map fun (j : Nat) => (j : Int)).map (shAt ss)).flatMap fun Y => Y.l := by
    simp only [List.flatMap_map]; rfl
  rw [e, range_at (fun j t h => shAt_get h), List.flatMap_def]
def TM (p : PalletM) (l : List BoxM) : List (Int × Int) := TT (shelvesM p l) (layersM p (shelvesM p l)) (loadsM p (layersM p (shelvesM p l))).zipIdx
theorem TM_fst (hok : boxesOkM p l = true) : (TM p l).map Prod.fst = (ordM (keyM (l.map BoxM.d)) l.length).map fun (j : Nat) => (j : Int) := by
  rw [TM, TT_fst, load_flat (lay_stacks (shelves_okL hok)), range_CC, lay_flat (shelves_okL hok), range_BB, shelf_flat hok]
theorem TM_perm (hok : boxesOkM p l = true) : ((TM p l).map Prod.fst).Perm ((List.range l.length).map fun (j : Nat) => (j : Int)) := by
  rw [TM_fst hok]; exact (ordM_perm _ _).map _
theorem TM_nodup (hok : boxesOkM p l = true) : ((TM p l).map Prod.fst).Nodup := by
  rw [(TM_perm hok).nodup_iff, List.nodup_iff_pairwise_ne, List.pairwise_map]
  exact (List.nodup_iff_pairwise_ne.1 List.nodup_range).imp fun h e => h zb
theorem box_okA (hok : boxesOkM p l = true) {j : Nat} (hj : j < l.length) : boxOkM p (boxAt l j) = true := by
  simp only [boxesOkM, Bool.and_eq_true, List.all_eq_true] at hok
  rw [boxAt_get (List.getElem?_eq_getElem hj)]
  exact hok.2 _ (List.getElem_mem hj)
theorem pal_okA (hok : boxesOkM p l = true) : palletOkM p = true := by simp only [boxesOkM, Bool.and_eq_true] at hok; exact hok.1
theorem spots_inv (hok : boxesOkM p l = true) : Inv p l (spotsM p l) (TM p l) (F0 ((loadsM p (layersM p (shelvesM p l))).length : Int)) := by
  have hpp := pallet_in (pal_okA hok)
  have h := loads_inv (p := p) (l := l) (ss := shelvesM p l) (ls := layersM p (shelvesM p l)) zb zb zb (fun j hj => (box_in (box_okA hok hj)).1) (loadsM p (layersM p (shelvesM p l))) 0 [] (List.replicate l.length ⟨0, 0, 0, 0⟩) (ld_ok hok)
    (by simpa [TM] using TM_nodup hok) ⟨by simp, by simp, by simp⟩
  rw [spotsM, if_pos hok]
  simpa [TM] using h
theorem TM_at (hok : boxesOkM p l = true) {j : Nat} (hj : j < l.length) : ∃ e ∈ TM p l, e.1 = (j : Int) := by
  have : (j : Int) ∈ (TM p l).map Prod.fst := (TM_perm hok).mem_iff.2 (List.mem_map.2 ⟨j, List.mem_range.2 hj, rfl⟩)
  obtain ⟨e, he, h⟩ := List.mem_map.1 this
  exact ⟨e, he, h⟩
theorem spot_in (hok : boxesOkM p l = true) {j : Nat} (hj : j < l.length) : ∃ s, (spotsM p l)[j]? = some s ∧ Inn p (boxAt l j) s ∧ s.p < ((loadsM p (layersM p (shelvesM p l))).length : Int) := by
  obtain ⟨e, he, h⟩ := TM_at hok hj
  obtain ⟨i, s, h1, h2, h3, h4, h5, h6⟩ := (spots_inv hok).at_ e he
  have : i = j := by omega
  subst this
  exact ⟨s, h3, h5, h6⟩
/-! ### Weights -/
def spAt (out : List SpotM) (j : Nat) : SpotM := out.getD j ⟨0, 0, 0, 0⟩
theorem spAt_get {out : List SpotM} {j : Nat} {s : SpotM} (h : out[j]? = some s) : spAt out j = s := by simp [spAt, List.getD_eq_getElem?_getD, h]
def gsumM (l : List BoxM) (out : List SpotM) (i k : Nat) : Int := ((List.range i).map fun j => if (spAt out j).p = (k : Int) then (boxAt l j).g else 0).sum
theorem gsum_next (l : List BoxM) (out : List SpotM) (i k : Nat) : gsumM l out (i + 1) k = gsumM l out i k + if (spAt out i).p = (k : Int) then (boxAt l i).g else 0 := by
  simp [gsumM, List.range_succ]
theorem sum_flat {B : Int → List Int} {f : Int → Int} : ∀ (ks : List Int), ((ks.flatMap B).map f).sum = (ks.map fun k => ((B k).map f).sum).sum
  | [] => by simp
  | k :: r => by simp [sum_flat r]
theorem sum_congr {f g : Int → Int} : ∀ {ks : List Int}, (∀ k ∈ ks, f k = g k) → (ks.map f).sum = (ks.map g).sum
  | [], _ => rfl
  | k :: r, h => by simp only [List.map_cons, List.sum_cons]; rw [h k List.mem_cons_self, sum_congr fun x hx => h x (List.mem_cons_of_mem _ hx)]
theorem ly_gram {ss : List ShelfM} {t : LayerM} (h : LyOk p l ss t) : ((t.l.flatMap (BB ss)).map (gAt l)).sum = t.g := by
  rw [sum_flat, ← h.gs]
  exact sum_congr fun k hk => (h.at_ k hk).1.gs
theorem ld_gram {ss : List ShelfM} {ls : List LayerM} {t : LoadM} (h : LdOk p l ss ls t) : ((t.l.flatMap (CC ss ls)).map (gAt l)).sum = t.g := by
  rw [sum_flat, ← h.gs]
  exact sum_congr fun k hk => ly_gram (h.at_ k hk)
def wk (l : List BoxM) (k : Nat) (e : Int × Int) : Int := if e.2 = (k : Int) then gAt l e.1 else 0
theorem wk_one {o k : Nat} {bs : List Int} : ((bs.map fun b => (b, (o : Int))).map (wk l k)).sum = if o = k then (bs.map (gAt l)).sum else 0 := by
  rw [List.map_map]
  by_cases h : o = k
  · subst h
    rw [if_pos rfl]; congr 1
    apply List.map_congr_left
    intro b _
    simp [wk]
  · rw [if_neg h]
    have : (bs.map (wk l k ∘ fun b => (b, (o : Int)))) = bs.map fun _ => (0 : Int) := by
      apply List.map_congr_left
      intro b _
      simp only [Function.comp, wk]
      rw [if_neg zb]
    rw [this]
    induction bs with
    | nil => rfl
    | cons b r ih => simp_all
theorem TT_below {ss : List ShelfM} {ls : List LayerM} {k : Nat} : ∀ (ms : List LoadM) (o : Nat), k < o → ((TT ss ls (ms.zipIdx o)).map (wk l k)).sum = 0
  | [], _, _ => by simp [TT]
  | t :: r, o, h => by
    have ih := TT_below (ss := ss) (ls := ls) (k := k) r (o + 1) zb
    simp only [TT] at ih ⊢
    rw [List.zipIdx_cons, List.flatMap_cons, List.map_append, List.sum_append, ih, wk_one, if_neg (show ¬ o = k by omega)]; rfl
theorem TT_gram {ss : List ShelfM} {ls : List LayerM} : ∀ (ms : List LoadM) (o k : Nat) (t : LoadM), (∀ t ∈ ms, LdOk p l ss ls t) → ms[k]? = some t → ((TT ss ls (ms.zipIdx o)).map (wk l (o + k))).sum = t.g
  | [], _, _, _, _, h => by simp at h
  | u :: r, o, 0, t, hok, h => by
    simp only [List.getElem?_cons_zero, Option.some.injEq] at h
    subst h
    have ih := TT_below (l := l) (ss := ss) (ls := ls) (k := o) r (o + 1) zb
    simp only [TT] at ih ⊢
    rw [List.zipIdx_cons, List.flatMap_cons, List.map_append, List.sum_append, Nat.add_zero, ih, wk_one, if_pos rfl, ld_gram (hok u List.mem_cons_self)]; omega
  | u :: r, o, k + 1, t, hok, h => by
    simp only [List.getElem?_cons_succ] at h
    have ih := TT_gram (ss := ss) (ls := ls) r (o + 1) k t (fun x hx => hok x (List.mem_cons_of_mem _ hx)) h
    simp only [TT] at ih ⊢
    rw [List.zipIdx_cons, List.flatMap_cons, List.map_append, List.sum_append, wk_one, if_neg (show ¬ o = o + (k + 1) by omega), show o + (k + 1) = o + 1 + k from by omega, ih]; omega
theorem perm_sum {xs ys : List Int} (h : xs.Perm ys) : xs.sum = ys.sum := by
  induction h with
  | nil => rfl
  | cons x _ ih => simp [ih]
  | swap x y l => simp only [List.sum_cons]; omega
  | trans _ _ h1 h2 => exact h1.trans h2
theorem gsum_all (hok : boxesOkM p l = true) {k : Nat} {t : LoadM} (ht : (loadsM p (layersM p (shelvesM p l)))[k]? = some t) : gsumM l (spotsM p l) l.length k = t.g := by
  have h1 := TT_gram (p := p) (l := l) (ss := shelvesM p l) (ls := layersM p (shelvesM p l)) (loadsM p (layersM p (shelvesM p l))) 0 k t (ld_ok hok) ht
  rw [Nat.zero_add] at h1
  rw [← h1]
  have e1 : gsumM l (spotsM p l) l.length k = (((List.range l.length).map fun (j : Nat) => (j : Int)).map fun b : Int => if (spAt (spotsM p l) b.toNat).p = (k : Int) then gAt l b else 0).sum := by
    rw [gsumM, List.map_map]; congr 1
  rw [e1, ← perm_sum ((TM_perm hok).map _), List.map_map]
  congr 1
  apply List.map_congr_left
  intro e he
  obtain ⟨j, s, h1, h2, h3, h4, _, _⟩ := (spots_inv hok).at_ e he
  simp only [Function.comp, wk, h1, Int.toNat_natCast, spAt_get h3, h4]
theorem pal_facts : ∀ (out : List SpotM) (n : Int), 0 ≤ n → n ≤ out.foldl palStep n ∧ (∀ s ∈ out, 0 ≤ s.p → s.p ≤ 999999 → s.p < out.foldl palStep n) ∧ ∀ N : Int, n ≤ N → (∀ s ∈ out, s.p < N) → out.foldl palStep n ≤ N
  | [], n, h => ⟨Int.le_refl n, by simp, fun N hN _ => hN⟩
  | s :: r, n, h => by
    have hs : n ≤ palStep n s ∧ (0 ≤ s.p → s.p ≤ 999999 → s.p < palStep n s) ∧ ∀ N, n ≤ N → s.p < N → palStep n s ≤ N := by
      unfold palStep inB
      split
      · exact ⟨by omega, fun _ _ => by omega, fun N h1 h2 => by omega⟩
      · rename_i hc
        simp only [Bool.and_eq_true, decide_eq_true_eq] at hc
        exact ⟨Int.le_refl n, fun h1 h2 => by omega, fun N h1 _ => h1⟩
    have ih := pal_facts r (palStep n s) zb
    rw [List.foldl_cons]
    refine ⟨by omega, fun t ht h1 h2 => ?_, fun N h1 h2 => ih.2.2 N (hs.2.2 N h1 (h2 s List.mem_cons_self)) fun t ht => h2 t (List.mem_cons_of_mem _ ht)⟩
    rcases List.mem_cons.1 ht with rfl | ht
    · have := hs.2.1 h1 h2; omega
    · exact ih.2.1 t ht h1 h2
end
end Go.Proofs.YtglpgohilfoecaaGreat

/-
  How many pallets a plan has, and what lies on each.
-/
namespace Go.Proofs.YtglpgohilfoecaaGreat
theorem range_one {β : Type} (X : List β) (k : Nat) : ∀ n, (List.range n).flatMap (fun j => if j = k then X else []) = if k < n then X else []
  | 0 => by simp
  | n + 1 => by
    rw [List.range_succ, List.flatMap_append, range_one X k n]
    simp only [List.flatMap_cons, List.flatMap_nil, List.append_nil]
    by_cases h : k < n
    · rw [if_pos h, if_neg zb, if_pos zb, List.append_nil]
    · by_cases h2 : n = k
      · rw [if_neg h, if_pos h2, if_pos zb, List.nil_append]
      · rw [if_neg h, if_neg h2, if_neg zb, List.nil_append]
theorem filter_flatMapP {α β : Type} (p : β → Bool) (f : α → List β) : ∀ l : List α, (l.flatMap f).filter p = l.flatMap (fun a => (f a).filter p)
  | [] => rfl
  | a :: l => by rw [List.flatMap_cons, List.filter_append, filter_flatMapP p f l, List.flatMap_cons]
/-- The boxes of a group are those of its cartons. -/
theorem boxesAt_eq {r : ReqM} {k : Nat} (hk : k < (groupsOfM r).length) : boxesAt r (cartonsM r) k = (cartonsAt r k).map (boxOfM r) := by
  rw [boxesAt, cartonsM, filter_flatMapP]
  have e : (fun a => (cartonsAt r a).filter fun c => decide (c.g = (k : Int))) = fun j => if j = k then cartonsAt r k else [] := by
    funext j
    by_cases h : j = k
    · subst h
      rw [if_pos rfl]
      refine List.filter_eq_self.2 (fun c hc => ?_)
      rw [cartonsAt, List.mem_map] at hc
      obtain ⟨l, _, rfl⟩ := hc
      simp [cartonM]
    · rw [if_neg h]
      refine List.filter_eq_nil_iff.2 (fun c hc => ?_)
      rw [cartonsAt, List.mem_map] at hc
      obtain ⟨l, _, rfl⟩ := hc
      show ¬ (decide ((j : Int) = (k : Int)) = true)
      rw [decide_eq_true_eq]
      omega
  rw [e, range_one, if_pos hk]
theorem item_gN {r : ReqM} {u : Int} (h : hereM r u = true) : 1 ≤ gOf r u := by
  rw [here_item] at h
  rw [gOf]
  cases hx : itemAt r u with
  | none => rw [hx] at h; cases h
  | some x =>
    have := itemAt_ok hx
    simp only [itemOkM, inB, Bool.and_eq_true, decide_eq_true_eq] at this
    dsimp only; omega
theorem gram_pos {r : ReqM} : ∀ {l : List Int}, l ≠ [] → (∀ u ∈ l, hereM r u = true) → 1 ≤ gramM r l
  | [], h, _ => absurd rfl h
  | u :: l, _, h => by
    have h1 := item_gN (h u List.mem_cons_self)
    have h2 := sum_ge0 (f := gOf r) (fun u => (gOf_in r u).1) l
    rw [gramM, List.map_cons, List.sum_cons]; omega
theorem pal_of {r : ReqM} (hc : classM r = 0) : palletOkM r.pal = true := by
  have h := cls_sound hc
  simp only [boundsOkM, Bool.and_eq_true] at h
  obtain ⟨⟨⟨⟨⟨⟨⟨⟨⟨⟨_, hp⟩, _⟩, _⟩, _⟩, _⟩, _⟩, _⟩, _⟩, _⟩, _⟩ := h
  exact hp
theorem big_no {r : ReqM} (hc : classM r = 0) {t : TypeM} (ht : t ∈ r.types) : tooBig r.pal t = false := by
  cases hb : (r.types.any (tooBig r.pal)) with
  | false => have := List.any_eq_false.1 hb t ht; simpa using this
  | true =>
    exfalso
    rw [classM] at hc
    split at hc
    · omega
    · split at hc
      · omega
      · split at hc
        · omega
        · split at hc
          · omega
          · first | omega | (rw [if_pos hb] at hc; omega)
/-- Each carton's box may be placed. -/
theorem cart_box {r : ReqM} (hc : classM r = 0) {x : CartonM} (hx : x ∈ cartonsM r) : boxOkM r.pal (boxOfM r x) = true ∧ (boxOfM r x).g = grossM r x := by
  obtain ⟨f1, f2, f3, f4, f5, f6, f7, f8, f9⟩ := cart_ok hc hx
  have ht := bounds_types (cls_sound hc) _ f5
  have hb := big_no hc f5
  have e : boxOfM r x = ⟨(cheapM r x.l).1.w, (cheapM r x.l).1.d, (cheapM r x.l).1.h, grossM r x⟩ := by
    rw [boxOfM, f4]; dsimp only; rw [if_pos ⟨rfl, hc⟩]
  have hg : 1 ≤ gramM r x.l := by
    obtain ⟨k, l, _, rfl, _, hne, _, hu⟩ := cart_mem hc hx
    have hp : (sortM l).Perm l := sortM_perm l
    show 1 ≤ gramM r (sortM l)
    rw [gramM, perm_sumL (hp.map (gOf r))]
    exact gram_pos hne hu
  rw [e]
  refine ⟨?_, rfl⟩
  simp only [typeOkM, inB, Bool.and_eq_true, decide_eq_true_eq] at ht
  simp only [tooBig, Bool.or_eq_false_iff, decide_eq_false_iff_not] at hb
  simp only [boxOkM, inB, Bool.and_eq_true, decide_eq_true_eq]
  omega
theorem cartAt_mem {r : ReqM} {k : Nat} (hk : k < (groupsOfM r).length) {x : CartonM} (hx : x ∈ cartonsAt r k) : x ∈ cartonsM r := by
  rw [cartonsM, List.mem_flatMap]; exact ⟨k, List.mem_range.2 hk, hx⟩
theorem group_ok {r : ReqM} (hc : classM r = 0) {k : Nat} (hk : k < (groupsOfM r).length) : boxesOkM r.pal (boxesAt r (cartonsM r) k) = true := by
  rw [boxesOkM, pal_of hc, Bool.true_and, List.all_eq_true, boxesAt_eq hk]
  intro b hb
  obtain ⟨x, hx, rfl⟩ := List.mem_map.1 hb
  exact (cart_box hc (cartAt_mem hk hx)).1
theorem len_flat {α : Type} {f : α → List Int} : ∀ {ms : List α}, (∀ t ∈ ms, f t ≠ []) → ms.length ≤ ((ms.map f).flatten).length
  | [], _ => by simp
  | t :: ms, h => by
    have ih := len_flat (ms := ms) (fun s hs => h s (List.mem_cons_of_mem _ hs))
    have := List.length_pos_iff.2 (h t List.mem_cons_self)
    rw [List.map_cons, List.flatten_cons, List.length_append, List.length_cons]; omega
theorem loads_le {p : PalletM} {l : List BoxM} (hok : boxesOkM p l = true) : (loadsM p (layersM p (shelvesM p l))).length ≤ l.length := by
  have h1 := len_flat (f := LoadM.l) (ms := loadsM p (layersM p (shelvesM p l))) load_ne
  rw [load_flat (lay_stacks (shelves_okL hok)), List.length_map, List.length_range] at h1
  have h2 := len_flat (f := LayerM.l) (ms := layersM p (shelvesM p l)) lay_ne
  rw [lay_flat (shelves_okL hok), List.length_map, List.length_range] at h2
  have h3 := len_flat (f := ShelfM.l) (ms := shelvesM p l) shelf_ne
  rw [shelf_flat hok, List.length_map, ordM_len] at h3
  omega
/-- The pallets of one group. -/
structure SegOk (p : PalletM) (l : List BoxM) : Prop where
  len : (spotsM p l).length = l.length
  p0 : ∀ s ∈ spotsM p l, 0 ≤ s.p ∧ s.p < palletsM (spotsM p l) ∧ s.p ≤ 999999
  n0 : 0 ≤ palletsM (spotsM p l)
  nb : palletsM (spotsM p l) ≤ l.length
  gs : ∀ q : Nat, gsumM l (spotsM p l) l.length q ≤ p.g
theorem seg_ok {p : PalletM} {l : List BoxM} (hok : boxesOkM p l = true) (hl : l.length ≤ 1000) : SegOk p l := by
  have hlen := spots_len hok
  have hll := loads_le hok
  have hpg : 1 ≤ p.g := by have := pal_okA hok; simp only [palletOkM, inB, Bool.and_eq_true, decide_eq_true_eq] at this; omega
  have hin : ∀ s ∈ spotsM p l, 0 ≤ s.p ∧ s.p < ((loadsM p (layersM p (shelvesM p l))).length : Int) := fun s hs => by
    obtain ⟨j, hj, rfl⟩ := List.getElem_of_mem hs
    obtain ⟨s, h1, h2, h3⟩ := spot_in hok (j := j) zb
    rw [List.getElem?_eq_getElem hj] at h1
    cases h1
    exact ⟨h2.1, h3⟩
  obtain ⟨a1, a2, a3⟩ := pal_facts (spotsM p l) 0 (Int.le_refl 0)
  have a4 := a3 ((loadsM p (layersM p (shelvesM p l))).length : Int) zb (fun s hs => (hin s hs).2)
  refine ⟨hlen, fun s hs => ?_, a1, by rw [palletsM]; omega, fun q => ?_⟩
  · have := hin s hs
    exact ⟨this.1, a2 s hs this.1 zb, by omega⟩
  · cases hq : (loadsM p (layersM p (shelvesM p l)))[q]? with
    | some t =>
      rw [gsum_all hok hq]
      exact (load_ok (lay_stacks (shelves_okL hok)) t (List.mem_of_getElem? hq)).2.2.2
    | none =>
      have hge := List.getElem?_eq_none_iff.1 hq
      have hz : ∀ i, i ≤ l.length → gsumM l (spotsM p l) i q = 0 := by
        intro i
        induction i with
        | zero => intro _; rfl
        | succ i ih =>
          intro hi
          rw [gsum_next, ih zb, if_neg]
          · rfl
          · obtain ⟨s, h1, h2, h3⟩ := spot_in hok (j := i) zb
            rw [spAt_get h1]; omega
      rw [hz l.length (Nat.le_refl _)]; omega
/-- The sum over those places that are on a pallet. -/
def onSum (f : CartonM → Int) (Z : List (CartonM × SpotM)) (q : Int) : Int := (Z.map fun x => if x.2.p = q then f x.1 else 0).sum
theorem onSum_app (f : CartonM → Int) (A B : List (CartonM × SpotM)) (q : Int) : onSum f (A ++ B) q = onSum f A q + onSum f B q := by
  rw [onSum, onSum, onSum, List.map_append, List.sum_append]
theorem wrapP {a : Int} (h0 : 0 ≤ a) (h1 : a ≤ 1000000000) : IntKind.i64.wrap a = a := wrap64_id (by omega) (by omega)
theorem pal_moved {b : Int} (hb : 0 ≤ b) : ∀ (l : List SpotM) (m : Int), (∀ s ∈ l, 0 ≤ s.p ∧ s.p + b ≤ 999999) → (l.map (movedM b)).foldl palStep (b + m) = b + l.foldl palStep m
  | [], _, _ => rfl
  | s :: l, m, h => by
    have hs := h s List.mem_cons_self
    rw [List.map_cons, List.foldl_cons, List.foldl_cons]
    have e : palStep (b + m) (movedM b s) = b + palStep m s := by
      have e1 : (movedM b s).p = s.p + b := wrapP zb zb
      have i1 : inB (s.p + b) 0 999999 = true := by simp only [inB, Bool.and_eq_true, decide_eq_true_eq]; omega
      have i2 : inB s.p 0 999999 = true := by simp only [inB, Bool.and_eq_true, decide_eq_true_eq]; omega
      rw [palStep, palStep, e1, if_pos i1, if_pos i2]; omega
    rw [e]
    exact pal_moved hb l _ (fun t ht => h t (List.mem_cons_of_mem _ ht))
/-- The cartons and places of the first groups. -/
structure PlanOkS (r : ReqM) (n : Nat) (Z : List (CartonM × SpotM)) : Prop where
  fst : Z.map Prod.fst = (List.range n).flatMap (cartonsAt r)
  snd : Z.map Prod.snd = (spotsAt r n).1
  base : (spotsAt r n).2 = palletsM (spotsAt r n).1
  b0 : 0 ≤ (spotsAt r n).2
  bl : (spotsAt r n).2 ≤ Z.length
  ge : (n : Int) ≤ (spotsAt r n).2
  rng : ∀ x ∈ Z, 0 ≤ x.2.p ∧ x.2.p < (spotsAt r n).2
  grp : ∀ x ∈ Z, ∀ y ∈ Z, x.2.p = y.2.p → x.1.g = y.1.g
  gl : ∀ x ∈ Z, x.1.g < (n : Int)
  gs : ∀ q, onSum (grossM r) Z q ≤ r.pal.g
theorem cartAt_ne {r : ReqM} (hc : classM r = 0) {k : Nat} (hk : k < (groupsOfM r).length) : cartonsAt r k ≠ [] := by
  have hu : unitsI r k ≠ [] := by
    obtain ⟨g, hg⟩ : ∃ g, (groupsOfM r)[k]? = some g := ⟨_, List.getElem?_eq_getElem hk⟩
    have hgm := List.mem_of_getElem? hg
    have hne : g ≠ [] := by
      have : ∀ g ∈ groupsOfM r, g ≠ [] := by
        rw [groupsOfM, groupsM, putAll]
        exact fold_all (Q := fun g => g ≠ []) (fun x _ o ho => put_all zD (fun g _ => by simp) ho) (fun g hg => absurd hg List.not_mem_nil)
      exact this g hgm
    cases g with
    | nil => exact absurd rfl hne
    | cons c g =>
      have hcp : c ∈ presI r := (groups_flat r).mem_iff.1 (List.mem_flatten.2 ⟨_, hgm, List.mem_cons_self⟩)
      rw [presI, presM, if_pos hc, List.mem_map] at hcp
      obtain ⟨n, hn, rfl⟩ := hcp
      have hk2 := (List.mem_filter.1 hn).2
      rw [kindHere, List.any_eq_true] at hk2
      obtain ⟨x, hx, hxc⟩ := hk2
      rw [decide_eq_true_eq] at hxc
      obtain ⟨i, hi, rfl⟩ := List.getElem_of_mem hx
      have hcnt := item_cnt (List.all_eq_true.1 (bounds_items (cls_sound hc)) _ hx)
      have hiu : i ∈ unitsM r := by
        rw [unitsM_yes hc, unitsU, List.mem_flatMap]
        refine ⟨(r.items[i], i), ?_, List.mem_replicate.2 ⟨by dsimp only; omega, rfl⟩⟩
        rw [List.mem_zipIdx_iff_getElem?]; exact List.getElem?_eq_getElem hi
      obtain ⟨m, hm, e⟩ := List.getElem_of_mem hiu
      have hin : m ∈ unitsIn r ((n : Int) :: g) (unitsM r) := by
        rw [unitsIn, List.mem_map]
        refine ⟨(i, m), List.mem_filter.2 ⟨?_, ?_⟩, rfl⟩
        · rw [List.mem_zipIdx_iff_getElem?]; exact (List.getElem?_eq_getElem hm).trans (by rw [e])
        · rw [hasM_iff, clsAt, List.getElem?_eq_getElem hi]
          show (r.items[i]).cls ∈ _
          rw [hxc]; exact List.mem_cons_self
      intro h0
      have : (m : Int) ∈ unitsI r k := by
        rw [unitsI, List.mem_map]
        refine ⟨m, ?_, rfl⟩
        rw [unitsOfM, if_pos zaE, Int.toNat_natCast, List.getD_eq_getElem?_getD, hg]
        exact hin
      rw [h0] at this
      exact absurd this List.not_mem_nil
  intro h0
  rw [cartonsAt, List.map_eq_nil_iff] at h0
  have := way_flat hc k
  rw [h0] at this
  exact hu (List.length_eq_zero_iff.1 this.length_eq.symm)
theorem zip_gsum (l : List BoxM) (out : List SpotM) (h : l.length = out.length) (q : Nat) : ((l.zip out).map fun x => if x.2.p = (q : Int) then x.1.g else 0).sum = gsumM l out l.length q := by
  rw [gsumM]
  congr 1
  refine List.ext_getElem z8 (fun i h1 h2 => ?_)
  simp only [List.length_map, List.length_zip] at h1
  simp only [List.getElem_map, List.getElem_zip, List.getElem_range]
  rw [spAt_get (List.getElem?_eq_getElem zb), boxAt, List.getD_eq_getElem?_getD, List.getElem?_eq_getElem zb]; rfl
/-- A group's cartons with their places. -/
def segZ (r : ReqM) (k : Nat) : List (CartonM × SpotM) := (cartonsAt r k).zip ((spotsM r.pal (boxesAt r (cartonsM r) k)).map (movedM (spotsAt r k).2))
theorem seg_sum {r : ReqM} {cs : List CartonM} {b : Int} (hb : 0 ≤ b) (hb2 : b ≤ 1000) : ∀ (out : List SpotM), (∀ s ∈ out, 0 ≤ s.p ∧ s.p ≤ 999999) → (∀ x ∈ cs, (boxOfM r x).g = grossM r x) → ∀ q : Int, onSum (grossM r) (cs.zip (out.map (movedM b))) q = (((cs.map (boxOfM r)).zip out).map fun x => if x.2.p = q - b then x.1.g else 0).sum := by
  induction cs with
  | nil => intro out _ _ q; rfl
  | cons c cs ih =>
    intro out ho hg q
    cases out with
    | nil => rfl
    | cons s out =>
      have e1 := ih out (fun t ht => ho t (List.mem_cons_of_mem _ ht)) (fun x hx => hg x (List.mem_cons_of_mem _ hx)) q
      have hs := ho s List.mem_cons_self
      have e2 : (movedM b s).p = s.p + b := wrapP zb zb
      rw [onSum] at e1 ⊢
      simp only [List.map_cons, List.zip_cons_cons, List.sum_cons]
      rw [e1, e2, hg c List.mem_cons_self]
      congr 1
      by_cases h : s.p + b = q
      · rw [if_pos h, if_pos zb]
      · rw [if_neg h, if_neg zb]
theorem gsum_neg {l : List BoxM} {out : List SpotM} {q : Int} (ho : ∀ s ∈ out, 0 ≤ s.p) (hq : q < 0) : ((l.zip out).map fun x => if x.2.p = q then x.1.g else 0).sum = 0 := by
  have : ∀ Y : List (BoxM × SpotM), (∀ x ∈ Y, 0 ≤ x.2.p) → (Y.map fun x => if x.2.p = q then x.1.g else 0).sum = 0 := by
    intro Y
    induction Y with
    | nil => intro _; rfl
    | cons y Y ih =>
      intro hY
      rw [List.map_cons, List.sum_cons, ih (fun x hx => hY x (List.mem_cons_of_mem _ hx)), if_neg]
      · rfl
      · have := hY y List.mem_cons_self; omega
  exact this _ (fun x hx => ho x.2 (List.of_mem_zip hx).2)
theorem onSum_out {f : CartonM → Int} {Z : List (CartonM × SpotM)} {q : Int} (h : ∀ x ∈ Z, x.2.p ≠ q) : onSum f Z q = 0 := by
  induction Z with
  | nil => rfl
  | cons z Z ih =>
    rw [onSum, List.map_cons, List.sum_cons, if_neg (h z List.mem_cons_self)]
    have := ih (fun x hx => h x (List.mem_cons_of_mem _ hx))
    rw [onSum] at this
    rw [this]; rfl
theorem plan_ok {r : ReqM} (hc : classM r = 0) : ∀ n, n ≤ (groupsOfM r).length → ∃ Z, PlanOkS r n Z
  | 0, _ => ⟨[], rfl, rfl, rfl, Int.le_refl 0, Int.le_refl 0, Int.le_refl 0, fun x hx => absurd hx List.not_mem_nil, fun x hx => absurd hx List.not_mem_nil, fun x hx => absurd hx List.not_mem_nil, fun q => by
      have := pal_of hc
      simp only [palletOkM, inB, Bool.and_eq_true, decide_eq_true_eq] at this
      rw [onSum]; simp; omega⟩
  | n + 1, hn => by
    obtain ⟨Z, h⟩ := plan_ok hc n zb
    have hk : n < (groupsOfM r).length := by omega
    have hbe := boxesAt_eq hk
    have hbl : (boxesAt r (cartonsM r) n).length = (cartonsAt r n).length := by rw [hbe, List.length_map]
    have hl1 : (boxesAt r (cartonsM r) n).length ≤ 192 := Nat.le_trans (bx_len r (cartonsM r) n) (cartons_lenP r)
    have hsg := seg_ok (group_ok hc hk) zb
    have hzl : Z.length = ((List.range n).flatMap (cartonsAt r)).length := by rw [← h.fst, List.length_map]
    have hcl := cartons_lenP r
    have hzl2 : Z.length ≤ 192 := by
      rw [hzl]
      refine Nat.le_trans ?_ hcl
      obtain ⟨m, hm⟩ : ∃ m, (groupsOfM r).length = n + m := ⟨(groupsOfM r).length - n, by omega⟩
      rw [cartonsM, hm, List.range_add, List.flatMap_append, List.length_append]; omega
    have hbn := h.bl
    have hb0 := h.b0
    have enx := spotsAt_next r n
    have ew : IntKind.i64.wrap ((spotsAt r n).2 + palletsM (spotsM r.pal (boxesAt r (cartonsM r) n))) = (spotsAt r n).2 + palletsM (spotsM r.pal (boxesAt r (cartonsM r) n)) := by
      have := hsg.nb; have := hsg.n0
      exact wrapP zb zb
    rw [planStep, ew] at enx
    have e1 : (spotsAt r (n + 1)).1 = (spotsAt r n).1 ++ (spotsM r.pal (boxesAt r (cartonsM r) n)).map (movedM (spotsAt r n).2) := by rw [enx]
    have e2 : (spotsAt r (n + 1)).2 = (spotsAt r n).2 + palletsM (spotsM r.pal (boxesAt r (cartonsM r) n)) := by rw [enx]
    have hlen : (cartonsAt r n).length = ((spotsM r.pal (boxesAt r (cartonsM r) n)).map (movedM (spotsAt r n).2)).length := by rw [List.length_map, hsg.len, hbl]
    have hn1 : 1 ≤ palletsM (spotsM r.pal (boxesAt r (cartonsM r) n)) := by
      have hne := List.length_pos_iff.2 (cartAt_ne hc hk)
      have : 0 < (spotsM r.pal (boxesAt r (cartonsM r) n)).length := by rw [hsg.len, hbl]; exact hne
      have := hsg.p0 _ (List.getElem_mem this)
      omega
    have hseg : ∀ x ∈ segZ r n, x.1.g = (n : Int) ∧ (spotsAt r n).2 ≤ x.2.p ∧ x.2.p < (spotsAt r (n + 1)).2 := by
      intro x hx
      obtain ⟨x1, x2⟩ := List.of_mem_zip hx
      rw [cartonsAt, List.mem_map] at x1
      obtain ⟨l, _, e⟩ := x1
      obtain ⟨s, hs, e3⟩ := List.mem_map.1 x2
      have hsp := hsg.p0 s hs
      have e4 : x.2.p = s.p + (spotsAt r n).2 := by rw [← e3]; exact wrapP zb zb
      refine ⟨by rw [← e]; rfl, by omega, by omega⟩
    refine ⟨Z ++ segZ r n, ?_, ?_, ?_, ?_, ?_, ?_, ?_, ?_, ?_, ?_⟩
    · rw [List.map_append, h.fst, cartons_next, segZ, List.map_fst_zip zb]
    · rw [List.map_append, h.snd, e1, segZ, List.map_snd_zip zb]
    · have e3 : palletsM ((spotsAt r n).1 ++ (spotsM r.pal (boxesAt r (cartonsM r) n)).map (movedM (spotsAt r n).2)) = ((spotsM r.pal (boxesAt r (cartonsM r) n)).map (movedM (spotsAt r n).2)).foldl palStep (palletsM (spotsAt r n).1) := by rw [palletsM, List.foldl_append]; rfl
      rw [e1, e2, e3, ← h.base]
      have := pal_moved hb0 (spotsM r.pal (boxesAt r (cartonsM r) n)) 0 (fun s hs => by
        have := hsg.p0 s hs; have := hsg.nb; omega)
      rw [Int.add_zero] at this
      rw [this]; rfl
    · have := hsg.n0; omega
    · have h1 := hsg.nb
      rw [List.length_append, segZ, List.length_zip, e2]; omega
    · have := h.ge; omega
    · intro x hx
      rcases List.mem_append.1 hx with hx | hx
      · have := h.rng x hx; omega
      · have := hseg x hx; omega
    · intro x hx y hy e
      rcases List.mem_append.1 hx with hx | hx
      · rcases List.mem_append.1 hy with hy | hy
        · exact h.grp x hx y hy e
        · have := h.rng x hx; have := hseg y hy; omega
      · rcases List.mem_append.1 hy with hy | hy
        · have := hseg x hx; have := h.rng y hy; omega
        · rw [(hseg x hx).1, (hseg y hy).1]
    · intro x hx
      rcases List.mem_append.1 hx with hx | hx
      · have := h.gl x hx; omega
      · have := (hseg x hx).1; omega
    · intro q
      rw [onSum_app]
      have h1 : onSum (grossM r) (segZ r n) q ≤ r.pal.g ∧ (q < (spotsAt r n).2 → onSum (grossM r) (segZ r n) q = 0) := by
        have es := seg_sum (r := r) (cs := cartonsAt r n) hb0 zb (spotsM r.pal (boxesAt r (cartonsM r) n)) (fun s hs => ⟨(hsg.p0 s hs).1, (hsg.p0 s hs).2.2⟩) (fun x hx => (cart_box hc (cartAt_mem hk hx)).2) q
        rw [← hbe] at es
        rw [show onSum (grossM r) (segZ r n) q = onSum (grossM r) ((cartonsAt r n).zip ((spotsM r.pal (boxesAt r (cartonsM r) n)).map (movedM (spotsAt r n).2))) q from rfl, es]
        have hp := pal_of hc
        simp only [palletOkM, inB, Bool.and_eq_true, decide_eq_true_eq] at hp
        by_cases hq : q < (spotsAt r n).2
        · have := gsum_neg (l := boxesAt r (cartonsM r) n) (q := q - (spotsAt r n).2) (fun s hs => (hsg.p0 s hs).1) zb
          exact ⟨by omega, fun _ => this⟩
        · obtain ⟨m, hm⟩ := Int.eq_ofNat_of_zero_le (show 0 ≤ q - (spotsAt r n).2 by omega)
          rw [hm, zip_gsum _ _ hsg.len.symm]
          exact ⟨hsg.gs m, fun h => absurd h hq⟩
      by_cases hq : q < (spotsAt r n).2
      · rw [h1.2 hq]; have := h.gs q; omega
      · rw [onSum_out (fun x hx => by have := h.rng x hx; omega)]; have := h1.1; omega
theorem where_mem {α : Type} {p : α → Bool} {l : List α} {x : Int} (h : x ∈ whereG p l) : ∃ (j : Nat) (a : α), x = (j : Int) ∧ l[j]? = some a ∧ p a = true := by
  rw [whereG, List.mem_map] at h
  obtain ⟨y, hy, rfl⟩ := h
  obtain ⟨h1, h2⟩ := List.mem_filter.1 hy
  exact ⟨y.2, y.1, rfl, by rw [List.mem_zipIdx_iff_getElem?] at h1; exact h1, h2⟩
theorem gram_onSum {r : ReqM} {Z : List (CartonM × SpotM)} (q : Int) : ∀ k, k ≤ Z.length → ((whereG (onP q) ((Z.map Prod.snd).take k)).map (grossAt r (Z.map Prod.fst))).sum = onSum (grossM r) (Z.take k) q
  | 0, _ => rfl
  | k + 1, hk => by
    have ih := gram_onSum (r := r) (Z := Z) q k zb
    have hz : Z[k]? = some Z[k] := List.getElem?_eq_getElem zb
    rw [where_next (x := Z[k].2) (by rw [List.getElem?_map, hz]; rfl), List.map_append, List.sum_append, ih, List.take_add_one, hz, Option.toList_some, onSum_app]
    congr 1
    rw [onP]
    by_cases h : Z[k].2.p = q
    · simp only [h, decide_true, if_true, List.map_cons, List.map_nil, List.sum_cons, List.sum_nil, onSum]
      rw [grossAt, Int.toNat_natCast, List.getElem?_map, hz]; rfl
    · simp only [h, decide_false, Bool.false_eq_true, if_false, List.map_nil, List.sum_nil, onSum, List.map_cons, List.sum_cons]; rfl
theorem onSum_all (f : CartonM → Int) {Z : List (CartonM × SpotM)} (h0 : ∀ x ∈ Z, 0 ≤ x.2.p) : ∀ n : Nat, ((List.range n).map fun q : Nat => onSum f Z (q : Int)).sum = (Z.map fun x => if x.2.p < (n : Int) then f x.1 else 0).sum
  | 0 => by
    have : ∀ Y : List (CartonM × SpotM), (∀ x ∈ Y, 0 ≤ x.2.p) → (Y.map fun x => if x.2.p < ((0 : Nat) : Int) then f x.1 else 0).sum = 0 := by
      intro Y
      induction Y with
      | nil => intro _; rfl
      | cons y Y ih =>
        intro hY
        rw [List.map_cons, List.sum_cons, ih (fun x hx => hY x (List.mem_cons_of_mem _ hx)), if_neg]
        · rfl
        · have := hY y List.mem_cons_self; omega
    rw [this Z h0]; rfl
  | n + 1 => by
    rw [List.range_succ, List.map_append, List.sum_append, onSum_all f h0 n]
    have : ∀ Y : List (CartonM × SpotM), (Y.map fun x => if x.2.p < (n : Int) then f x.1 else 0).sum + onSum f Y (n : Int) = (Y.map fun x => if x.2.p < ((n + 1 : Nat) : Int) then f x.1 else 0).sum := by
      intro Y
      induction Y with
      | nil => rfl
      | cons y Y ih =>
        rw [onSum] at ih ⊢
        simp only [List.map_cons, List.sum_cons]
        rw [← ih]
        by_cases h1 : y.2.p < (n : Int)
        · rw [if_pos h1, if_neg zb, if_pos zb]; omega
        · by_cases h2 : y.2.p = (n : Int)
          · rw [if_neg h1, if_pos h2, if_pos zb]; omega
          · rw [if_neg h1, if_neg h2, if_neg zb]; omega
    simp only [List.map_cons, List.map_nil, List.sum_cons, List.sum_nil, Int.add_zero]
    exact this Z
/-- What is so of an order's plan. -/
structure NeedOk (r : ReqM) (n : Nat) : Prop where
  pal : palletsM (planSpotsM r) = (n : Int)
  ge : (groupsOfM r).length ≤ n
  le : n ≤ (cartonsM r).length
  len : (planSpotsM r).length = (cartonsM r).length
  gs : ∀ q, 0 ≤ palletGramM r (cartonsM r) (planSpotsM r) q ∧ palletGramM r (cartonsM r) (planSpotsM r) q ≤ r.pal.g
  sum : ((List.range n).map fun q : Nat => palletGramM r (cartonsM r) (planSpotsM r) (q : Int)).sum = ((cartonsM r).map (grossM r)).sum
  same : ∀ (q a b : Int), a ∈ onPalletM (cartonsM r).length (planSpotsM r) q → b ∈ onPalletM (cartonsM r).length (planSpotsM r) q → ∃ (i j : Nat) (x y : CartonM), a = (i : Int) ∧ b = (j : Int) ∧ (cartonsM r)[i]? = some x ∧ (cartonsM r)[j]? = some y ∧ x.g = y.g
theorem need_ok {r : ReqM} (hc : classM r = 0) : ∃ n, NeedOk r n := by
  obtain ⟨Z, h⟩ := plan_ok hc (groupsOfM r).length (Nat.le_refl _)
  have ef : Z.map Prod.fst = cartonsM r := h.fst
  have es : Z.map Prod.snd = planSpotsM r := h.snd
  have el : Z.length = (cartonsM r).length := by rw [← ef, List.length_map]
  have el2 : Z.length = (planSpotsM r).length := by rw [← es, List.length_map]
  have hbase := h.base
  rw [show (spotsAt r (groupsOfM r).length).1 = planSpotsM r from rfl] at hbase
  obtain ⟨n, hn⟩ := Int.eq_ofNat_of_zero_le h.b0
  have hgr : ∀ q, palletGramM r (cartonsM r) (planSpotsM r) q = onSum (grossM r) Z q := fun q => by
    have := gram_onSum (r := r) (Z := Z) q Z.length (Nat.le_refl _)
    rw [List.take_length, List.take_of_length_le zY, ef, es] at this
    rw [palletGramM, onPalletM, if_pos zb]; exact this
  have hnn : ∀ Y : List (CartonM × SpotM), (∀ x ∈ Y, x.1 ∈ cartonsM r) → ∀ q, 0 ≤ onSum (grossM r) Y q := by
    intro Y
    induction Y with
    | nil => intro _ q; exact Int.le_refl 0
    | cons y Y ih =>
      intro hY q
      have h1 := ih (fun x hx => hY x (List.mem_cons_of_mem _ hx)) q
      have h2 := (cart_box hc (hY y List.mem_cons_self))
      have h3 : 0 ≤ grossM r y.1 := by
        have := h2.1
        simp only [boxOkM, inB, Bool.and_eq_true, decide_eq_true_eq] at this
        omega
      rw [onSum] at h1 ⊢
      rw [List.map_cons, List.sum_cons]
      split <;> omega
  refine ⟨n, ?_, ?_, ?_, by omega, ?_, ?_, ?_⟩
  · rw [← hbase]; exact hn
  · have := h.ge; omega
  · have := h.bl; omega
  · intro q
    rw [hgr]
    exact ⟨hnn Z (fun x hx => by rw [← ef]; exact List.mem_map_of_mem hx) q, h.gs q⟩
  · have e1 : ((List.range n).map fun q : Nat => palletGramM r (cartonsM r) (planSpotsM r) (q : Int)) = ((List.range n).map fun q : Nat => onSum (grossM r) Z (q : Int)) := List.map_congr_left (fun q _ => hgr q)
    rw [e1, onSum_all (grossM r) (fun x hx => (h.rng x hx).1), ← ef, List.map_map]
    congr 1
    refine List.map_congr_left (fun x hx => ?_)
    have := (h.rng x hx).2
    rw [if_pos zb]; rfl
  · intro q a b ha hb
    rw [onPalletM, if_pos zb] at ha hb
    obtain ⟨i, s, rfl, hs, ps⟩ := where_mem ha
    obtain ⟨j, t, rfl, ht, pt⟩ := where_mem hb
    rw [onP, decide_eq_true_eq] at ps pt
    have hil := (List.getElem?_eq_some_iff.1 hs).1
    have hjl := (List.getElem?_eq_some_iff.1 ht).1
    obtain ⟨zx, hzx⟩ := get_of_lt (l := Z) (k := i) zb
    obtain ⟨zy, hzy⟩ := get_of_lt (l := Z) (k := j) zb
    rw [← es, List.getElem?_map, hzx, Option.map_some] at hs
    rw [← es, List.getElem?_map, hzy, Option.map_some] at ht
    have s1 := Option.some.inj hs
    have t1 := Option.some.inj ht
    refine ⟨i, j, zx.1, zy.1, rfl, rfl, by rw [← ef, List.getElem?_map, hzx]; rfl, by rw [← ef, List.getElem?_map, hzy]; rfl, ?_⟩
    exact h.grp zx (List.mem_of_getElem? hzx) zy (List.mem_of_getElem? hzy) (by rw [s1, t1, ps, pt])
end Go.Proofs.YtglpgohilfoecaaGreat
