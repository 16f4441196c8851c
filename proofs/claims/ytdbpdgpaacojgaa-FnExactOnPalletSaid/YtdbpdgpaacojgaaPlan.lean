/-
  Plans that are right.
-/
import Derived.Test.YtdbpdgpaacojgaaGeo2
import Derived.Test.YtdbpdgpaacojgaaTables
namespace Go.Proofs.Ytdbpdgpaacojgaa
open Go.RowKit
attribute [local irreducible] Go.wpList Go.Code.wp Go.Exit.then Go.Exit.inBlock Go.bodyPost Go.Calls pE pB G RunsV FnV Fn FnM
set_option maxRecDepth 100000

/-- The numbers of a list go up, and are in bounds: at one place. -/
def upAt (l : List Int) (i : Nat) : Bool := match l[i]? with
  | none => true
  | some u => inB u 0 999 && (match i with | 0 => true | j + 1 => match l[j]? with | none => true | some v => decide (v < u))
def upM (l : List Int) : Bool := decide (l.length ≤ 100) && (List.range l.length).all (upAt l)
theorem range_next {f : Nat → Bool} {k : Nat} (h : (List.range k).all f = true) (hk : f k = true) : (List.range (k + 1)).all f = true := by
  rw [List.range_succ, List.all_append, h]; simp [hk]
theorem range_no {f : Nat → Bool} {k n : Nat} (h : k < n) (hk : f k = false) : (List.range n).all f = false := by
  rw [Bool.eq_false_iff]; intro hh; rw [List.all_eq_true] at hh; have := hh k (List.mem_range.2 h); rw [hk] at this; cases this
theorem upAt_eq {l : List Int} {k : Nat} {u v : Int} (hu : l[k]? = some u) (hv : 0 < k → l[k - 1]? = some v) : upAt l k = (inB u 0 999 && (decide (k = 0) || decide (v < u))) := by
  cases k with
  | zero => simp [upAt, hu]
  | succ j => have := hv (by omega); simp only [Nat.add_sub_cancel] at this; simp [upAt, hu, this]
theorem upM_end {l : List Int} {k : Nat} (h : (List.range k).all (upAt l) = true) (h1 : k ≤ l.length) (h2 : ¬ k < l.length) : decide (((l.map icell).length : Int) ≤ 100) = upM l := by
  have : k = l.length := by omega
  subst this
  rw [upM, h, Bool.and_true]; exact decide_eq_decide.2 (by rw [List.length_map]; omega)
theorem prev_get {l : List Int} {k : Nat} (h : k < l.length) : ∃ c, 0 < k → l[k - 1]? = some c := ⟨(l[k - 1]?).getD 0, fun hk => by rw [List.getElem?_eq_getElem (by omega)]; rfl⟩
theorem upM_len {l : List Int} (h : 100 < l.length) : upM l = false := by rw [upM, decide_eq_false (by omega), Bool.false_and]
theorem upM_elt {l : List Int} {k : Nat} (h : k < l.length) (hk : upAt l k = false) : upM l = false := by rw [upM, range_no h hk, Bool.and_false]
theorem upM_yes {l : List Int} {k : Nat} (h : (List.range k).all (upAt l) = true) (h1 : k ≤ l.length) (h2 : ¬ k < l.length) (h3 : l.length ≤ 100) : upM l = true := by rw [← upM_end h h1 h2, List.length_map, decide_eq_true (by omega)]
theorem and_no {p q : Bool} (h : q = false) : false = (p && q) := by rw [h, Bool.and_false]
theorem and_yes {p q r : Bool} (h1 : (!p) = false) (h2 : (!q) = false) (h : r = true) : true = (p && q && r) := by simp_all
theorem and_no1 {p q r : Bool} (h1 : (!p) = true) : false = (p && q && r) := by simp_all
theorem and_no2 {p q r : Bool} (h1 : (!q) = true) : false = (p && q && r) := by simp_all
def planAt (cs : List CartonM) (ss : List SpotM) (i : Nat) : Bool := match cs[i]?, ss[i]? with
  | some c, some s => (inB c.t 0 999 && inB c.g 0 3 && upM c.l) && inB s.p 0 2000 && inB s.x 0 2000 && inB s.y 0 2000 && inB s.z 0 2000
  | _, _ => true
def planOkM (cs : List CartonM) (ss : List SpotM) : Bool := decide (ss.length = cs.length) && decide (cs.length ≤ 100) && (List.range cs.length).all (planAt cs ss)
theorem planAt_eq {cs : List (CartonM × Value)} {ss : List SpotM} {k : Nat} {c : CartonM × Value} {s : SpotM} (h : cs[k]? = some c) (h2 : ss[k]? = some s) :
    planAt (cs.map Prod.fst) ss k = ((inB c.1.t 0 999 && inB c.1.g 0 3 && upM c.1.l) && inB s.p 0 2000 && inB s.x 0 2000 && inB s.y 0 2000 && inB s.z 0 2000) := by
  simp [planAt, h, h2]
theorem planOk_len {cs : List (CartonM × Value)} {ss : List SpotM} (h : ss.length ≠ cs.length) : false = planOkM (cs.map Prod.fst) ss := by
  rw [planOkM, List.length_map, decide_eq_false h]; rfl
theorem planOk_many {cs : List (CartonM × Value)} {ss : List SpotM} (h : 100 < cs.length) : false = planOkM (cs.map Prod.fst) ss := by
  rw [planOkM, List.length_map, decide_eq_false (p := cs.length ≤ 100) (by omega), Bool.and_false]; rfl
theorem planOk_elt {cs : List (CartonM × Value)} {ss : List SpotM} {k : Nat} (h : k < cs.length) (hk : planAt (cs.map Prod.fst) ss k = false) : false = planOkM (cs.map Prod.fst) ss := by
  rw [planOkM, List.length_map, range_no h hk, Bool.and_false]
theorem planOk_yes {cs : List (CartonM × Value)} {ss : List SpotM} {k : Nat} (h : (List.range k).all (planAt (cs.map Prod.fst) ss) = true) (h1 : k ≤ cs.length) (h2 : ¬ k < cs.length) (h3 : ss.length = cs.length) (h4 : cs.length ≤ 100) : true = planOkM (cs.map Prod.fst) ss := by
  have : k = cs.length := by omega
  subst this
  rw [planOkM, List.length_map, h, decide_eq_true h3, decide_eq_true h4]; rfl


theorem szPlan_any {cv sv : Value} {cs : List (CartonM × Value)} {ss : List SpotM} (left : Int) (w : World) (h : Rd w cv 3 (cs.map CartonM.cells)) (hs : Subs w CartonM.l cs) (h3 : Rd w sv 4 (ss.map SpotM.cells)) (h0 : 0 ≤ left) (h1 : left ≤ 1048576) :
    FnV Try.prog 24 [.agg [cv, sv].toArray, .int .i64 left] w (.int .i64 (szM (tot CartonM.l cs + ss.length) left)) := by
  refine FnV.of (n := 18) Try.func24 rfl rfl ?_
  refine G.seq ?_
  refine G.region ?_
  refine G.op (og_box rfl rfl) rfl (fun bk2 _ => ?_)
  refine G.v (rv_assign rfl) rfl ?_
  refine G.done ?_
  refine G.thenN ?_
  refine G.seq ?_
  refine G.region ?_
  (first | refine G.v (rv_field rfl) rfl ?_ | refine G.v (rv_fieldE rfl) rfl ?_)
  refine G.v (rv_load1 0 rfl rfl rfl) rfl ?_
  refine G.v (rv_move rfl) rfl ?_
  refine G.op (og_callV rfl rfl (fun w hh => szCartonS_any _ w (by first | exact Rd.stays (by assumption) _ hh | exact Rd.owned 0 rfl _ hh | exact Rd.owned 1 rfl _ hh | exact Rd.owned 2 rfl _ hh | exact Rd.owned 3 rfl _ hh | exact Rd.owned 4 rfl _ hh | exact Rd.owned 5 rfl _ hh | exact Rd.owned 6 rfl _ hh | exact Rd.owned 7 rfl _ hh | exact Rd.owned 8 rfl _ hh | exact Rd.owned 9 rfl _ hh | exact Rd.owned 10 rfl _ hh | exact Rd.owned 11 rfl _ hh | exact Rd.owned 12 rfl _ hh | exact Rd.owned 13 rfl _ hh | exact Rd.owned 14 rfl _ hh | exact Rd.owned 15 rfl _ hh) (by first | exact Subs.stays (by assumption) _ hh | exact Subs.owned 0 rfl _ hh | exact Subs.owned 1 rfl _ hh | exact Subs.owned 2 rfl _ hh | exact Subs.owned 3 rfl _ hh | exact Subs.owned 4 rfl _ hh | exact Subs.owned 5 rfl _ hh | exact Subs.owned 6 rfl _ hh | exact Subs.owned 7 rfl _ hh | exact Subs.owned 8 rfl _ hh | exact Subs.owned 9 rfl _ hh | exact Subs.owned 10 rfl _ hh | exact Subs.owned 11 rfl _ hh | exact Subs.owned 12 rfl _ hh | exact Subs.owned 13 rfl _ hh | exact Subs.owned 14 rfl _ hh | exact Subs.owned 15 rfl _ hh) (by (try simp only [szM] at *); omega) (by (try simp only [szM] at *); omega))) rfl (fun _ _ => ?_)
  refine G.v (rv_assign rfl) rfl ?_
  refine G.done ?_
  refine G.thenN ?_
  refine G.seq ?_
  refine G.seq ?_
  refine G.region ?_
  refine G.v (rv_move rfl) rfl ?_
  refine G.v (rv_lss rfl rfl) rfl ?_
  refine G.done ?_
  refine G.thenN ?_
  refine G.cond rfl (fun hc => ?_) (fun hc => ?_)
  · try exact Bool.noConfusion hc
    all_goals
     try replace hc := of_decide_eq_true hc
     try (exfalso; first | contradiction | omega)
     all_goals
      refine G.seq ?_
      refine G.region ?_
      refine G.v (rv_assign rfl) rfl ?_
      refine G.done ?_
      refine G.thenN ?_
      refine G.ret ?_
      refine G.thenR ?_
      exact G.retFV rfl rfl (congrArg (Value.int .i64) (by simp only [szM] at * <;> omega))
  · try exact Bool.noConfusion hc
    all_goals
     try replace hc := of_decide_eq_false hc
     try (exfalso; first | contradiction | omega)
     all_goals
      refine G.skip ?_
      refine G.thenN ?_
      refine G.seq ?_
      refine G.region ?_
      (first | refine G.v (rv_field rfl) rfl ?_ | refine G.v (rv_fieldE rfl) rfl ?_)
      refine G.v (rv_load1 0 rfl rfl rfl) rfl ?_
      refine G.v (rv_move rfl) rfl ?_
      refine G.op (og_callV rfl rfl (fun w hh => szSpotS_any _ w (by first | exact Rd.stays (by assumption) _ hh | exact Rd.owned 0 rfl _ hh | exact Rd.owned 1 rfl _ hh | exact Rd.owned 2 rfl _ hh | exact Rd.owned 3 rfl _ hh | exact Rd.owned 4 rfl _ hh | exact Rd.owned 5 rfl _ hh | exact Rd.owned 6 rfl _ hh | exact Rd.owned 7 rfl _ hh | exact Rd.owned 8 rfl _ hh | exact Rd.owned 9 rfl _ hh | exact Rd.owned 10 rfl _ hh | exact Rd.owned 11 rfl _ hh | exact Rd.owned 12 rfl _ hh | exact Rd.owned 13 rfl _ hh | exact Rd.owned 14 rfl _ hh | exact Rd.owned 15 rfl _ hh) (by (try simp only [szM] at *); omega) (by (try simp only [szM] at *); omega))) rfl (fun _ _ => ?_)
      refine G.v (rv_assign rfl) rfl ?_
      refine G.done ?_
      refine G.thenN ?_
      refine G.seq ?_
      refine G.seq ?_
      refine G.region ?_
      refine G.v (rv_move rfl) rfl ?_
      refine G.v (rv_lss rfl rfl) rfl ?_
      refine G.done ?_
      refine G.thenN ?_
      refine G.cond rfl (fun hc => ?_) (fun hc => ?_)
      · try exact Bool.noConfusion hc
        all_goals
         try replace hc := of_decide_eq_true hc
         try (exfalso; first | contradiction | omega)
         all_goals
          refine G.seq ?_
          refine G.region ?_
          refine G.v (rv_assign rfl) rfl ?_
          refine G.done ?_
          refine G.thenN ?_
          refine G.ret ?_
          refine G.thenR ?_
          exact G.retFV rfl rfl (congrArg (Value.int .i64) (by simp only [szM] at * <;> omega))
      · try exact Bool.noConfusion hc
        all_goals
         try replace hc := of_decide_eq_false hc
         try (exfalso; first | contradiction | omega)
         all_goals
          refine G.skip ?_
          refine G.thenN ?_
          refine G.seq ?_
          refine G.region ?_
          refine G.v (rv_move rfl) rfl ?_
          refine G.v (rv_assign rfl) rfl ?_
          refine G.done ?_
          refine G.thenN ?_
          refine G.ret ?_
          exact G.retFV rfl rfl (congrArg (Value.int .i64) (by simp only [szM] at * <;> omega))
theorem toPlan_any {cv sv : Value} {cs : List (CartonM × Value)} {ss : List SpotM} (w : World) (h : Rd w cv 3 (cs.map CartonM.cells)) (hs : Subs w CartonM.l cs) (h3 : Rd w sv 4 (ss.map SpotM.cells)) (ht : tot CartonM.l cs ≤ 1048576) (ht2 : ss.length ≤ 1048576) :
    Fn Try.prog 26 [.agg [cv, sv].toArray] w (fun x : (Value × List (CartonM × Value)) × Value => x.1.1.oneCell' = true ∧ x.2.oneCell' = true ∧ x.1.2.map Prod.fst = cs.map Prod.fst) (fun x => .agg [x.1.1, x.2].toArray)
      (fun x => [.row x.2 28 4 (ss.map SpotM.cells), .grp 3 1 (x.1.2.map (sub CartonM.l)), .row x.1.1 113 3 (x.1.2.map CartonM.cells)]) := by
  refine Fn.of (n := 13) Try.func26 rfl rfl ?_
  refine G.seq ?_
  refine G.region ?_
  refine G.op (og_box rfl rfl) rfl (fun bk1 _ => ?_)
  refine G.op (og_alloc) rfl (fun bk2 _ => ?_)
  refine G.done ?_
  refine G.thenN ?_
  refine G.seq ?_
  refine G.region ?_
  refine G.op (og_alloc) rfl (fun bk3 _ => ?_)
  refine G.done ?_
  refine G.thenN ?_
  refine G.seq ?_
  refine G.region ?_
  (first | refine G.v (rv_field rfl) rfl ?_ | refine G.v (rv_fieldE rfl) rfl ?_)
  (first | refine G.v (rv_load1 0 rfl rfl rfl) rfl ?_ | refine G.v (rv_load1 1 rfl rfl rfl) rfl ?_ | refine G.v (rv_load1 2 rfl rfl rfl) rfl ?_ | refine G.v (rv_load1 3 rfl rfl rfl) rfl ?_ | refine G.v (rv_load1 4 rfl rfl rfl) rfl ?_ | refine G.v (rv_load1 5 rfl rfl rfl) rfl ?_)
  (first | (refine G.op (og_callF1 rfl rfl (fun w hh => toCartonS_any w (Rd.stays h _ hh) (Subs.stays hs _ hh) ht)) rfl ?_; rintro ⟨cv2, cs2⟩ ⟨hov, hvl⟩; try dsimp only) | (refine G.op (og_callF2 rfl rfl (fun w hh => toCartonS_any w (Rd.stays h _ hh) (Subs.stays hs _ hh) ht)) rfl ?_; rintro ⟨cv2, cs2⟩ ⟨hov, hvl⟩; try dsimp only) | (refine G.op (og_callF3 rfl rfl (fun w hh => toCartonS_any w (Rd.stays h _ hh) (Subs.stays hs _ hh) ht)) rfl ?_; rintro ⟨cv2, cs2⟩ ⟨hov, hvl⟩; try dsimp only) | (refine G.op (og_callF0 rfl rfl (fun w hh => toCartonS_any w (Rd.stays h _ hh) (Subs.stays hs _ hh) ht)) rfl ?_; rintro ⟨cv2, cs2⟩ ⟨hov, hvl⟩; try dsimp only) | (refine G.op (og_callF rfl rfl (fun w hh => toCartonS_any w (Rd.stays h _ hh) (Subs.stays hs _ hh) ht)) rfl ?_; rintro ⟨cv2, cs2⟩ ⟨hov, hvl⟩; try dsimp only))
  (first | refine G.v (rv_field rfl) rfl ?_ | refine G.v (rv_fieldE rfl) rfl ?_)
  (first | refine G.op0 (og_st0 rfl rfl rfl (cells_one (by first | rfl | assumption)) rfl (by repeat (first | rfl | refine one_cons (by first | rfl | assumption) ?_)) (.zero (.cons .nil))) (fun _ _ => ?_) | refine G.op0 (og_st1 rfl rfl rfl (cells_one (by first | rfl | assumption)) rfl (by repeat (first | rfl | refine one_cons (by first | rfl | assumption) ?_)) (.zero (.cons .nil))) (fun _ _ => ?_) | refine G.op0 (og_st2 rfl rfl rfl (cells_one (by first | rfl | assumption)) rfl (by repeat (first | rfl | refine one_cons (by first | rfl | assumption) ?_)) (.zero (.cons .nil))) (fun _ _ => ?_) | refine G.op0 (og_st3 rfl rfl rfl (cells_one (by first | rfl | assumption)) rfl (by repeat (first | rfl | refine one_cons (by first | rfl | assumption) ?_)) (.zero (.cons .nil))) (fun _ _ => ?_) | refine G.op0 (og_st4 rfl rfl rfl (cells_one (by first | rfl | assumption)) rfl (by repeat (first | rfl | refine one_cons (by first | rfl | assumption) ?_)) (.zero (.cons .nil))) (fun _ _ => ?_) | refine G.op0 (og_st5 rfl rfl rfl (cells_one (by first | rfl | assumption)) rfl (by repeat (first | rfl | refine one_cons (by first | rfl | assumption) ?_)) (.zero (.cons .nil))) (fun _ _ => ?_))
  refine G.done ?_
  refine G.thenN ?_
  refine G.seq ?_
  refine G.region ?_
  (first | refine G.v (rv_field rfl) rfl ?_ | refine G.v (rv_fieldE rfl) rfl ?_)
  (first | refine G.v (rv_load1 0 rfl rfl rfl) rfl ?_ | refine G.v (rv_load1 1 rfl rfl rfl) rfl ?_ | refine G.v (rv_load1 2 rfl rfl rfl) rfl ?_ | refine G.v (rv_load1 3 rfl rfl rfl) rfl ?_ | refine G.v (rv_load1 4 rfl rfl rfl) rfl ?_ | refine G.v (rv_load1 5 rfl rfl rfl) rfl ?_)
  (first | (refine G.op (og_callF1 rfl rfl (fun w hh => toSpotS_any w (Rd.stays h3 _ hh) ht2)) rfl ?_; rintro sv2 hov2; try dsimp only) | (refine G.op (og_callF2 rfl rfl (fun w hh => toSpotS_any w (Rd.stays h3 _ hh) ht2)) rfl ?_; rintro sv2 hov2; try dsimp only) | (refine G.op (og_callF3 rfl rfl (fun w hh => toSpotS_any w (Rd.stays h3 _ hh) ht2)) rfl ?_; rintro sv2 hov2; try dsimp only) | (refine G.op (og_callF0 rfl rfl (fun w hh => toSpotS_any w (Rd.stays h3 _ hh) ht2)) rfl ?_; rintro sv2 hov2; try dsimp only) | (refine G.op (og_callF rfl rfl (fun w hh => toSpotS_any w (Rd.stays h3 _ hh) ht2)) rfl ?_; rintro sv2 hov2; try dsimp only))
  (first | refine G.v (rv_field rfl) rfl ?_ | refine G.v (rv_fieldE rfl) rfl ?_)
  (first | refine G.op0 (og_st0 rfl rfl rfl (cells_one (by first | rfl | assumption)) rfl (by repeat (first | rfl | refine one_cons (by first | rfl | assumption) ?_)) (.succ (.zero (.cons .nil)))) (fun _ _ => ?_) | refine G.op0 (og_st1 rfl rfl rfl (cells_one (by first | rfl | assumption)) rfl (by repeat (first | rfl | refine one_cons (by first | rfl | assumption) ?_)) (.succ (.zero (.cons .nil)))) (fun _ _ => ?_) | refine G.op0 (og_st2 rfl rfl rfl (cells_one (by first | rfl | assumption)) rfl (by repeat (first | rfl | refine one_cons (by first | rfl | assumption) ?_)) (.succ (.zero (.cons .nil)))) (fun _ _ => ?_) | refine G.op0 (og_st3 rfl rfl rfl (cells_one (by first | rfl | assumption)) rfl (by repeat (first | rfl | refine one_cons (by first | rfl | assumption) ?_)) (.succ (.zero (.cons .nil)))) (fun _ _ => ?_) | refine G.op0 (og_st4 rfl rfl rfl (cells_one (by first | rfl | assumption)) rfl (by repeat (first | rfl | refine one_cons (by first | rfl | assumption) ?_)) (.succ (.zero (.cons .nil)))) (fun _ _ => ?_) | refine G.op0 (og_st5 rfl rfl rfl (cells_one (by first | rfl | assumption)) rfl (by repeat (first | rfl | refine one_cons (by first | rfl | assumption) ?_)) (.succ (.zero (.cons .nil)))) (fun _ _ => ?_))
  refine G.done ?_
  refine G.thenN ?_
  refine G.seq ?_
  refine G.region ?_
  (first | refine G.v (rv_loadW 0 rfl rfl rfl) rfl ?_ | refine G.v (rv_loadW 1 rfl rfl rfl) rfl ?_ | refine G.v (rv_loadW 2 rfl rfl rfl) rfl ?_ | refine G.v (rv_loadW 3 rfl rfl rfl) rfl ?_ | refine G.v (rv_loadW 4 rfl rfl rfl) rfl ?_ | refine G.v (rv_loadW 5 rfl rfl rfl) rfl ?_ | refine G.v (rv_loadP 0 rfl rfl (.one (.one .nil))) rfl ?_ | refine G.v (rv_loadP 1 rfl rfl (.one (.one .nil))) rfl ?_ | refine G.v (rv_loadP 2 rfl rfl (.one (.one .nil))) rfl ?_ | refine G.v (rv_loadP 3 rfl rfl (.one (.one .nil))) rfl ?_ | refine G.v (rv_loadP 4 rfl rfl (.one (.one .nil))) rfl ?_ | refine G.v (rv_loadP 5 rfl rfl (.one (.one .nil))) rfl ?_)
  (first | refine G.op0 (og_st0 rfl rfl rfl rfl rfl (by repeat (first | rfl | refine one_cons (by first | rfl | assumption) ?_)) (.zero (.cons (.cons .nil)))) (fun _ _ => ?_) | refine G.op0 (og_st1 rfl rfl rfl rfl rfl (by repeat (first | rfl | refine one_cons (by first | rfl | assumption) ?_)) (.zero (.cons (.cons .nil)))) (fun _ _ => ?_) | refine G.op0 (og_st2 rfl rfl rfl rfl rfl (by repeat (first | rfl | refine one_cons (by first | rfl | assumption) ?_)) (.zero (.cons (.cons .nil)))) (fun _ _ => ?_) | refine G.op0 (og_st3 rfl rfl rfl rfl rfl (by repeat (first | rfl | refine one_cons (by first | rfl | assumption) ?_)) (.zero (.cons (.cons .nil)))) (fun _ _ => ?_) | refine G.op0 (og_st4 rfl rfl rfl rfl rfl (by repeat (first | rfl | refine one_cons (by first | rfl | assumption) ?_)) (.zero (.cons (.cons .nil)))) (fun _ _ => ?_) | refine G.op0 (og_st5 rfl rfl rfl rfl rfl (by repeat (first | rfl | refine one_cons (by first | rfl | assumption) ?_)) (.zero (.cons (.cons .nil)))) (fun _ _ => ?_))
  refine G.done ?_
  refine G.thenN ?_
  refine G.ret ?_
  exact G.retFc ((cv2, cs2), sv2) ⟨hov, hov2, hvl⟩ 4 rfl rfl rfl rfl rfl (fun w hh => hh.pick [0, 0, 0] rfl)
theorem eqPlan_any {cv sv cv' sv' : Value} {cs cs' : List (CartonM × Value)} {ss ss' : List SpotM} (w : World) (h : Rd w cv 3 (cs.map CartonM.cells)) (hs : Subs w CartonM.l cs) (h3 : Rd w sv 4 (ss.map SpotM.cells))
    (h' : Rd w cv' 3 (cs'.map CartonM.cells)) (hs' : Subs w CartonM.l cs') (h3' : Rd w sv' 4 (ss'.map SpotM.cells)) :
    FnV Try.prog 28 [.agg [cv, sv].toArray, .agg [cv', sv'].toArray] w (.bool (decide (cs.map Prod.fst = cs'.map Prod.fst) && decide (ss = ss'))) := by
  refine FnV.of (n := 17) Try.func28 rfl rfl ?_
  refine G.seq ?_
  refine G.region ?_
  refine G.op (og_box rfl rfl) rfl (fun bk2 _ => ?_)
  refine G.op (og_box rfl rfl) rfl (fun bk3 _ => ?_)
  refine G.v (rv_assign rfl) rfl ?_
  refine G.done ?_
  refine G.thenN ?_
  refine G.seq ?_
  refine G.seq ?_
  refine G.region ?_
  (first | refine G.v (rv_field rfl) rfl ?_ | refine G.v (rv_fieldE rfl) rfl ?_)
  (first | refine G.v (rv_load1 0 rfl rfl rfl) rfl ?_ | refine G.v (rv_load1 1 rfl rfl rfl) rfl ?_)
  (first | refine G.v (rv_field rfl) rfl ?_ | refine G.v (rv_fieldE rfl) rfl ?_)
  (first | refine G.v (rv_load1 0 rfl rfl rfl) rfl ?_ | refine G.v (rv_load1 1 rfl rfl rfl) rfl ?_)
  refine G.op (og_callV rfl rfl (fun w hh => eqCartonS_any w (Rd.stays h _ hh) (Subs.stays hs _ hh) (Rd.stays h' _ hh) (Subs.stays hs' _ hh))) rfl (fun _ _ => ?_)
  refine G.v (rv_not rfl) rfl ?_
  refine G.done ?_
  refine G.thenN ?_
  refine G.cond rfl (fun hc => ?_) (fun hc => ?_)
  · try exact Bool.noConfusion hc
    all_goals
     try replace hc := of_decide_eq_true hc
     try (exfalso; first | contradiction | omega)
     all_goals
      refine G.seq ?_
      refine G.region ?_
      refine G.v (rv_assign rfl) rfl ?_
      refine G.done ?_
      refine G.thenN ?_
      refine G.ret ?_
      refine G.thenR ?_
      refine G.retFV rfl rfl (congrArg Value.bool ?_); simp_all
  · try exact Bool.noConfusion hc
    all_goals
     try replace hc := of_decide_eq_false hc
     try (exfalso; first | contradiction | omega)
     all_goals
      refine G.skip ?_
      refine G.thenN ?_
      refine G.seq ?_
      refine G.seq ?_
      refine G.region ?_
      (first | refine G.v (rv_field rfl) rfl ?_ | refine G.v (rv_fieldE rfl) rfl ?_)
      (first | refine G.v (rv_load1 0 rfl rfl rfl) rfl ?_ | refine G.v (rv_load1 1 rfl rfl rfl) rfl ?_)
      (first | refine G.v (rv_field rfl) rfl ?_ | refine G.v (rv_fieldE rfl) rfl ?_)
      (first | refine G.v (rv_load1 0 rfl rfl rfl) rfl ?_ | refine G.v (rv_load1 1 rfl rfl rfl) rfl ?_)
      refine G.op (og_callV rfl rfl (fun w hh => eqSpotS_any w (Rd.stays h3 _ hh) (Rd.stays h3' _ hh))) rfl (fun _ _ => ?_)
      refine G.v (rv_not rfl) rfl ?_
      refine G.done ?_
      refine G.thenN ?_
      refine G.cond rfl (fun hc => ?_) (fun hc => ?_)
      · try exact Bool.noConfusion hc
        all_goals
         try replace hc := of_decide_eq_true hc
         try (exfalso; first | contradiction | omega)
         all_goals
          refine G.seq ?_
          refine G.region ?_
          refine G.v (rv_assign rfl) rfl ?_
          refine G.done ?_
          refine G.thenN ?_
          refine G.ret ?_
          refine G.thenR ?_
          refine G.retFV rfl rfl (congrArg Value.bool ?_); simp_all
      · try exact Bool.noConfusion hc
        all_goals
         try replace hc := of_decide_eq_false hc
         try (exfalso; first | contradiction | omega)
         all_goals
          refine G.skip ?_
          refine G.thenN ?_
          refine G.seq ?_
          refine G.region ?_
          refine G.v (rv_assign rfl) rfl ?_
          refine G.done ?_
          refine G.thenN ?_
          refine G.ret ?_
          refine G.retFV rfl rfl (congrArg Value.bool ?_); simp_all
end Go.Proofs.Ytdbpdgpaacojgaa
