/-
  What lies on a pallet.
-/
import Derived.Test.YtdbpdgpaacojgaaPlan2
namespace Go.Proofs.Ytdbpdgpaacojgaa
open Go.RowKit
attribute [local irreducible] Go.wpList Go.Code.wp Go.Exit.then Go.Exit.inBlock Go.bodyPost Go.Calls pE pB G RunsV FnV Fn FnM
set_option maxRecDepth 100000
set_option maxHeartbeats 1000000
def onP (k : Int) (s : SpotM) : Bool := decide (s.p = k)
def onPalletM (n : Nat) (ss : List SpotM) (k : Int) : List Int := if ss.length = n then whereG (onP k) ss else []
theorem onPallet_len (n : Nat) (ss : List SpotM) (k : Int) : (onPalletM n ss k).length ≤ ss.length := by
  unfold onPalletM; split
  · exact where_len _ _
  · simp
theorem onPallet_any {cv sv : Value} {cs : List (CartonM × Value)} {ss : List SpotM} {z : Int} (w : World) (h : Rd w cv 3 (cs.map CartonM.cells)) (h3 : Rd w sv 4 (ss.map SpotM.cells)) (hb : ss.length ≤ 1048576) :
    Fn Try.prog 30 [.agg [cv, sv].toArray, .int .i64 z] w (fun v : Value => v.oneCell' = true) (fun v => v) (fun v => [.row v 3 1 ((onPalletM cs.length ss z).map icell)]) := by
  have hle := h3.le_map
  refine Fn.of (n := 34) Try.func30 rfl rfl ?_
  refine G.seq ?_
  refine G.region ?_
  refine G.op (og_box rfl rfl) rfl (fun bk2 _ => ?_)
  refine G.v (rv_assign rfl) rfl ?_
  refine G.done ?_
  refine G.thenN ?_
  refine G.seq ?_
  refine G.seq ?_
  refine G.region ?_
  (first | refine G.v (rv_field rfl) rfl ?_ | refine G.v (rv_fieldE rfl) rfl ?_)
  (first | refine G.v (rv_load1 0 rfl rfl rfl) rfl ?_ | refine G.v (rv_load1 1 rfl rfl rfl) rfl ?_ | refine G.v (rv_load1 2 rfl rfl rfl) rfl ?_ | refine G.v (rv_load1 3 rfl rfl rfl) rfl ?_)
  refine G.v (rv_len rfl (by first | exact Rd.stays (by assumption) | exact Rd.owned 0 rfl | exact Rd.owned 1 rfl | exact Rd.owned 2 rfl | exact Rd.owned 3 rfl)) rfl ?_
  (first | refine G.v (rv_field rfl) rfl ?_ | refine G.v (rv_fieldE rfl) rfl ?_)
  (first | refine G.v (rv_load1 0 rfl rfl rfl) rfl ?_ | refine G.v (rv_load1 1 rfl rfl rfl) rfl ?_ | refine G.v (rv_load1 2 rfl rfl rfl) rfl ?_ | refine G.v (rv_load1 3 rfl rfl rfl) rfl ?_)
  refine G.v (rv_len rfl (by first | exact Rd.stays (by assumption) | exact Rd.owned 0 rfl | exact Rd.owned 1 rfl | exact Rd.owned 2 rfl | exact Rd.owned 3 rfl)) rfl ?_
  refine G.v (rv_neq rfl rfl) rfl ?_
  refine G.done ?_
  refine G.thenN ?_
  refine G.cond rfl (fun hc => ?_) (fun hc => ?_)
  · try exact Bool.noConfusion hc
    all_goals
     try replace hc := of_decide_eq_true hc
     try simp only [List.length_map] at hc
     try (exfalso; first | contradiction | omega)
     all_goals
      refine G.seq ?_
      refine G.region ?_
      refine G.v (rv_assign rfl) rfl ?_
      refine G.done ?_
      refine G.thenN ?_
      refine G.ret ?_
      refine G.thenR ?_
      first | (refine G.know (fun w hw => (Rd.owned 0 rfl w hw).one_) (fun hone => G.retF v2 hone rfl rfl rfl (fun w hw => by rw [onPalletM, if_pos hl, ← take_all hlt]; exact hw.sublist (by repeat (first | exact List.Sublist.refl _ | refine List.Sublist.cons_cons _ ?_ | refine List.Sublist.cons _ ?_)))); done) | exact G.retF (.slice none 0 0) rfl rfl rfl rfl (fun w hw => by rw [onPalletM, if_neg (by omega)]; exact hw.none.nilRow _ _)
  · try exact Bool.noConfusion hc
    all_goals
     try replace hc := of_decide_eq_false hc
     try simp only [List.length_map] at hc
     try (exfalso; first | contradiction | omega)
     all_goals
      refine G.skip ?_
      refine G.thenN ?_
      refine G.seq ?_
      refine G.region ?_
      refine G.op (og_lit rfl .nil rfl rfl rfl rfl rfl rfl) rfl (fun vl _ => ?_)
      refine G.v (rv_assign rfl) rfl ?_
      refine G.done ?_
      refine G.thenN ?_
      refine G.seq ?_
      refine G.seq ?_
      refine G.region ?_
      (first | refine G.v (rv_field rfl) rfl ?_ | refine G.v (rv_fieldE rfl) rfl ?_)
      (first | refine G.v (rv_load1 0 rfl rfl rfl) rfl ?_ | refine G.v (rv_load1 1 rfl rfl rfl) rfl ?_ | refine G.v (rv_load1 2 rfl rfl rfl) rfl ?_ | refine G.v (rv_load1 3 rfl rfl rfl) rfl ?_)
      refine G.v (rv_len rfl (by first | exact Rd.stays (by assumption) | exact Rd.owned 0 rfl | exact Rd.owned 1 rfl | exact Rd.owned 2 rfl | exact Rd.owned 3 rfl)) rfl ?_
      refine G.v (rv_move rfl) rfl ?_
      refine G.done ?_
      refine G.thenN ?_
      refine G.block ?_
      -- loop 0: turned [5, 19], kept [1, 17, 18]
      have hl : ss.length = cs.length := by omega
      refine G.loopK (ι := Nat × Value) (ks := [1, 17, 18]) (fun x => [(5, x.2), (19, .int .i64 x.1)]) (fun x => [.row x.2 3 1 ((whereG (onP z) (ss.take x.1)).map icell)]) (fun x => x.1 ≤ ss.length) (fun x => ss.length - x.1) (0, vl) (.cons rfl (.cons rfl (.cons rfl (.nil)))) rfl ?_ ?_ ?_
      · exact Nat.zero_le _
      · exact ⟨rfl, rfl, trivial⟩
      rintro ⟨k, v2⟩ hk
      have hwl := where_len (onP z) (ss.take k)
      have htl : (ss.take k).length ≤ k := by (rw [List.length_take]; omega)
      by_cases hlt : k < ss.length
      case' pos => (obtain ⟨b, hb2⟩ := get_of_lt hlt; have he := get_map hb2 SpotM.cells)
      all_goals
       refine G.seq ?_
       refine G.region ?_
       refine G.v (rv_lss rfl rfl) rfl ?_
       refine G.done ?_
       refine G.thenN ?_
       refine G.seq ?_
       refine G.cond rfl (fun hc => ?_) (fun hc => ?_)
       · try exact Bool.noConfusion hc
         all_goals
          try replace hc := of_decide_eq_true hc
          try simp only [List.length_map] at hc
          try (exfalso; first | contradiction | omega)
          all_goals
           refine G.skip ?_
           refine G.thenN ?_
           refine G.seq ?_
           refine G.block ?_
           refine G.seq ?_
           refine G.region ?_
           refine G.v (rv_move rfl) rfl ?_
           (first | refine G.v (rv_indexH rfl rfl (by first | exact Rd.stays (by assumption) | exact Rd.owned 0 rfl | exact Rd.owned 1 rfl | exact Rd.owned 2 rfl | exact Rd.owned 3 rfl) rfl (by assumption)) rfl ?_ | refine G.v (rv_index rfl rfl (by first | exact Rd.stays (by assumption) | exact Rd.owned 0 rfl | exact Rd.owned 1 rfl | exact Rd.owned 2 rfl | exact Rd.owned 3 rfl) rfl (by assumption)) rfl ?_)
           (first | refine G.v (rv_loadEW rfl (by first | exact Rd.stays (by assumption) | exact Rd.owned 0 rfl | exact Rd.owned 1 rfl | exact Rd.owned 2 rfl | exact Rd.owned 3 rfl) (by assumption) rfl) rfl ?_ | refine G.v (rv_loadEP rfl (by first | exact Rd.stays (by assumption) | exact Rd.owned 0 rfl | exact Rd.owned 1 rfl | exact Rd.owned 2 rfl | exact Rd.owned 3 rfl) (by assumption) (.one (.one (.one (.one .nil))))) rfl ?_)
           refine G.op (og_alloc) rfl (fun bk7 _ => ?_)
           refine G.v (rv_assign rfl) rfl ?_
           (first | refine G.op0 (og_st0 rfl rfl rfl rfl rfl rfl (.zero (.cons (.cons (.cons (.cons .nil)))))) (fun _ _ => ?_) | refine G.op0 (og_st1 rfl rfl rfl rfl rfl rfl (.zero (.cons (.cons (.cons (.cons .nil)))))) (fun _ _ => ?_) | refine G.op0 (og_st2 rfl rfl rfl rfl rfl rfl (.zero (.cons (.cons (.cons (.cons .nil)))))) (fun _ _ => ?_) | refine G.op0 (og_st3 rfl rfl rfl rfl rfl rfl (.zero (.cons (.cons (.cons (.cons .nil)))))) (fun _ _ => ?_))
           refine G.done ?_
           refine G.thenN ?_
           refine G.seq ?_
           refine G.region ?_
           (first | refine G.v (rv_field rfl) rfl ?_ | refine G.v (rv_fieldE rfl) rfl ?_)
           (first | refine G.v (rv_load1 0 rfl rfl rfl) rfl ?_ | refine G.v (rv_load1 1 rfl rfl rfl) rfl ?_ | refine G.v (rv_load1 2 rfl rfl rfl) rfl ?_ | refine G.v (rv_load1 3 rfl rfl rfl) rfl ?_)
           refine G.v (rv_move rfl) rfl ?_
           refine G.v (rv_eql rfl rfl) rfl ?_
           refine G.done ?_
           refine G.thenN ?_
           refine G.cond rfl (fun hc => ?_) (fun hc => ?_)
           · try exact Bool.noConfusion hc
             all_goals
              try replace hc := of_decide_eq_true hc
              try simp only [List.length_map] at hc
              try (exfalso; first | contradiction | omega)
              all_goals
               refine G.region ?_
               refine G.v (rv_move rfl) rfl ?_
               refine G.v (rv_move rfl) rfl ?_
               refine G.op (og_lit rfl (.cons rfl .nil) rfl rfl rfl rfl rfl rfl) rfl (fun vl _ => ?_)
               (first | refine G.op (og_app0 rfl rfl rfl (by first | exact Rd.stays (by assumption) | exact Rd.owned 0 rfl | exact Rd.owned 1 rfl | exact Rd.owned 2 rfl | exact Rd.owned 3 rfl) rfl rfl (by simp; omega) (by simp; omega)) rfl (fun va _ => ?_) | refine G.op (og_app1 rfl rfl rfl (by first | exact Rd.stays (by assumption) | exact Rd.owned 0 rfl | exact Rd.owned 1 rfl | exact Rd.owned 2 rfl | exact Rd.owned 3 rfl) rfl rfl (by simp; omega) (by simp; omega)) rfl (fun va _ => ?_) | refine G.op (og_app2 rfl rfl rfl (by first | exact Rd.stays (by assumption) | exact Rd.owned 0 rfl | exact Rd.owned 1 rfl | exact Rd.owned 2 rfl | exact Rd.owned 3 rfl) rfl rfl (by simp; omega) (by simp; omega)) rfl (fun va _ => ?_) | refine G.op (og_app3 rfl rfl rfl (by first | exact Rd.stays (by assumption) | exact Rd.owned 0 rfl | exact Rd.owned 1 rfl | exact Rd.owned 2 rfl | exact Rd.owned 3 rfl) rfl rfl (by simp; omega) (by simp; omega)) rfl (fun va _ => ?_))
               refine G.v (rv_assign rfl) rfl ?_
               refine G.done ?_
               refine G.inN ?_
               refine G.thenN ?_
               refine G.region ?_
               (first | refine G.v (rv_incr rfl rfl (by omega)) rfl ?_ | refine G.v (rv_addB rfl rfl (by omega) (by omega)) rfl ?_)
               refine G.v (rv_move rfl) rfl ?_
               refine G.done ?_
               first | refine G.backK (k + 1, va) 0 (by first | exact one_eq (congrArg (fun z => Ch.row _ 3 1 z) (where_yes hb2 (decide_eq_true hc))) | exact one_eq (congrArg (fun z => Ch.row _ 3 1 z) (where_no hb2 (decide_eq_false hc)))) (.cons rfl (.cons rfl (.cons rfl (.nil)))) ?_ ?_ ?_ | refine G.backK (k + 1, va) 1 (by first | exact one_eq (congrArg (fun z => Ch.row _ 3 1 z) (where_yes hb2 (decide_eq_true hc))) | exact one_eq (congrArg (fun z => Ch.row _ 3 1 z) (where_no hb2 (decide_eq_false hc)))) (.cons rfl (.cons rfl (.cons rfl (.nil)))) ?_ ?_ ?_ | refine G.backK (k + 1, va) 2 (by first | exact one_eq (congrArg (fun z => Ch.row _ 3 1 z) (where_yes hb2 (decide_eq_true hc))) | exact one_eq (congrArg (fun z => Ch.row _ 3 1 z) (where_no hb2 (decide_eq_false hc)))) (.cons rfl (.cons rfl (.cons rfl (.nil)))) ?_ ?_ ?_ | refine G.backK (k + 1, va) 3 (by first | exact one_eq (congrArg (fun z => Ch.row _ 3 1 z) (where_yes hb2 (decide_eq_true hc))) | exact one_eq (congrArg (fun z => Ch.row _ 3 1 z) (where_no hb2 (decide_eq_false hc)))) (.cons rfl (.cons rfl (.cons rfl (.nil)))) ?_ ?_ ?_ | refine G.backK (k + 1, v2) 0 (by first | exact one_eq (congrArg (fun z => Ch.row _ 3 1 z) (where_yes hb2 (decide_eq_true hc))) | exact one_eq (congrArg (fun z => Ch.row _ 3 1 z) (where_no hb2 (decide_eq_false hc)))) (.cons rfl (.cons rfl (.cons rfl (.nil)))) ?_ ?_ ?_ | refine G.backK (k + 1, v2) 1 (by first | exact one_eq (congrArg (fun z => Ch.row _ 3 1 z) (where_yes hb2 (decide_eq_true hc))) | exact one_eq (congrArg (fun z => Ch.row _ 3 1 z) (where_no hb2 (decide_eq_false hc)))) (.cons rfl (.cons rfl (.cons rfl (.nil)))) ?_ ?_ ?_ | refine G.backK (k + 1, v2) 2 (by first | exact one_eq (congrArg (fun z => Ch.row _ 3 1 z) (where_yes hb2 (decide_eq_true hc))) | exact one_eq (congrArg (fun z => Ch.row _ 3 1 z) (where_no hb2 (decide_eq_false hc)))) (.cons rfl (.cons rfl (.cons rfl (.nil)))) ?_ ?_ ?_ | refine G.backK (k + 1, v2) 3 (by first | exact one_eq (congrArg (fun z => Ch.row _ 3 1 z) (where_yes hb2 (decide_eq_true hc))) | exact one_eq (congrArg (fun z => Ch.row _ 3 1 z) (where_no hb2 (decide_eq_false hc)))) (.cons rfl (.cons rfl (.cons rfl (.nil)))) ?_ ?_ ?_
               · exact ⟨rfl, rfl, trivial⟩
               · exact hlt
               · omega
           · try exact Bool.noConfusion hc
             all_goals
              try replace hc := of_decide_eq_false hc
              try simp only [List.length_map] at hc
              try (exfalso; first | contradiction | omega)
              all_goals
               refine G.skip ?_
               refine G.inN ?_
               refine G.thenN ?_
               refine G.region ?_
               (first | refine G.v (rv_incr rfl rfl (by omega)) rfl ?_ | refine G.v (rv_addB rfl rfl (by omega) (by omega)) rfl ?_)
               refine G.v (rv_move rfl) rfl ?_
               refine G.done ?_
               first | refine G.backK (k + 1, va) 0 (by first | exact one_eq (congrArg (fun z => Ch.row _ 3 1 z) (where_yes hb2 (decide_eq_true hc))) | exact one_eq (congrArg (fun z => Ch.row _ 3 1 z) (where_no hb2 (decide_eq_false hc)))) (.cons rfl (.cons rfl (.cons rfl (.nil)))) ?_ ?_ ?_ | refine G.backK (k + 1, va) 1 (by first | exact one_eq (congrArg (fun z => Ch.row _ 3 1 z) (where_yes hb2 (decide_eq_true hc))) | exact one_eq (congrArg (fun z => Ch.row _ 3 1 z) (where_no hb2 (decide_eq_false hc)))) (.cons rfl (.cons rfl (.cons rfl (.nil)))) ?_ ?_ ?_ | refine G.backK (k + 1, va) 2 (by first | exact one_eq (congrArg (fun z => Ch.row _ 3 1 z) (where_yes hb2 (decide_eq_true hc))) | exact one_eq (congrArg (fun z => Ch.row _ 3 1 z) (where_no hb2 (decide_eq_false hc)))) (.cons rfl (.cons rfl (.cons rfl (.nil)))) ?_ ?_ ?_ | refine G.backK (k + 1, va) 3 (by first | exact one_eq (congrArg (fun z => Ch.row _ 3 1 z) (where_yes hb2 (decide_eq_true hc))) | exact one_eq (congrArg (fun z => Ch.row _ 3 1 z) (where_no hb2 (decide_eq_false hc)))) (.cons rfl (.cons rfl (.cons rfl (.nil)))) ?_ ?_ ?_ | refine G.backK (k + 1, v2) 0 (by first | exact one_eq (congrArg (fun z => Ch.row _ 3 1 z) (where_yes hb2 (decide_eq_true hc))) | exact one_eq (congrArg (fun z => Ch.row _ 3 1 z) (where_no hb2 (decide_eq_false hc)))) (.cons rfl (.cons rfl (.cons rfl (.nil)))) ?_ ?_ ?_ | refine G.backK (k + 1, v2) 1 (by first | exact one_eq (congrArg (fun z => Ch.row _ 3 1 z) (where_yes hb2 (decide_eq_true hc))) | exact one_eq (congrArg (fun z => Ch.row _ 3 1 z) (where_no hb2 (decide_eq_false hc)))) (.cons rfl (.cons rfl (.cons rfl (.nil)))) ?_ ?_ ?_ | refine G.backK (k + 1, v2) 2 (by first | exact one_eq (congrArg (fun z => Ch.row _ 3 1 z) (where_yes hb2 (decide_eq_true hc))) | exact one_eq (congrArg (fun z => Ch.row _ 3 1 z) (where_no hb2 (decide_eq_false hc)))) (.cons rfl (.cons rfl (.cons rfl (.nil)))) ?_ ?_ ?_ | refine G.backK (k + 1, v2) 3 (by first | exact one_eq (congrArg (fun z => Ch.row _ 3 1 z) (where_yes hb2 (decide_eq_true hc))) | exact one_eq (congrArg (fun z => Ch.row _ 3 1 z) (where_no hb2 (decide_eq_false hc)))) (.cons rfl (.cons rfl (.cons rfl (.nil)))) ?_ ?_ ?_
               · exact ⟨rfl, rfl, trivial⟩
               · exact hlt
               · omega
       · try exact Bool.noConfusion hc
         all_goals
          try replace hc := of_decide_eq_false hc
          try simp only [List.length_map] at hc
          try (exfalso; first | contradiction | omega)
          all_goals
           refine G.exit ?_
           refine G.thenX ?_
           refine G.thenX ?_
           refine G.inX ?_
           refine G.thenN ?_
           refine G.seq ?_
           refine G.region ?_
           refine G.v (rv_move rfl) rfl ?_
           refine G.v (rv_assign rfl) rfl ?_
           refine G.done ?_
           refine G.thenN ?_
           refine G.ret ?_
           first | (refine G.know (fun w hw => (Rd.owned 0 rfl w hw).one_) (fun hone => G.retF v2 hone rfl rfl rfl (fun w hw => by rw [onPalletM, if_pos hl, ← take_all hlt]; exact hw.sublist (by repeat (first | exact List.Sublist.refl _ | refine List.Sublist.cons_cons _ ?_ | refine List.Sublist.cons _ ?_)))); done) | exact G.retF (.slice none 0 0) rfl rfl rfl rfl (fun w hw => by rw [onPalletM, if_neg (by omega)]; exact hw.none.nilRow _ _)
theorem onPallet_n {cv sv : Value} {cs : List (CartonM × Value)} {ss : List SpotM} {z : Int} {n : Nat} (w : World) (h : Rd w cv 3 (cs.map CartonM.cells)) (h3 : Rd w sv 4 (ss.map SpotM.cells)) (hb : ss.length ≤ 1048576) (hn : cs.length = n) :
    Fn Try.prog 30 [.agg [cv, sv].toArray, .int .i64 z] w (fun v : Value => v.oneCell' = true) (fun v => v) (fun v => [.row v 3 1 ((onPalletM n ss z).map icell)]) := hn ▸ onPallet_any w h h3 hb
theorem sonPallet_yes {cv sv : Value} {cs : List (CartonM × Value)} {ss : List SpotM} {z : Int} (w : World) (h : Rd w cv 3 (cs.map CartonM.cells)) (h3 : Rd w sv 4 (ss.map SpotM.cells)) (hb : ss.length ≤ 1048576) (hl : ss.length = cs.length) :
    Fn Try.prog 29 [.agg [cv, sv].toArray, .int .i64 z] w (fun v : Value => v.oneCell' = true) (fun v => v) (fun v => [.row v 3 1 ((onPalletM cs.length ss z).map icell)]) := by
  have hle := h3.le_map
  refine Fn.of (n := 37) Try.func29 rfl rfl ?_
  refine G.seq ?_
  refine G.region ?_
  refine G.op (og_box rfl rfl) rfl (fun bk2 _ => ?_)
  refine G.v (rv_assign rfl) rfl ?_
  refine G.done ?_
  refine G.thenN ?_
  refine G.seq ?_
  refine G.region ?_
  refine G.op (og_lit rfl .nil rfl rfl rfl rfl rfl rfl) rfl (fun vl _ => ?_)
  refine G.v (rv_assign rfl) rfl ?_
  refine G.done ?_
  refine G.thenN ?_
  refine G.seq ?_
  refine G.seq ?_
  refine G.region ?_
  refine G.v (rv_assign rfl) rfl ?_
  refine G.done ?_
  refine G.thenN ?_
  refine G.block ?_
  -- loop 0: turned [5, 6], kept [1, 2]
  refine G.loopK (ι := Nat × Value) (ks := [1, 2]) (fun x => [(5, x.2), (6, .int .i64 x.1)]) (fun x => [.row x.2 3 1 ((whereG (onP z) (ss.take x.1)).map icell)]) (fun x => x.1 ≤ ss.length) (fun x => ss.length - x.1) (0, vl) (.cons rfl (.cons rfl (.nil))) rfl ?_ ?_ ?_
  · exact Nat.zero_le _
  · exact ⟨rfl, rfl, trivial⟩
  rintro ⟨k, v2⟩ hk
  have hwl := where_len (onP z) (ss.take k)
  have htl : (ss.take k).length ≤ k := by (rw [List.length_take]; omega)
  by_cases hlt : k < ss.length
  case' pos => (obtain ⟨b, hb2⟩ := get_of_lt hlt; have he := get_map hb2 SpotM.cells)
  all_goals
   refine G.seq ?_
   refine G.seq ?_
   refine G.region ?_
   refine G.v (rv_move rfl) rfl ?_
   (first | refine G.v (rv_field rfl) rfl ?_ | refine G.v (rv_fieldE rfl) rfl ?_)
   (first | refine G.v (rv_load1 0 rfl rfl rfl) rfl ?_ | refine G.v (rv_load1 1 rfl rfl rfl) rfl ?_ | refine G.v (rv_load1 2 rfl rfl rfl) rfl ?_ | refine G.v (rv_load1 3 rfl rfl rfl) rfl ?_)
   refine G.v (rv_len rfl (by first | exact Rd.stays (by assumption) | exact Rd.owned 0 rfl | exact Rd.owned 1 rfl | exact Rd.owned 2 rfl | exact Rd.owned 3 rfl)) rfl ?_
   refine G.v (rv_lss rfl rfl) rfl ?_
   refine G.v (rv_move rfl) rfl ?_
   all_goals (((with_reducible refine G.gP rfl rfl (fun hg => ?_) (fun hg => ?_)) <;> (try exact Bool.noConfusion hg) <;> (first | (refine G.gY rfl rfl ?_; (first | refine G.v (rv_field rfl) rfl ?_ | refine G.v (rv_fieldE rfl) rfl ?_)) | refine G.gN rfl rfl rfl ?_ | refine G.gU rfl rfl rfl ?_)))
   all_goals ((first | (refine G.gY rfl rfl ?_; (first | refine G.v (rv_load1 0 rfl rfl rfl) rfl ?_ | refine G.v (rv_load1 1 rfl rfl rfl) rfl ?_ | refine G.v (rv_load1 2 rfl rfl rfl) rfl ?_ | refine G.v (rv_load1 3 rfl rfl rfl) rfl ?_)) | refine G.gN rfl rfl rfl ?_ | refine G.gU rfl rfl rfl ?_))
   all_goals ((first | (refine G.gY rfl rfl ?_; refine G.v (rv_len rfl (by first | exact Rd.stays (by assumption) | exact Rd.owned 0 rfl | exact Rd.owned 1 rfl | exact Rd.owned 2 rfl | exact Rd.owned 3 rfl)) rfl ?_) | refine G.gN rfl rfl rfl ?_ | refine G.gU rfl rfl rfl ?_))
   all_goals ((first | (refine G.gY rfl rfl ?_; (first | refine G.v (rv_field rfl) rfl ?_ | refine G.v (rv_fieldE rfl) rfl ?_)) | refine G.gN rfl rfl rfl ?_ | refine G.gU rfl rfl rfl ?_))
   all_goals ((first | (refine G.gY rfl rfl ?_; (first | refine G.v (rv_load1 0 rfl rfl rfl) rfl ?_ | refine G.v (rv_load1 1 rfl rfl rfl) rfl ?_ | refine G.v (rv_load1 2 rfl rfl rfl) rfl ?_ | refine G.v (rv_load1 3 rfl rfl rfl) rfl ?_)) | refine G.gN rfl rfl rfl ?_ | refine G.gU rfl rfl rfl ?_))
   all_goals ((first | (refine G.gY rfl rfl ?_; refine G.v (rv_len rfl (by first | exact Rd.stays (by assumption) | exact Rd.owned 0 rfl | exact Rd.owned 1 rfl | exact Rd.owned 2 rfl | exact Rd.owned 3 rfl)) rfl ?_) | refine G.gN rfl rfl rfl ?_ | refine G.gU rfl rfl rfl ?_))
   all_goals ((first | (refine G.gY rfl rfl ?_; refine G.v (rv_eql rfl rfl) rfl ?_) | refine G.gN rfl rfl rfl ?_ | refine G.gU rfl rfl rfl ?_))
   all_goals ((first | refine G.v (rv_pickT rfl rfl) rfl ?_ | refine G.v (rv_pickF rfl rfl) rfl ?_))
   all_goals
    refine G.done ?_
    refine G.thenN ?_
    refine G.cond rfl (fun hc => ?_) (fun hc => ?_)
    · try exact Bool.noConfusion hc
      all_goals
       try replace hc := of_decide_eq_true hc
       try (exfalso; have hq := of_decide_eq_true hg; simp only [List.length_map] at hq; omega)
       try simp only [List.length_map] at hc
       try (exfalso; first | contradiction | omega)
       all_goals
        refine G.skip ?_
        refine G.thenN ?_
        refine G.seq ?_
        refine G.block ?_
        refine G.seq ?_
        refine G.region ?_
        (first | refine G.v (rv_field rfl) rfl ?_ | refine G.v (rv_fieldE rfl) rfl ?_)
        (first | refine G.v (rv_load1 0 rfl rfl rfl) rfl ?_ | refine G.v (rv_load1 1 rfl rfl rfl) rfl ?_ | refine G.v (rv_load1 2 rfl rfl rfl) rfl ?_ | refine G.v (rv_load1 3 rfl rfl rfl) rfl ?_)
        refine G.v (rv_move rfl) rfl ?_
        (first | refine G.v (rv_indexH rfl rfl (by first | exact Rd.stays (by assumption) | exact Rd.owned 0 rfl | exact Rd.owned 1 rfl | exact Rd.owned 2 rfl | exact Rd.owned 3 rfl) rfl (by assumption)) rfl ?_ | refine G.v (rv_index rfl rfl (by first | exact Rd.stays (by assumption) | exact Rd.owned 0 rfl | exact Rd.owned 1 rfl | exact Rd.owned 2 rfl | exact Rd.owned 3 rfl) rfl (by assumption)) rfl ?_)
        (first | refine G.v (rv_field rfl) rfl ?_ | refine G.v (rv_fieldE rfl) rfl ?_)
        refine G.v (rv_loadE rfl (by first | exact Rd.stays (by assumption) | exact Rd.owned 0 rfl | exact Rd.owned 1 rfl | exact Rd.owned 2 rfl | exact Rd.owned 3 rfl) (by assumption) rfl) rfl ?_
        refine G.v (rv_move rfl) rfl ?_
        refine G.v (rv_eql rfl rfl) rfl ?_
        refine G.done ?_
        refine G.thenN ?_
        refine G.cond rfl (fun hc => ?_) (fun hc => ?_)
        · try exact Bool.noConfusion hc
          all_goals
           try replace hc := of_decide_eq_true hc
           try (exfalso; have hq := of_decide_eq_true hg; simp only [List.length_map] at hq; omega)
           try simp only [List.length_map] at hc
           try (exfalso; first | contradiction | omega)
           all_goals
            refine G.region ?_
            refine G.v (rv_move rfl) rfl ?_
            refine G.v (rv_move rfl) rfl ?_
            refine G.op (og_lit rfl (.cons rfl .nil) rfl rfl rfl rfl rfl rfl) rfl (fun vl _ => ?_)
            (first | refine G.op (og_app0 rfl rfl rfl (by first | exact Rd.stays (by assumption) | exact Rd.owned 0 rfl | exact Rd.owned 1 rfl | exact Rd.owned 2 rfl | exact Rd.owned 3 rfl) rfl rfl (by simp; omega) (by simp; omega)) rfl (fun va _ => ?_) | refine G.op (og_app1 rfl rfl rfl (by first | exact Rd.stays (by assumption) | exact Rd.owned 0 rfl | exact Rd.owned 1 rfl | exact Rd.owned 2 rfl | exact Rd.owned 3 rfl) rfl rfl (by simp; omega) (by simp; omega)) rfl (fun va _ => ?_) | refine G.op (og_app2 rfl rfl rfl (by first | exact Rd.stays (by assumption) | exact Rd.owned 0 rfl | exact Rd.owned 1 rfl | exact Rd.owned 2 rfl | exact Rd.owned 3 rfl) rfl rfl (by simp; omega) (by simp; omega)) rfl (fun va _ => ?_) | refine G.op (og_app3 rfl rfl rfl (by first | exact Rd.stays (by assumption) | exact Rd.owned 0 rfl | exact Rd.owned 1 rfl | exact Rd.owned 2 rfl | exact Rd.owned 3 rfl) rfl rfl (by simp; omega) (by simp; omega)) rfl (fun va _ => ?_))
            refine G.v (rv_assign rfl) rfl ?_
            refine G.done ?_
            refine G.inN ?_
            refine G.thenN ?_
            refine G.region ?_
            refine G.v (rv_move rfl) rfl ?_
            (first | refine G.v (rv_incr rfl rfl (by omega)) rfl ?_ | refine G.v (rv_addB rfl rfl (by omega) (by omega)) rfl ?_)
            refine G.v (rv_assign rfl) rfl ?_
            refine G.done ?_
            first | refine G.backK (k + 1, va) 0 (by first | exact one_eq (congrArg (fun z => Ch.row _ 3 1 z) (where_yes hb2 (decide_eq_true hc))) | exact one_eq (congrArg (fun z => Ch.row _ 3 1 z) (where_no hb2 (decide_eq_false hc)))) (.cons rfl (.cons rfl (.nil))) ?_ ?_ ?_ | refine G.backK (k + 1, va) 1 (by first | exact one_eq (congrArg (fun z => Ch.row _ 3 1 z) (where_yes hb2 (decide_eq_true hc))) | exact one_eq (congrArg (fun z => Ch.row _ 3 1 z) (where_no hb2 (decide_eq_false hc)))) (.cons rfl (.cons rfl (.nil))) ?_ ?_ ?_ | refine G.backK (k + 1, va) 2 (by first | exact one_eq (congrArg (fun z => Ch.row _ 3 1 z) (where_yes hb2 (decide_eq_true hc))) | exact one_eq (congrArg (fun z => Ch.row _ 3 1 z) (where_no hb2 (decide_eq_false hc)))) (.cons rfl (.cons rfl (.nil))) ?_ ?_ ?_ | refine G.backK (k + 1, va) 3 (by first | exact one_eq (congrArg (fun z => Ch.row _ 3 1 z) (where_yes hb2 (decide_eq_true hc))) | exact one_eq (congrArg (fun z => Ch.row _ 3 1 z) (where_no hb2 (decide_eq_false hc)))) (.cons rfl (.cons rfl (.nil))) ?_ ?_ ?_ | refine G.backK (k + 1, v2) 0 (by first | exact one_eq (congrArg (fun z => Ch.row _ 3 1 z) (where_yes hb2 (decide_eq_true hc))) | exact one_eq (congrArg (fun z => Ch.row _ 3 1 z) (where_no hb2 (decide_eq_false hc)))) (.cons rfl (.cons rfl (.nil))) ?_ ?_ ?_ | refine G.backK (k + 1, v2) 1 (by first | exact one_eq (congrArg (fun z => Ch.row _ 3 1 z) (where_yes hb2 (decide_eq_true hc))) | exact one_eq (congrArg (fun z => Ch.row _ 3 1 z) (where_no hb2 (decide_eq_false hc)))) (.cons rfl (.cons rfl (.nil))) ?_ ?_ ?_ | refine G.backK (k + 1, v2) 2 (by first | exact one_eq (congrArg (fun z => Ch.row _ 3 1 z) (where_yes hb2 (decide_eq_true hc))) | exact one_eq (congrArg (fun z => Ch.row _ 3 1 z) (where_no hb2 (decide_eq_false hc)))) (.cons rfl (.cons rfl (.nil))) ?_ ?_ ?_ | refine G.backK (k + 1, v2) 3 (by first | exact one_eq (congrArg (fun z => Ch.row _ 3 1 z) (where_yes hb2 (decide_eq_true hc))) | exact one_eq (congrArg (fun z => Ch.row _ 3 1 z) (where_no hb2 (decide_eq_false hc)))) (.cons rfl (.cons rfl (.nil))) ?_ ?_ ?_
            · exact ⟨rfl, rfl, trivial⟩
            · exact hlt
            · omega
        · try exact Bool.noConfusion hc
          all_goals
           try replace hc := of_decide_eq_false hc
           try (exfalso; have hq := of_decide_eq_true hg; simp only [List.length_map] at hq; omega)
           try simp only [List.length_map] at hc
           try (exfalso; first | contradiction | omega)
           all_goals
            refine G.skip ?_
            refine G.inN ?_
            refine G.thenN ?_
            refine G.region ?_
            refine G.v (rv_move rfl) rfl ?_
            (first | refine G.v (rv_incr rfl rfl (by omega)) rfl ?_ | refine G.v (rv_addB rfl rfl (by omega) (by omega)) rfl ?_)
            refine G.v (rv_assign rfl) rfl ?_
            refine G.done ?_
            first | refine G.backK (k + 1, va) 0 (by first | exact one_eq (congrArg (fun z => Ch.row _ 3 1 z) (where_yes hb2 (decide_eq_true hc))) | exact one_eq (congrArg (fun z => Ch.row _ 3 1 z) (where_no hb2 (decide_eq_false hc)))) (.cons rfl (.cons rfl (.nil))) ?_ ?_ ?_ | refine G.backK (k + 1, va) 1 (by first | exact one_eq (congrArg (fun z => Ch.row _ 3 1 z) (where_yes hb2 (decide_eq_true hc))) | exact one_eq (congrArg (fun z => Ch.row _ 3 1 z) (where_no hb2 (decide_eq_false hc)))) (.cons rfl (.cons rfl (.nil))) ?_ ?_ ?_ | refine G.backK (k + 1, va) 2 (by first | exact one_eq (congrArg (fun z => Ch.row _ 3 1 z) (where_yes hb2 (decide_eq_true hc))) | exact one_eq (congrArg (fun z => Ch.row _ 3 1 z) (where_no hb2 (decide_eq_false hc)))) (.cons rfl (.cons rfl (.nil))) ?_ ?_ ?_ | refine G.backK (k + 1, va) 3 (by first | exact one_eq (congrArg (fun z => Ch.row _ 3 1 z) (where_yes hb2 (decide_eq_true hc))) | exact one_eq (congrArg (fun z => Ch.row _ 3 1 z) (where_no hb2 (decide_eq_false hc)))) (.cons rfl (.cons rfl (.nil))) ?_ ?_ ?_ | refine G.backK (k + 1, v2) 0 (by first | exact one_eq (congrArg (fun z => Ch.row _ 3 1 z) (where_yes hb2 (decide_eq_true hc))) | exact one_eq (congrArg (fun z => Ch.row _ 3 1 z) (where_no hb2 (decide_eq_false hc)))) (.cons rfl (.cons rfl (.nil))) ?_ ?_ ?_ | refine G.backK (k + 1, v2) 1 (by first | exact one_eq (congrArg (fun z => Ch.row _ 3 1 z) (where_yes hb2 (decide_eq_true hc))) | exact one_eq (congrArg (fun z => Ch.row _ 3 1 z) (where_no hb2 (decide_eq_false hc)))) (.cons rfl (.cons rfl (.nil))) ?_ ?_ ?_ | refine G.backK (k + 1, v2) 2 (by first | exact one_eq (congrArg (fun z => Ch.row _ 3 1 z) (where_yes hb2 (decide_eq_true hc))) | exact one_eq (congrArg (fun z => Ch.row _ 3 1 z) (where_no hb2 (decide_eq_false hc)))) (.cons rfl (.cons rfl (.nil))) ?_ ?_ ?_ | refine G.backK (k + 1, v2) 3 (by first | exact one_eq (congrArg (fun z => Ch.row _ 3 1 z) (where_yes hb2 (decide_eq_true hc))) | exact one_eq (congrArg (fun z => Ch.row _ 3 1 z) (where_no hb2 (decide_eq_false hc)))) (.cons rfl (.cons rfl (.nil))) ?_ ?_ ?_
            · exact ⟨rfl, rfl, trivial⟩
            · exact hlt
            · omega
    · try exact Bool.noConfusion hc
      all_goals
       try replace hc := of_decide_eq_false hc
       try (exfalso; have hq := of_decide_eq_true hg; simp only [List.length_map] at hq; omega)
       try simp only [List.length_map] at hc
       try (exfalso; first | contradiction | omega)
       all_goals
        refine G.exit ?_
        refine G.thenX ?_
        refine G.thenX ?_
        refine G.inX ?_
        refine G.thenN ?_
        refine G.seq ?_
        refine G.region ?_
        refine G.v (rv_move rfl) rfl ?_
        refine G.v (rv_assign rfl) rfl ?_
        refine G.done ?_
        refine G.thenN ?_
        refine G.ret ?_
        first | (exfalso; have hq := of_decide_eq_false hg; simp only [List.length_map] at hq; omega) | (refine G.know (fun w hw => (Rd.owned 0 rfl w hw).one_) (fun hone => G.retF v2 hone rfl rfl rfl (fun w hw => by rw [onPalletM, if_pos hl, ← take_all (l := ss) (k := k) (by omega)]; exact hw.sublist (by repeat (first | exact List.Sublist.refl _ | refine List.Sublist.cons_cons _ ?_ | refine List.Sublist.cons _ ?_)))); done)
theorem sonPallet_no {cv sv : Value} {cs : List (CartonM × Value)} {ss : List SpotM} {z : Int} (w : World) (h : Rd w cv 3 (cs.map CartonM.cells)) (h3 : Rd w sv 4 (ss.map SpotM.cells)) (hl : ¬ ss.length = cs.length) :
    Fn Try.prog 29 [.agg [cv, sv].toArray, .int .i64 z] w (fun v : Value => v.oneCell' = true) (fun v => v) (fun v => [.row v 3 1 ((onPalletM cs.length ss z).map icell)]) := by
  have hle := h.le_map
  refine Fn.of (n := 37) Try.func29 rfl rfl ?_
  refine G.seq ?_
  refine G.region ?_
  refine G.op (og_box rfl rfl) rfl (fun bk2 _ => ?_)
  refine G.v (rv_assign rfl) rfl ?_
  refine G.done ?_
  refine G.thenN ?_
  refine G.seq ?_
  refine G.region ?_
  refine G.op (og_lit rfl .nil rfl rfl rfl rfl rfl rfl) rfl (fun vl _ => ?_)
  refine G.v (rv_assign rfl) rfl ?_
  refine G.done ?_
  refine G.thenN ?_
  refine G.seq ?_
  refine G.seq ?_
  refine G.region ?_
  refine G.v (rv_assign rfl) rfl ?_
  refine G.done ?_
  refine G.thenN ?_
  refine G.block ?_
  -- loop 0: turned [5, 6], kept [1, 2]
  refine G.loopK (ι := Unit) (ks := [1, 2]) (fun _ => [(5, vl), (6, .int .i64 (0 : Nat))]) (fun _ => [.row vl 3 1 []]) (fun _ => True) (fun _ => 0) () (.cons rfl (.cons rfl (.nil))) rfl ?_ ?_ ?_
  · exact trivial
  · exact ⟨rfl, rfl, trivial⟩
  rintro i hp
  refine G.seq ?_
  refine G.seq ?_
  refine G.region ?_
  refine G.v (rv_move rfl) rfl ?_
  (first | refine G.v (rv_field rfl) rfl ?_ | refine G.v (rv_fieldE rfl) rfl ?_)
  (first | refine G.v (rv_load1 0 rfl rfl rfl) rfl ?_ | refine G.v (rv_load1 1 rfl rfl rfl) rfl ?_ | refine G.v (rv_load1 2 rfl rfl rfl) rfl ?_ | refine G.v (rv_load1 3 rfl rfl rfl) rfl ?_)
  refine G.v (rv_len rfl (by first | exact Rd.stays (by assumption) | exact Rd.owned 0 rfl | exact Rd.owned 1 rfl | exact Rd.owned 2 rfl | exact Rd.owned 3 rfl)) rfl ?_
  refine G.v (rv_lss rfl rfl) rfl ?_
  refine G.v (rv_move rfl) rfl ?_
  all_goals (((with_reducible refine G.gP rfl rfl (fun hg => ?_) (fun hg => ?_)) <;> (try exact Bool.noConfusion hg) <;> (first | (refine G.gY rfl rfl ?_; (first | refine G.v (rv_field rfl) rfl ?_ | refine G.v (rv_fieldE rfl) rfl ?_)) | refine G.gN rfl rfl rfl ?_ | refine G.gU rfl rfl rfl ?_)))
  all_goals ((first | (refine G.gY rfl rfl ?_; (first | refine G.v (rv_load1 0 rfl rfl rfl) rfl ?_ | refine G.v (rv_load1 1 rfl rfl rfl) rfl ?_ | refine G.v (rv_load1 2 rfl rfl rfl) rfl ?_ | refine G.v (rv_load1 3 rfl rfl rfl) rfl ?_)) | refine G.gN rfl rfl rfl ?_ | refine G.gU rfl rfl rfl ?_))
  all_goals ((first | (refine G.gY rfl rfl ?_; refine G.v (rv_len rfl (by first | exact Rd.stays (by assumption) | exact Rd.owned 0 rfl | exact Rd.owned 1 rfl | exact Rd.owned 2 rfl | exact Rd.owned 3 rfl)) rfl ?_) | refine G.gN rfl rfl rfl ?_ | refine G.gU rfl rfl rfl ?_))
  all_goals ((first | (refine G.gY rfl rfl ?_; (first | refine G.v (rv_field rfl) rfl ?_ | refine G.v (rv_fieldE rfl) rfl ?_)) | refine G.gN rfl rfl rfl ?_ | refine G.gU rfl rfl rfl ?_))
  all_goals ((first | (refine G.gY rfl rfl ?_; (first | refine G.v (rv_load1 0 rfl rfl rfl) rfl ?_ | refine G.v (rv_load1 1 rfl rfl rfl) rfl ?_ | refine G.v (rv_load1 2 rfl rfl rfl) rfl ?_ | refine G.v (rv_load1 3 rfl rfl rfl) rfl ?_)) | refine G.gN rfl rfl rfl ?_ | refine G.gU rfl rfl rfl ?_))
  all_goals ((first | (refine G.gY rfl rfl ?_; refine G.v (rv_len rfl (by first | exact Rd.stays (by assumption) | exact Rd.owned 0 rfl | exact Rd.owned 1 rfl | exact Rd.owned 2 rfl | exact Rd.owned 3 rfl)) rfl ?_) | refine G.gN rfl rfl rfl ?_ | refine G.gU rfl rfl rfl ?_))
  all_goals ((first | (refine G.gY rfl rfl ?_; refine G.v (rv_eql rfl rfl) rfl ?_) | refine G.gN rfl rfl rfl ?_ | refine G.gU rfl rfl rfl ?_))
  all_goals ((first | refine G.v (rv_pickT rfl rfl) rfl ?_ | refine G.v (rv_pickF rfl rfl) rfl ?_))
  all_goals
   refine G.done ?_
   refine G.thenN ?_
   refine G.cond rfl (fun hc => ?_) (fun hc => ?_)
   · try exact Bool.noConfusion hc
     all_goals
      try replace hc := of_decide_eq_true hc
      try (exfalso; simp only [List.length_map] at hc; omega)
      try (exfalso; first | contradiction | omega)
      all_goals
       refine G.skip ?_
       refine G.thenN ?_
       refine G.seq ?_
       refine G.block ?_
       refine G.seq ?_
       refine G.region ?_
       (first | refine G.v (rv_field rfl) rfl ?_ | refine G.v (rv_fieldE rfl) rfl ?_)
       (first | refine G.v (rv_load1 0 rfl rfl rfl) rfl ?_ | refine G.v (rv_load1 1 rfl rfl rfl) rfl ?_ | refine G.v (rv_load1 2 rfl rfl rfl) rfl ?_ | refine G.v (rv_load1 3 rfl rfl rfl) rfl ?_)
       refine G.v (rv_move rfl) rfl ?_
       (first | refine G.v (rv_indexH rfl rfl (by first | exact Rd.stays (by assumption) | exact Rd.owned 0 rfl | exact Rd.owned 1 rfl | exact Rd.owned 2 rfl | exact Rd.owned 3 rfl) rfl (by assumption)) rfl ?_ | refine G.v (rv_index rfl rfl (by first | exact Rd.stays (by assumption) | exact Rd.owned 0 rfl | exact Rd.owned 1 rfl | exact Rd.owned 2 rfl | exact Rd.owned 3 rfl) rfl (by assumption)) rfl ?_)
       (first | refine G.v (rv_field rfl) rfl ?_ | refine G.v (rv_fieldE rfl) rfl ?_)
       refine G.v (rv_loadE rfl (by first | exact Rd.stays (by assumption) | exact Rd.owned 0 rfl | exact Rd.owned 1 rfl | exact Rd.owned 2 rfl | exact Rd.owned 3 rfl) (by assumption) rfl) rfl ?_
       refine G.v (rv_move rfl) rfl ?_
       refine G.v (rv_eql rfl rfl) rfl ?_
       refine G.done ?_
       refine G.thenN ?_
       refine G.cond rfl (fun hc => ?_) (fun hc => ?_)
       · try exact Bool.noConfusion hc
         all_goals
          try replace hc := of_decide_eq_true hc
          try (exfalso; simp only [List.length_map] at hc; omega)
          try (exfalso; first | contradiction | omega)
          all_goals
           refine G.region ?_
           refine G.v (rv_move rfl) rfl ?_
           refine G.v (rv_move rfl) rfl ?_
           refine G.op (og_lit rfl (.cons rfl .nil) rfl rfl rfl rfl rfl rfl) rfl (fun vl _ => ?_)
           (first | refine G.op (og_app0 rfl rfl rfl (by first | exact Rd.stays (by assumption) | exact Rd.owned 0 rfl | exact Rd.owned 1 rfl | exact Rd.owned 2 rfl | exact Rd.owned 3 rfl) rfl rfl (by simp; omega) (by simp; omega)) rfl (fun va _ => ?_) | refine G.op (og_app1 rfl rfl rfl (by first | exact Rd.stays (by assumption) | exact Rd.owned 0 rfl | exact Rd.owned 1 rfl | exact Rd.owned 2 rfl | exact Rd.owned 3 rfl) rfl rfl (by simp; omega) (by simp; omega)) rfl (fun va _ => ?_) | refine G.op (og_app2 rfl rfl rfl (by first | exact Rd.stays (by assumption) | exact Rd.owned 0 rfl | exact Rd.owned 1 rfl | exact Rd.owned 2 rfl | exact Rd.owned 3 rfl) rfl rfl (by simp; omega) (by simp; omega)) rfl (fun va _ => ?_) | refine G.op (og_app3 rfl rfl rfl (by first | exact Rd.stays (by assumption) | exact Rd.owned 0 rfl | exact Rd.owned 1 rfl | exact Rd.owned 2 rfl | exact Rd.owned 3 rfl) rfl rfl (by simp; omega) (by simp; omega)) rfl (fun va _ => ?_))
           refine G.v (rv_assign rfl) rfl ?_
           refine G.done ?_
           refine G.inN ?_
           refine G.thenN ?_
           refine G.region ?_
           refine G.v (rv_move rfl) rfl ?_
           (first | refine G.v (rv_incr rfl rfl (by omega)) rfl ?_ | refine G.v (rv_addB rfl rfl (by omega) (by omega)) rfl ?_)
           refine G.v (rv_assign rfl) rfl ?_
           refine G.done ?_
           first | refine G.backK () 0 rfl (.cons rfl (.cons rfl (.nil))) ?_ ?_ ?_ | refine G.backK () 1 rfl (.cons rfl (.cons rfl (.nil))) ?_ ?_ ?_ | refine G.backK () 2 rfl (.cons rfl (.cons rfl (.nil))) ?_ ?_ ?_ | refine G.backK () 3 rfl (.cons rfl (.cons rfl (.nil))) ?_ ?_ ?_
           · exact ⟨rfl, rfl, trivial⟩
           · exact trivial
           · omega
       · try exact Bool.noConfusion hc
         all_goals
          try replace hc := of_decide_eq_false hc
          try (exfalso; simp only [List.length_map] at hc; omega)
          try (exfalso; first | contradiction | omega)
          all_goals
           refine G.skip ?_
           refine G.inN ?_
           refine G.thenN ?_
           refine G.region ?_
           refine G.v (rv_move rfl) rfl ?_
           (first | refine G.v (rv_incr rfl rfl (by omega)) rfl ?_ | refine G.v (rv_addB rfl rfl (by omega) (by omega)) rfl ?_)
           refine G.v (rv_assign rfl) rfl ?_
           refine G.done ?_
           first | refine G.backK () 0 rfl (.cons rfl (.cons rfl (.nil))) ?_ ?_ ?_ | refine G.backK () 1 rfl (.cons rfl (.cons rfl (.nil))) ?_ ?_ ?_ | refine G.backK () 2 rfl (.cons rfl (.cons rfl (.nil))) ?_ ?_ ?_ | refine G.backK () 3 rfl (.cons rfl (.cons rfl (.nil))) ?_ ?_ ?_
           · exact ⟨rfl, rfl, trivial⟩
           · exact trivial
           · omega
   · try exact Bool.noConfusion hc
     all_goals
      try replace hc := of_decide_eq_false hc
      try (exfalso; simp only [List.length_map] at hc; omega)
      try (exfalso; first | contradiction | omega)
      all_goals
       refine G.exit ?_
       refine G.thenX ?_
       refine G.thenX ?_
       refine G.inX ?_
       refine G.thenN ?_
       refine G.seq ?_
       refine G.region ?_
       refine G.v (rv_move rfl) rfl ?_
       refine G.v (rv_assign rfl) rfl ?_
       refine G.done ?_
       refine G.thenN ?_
       refine G.ret ?_
       (refine G.know (fun w hw => (Rd.owned 0 rfl w hw).one_) (fun hone => G.retF vl hone rfl rfl rfl (fun w hw => by rw [onPalletM, if_neg hl]; exact hw.sublist (by repeat (first | exact List.Sublist.refl _ | refine List.Sublist.cons_cons _ ?_ | refine List.Sublist.cons _ ?_)))))
theorem sonPallet_any {cv sv : Value} {cs : List (CartonM × Value)} {ss : List SpotM} {z : Int} (w : World) (h : Rd w cv 3 (cs.map CartonM.cells)) (h3 : Rd w sv 4 (ss.map SpotM.cells)) (hb : ss.length ≤ 1048576) :
    Fn Try.prog 29 [.agg [cv, sv].toArray, .int .i64 z] w (fun v : Value => v.oneCell' = true) (fun v => v) (fun v => [.row v 3 1 ((onPalletM cs.length ss z).map icell)]) := by
  by_cases hl : ss.length = cs.length
  · exact sonPallet_yes w h h3 hb hl
  · exact sonPallet_no w h h3 hl
theorem sonPallet_n {cv sv : Value} {cs : List (CartonM × Value)} {ss : List SpotM} {z : Int} {n : Nat} (w : World) (h : Rd w cv 3 (cs.map CartonM.cells)) (h3 : Rd w sv 4 (ss.map SpotM.cells)) (hb : ss.length ≤ 1048576) (hn : cs.length = n) :
    Fn Try.prog 29 [.agg [cv, sv].toArray, .int .i64 z] w (fun v : Value => v.oneCell' = true) (fun v => v) (fun v => [.row v 3 1 ((onPalletM n ss z).map icell)]) := hn ▸ sonPallet_any w h h3 hb
theorem markPlan_any {w0 : World} {cv sv : Value} {cs : List (CartonM × Value)} {ss : List SpotM} {k : Int} (hk : 0 ≤ k) (hb : k + cntG cntCartonM cs + cntG cntSpotM ss ≤ 4611686018427387904) (ho : sv.oneCell' = true) (ho2 : cv.oneCell' = true) :
    FnM Try.prog 32 [.agg [cv, sv].toArray, .int .i64 k] w0 [.row sv 28 4 (ss.map SpotM.cells), .grp 3 1 (cs.map (sub CartonM.l)), .row cv 113 3 (cs.map CartonM.cells)] (fun _ : Unit => True) (fun _ => .int .i64 (k + cntG cntCartonM cs + cntG cntSpotM ss))
      (fun _ => [.row sv 28 4 ((markG mkSpotM cntSpotM (k + cntG cntCartonM cs) ss).map SpotM.cells), .grp 3 1 ((markG mkCartonM cntCartonM k cs).map (sub CartonM.l)), .row cv 113 3 ((markG mkCartonM cntCartonM k cs).map CartonM.cells)]) := by
  refine FnM.of (n := 14) Try.func32 rfl rfl (fun F => ?_)
  refine G.seq ?_
  refine G.region ?_
  refine G.op (og_box rfl rfl) rfl (fun bk2 _ => ?_)
  refine G.v (rv_assign rfl) rfl ?_
  refine G.done ?_
  refine G.thenN ?_
  refine G.seq ?_
  refine G.region ?_
  (first | refine G.v (rv_field rfl) rfl ?_ | refine G.v (rv_fieldE rfl) rfl ?_)
  (first | refine G.v (rv_load1 0 rfl rfl rfl) rfl ?_ | refine G.v (rv_load1 1 rfl rfl rfl) rfl ?_ | refine G.v (rv_load1 2 rfl rfl rfl) rfl ?_ | refine G.v (rv_load1 3 rfl rfl rfl) rfl ?_)
  refine G.v (rv_move rfl) rfl ?_
  ((first | refine G.frontR0 (cv) rfl ?_ | refine G.frontR1 (cv) rfl ?_ | refine G.frontR2 (cv) rfl ?_ | refine G.frontR3 (cv) rfl ?_ | refine G.frontR4 (cv) rfl ?_ | refine G.frontR5 (cv) rfl ?_ | refine G.frontR6 (cv) rfl ?_ | refine G.frontR7 (cv) rfl ?_ | refine G.frontR8 (cv) rfl ?_ | refine G.frontR9 (cv) rfl ?_ | refine G.frontR10 (cv) rfl ?_ | refine G.frontR11 (cv) rfl ?_ | refine G.frontR12 (cv) rfl ?_ | refine G.frontR13 (cv) rfl ?_ | refine G.frontR14 (cv) rfl ?_ | refine G.frontR15 (cv) rfl ?_); (first | refine G.frontG0 (cs.map (sub CartonM.l)) rfl ?_ | refine G.frontG1 (cs.map (sub CartonM.l)) rfl ?_ | refine G.frontG2 (cs.map (sub CartonM.l)) rfl ?_ | refine G.frontG3 (cs.map (sub CartonM.l)) rfl ?_ | refine G.frontG4 (cs.map (sub CartonM.l)) rfl ?_ | refine G.frontG5 (cs.map (sub CartonM.l)) rfl ?_ | refine G.frontG6 (cs.map (sub CartonM.l)) rfl ?_ | refine G.frontG7 (cs.map (sub CartonM.l)) rfl ?_ | refine G.frontG8 (cs.map (sub CartonM.l)) rfl ?_ | refine G.frontG9 (cs.map (sub CartonM.l)) rfl ?_ | refine G.frontG10 (cs.map (sub CartonM.l)) rfl ?_ | refine G.frontG11 (cs.map (sub CartonM.l)) rfl ?_ | refine G.frontG12 (cs.map (sub CartonM.l)) rfl ?_ | refine G.frontG13 (cs.map (sub CartonM.l)) rfl ?_ | refine G.frontG14 (cs.map (sub CartonM.l)) rfl ?_ | refine G.frontG15 (cs.map (sub CartonM.l)) rfl ?_); refine G.op (og_callMM2 rfl rfl rfl (markCartonS_any hk (by omega)).toF) rfl ?_; rintro ⟨⟩ _; try dsimp only)
  refine G.v (rv_assign rfl) rfl ?_
  refine G.done ?_
  refine G.thenN ?_
  refine G.seq ?_
  refine G.region ?_
  (first | refine G.v (rv_field rfl) rfl ?_ | refine G.v (rv_fieldE rfl) rfl ?_)
  (first | refine G.v (rv_load1 0 rfl rfl rfl) rfl ?_ | refine G.v (rv_load1 1 rfl rfl rfl) rfl ?_ | refine G.v (rv_load1 2 rfl rfl rfl) rfl ?_ | refine G.v (rv_load1 3 rfl rfl rfl) rfl ?_)
  refine G.v (rv_move rfl) rfl ?_
  ((first | refine G.frontR0 (sv) rfl ?_ | refine G.frontR1 (sv) rfl ?_ | refine G.frontR2 (sv) rfl ?_ | refine G.frontR3 (sv) rfl ?_ | refine G.frontR4 (sv) rfl ?_ | refine G.frontR5 (sv) rfl ?_ | refine G.frontR6 (sv) rfl ?_ | refine G.frontR7 (sv) rfl ?_ | refine G.frontR8 (sv) rfl ?_ | refine G.frontR9 (sv) rfl ?_ | refine G.frontR10 (sv) rfl ?_ | refine G.frontR11 (sv) rfl ?_ | refine G.frontR12 (sv) rfl ?_ | refine G.frontR13 (sv) rfl ?_ | refine G.frontR14 (sv) rfl ?_ | refine G.frontR15 (sv) rfl ?_); refine G.op (og_callMM1 rfl rfl rfl (markSpotS_any (by omega) (by omega)).toF) rfl ?_; rintro ⟨⟩ _; try dsimp only)
  refine G.v (rv_assign rfl) rfl ?_
  refine G.done ?_
  refine G.thenN ?_
  refine G.seq ?_
  refine G.region ?_
  refine G.v (rv_move rfl) rfl ?_
  refine G.v (rv_assign rfl) rfl ?_
  refine G.done ?_
  refine G.thenN ?_
  refine G.ret ?_
  exact G.retF () trivial rfl rfl rfl (fun w hw => hw.sublist (by repeat (first | exact List.Sublist.refl _ | refine List.Sublist.cons_cons _ ?_ | refine List.Sublist.cons _ ?_)))
theorem fnExactOnPallet_any {cv sv : Value} {cs : List (CartonM × Value)} {ss : List SpotM} {w : World} (h : Rd w cv 3 (cs.map CartonM.cells)) (hs : Subs w CartonM.l cs) (h3 : Rd w sv 4 (ss.map SpotM.cells)) (z : Int) : FnV Try.prog 6 [.agg [cv, sv].toArray, .int .i64 z] w (.bool true) := by
  have hct := cntCartonM_tot cs
  have hcs := cnt_const (cnt := cntSpotM) (fun _ => rfl) ss
  have htl := tot_len (f := CartonM.l) (ts := cs)
  have hol := onPallet_len cs.length ss z
  have hci := cntI_len (onPalletM cs.length ss z)
  refine FnV.of (n := 74) Try.func6 rfl rfl ?_
  refine G.seq ?_
  refine G.region ?_
  refine G.op (og_box rfl rfl) rfl (fun bk2 _ => ?_)
  refine G.v (rv_assign rfl) rfl ?_
  refine G.done ?_
  refine G.thenN ?_
  refine G.seq ?_
  refine G.region ?_
  refine G.v (rv_assign rfl) rfl ?_
  refine G.done ?_
  refine G.thenN ?_
  refine G.seq ?_
  refine G.region ?_
  (first | refine G.v (rv_loadW 0 rfl rfl rfl) rfl ?_ | refine G.v (rv_loadW 1 rfl rfl rfl) rfl ?_ | refine G.v (rv_loadW 2 rfl rfl rfl) rfl ?_ | refine G.v (rv_loadW 3 rfl rfl rfl) rfl ?_ | refine G.v (rv_loadW 4 rfl rfl rfl) rfl ?_ | refine G.v (rv_loadW 5 rfl rfl rfl) rfl ?_ | refine G.v (rv_loadW 6 rfl rfl rfl) rfl ?_ | refine G.v (rv_loadW 7 rfl rfl rfl) rfl ?_ | refine G.v (rv_loadW 8 rfl rfl rfl) rfl ?_ | refine G.v (rv_loadW 9 rfl rfl rfl) rfl ?_ | refine G.v (rv_loadW 10 rfl rfl rfl) rfl ?_ | refine G.v (rv_loadW 11 rfl rfl rfl) rfl ?_ | refine G.v (rv_loadW 12 rfl rfl rfl) rfl ?_ | refine G.v (rv_loadW 13 rfl rfl rfl) rfl ?_ | refine G.v (rv_loadW 14 rfl rfl rfl) rfl ?_ | refine G.v (rv_loadW 15 rfl rfl rfl) rfl ?_ | refine G.v (rv_loadW 16 rfl rfl rfl) rfl ?_ | refine G.v (rv_loadW 17 rfl rfl rfl) rfl ?_ | refine G.v (rv_loadW 18 rfl rfl rfl) rfl ?_ | refine G.v (rv_loadW 19 rfl rfl rfl) rfl ?_ | refine G.v (rv_loadP 0 rfl rfl (.one (.one .nil))) rfl ?_ | refine G.v (rv_loadP 1 rfl rfl (.one (.one .nil))) rfl ?_ | refine G.v (rv_loadP 2 rfl rfl (.one (.one .nil))) rfl ?_ | refine G.v (rv_loadP 3 rfl rfl (.one (.one .nil))) rfl ?_ | refine G.v (rv_loadP 4 rfl rfl (.one (.one .nil))) rfl ?_ | refine G.v (rv_loadP 5 rfl rfl (.one (.one .nil))) rfl ?_ | refine G.v (rv_loadP 6 rfl rfl (.one (.one .nil))) rfl ?_ | refine G.v (rv_loadP 7 rfl rfl (.one (.one .nil))) rfl ?_ | refine G.v (rv_loadP 8 rfl rfl (.one (.one .nil))) rfl ?_ | refine G.v (rv_loadP 9 rfl rfl (.one (.one .nil))) rfl ?_ | refine G.v (rv_loadP 10 rfl rfl (.one (.one .nil))) rfl ?_ | refine G.v (rv_loadP 11 rfl rfl (.one (.one .nil))) rfl ?_ | refine G.v (rv_loadP 12 rfl rfl (.one (.one .nil))) rfl ?_ | refine G.v (rv_loadP 13 rfl rfl (.one (.one .nil))) rfl ?_ | refine G.v (rv_loadP 14 rfl rfl (.one (.one .nil))) rfl ?_ | refine G.v (rv_loadP 15 rfl rfl (.one (.one .nil))) rfl ?_ | refine G.v (rv_loadP 16 rfl rfl (.one (.one .nil))) rfl ?_ | refine G.v (rv_loadP 17 rfl rfl (.one (.one .nil))) rfl ?_ | refine G.v (rv_loadP 18 rfl rfl (.one (.one .nil))) rfl ?_ | refine G.v (rv_loadP 19 rfl rfl (.one (.one .nil))) rfl ?_)
  refine G.v (rv_move rfl) rfl ?_
  refine G.op (og_callV rfl rfl (fun w hh => szPlan_any _ w (by first | exact Rd.stays (by assumption) _ hh | exact Rd.owned 0 rfl _ hh | exact Rd.owned 1 rfl _ hh | exact Rd.owned 2 rfl _ hh | exact Rd.owned 3 rfl _ hh | exact Rd.owned 4 rfl _ hh | exact Rd.owned 5 rfl _ hh | exact Rd.owned 6 rfl _ hh | exact Rd.owned 7 rfl _ hh | exact Rd.owned 8 rfl _ hh | exact Rd.owned 9 rfl _ hh | exact Rd.owned 10 rfl _ hh | exact Rd.owned 11 rfl _ hh | exact Rd.owned 12 rfl _ hh | exact Rd.owned 13 rfl _ hh | exact Rd.owned 14 rfl _ hh | exact Rd.owned 15 rfl _ hh) (by first | exact Subs.stays (by assumption) _ hh | exact Subs.owned 0 rfl _ hh | exact Subs.owned 1 rfl _ hh | exact Subs.owned 2 rfl _ hh | exact Subs.owned 3 rfl _ hh | exact Subs.owned 4 rfl _ hh | exact Subs.owned 5 rfl _ hh | exact Subs.owned 6 rfl _ hh | exact Subs.owned 7 rfl _ hh | exact Subs.owned 8 rfl _ hh | exact Subs.owned 9 rfl _ hh | exact Subs.owned 10 rfl _ hh | exact Subs.owned 11 rfl _ hh | exact Subs.owned 12 rfl _ hh | exact Subs.owned 13 rfl _ hh | exact Subs.owned 14 rfl _ hh | exact Subs.owned 15 rfl _ hh) (by first | exact Rd.stays (by assumption) _ hh | exact Rd.owned 0 rfl _ hh | exact Rd.owned 1 rfl _ hh | exact Rd.owned 2 rfl _ hh | exact Rd.owned 3 rfl _ hh | exact Rd.owned 4 rfl _ hh | exact Rd.owned 5 rfl _ hh | exact Rd.owned 6 rfl _ hh | exact Rd.owned 7 rfl _ hh | exact Rd.owned 8 rfl _ hh | exact Rd.owned 9 rfl _ hh | exact Rd.owned 10 rfl _ hh | exact Rd.owned 11 rfl _ hh | exact Rd.owned 12 rfl _ hh | exact Rd.owned 13 rfl _ hh | exact Rd.owned 14 rfl _ hh | exact Rd.owned 15 rfl _ hh) (by (try simp only [szM] at *); omega) (by (try simp only [szM] at *); omega))) rfl (fun _ _ => ?_)
  refine G.v (rv_assign rfl) rfl ?_
  refine G.done ?_
  refine G.thenN ?_
  refine G.seq ?_
  refine G.seq ?_
  refine G.region ?_
  refine G.v (rv_move rfl) rfl ?_
  refine G.v (rv_lss rfl rfl) rfl ?_
  refine G.done ?_
  refine G.thenN ?_
  refine G.cond rfl (fun hc => ?_) (fun hc => ?_)
  · try exact Bool.noConfusion hc
    all_goals
     try replace hc := of_decide_eq_true hc
     try (exfalso; first | contradiction | omega)
     all_goals
      refine G.seq ?_
      refine G.region ?_
      refine G.v (rv_assign rfl) rfl ?_
      refine G.done ?_
      refine G.thenN ?_
      refine G.ret ?_
      refine G.thenR ?_
      first | exact G.retFV rfl rfl rfl | (exfalso; simp_all; done) | (exfalso; simp only [szM] at *; omega)
  · try exact Bool.noConfusion hc
    all_goals
     try replace hc := of_decide_eq_false hc
     try (exfalso; first | contradiction | omega)
     all_goals
      refine G.skip ?_
      refine G.thenN ?_
      refine G.seq ?_
      refine G.region ?_
      (first | refine G.v (rv_loadW 0 rfl rfl rfl) rfl ?_ | refine G.v (rv_loadW 1 rfl rfl rfl) rfl ?_ | refine G.v (rv_loadW 2 rfl rfl rfl) rfl ?_ | refine G.v (rv_loadW 3 rfl rfl rfl) rfl ?_ | refine G.v (rv_loadW 4 rfl rfl rfl) rfl ?_ | refine G.v (rv_loadW 5 rfl rfl rfl) rfl ?_ | refine G.v (rv_loadW 6 rfl rfl rfl) rfl ?_ | refine G.v (rv_loadW 7 rfl rfl rfl) rfl ?_ | refine G.v (rv_loadW 8 rfl rfl rfl) rfl ?_ | refine G.v (rv_loadW 9 rfl rfl rfl) rfl ?_ | refine G.v (rv_loadW 10 rfl rfl rfl) rfl ?_ | refine G.v (rv_loadW 11 rfl rfl rfl) rfl ?_ | refine G.v (rv_loadW 12 rfl rfl rfl) rfl ?_ | refine G.v (rv_loadW 13 rfl rfl rfl) rfl ?_ | refine G.v (rv_loadW 14 rfl rfl rfl) rfl ?_ | refine G.v (rv_loadW 15 rfl rfl rfl) rfl ?_ | refine G.v (rv_loadW 16 rfl rfl rfl) rfl ?_ | refine G.v (rv_loadW 17 rfl rfl rfl) rfl ?_ | refine G.v (rv_loadW 18 rfl rfl rfl) rfl ?_ | refine G.v (rv_loadW 19 rfl rfl rfl) rfl ?_ | refine G.v (rv_loadP 0 rfl rfl (.one (.one .nil))) rfl ?_ | refine G.v (rv_loadP 1 rfl rfl (.one (.one .nil))) rfl ?_ | refine G.v (rv_loadP 2 rfl rfl (.one (.one .nil))) rfl ?_ | refine G.v (rv_loadP 3 rfl rfl (.one (.one .nil))) rfl ?_ | refine G.v (rv_loadP 4 rfl rfl (.one (.one .nil))) rfl ?_ | refine G.v (rv_loadP 5 rfl rfl (.one (.one .nil))) rfl ?_ | refine G.v (rv_loadP 6 rfl rfl (.one (.one .nil))) rfl ?_ | refine G.v (rv_loadP 7 rfl rfl (.one (.one .nil))) rfl ?_ | refine G.v (rv_loadP 8 rfl rfl (.one (.one .nil))) rfl ?_ | refine G.v (rv_loadP 9 rfl rfl (.one (.one .nil))) rfl ?_ | refine G.v (rv_loadP 10 rfl rfl (.one (.one .nil))) rfl ?_ | refine G.v (rv_loadP 11 rfl rfl (.one (.one .nil))) rfl ?_ | refine G.v (rv_loadP 12 rfl rfl (.one (.one .nil))) rfl ?_ | refine G.v (rv_loadP 13 rfl rfl (.one (.one .nil))) rfl ?_ | refine G.v (rv_loadP 14 rfl rfl (.one (.one .nil))) rfl ?_ | refine G.v (rv_loadP 15 rfl rfl (.one (.one .nil))) rfl ?_ | refine G.v (rv_loadP 16 rfl rfl (.one (.one .nil))) rfl ?_ | refine G.v (rv_loadP 17 rfl rfl (.one (.one .nil))) rfl ?_ | refine G.v (rv_loadP 18 rfl rfl (.one (.one .nil))) rfl ?_ | refine G.v (rv_loadP 19 rfl rfl (.one (.one .nil))) rfl ?_)
      (first | (refine G.op (og_callF1 rfl rfl (fun w hh => toPlan_any w (by first | exact Rd.stays (by assumption) _ hh | exact Rd.owned 0 rfl _ hh | exact Rd.owned 1 rfl _ hh | exact Rd.owned 2 rfl _ hh | exact Rd.owned 3 rfl _ hh | exact Rd.owned 4 rfl _ hh | exact Rd.owned 5 rfl _ hh | exact Rd.owned 6 rfl _ hh | exact Rd.owned 7 rfl _ hh | exact Rd.owned 8 rfl _ hh | exact Rd.owned 9 rfl _ hh | exact Rd.owned 10 rfl _ hh | exact Rd.owned 11 rfl _ hh | exact Rd.owned 12 rfl _ hh | exact Rd.owned 13 rfl _ hh | exact Rd.owned 14 rfl _ hh | exact Rd.owned 15 rfl _ hh) (by first | exact Subs.stays (by assumption) _ hh | exact Subs.owned 0 rfl _ hh | exact Subs.owned 1 rfl _ hh | exact Subs.owned 2 rfl _ hh | exact Subs.owned 3 rfl _ hh | exact Subs.owned 4 rfl _ hh | exact Subs.owned 5 rfl _ hh | exact Subs.owned 6 rfl _ hh | exact Subs.owned 7 rfl _ hh | exact Subs.owned 8 rfl _ hh | exact Subs.owned 9 rfl _ hh | exact Subs.owned 10 rfl _ hh | exact Subs.owned 11 rfl _ hh | exact Subs.owned 12 rfl _ hh | exact Subs.owned 13 rfl _ hh | exact Subs.owned 14 rfl _ hh | exact Subs.owned 15 rfl _ hh) (by first | exact Rd.stays (by assumption) _ hh | exact Rd.owned 0 rfl _ hh | exact Rd.owned 1 rfl _ hh | exact Rd.owned 2 rfl _ hh | exact Rd.owned 3 rfl _ hh | exact Rd.owned 4 rfl _ hh | exact Rd.owned 5 rfl _ hh | exact Rd.owned 6 rfl _ hh | exact Rd.owned 7 rfl _ hh | exact Rd.owned 8 rfl _ hh | exact Rd.owned 9 rfl _ hh | exact Rd.owned 10 rfl _ hh | exact Rd.owned 11 rfl _ hh | exact Rd.owned 12 rfl _ hh | exact Rd.owned 13 rfl _ hh | exact Rd.owned 14 rfl _ hh | exact Rd.owned 15 rfl _ hh) (by (try simp only [szM] at *); omega) (by (try simp only [szM] at *); omega))) rfl ?_; rintro ⟨⟨cv2, cs2⟩, sv2⟩ ⟨hov, hov2, hvl⟩; try dsimp only) | (refine G.op (og_callF2 rfl rfl (fun w hh => toPlan_any w (by first | exact Rd.stays (by assumption) _ hh | exact Rd.owned 0 rfl _ hh | exact Rd.owned 1 rfl _ hh | exact Rd.owned 2 rfl _ hh | exact Rd.owned 3 rfl _ hh | exact Rd.owned 4 rfl _ hh | exact Rd.owned 5 rfl _ hh | exact Rd.owned 6 rfl _ hh | exact Rd.owned 7 rfl _ hh | exact Rd.owned 8 rfl _ hh | exact Rd.owned 9 rfl _ hh | exact Rd.owned 10 rfl _ hh | exact Rd.owned 11 rfl _ hh | exact Rd.owned 12 rfl _ hh | exact Rd.owned 13 rfl _ hh | exact Rd.owned 14 rfl _ hh | exact Rd.owned 15 rfl _ hh) (by first | exact Subs.stays (by assumption) _ hh | exact Subs.owned 0 rfl _ hh | exact Subs.owned 1 rfl _ hh | exact Subs.owned 2 rfl _ hh | exact Subs.owned 3 rfl _ hh | exact Subs.owned 4 rfl _ hh | exact Subs.owned 5 rfl _ hh | exact Subs.owned 6 rfl _ hh | exact Subs.owned 7 rfl _ hh | exact Subs.owned 8 rfl _ hh | exact Subs.owned 9 rfl _ hh | exact Subs.owned 10 rfl _ hh | exact Subs.owned 11 rfl _ hh | exact Subs.owned 12 rfl _ hh | exact Subs.owned 13 rfl _ hh | exact Subs.owned 14 rfl _ hh | exact Subs.owned 15 rfl _ hh) (by first | exact Rd.stays (by assumption) _ hh | exact Rd.owned 0 rfl _ hh | exact Rd.owned 1 rfl _ hh | exact Rd.owned 2 rfl _ hh | exact Rd.owned 3 rfl _ hh | exact Rd.owned 4 rfl _ hh | exact Rd.owned 5 rfl _ hh | exact Rd.owned 6 rfl _ hh | exact Rd.owned 7 rfl _ hh | exact Rd.owned 8 rfl _ hh | exact Rd.owned 9 rfl _ hh | exact Rd.owned 10 rfl _ hh | exact Rd.owned 11 rfl _ hh | exact Rd.owned 12 rfl _ hh | exact Rd.owned 13 rfl _ hh | exact Rd.owned 14 rfl _ hh | exact Rd.owned 15 rfl _ hh) (by (try simp only [szM] at *); omega) (by (try simp only [szM] at *); omega))) rfl ?_; rintro ⟨⟨cv2, cs2⟩, sv2⟩ ⟨hov, hov2, hvl⟩; try dsimp only) | (refine G.op (og_callF3 rfl rfl (fun w hh => toPlan_any w (by first | exact Rd.stays (by assumption) _ hh | exact Rd.owned 0 rfl _ hh | exact Rd.owned 1 rfl _ hh | exact Rd.owned 2 rfl _ hh | exact Rd.owned 3 rfl _ hh | exact Rd.owned 4 rfl _ hh | exact Rd.owned 5 rfl _ hh | exact Rd.owned 6 rfl _ hh | exact Rd.owned 7 rfl _ hh | exact Rd.owned 8 rfl _ hh | exact Rd.owned 9 rfl _ hh | exact Rd.owned 10 rfl _ hh | exact Rd.owned 11 rfl _ hh | exact Rd.owned 12 rfl _ hh | exact Rd.owned 13 rfl _ hh | exact Rd.owned 14 rfl _ hh | exact Rd.owned 15 rfl _ hh) (by first | exact Subs.stays (by assumption) _ hh | exact Subs.owned 0 rfl _ hh | exact Subs.owned 1 rfl _ hh | exact Subs.owned 2 rfl _ hh | exact Subs.owned 3 rfl _ hh | exact Subs.owned 4 rfl _ hh | exact Subs.owned 5 rfl _ hh | exact Subs.owned 6 rfl _ hh | exact Subs.owned 7 rfl _ hh | exact Subs.owned 8 rfl _ hh | exact Subs.owned 9 rfl _ hh | exact Subs.owned 10 rfl _ hh | exact Subs.owned 11 rfl _ hh | exact Subs.owned 12 rfl _ hh | exact Subs.owned 13 rfl _ hh | exact Subs.owned 14 rfl _ hh | exact Subs.owned 15 rfl _ hh) (by first | exact Rd.stays (by assumption) _ hh | exact Rd.owned 0 rfl _ hh | exact Rd.owned 1 rfl _ hh | exact Rd.owned 2 rfl _ hh | exact Rd.owned 3 rfl _ hh | exact Rd.owned 4 rfl _ hh | exact Rd.owned 5 rfl _ hh | exact Rd.owned 6 rfl _ hh | exact Rd.owned 7 rfl _ hh | exact Rd.owned 8 rfl _ hh | exact Rd.owned 9 rfl _ hh | exact Rd.owned 10 rfl _ hh | exact Rd.owned 11 rfl _ hh | exact Rd.owned 12 rfl _ hh | exact Rd.owned 13 rfl _ hh | exact Rd.owned 14 rfl _ hh | exact Rd.owned 15 rfl _ hh) (by (try simp only [szM] at *); omega) (by (try simp only [szM] at *); omega))) rfl ?_; rintro ⟨⟨cv2, cs2⟩, sv2⟩ ⟨hov, hov2, hvl⟩; try dsimp only) | (refine G.op (og_callF0 rfl rfl (fun w hh => toPlan_any w (by first | exact Rd.stays (by assumption) _ hh | exact Rd.owned 0 rfl _ hh | exact Rd.owned 1 rfl _ hh | exact Rd.owned 2 rfl _ hh | exact Rd.owned 3 rfl _ hh | exact Rd.owned 4 rfl _ hh | exact Rd.owned 5 rfl _ hh | exact Rd.owned 6 rfl _ hh | exact Rd.owned 7 rfl _ hh | exact Rd.owned 8 rfl _ hh | exact Rd.owned 9 rfl _ hh | exact Rd.owned 10 rfl _ hh | exact Rd.owned 11 rfl _ hh | exact Rd.owned 12 rfl _ hh | exact Rd.owned 13 rfl _ hh | exact Rd.owned 14 rfl _ hh | exact Rd.owned 15 rfl _ hh) (by first | exact Subs.stays (by assumption) _ hh | exact Subs.owned 0 rfl _ hh | exact Subs.owned 1 rfl _ hh | exact Subs.owned 2 rfl _ hh | exact Subs.owned 3 rfl _ hh | exact Subs.owned 4 rfl _ hh | exact Subs.owned 5 rfl _ hh | exact Subs.owned 6 rfl _ hh | exact Subs.owned 7 rfl _ hh | exact Subs.owned 8 rfl _ hh | exact Subs.owned 9 rfl _ hh | exact Subs.owned 10 rfl _ hh | exact Subs.owned 11 rfl _ hh | exact Subs.owned 12 rfl _ hh | exact Subs.owned 13 rfl _ hh | exact Subs.owned 14 rfl _ hh | exact Subs.owned 15 rfl _ hh) (by first | exact Rd.stays (by assumption) _ hh | exact Rd.owned 0 rfl _ hh | exact Rd.owned 1 rfl _ hh | exact Rd.owned 2 rfl _ hh | exact Rd.owned 3 rfl _ hh | exact Rd.owned 4 rfl _ hh | exact Rd.owned 5 rfl _ hh | exact Rd.owned 6 rfl _ hh | exact Rd.owned 7 rfl _ hh | exact Rd.owned 8 rfl _ hh | exact Rd.owned 9 rfl _ hh | exact Rd.owned 10 rfl _ hh | exact Rd.owned 11 rfl _ hh | exact Rd.owned 12 rfl _ hh | exact Rd.owned 13 rfl _ hh | exact Rd.owned 14 rfl _ hh | exact Rd.owned 15 rfl _ hh) (by (try simp only [szM] at *); omega) (by (try simp only [szM] at *); omega))) rfl ?_; rintro ⟨⟨cv2, cs2⟩, sv2⟩ ⟨hov, hov2, hvl⟩; try dsimp only) | (refine G.op (og_callF rfl rfl (fun w hh => toPlan_any w (by first | exact Rd.stays (by assumption) _ hh | exact Rd.owned 0 rfl _ hh | exact Rd.owned 1 rfl _ hh | exact Rd.owned 2 rfl _ hh | exact Rd.owned 3 rfl _ hh | exact Rd.owned 4 rfl _ hh | exact Rd.owned 5 rfl _ hh | exact Rd.owned 6 rfl _ hh | exact Rd.owned 7 rfl _ hh | exact Rd.owned 8 rfl _ hh | exact Rd.owned 9 rfl _ hh | exact Rd.owned 10 rfl _ hh | exact Rd.owned 11 rfl _ hh | exact Rd.owned 12 rfl _ hh | exact Rd.owned 13 rfl _ hh | exact Rd.owned 14 rfl _ hh | exact Rd.owned 15 rfl _ hh) (by first | exact Subs.stays (by assumption) _ hh | exact Subs.owned 0 rfl _ hh | exact Subs.owned 1 rfl _ hh | exact Subs.owned 2 rfl _ hh | exact Subs.owned 3 rfl _ hh | exact Subs.owned 4 rfl _ hh | exact Subs.owned 5 rfl _ hh | exact Subs.owned 6 rfl _ hh | exact Subs.owned 7 rfl _ hh | exact Subs.owned 8 rfl _ hh | exact Subs.owned 9 rfl _ hh | exact Subs.owned 10 rfl _ hh | exact Subs.owned 11 rfl _ hh | exact Subs.owned 12 rfl _ hh | exact Subs.owned 13 rfl _ hh | exact Subs.owned 14 rfl _ hh | exact Subs.owned 15 rfl _ hh) (by first | exact Rd.stays (by assumption) _ hh | exact Rd.owned 0 rfl _ hh | exact Rd.owned 1 rfl _ hh | exact Rd.owned 2 rfl _ hh | exact Rd.owned 3 rfl _ hh | exact Rd.owned 4 rfl _ hh | exact Rd.owned 5 rfl _ hh | exact Rd.owned 6 rfl _ hh | exact Rd.owned 7 rfl _ hh | exact Rd.owned 8 rfl _ hh | exact Rd.owned 9 rfl _ hh | exact Rd.owned 10 rfl _ hh | exact Rd.owned 11 rfl _ hh | exact Rd.owned 12 rfl _ hh | exact Rd.owned 13 rfl _ hh | exact Rd.owned 14 rfl _ hh | exact Rd.owned 15 rfl _ hh) (by (try simp only [szM] at *); omega) (by (try simp only [szM] at *); omega))) rfl ?_; rintro ⟨⟨cv2, cs2⟩, sv2⟩ ⟨hov, hov2, hvl⟩; try dsimp only))
      have hn := congrArg List.length hvl; have hcf := cntCartonM_fst hvl; simp only [List.length_map] at hn
      refine G.v (rv_move rfl) rfl ?_
      (refine G.op (og_callF1 rfl rfl (fun w hh => sonPallet_n w (by first | exact Rd.stays (by assumption) _ hh | exact Rd.owned 0 rfl _ hh | exact Rd.owned 1 rfl _ hh | exact Rd.owned 2 rfl _ hh | exact Rd.owned 3 rfl _ hh | exact Rd.owned 4 rfl _ hh | exact Rd.owned 5 rfl _ hh | exact Rd.owned 6 rfl _ hh | exact Rd.owned 7 rfl _ hh | exact Rd.owned 8 rfl _ hh | exact Rd.owned 9 rfl _ hh | exact Rd.owned 10 rfl _ hh | exact Rd.owned 11 rfl _ hh | exact Rd.owned 12 rfl _ hh | exact Rd.owned 13 rfl _ hh | exact Rd.owned 14 rfl _ hh | exact Rd.owned 15 rfl _ hh) (by first | exact Rd.stays (by assumption) _ hh | exact Rd.owned 0 rfl _ hh | exact Rd.owned 1 rfl _ hh | exact Rd.owned 2 rfl _ hh | exact Rd.owned 3 rfl _ hh | exact Rd.owned 4 rfl _ hh | exact Rd.owned 5 rfl _ hh | exact Rd.owned 6 rfl _ hh | exact Rd.owned 7 rfl _ hh | exact Rd.owned 8 rfl _ hh | exact Rd.owned 9 rfl _ hh | exact Rd.owned 10 rfl _ hh | exact Rd.owned 11 rfl _ hh | exact Rd.owned 12 rfl _ hh | exact Rd.owned 13 rfl _ hh | exact Rd.owned 14 rfl _ hh | exact Rd.owned 15 rfl _ hh) (by (try simp only [szM] at *); omega) hn)) rfl ?_; rintro vo hvo; try dsimp only)
      refine G.v (rv_assign rfl) rfl ?_
      refine G.done ?_
      refine G.thenN ?_
      refine G.seq ?_
      refine G.region ?_
      (first | refine G.v (rv_loadW 0 rfl rfl rfl) rfl ?_ | refine G.v (rv_loadW 1 rfl rfl rfl) rfl ?_ | refine G.v (rv_loadW 2 rfl rfl rfl) rfl ?_ | refine G.v (rv_loadW 3 rfl rfl rfl) rfl ?_ | refine G.v (rv_loadW 4 rfl rfl rfl) rfl ?_ | refine G.v (rv_loadW 5 rfl rfl rfl) rfl ?_ | refine G.v (rv_loadW 6 rfl rfl rfl) rfl ?_ | refine G.v (rv_loadW 7 rfl rfl rfl) rfl ?_ | refine G.v (rv_loadW 8 rfl rfl rfl) rfl ?_ | refine G.v (rv_loadW 9 rfl rfl rfl) rfl ?_ | refine G.v (rv_loadW 10 rfl rfl rfl) rfl ?_ | refine G.v (rv_loadW 11 rfl rfl rfl) rfl ?_ | refine G.v (rv_loadW 12 rfl rfl rfl) rfl ?_ | refine G.v (rv_loadW 13 rfl rfl rfl) rfl ?_ | refine G.v (rv_loadW 14 rfl rfl rfl) rfl ?_ | refine G.v (rv_loadW 15 rfl rfl rfl) rfl ?_ | refine G.v (rv_loadW 16 rfl rfl rfl) rfl ?_ | refine G.v (rv_loadW 17 rfl rfl rfl) rfl ?_ | refine G.v (rv_loadW 18 rfl rfl rfl) rfl ?_ | refine G.v (rv_loadW 19 rfl rfl rfl) rfl ?_ | refine G.v (rv_loadP 0 rfl rfl (.one (.one .nil))) rfl ?_ | refine G.v (rv_loadP 1 rfl rfl (.one (.one .nil))) rfl ?_ | refine G.v (rv_loadP 2 rfl rfl (.one (.one .nil))) rfl ?_ | refine G.v (rv_loadP 3 rfl rfl (.one (.one .nil))) rfl ?_ | refine G.v (rv_loadP 4 rfl rfl (.one (.one .nil))) rfl ?_ | refine G.v (rv_loadP 5 rfl rfl (.one (.one .nil))) rfl ?_ | refine G.v (rv_loadP 6 rfl rfl (.one (.one .nil))) rfl ?_ | refine G.v (rv_loadP 7 rfl rfl (.one (.one .nil))) rfl ?_ | refine G.v (rv_loadP 8 rfl rfl (.one (.one .nil))) rfl ?_ | refine G.v (rv_loadP 9 rfl rfl (.one (.one .nil))) rfl ?_ | refine G.v (rv_loadP 10 rfl rfl (.one (.one .nil))) rfl ?_ | refine G.v (rv_loadP 11 rfl rfl (.one (.one .nil))) rfl ?_ | refine G.v (rv_loadP 12 rfl rfl (.one (.one .nil))) rfl ?_ | refine G.v (rv_loadP 13 rfl rfl (.one (.one .nil))) rfl ?_ | refine G.v (rv_loadP 14 rfl rfl (.one (.one .nil))) rfl ?_ | refine G.v (rv_loadP 15 rfl rfl (.one (.one .nil))) rfl ?_ | refine G.v (rv_loadP 16 rfl rfl (.one (.one .nil))) rfl ?_ | refine G.v (rv_loadP 17 rfl rfl (.one (.one .nil))) rfl ?_ | refine G.v (rv_loadP 18 rfl rfl (.one (.one .nil))) rfl ?_ | refine G.v (rv_loadP 19 rfl rfl (.one (.one .nil))) rfl ?_)
      (refine G.op (og_callF3 rfl rfl (fun w hh => toPlan_any w (by first | exact Rd.stays (by assumption) _ hh | exact Rd.owned 0 rfl _ hh | exact Rd.owned 1 rfl _ hh | exact Rd.owned 2 rfl _ hh | exact Rd.owned 3 rfl _ hh | exact Rd.owned 4 rfl _ hh | exact Rd.owned 5 rfl _ hh | exact Rd.owned 6 rfl _ hh | exact Rd.owned 7 rfl _ hh | exact Rd.owned 8 rfl _ hh | exact Rd.owned 9 rfl _ hh | exact Rd.owned 10 rfl _ hh | exact Rd.owned 11 rfl _ hh | exact Rd.owned 12 rfl _ hh | exact Rd.owned 13 rfl _ hh | exact Rd.owned 14 rfl _ hh | exact Rd.owned 15 rfl _ hh) (by first | exact Subs.stays (by assumption) _ hh | exact Subs.owned 0 rfl _ hh | exact Subs.owned 1 rfl _ hh | exact Subs.owned 2 rfl _ hh | exact Subs.owned 3 rfl _ hh | exact Subs.owned 4 rfl _ hh | exact Subs.owned 5 rfl _ hh | exact Subs.owned 6 rfl _ hh | exact Subs.owned 7 rfl _ hh | exact Subs.owned 8 rfl _ hh | exact Subs.owned 9 rfl _ hh | exact Subs.owned 10 rfl _ hh | exact Subs.owned 11 rfl _ hh | exact Subs.owned 12 rfl _ hh | exact Subs.owned 13 rfl _ hh | exact Subs.owned 14 rfl _ hh | exact Subs.owned 15 rfl _ hh) (by first | exact Rd.stays (by assumption) _ hh | exact Rd.owned 0 rfl _ hh | exact Rd.owned 1 rfl _ hh | exact Rd.owned 2 rfl _ hh | exact Rd.owned 3 rfl _ hh | exact Rd.owned 4 rfl _ hh | exact Rd.owned 5 rfl _ hh | exact Rd.owned 6 rfl _ hh | exact Rd.owned 7 rfl _ hh | exact Rd.owned 8 rfl _ hh | exact Rd.owned 9 rfl _ hh | exact Rd.owned 10 rfl _ hh | exact Rd.owned 11 rfl _ hh | exact Rd.owned 12 rfl _ hh | exact Rd.owned 13 rfl _ hh | exact Rd.owned 14 rfl _ hh | exact Rd.owned 15 rfl _ hh) (by (try simp only [szM] at *); omega) (by (try simp only [szM] at *); omega))) rfl ?_; rintro ⟨⟨xc, xs⟩, xv⟩ ⟨hxc, hxv, hvl⟩; try dsimp only)
      have hn := congrArg List.length hvl; have hcf := cntCartonM_fst hvl; simp only [List.length_map] at hn
      refine G.op (og_alloc) rfl (fun bk7 _ => ?_)
      (first | refine G.op0 (og_st0 rfl rfl rfl rfl rfl (by repeat (first | rfl | refine one_cons (by first | rfl | assumption) ?_)) (.zero (.cons (.cons .nil)))) (fun _ _ => ?_) | refine G.op0 (og_st1 rfl rfl rfl rfl rfl (by repeat (first | rfl | refine one_cons (by first | rfl | assumption) ?_)) (.zero (.cons (.cons .nil)))) (fun _ _ => ?_) | refine G.op0 (og_st2 rfl rfl rfl rfl rfl (by repeat (first | rfl | refine one_cons (by first | rfl | assumption) ?_)) (.zero (.cons (.cons .nil)))) (fun _ _ => ?_) | refine G.op0 (og_st3 rfl rfl rfl rfl rfl (by repeat (first | rfl | refine one_cons (by first | rfl | assumption) ?_)) (.zero (.cons (.cons .nil)))) (fun _ _ => ?_) | refine G.op0 (og_st4 rfl rfl rfl rfl rfl (by repeat (first | rfl | refine one_cons (by first | rfl | assumption) ?_)) (.zero (.cons (.cons .nil)))) (fun _ _ => ?_) | refine G.op0 (og_st5 rfl rfl rfl rfl rfl (by repeat (first | rfl | refine one_cons (by first | rfl | assumption) ?_)) (.zero (.cons (.cons .nil)))) (fun _ _ => ?_) | refine G.op0 (og_st6 rfl rfl rfl rfl rfl (by repeat (first | rfl | refine one_cons (by first | rfl | assumption) ?_)) (.zero (.cons (.cons .nil)))) (fun _ _ => ?_) | refine G.op0 (og_st7 rfl rfl rfl rfl rfl (by repeat (first | rfl | refine one_cons (by first | rfl | assumption) ?_)) (.zero (.cons (.cons .nil)))) (fun _ _ => ?_) | refine G.op0 (og_st8 rfl rfl rfl rfl rfl (by repeat (first | rfl | refine one_cons (by first | rfl | assumption) ?_)) (.zero (.cons (.cons .nil)))) (fun _ _ => ?_) | refine G.op0 (og_st9 rfl rfl rfl rfl rfl (by repeat (first | rfl | refine one_cons (by first | rfl | assumption) ?_)) (.zero (.cons (.cons .nil)))) (fun _ _ => ?_) | refine G.op0 (og_st10 rfl rfl rfl rfl rfl (by repeat (first | rfl | refine one_cons (by first | rfl | assumption) ?_)) (.zero (.cons (.cons .nil)))) (fun _ _ => ?_) | refine G.op0 (og_st11 rfl rfl rfl rfl rfl (by repeat (first | rfl | refine one_cons (by first | rfl | assumption) ?_)) (.zero (.cons (.cons .nil)))) (fun _ _ => ?_) | refine G.op0 (og_st12 rfl rfl rfl rfl rfl (by repeat (first | rfl | refine one_cons (by first | rfl | assumption) ?_)) (.zero (.cons (.cons .nil)))) (fun _ _ => ?_) | refine G.op0 (og_st13 rfl rfl rfl rfl rfl (by repeat (first | rfl | refine one_cons (by first | rfl | assumption) ?_)) (.zero (.cons (.cons .nil)))) (fun _ _ => ?_) | refine G.op0 (og_st14 rfl rfl rfl rfl rfl (by repeat (first | rfl | refine one_cons (by first | rfl | assumption) ?_)) (.zero (.cons (.cons .nil)))) (fun _ _ => ?_) | refine G.op0 (og_st15 rfl rfl rfl rfl rfl (by repeat (first | rfl | refine one_cons (by first | rfl | assumption) ?_)) (.zero (.cons (.cons .nil)))) (fun _ _ => ?_) | refine G.op0 (og_st16 rfl rfl rfl rfl rfl (by repeat (first | rfl | refine one_cons (by first | rfl | assumption) ?_)) (.zero (.cons (.cons .nil)))) (fun _ _ => ?_) | refine G.op0 (og_st17 rfl rfl rfl rfl rfl (by repeat (first | rfl | refine one_cons (by first | rfl | assumption) ?_)) (.zero (.cons (.cons .nil)))) (fun _ _ => ?_) | refine G.op0 (og_st18 rfl rfl rfl rfl rfl (by repeat (first | rfl | refine one_cons (by first | rfl | assumption) ?_)) (.zero (.cons (.cons .nil)))) (fun _ _ => ?_) | refine G.op0 (og_st19 rfl rfl rfl rfl rfl (by repeat (first | rfl | refine one_cons (by first | rfl | assumption) ?_)) (.zero (.cons (.cons .nil)))) (fun _ _ => ?_))
      refine G.done ?_
      refine G.thenN ?_
      refine G.seq ?_
      refine G.region ?_
      (first | refine G.v (rv_loadW 0 rfl rfl rfl) rfl ?_ | refine G.v (rv_loadW 1 rfl rfl rfl) rfl ?_ | refine G.v (rv_loadW 2 rfl rfl rfl) rfl ?_ | refine G.v (rv_loadW 3 rfl rfl rfl) rfl ?_ | refine G.v (rv_loadW 4 rfl rfl rfl) rfl ?_ | refine G.v (rv_loadW 5 rfl rfl rfl) rfl ?_ | refine G.v (rv_loadW 6 rfl rfl rfl) rfl ?_ | refine G.v (rv_loadW 7 rfl rfl rfl) rfl ?_ | refine G.v (rv_loadW 8 rfl rfl rfl) rfl ?_ | refine G.v (rv_loadW 9 rfl rfl rfl) rfl ?_ | refine G.v (rv_loadW 10 rfl rfl rfl) rfl ?_ | refine G.v (rv_loadW 11 rfl rfl rfl) rfl ?_ | refine G.v (rv_loadW 12 rfl rfl rfl) rfl ?_ | refine G.v (rv_loadW 13 rfl rfl rfl) rfl ?_ | refine G.v (rv_loadW 14 rfl rfl rfl) rfl ?_ | refine G.v (rv_loadW 15 rfl rfl rfl) rfl ?_ | refine G.v (rv_loadW 16 rfl rfl rfl) rfl ?_ | refine G.v (rv_loadW 17 rfl rfl rfl) rfl ?_ | refine G.v (rv_loadW 18 rfl rfl rfl) rfl ?_ | refine G.v (rv_loadW 19 rfl rfl rfl) rfl ?_ | refine G.v (rv_loadP 0 rfl rfl (.one (.one .nil))) rfl ?_ | refine G.v (rv_loadP 1 rfl rfl (.one (.one .nil))) rfl ?_ | refine G.v (rv_loadP 2 rfl rfl (.one (.one .nil))) rfl ?_ | refine G.v (rv_loadP 3 rfl rfl (.one (.one .nil))) rfl ?_ | refine G.v (rv_loadP 4 rfl rfl (.one (.one .nil))) rfl ?_ | refine G.v (rv_loadP 5 rfl rfl (.one (.one .nil))) rfl ?_ | refine G.v (rv_loadP 6 rfl rfl (.one (.one .nil))) rfl ?_ | refine G.v (rv_loadP 7 rfl rfl (.one (.one .nil))) rfl ?_ | refine G.v (rv_loadP 8 rfl rfl (.one (.one .nil))) rfl ?_ | refine G.v (rv_loadP 9 rfl rfl (.one (.one .nil))) rfl ?_ | refine G.v (rv_loadP 10 rfl rfl (.one (.one .nil))) rfl ?_ | refine G.v (rv_loadP 11 rfl rfl (.one (.one .nil))) rfl ?_ | refine G.v (rv_loadP 12 rfl rfl (.one (.one .nil))) rfl ?_ | refine G.v (rv_loadP 13 rfl rfl (.one (.one .nil))) rfl ?_ | refine G.v (rv_loadP 14 rfl rfl (.one (.one .nil))) rfl ?_ | refine G.v (rv_loadP 15 rfl rfl (.one (.one .nil))) rfl ?_ | refine G.v (rv_loadP 16 rfl rfl (.one (.one .nil))) rfl ?_ | refine G.v (rv_loadP 17 rfl rfl (.one (.one .nil))) rfl ?_ | refine G.v (rv_loadP 18 rfl rfl (.one (.one .nil))) rfl ?_ | refine G.v (rv_loadP 19 rfl rfl (.one (.one .nil))) rfl ?_)
      refine G.v (rv_move rfl) rfl ?_
      (refine G.op (og_callF1 rfl rfl (fun w hh => onPallet_n w (by first | exact Rd.stays (by assumption) _ hh | exact Rd.owned 0 rfl _ hh | exact Rd.owned 1 rfl _ hh | exact Rd.owned 2 rfl _ hh | exact Rd.owned 3 rfl _ hh | exact Rd.owned 4 rfl _ hh | exact Rd.owned 5 rfl _ hh | exact Rd.owned 6 rfl _ hh | exact Rd.owned 7 rfl _ hh | exact Rd.owned 8 rfl _ hh | exact Rd.owned 9 rfl _ hh | exact Rd.owned 10 rfl _ hh | exact Rd.owned 11 rfl _ hh | exact Rd.owned 12 rfl _ hh | exact Rd.owned 13 rfl _ hh | exact Rd.owned 14 rfl _ hh | exact Rd.owned 15 rfl _ hh) (by first | exact Rd.stays (by assumption) _ hh | exact Rd.owned 0 rfl _ hh | exact Rd.owned 1 rfl _ hh | exact Rd.owned 2 rfl _ hh | exact Rd.owned 3 rfl _ hh | exact Rd.owned 4 rfl _ hh | exact Rd.owned 5 rfl _ hh | exact Rd.owned 6 rfl _ hh | exact Rd.owned 7 rfl _ hh | exact Rd.owned 8 rfl _ hh | exact Rd.owned 9 rfl _ hh | exact Rd.owned 10 rfl _ hh | exact Rd.owned 11 rfl _ hh | exact Rd.owned 12 rfl _ hh | exact Rd.owned 13 rfl _ hh | exact Rd.owned 14 rfl _ hh | exact Rd.owned 15 rfl _ hh) (by (try simp only [szM] at *); omega) hn)) rfl ?_; rintro vg hvg; try dsimp only)
      refine G.v (rv_assign rfl) rfl ?_
      refine G.done ?_
      refine G.thenN ?_
      refine G.seq ?_
      refine G.seq ?_
      refine G.region ?_
      refine G.v (rv_move rfl) rfl ?_
      refine G.v (rv_move rfl) rfl ?_
      refine G.op (og_callV rfl rfl (fun w hh => eqIntS_any w (by first | exact Rd.stays (by assumption) _ hh | exact Rd.owned 0 rfl _ hh | exact Rd.owned 1 rfl _ hh | exact Rd.owned 2 rfl _ hh | exact Rd.owned 3 rfl _ hh | exact Rd.owned 4 rfl _ hh | exact Rd.owned 5 rfl _ hh | exact Rd.owned 6 rfl _ hh | exact Rd.owned 7 rfl _ hh | exact Rd.owned 8 rfl _ hh | exact Rd.owned 9 rfl _ hh | exact Rd.owned 10 rfl _ hh | exact Rd.owned 11 rfl _ hh | exact Rd.owned 12 rfl _ hh | exact Rd.owned 13 rfl _ hh | exact Rd.owned 14 rfl _ hh | exact Rd.owned 15 rfl _ hh) (by first | exact Rd.stays (by assumption) _ hh | exact Rd.owned 0 rfl _ hh | exact Rd.owned 1 rfl _ hh | exact Rd.owned 2 rfl _ hh | exact Rd.owned 3 rfl _ hh | exact Rd.owned 4 rfl _ hh | exact Rd.owned 5 rfl _ hh | exact Rd.owned 6 rfl _ hh | exact Rd.owned 7 rfl _ hh | exact Rd.owned 8 rfl _ hh | exact Rd.owned 9 rfl _ hh | exact Rd.owned 10 rfl _ hh | exact Rd.owned 11 rfl _ hh | exact Rd.owned 12 rfl _ hh | exact Rd.owned 13 rfl _ hh | exact Rd.owned 14 rfl _ hh | exact Rd.owned 15 rfl _ hh))) rfl (fun _ _ => ?_)
      refine G.v (rv_not rfl) rfl ?_
      refine G.done ?_
      refine G.thenN ?_
      refine G.cond rfl (fun hc => ?_) (fun hc => ?_)
      · try exact Bool.noConfusion hc
        all_goals
         try replace hc := of_decide_eq_true hc
         try (exfalso; first | contradiction | omega)
         all_goals
          refine G.seq ?_
          refine G.region ?_
          refine G.v (rv_assign rfl) rfl ?_
          refine G.done ?_
          refine G.thenN ?_
          refine G.ret ?_
          refine G.thenR ?_
          first | exact G.retFV rfl rfl rfl | (exfalso; simp_all; done) | (exfalso; simp only [szM] at *; omega)
      · try exact Bool.noConfusion hc
        all_goals
         try replace hc := of_decide_eq_false hc
         try (exfalso; first | contradiction | omega)
         all_goals
          refine G.skip ?_
          refine G.thenN ?_
          refine G.seq ?_
          refine G.seq ?_
          refine G.drawL [] ?_
          (first | refine GE.q 0 rfl (by kernel_rfl) rfl (qg_runs (rv_loadW 0 rfl rfl rfl)) rfl ?_ | refine GE.q 0 rfl (by kernel_rfl) rfl (qg_runs (rv_loadW 1 rfl rfl rfl)) rfl ?_ | refine GE.q 0 rfl (by kernel_rfl) rfl (qg_runs (rv_loadW 2 rfl rfl rfl)) rfl ?_ | refine GE.q 0 rfl (by kernel_rfl) rfl (qg_runs (rv_loadW 3 rfl rfl rfl)) rfl ?_ | refine GE.q 0 rfl (by kernel_rfl) rfl (qg_runs (rv_loadW 4 rfl rfl rfl)) rfl ?_ | refine GE.q 0 rfl (by kernel_rfl) rfl (qg_runs (rv_loadW 5 rfl rfl rfl)) rfl ?_ | refine GE.q 0 rfl (by kernel_rfl) rfl (qg_runs (rv_loadW 6 rfl rfl rfl)) rfl ?_ | refine GE.q 0 rfl (by kernel_rfl) rfl (qg_runs (rv_loadW 7 rfl rfl rfl)) rfl ?_ | refine GE.q 0 rfl (by kernel_rfl) rfl (qg_runs (rv_loadW 8 rfl rfl rfl)) rfl ?_ | refine GE.q 0 rfl (by kernel_rfl) rfl (qg_runs (rv_loadW 9 rfl rfl rfl)) rfl ?_ | refine GE.q 0 rfl (by kernel_rfl) rfl (qg_runs (rv_loadW 10 rfl rfl rfl)) rfl ?_ | refine GE.q 0 rfl (by kernel_rfl) rfl (qg_runs (rv_loadW 11 rfl rfl rfl)) rfl ?_ | refine GE.q 0 rfl (by kernel_rfl) rfl (qg_runs (rv_loadW 12 rfl rfl rfl)) rfl ?_ | refine GE.q 0 rfl (by kernel_rfl) rfl (qg_runs (rv_loadW 13 rfl rfl rfl)) rfl ?_ | refine GE.q 0 rfl (by kernel_rfl) rfl (qg_runs (rv_loadW 14 rfl rfl rfl)) rfl ?_ | refine GE.q 0 rfl (by kernel_rfl) rfl (qg_runs (rv_loadW 15 rfl rfl rfl)) rfl ?_ | refine GE.q 0 rfl (by kernel_rfl) rfl (qg_runs (rv_loadW 16 rfl rfl rfl)) rfl ?_ | refine GE.q 0 rfl (by kernel_rfl) rfl (qg_runs (rv_loadW 17 rfl rfl rfl)) rfl ?_ | refine GE.q 0 rfl (by kernel_rfl) rfl (qg_runs (rv_loadW 18 rfl rfl rfl)) rfl ?_ | refine GE.q 0 rfl (by kernel_rfl) rfl (qg_runs (rv_loadW 19 rfl rfl rfl)) rfl ?_ | refine GE.q 0 rfl (by kernel_rfl) rfl (qg_runs (rv_loadP 0 rfl rfl (.one (.one .nil)))) rfl ?_ | refine GE.q 0 rfl (by kernel_rfl) rfl (qg_runs (rv_loadP 1 rfl rfl (.one (.one .nil)))) rfl ?_ | refine GE.q 0 rfl (by kernel_rfl) rfl (qg_runs (rv_loadP 2 rfl rfl (.one (.one .nil)))) rfl ?_ | refine GE.q 0 rfl (by kernel_rfl) rfl (qg_runs (rv_loadP 3 rfl rfl (.one (.one .nil)))) rfl ?_ | refine GE.q 0 rfl (by kernel_rfl) rfl (qg_runs (rv_loadP 4 rfl rfl (.one (.one .nil)))) rfl ?_ | refine GE.q 0 rfl (by kernel_rfl) rfl (qg_runs (rv_loadP 5 rfl rfl (.one (.one .nil)))) rfl ?_ | refine GE.q 0 rfl (by kernel_rfl) rfl (qg_runs (rv_loadP 6 rfl rfl (.one (.one .nil)))) rfl ?_ | refine GE.q 0 rfl (by kernel_rfl) rfl (qg_runs (rv_loadP 7 rfl rfl (.one (.one .nil)))) rfl ?_ | refine GE.q 0 rfl (by kernel_rfl) rfl (qg_runs (rv_loadP 8 rfl rfl (.one (.one .nil)))) rfl ?_ | refine GE.q 0 rfl (by kernel_rfl) rfl (qg_runs (rv_loadP 9 rfl rfl (.one (.one .nil)))) rfl ?_ | refine GE.q 0 rfl (by kernel_rfl) rfl (qg_runs (rv_loadP 10 rfl rfl (.one (.one .nil)))) rfl ?_ | refine GE.q 0 rfl (by kernel_rfl) rfl (qg_runs (rv_loadP 11 rfl rfl (.one (.one .nil)))) rfl ?_ | refine GE.q 0 rfl (by kernel_rfl) rfl (qg_runs (rv_loadP 12 rfl rfl (.one (.one .nil)))) rfl ?_ | refine GE.q 0 rfl (by kernel_rfl) rfl (qg_runs (rv_loadP 13 rfl rfl (.one (.one .nil)))) rfl ?_ | refine GE.q 0 rfl (by kernel_rfl) rfl (qg_runs (rv_loadP 14 rfl rfl (.one (.one .nil)))) rfl ?_ | refine GE.q 0 rfl (by kernel_rfl) rfl (qg_runs (rv_loadP 15 rfl rfl (.one (.one .nil)))) rfl ?_ | refine GE.q 0 rfl (by kernel_rfl) rfl (qg_runs (rv_loadP 16 rfl rfl (.one (.one .nil)))) rfl ?_ | refine GE.q 0 rfl (by kernel_rfl) rfl (qg_runs (rv_loadP 17 rfl rfl (.one (.one .nil)))) rfl ?_ | refine GE.q 0 rfl (by kernel_rfl) rfl (qg_runs (rv_loadP 18 rfl rfl (.one (.one .nil)))) rfl ?_ | refine GE.q 0 rfl (by kernel_rfl) rfl (qg_runs (rv_loadP 19 rfl rfl (.one (.one .nil)))) rfl ?_)
          (first | refine GE.q 1 rfl (by kernel_rfl) rfl (qg_runs (rv_loadW 0 rfl rfl rfl)) rfl ?_ | refine GE.q 1 rfl (by kernel_rfl) rfl (qg_runs (rv_loadW 1 rfl rfl rfl)) rfl ?_ | refine GE.q 1 rfl (by kernel_rfl) rfl (qg_runs (rv_loadW 2 rfl rfl rfl)) rfl ?_ | refine GE.q 1 rfl (by kernel_rfl) rfl (qg_runs (rv_loadW 3 rfl rfl rfl)) rfl ?_ | refine GE.q 1 rfl (by kernel_rfl) rfl (qg_runs (rv_loadW 4 rfl rfl rfl)) rfl ?_ | refine GE.q 1 rfl (by kernel_rfl) rfl (qg_runs (rv_loadW 5 rfl rfl rfl)) rfl ?_ | refine GE.q 1 rfl (by kernel_rfl) rfl (qg_runs (rv_loadW 6 rfl rfl rfl)) rfl ?_ | refine GE.q 1 rfl (by kernel_rfl) rfl (qg_runs (rv_loadW 7 rfl rfl rfl)) rfl ?_ | refine GE.q 1 rfl (by kernel_rfl) rfl (qg_runs (rv_loadW 8 rfl rfl rfl)) rfl ?_ | refine GE.q 1 rfl (by kernel_rfl) rfl (qg_runs (rv_loadW 9 rfl rfl rfl)) rfl ?_ | refine GE.q 1 rfl (by kernel_rfl) rfl (qg_runs (rv_loadW 10 rfl rfl rfl)) rfl ?_ | refine GE.q 1 rfl (by kernel_rfl) rfl (qg_runs (rv_loadW 11 rfl rfl rfl)) rfl ?_ | refine GE.q 1 rfl (by kernel_rfl) rfl (qg_runs (rv_loadW 12 rfl rfl rfl)) rfl ?_ | refine GE.q 1 rfl (by kernel_rfl) rfl (qg_runs (rv_loadW 13 rfl rfl rfl)) rfl ?_ | refine GE.q 1 rfl (by kernel_rfl) rfl (qg_runs (rv_loadW 14 rfl rfl rfl)) rfl ?_ | refine GE.q 1 rfl (by kernel_rfl) rfl (qg_runs (rv_loadW 15 rfl rfl rfl)) rfl ?_ | refine GE.q 1 rfl (by kernel_rfl) rfl (qg_runs (rv_loadW 16 rfl rfl rfl)) rfl ?_ | refine GE.q 1 rfl (by kernel_rfl) rfl (qg_runs (rv_loadW 17 rfl rfl rfl)) rfl ?_ | refine GE.q 1 rfl (by kernel_rfl) rfl (qg_runs (rv_loadW 18 rfl rfl rfl)) rfl ?_ | refine GE.q 1 rfl (by kernel_rfl) rfl (qg_runs (rv_loadW 19 rfl rfl rfl)) rfl ?_ | refine GE.q 1 rfl (by kernel_rfl) rfl (qg_runs (rv_loadP 0 rfl rfl (.one (.one .nil)))) rfl ?_ | refine GE.q 1 rfl (by kernel_rfl) rfl (qg_runs (rv_loadP 1 rfl rfl (.one (.one .nil)))) rfl ?_ | refine GE.q 1 rfl (by kernel_rfl) rfl (qg_runs (rv_loadP 2 rfl rfl (.one (.one .nil)))) rfl ?_ | refine GE.q 1 rfl (by kernel_rfl) rfl (qg_runs (rv_loadP 3 rfl rfl (.one (.one .nil)))) rfl ?_ | refine GE.q 1 rfl (by kernel_rfl) rfl (qg_runs (rv_loadP 4 rfl rfl (.one (.one .nil)))) rfl ?_ | refine GE.q 1 rfl (by kernel_rfl) rfl (qg_runs (rv_loadP 5 rfl rfl (.one (.one .nil)))) rfl ?_ | refine GE.q 1 rfl (by kernel_rfl) rfl (qg_runs (rv_loadP 6 rfl rfl (.one (.one .nil)))) rfl ?_ | refine GE.q 1 rfl (by kernel_rfl) rfl (qg_runs (rv_loadP 7 rfl rfl (.one (.one .nil)))) rfl ?_ | refine GE.q 1 rfl (by kernel_rfl) rfl (qg_runs (rv_loadP 8 rfl rfl (.one (.one .nil)))) rfl ?_ | refine GE.q 1 rfl (by kernel_rfl) rfl (qg_runs (rv_loadP 9 rfl rfl (.one (.one .nil)))) rfl ?_ | refine GE.q 1 rfl (by kernel_rfl) rfl (qg_runs (rv_loadP 10 rfl rfl (.one (.one .nil)))) rfl ?_ | refine GE.q 1 rfl (by kernel_rfl) rfl (qg_runs (rv_loadP 11 rfl rfl (.one (.one .nil)))) rfl ?_ | refine GE.q 1 rfl (by kernel_rfl) rfl (qg_runs (rv_loadP 12 rfl rfl (.one (.one .nil)))) rfl ?_ | refine GE.q 1 rfl (by kernel_rfl) rfl (qg_runs (rv_loadP 13 rfl rfl (.one (.one .nil)))) rfl ?_ | refine GE.q 1 rfl (by kernel_rfl) rfl (qg_runs (rv_loadP 14 rfl rfl (.one (.one .nil)))) rfl ?_ | refine GE.q 1 rfl (by kernel_rfl) rfl (qg_runs (rv_loadP 15 rfl rfl (.one (.one .nil)))) rfl ?_ | refine GE.q 1 rfl (by kernel_rfl) rfl (qg_runs (rv_loadP 16 rfl rfl (.one (.one .nil)))) rfl ?_ | refine GE.q 1 rfl (by kernel_rfl) rfl (qg_runs (rv_loadP 17 rfl rfl (.one (.one .nil)))) rfl ?_ | refine GE.q 1 rfl (by kernel_rfl) rfl (qg_runs (rv_loadP 18 rfl rfl (.one (.one .nil)))) rfl ?_ | refine GE.q 1 rfl (by kernel_rfl) rfl (qg_runs (rv_loadP 19 rfl rfl (.one (.one .nil)))) rfl ?_)
          (first | (refine GE.ol 2 (by kernel_rfl) rfl rfl (og_callF1 rfl rfl (fun w hh => toPlan_any w (by first | exact Rd.stays (by assumption) _ hh | exact Rd.owned 0 rfl _ hh | exact Rd.owned 1 rfl _ hh | exact Rd.owned 2 rfl _ hh | exact Rd.owned 3 rfl _ hh | exact Rd.owned 4 rfl _ hh | exact Rd.owned 5 rfl _ hh | exact Rd.owned 6 rfl _ hh | exact Rd.owned 7 rfl _ hh | exact Rd.owned 8 rfl _ hh | exact Rd.owned 9 rfl _ hh | exact Rd.owned 10 rfl _ hh | exact Rd.owned 11 rfl _ hh | exact Rd.owned 12 rfl _ hh | exact Rd.owned 13 rfl _ hh | exact Rd.owned 14 rfl _ hh | exact Rd.owned 15 rfl _ hh) (by first | exact Subs.stays (by assumption) _ hh | exact Subs.owned 0 rfl _ hh | exact Subs.owned 1 rfl _ hh | exact Subs.owned 2 rfl _ hh | exact Subs.owned 3 rfl _ hh | exact Subs.owned 4 rfl _ hh | exact Subs.owned 5 rfl _ hh | exact Subs.owned 6 rfl _ hh | exact Subs.owned 7 rfl _ hh | exact Subs.owned 8 rfl _ hh | exact Subs.owned 9 rfl _ hh | exact Subs.owned 10 rfl _ hh | exact Subs.owned 11 rfl _ hh | exact Subs.owned 12 rfl _ hh | exact Subs.owned 13 rfl _ hh | exact Subs.owned 14 rfl _ hh | exact Subs.owned 15 rfl _ hh) (by first | exact Rd.stays (by assumption) _ hh | exact Rd.owned 0 rfl _ hh | exact Rd.owned 1 rfl _ hh | exact Rd.owned 2 rfl _ hh | exact Rd.owned 3 rfl _ hh | exact Rd.owned 4 rfl _ hh | exact Rd.owned 5 rfl _ hh | exact Rd.owned 6 rfl _ hh | exact Rd.owned 7 rfl _ hh | exact Rd.owned 8 rfl _ hh | exact Rd.owned 9 rfl _ hh | exact Rd.owned 10 rfl _ hh | exact Rd.owned 11 rfl _ hh | exact Rd.owned 12 rfl _ hh | exact Rd.owned 13 rfl _ hh | exact Rd.owned 14 rfl _ hh | exact Rd.owned 15 rfl _ hh) (by (try simp only [szM] at *); omega) (by (try simp only [szM] at *); omega))) rfl (fun _ _ h => by first | exact h | exact h.drop 1 | exact h.drop 2 | exact h.drop 3 | exact h.drop 4 | exact h.drop 5 | exact h.drop 6 | exact h.drop 7 | exact h.drop 8 | exact h.drop 9 | exact h.drop 10 | exact h.drop 11 | exact h.drop 12 | exact h.drop 13) ?_; rintro ⟨⟨cv2, cs2⟩, sv2⟩ ⟨hov, hov2, hvl⟩; try dsimp only) | (refine GE.ol 2 (by kernel_rfl) rfl rfl (og_callF2 rfl rfl (fun w hh => toPlan_any w (by first | exact Rd.stays (by assumption) _ hh | exact Rd.owned 0 rfl _ hh | exact Rd.owned 1 rfl _ hh | exact Rd.owned 2 rfl _ hh | exact Rd.owned 3 rfl _ hh | exact Rd.owned 4 rfl _ hh | exact Rd.owned 5 rfl _ hh | exact Rd.owned 6 rfl _ hh | exact Rd.owned 7 rfl _ hh | exact Rd.owned 8 rfl _ hh | exact Rd.owned 9 rfl _ hh | exact Rd.owned 10 rfl _ hh | exact Rd.owned 11 rfl _ hh | exact Rd.owned 12 rfl _ hh | exact Rd.owned 13 rfl _ hh | exact Rd.owned 14 rfl _ hh | exact Rd.owned 15 rfl _ hh) (by first | exact Subs.stays (by assumption) _ hh | exact Subs.owned 0 rfl _ hh | exact Subs.owned 1 rfl _ hh | exact Subs.owned 2 rfl _ hh | exact Subs.owned 3 rfl _ hh | exact Subs.owned 4 rfl _ hh | exact Subs.owned 5 rfl _ hh | exact Subs.owned 6 rfl _ hh | exact Subs.owned 7 rfl _ hh | exact Subs.owned 8 rfl _ hh | exact Subs.owned 9 rfl _ hh | exact Subs.owned 10 rfl _ hh | exact Subs.owned 11 rfl _ hh | exact Subs.owned 12 rfl _ hh | exact Subs.owned 13 rfl _ hh | exact Subs.owned 14 rfl _ hh | exact Subs.owned 15 rfl _ hh) (by first | exact Rd.stays (by assumption) _ hh | exact Rd.owned 0 rfl _ hh | exact Rd.owned 1 rfl _ hh | exact Rd.owned 2 rfl _ hh | exact Rd.owned 3 rfl _ hh | exact Rd.owned 4 rfl _ hh | exact Rd.owned 5 rfl _ hh | exact Rd.owned 6 rfl _ hh | exact Rd.owned 7 rfl _ hh | exact Rd.owned 8 rfl _ hh | exact Rd.owned 9 rfl _ hh | exact Rd.owned 10 rfl _ hh | exact Rd.owned 11 rfl _ hh | exact Rd.owned 12 rfl _ hh | exact Rd.owned 13 rfl _ hh | exact Rd.owned 14 rfl _ hh | exact Rd.owned 15 rfl _ hh) (by (try simp only [szM] at *); omega) (by (try simp only [szM] at *); omega))) rfl (fun _ _ h => by first | exact h | exact h.drop 1 | exact h.drop 2 | exact h.drop 3 | exact h.drop 4 | exact h.drop 5 | exact h.drop 6 | exact h.drop 7 | exact h.drop 8 | exact h.drop 9 | exact h.drop 10 | exact h.drop 11 | exact h.drop 12 | exact h.drop 13) ?_; rintro ⟨⟨cv2, cs2⟩, sv2⟩ ⟨hov, hov2, hvl⟩; try dsimp only) | (refine GE.ol 2 (by kernel_rfl) rfl rfl (og_callF3 rfl rfl (fun w hh => toPlan_any w (by first | exact Rd.stays (by assumption) _ hh | exact Rd.owned 0 rfl _ hh | exact Rd.owned 1 rfl _ hh | exact Rd.owned 2 rfl _ hh | exact Rd.owned 3 rfl _ hh | exact Rd.owned 4 rfl _ hh | exact Rd.owned 5 rfl _ hh | exact Rd.owned 6 rfl _ hh | exact Rd.owned 7 rfl _ hh | exact Rd.owned 8 rfl _ hh | exact Rd.owned 9 rfl _ hh | exact Rd.owned 10 rfl _ hh | exact Rd.owned 11 rfl _ hh | exact Rd.owned 12 rfl _ hh | exact Rd.owned 13 rfl _ hh | exact Rd.owned 14 rfl _ hh | exact Rd.owned 15 rfl _ hh) (by first | exact Subs.stays (by assumption) _ hh | exact Subs.owned 0 rfl _ hh | exact Subs.owned 1 rfl _ hh | exact Subs.owned 2 rfl _ hh | exact Subs.owned 3 rfl _ hh | exact Subs.owned 4 rfl _ hh | exact Subs.owned 5 rfl _ hh | exact Subs.owned 6 rfl _ hh | exact Subs.owned 7 rfl _ hh | exact Subs.owned 8 rfl _ hh | exact Subs.owned 9 rfl _ hh | exact Subs.owned 10 rfl _ hh | exact Subs.owned 11 rfl _ hh | exact Subs.owned 12 rfl _ hh | exact Subs.owned 13 rfl _ hh | exact Subs.owned 14 rfl _ hh | exact Subs.owned 15 rfl _ hh) (by first | exact Rd.stays (by assumption) _ hh | exact Rd.owned 0 rfl _ hh | exact Rd.owned 1 rfl _ hh | exact Rd.owned 2 rfl _ hh | exact Rd.owned 3 rfl _ hh | exact Rd.owned 4 rfl _ hh | exact Rd.owned 5 rfl _ hh | exact Rd.owned 6 rfl _ hh | exact Rd.owned 7 rfl _ hh | exact Rd.owned 8 rfl _ hh | exact Rd.owned 9 rfl _ hh | exact Rd.owned 10 rfl _ hh | exact Rd.owned 11 rfl _ hh | exact Rd.owned 12 rfl _ hh | exact Rd.owned 13 rfl _ hh | exact Rd.owned 14 rfl _ hh | exact Rd.owned 15 rfl _ hh) (by (try simp only [szM] at *); omega) (by (try simp only [szM] at *); omega))) rfl (fun _ _ h => by first | exact h | exact h.drop 1 | exact h.drop 2 | exact h.drop 3 | exact h.drop 4 | exact h.drop 5 | exact h.drop 6 | exact h.drop 7 | exact h.drop 8 | exact h.drop 9 | exact h.drop 10 | exact h.drop 11 | exact h.drop 12 | exact h.drop 13) ?_; rintro ⟨⟨cv2, cs2⟩, sv2⟩ ⟨hov, hov2, hvl⟩; try dsimp only) | (refine GE.ol 2 (by kernel_rfl) rfl rfl (og_callF0 rfl rfl (fun w hh => toPlan_any w (by first | exact Rd.stays (by assumption) _ hh | exact Rd.owned 0 rfl _ hh | exact Rd.owned 1 rfl _ hh | exact Rd.owned 2 rfl _ hh | exact Rd.owned 3 rfl _ hh | exact Rd.owned 4 rfl _ hh | exact Rd.owned 5 rfl _ hh | exact Rd.owned 6 rfl _ hh | exact Rd.owned 7 rfl _ hh | exact Rd.owned 8 rfl _ hh | exact Rd.owned 9 rfl _ hh | exact Rd.owned 10 rfl _ hh | exact Rd.owned 11 rfl _ hh | exact Rd.owned 12 rfl _ hh | exact Rd.owned 13 rfl _ hh | exact Rd.owned 14 rfl _ hh | exact Rd.owned 15 rfl _ hh) (by first | exact Subs.stays (by assumption) _ hh | exact Subs.owned 0 rfl _ hh | exact Subs.owned 1 rfl _ hh | exact Subs.owned 2 rfl _ hh | exact Subs.owned 3 rfl _ hh | exact Subs.owned 4 rfl _ hh | exact Subs.owned 5 rfl _ hh | exact Subs.owned 6 rfl _ hh | exact Subs.owned 7 rfl _ hh | exact Subs.owned 8 rfl _ hh | exact Subs.owned 9 rfl _ hh | exact Subs.owned 10 rfl _ hh | exact Subs.owned 11 rfl _ hh | exact Subs.owned 12 rfl _ hh | exact Subs.owned 13 rfl _ hh | exact Subs.owned 14 rfl _ hh | exact Subs.owned 15 rfl _ hh) (by first | exact Rd.stays (by assumption) _ hh | exact Rd.owned 0 rfl _ hh | exact Rd.owned 1 rfl _ hh | exact Rd.owned 2 rfl _ hh | exact Rd.owned 3 rfl _ hh | exact Rd.owned 4 rfl _ hh | exact Rd.owned 5 rfl _ hh | exact Rd.owned 6 rfl _ hh | exact Rd.owned 7 rfl _ hh | exact Rd.owned 8 rfl _ hh | exact Rd.owned 9 rfl _ hh | exact Rd.owned 10 rfl _ hh | exact Rd.owned 11 rfl _ hh | exact Rd.owned 12 rfl _ hh | exact Rd.owned 13 rfl _ hh | exact Rd.owned 14 rfl _ hh | exact Rd.owned 15 rfl _ hh) (by (try simp only [szM] at *); omega) (by (try simp only [szM] at *); omega))) rfl (fun _ _ h => by first | exact h | exact h.drop 1 | exact h.drop 2 | exact h.drop 3 | exact h.drop 4 | exact h.drop 5 | exact h.drop 6 | exact h.drop 7 | exact h.drop 8 | exact h.drop 9 | exact h.drop 10 | exact h.drop 11 | exact h.drop 12 | exact h.drop 13) ?_; rintro ⟨⟨cv2, cs2⟩, sv2⟩ ⟨hov, hov2, hvl⟩; try dsimp only) | (refine GE.ol 2 (by kernel_rfl) rfl rfl (og_callF rfl rfl (fun w hh => toPlan_any w (by first | exact Rd.stays (by assumption) _ hh | exact Rd.owned 0 rfl _ hh | exact Rd.owned 1 rfl _ hh | exact Rd.owned 2 rfl _ hh | exact Rd.owned 3 rfl _ hh | exact Rd.owned 4 rfl _ hh | exact Rd.owned 5 rfl _ hh | exact Rd.owned 6 rfl _ hh | exact Rd.owned 7 rfl _ hh | exact Rd.owned 8 rfl _ hh | exact Rd.owned 9 rfl _ hh | exact Rd.owned 10 rfl _ hh | exact Rd.owned 11 rfl _ hh | exact Rd.owned 12 rfl _ hh | exact Rd.owned 13 rfl _ hh | exact Rd.owned 14 rfl _ hh | exact Rd.owned 15 rfl _ hh) (by first | exact Subs.stays (by assumption) _ hh | exact Subs.owned 0 rfl _ hh | exact Subs.owned 1 rfl _ hh | exact Subs.owned 2 rfl _ hh | exact Subs.owned 3 rfl _ hh | exact Subs.owned 4 rfl _ hh | exact Subs.owned 5 rfl _ hh | exact Subs.owned 6 rfl _ hh | exact Subs.owned 7 rfl _ hh | exact Subs.owned 8 rfl _ hh | exact Subs.owned 9 rfl _ hh | exact Subs.owned 10 rfl _ hh | exact Subs.owned 11 rfl _ hh | exact Subs.owned 12 rfl _ hh | exact Subs.owned 13 rfl _ hh | exact Subs.owned 14 rfl _ hh | exact Subs.owned 15 rfl _ hh) (by first | exact Rd.stays (by assumption) _ hh | exact Rd.owned 0 rfl _ hh | exact Rd.owned 1 rfl _ hh | exact Rd.owned 2 rfl _ hh | exact Rd.owned 3 rfl _ hh | exact Rd.owned 4 rfl _ hh | exact Rd.owned 5 rfl _ hh | exact Rd.owned 6 rfl _ hh | exact Rd.owned 7 rfl _ hh | exact Rd.owned 8 rfl _ hh | exact Rd.owned 9 rfl _ hh | exact Rd.owned 10 rfl _ hh | exact Rd.owned 11 rfl _ hh | exact Rd.owned 12 rfl _ hh | exact Rd.owned 13 rfl _ hh | exact Rd.owned 14 rfl _ hh | exact Rd.owned 15 rfl _ hh) (by (try simp only [szM] at *); omega) (by (try simp only [szM] at *); omega))) rfl (fun _ _ h => by first | exact h | exact h.drop 1 | exact h.drop 2 | exact h.drop 3 | exact h.drop 4 | exact h.drop 5 | exact h.drop 6 | exact h.drop 7 | exact h.drop 8 | exact h.drop 9 | exact h.drop 10 | exact h.drop 11 | exact h.drop 12 | exact h.drop 13) ?_; rintro ⟨⟨cv2, cs2⟩, sv2⟩ ⟨hov, hov2, hvl⟩; try dsimp only))
          have hn := congrArg List.length hvl; have hcf := cntCartonM_fst hvl; simp only [List.length_map] at hn
          refine GE.ol 3 (by kernel_rfl) rfl rfl (og_callV rfl rfl (fun w hh => eqPlan_any w (by first | exact Rd.stays (by assumption) _ hh | exact Rd.owned 0 rfl _ hh | exact Rd.owned 1 rfl _ hh | exact Rd.owned 2 rfl _ hh | exact Rd.owned 3 rfl _ hh | exact Rd.owned 4 rfl _ hh | exact Rd.owned 5 rfl _ hh | exact Rd.owned 6 rfl _ hh | exact Rd.owned 7 rfl _ hh | exact Rd.owned 8 rfl _ hh | exact Rd.owned 9 rfl _ hh | exact Rd.owned 10 rfl _ hh | exact Rd.owned 11 rfl _ hh | exact Rd.owned 12 rfl _ hh | exact Rd.owned 13 rfl _ hh | exact Rd.owned 14 rfl _ hh | exact Rd.owned 15 rfl _ hh) (by first | exact Subs.stays (by assumption) _ hh | exact Subs.owned 0 rfl _ hh | exact Subs.owned 1 rfl _ hh | exact Subs.owned 2 rfl _ hh | exact Subs.owned 3 rfl _ hh | exact Subs.owned 4 rfl _ hh | exact Subs.owned 5 rfl _ hh | exact Subs.owned 6 rfl _ hh | exact Subs.owned 7 rfl _ hh | exact Subs.owned 8 rfl _ hh | exact Subs.owned 9 rfl _ hh | exact Subs.owned 10 rfl _ hh | exact Subs.owned 11 rfl _ hh | exact Subs.owned 12 rfl _ hh | exact Subs.owned 13 rfl _ hh | exact Subs.owned 14 rfl _ hh | exact Subs.owned 15 rfl _ hh) (by first | exact Rd.stays (by assumption) _ hh | exact Rd.owned 0 rfl _ hh | exact Rd.owned 1 rfl _ hh | exact Rd.owned 2 rfl _ hh | exact Rd.owned 3 rfl _ hh | exact Rd.owned 4 rfl _ hh | exact Rd.owned 5 rfl _ hh | exact Rd.owned 6 rfl _ hh | exact Rd.owned 7 rfl _ hh | exact Rd.owned 8 rfl _ hh | exact Rd.owned 9 rfl _ hh | exact Rd.owned 10 rfl _ hh | exact Rd.owned 11 rfl _ hh | exact Rd.owned 12 rfl _ hh | exact Rd.owned 13 rfl _ hh | exact Rd.owned 14 rfl _ hh | exact Rd.owned 15 rfl _ hh) (by first | exact Rd.stays (by assumption) _ hh | exact Rd.owned 0 rfl _ hh | exact Rd.owned 1 rfl _ hh | exact Rd.owned 2 rfl _ hh | exact Rd.owned 3 rfl _ hh | exact Rd.owned 4 rfl _ hh | exact Rd.owned 5 rfl _ hh | exact Rd.owned 6 rfl _ hh | exact Rd.owned 7 rfl _ hh | exact Rd.owned 8 rfl _ hh | exact Rd.owned 9 rfl _ hh | exact Rd.owned 10 rfl _ hh | exact Rd.owned 11 rfl _ hh | exact Rd.owned 12 rfl _ hh | exact Rd.owned 13 rfl _ hh | exact Rd.owned 14 rfl _ hh | exact Rd.owned 15 rfl _ hh) (by first | exact Subs.stays (by assumption) _ hh | exact Subs.owned 0 rfl _ hh | exact Subs.owned 1 rfl _ hh | exact Subs.owned 2 rfl _ hh | exact Subs.owned 3 rfl _ hh | exact Subs.owned 4 rfl _ hh | exact Subs.owned 5 rfl _ hh | exact Subs.owned 6 rfl _ hh | exact Subs.owned 7 rfl _ hh | exact Subs.owned 8 rfl _ hh | exact Subs.owned 9 rfl _ hh | exact Subs.owned 10 rfl _ hh | exact Subs.owned 11 rfl _ hh | exact Subs.owned 12 rfl _ hh | exact Subs.owned 13 rfl _ hh | exact Subs.owned 14 rfl _ hh | exact Subs.owned 15 rfl _ hh) (by first | exact Rd.stays (by assumption) _ hh | exact Rd.owned 0 rfl _ hh | exact Rd.owned 1 rfl _ hh | exact Rd.owned 2 rfl _ hh | exact Rd.owned 3 rfl _ hh | exact Rd.owned 4 rfl _ hh | exact Rd.owned 5 rfl _ hh | exact Rd.owned 6 rfl _ hh | exact Rd.owned 7 rfl _ hh | exact Rd.owned 8 rfl _ hh | exact Rd.owned 9 rfl _ hh | exact Rd.owned 10 rfl _ hh | exact Rd.owned 11 rfl _ hh | exact Rd.owned 12 rfl _ hh | exact Rd.owned 13 rfl _ hh | exact Rd.owned 14 rfl _ hh | exact Rd.owned 15 rfl _ hh))) rfl (fun _ _ h => by first | exact h | exact h.drop 1 | exact h.drop 2 | exact h.drop 3 | exact h.drop 4 | exact h.drop 5 | exact h.drop 6 | exact h.drop 7 | exact h.drop 8 | exact h.drop 9 | exact h.drop 10 | exact h.drop 11 | exact h.drop 12 | exact h.drop 13) (fun _ _ => ?_)
          refine GE.ol 4 (by kernel_rfl) rfl rfl (og_runs (rv_not rfl)) rfl (fun _ _ h => by first | exact h | exact h.drop 1 | exact h.drop 2 | exact h.drop 3 | exact h.drop 4 | exact h.drop 5 | exact h.drop 6 | exact h.drop 7 | exact h.drop 8 | exact h.drop 9 | exact h.drop 10 | exact h.drop 11 | exact h.drop 12 | exact h.drop 13) (fun _ _ => ?_)
          refine GE.done (by kernel_rfl) ?_
          refine G.thenN ?_
          refine G.cond rfl (fun hc => ?_) (fun hc => ?_)
          · try exact Bool.noConfusion hc
            all_goals
             try replace hc := of_decide_eq_true hc
             try (exfalso; first | contradiction | omega)
             all_goals
              refine G.seq ?_
              refine G.region ?_
              refine G.v (rv_assign rfl) rfl ?_
              refine G.done ?_
              refine G.thenN ?_
              refine G.ret ?_
              refine G.thenR ?_
              first | exact G.retFV rfl rfl rfl | (exfalso; simp_all; done) | (exfalso; simp only [szM] at *; omega)
          · try exact Bool.noConfusion hc
            all_goals
             try replace hc := of_decide_eq_false hc
             try (exfalso; first | contradiction | omega)
             all_goals
              refine G.skip ?_
              refine G.thenN ?_
              refine G.seq ?_
              refine G.region ?_
              refine G.v (rv_assign rfl) rfl ?_
              refine G.done ?_
              refine G.thenN ?_
              refine G.seq ?_
              refine G.region ?_
              (first | refine G.v (rv_loadW 0 rfl rfl rfl) rfl ?_ | refine G.v (rv_loadW 1 rfl rfl rfl) rfl ?_ | refine G.v (rv_loadW 2 rfl rfl rfl) rfl ?_ | refine G.v (rv_loadW 3 rfl rfl rfl) rfl ?_ | refine G.v (rv_loadW 4 rfl rfl rfl) rfl ?_ | refine G.v (rv_loadW 5 rfl rfl rfl) rfl ?_ | refine G.v (rv_loadW 6 rfl rfl rfl) rfl ?_ | refine G.v (rv_loadW 7 rfl rfl rfl) rfl ?_ | refine G.v (rv_loadW 8 rfl rfl rfl) rfl ?_ | refine G.v (rv_loadW 9 rfl rfl rfl) rfl ?_ | refine G.v (rv_loadW 10 rfl rfl rfl) rfl ?_ | refine G.v (rv_loadW 11 rfl rfl rfl) rfl ?_ | refine G.v (rv_loadW 12 rfl rfl rfl) rfl ?_ | refine G.v (rv_loadW 13 rfl rfl rfl) rfl ?_ | refine G.v (rv_loadW 14 rfl rfl rfl) rfl ?_ | refine G.v (rv_loadW 15 rfl rfl rfl) rfl ?_ | refine G.v (rv_loadW 16 rfl rfl rfl) rfl ?_ | refine G.v (rv_loadW 17 rfl rfl rfl) rfl ?_ | refine G.v (rv_loadW 18 rfl rfl rfl) rfl ?_ | refine G.v (rv_loadW 19 rfl rfl rfl) rfl ?_ | refine G.v (rv_loadP 0 rfl rfl (.one (.one .nil))) rfl ?_ | refine G.v (rv_loadP 1 rfl rfl (.one (.one .nil))) rfl ?_ | refine G.v (rv_loadP 2 rfl rfl (.one (.one .nil))) rfl ?_ | refine G.v (rv_loadP 3 rfl rfl (.one (.one .nil))) rfl ?_ | refine G.v (rv_loadP 4 rfl rfl (.one (.one .nil))) rfl ?_ | refine G.v (rv_loadP 5 rfl rfl (.one (.one .nil))) rfl ?_ | refine G.v (rv_loadP 6 rfl rfl (.one (.one .nil))) rfl ?_ | refine G.v (rv_loadP 7 rfl rfl (.one (.one .nil))) rfl ?_ | refine G.v (rv_loadP 8 rfl rfl (.one (.one .nil))) rfl ?_ | refine G.v (rv_loadP 9 rfl rfl (.one (.one .nil))) rfl ?_ | refine G.v (rv_loadP 10 rfl rfl (.one (.one .nil))) rfl ?_ | refine G.v (rv_loadP 11 rfl rfl (.one (.one .nil))) rfl ?_ | refine G.v (rv_loadP 12 rfl rfl (.one (.one .nil))) rfl ?_ | refine G.v (rv_loadP 13 rfl rfl (.one (.one .nil))) rfl ?_ | refine G.v (rv_loadP 14 rfl rfl (.one (.one .nil))) rfl ?_ | refine G.v (rv_loadP 15 rfl rfl (.one (.one .nil))) rfl ?_ | refine G.v (rv_loadP 16 rfl rfl (.one (.one .nil))) rfl ?_ | refine G.v (rv_loadP 17 rfl rfl (.one (.one .nil))) rfl ?_ | refine G.v (rv_loadP 18 rfl rfl (.one (.one .nil))) rfl ?_ | refine G.v (rv_loadP 19 rfl rfl (.one (.one .nil))) rfl ?_)
              refine G.v (rv_move rfl) rfl ?_
              ((first | refine G.frontR0 (xc) rfl ?_ | refine G.frontR1 (xc) rfl ?_ | refine G.frontR2 (xc) rfl ?_ | refine G.frontR3 (xc) rfl ?_ | refine G.frontR4 (xc) rfl ?_ | refine G.frontR5 (xc) rfl ?_ | refine G.frontR6 (xc) rfl ?_ | refine G.frontR7 (xc) rfl ?_ | refine G.frontR8 (xc) rfl ?_ | refine G.frontR9 (xc) rfl ?_ | refine G.frontR10 (xc) rfl ?_ | refine G.frontR11 (xc) rfl ?_ | refine G.frontR12 (xc) rfl ?_ | refine G.frontR13 (xc) rfl ?_ | refine G.frontR14 (xc) rfl ?_ | refine G.frontR15 (xc) rfl ?_); (first | refine G.frontG0 (xs.map (sub CartonM.l)) rfl ?_ | refine G.frontG1 (xs.map (sub CartonM.l)) rfl ?_ | refine G.frontG2 (xs.map (sub CartonM.l)) rfl ?_ | refine G.frontG3 (xs.map (sub CartonM.l)) rfl ?_ | refine G.frontG4 (xs.map (sub CartonM.l)) rfl ?_ | refine G.frontG5 (xs.map (sub CartonM.l)) rfl ?_ | refine G.frontG6 (xs.map (sub CartonM.l)) rfl ?_ | refine G.frontG7 (xs.map (sub CartonM.l)) rfl ?_ | refine G.frontG8 (xs.map (sub CartonM.l)) rfl ?_ | refine G.frontG9 (xs.map (sub CartonM.l)) rfl ?_ | refine G.frontG10 (xs.map (sub CartonM.l)) rfl ?_ | refine G.frontG11 (xs.map (sub CartonM.l)) rfl ?_ | refine G.frontG12 (xs.map (sub CartonM.l)) rfl ?_ | refine G.frontG13 (xs.map (sub CartonM.l)) rfl ?_ | refine G.frontG14 (xs.map (sub CartonM.l)) rfl ?_ | refine G.frontG15 (xs.map (sub CartonM.l)) rfl ?_); (first | refine G.frontR0 (xv) rfl ?_ | refine G.frontR1 (xv) rfl ?_ | refine G.frontR2 (xv) rfl ?_ | refine G.frontR3 (xv) rfl ?_ | refine G.frontR4 (xv) rfl ?_ | refine G.frontR5 (xv) rfl ?_ | refine G.frontR6 (xv) rfl ?_ | refine G.frontR7 (xv) rfl ?_ | refine G.frontR8 (xv) rfl ?_ | refine G.frontR9 (xv) rfl ?_ | refine G.frontR10 (xv) rfl ?_ | refine G.frontR11 (xv) rfl ?_ | refine G.frontR12 (xv) rfl ?_ | refine G.frontR13 (xv) rfl ?_ | refine G.frontR14 (xv) rfl ?_ | refine G.frontR15 (xv) rfl ?_); refine G.op (og_callMM3 rfl rfl rfl (markPlan_any (by omega) (by (try simp only [szM] at *); omega) hxv hxc).toF) rfl ?_; rintro ⟨⟩ _; try dsimp only)
              refine G.v (rv_assign rfl) rfl ?_
              refine G.done ?_
              refine G.thenN ?_
              refine G.seq ?_
              refine G.seq ?_
              refine G.region ?_
              refine G.v (rv_move rfl) rfl ?_
              refine G.v (rv_lss rfl rfl) rfl ?_
              refine G.v (rv_move rfl) rfl ?_
              all_goals (((with_reducible refine G.gP rfl rfl (fun hg => ?_) (fun hg => ?_)) <;> (try exact Bool.noConfusion hg) <;> (first | (refine G.gY rfl rfl ?_; refine G.v (rv_move rfl) rfl ?_) | refine G.gN rfl rfl rfl ?_ | refine G.gU rfl rfl rfl ?_)))
              all_goals ((first | (refine G.gY rfl rfl ?_; refine G.v (rv_move rfl) rfl ?_) | refine G.gN rfl rfl rfl ?_ | refine G.gU rfl rfl rfl ?_))
              all_goals ((first | (refine G.gY rfl rfl ?_; refine G.op (og_callV rfl rfl (fun w hh => eqIntS_any w (by first | exact Rd.stays (by assumption) _ hh | exact Rd.owned 0 rfl _ hh | exact Rd.owned 1 rfl _ hh | exact Rd.owned 2 rfl _ hh | exact Rd.owned 3 rfl _ hh | exact Rd.owned 4 rfl _ hh | exact Rd.owned 5 rfl _ hh | exact Rd.owned 6 rfl _ hh | exact Rd.owned 7 rfl _ hh | exact Rd.owned 8 rfl _ hh | exact Rd.owned 9 rfl _ hh | exact Rd.owned 10 rfl _ hh | exact Rd.owned 11 rfl _ hh | exact Rd.owned 12 rfl _ hh | exact Rd.owned 13 rfl _ hh | exact Rd.owned 14 rfl _ hh | exact Rd.owned 15 rfl _ hh) (by first | exact Rd.stays (by assumption) _ hh | exact Rd.owned 0 rfl _ hh | exact Rd.owned 1 rfl _ hh | exact Rd.owned 2 rfl _ hh | exact Rd.owned 3 rfl _ hh | exact Rd.owned 4 rfl _ hh | exact Rd.owned 5 rfl _ hh | exact Rd.owned 6 rfl _ hh | exact Rd.owned 7 rfl _ hh | exact Rd.owned 8 rfl _ hh | exact Rd.owned 9 rfl _ hh | exact Rd.owned 10 rfl _ hh | exact Rd.owned 11 rfl _ hh | exact Rd.owned 12 rfl _ hh | exact Rd.owned 13 rfl _ hh | exact Rd.owned 14 rfl _ hh | exact Rd.owned 15 rfl _ hh))) rfl (fun _ _ => ?_)) | refine G.gN rfl rfl rfl ?_ | refine G.gU rfl rfl rfl ?_))
              all_goals ((first | (refine G.gY rfl rfl ?_; refine G.v (rv_not rfl) rfl ?_) | refine G.gN rfl rfl rfl ?_ | refine G.gU rfl rfl rfl ?_))
              all_goals ((first | refine G.v (rv_pickT rfl rfl) rfl ?_ | refine G.v (rv_pickF rfl rfl) rfl ?_))
              all_goals
               refine G.done ?_
               refine G.thenN ?_
               refine G.cond rfl (fun hc => ?_) (fun hc => ?_)
               · try exact Bool.noConfusion hc
                 all_goals
                  try replace hc := of_decide_eq_true hc
                  try (exfalso; first | contradiction | omega)
                  all_goals
                   refine G.seq ?_
                   refine G.region ?_
                   refine G.v (rv_assign rfl) rfl ?_
                   refine G.done ?_
                   refine G.thenN ?_
                   refine G.ret ?_
                   refine G.thenR ?_
                   first | exact G.retFV rfl rfl rfl | (exfalso; simp_all; done) | (exfalso; simp only [szM] at *; omega)
               · try exact Bool.noConfusion hc
                 all_goals
                  try replace hc := of_decide_eq_false hc
                  try (exfalso; first | contradiction | omega)
                  all_goals
                   refine G.skip ?_
                   refine G.thenN ?_
                   refine G.seq ?_
                   refine G.region ?_
                   refine G.v (rv_assign rfl) rfl ?_
                   refine G.done ?_
                   refine G.thenN ?_
                   refine G.seq ?_
                   refine G.region ?_
                   refine G.v (rv_move rfl) rfl ?_
                   refine G.v (rv_move rfl) rfl ?_
                   ((first | refine G.frontR0 (vg) rfl ?_ | refine G.frontR1 (vg) rfl ?_ | refine G.frontR2 (vg) rfl ?_ | refine G.frontR3 (vg) rfl ?_ | refine G.frontR4 (vg) rfl ?_ | refine G.frontR5 (vg) rfl ?_ | refine G.frontR6 (vg) rfl ?_ | refine G.frontR7 (vg) rfl ?_ | refine G.frontR8 (vg) rfl ?_ | refine G.frontR9 (vg) rfl ?_ | refine G.frontR10 (vg) rfl ?_ | refine G.frontR11 (vg) rfl ?_ | refine G.frontR12 (vg) rfl ?_ | refine G.frontR13 (vg) rfl ?_ | refine G.frontR14 (vg) rfl ?_ | refine G.frontR15 (vg) rfl ?_); refine G.op (og_callMM1 rfl rfl rfl (markIntS_any (by omega) (by (try simp only [szM] at *); omega)).toF) rfl ?_; rintro ⟨⟩ _; try dsimp only)
                   refine G.v (rv_assign rfl) rfl ?_
                   refine G.done ?_
                   refine G.thenN ?_
                   refine G.seq ?_
                   refine G.region ?_
                   refine G.v (rv_assign rfl) rfl ?_
                   refine G.done ?_
                   refine G.thenN ?_
                   refine G.seq ?_
                   refine G.region ?_
                   refine G.v (rv_move rfl) rfl ?_
                   refine G.v (rv_move rfl) rfl ?_
                   refine G.op (og_callV rfl rfl (fun w hh => heldIntS_marked w (by first | exact Rd.stays (by assumption) _ hh | exact Rd.owned 0 rfl _ hh | exact Rd.owned 1 rfl _ hh | exact Rd.owned 2 rfl _ hh | exact Rd.owned 3 rfl _ hh | exact Rd.owned 4 rfl _ hh | exact Rd.owned 5 rfl _ hh | exact Rd.owned 6 rfl _ hh | exact Rd.owned 7 rfl _ hh | exact Rd.owned 8 rfl _ hh | exact Rd.owned 9 rfl _ hh | exact Rd.owned 10 rfl _ hh | exact Rd.owned 11 rfl _ hh | exact Rd.owned 12 rfl _ hh | exact Rd.owned 13 rfl _ hh | exact Rd.owned 14 rfl _ hh | exact Rd.owned 15 rfl _ hh) (by omega) (by (try simp only [szM] at *); omega))) rfl (fun _ _ => ?_)
                   refine G.v (rv_assign rfl) rfl ?_
                   refine G.done ?_
                   refine G.thenN ?_
                   refine G.seq ?_
                   refine G.seq ?_
                   refine G.region ?_
                   refine G.v (rv_move rfl) rfl ?_
                   refine G.v (rv_lss rfl rfl) rfl ?_
                   refine G.done ?_
                   refine G.thenN ?_
                   refine G.cond rfl (fun hc => ?_) (fun hc => ?_)
                   · try exact Bool.noConfusion hc
                     all_goals
                      try replace hc := of_decide_eq_true hc
                      try (exfalso; first | contradiction | omega)
                      all_goals
                       refine G.seq ?_
                       refine G.region ?_
                       refine G.v (rv_assign rfl) rfl ?_
                       refine G.done ?_
                       refine G.thenN ?_
                       refine G.ret ?_
                       refine G.thenR ?_
                       first | exact G.retFV rfl rfl rfl | (exfalso; simp_all; done) | (exfalso; simp only [szM] at *; omega)
                   · try exact Bool.noConfusion hc
                     all_goals
                      try replace hc := of_decide_eq_false hc
                      try (exfalso; first | contradiction | omega)
                      all_goals
                       refine G.skip ?_
                       refine G.thenN ?_
                       refine G.seq ?_
                       refine G.seq ?_
                       refine G.region ?_
                       refine G.v (rv_move rfl) rfl ?_
                       refine G.v (rv_move rfl) rfl ?_
                       refine G.v (rv_neq rfl rfl) rfl ?_
                       refine G.done ?_
                       refine G.thenN ?_
                       refine G.cond rfl (fun hc => ?_) (fun hc => ?_)
                       · try exact Bool.noConfusion hc
                         all_goals
                          try replace hc := of_decide_eq_true hc
                          try (exfalso; first | contradiction | omega)
                          all_goals
                           refine G.seq ?_
                           refine G.region ?_
                           refine G.v (rv_assign rfl) rfl ?_
                           refine G.done ?_
                           refine G.thenN ?_
                           refine G.ret ?_
                           refine G.thenR ?_
                           first | exact G.retFV rfl rfl rfl | (exfalso; simp_all; done) | (exfalso; simp only [szM] at *; omega)
                       · try exact Bool.noConfusion hc
                         all_goals
                          try replace hc := of_decide_eq_false hc
                          try (exfalso; first | contradiction | omega)
                          all_goals
                           refine G.skip ?_
                           refine G.thenN ?_
                           refine G.seq ?_
                           refine G.region ?_
                           (first | refine G.v (rv_loadW 0 rfl rfl rfl) rfl ?_ | refine G.v (rv_loadW 1 rfl rfl rfl) rfl ?_ | refine G.v (rv_loadW 2 rfl rfl rfl) rfl ?_ | refine G.v (rv_loadW 3 rfl rfl rfl) rfl ?_ | refine G.v (rv_loadW 4 rfl rfl rfl) rfl ?_ | refine G.v (rv_loadW 5 rfl rfl rfl) rfl ?_ | refine G.v (rv_loadW 6 rfl rfl rfl) rfl ?_ | refine G.v (rv_loadW 7 rfl rfl rfl) rfl ?_ | refine G.v (rv_loadW 8 rfl rfl rfl) rfl ?_ | refine G.v (rv_loadW 9 rfl rfl rfl) rfl ?_ | refine G.v (rv_loadW 10 rfl rfl rfl) rfl ?_ | refine G.v (rv_loadW 11 rfl rfl rfl) rfl ?_ | refine G.v (rv_loadW 12 rfl rfl rfl) rfl ?_ | refine G.v (rv_loadW 13 rfl rfl rfl) rfl ?_ | refine G.v (rv_loadW 14 rfl rfl rfl) rfl ?_ | refine G.v (rv_loadW 15 rfl rfl rfl) rfl ?_ | refine G.v (rv_loadW 16 rfl rfl rfl) rfl ?_ | refine G.v (rv_loadW 17 rfl rfl rfl) rfl ?_ | refine G.v (rv_loadW 18 rfl rfl rfl) rfl ?_ | refine G.v (rv_loadW 19 rfl rfl rfl) rfl ?_ | refine G.v (rv_loadP 0 rfl rfl (.one (.one .nil))) rfl ?_ | refine G.v (rv_loadP 1 rfl rfl (.one (.one .nil))) rfl ?_ | refine G.v (rv_loadP 2 rfl rfl (.one (.one .nil))) rfl ?_ | refine G.v (rv_loadP 3 rfl rfl (.one (.one .nil))) rfl ?_ | refine G.v (rv_loadP 4 rfl rfl (.one (.one .nil))) rfl ?_ | refine G.v (rv_loadP 5 rfl rfl (.one (.one .nil))) rfl ?_ | refine G.v (rv_loadP 6 rfl rfl (.one (.one .nil))) rfl ?_ | refine G.v (rv_loadP 7 rfl rfl (.one (.one .nil))) rfl ?_ | refine G.v (rv_loadP 8 rfl rfl (.one (.one .nil))) rfl ?_ | refine G.v (rv_loadP 9 rfl rfl (.one (.one .nil))) rfl ?_ | refine G.v (rv_loadP 10 rfl rfl (.one (.one .nil))) rfl ?_ | refine G.v (rv_loadP 11 rfl rfl (.one (.one .nil))) rfl ?_ | refine G.v (rv_loadP 12 rfl rfl (.one (.one .nil))) rfl ?_ | refine G.v (rv_loadP 13 rfl rfl (.one (.one .nil))) rfl ?_ | refine G.v (rv_loadP 14 rfl rfl (.one (.one .nil))) rfl ?_ | refine G.v (rv_loadP 15 rfl rfl (.one (.one .nil))) rfl ?_ | refine G.v (rv_loadP 16 rfl rfl (.one (.one .nil))) rfl ?_ | refine G.v (rv_loadP 17 rfl rfl (.one (.one .nil))) rfl ?_ | refine G.v (rv_loadP 18 rfl rfl (.one (.one .nil))) rfl ?_ | refine G.v (rv_loadP 19 rfl rfl (.one (.one .nil))) rfl ?_)
                           (first | (refine G.op (og_callF1 rfl rfl (fun w hh => toPlan_any w (by first | exact Rd.stays (by assumption) _ hh | exact Rd.owned 0 rfl _ hh | exact Rd.owned 1 rfl _ hh | exact Rd.owned 2 rfl _ hh | exact Rd.owned 3 rfl _ hh | exact Rd.owned 4 rfl _ hh | exact Rd.owned 5 rfl _ hh | exact Rd.owned 6 rfl _ hh | exact Rd.owned 7 rfl _ hh | exact Rd.owned 8 rfl _ hh | exact Rd.owned 9 rfl _ hh | exact Rd.owned 10 rfl _ hh | exact Rd.owned 11 rfl _ hh | exact Rd.owned 12 rfl _ hh | exact Rd.owned 13 rfl _ hh | exact Rd.owned 14 rfl _ hh | exact Rd.owned 15 rfl _ hh) (by first | exact Subs.stays (by assumption) _ hh | exact Subs.owned 0 rfl _ hh | exact Subs.owned 1 rfl _ hh | exact Subs.owned 2 rfl _ hh | exact Subs.owned 3 rfl _ hh | exact Subs.owned 4 rfl _ hh | exact Subs.owned 5 rfl _ hh | exact Subs.owned 6 rfl _ hh | exact Subs.owned 7 rfl _ hh | exact Subs.owned 8 rfl _ hh | exact Subs.owned 9 rfl _ hh | exact Subs.owned 10 rfl _ hh | exact Subs.owned 11 rfl _ hh | exact Subs.owned 12 rfl _ hh | exact Subs.owned 13 rfl _ hh | exact Subs.owned 14 rfl _ hh | exact Subs.owned 15 rfl _ hh) (by first | exact Rd.stays (by assumption) _ hh | exact Rd.owned 0 rfl _ hh | exact Rd.owned 1 rfl _ hh | exact Rd.owned 2 rfl _ hh | exact Rd.owned 3 rfl _ hh | exact Rd.owned 4 rfl _ hh | exact Rd.owned 5 rfl _ hh | exact Rd.owned 6 rfl _ hh | exact Rd.owned 7 rfl _ hh | exact Rd.owned 8 rfl _ hh | exact Rd.owned 9 rfl _ hh | exact Rd.owned 10 rfl _ hh | exact Rd.owned 11 rfl _ hh | exact Rd.owned 12 rfl _ hh | exact Rd.owned 13 rfl _ hh | exact Rd.owned 14 rfl _ hh | exact Rd.owned 15 rfl _ hh) (by (try simp only [szM] at *); omega) (by (try simp only [szM] at *); omega))) rfl ?_; rintro ⟨⟨cv2, cs2⟩, sv2⟩ ⟨hov, hov2, hvl⟩; try dsimp only) | (refine G.op (og_callF2 rfl rfl (fun w hh => toPlan_any w (by first | exact Rd.stays (by assumption) _ hh | exact Rd.owned 0 rfl _ hh | exact Rd.owned 1 rfl _ hh | exact Rd.owned 2 rfl _ hh | exact Rd.owned 3 rfl _ hh | exact Rd.owned 4 rfl _ hh | exact Rd.owned 5 rfl _ hh | exact Rd.owned 6 rfl _ hh | exact Rd.owned 7 rfl _ hh | exact Rd.owned 8 rfl _ hh | exact Rd.owned 9 rfl _ hh | exact Rd.owned 10 rfl _ hh | exact Rd.owned 11 rfl _ hh | exact Rd.owned 12 rfl _ hh | exact Rd.owned 13 rfl _ hh | exact Rd.owned 14 rfl _ hh | exact Rd.owned 15 rfl _ hh) (by first | exact Subs.stays (by assumption) _ hh | exact Subs.owned 0 rfl _ hh | exact Subs.owned 1 rfl _ hh | exact Subs.owned 2 rfl _ hh | exact Subs.owned 3 rfl _ hh | exact Subs.owned 4 rfl _ hh | exact Subs.owned 5 rfl _ hh | exact Subs.owned 6 rfl _ hh | exact Subs.owned 7 rfl _ hh | exact Subs.owned 8 rfl _ hh | exact Subs.owned 9 rfl _ hh | exact Subs.owned 10 rfl _ hh | exact Subs.owned 11 rfl _ hh | exact Subs.owned 12 rfl _ hh | exact Subs.owned 13 rfl _ hh | exact Subs.owned 14 rfl _ hh | exact Subs.owned 15 rfl _ hh) (by first | exact Rd.stays (by assumption) _ hh | exact Rd.owned 0 rfl _ hh | exact Rd.owned 1 rfl _ hh | exact Rd.owned 2 rfl _ hh | exact Rd.owned 3 rfl _ hh | exact Rd.owned 4 rfl _ hh | exact Rd.owned 5 rfl _ hh | exact Rd.owned 6 rfl _ hh | exact Rd.owned 7 rfl _ hh | exact Rd.owned 8 rfl _ hh | exact Rd.owned 9 rfl _ hh | exact Rd.owned 10 rfl _ hh | exact Rd.owned 11 rfl _ hh | exact Rd.owned 12 rfl _ hh | exact Rd.owned 13 rfl _ hh | exact Rd.owned 14 rfl _ hh | exact Rd.owned 15 rfl _ hh) (by (try simp only [szM] at *); omega) (by (try simp only [szM] at *); omega))) rfl ?_; rintro ⟨⟨cv2, cs2⟩, sv2⟩ ⟨hov, hov2, hvl⟩; try dsimp only) | (refine G.op (og_callF3 rfl rfl (fun w hh => toPlan_any w (by first | exact Rd.stays (by assumption) _ hh | exact Rd.owned 0 rfl _ hh | exact Rd.owned 1 rfl _ hh | exact Rd.owned 2 rfl _ hh | exact Rd.owned 3 rfl _ hh | exact Rd.owned 4 rfl _ hh | exact Rd.owned 5 rfl _ hh | exact Rd.owned 6 rfl _ hh | exact Rd.owned 7 rfl _ hh | exact Rd.owned 8 rfl _ hh | exact Rd.owned 9 rfl _ hh | exact Rd.owned 10 rfl _ hh | exact Rd.owned 11 rfl _ hh | exact Rd.owned 12 rfl _ hh | exact Rd.owned 13 rfl _ hh | exact Rd.owned 14 rfl _ hh | exact Rd.owned 15 rfl _ hh) (by first | exact Subs.stays (by assumption) _ hh | exact Subs.owned 0 rfl _ hh | exact Subs.owned 1 rfl _ hh | exact Subs.owned 2 rfl _ hh | exact Subs.owned 3 rfl _ hh | exact Subs.owned 4 rfl _ hh | exact Subs.owned 5 rfl _ hh | exact Subs.owned 6 rfl _ hh | exact Subs.owned 7 rfl _ hh | exact Subs.owned 8 rfl _ hh | exact Subs.owned 9 rfl _ hh | exact Subs.owned 10 rfl _ hh | exact Subs.owned 11 rfl _ hh | exact Subs.owned 12 rfl _ hh | exact Subs.owned 13 rfl _ hh | exact Subs.owned 14 rfl _ hh | exact Subs.owned 15 rfl _ hh) (by first | exact Rd.stays (by assumption) _ hh | exact Rd.owned 0 rfl _ hh | exact Rd.owned 1 rfl _ hh | exact Rd.owned 2 rfl _ hh | exact Rd.owned 3 rfl _ hh | exact Rd.owned 4 rfl _ hh | exact Rd.owned 5 rfl _ hh | exact Rd.owned 6 rfl _ hh | exact Rd.owned 7 rfl _ hh | exact Rd.owned 8 rfl _ hh | exact Rd.owned 9 rfl _ hh | exact Rd.owned 10 rfl _ hh | exact Rd.owned 11 rfl _ hh | exact Rd.owned 12 rfl _ hh | exact Rd.owned 13 rfl _ hh | exact Rd.owned 14 rfl _ hh | exact Rd.owned 15 rfl _ hh) (by (try simp only [szM] at *); omega) (by (try simp only [szM] at *); omega))) rfl ?_; rintro ⟨⟨cv2, cs2⟩, sv2⟩ ⟨hov, hov2, hvl⟩; try dsimp only) | (refine G.op (og_callF0 rfl rfl (fun w hh => toPlan_any w (by first | exact Rd.stays (by assumption) _ hh | exact Rd.owned 0 rfl _ hh | exact Rd.owned 1 rfl _ hh | exact Rd.owned 2 rfl _ hh | exact Rd.owned 3 rfl _ hh | exact Rd.owned 4 rfl _ hh | exact Rd.owned 5 rfl _ hh | exact Rd.owned 6 rfl _ hh | exact Rd.owned 7 rfl _ hh | exact Rd.owned 8 rfl _ hh | exact Rd.owned 9 rfl _ hh | exact Rd.owned 10 rfl _ hh | exact Rd.owned 11 rfl _ hh | exact Rd.owned 12 rfl _ hh | exact Rd.owned 13 rfl _ hh | exact Rd.owned 14 rfl _ hh | exact Rd.owned 15 rfl _ hh) (by first | exact Subs.stays (by assumption) _ hh | exact Subs.owned 0 rfl _ hh | exact Subs.owned 1 rfl _ hh | exact Subs.owned 2 rfl _ hh | exact Subs.owned 3 rfl _ hh | exact Subs.owned 4 rfl _ hh | exact Subs.owned 5 rfl _ hh | exact Subs.owned 6 rfl _ hh | exact Subs.owned 7 rfl _ hh | exact Subs.owned 8 rfl _ hh | exact Subs.owned 9 rfl _ hh | exact Subs.owned 10 rfl _ hh | exact Subs.owned 11 rfl _ hh | exact Subs.owned 12 rfl _ hh | exact Subs.owned 13 rfl _ hh | exact Subs.owned 14 rfl _ hh | exact Subs.owned 15 rfl _ hh) (by first | exact Rd.stays (by assumption) _ hh | exact Rd.owned 0 rfl _ hh | exact Rd.owned 1 rfl _ hh | exact Rd.owned 2 rfl _ hh | exact Rd.owned 3 rfl _ hh | exact Rd.owned 4 rfl _ hh | exact Rd.owned 5 rfl _ hh | exact Rd.owned 6 rfl _ hh | exact Rd.owned 7 rfl _ hh | exact Rd.owned 8 rfl _ hh | exact Rd.owned 9 rfl _ hh | exact Rd.owned 10 rfl _ hh | exact Rd.owned 11 rfl _ hh | exact Rd.owned 12 rfl _ hh | exact Rd.owned 13 rfl _ hh | exact Rd.owned 14 rfl _ hh | exact Rd.owned 15 rfl _ hh) (by (try simp only [szM] at *); omega) (by (try simp only [szM] at *); omega))) rfl ?_; rintro ⟨⟨cv2, cs2⟩, sv2⟩ ⟨hov, hov2, hvl⟩; try dsimp only) | (refine G.op (og_callF rfl rfl (fun w hh => toPlan_any w (by first | exact Rd.stays (by assumption) _ hh | exact Rd.owned 0 rfl _ hh | exact Rd.owned 1 rfl _ hh | exact Rd.owned 2 rfl _ hh | exact Rd.owned 3 rfl _ hh | exact Rd.owned 4 rfl _ hh | exact Rd.owned 5 rfl _ hh | exact Rd.owned 6 rfl _ hh | exact Rd.owned 7 rfl _ hh | exact Rd.owned 8 rfl _ hh | exact Rd.owned 9 rfl _ hh | exact Rd.owned 10 rfl _ hh | exact Rd.owned 11 rfl _ hh | exact Rd.owned 12 rfl _ hh | exact Rd.owned 13 rfl _ hh | exact Rd.owned 14 rfl _ hh | exact Rd.owned 15 rfl _ hh) (by first | exact Subs.stays (by assumption) _ hh | exact Subs.owned 0 rfl _ hh | exact Subs.owned 1 rfl _ hh | exact Subs.owned 2 rfl _ hh | exact Subs.owned 3 rfl _ hh | exact Subs.owned 4 rfl _ hh | exact Subs.owned 5 rfl _ hh | exact Subs.owned 6 rfl _ hh | exact Subs.owned 7 rfl _ hh | exact Subs.owned 8 rfl _ hh | exact Subs.owned 9 rfl _ hh | exact Subs.owned 10 rfl _ hh | exact Subs.owned 11 rfl _ hh | exact Subs.owned 12 rfl _ hh | exact Subs.owned 13 rfl _ hh | exact Subs.owned 14 rfl _ hh | exact Subs.owned 15 rfl _ hh) (by first | exact Rd.stays (by assumption) _ hh | exact Rd.owned 0 rfl _ hh | exact Rd.owned 1 rfl _ hh | exact Rd.owned 2 rfl _ hh | exact Rd.owned 3 rfl _ hh | exact Rd.owned 4 rfl _ hh | exact Rd.owned 5 rfl _ hh | exact Rd.owned 6 rfl _ hh | exact Rd.owned 7 rfl _ hh | exact Rd.owned 8 rfl _ hh | exact Rd.owned 9 rfl _ hh | exact Rd.owned 10 rfl _ hh | exact Rd.owned 11 rfl _ hh | exact Rd.owned 12 rfl _ hh | exact Rd.owned 13 rfl _ hh | exact Rd.owned 14 rfl _ hh | exact Rd.owned 15 rfl _ hh) (by (try simp only [szM] at *); omega) (by (try simp only [szM] at *); omega))) rfl ?_; rintro ⟨⟨cv2, cs2⟩, sv2⟩ ⟨hov, hov2, hvl⟩; try dsimp only))
                           have hn := congrArg List.length hvl; have hcf := cntCartonM_fst hvl; simp only [List.length_map] at hn
                           refine G.v (rv_move rfl) rfl ?_
                           (refine G.op (og_callF1 rfl rfl (fun w hh => onPallet_n w (by first | exact Rd.stays (by assumption) _ hh | exact Rd.owned 0 rfl _ hh | exact Rd.owned 1 rfl _ hh | exact Rd.owned 2 rfl _ hh | exact Rd.owned 3 rfl _ hh | exact Rd.owned 4 rfl _ hh | exact Rd.owned 5 rfl _ hh | exact Rd.owned 6 rfl _ hh | exact Rd.owned 7 rfl _ hh | exact Rd.owned 8 rfl _ hh | exact Rd.owned 9 rfl _ hh | exact Rd.owned 10 rfl _ hh | exact Rd.owned 11 rfl _ hh | exact Rd.owned 12 rfl _ hh | exact Rd.owned 13 rfl _ hh | exact Rd.owned 14 rfl _ hh | exact Rd.owned 15 rfl _ hh) (by first | exact Rd.stays (by assumption) _ hh | exact Rd.owned 0 rfl _ hh | exact Rd.owned 1 rfl _ hh | exact Rd.owned 2 rfl _ hh | exact Rd.owned 3 rfl _ hh | exact Rd.owned 4 rfl _ hh | exact Rd.owned 5 rfl _ hh | exact Rd.owned 6 rfl _ hh | exact Rd.owned 7 rfl _ hh | exact Rd.owned 8 rfl _ hh | exact Rd.owned 9 rfl _ hh | exact Rd.owned 10 rfl _ hh | exact Rd.owned 11 rfl _ hh | exact Rd.owned 12 rfl _ hh | exact Rd.owned 13 rfl _ hh | exact Rd.owned 14 rfl _ hh | exact Rd.owned 15 rfl _ hh) (by (try simp only [szM] at *); omega) hn)) rfl ?_; rintro vh hvh; try dsimp only)
                           refine G.v (rv_assign rfl) rfl ?_
                           refine G.done ?_
                           refine G.thenN ?_
                           refine G.seq ?_
                           refine G.seq ?_
                           refine G.region ?_
                           refine G.v (rv_move rfl) rfl ?_
                           refine G.v (rv_move rfl) rfl ?_
                           refine G.op (og_callV rfl rfl (fun w hh => eqIntS_any w (by first | exact Rd.stays (by assumption) _ hh | exact Rd.owned 0 rfl _ hh | exact Rd.owned 1 rfl _ hh | exact Rd.owned 2 rfl _ hh | exact Rd.owned 3 rfl _ hh | exact Rd.owned 4 rfl _ hh | exact Rd.owned 5 rfl _ hh | exact Rd.owned 6 rfl _ hh | exact Rd.owned 7 rfl _ hh | exact Rd.owned 8 rfl _ hh | exact Rd.owned 9 rfl _ hh | exact Rd.owned 10 rfl _ hh | exact Rd.owned 11 rfl _ hh | exact Rd.owned 12 rfl _ hh | exact Rd.owned 13 rfl _ hh | exact Rd.owned 14 rfl _ hh | exact Rd.owned 15 rfl _ hh) (by first | exact Rd.stays (by assumption) _ hh | exact Rd.owned 0 rfl _ hh | exact Rd.owned 1 rfl _ hh | exact Rd.owned 2 rfl _ hh | exact Rd.owned 3 rfl _ hh | exact Rd.owned 4 rfl _ hh | exact Rd.owned 5 rfl _ hh | exact Rd.owned 6 rfl _ hh | exact Rd.owned 7 rfl _ hh | exact Rd.owned 8 rfl _ hh | exact Rd.owned 9 rfl _ hh | exact Rd.owned 10 rfl _ hh | exact Rd.owned 11 rfl _ hh | exact Rd.owned 12 rfl _ hh | exact Rd.owned 13 rfl _ hh | exact Rd.owned 14 rfl _ hh | exact Rd.owned 15 rfl _ hh))) rfl (fun _ _ => ?_)
                           refine G.v (rv_not rfl) rfl ?_
                           refine G.done ?_
                           refine G.thenN ?_
                           refine G.cond rfl (fun hc => ?_) (fun hc => ?_)
                           · try exact Bool.noConfusion hc
                             all_goals
                              try replace hc := of_decide_eq_true hc
                              try (exfalso; first | contradiction | omega)
                              all_goals
                               refine G.seq ?_
                               refine G.region ?_
                               refine G.v (rv_assign rfl) rfl ?_
                               refine G.done ?_
                               refine G.thenN ?_
                               refine G.ret ?_
                               refine G.thenR ?_
                               first | exact G.retFV rfl rfl rfl | (exfalso; simp_all; done) | (exfalso; simp only [szM] at *; omega)
                           · try exact Bool.noConfusion hc
                             all_goals
                              try replace hc := of_decide_eq_false hc
                              try (exfalso; first | contradiction | omega)
                              all_goals
                               refine G.skip ?_
                               refine G.thenN ?_
                               refine G.seq ?_
                               refine G.region ?_
                               refine G.v (rv_assign rfl) rfl ?_
                               refine G.done ?_
                               refine G.thenN ?_
                               refine G.seq ?_
                               refine G.region ?_
                               refine G.v (rv_move rfl) rfl ?_
                               refine G.v (rv_move rfl) rfl ?_
                               refine G.op (og_callV rfl rfl (fun w hh => heldIntS_marked w (by first | exact Rd.stays (by assumption) _ hh | exact Rd.owned 0 rfl _ hh | exact Rd.owned 1 rfl _ hh | exact Rd.owned 2 rfl _ hh | exact Rd.owned 3 rfl _ hh | exact Rd.owned 4 rfl _ hh | exact Rd.owned 5 rfl _ hh | exact Rd.owned 6 rfl _ hh | exact Rd.owned 7 rfl _ hh | exact Rd.owned 8 rfl _ hh | exact Rd.owned 9 rfl _ hh | exact Rd.owned 10 rfl _ hh | exact Rd.owned 11 rfl _ hh | exact Rd.owned 12 rfl _ hh | exact Rd.owned 13 rfl _ hh | exact Rd.owned 14 rfl _ hh | exact Rd.owned 15 rfl _ hh) (by omega) (by (try simp only [szM] at *); omega))) rfl (fun _ _ => ?_)
                               refine G.v (rv_assign rfl) rfl ?_
                               refine G.done ?_
                               refine G.thenN ?_
                               refine G.seq ?_
                               refine G.seq ?_
                               refine G.region ?_
                               refine G.v (rv_move rfl) rfl ?_
                               refine G.v (rv_lss rfl rfl) rfl ?_
                               refine G.done ?_
                               refine G.thenN ?_
                               refine G.cond rfl (fun hc => ?_) (fun hc => ?_)
                               · try exact Bool.noConfusion hc
                                 all_goals
                                  try replace hc := of_decide_eq_true hc
                                  try (exfalso; first | contradiction | omega)
                                  all_goals
                                   refine G.seq ?_
                                   refine G.region ?_
                                   refine G.v (rv_assign rfl) rfl ?_
                                   refine G.done ?_
                                   refine G.thenN ?_
                                   refine G.ret ?_
                                   refine G.thenR ?_
                                   first | exact G.retFV rfl rfl rfl | (exfalso; simp_all; done) | (exfalso; simp only [szM] at *; omega)
                               · try exact Bool.noConfusion hc
                                 all_goals
                                  try replace hc := of_decide_eq_false hc
                                  try (exfalso; first | contradiction | omega)
                                  all_goals
                                   refine G.skip ?_
                                   refine G.thenN ?_
                                   refine G.seq ?_
                                   refine G.seq ?_
                                   refine G.region ?_
                                   refine G.v (rv_move rfl) rfl ?_
                                   refine G.v (rv_move rfl) rfl ?_
                                   refine G.v (rv_neq rfl rfl) rfl ?_
                                   refine G.done ?_
                                   refine G.thenN ?_
                                   refine G.cond rfl (fun hc => ?_) (fun hc => ?_)
                                   · try exact Bool.noConfusion hc
                                     all_goals
                                      try replace hc := of_decide_eq_true hc
                                      try (exfalso; first | contradiction | omega)
                                      all_goals
                                       refine G.seq ?_
                                       refine G.region ?_
                                       refine G.v (rv_assign rfl) rfl ?_
                                       refine G.done ?_
                                       refine G.thenN ?_
                                       refine G.ret ?_
                                       refine G.thenR ?_
                                       first | exact G.retFV rfl rfl rfl | (exfalso; simp_all; done) | (exfalso; simp only [szM] at *; omega)
                                   · try exact Bool.noConfusion hc
                                     all_goals
                                      try replace hc := of_decide_eq_false hc
                                      try (exfalso; first | contradiction | omega)
                                      all_goals
                                       refine G.skip ?_
                                       refine G.thenN ?_
                                       refine G.seq ?_
                                       refine G.region ?_
                                       refine G.v (rv_assign rfl) rfl ?_
                                       refine G.done ?_
                                       refine G.thenN ?_
                                       refine G.ret ?_
                                       first | exact G.retFV rfl rfl rfl | (exfalso; simp_all; done) | (exfalso; simp only [szM] at *; omega)
end Go.Proofs.Ytdbpdgpaacojgaa
