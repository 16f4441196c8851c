/-
  Boxes that are put on shelves: the program's way.
-/
import Derived.Test.YticgeijklhlonaaShelfP
import Derived.Test.YticgeijklhlonaaSorts3
import Derived.Test.YticgeijklhlonaaPiles
namespace Go.Proofs.Yticgeijklhlonaa
open Go.RowKit
attribute [local irreducible] Go.wpList Go.Code.wp Go.Exit.then Go.Exit.inBlock Go.bodyPost Go.Calls pE pB G RunsV FnV Fn FnM
set_option maxRecDepth 100000
set_option maxHeartbeats 1000000
theorem shelf_lens {p : PalletM} (xs : List (BoxM × Nat)) (k : Nat) : ∀ t ∈ (xs.take k).foldl (pileStep (shelfRoom p) shelfAdd shelfZ) [], t.l.length ≤ k := by
  intro t ht
  have := pile_sum (room := shelfRoom p) (add := shelfAdd) (z := shelfZ) (fun t => t.l.length) (by simp [shelfAdd, shelfZ]) (by simp [shelfAdd]) (xs.take k) [] 0 (by simp) t ht
  rw [List.length_take] at this; omega
theorem implShelves_any (p : PalletM) {v : Value} {l : List BoxM} (w : World) (h : Rd w v 4 (l.map BoxM.cells)) (hb : l.length ≤ 1048576) :
    Fn Try.prog 55 [p.val, v] w (fun x : Value × List (ShelfM × Value) => x.1.oneCell' = true ∧ x.2.map Prod.fst = shelvesM p l) (fun x => x.1) (fun x => [.grp 3 1 (x.2.map (sub ShelfM.l)), .row x.1 63 5 (x.2.map ShelfM.cells)]) := by
  have pile_lens : ∀ (xs : List (BoxM × Nat)) (k : Nat), ∀ t ∈ (xs.take k).foldl (pileStep (shelfRoom p) shelfAdd shelfZ) [], t.l.length ≤ k := fun xs k => shelf_lens xs k
  have hln : (l.map BoxM.cells).length = l.length := by simp
  have hlk0 : (l.map BoxM.d).length = l.length := by simp
  refine Fn.of (n := 133) Try.func55 rfl rfl ?_
  refine G.seq ?_
  refine G.region ?_
  refine G.op (og_box rfl rfl) rfl (fun bk2 _ => ?_)
  refine G.v (rv_assign rfl) rfl ?_
  refine G.done ?_
  refine G.thenN ?_
  refine G.seq ?_
  refine G.seq ?_
  refine G.region ?_
  (refine G.v (rv_loadW 0 rfl rfl rfl) rfl ?_)
  refine G.v (rv_move rfl) rfl ?_
  refine G.op (og_callV rfl rfl (fun w hh => boxesOk_any _ w (by exact Rd.stays (by assumption) _ hh))) rfl (fun _ _ => ?_)
  refine G.v (rv_not rfl) rfl ?_
  refine G.done ?_
  refine G.thenN ?_
  refine G.cond rfl (fun hc => ?_) (fun hc => ?_)
  · try exact Bool.noConfusion hc
    all_goals
     try replace hc := of_decide_eq_true hc
     try simp only [List.length_map] at hc
     try (exfalso; contradiction)
     all_goals
      refine G.seq ?_
      refine G.region ?_
      refine G.v (rv_assign rfl) rfl ?_
      refine G.done ?_
      refine G.thenN ?_
      refine G.ret ?_
      refine G.thenR ?_
      (exact G.retF (.slice none 0 0, []) ⟨rfl, by rw [shelf_no (by simpa using hc)]; rfl⟩ rfl rfl rfl (fun w hw => (hw.none.nilRow _ _).nilGrp _ _))
  · try exact Bool.noConfusion hc
    all_goals
     try replace hc := of_decide_eq_false hc
     try simp only [List.length_map] at hc
     try (exfalso; contradiction)
     all_goals
      refine G.skip ?_
      refine G.thenN ?_
      refine G.seq ?_
      refine G.region ?_
      refine G.op (og_lit rfl .nil rfl rfl rfl rfl rfl rfl) rfl (fun vl _ => ?_)
      refine G.v (rv_assign rfl) rfl ?_
      refine G.done ?_
      refine G.thenN ?_
      refine G.seq ?_
      refine G.seq ?_
      refine G.region ?_
      refine G.v (rv_move rfl) rfl ?_
      refine G.v (rv_len rfl (by exact Rd.stays (by assumption))) rfl ?_
      refine G.v (rv_move rfl) rfl ?_
      refine G.done ?_
      refine G.thenN ?_
      refine G.block ?_
      -- loop 0: turned [5, 21], kept [1, 2, 19, 20]
      have hok := hc
      have hpp := pallet_in (palletOk_of hc)
      refine G.loopK (ι := Nat × Value) (ks := [1, 2, 19, 20]) (fun x => [(5, x.2), (21, .int .i64 (x.1 : Int))]) (fun x => [.row x.2 3 1 (((l.take x.1).map BoxM.d).map icell)]) (fun x => x.1 ≤ l.length) (fun x => l.length - x.1) (0, vl) (.cons rfl (.cons rfl (.cons rfl (.cons rfl (.nil))))) rfl ?_ ?_ ?_
      · exact Nat.zero_le _
      · exact ⟨rfl, rfl, trivial⟩
      rintro ⟨k0, v0⟩ hk0
      dsimp only at hk0 ⊢
      have hl9 : (((l.take k0).map BoxM.d).map icell).length = k0 := by (simp; omega)
      by_cases hlt0 : k0 < l.length
      case' pos => (obtain ⟨b, hb2⟩ := get_of_lt hlt0; have heb := get_map hb2 BoxM.cells)
      case' neg => (have hkall : ((l.take k0).map BoxM.d).map icell = (l.map BoxM.d).map icell := (by rw [List.take_of_length_le (by omega)]))
      all_goals
       refine G.seq ?_
       refine G.region ?_
       refine G.v (rv_lss rfl rfl) rfl ?_
       refine G.done ?_
       refine G.thenN ?_
       refine G.seq ?_
       refine G.cond rfl (fun hc => ?_) (fun hc => ?_)
       · try exact Bool.noConfusion hc
         all_goals
          try replace hc := of_decide_eq_true hc
          try simp only [List.length_map] at hc
          try (exfalso; omega)
          all_goals
           refine G.skip ?_
           refine G.thenN ?_
           refine G.seq ?_
           refine G.block ?_
           refine G.seq ?_
           refine G.region ?_
           (refine G.v (rv_indexH rfl rfl (by exact Rd.stays (by assumption)) rfl (by exact heb)) rfl ?_)
           (refine G.v (rv_loadEW rfl (by exact Rd.stays (by assumption)) (by exact heb) rfl) rfl ?_)
           refine G.op (og_alloc) rfl (fun bk7 _ => ?_)
           (refine G.op0 (og_st0 rfl rfl rfl rfl rfl rfl (.zero (.cons (.cons (.cons (.cons .nil)))))) (fun _ _ => ?_))
           refine G.done ?_
           refine G.thenN ?_
           refine G.region ?_
           refine G.v (rv_move rfl) rfl ?_
           (refine G.v (rv_field rfl) rfl ?_)
           (refine G.v (rv_load1 0 rfl rfl rfl) rfl ?_)
           refine G.op (og_lit rfl (.cons rfl .nil) rfl rfl rfl rfl rfl rfl) rfl (fun vl _ => ?_)
           ((refine G.op (og_app2 rfl rfl rfl (by exact Rd.owned 0 rfl) rfl rfl (by simp; omega) (by simp; omega)) rfl (fun va _ => ?_)))
           refine G.v (rv_assign rfl) rfl ?_
           refine G.done ?_
           refine G.inN ?_
           refine G.thenN ?_
           refine G.region ?_
           (refine G.v (rv_incr rfl rfl (by omega)) rfl ?_)
           refine G.v (rv_move rfl) rfl ?_
           refine G.done ?_
           refine G.backK (k0 + 1, va) 2 (one_eq (congrArg (fun z => Ch.row va 3 1 z) (dsnoc hb2))) (.cons rfl (.cons rfl (.cons rfl (.cons rfl (.nil))))) ?_ ?_ ?_
           · exact ⟨rfl, rfl, trivial⟩
           · dsimp only; omega
           · dsimp only; omega
       · try exact Bool.noConfusion hc
         all_goals
          try replace hc := of_decide_eq_false hc
          try simp only [List.length_map] at hc
          try (exfalso; omega)
          all_goals
           refine G.exit ?_
           refine G.thenX ?_
           refine G.thenX ?_
           refine G.inX ?_
           refine G.thenN ?_
           refine G.seq ?_
           refine G.region ?_
           refine G.op (og_lit rfl .nil rfl rfl rfl rfl rfl rfl) rfl (fun vl _ => ?_)
           refine G.v (rv_assign rfl) rfl ?_
           refine G.done ?_
           refine G.thenN ?_
           refine G.seq ?_
           refine G.seq ?_
           refine G.region ?_
           refine G.v (rv_move rfl) rfl ?_
           (first | (refine G.op (og_callF1 rfl rfl (fun w hh => sortDown_any (ks := l.map BoxM.d) w (by rw [← hkall]; first | exact Rd.owned 0 rfl _ hh | exact Rd.owned 1 rfl _ hh | exact Rd.owned 2 rfl _ hh | exact Rd.owned 3 rfl _ hh) (by omega))) rfl ?_; rintro vo hvo; try dsimp only) | (refine G.op (og_callF2 rfl rfl (fun w hh => sortDown_any (ks := l.map BoxM.d) w (by rw [← hkall]; first | exact Rd.owned 0 rfl _ hh | exact Rd.owned 1 rfl _ hh | exact Rd.owned 2 rfl _ hh | exact Rd.owned 3 rfl _ hh) (by omega))) rfl ?_; rintro vo hvo; try dsimp only) | (refine G.op (og_callF3 rfl rfl (fun w hh => sortDown_any (ks := l.map BoxM.d) w (by rw [← hkall]; first | exact Rd.owned 0 rfl _ hh | exact Rd.owned 1 rfl _ hh | exact Rd.owned 2 rfl _ hh | exact Rd.owned 3 rfl _ hh) (by omega))) rfl ?_; rintro vo hvo; try dsimp only) | (refine G.op (og_callF0 rfl rfl (fun w hh => sortDown_any (ks := l.map BoxM.d) w (by rw [← hkall]; first | exact Rd.owned 0 rfl _ hh | exact Rd.owned 1 rfl _ hh | exact Rd.owned 2 rfl _ hh | exact Rd.owned 3 rfl _ hh) (by omega))) rfl ?_; rintro vo hvo; try dsimp only) | (refine G.op (og_callF rfl rfl (fun w hh => sortDown_any (ks := l.map BoxM.d) w (by rw [← hkall]; first | exact Rd.owned 0 rfl _ hh | exact Rd.owned 1 rfl _ hh | exact Rd.owned 2 rfl _ hh | exact Rd.owned 3 rfl _ hh) (by omega))) rfl ?_; rintro vo hvo; try dsimp only))
           refine G.v (rv_len rfl (by exact Rd.owned 0 rfl)) rfl ?_
           refine G.v (rv_move rfl) rfl ?_
           refine G.done ?_
           refine G.thenN ?_
           refine G.block ?_
           -- loop 1: turned [8, 35], kept [1, 2, 33, 34]
           (refine G.frontR1 vl rfl ?_)
           refine G.heap (fun w hh => hh.nilGrp 3 1) ?_
           have hoL := ordM_len (keyM (l.map BoxM.d)) l.length
           have hol2 : ((ordM (keyM (l.map BoxM.d)) (l.map BoxM.d).length).map ncell).length = l.length := by rw [List.length_map, ordM_len, hlk0]
           refine G.loopK (ι := Nat × List (ShelfM × Value) × Value) (ks := [1, 2, 33, 34]) (fun x => [(8, x.2.2), (35, .int .i64 (x.1 : Int))]) (fun x => [.grp 3 1 (x.2.1.map (sub ShelfM.l)), .row x.2.2 63 5 (x.2.1.map ShelfM.cells)]) (fun x => x.1 ≤ l.length ∧ x.2.1.map Prod.fst = ((shelfXs l).take x.1).foldl (pileStep (shelfRoom p) shelfAdd shelfZ) []) (fun x => l.length - x.1) (0, [], vl) (.cons rfl (.cons rfl (.cons rfl (.cons rfl (.nil))))) rfl ?_ ?_ ?_
           · exact ⟨Nat.zero_le _, rfl⟩
           · exact ⟨rfl, rfl, trivial⟩
           rintro ⟨k, ts, v2⟩ ⟨hk, hM⟩
           dsimp only at hk hM ⊢
           by_cases hlt : k < l.length
           case' pos => (obtain ⟨x, hx⟩ := get_of_lt (l := ordM (keyM (l.map BoxM.d)) l.length) (k := k) (by omega); have hxl : x < l.length := ordM_mem.1 (List.mem_of_getElem? hx); have heo : ((ordM (keyM (l.map BoxM.d)) (l.map BoxM.d).length).map ncell)[k]? = some (ncell x) := get_map (by rw [hlk0]; exact hx) ncell; obtain ⟨b, hb2⟩ := get_of_lt hxl; have heb := get_map hb2 BoxM.cells; have hobb := box_in (ok_at hok hb2).2; have hz := xs_get hx hb2; have hl0 : (ts.map ShelfM.cells).length = ts.length := (by simp); have hlk : ts.length ≤ k := (by (have := pile_len (room := shelfRoom p) (add := shelfAdd) (z := shelfZ) ((shelfXs l).take k) []; rw [← hM] at this; simp only [List.length_map, List.length_nil, List.length_take] at this; omega)); rcases nil_or_snoc ts with hts | ⟨tp, t, hts⟩; have hn0 : ts.length = 0 := (by rw [hts]; rfl); rotate_left; have hn1 : ts.length = tp.length + 1 := (by (rw [hts]; simp)); obtain ⟨q, hq⟩ : ∃ y, y = tp.length := ⟨_, rfl⟩; have htq : ts[q]? = some t := (by (rw [hq]; exact get_last hts)); have he := get_map htq ShelfM.cells; have hgi : (ts.map (sub ShelfM.l))[q]? = some (t.2, t.1.l.map icell) := get_mapS htq; have hbt : 0 ≤ t.1.w ∧ t.1.w ≤ p.w ∧ 0 ≤ t.1.d ∧ t.1.d ≤ p.d ∧ 0 ≤ t.1.h ∧ t.1.h ≤ p.h ∧ 0 ≤ t.1.g ∧ t.1.g ≤ p.g := (by (have := shelf_bd (p := p) (l := l) (bnot_no hok) k; rw [← hM] at this; exact this t.1 (List.mem_map.2 ⟨t, List.mem_of_getElem? htq, rfl⟩))); refine G.know (fun w hw => (Rd.grp 0 rfl (List.mem_of_getElem? hgi) w hw).one_) (fun hov2 => ?_); have hlb : t.1.l.length ≤ 1048576 := (by (have := pile_lens (shelfXs l) k; rw [← hM] at this; have := this t.1 (List.mem_map.2 ⟨t, List.mem_of_getElem? htq, rfl⟩); omega)))
           all_goals
            refine G.seq ?_
            refine G.region ?_
            refine G.v (rv_lss rfl rfl) rfl ?_
            refine G.done ?_
            refine G.thenN ?_
            refine G.seq ?_
            refine G.cond rfl (fun hc => ?_) (fun hc => ?_)
            · try exact Bool.noConfusion hc
              all_goals
               try replace hc := of_decide_eq_true hc
               try simp only [List.length_map] at hc
               try (exfalso; omega)
               all_goals
                refine G.skip ?_
                refine G.thenN ?_
                refine G.seq ?_
                refine G.block ?_
                refine G.seq ?_
                refine G.region ?_
                (refine G.v (rv_indexH rfl rfl (by exact Rd.owned 2 rfl) rfl (by exact heo)) rfl ?_)
                refine G.v (rv_loadE rfl (by exact Rd.owned 2 rfl) (by exact heo) rfl) rfl ?_
                refine G.v (rv_assign rfl) rfl ?_
                refine G.done ?_
                refine G.thenN ?_
                refine G.seq ?_
                refine G.region ?_
                refine G.v (rv_move rfl) rfl ?_
                refine G.v (rv_move rfl) rfl ?_
                (refine G.v (rv_indexH rfl rfl (by exact Rd.stays (by assumption)) rfl (by exact heb)) rfl ?_)
                (refine G.v (rv_loadEW rfl (by exact Rd.stays (by assumption)) (by exact heb) rfl) rfl ?_)
                refine G.op (og_alloc) rfl (fun bk11 _ => ?_)
                (refine G.op0 (og_st0 rfl rfl rfl rfl rfl rfl (.zero (.cons (.cons (.cons (.cons .nil)))))) (fun _ _ => ?_))
                refine G.done ?_
                refine G.thenN ?_
                refine G.seq ?_
                refine G.region ?_
                refine G.v (rv_move rfl) rfl ?_
                refine G.v (rv_len rfl (by exact Rd.owned 2 rfl)) rfl ?_
                (first | refine G.v (rv_decr rfl rfl (by omega) (by omega)) rfl ?_ | refine G.v (rv_subB rfl rfl (by omega) (by omega)) rfl ?_)
                refine G.v (rv_assign rfl) rfl ?_
                refine G.done ?_
                refine G.thenN ?_
                refine G.seq ?_
                refine G.seq ?_
                refine G.drawL [] ?_
                refine GE.ol 0 (by kernel_rfl) rfl rfl (og_runs (rv_move rfl)) rfl (fun _ _ h => by exact h) (fun _ _ => ?_)
                refine GE.ol 1 (by kernel_rfl) rfl rfl (og_runs (rv_lss rfl rfl)) rfl (fun _ _ h => by exact h) (fun _ _ => ?_)
                refine GE.ol 2 (by kernel_rfl) rfl rfl (og_runs (rv_move rfl)) rfl (fun _ _ h => by exact h) (fun _ _ => ?_)
                all_goals (((with_reducible refine GE.part (t := 48) rfl (fun hg => ?_) (fun hg => ?_)) <;> (try exact Bool.noConfusion hg) <;> (try (exfalso; (have hq := of_decide_eq_false hg; omega))) <;> (first | refine GE.q 3 rfl (by kernel_rfl) rfl (qg_runs (rv_move rfl)) rfl ?_ | refine GE.qn 3 rfl (by kernel_rfl) rfl rfl ?_)))
                all_goals ((first | refine GE.q 4 rfl (by kernel_rfl) rfl (qg_runs (rv_move rfl)) rfl ?_ | refine GE.qn 4 rfl (by kernel_rfl) rfl rfl ?_))
                all_goals ((first | (refine GE.q 5 rfl (by kernel_rfl) rfl (qg_runs (rv_indexH (k := q) rfl rfl (by exact Rd.owned 2 rfl) (by omega) (by exact he))) rfl ?_) | refine GE.qn 5 rfl (by kernel_rfl) rfl rfl ?_))
                all_goals ((first | (refine GE.q 6 rfl (by kernel_rfl) rfl (qg_runs (rv_fieldE rfl)) rfl ?_) | refine GE.qn 6 rfl (by kernel_rfl) rfl rfl ?_))
                all_goals ((first | refine GE.q 7 rfl (by kernel_rfl) rfl (qg_runs (rv_loadE rfl (by first | exact Rd.stays (by assumption) | exact Rd.owned 2 rfl) (by first | exact he | exact heb) rfl)) rfl ?_ | refine GE.qn 7 rfl (by kernel_rfl) rfl rfl ?_))
                all_goals ((first | (refine GE.q 8 rfl (by kernel_rfl) rfl (qg_runs (rv_field rfl)) rfl ?_) | refine GE.qn 8 rfl (by kernel_rfl) rfl rfl ?_))
                all_goals ((first | (refine GE.q 9 rfl (by kernel_rfl) rfl (qg_runs (rv_load1 0 rfl rfl rfl)) rfl ?_) | refine GE.qn 9 rfl (by kernel_rfl) rfl rfl ?_))
                all_goals ((first | (refine GE.q 10 rfl (by kernel_rfl) rfl (qg_runs (rv_addB rfl rfl (by omega) (by omega))) rfl ?_) | refine GE.qn 10 rfl (by kernel_rfl) rfl rfl ?_))
                all_goals ((first | (refine GE.q 11 rfl (by kernel_rfl) rfl (qg_runs (rv_field rfl)) rfl ?_) | refine GE.qn 11 rfl (by kernel_rfl) rfl rfl ?_))
                all_goals ((first | (refine GE.q 12 rfl (by kernel_rfl) rfl (qg_runs (rv_load1 5 rfl rfl rfl)) rfl ?_) | refine GE.qn 12 rfl (by kernel_rfl) rfl rfl ?_))
                all_goals ((first | refine GE.q 13 rfl (by kernel_rfl) rfl (qg_runs (rv_gtr rfl rfl)) rfl ?_ | refine GE.qn 13 rfl (by kernel_rfl) rfl rfl ?_))
                all_goals ((first | refine GE.ol 14 (by kernel_rfl) rfl rfl (og_runs (rv_pickT rfl rfl)) rfl (fun _ _ h => by exact h) (fun _ _ => ?_) | refine GE.ol 14 (by kernel_rfl) rfl rfl (og_runs (rv_pickF rfl rfl)) rfl (fun _ _ h => by exact h) (fun _ _ => ?_)))
                all_goals (refine GE.ol 15 (by kernel_rfl) rfl rfl (og_runs (rv_move rfl)) rfl (fun _ _ h => by exact h) (fun _ _ => ?_))
                all_goals (((with_reducible refine GE.part (t := 61) rfl (fun hg => ?_) (fun hg => ?_)) <;> (try exact Bool.noConfusion hg) <;> (try (exfalso; (have hq := of_decide_eq_false hg; omega))) <;> (first | refine GE.q 16 rfl (by kernel_rfl) rfl (qg_runs (rv_move rfl)) rfl ?_ | refine GE.qn 16 rfl (by kernel_rfl) rfl rfl ?_)))
                all_goals ((first | refine GE.q 17 rfl (by kernel_rfl) rfl (qg_runs (rv_move rfl)) rfl ?_ | refine GE.qn 17 rfl (by kernel_rfl) rfl rfl ?_))
                all_goals ((first | (refine GE.q 18 rfl (by kernel_rfl) rfl (qg_runs (rv_indexH (k := q) rfl rfl (by exact Rd.owned 2 rfl) (by omega) (by exact he))) rfl ?_) | refine GE.qn 18 rfl (by kernel_rfl) rfl rfl ?_))
                all_goals ((first | (refine GE.q 19 rfl (by kernel_rfl) rfl (qg_runs (rv_fieldE rfl)) rfl ?_) | refine GE.qn 19 rfl (by kernel_rfl) rfl rfl ?_))
                all_goals ((first | refine GE.q 20 rfl (by kernel_rfl) rfl (qg_runs (rv_loadE rfl (by first | exact Rd.stays (by assumption) | exact Rd.owned 2 rfl) (by first | exact he | exact heb) rfl)) rfl ?_ | refine GE.qn 20 rfl (by kernel_rfl) rfl rfl ?_))
                all_goals ((first | (refine GE.q 21 rfl (by kernel_rfl) rfl (qg_runs (rv_field rfl)) rfl ?_) | refine GE.qn 21 rfl (by kernel_rfl) rfl rfl ?_))
                all_goals ((first | (refine GE.q 22 rfl (by kernel_rfl) rfl (qg_runs (rv_load1 0 rfl rfl rfl)) rfl ?_) | refine GE.qn 22 rfl (by kernel_rfl) rfl rfl ?_))
                all_goals ((first | (refine GE.q 23 rfl (by kernel_rfl) rfl (qg_runs (rv_addB rfl rfl (by omega) (by omega))) rfl ?_) | refine GE.qn 23 rfl (by kernel_rfl) rfl rfl ?_))
                all_goals ((first | (refine GE.q 24 rfl (by kernel_rfl) rfl (qg_runs (rv_field rfl)) rfl ?_) | refine GE.qn 24 rfl (by kernel_rfl) rfl rfl ?_))
                all_goals ((first | (refine GE.q 25 rfl (by kernel_rfl) rfl (qg_runs (rv_load1 5 rfl rfl rfl)) rfl ?_) | refine GE.qn 25 rfl (by kernel_rfl) rfl rfl ?_))
                all_goals ((first | refine GE.q 26 rfl (by kernel_rfl) rfl (qg_runs (rv_gtr rfl rfl)) rfl ?_ | refine GE.qn 26 rfl (by kernel_rfl) rfl rfl ?_))
                all_goals ((first | refine GE.ol 27 (by kernel_rfl) rfl rfl (og_runs (rv_pickT rfl rfl)) rfl (fun _ _ h => by exact h) (fun _ _ => ?_) | refine GE.ol 27 (by kernel_rfl) rfl rfl (og_runs (rv_pickF rfl rfl)) rfl (fun _ _ h => by exact h) (fun _ _ => ?_)))
                all_goals
                 refine GE.done (by kernel_rfl) ?_
                 refine G.thenN ?_
                 refine G.cond rfl (fun hc => ?_) (fun hc => ?_)
                 · try exact Bool.noConfusion hc
                   all_goals
                    try replace hc := of_decide_eq_true hc
                    try simp only [List.length_map] at hc
                    try (exfalso; contradiction)
                    all_goals
                     refine G.seq ?_
                     refine G.region ?_
                     refine G.v (rv_move rfl) rfl ?_
                     refine G.v (rv_build2 rfl .nil .nil) rfl ?_
                     refine G.op (og_lit rfl (.cons rfl .nil) rfl rfl rfl rfl rfl rfl) rfl (fun vl _ => ?_)
                     ((refine G.op (og_app3 rfl rfl rfl (by exact Rd.owned 0 rfl) rfl rfl (by simp; omega) (by simp; omega)) rfl (fun va _ => ?_)))
                     refine G.v (rv_assign rfl) rfl ?_
                     refine G.done ?_
                     refine G.thenN ?_
                     refine G.region ?_
                     refine G.v (rv_move rfl) rfl ?_
                     (first | refine G.v (rv_incr rfl rfl (by omega)) rfl ?_ | refine G.v (rv_addB rfl rfl (by omega) (by omega)) rfl ?_)
                     obtain ⟨q, hq⟩ : ∃ y, y = ts.length := ⟨_, rfl⟩
                     obtain ⟨t, htt⟩ : ∃ y, y = ((shelfZ, .slice none 0 0) : ShelfM × Value) := ⟨_, rfl⟩
                     obtain ⟨us, hus⟩ : ∃ y, y = ts ++ [t] := ⟨_, rfl⟩
                     obtain ⟨vr, hvr⟩ : ∃ y, y = va := ⟨_, rfl⟩
                     subst hvr
                     have huq : us[q]? = some t := by rw [hus, hq]; simp
                     have he : (us.map ShelfM.cells)[q]? = some (ShelfM.cells t) := get_map huq ShelfM.cells
                     have hgi : (us.map (sub ShelfM.l))[q]? = some (t.2, t.1.l.map icell) := get_mapS huq
                     have hl1 : (us.map ShelfM.cells).length = q + 1 := by rw [hus, hq]; simp
                     have hzw : t.1.w = 0 := (by rw [htt]; rfl); have hzd : t.1.d = 0 := (by rw [htt]; rfl); have hzh : t.1.h = 0 := (by rw [htt]; rfl); have hzg : t.1.g = 0 := (by rw [htt]; rfl)
                     have htl : t.1.l.length = 0 := by rw [htt]; rfl
                     have hov2 : t.2.oneCell' = true := by rw [htt]; rfl
                     have hst : pileStep (shelfRoom p) shelfAdd shelfZ (ts.map Prod.fst) (b, x) = (us.map Prod.fst).set q (shelfAdd t.1 x b) := by
                       have e : us.map Prod.fst = ts.map Prod.fst ++ [shelfZ] := by rw [hus, htt]; simp
                       rw [e, htt, hq]
                       have := pile_new (room := shelfRoom p) (add := shelfAdd) (z := shelfZ) (out := ts.map Prod.fst) (s := b) (k := x) (by intro t2 ht2; first | (rw [hts] at ht2; simp at ht2; done) | (rw [last_of hts] at ht2; obtain rfl := Option.some.inj ht2; simp only [shelfRoom, Bool.and_eq_false_iff, decide_eq_false_iff_not]; (first | (have hq9 := of_decide_eq_true hg; omega) | omega)))
                       rw [this]; simp
                     (refine G.frontR3 vr rfl ?_)
                     refine G.rowEq (us.map ShelfM.cells) (by rw [hus, htt]; simp [ShelfM.cells, shelfZ]) rfl ?_
                     (refine G.frontG3 _ rfl ?_)
                     refine G.pushNil (us.map (sub ShelfM.l)) (by rw [hus, htt]; simp [sub, shelfZ]) rfl ?_
                     refine G.v (rv_assign rfl) rfl ?_
                     refine G.done ?_
                     refine G.thenN ?_
                     refine G.seq ?_
                     refine G.region ?_
                     refine G.v (rv_move rfl) rfl ?_
                     refine G.v (rv_move rfl) rfl ?_
                     (refine G.v (rv_indexH (k := q) rfl rfl (by exact Rd.owned 1 rfl) (by omega) (by exact he)) rfl ?_)
                     refine G.v (rv_assign rfl) rfl ?_
                     refine G.done ?_
                     refine G.thenN ?_
                     refine G.seq ?_
                     refine G.region ?_
                     refine G.v (rv_move rfl) rfl ?_
                     refine G.v (rv_move rfl) rfl ?_
                     (refine G.v (rv_nilCheckE rfl) rfl ?_)
                     (refine G.v (rv_fieldE rfl) rfl ?_)
                     refine G.v (rv_loadE rfl (by exact Rd.owned 1 rfl) (by exact he) rfl) rfl ?_
                     refine G.v (rv_move rfl) rfl ?_
                     refine G.op (og_lit rfl (.cons rfl .nil) rfl rfl rfl rfl rfl rfl) rfl (fun vl _ => ?_)
                     ((refine G.op (og_appG1 rfl rfl rfl hgi (by exact Rd.owned 0 rfl) rfl rfl (by simp; omega) (by simp; omega)) rfl (fun va _ => ?_)))
                     skip; refine G.know (fun w hw => (Rd.grp 1 rfl (List.mem_of_getElem? (get_set1 hgi)) w hw).one_) (fun hova => ?_)
                     (refine G.v (rv_nilCheckE rfl) rfl ?_)
                     (refine G.v (rv_fieldE rfl) rfl ?_)
                     (refine G.op0 (og_stE2 rfl rfl rfl (by exact he) (cells_one (by assumption)) rfl (by repeat (first | rfl | refine one_cons (by assumption) ?_)) rfl (.zero (.cons .nil))) (fun _ _ => ?_))
                     refine G.done ?_
                     refine G.thenN ?_
                     refine G.seq ?_
                     refine G.drawL [7, 8, 9] ?_
                     refine GE.q 0 rfl (by kernel_rfl) rfl (qg_runs (rv_move rfl)) rfl ?_
                     (refine GE.q 1 rfl (by kernel_rfl) rfl (qg_runs (rv_nilCheckE rfl)) rfl ?_)
                     (refine GE.q 2 rfl (by kernel_rfl) rfl (qg_runs (rv_fieldE rfl)) rfl ?_)
                     refine GE.q 3 rfl (by kernel_rfl) rfl (qg_runs (rv_loadE rfl (by exact Rd.owned 2 rfl) (by exact get_set1 he) rfl)) rfl ?_
                     (refine GE.ol 4 (by kernel_rfl) rfl rfl (og_runs (rv_field rfl)) rfl (fun _ _ h => by exact h) (fun _ _ => ?_))
                     (refine GE.ol 5 (by kernel_rfl) rfl rfl (og_runs (rv_load1 4 rfl rfl rfl)) rfl (fun _ _ h => by exact h) (fun _ _ => ?_))
                     (refine GE.ol 6 (by kernel_rfl) rfl rfl (og_runs (rv_addB rfl rfl (by omega) (by omega))) rfl (fun _ _ h => by exact h) (fun _ _ => ?_))
                     (refine GE.t 7 (by kernel_rfl) rfl rfl rfl (og_runs (rv_nilCheckE rfl)) rfl (fun _ _ => ?_))
                     (refine GE.t 8 (by kernel_rfl) rfl rfl rfl (og_runs (rv_fieldE rfl)) rfl (fun _ _ => ?_))
                     (refine GE.t0 9 (by kernel_rfl) rfl rfl rfl (og_stE2 rfl rfl rfl (by exact get_set1 he) rfl rfl rfl rfl (.succ (.zero (.cons .nil)))) (fun _ _ => ?_))
                     refine GE.done (by kernel_rfl) ?_
                     refine G.thenN ?_
                     refine G.seq ?_
                     refine G.drawL [8, 9, 10] ?_
                     refine GE.q 0 rfl (by kernel_rfl) rfl (qg_runs (rv_move rfl)) rfl ?_
                     refine GE.q 1 rfl (by kernel_rfl) rfl (qg_runs (rv_move rfl)) rfl ?_
                     (refine GE.q 2 rfl (by kernel_rfl) rfl (qg_runs (rv_nilCheckE rfl)) rfl ?_)
                     (refine GE.q 3 rfl (by kernel_rfl) rfl (qg_runs (rv_fieldE rfl)) rfl ?_)
                     refine GE.q 4 rfl (by kernel_rfl) rfl (qg_runs (rv_loadE rfl (by exact Rd.owned 2 rfl) (by exact get_set1 (get_set1 he)) rfl)) rfl ?_
                     (refine GE.ol 5 (by kernel_rfl) rfl rfl (og_runs (rv_field rfl)) rfl (fun _ _ h => by exact h) (fun _ _ => ?_))
                     (refine GE.ol 6 (by kernel_rfl) rfl rfl (og_runs (rv_load1 4 rfl rfl rfl)) rfl (fun _ _ h => by exact h) (fun _ _ => ?_))
                     refine GE.ol 7 (by kernel_rfl) rfl rfl (og_runs (rv_max rfl rfl)) rfl (fun _ _ h => by exact h) (fun _ _ => ?_)
                     (refine GE.t 8 (by kernel_rfl) rfl rfl rfl (og_runs (rv_nilCheckE rfl)) rfl (fun _ _ => ?_))
                     (refine GE.t 9 (by kernel_rfl) rfl rfl rfl (og_runs (rv_fieldE rfl)) rfl (fun _ _ => ?_))
                     (refine GE.t0 10 (by kernel_rfl) rfl rfl rfl (og_stE2 rfl rfl rfl (by exact get_set1 (get_set1 he)) rfl rfl rfl rfl (.succ (.succ (.zero (.cons .nil))))) (fun _ _ => ?_))
                     refine GE.done (by kernel_rfl) ?_
                     refine G.thenN ?_
                     refine G.seq ?_
                     refine G.drawL [8, 9, 10] ?_
                     refine GE.q 0 rfl (by kernel_rfl) rfl (qg_runs (rv_move rfl)) rfl ?_
                     refine GE.q 1 rfl (by kernel_rfl) rfl (qg_runs (rv_move rfl)) rfl ?_
                     (refine GE.q 2 rfl (by kernel_rfl) rfl (qg_runs (rv_nilCheckE rfl)) rfl ?_)
                     (refine GE.q 3 rfl (by kernel_rfl) rfl (qg_runs (rv_fieldE rfl)) rfl ?_)
                     refine GE.q 4 rfl (by kernel_rfl) rfl (qg_runs (rv_loadE rfl (by exact Rd.owned 2 rfl) (by exact get_set1 (get_set1 (get_set1 he))) rfl)) rfl ?_
                     (refine GE.ol 5 (by kernel_rfl) rfl rfl (og_runs (rv_field rfl)) rfl (fun _ _ h => by exact h) (fun _ _ => ?_))
                     (refine GE.ol 6 (by kernel_rfl) rfl rfl (og_runs (rv_load1 4 rfl rfl rfl)) rfl (fun _ _ h => by exact h) (fun _ _ => ?_))
                     refine GE.ol 7 (by kernel_rfl) rfl rfl (og_runs (rv_max rfl rfl)) rfl (fun _ _ h => by exact h) (fun _ _ => ?_)
                     (refine GE.t 8 (by kernel_rfl) rfl rfl rfl (og_runs (rv_nilCheckE rfl)) rfl (fun _ _ => ?_))
                     (refine GE.t 9 (by kernel_rfl) rfl rfl rfl (og_runs (rv_fieldE rfl)) rfl (fun _ _ => ?_))
                     (refine GE.t0 10 (by kernel_rfl) rfl rfl rfl (og_stE2 rfl rfl rfl (by exact get_set1 (get_set1 (get_set1 he))) rfl rfl rfl rfl (.succ (.succ (.succ (.zero (.cons .nil)))))) (fun _ _ => ?_))
                     refine GE.done (by kernel_rfl) ?_
                     refine G.thenN ?_
                     refine G.drawL [7, 8, 9] ?_
                     refine GE.q 0 rfl (by kernel_rfl) rfl (qg_runs (rv_move rfl)) rfl ?_
                     (refine GE.q 1 rfl (by kernel_rfl) rfl (qg_runs (rv_nilCheckE rfl)) rfl ?_)
                     (refine GE.q 2 rfl (by kernel_rfl) rfl (qg_runs (rv_fieldE rfl)) rfl ?_)
                     refine GE.q 3 rfl (by kernel_rfl) rfl (qg_runs (rv_loadE rfl (by exact Rd.owned 2 rfl) (by exact get_set1 (get_set1 (get_set1 (get_set1 he)))) rfl)) rfl ?_
                     (refine GE.ol 4 (by kernel_rfl) rfl rfl (og_runs (rv_field rfl)) rfl (fun _ _ h => by exact h) (fun _ _ => ?_))
                     (refine GE.ol 5 (by kernel_rfl) rfl rfl (og_runs (rv_load1 4 rfl rfl rfl)) rfl (fun _ _ h => by exact h) (fun _ _ => ?_))
                     (refine GE.ol 6 (by kernel_rfl) rfl rfl (og_runs (rv_addB rfl rfl (by omega) (by omega))) rfl (fun _ _ h => by exact h) (fun _ _ => ?_))
                     (refine GE.t 7 (by kernel_rfl) rfl rfl rfl (og_runs (rv_nilCheckE rfl)) rfl (fun _ _ => ?_))
                     (refine GE.t 8 (by kernel_rfl) rfl rfl rfl (og_runs (rv_fieldE rfl)) rfl (fun _ _ => ?_))
                     (refine GE.t0 9 (by kernel_rfl) rfl rfl rfl (og_stE2 rfl rfl rfl (by exact get_set1 (get_set1 (get_set1 (get_set1 he)))) rfl rfl rfl rfl (.succ (.succ (.succ (.succ (.zero (.cons .nil))))))) (fun _ _ => ?_))
                     refine GE.done (by kernel_rfl) ?_
                     refine G.inN ?_
                     refine G.thenN ?_
                     refine G.region ?_
                     (refine G.v (rv_incr rfl rfl (by omega)) rfl ?_)
                     refine G.v (rv_move rfl) rfl ?_
                     refine G.done ?_
                     (refine G.frontR2 vr rfl ?_)
                     (refine G.frontG2 _ rfl ?_)
                     (refine G.keep2 3 rfl ?_; refine G.backK (k + 1, us.set q (shelfAdd t.1 x b, va), vr) 0 (two_eq (congrArg (fun z => Ch.grp 3 1 z) (sub_set (by simp only [shelfAdd, List.map_append, List.map_cons, List.map_nil, icell]))) (congrArg (fun z => Ch.row vr 63 5 z) (by rw [List.set_set, List.set_set, List.set_set, List.set_set]; exact cells_set rfl))) (.cons rfl (.cons rfl (.cons rfl (.cons rfl (.nil))))) ?_ ?_ ?_)
                     · exact ⟨rfl, rfl, trivial⟩
                     · exact ⟨hlt, by rw [foldl_take_succ hz, ← hM, hst, List.map_set]⟩
                     · omega
                 · try exact Bool.noConfusion hc
                   all_goals
                    try replace hc := of_decide_eq_false hc
                    try simp only [List.length_map] at hc
                    try (exfalso; contradiction)
                    all_goals
                     obtain ⟨us, hus⟩ : ∃ y, y = ts := ⟨_, rfl⟩
                     obtain ⟨vr, hvr⟩ : ∃ y, y = v2 := ⟨_, rfl⟩
                     have hl1 : (us.map ShelfM.cells).length = q + 1 := by rw [hus]; omega
                     have htl : t.1.l.length ≤ 1048576 := hlb
                     have hst : pileStep (shelfRoom p) shelfAdd shelfZ (ts.map Prod.fst) (b, x) = (us.map Prod.fst).set q (shelfAdd t.1 x b) := by
                       rw [hus]; exact pile_room (fst_at htq) (by rw [List.length_map]; omega) (by simp only [shelfRoom, Bool.and_eq_true, decide_eq_true_eq]; ((have hq9 := of_decide_eq_false hg; omega)))
                     subst hvr hus
                     all_goals
                      refine G.skip ?_
                      refine G.thenN ?_
                      refine G.seq ?_
                      refine G.region ?_
                      refine G.v (rv_move rfl) rfl ?_
                      refine G.v (rv_move rfl) rfl ?_
                      (refine G.v (rv_indexH (k := q) rfl rfl (by exact Rd.owned 2 rfl) (by omega) (by exact he)) rfl ?_)
                      refine G.v (rv_assign rfl) rfl ?_
                      refine G.done ?_
                      refine G.thenN ?_
                      refine G.seq ?_
                      refine G.region ?_
                      refine G.v (rv_move rfl) rfl ?_
                      refine G.v (rv_move rfl) rfl ?_
                      (refine G.v (rv_nilCheckE rfl) rfl ?_)
                      (refine G.v (rv_fieldE rfl) rfl ?_)
                      refine G.v (rv_loadE rfl (by exact Rd.owned 2 rfl) (by exact he) rfl) rfl ?_
                      refine G.v (rv_move rfl) rfl ?_
                      refine G.op (og_lit rfl (.cons rfl .nil) rfl rfl rfl rfl rfl rfl) rfl (fun vl _ => ?_)
                      ((refine G.op (og_appG2 rfl rfl rfl hgi (by exact Rd.owned 0 rfl) rfl rfl (by simp; omega) (by simp; omega)) rfl (fun va _ => ?_)))
                      skip; refine G.know (fun w hw => (Rd.grp 2 rfl (List.mem_of_getElem? (get_set1 hgi)) w hw).one_) (fun hova => ?_)
                      (refine G.v (rv_nilCheckE rfl) rfl ?_)
                      (refine G.v (rv_fieldE rfl) rfl ?_)
                      (refine G.op0 (og_stE3 rfl rfl rfl (by exact he) (cells_one (by assumption)) rfl (by repeat (first | rfl | refine one_cons (by assumption) ?_)) rfl (.zero (.cons .nil))) (fun _ _ => ?_))
                      refine G.done ?_
                      refine G.thenN ?_
                      refine G.seq ?_
                      refine G.drawL [7, 8, 9] ?_
                      refine GE.q 0 rfl (by kernel_rfl) rfl (qg_runs (rv_move rfl)) rfl ?_
                      (refine GE.q 1 rfl (by kernel_rfl) rfl (qg_runs (rv_nilCheckE rfl)) rfl ?_)
                      (refine GE.q 2 rfl (by kernel_rfl) rfl (qg_runs (rv_fieldE rfl)) rfl ?_)
                      refine GE.q 3 rfl (by kernel_rfl) rfl (qg_runs (rv_loadE rfl (by exact Rd.owned 3 rfl) (by exact get_set1 he) rfl)) rfl ?_
                      (refine GE.ol 4 (by kernel_rfl) rfl rfl (og_runs (rv_field rfl)) rfl (fun _ _ h => by exact h) (fun _ _ => ?_))
                      (refine GE.ol 5 (by kernel_rfl) rfl rfl (og_runs (rv_load1 1 rfl rfl rfl)) rfl (fun _ _ h => by exact h) (fun _ _ => ?_))
                      (refine GE.ol 6 (by kernel_rfl) rfl rfl (og_runs (rv_addB rfl rfl (by omega) (by omega))) rfl (fun _ _ h => by exact h) (fun _ _ => ?_))
                      (refine GE.t 7 (by kernel_rfl) rfl rfl rfl (og_runs (rv_nilCheckE rfl)) rfl (fun _ _ => ?_))
                      (refine GE.t 8 (by kernel_rfl) rfl rfl rfl (og_runs (rv_fieldE rfl)) rfl (fun _ _ => ?_))
                      (refine GE.t0 9 (by kernel_rfl) rfl rfl rfl (og_stE3 rfl rfl rfl (by exact get_set1 he) rfl rfl rfl rfl (.succ (.zero (.cons .nil)))) (fun _ _ => ?_))
                      refine GE.done (by kernel_rfl) ?_
                      refine G.thenN ?_
                      refine G.seq ?_
                      refine G.drawL [8, 9, 10] ?_
                      refine GE.q 0 rfl (by kernel_rfl) rfl (qg_runs (rv_move rfl)) rfl ?_
                      refine GE.q 1 rfl (by kernel_rfl) rfl (qg_runs (rv_move rfl)) rfl ?_
                      (refine GE.q 2 rfl (by kernel_rfl) rfl (qg_runs (rv_nilCheckE rfl)) rfl ?_)
                      (refine GE.q 3 rfl (by kernel_rfl) rfl (qg_runs (rv_fieldE rfl)) rfl ?_)
                      refine GE.q 4 rfl (by kernel_rfl) rfl (qg_runs (rv_loadE rfl (by exact Rd.owned 3 rfl) (by exact get_set1 (get_set1 he)) rfl)) rfl ?_
                      (refine GE.ol 5 (by kernel_rfl) rfl rfl (og_runs (rv_field rfl)) rfl (fun _ _ h => by exact h) (fun _ _ => ?_))
                      (refine GE.ol 6 (by kernel_rfl) rfl rfl (og_runs (rv_load1 1 rfl rfl rfl)) rfl (fun _ _ h => by exact h) (fun _ _ => ?_))
                      refine GE.ol 7 (by kernel_rfl) rfl rfl (og_runs (rv_max rfl rfl)) rfl (fun _ _ h => by exact h) (fun _ _ => ?_)
                      (refine GE.t 8 (by kernel_rfl) rfl rfl rfl (og_runs (rv_nilCheckE rfl)) rfl (fun _ _ => ?_))
                      (refine GE.t 9 (by kernel_rfl) rfl rfl rfl (og_runs (rv_fieldE rfl)) rfl (fun _ _ => ?_))
                      (refine GE.t0 10 (by kernel_rfl) rfl rfl rfl (og_stE3 rfl rfl rfl (by exact get_set1 (get_set1 he)) rfl rfl rfl rfl (.succ (.succ (.zero (.cons .nil))))) (fun _ _ => ?_))
                      refine GE.done (by kernel_rfl) ?_
                      refine G.thenN ?_
                      refine G.seq ?_
                      refine G.drawL [8, 9, 10] ?_
                      refine GE.q 0 rfl (by kernel_rfl) rfl (qg_runs (rv_move rfl)) rfl ?_
                      refine GE.q 1 rfl (by kernel_rfl) rfl (qg_runs (rv_move rfl)) rfl ?_
                      (refine GE.q 2 rfl (by kernel_rfl) rfl (qg_runs (rv_nilCheckE rfl)) rfl ?_)
                      (refine GE.q 3 rfl (by kernel_rfl) rfl (qg_runs (rv_fieldE rfl)) rfl ?_)
                      refine GE.q 4 rfl (by kernel_rfl) rfl (qg_runs (rv_loadE rfl (by exact Rd.owned 3 rfl) (by exact get_set1 (get_set1 (get_set1 he))) rfl)) rfl ?_
                      (refine GE.ol 5 (by kernel_rfl) rfl rfl (og_runs (rv_field rfl)) rfl (fun _ _ h => by exact h) (fun _ _ => ?_))
                      (refine GE.ol 6 (by kernel_rfl) rfl rfl (og_runs (rv_load1 1 rfl rfl rfl)) rfl (fun _ _ h => by exact h) (fun _ _ => ?_))
                      refine GE.ol 7 (by kernel_rfl) rfl rfl (og_runs (rv_max rfl rfl)) rfl (fun _ _ h => by exact h) (fun _ _ => ?_)
                      (refine GE.t 8 (by kernel_rfl) rfl rfl rfl (og_runs (rv_nilCheckE rfl)) rfl (fun _ _ => ?_))
                      (refine GE.t 9 (by kernel_rfl) rfl rfl rfl (og_runs (rv_fieldE rfl)) rfl (fun _ _ => ?_))
                      (refine GE.t0 10 (by kernel_rfl) rfl rfl rfl (og_stE3 rfl rfl rfl (by exact get_set1 (get_set1 (get_set1 he))) rfl rfl rfl rfl (.succ (.succ (.succ (.zero (.cons .nil)))))) (fun _ _ => ?_))
                      refine GE.done (by kernel_rfl) ?_
                      refine G.thenN ?_
                      refine G.drawL [7, 8, 9] ?_
                      refine GE.q 0 rfl (by kernel_rfl) rfl (qg_runs (rv_move rfl)) rfl ?_
                      (refine GE.q 1 rfl (by kernel_rfl) rfl (qg_runs (rv_nilCheckE rfl)) rfl ?_)
                      (refine GE.q 2 rfl (by kernel_rfl) rfl (qg_runs (rv_fieldE rfl)) rfl ?_)
                      refine GE.q 3 rfl (by kernel_rfl) rfl (qg_runs (rv_loadE rfl (by exact Rd.owned 3 rfl) (by exact get_set1 (get_set1 (get_set1 (get_set1 he)))) rfl)) rfl ?_
                      (refine GE.ol 4 (by kernel_rfl) rfl rfl (og_runs (rv_field rfl)) rfl (fun _ _ h => by exact h) (fun _ _ => ?_))
                      (refine GE.ol 5 (by kernel_rfl) rfl rfl (og_runs (rv_load1 1 rfl rfl rfl)) rfl (fun _ _ h => by exact h) (fun _ _ => ?_))
                      (refine GE.ol 6 (by kernel_rfl) rfl rfl (og_runs (rv_addB rfl rfl (by omega) (by omega))) rfl (fun _ _ h => by exact h) (fun _ _ => ?_))
                      (refine GE.t 7 (by kernel_rfl) rfl rfl rfl (og_runs (rv_nilCheckE rfl)) rfl (fun _ _ => ?_))
                      (refine GE.t 8 (by kernel_rfl) rfl rfl rfl (og_runs (rv_fieldE rfl)) rfl (fun _ _ => ?_))
                      (refine GE.t0 9 (by kernel_rfl) rfl rfl rfl (og_stE3 rfl rfl rfl (by exact get_set1 (get_set1 (get_set1 (get_set1 he)))) rfl rfl rfl rfl (.succ (.succ (.succ (.succ (.zero (.cons .nil))))))) (fun _ _ => ?_))
                      refine GE.done (by kernel_rfl) ?_
                      refine G.inN ?_
                      refine G.thenN ?_
                      refine G.region ?_
                      (refine G.v (rv_incr rfl rfl (by omega)) rfl ?_)
                      refine G.v (rv_move rfl) rfl ?_
                      refine G.done ?_
                      (refine G.frontR3 vr rfl ?_)
                      (refine G.frontG3 _ rfl ?_)
                      (refine G.keep2 2 rfl ?_; refine G.backK (k + 1, us.set q (shelfAdd t.1 x b, va), vr) 0 (two_eq (congrArg (fun z => Ch.grp 3 1 z) (sub_set (by simp only [shelfAdd, List.map_append, List.map_cons, List.map_nil, icell]))) (congrArg (fun z => Ch.row vr 63 5 z) (by rw [List.set_set, List.set_set, List.set_set, List.set_set]; exact cells_set rfl))) (.cons rfl (.cons rfl (.cons rfl (.cons rfl (.nil))))) ?_ ?_ ?_)
                      · exact ⟨rfl, rfl, trivial⟩
                      · exact ⟨hlt, by rw [foldl_take_succ hz, ← hM, hst, List.map_set]⟩
                      · omega
            · try exact Bool.noConfusion hc
              all_goals
               try replace hc := of_decide_eq_false hc
               try simp only [List.length_map] at hc
               try (exfalso; omega)
               all_goals
                refine G.exit ?_
                refine G.thenX ?_
                refine G.thenX ?_
                refine G.inX ?_
                refine G.thenN ?_
                refine G.seq ?_
                refine G.region ?_
                refine G.v (rv_move rfl) rfl ?_
                refine G.v (rv_assign rfl) rfl ?_
                refine G.done ?_
                refine G.thenN ?_
                refine G.ret ?_
                (refine G.know (fun w hw => (Rd.owned 1 rfl w hw).one_) (fun hone => G.retF (v2, ts) ⟨hone, shelf_end (bnot_no hok) hM hlt⟩ rfl rfl rfl (fun w hw => hw.sublist (by repeat (first | exact List.Sublist.refl _ | refine List.Sublist.cons_cons _ ?_ | refine List.Sublist.cons _ ?_)))); done)
end Go.Proofs.Yticgeijklhlonaa
