/-
  Tables, that is lists of things with a list each: copied and compared.
-/
import Derived.Test.YticgeijklhlonaaInts
namespace Go.Proofs.Yticgeijklhlonaa
open Go.RowKit
attribute [local irreducible] Go.wpList Go.Code.wp Go.Exit.then Go.Exit.inBlock Go.bodyPost Go.Calls pE pB G RunsV FnV Fn FnM
set_option maxRecDepth 100000

theorem szShelf_any (a : ShelfM × Value) (left : Int) (w : World) (h : Rd w a.2 1 (a.1.l.map icell)) (h0 : 0 ≤ left) (h1 : left ≤ 1048576) : FnV Try.prog 105 [.agg (ShelfM.cells a).toArray, .int .i64 left] w (.int .i64 (szM a.1.l.length left)) := by
  refine FnV.of (n := 12) Try.func105 rfl rfl ?_
  refine G.seq ?_
  refine G.region ?_
  refine G.op (og_box rfl rfl) rfl (fun bk2 _ => ?_)
  refine G.v (rv_assign rfl) rfl ?_
  refine G.done ?_
  refine G.thenN ?_
  refine G.seq ?_
  refine G.region ?_
  (refine G.v (rv_field rfl) rfl ?_)
  refine G.v (rv_load1 0 rfl rfl rfl) rfl ?_
  refine G.v (rv_move rfl) rfl ?_
  refine G.op (og_callV rfl rfl (fun w hh => szIntS_any _ w (by exact Rd.stays (by assumption) _ hh) (by (try simp only [szM] at *); omega) (by (try simp only [szM] at *); omega))) rfl (fun _ _ => ?_)
  refine G.v (rv_assign rfl) rfl ?_
  refine G.done ?_
  refine G.thenN ?_
  refine G.seq ?_
  refine G.seq ?_
  refine G.region ?_
  refine G.v (rv_move rfl) rfl ?_
  refine G.v (rv_lss rfl rfl) rfl ?_
  refine G.done ?_
  refine G.thenN ?_
  refine G.cond rfl (fun hc => ?_) (fun hc => ?_)
  · try exact Bool.noConfusion hc
    all_goals
     try replace hc := of_decide_eq_true hc
     try (exfalso; contradiction)
     all_goals
      refine G.seq ?_
      refine G.region ?_
      refine G.v (rv_assign rfl) rfl ?_
      refine G.done ?_
      refine G.thenN ?_
      refine G.ret ?_
      refine G.thenR ?_
      exact G.retFV rfl rfl (congrArg (Value.int .i64) (by simp only [szM] at * <;> omega))
  · try exact Bool.noConfusion hc
    all_goals
     try replace hc := of_decide_eq_false hc
     try (exfalso; contradiction)
     all_goals
      refine G.skip ?_
      refine G.thenN ?_
      refine G.seq ?_
      refine G.region ?_
      refine G.v (rv_move rfl) rfl ?_
      refine G.v (rv_assign rfl) rfl ?_
      refine G.done ?_
      refine G.thenN ?_
      refine G.ret ?_
      exact G.retFV rfl rfl (congrArg (Value.int .i64) (by simp only [szM] at * <;> omega))
theorem szShelfS_any {v : Value} {l : List (ShelfM × Value)} (left : Int) (w : World) (h : Rd w v 5 (l.map ShelfM.cells)) (hs : Subs w ShelfM.l l) (h0 : 0 ≤ left) (h1 : left ≤ 1048576) : FnV Try.prog 49 [v, .int .i64 left] w (.int .i64 (szM (tot ShelfM.l l) left)) := by
  have hle := h.le_map
  have hln : ((l.map ShelfM.cells).length : Int) = l.length := by simp
  have htl := tot_take ShelfM.l l
  have htot : tot ShelfM.l l = l.length + (l.map fun t => t.1.l.length).sum := rfl
  refine FnV.of (n := 27) Try.func49 rfl rfl ?_
  refine G.seq ?_
  refine G.region ?_
  refine G.v (rv_assign rfl) rfl ?_
  refine G.done ?_
  refine G.thenN ?_
  refine G.seq ?_
  refine G.region ?_
  refine G.v (rv_move rfl) rfl ?_
  refine G.v (rv_move rfl) rfl ?_
  refine G.v (rv_len rfl (by exact Rd.stays (by assumption))) rfl ?_
  (refine G.v (rv_subB rfl rfl (by omega) (by omega)) rfl ?_)
  refine G.v (rv_assign rfl) rfl ?_
  refine G.done ?_
  refine G.thenN ?_
  refine G.seq ?_
  refine G.seq ?_
  refine G.region ?_
  refine G.v (rv_move rfl) rfl ?_
  refine G.v (rv_lss rfl rfl) rfl ?_
  refine G.done ?_
  refine G.thenN ?_
  refine G.cond rfl (fun hc => ?_) (fun hc => ?_)
  · try exact Bool.noConfusion hc
    all_goals
     try replace hc := of_decide_eq_true hc
     try (exfalso; contradiction)
     all_goals
      refine G.seq ?_
      refine G.region ?_
      refine G.v (rv_assign rfl) rfl ?_
      refine G.done ?_
      refine G.thenN ?_
      refine G.ret ?_
      refine G.thenR ?_
      exact G.retFV rfl rfl (congrArg (Value.int .i64) (by simp only [szM] at * <;> omega))
  · try exact Bool.noConfusion hc
    all_goals
     try replace hc := of_decide_eq_false hc
     try (exfalso; contradiction)
     all_goals
      refine G.skip ?_
      refine G.thenN ?_
      refine G.seq ?_
      refine G.seq ?_
      refine G.region ?_
      refine G.v (rv_assign rfl) rfl ?_
      refine G.done ?_
      refine G.thenN ?_
      refine G.block ?_
      -- loop 0: turned [1, 5], kept [0]
      refine G.loopK (ι := Nat) (ks := [0]) (fun k => [(1, .int .i64 (left - l.length - ((l.take k).map fun t => t.1.l.length).sum)), (5, .int .i64 k)]) (fun _ => []) (fun k => k ≤ l.length ∧ (0:Int) ≤ left - l.length - ((l.take k).map fun t => t.1.l.length).sum) (fun k => l.length - k) 0 (.cons rfl (.nil)) rfl ?_ ?_ ?_
      · exact ⟨Nat.zero_le _, by simp; omega⟩
      · exact ⟨by simp; rfl, rfl, trivial⟩
      rintro k ⟨hk, hpos⟩
      by_cases hlt : k < l.length
      case' pos => (obtain ⟨b, hb⟩ := get_of_lt hlt; have he := get_map hb ShelfM.cells; have hn := tot_next ShelfM.l hb; have hn2 := htl (k + 1))
      case' neg => (have hn4 : ((l.take k).map fun t => t.1.l.length).sum = (l.map fun t => t.1.l.length).sum := by rw [take_all hlt])
      all_goals
       refine G.seq ?_
       refine G.seq ?_
       refine G.region ?_
       refine G.v (rv_move rfl) rfl ?_
       refine G.v (rv_move rfl) rfl ?_
       refine G.v (rv_len rfl (by exact Rd.stays (by assumption))) rfl ?_
       refine G.v (rv_lss rfl rfl) rfl ?_
       refine G.done ?_
       refine G.thenN ?_
       refine G.cond rfl (fun hc => ?_) (fun hc => ?_)
       · try exact Bool.noConfusion hc
         all_goals
          try replace hc := of_decide_eq_true hc
          try (exfalso; omega)
          all_goals
           refine G.skip ?_
           refine G.thenN ?_
           refine G.seq ?_
           refine G.block ?_
           refine G.seq ?_
           refine G.region ?_
           refine G.v (rv_move rfl) rfl ?_
           refine G.v (rv_move rfl) rfl ?_
           (refine G.v (rv_indexH rfl rfl (by exact Rd.stays (by assumption)) rfl (by assumption)) rfl ?_)
           (refine G.v (rv_loadEW rfl (by exact Rd.stays (by assumption)) (by assumption) rfl) rfl ?_)
           refine G.v (rv_move rfl) rfl ?_
           refine G.op (og_callV rfl rfl (fun w hh => szShelf_any b _ w (Rd.stays (hs.at hb) _ hh) (by omega) (by omega))) rfl (fun _ _ => ?_)
           refine G.v (rv_assign rfl) rfl ?_
           refine G.done ?_
           refine G.thenN ?_
           refine G.seq ?_
           refine G.region ?_
           refine G.v (rv_move rfl) rfl ?_
           refine G.v (rv_lss rfl rfl) rfl ?_
           refine G.done ?_
           refine G.thenN ?_
           refine G.cond rfl (fun hc => ?_) (fun hc => ?_)
           · try exact Bool.noConfusion hc
             all_goals
              try replace hc := of_decide_eq_true hc
              try (exfalso; contradiction)
              all_goals
               refine G.seq ?_
               refine G.region ?_
               refine G.v (rv_assign rfl) rfl ?_
               refine G.done ?_
               refine G.thenN ?_
               refine G.ret ?_
               refine G.inR ?_
               refine G.thenR ?_
               refine G.thenR ?_
               refine G.inR ?_
               refine G.thenR ?_
               exact G.retFV rfl rfl (congrArg (Value.int .i64) (by simp only [szM] at * <;> omega))
           · try exact Bool.noConfusion hc
             all_goals
              try replace hc := of_decide_eq_false hc
              try (exfalso; contradiction)
              all_goals
               refine G.skip ?_
               refine G.inN ?_
               refine G.thenN ?_
               refine G.region ?_
               refine G.v (rv_move rfl) rfl ?_
               (refine G.v (rv_incr rfl rfl (by omega)) rfl ?_)
               refine G.v (rv_assign rfl) rfl ?_
               refine G.done ?_
               refine G.backK (k + 1) 0 rfl (.cons rfl (.nil)) ?_ ?_ ?_
               · exact ⟨congrArg (fun z => some (Value.int .i64 z)) (by simp only [szM] at * <;> omega), rfl, trivial⟩
               · exact ⟨hlt, by simp only [szM] at *; omega⟩
               · omega
       · try exact Bool.noConfusion hc
         all_goals
          try replace hc := of_decide_eq_false hc
          try (exfalso; omega)
          all_goals
           refine G.exit ?_
           refine G.thenX ?_
           refine G.thenX ?_
           refine G.inX ?_
           refine G.thenN ?_
           refine G.seq ?_
           refine G.region ?_
           refine G.v (rv_move rfl) rfl ?_
           refine G.v (rv_assign rfl) rfl ?_
           refine G.done ?_
           refine G.thenN ?_
           refine G.ret ?_
           exact G.retFV rfl rfl (congrArg (Value.int .i64) (by simp only [szM] at * <;> omega))
theorem toShelf_any (a : ShelfM × Value) (w : World) (h : Rd w a.2 1 (a.1.l.map icell)) (hl : a.1.l.length ≤ 1048576) : Fn Try.prog 106 [.agg (ShelfM.cells a).toArray] w (fun v : Value => v.oneCell' = true) (fun v => .agg (ShelfM.cells (a.1, v)).toArray) (fun v => [.row v 3 1 (a.1.l.map icell)]) := by
  refine Fn.of (n := 21) Try.func106 rfl rfl ?_
  refine G.seq ?_
  refine G.region ?_
  refine G.op (og_box rfl rfl) rfl (fun bk1 _ => ?_)
  refine G.op (og_alloc) rfl (fun bk2 _ => ?_)
  refine G.done ?_
  refine G.thenN ?_
  refine G.seq ?_
  refine G.region ?_
  refine G.op (og_alloc) rfl (fun bk3 _ => ?_)
  refine G.done ?_
  refine G.thenN ?_
  refine G.seq ?_
  refine G.region ?_
  (refine G.v (rv_field rfl) rfl ?_)
  (refine G.v (rv_load1 2 rfl rfl rfl) rfl ?_)
  (first | (refine G.op (og_callF1 rfl rfl (fun w hh => toIntS_any w (by first | exact Rd.stays (by assumption) _ hh | exact Rd.owned 0 rfl _ hh | exact Rd.owned 1 rfl _ hh | exact Rd.owned 2 rfl _ hh | exact Rd.owned 3 rfl _ hh | exact Rd.owned 4 rfl _ hh | exact Rd.owned 5 rfl _ hh | exact Rd.owned 6 rfl _ hh | exact Rd.owned 7 rfl _ hh | exact Rd.owned 8 rfl _ hh | exact Rd.owned 9 rfl _ hh | exact Rd.owned 10 rfl _ hh | exact Rd.owned 11 rfl _ hh | exact Rd.owned 12 rfl _ hh | exact Rd.owned 13 rfl _ hh | exact Rd.owned 14 rfl _ hh | exact Rd.owned 15 rfl _ hh) (by (try simp only [szM] at *); omega))) rfl ?_; rintro v hov; try dsimp only) | (refine G.op (og_callF2 rfl rfl (fun w hh => toIntS_any w (by first | exact Rd.stays (by assumption) _ hh | exact Rd.owned 0 rfl _ hh | exact Rd.owned 1 rfl _ hh | exact Rd.owned 2 rfl _ hh | exact Rd.owned 3 rfl _ hh | exact Rd.owned 4 rfl _ hh | exact Rd.owned 5 rfl _ hh | exact Rd.owned 6 rfl _ hh | exact Rd.owned 7 rfl _ hh | exact Rd.owned 8 rfl _ hh | exact Rd.owned 9 rfl _ hh | exact Rd.owned 10 rfl _ hh | exact Rd.owned 11 rfl _ hh | exact Rd.owned 12 rfl _ hh | exact Rd.owned 13 rfl _ hh | exact Rd.owned 14 rfl _ hh | exact Rd.owned 15 rfl _ hh) (by (try simp only [szM] at *); omega))) rfl ?_; rintro v hov; try dsimp only) | (refine G.op (og_callF3 rfl rfl (fun w hh => toIntS_any w (by first | exact Rd.stays (by assumption) _ hh | exact Rd.owned 0 rfl _ hh | exact Rd.owned 1 rfl _ hh | exact Rd.owned 2 rfl _ hh | exact Rd.owned 3 rfl _ hh | exact Rd.owned 4 rfl _ hh | exact Rd.owned 5 rfl _ hh | exact Rd.owned 6 rfl _ hh | exact Rd.owned 7 rfl _ hh | exact Rd.owned 8 rfl _ hh | exact Rd.owned 9 rfl _ hh | exact Rd.owned 10 rfl _ hh | exact Rd.owned 11 rfl _ hh | exact Rd.owned 12 rfl _ hh | exact Rd.owned 13 rfl _ hh | exact Rd.owned 14 rfl _ hh | exact Rd.owned 15 rfl _ hh) (by (try simp only [szM] at *); omega))) rfl ?_; rintro v hov; try dsimp only) | (refine G.op (og_callF0 rfl rfl (fun w hh => toIntS_any w (by first | exact Rd.stays (by assumption) _ hh | exact Rd.owned 0 rfl _ hh | exact Rd.owned 1 rfl _ hh | exact Rd.owned 2 rfl _ hh | exact Rd.owned 3 rfl _ hh | exact Rd.owned 4 rfl _ hh | exact Rd.owned 5 rfl _ hh | exact Rd.owned 6 rfl _ hh | exact Rd.owned 7 rfl _ hh | exact Rd.owned 8 rfl _ hh | exact Rd.owned 9 rfl _ hh | exact Rd.owned 10 rfl _ hh | exact Rd.owned 11 rfl _ hh | exact Rd.owned 12 rfl _ hh | exact Rd.owned 13 rfl _ hh | exact Rd.owned 14 rfl _ hh | exact Rd.owned 15 rfl _ hh) (by (try simp only [szM] at *); omega))) rfl ?_; rintro v hov; try dsimp only) | (refine G.op (og_callF rfl rfl (fun w hh => toIntS_any w (by first | exact Rd.stays (by assumption) _ hh | exact Rd.owned 0 rfl _ hh | exact Rd.owned 1 rfl _ hh | exact Rd.owned 2 rfl _ hh | exact Rd.owned 3 rfl _ hh | exact Rd.owned 4 rfl _ hh | exact Rd.owned 5 rfl _ hh | exact Rd.owned 6 rfl _ hh | exact Rd.owned 7 rfl _ hh | exact Rd.owned 8 rfl _ hh | exact Rd.owned 9 rfl _ hh | exact Rd.owned 10 rfl _ hh | exact Rd.owned 11 rfl _ hh | exact Rd.owned 12 rfl _ hh | exact Rd.owned 13 rfl _ hh | exact Rd.owned 14 rfl _ hh | exact Rd.owned 15 rfl _ hh) (by (try simp only [szM] at *); omega))) rfl ?_; rintro v hov; try dsimp only))
  (refine G.v (rv_field rfl) rfl ?_)
  (refine G.op0 (og_st1 rfl rfl rfl (cells_one (by assumption)) rfl (by repeat (first | rfl | refine one_cons (by assumption) ?_)) (.zero (.cons .nil))) (fun _ _ => ?_))
  refine G.done ?_
  refine G.thenN ?_
  refine G.seq ?_
  refine G.region ?_
  (refine G.v (rv_field rfl) rfl ?_)
  (refine G.v (rv_load1 3 rfl rfl rfl) rfl ?_)
  (refine G.v (rv_field rfl) rfl ?_)
  (refine G.op0 (og_st1 rfl rfl rfl rfl rfl rfl (.succ (.zero (.cons .nil)))) (fun _ _ => ?_))
  refine G.done ?_
  refine G.thenN ?_
  refine G.seq ?_
  refine G.region ?_
  (refine G.v (rv_field rfl) rfl ?_)
  (refine G.v (rv_load1 3 rfl rfl rfl) rfl ?_)
  (refine G.v (rv_field rfl) rfl ?_)
  (refine G.op0 (og_st1 rfl rfl rfl rfl rfl rfl (.succ (.succ (.zero (.cons .nil))))) (fun _ _ => ?_))
  refine G.done ?_
  refine G.thenN ?_
  refine G.seq ?_
  refine G.region ?_
  (refine G.v (rv_field rfl) rfl ?_)
  (refine G.v (rv_load1 3 rfl rfl rfl) rfl ?_)
  (refine G.v (rv_field rfl) rfl ?_)
  (refine G.op0 (og_st1 rfl rfl rfl rfl rfl rfl (.succ (.succ (.succ (.zero (.cons .nil)))))) (fun _ _ => ?_))
  refine G.done ?_
  refine G.thenN ?_
  refine G.seq ?_
  refine G.region ?_
  (refine G.v (rv_field rfl) rfl ?_)
  (refine G.v (rv_load1 3 rfl rfl rfl) rfl ?_)
  (refine G.v (rv_field rfl) rfl ?_)
  (refine G.op0 (og_st1 rfl rfl rfl rfl rfl rfl (.succ (.succ (.succ (.succ (.zero (.cons .nil))))))) (fun _ _ => ?_))
  refine G.done ?_
  refine G.thenN ?_
  refine G.seq ?_
  refine G.region ?_
  (refine G.v (rv_loadW 1 rfl rfl rfl) rfl ?_)
  (refine G.op0 (og_st2 rfl rfl rfl rfl rfl (by repeat (first | rfl | refine one_cons (by assumption) ?_)) (.zero (.cons (.cons (.cons (.cons (.cons .nil))))))) (fun _ _ => ?_))
  refine G.done ?_
  refine G.thenN ?_
  refine G.ret ?_
  exact G.retFc v hov 2 rfl rfl rfl rfl rfl (fun w hh => hh.pick [0] rfl)
theorem toShelfS_any {v : Value} {l : List (ShelfM × Value)} (w : World) (h : Rd w v 5 (l.map ShelfM.cells)) (hs : Subs w ShelfM.l l) (hl : tot ShelfM.l l ≤ 1048576) : Fn Try.prog 50 [v] w (fun x : Value × List (ShelfM × Value) => x.1.oneCell' = true ∧ x.2.map Prod.fst = l.map Prod.fst) (fun x => x.1) (fun x => [.grp 3 1 (x.2.map (sub ShelfM.l)), .row x.1 63 5 (x.2.map ShelfM.cells)]) := by
  have hln : (l.map ShelfM.cells).length = l.length := by simp
  have htl := tot_len (f := ShelfM.l) (ts := l)
  refine Fn.of (n := 23) Try.func50 rfl rfl ?_
  refine G.seq ?_
  refine G.region ?_
  refine G.v (rv_assign rfl) rfl ?_
  refine G.done ?_
  refine G.thenN ?_
  refine G.seq ?_
  refine G.region ?_
  refine G.v (rv_move rfl) rfl ?_
  refine G.v (rv_len rfl (by exact Rd.stays (by assumption))) rfl ?_
  refine G.op (og_make rfl rfl rfl rfl rfl (by simp; omega) (by simp; omega)) rfl (fun v _ => ?_)
  refine G.v (rv_assign rfl) rfl ?_
  refine G.done ?_
  refine G.thenN ?_
  refine G.seq ?_
  refine G.seq ?_
  refine G.region ?_
  refine G.v (rv_assign rfl) rfl ?_
  refine G.done ?_
  refine G.thenN ?_
  refine G.block ?_
  -- loop 0: turned [4], kept [0, 3]
  refine G.heap (fun w hh => hh.nilGrp 3 1) ?_
  refine G.loopK (ι := List (ShelfM × Value)) (ks := [0, 3]) (fun d => [(4, .int .i64 d.length)]) (fun d => [.grp 3 1 (d.map (sub ShelfM.l)), .row v 63 5 (fillUp ShelfM.cells ShelfM.z (l.map ShelfM.cells).length d)]) (fun d => d.length ≤ l.length ∧ d.map Prod.fst = (l.take d.length).map Prod.fst) (fun d => l.length - d.length) [] (.cons rfl (.cons rfl (.nil))) rfl ?_ ?_ ?_
  · exact ⟨Nat.zero_le _, rfl⟩
  · exact ⟨rfl, trivial⟩
  rintro d ⟨hk, hd⟩
  by_cases hlt : d.length < l.length
  case' pos => (obtain ⟨b, hb⟩ := get_of_lt hlt; have he := get_map hb ShelfM.cells; have hf := fillUp_get (c := ShelfM.cells) (z := ShelfM.z) (Nat.lt_of_lt_of_eq hlt hln.symm))
  all_goals
   refine G.seq ?_
   refine G.seq ?_
   refine G.region ?_
   refine G.v (rv_move rfl) rfl ?_
   refine G.v (rv_move rfl) rfl ?_
   refine G.v (rv_len rfl (by exact Rd.stays (by assumption))) rfl ?_
   refine G.v (rv_lss rfl rfl) rfl ?_
   refine G.done ?_
   refine G.thenN ?_
   refine G.cond rfl (fun hc => ?_) (fun hc => ?_)
   · try exact Bool.noConfusion hc
     all_goals
      try replace hc := of_decide_eq_true hc
      try simp only [List.length_map] at hc
      try (exfalso; omega)
      all_goals
       refine G.skip ?_
       refine G.thenN ?_
       refine G.seq ?_
       refine G.block ?_
       refine G.region ?_
       refine G.v (rv_move rfl) rfl ?_
       refine G.v (rv_move rfl) rfl ?_
       refine G.v (rv_move rfl) rfl ?_
       refine G.v (rv_move rfl) rfl ?_
       (refine G.v (rv_indexH rfl rfl (by exact Rd.stays (by assumption)) rfl (by assumption)) rfl ?_)
       (refine G.v (rv_loadEW rfl (by exact Rd.stays (by assumption)) (by assumption) rfl) rfl ?_)
       (first | (refine G.op (og_callF1 rfl rfl (fun w hh => toShelf_any b w (Rd.stays (hs.at hb) _ hh) (by have := tot_elt (f := ShelfM.l) hb; omega))) rfl ?_; rintro u hou; try dsimp only) | (refine G.op (og_callF2 rfl rfl (fun w hh => toShelf_any b w (Rd.stays (hs.at hb) _ hh) (by have := tot_elt (f := ShelfM.l) hb; omega))) rfl ?_; rintro u hou; try dsimp only) | (refine G.op (og_callF3 rfl rfl (fun w hh => toShelf_any b w (Rd.stays (hs.at hb) _ hh) (by have := tot_elt (f := ShelfM.l) hb; omega))) rfl ?_; rintro u hou; try dsimp only) | (refine G.op (og_callF0 rfl rfl (fun w hh => toShelf_any b w (Rd.stays (hs.at hb) _ hh) (by have := tot_elt (f := ShelfM.l) hb; omega))) rfl ?_; rintro u hou; try dsimp only) | (refine G.op (og_callF rfl rfl (fun w hh => toShelf_any b w (Rd.stays (hs.at hb) _ hh) (by have := tot_elt (f := ShelfM.l) hb; omega))) rfl ?_; rintro u hou; try dsimp only))
       (refine G.v (rv_indexH rfl rfl (by exact Rd.owned 2 rfl) rfl (by assumption)) rfl ?_)
       (refine G.op0 (og_stE2 rfl rfl rfl (by assumption) rfl rfl (by repeat (first | rfl | refine one_cons (by assumption) ?_)) rfl (.zero (.cons (.cons (.cons (.cons (.cons .nil))))))) (fun _ _ => ?_))
       refine G.done ?_
       refine G.inN ?_
       refine G.thenN ?_
       refine G.region ?_
       refine G.v (rv_move rfl) rfl ?_
       (refine G.v (rv_incr rfl rfl (by omega)) rfl ?_)
       refine G.v (rv_assign rfl) rfl ?_
       refine G.done ?_
       refine G.heap (H' := [.grp 3 1 ((d ++ [(b.1, u)]).map (sub ShelfM.l)), .row v 63 5 (fillUp ShelfM.cells ShelfM.z (l.map ShelfM.cells).length (d ++ [(b.1, u)]))]) (fun w hh => by have := hh.push; rw [← fillUp_set (Nat.lt_of_lt_of_eq hlt hln.symm), List.map_append]; exact this) ?_
       refine G.backK (d ++ [(b.1, u)]) 0 rfl (.cons rfl (.cons rfl (.nil))) ?_ ?_ ?_
       · exact ⟨congrArg (fun z => some (Value.int .i64 z)) (by simp), trivial⟩
       · exact ⟨by simp; omega, fst_next hd hb rfl⟩
       · simp; omega
   · try exact Bool.noConfusion hc
     all_goals
      try replace hc := of_decide_eq_false hc
      try simp only [List.length_map] at hc
      try (exfalso; omega)
      all_goals
       refine G.exit ?_
       refine G.thenX ?_
       refine G.thenX ?_
       refine G.inX ?_
       refine G.thenN ?_
       refine G.seq ?_
       refine G.region ?_
       refine G.v (rv_move rfl) rfl ?_
       refine G.v (rv_assign rfl) rfl ?_
       refine G.done ?_
       refine G.thenN ?_
       refine G.ret ?_
       refine G.know (fun w hw => (Rd.owned 1 rfl w hw).one_) (fun hone => G.retF (v, d) ⟨hone, by rw [hd, take_all hlt]⟩ rfl rfl rfl (fun w hw => by rw [fillUp_all (by omega)] at hw; exact hw))
theorem eqShelf_any (a b : ShelfM × Value) (w : World) (h : Rd w a.2 1 (a.1.l.map icell)) (h2 : Rd w b.2 1 (b.1.l.map icell)) : FnV Try.prog 107 [.agg (ShelfM.cells a).toArray, .agg (ShelfM.cells b).toArray] w (.bool (decide (a.1 = b.1))) := by
  have hx := ShelfM.eq_iff
  obtain ⟨a, va⟩ := a
  obtain ⟨b, vb⟩ := b
  refine FnV.of (n := 31) Try.func107 rfl rfl ?_
  refine G.seq ?_
  refine G.region ?_
  refine G.op (og_box rfl rfl) rfl (fun bk2 _ => ?_)
  refine G.op (og_box rfl rfl) rfl (fun bk3 _ => ?_)
  refine G.v (rv_assign rfl) rfl ?_
  refine G.done ?_
  refine G.thenN ?_
  refine G.seq ?_
  refine G.seq ?_
  refine G.region ?_
  (refine G.v (rv_field rfl) rfl ?_)
  (refine G.v (rv_load1 1 rfl rfl rfl) rfl ?_)
  (refine G.v (rv_field rfl) rfl ?_)
  (refine G.v (rv_load1 0 rfl rfl rfl) rfl ?_)
  refine G.op (og_callV rfl rfl (fun w hh => eqIntS_any w (by exact Rd.stays (by assumption) _ hh) (by exact Rd.stays (by assumption) _ hh))) rfl (fun _ _ => ?_)
  refine G.v (rv_not rfl) rfl ?_
  refine G.done ?_
  refine G.thenN ?_
  refine G.cond rfl (fun hc => ?_) (fun hc => ?_)
  · try exact Bool.noConfusion hc
    all_goals
     try replace hc := of_decide_eq_true hc
     try (exfalso; contradiction)
     all_goals
      refine G.seq ?_
      refine G.region ?_
      refine G.v (rv_assign rfl) rfl ?_
      refine G.done ?_
      refine G.thenN ?_
      refine G.ret ?_
      refine G.thenR ?_
      refine G.retFV rfl rfl (congrArg Value.bool ?_); simp_all
  · try exact Bool.noConfusion hc
    all_goals
     try replace hc := of_decide_eq_false hc
     try (exfalso; contradiction)
     all_goals
      refine G.skip ?_
      refine G.thenN ?_
      refine G.seq ?_
      refine G.seq ?_
      refine G.region ?_
      (refine G.v (rv_field rfl) rfl ?_)
      (refine G.v (rv_load1 1 rfl rfl rfl) rfl ?_)
      (refine G.v (rv_field rfl) rfl ?_)
      (refine G.v (rv_load1 0 rfl rfl rfl) rfl ?_)
      refine G.v (rv_neq rfl rfl) rfl ?_
      refine G.done ?_
      refine G.thenN ?_
      refine G.cond rfl (fun hc => ?_) (fun hc => ?_)
      · try exact Bool.noConfusion hc
        all_goals
         try replace hc := of_decide_eq_true hc
         try (exfalso; contradiction)
         all_goals
          refine G.seq ?_
          refine G.region ?_
          refine G.v (rv_assign rfl) rfl ?_
          refine G.done ?_
          refine G.thenN ?_
          refine G.ret ?_
          refine G.thenR ?_
          refine G.retFV rfl rfl (congrArg Value.bool ?_); simp_all
      · try exact Bool.noConfusion hc
        all_goals
         try replace hc := of_decide_eq_false hc
         try (exfalso; contradiction)
         all_goals
          refine G.skip ?_
          refine G.thenN ?_
          refine G.seq ?_
          refine G.seq ?_
          refine G.region ?_
          (refine G.v (rv_field rfl) rfl ?_)
          (refine G.v (rv_load1 1 rfl rfl rfl) rfl ?_)
          (refine G.v (rv_field rfl) rfl ?_)
          (refine G.v (rv_load1 0 rfl rfl rfl) rfl ?_)
          refine G.v (rv_neq rfl rfl) rfl ?_
          refine G.done ?_
          refine G.thenN ?_
          refine G.cond rfl (fun hc => ?_) (fun hc => ?_)
          · try exact Bool.noConfusion hc
            all_goals
             try replace hc := of_decide_eq_true hc
             try (exfalso; contradiction)
             all_goals
              refine G.seq ?_
              refine G.region ?_
              refine G.v (rv_assign rfl) rfl ?_
              refine G.done ?_
              refine G.thenN ?_
              refine G.ret ?_
              refine G.thenR ?_
              refine G.retFV rfl rfl (congrArg Value.bool ?_); simp_all
          · try exact Bool.noConfusion hc
            all_goals
             try replace hc := of_decide_eq_false hc
             try (exfalso; contradiction)
             all_goals
              refine G.skip ?_
              refine G.thenN ?_
              refine G.seq ?_
              refine G.seq ?_
              refine G.region ?_
              (refine G.v (rv_field rfl) rfl ?_)
              (refine G.v (rv_load1 1 rfl rfl rfl) rfl ?_)
              (refine G.v (rv_field rfl) rfl ?_)
              (refine G.v (rv_load1 0 rfl rfl rfl) rfl ?_)
              refine G.v (rv_neq rfl rfl) rfl ?_
              refine G.done ?_
              refine G.thenN ?_
              refine G.cond rfl (fun hc => ?_) (fun hc => ?_)
              · try exact Bool.noConfusion hc
                all_goals
                 try replace hc := of_decide_eq_true hc
                 try (exfalso; contradiction)
                 all_goals
                  refine G.seq ?_
                  refine G.region ?_
                  refine G.v (rv_assign rfl) rfl ?_
                  refine G.done ?_
                  refine G.thenN ?_
                  refine G.ret ?_
                  refine G.thenR ?_
                  refine G.retFV rfl rfl (congrArg Value.bool ?_); simp_all
              · try exact Bool.noConfusion hc
                all_goals
                 try replace hc := of_decide_eq_false hc
                 try (exfalso; contradiction)
                 all_goals
                  refine G.skip ?_
                  refine G.thenN ?_
                  refine G.seq ?_
                  refine G.seq ?_
                  refine G.region ?_
                  (refine G.v (rv_field rfl) rfl ?_)
                  (refine G.v (rv_load1 1 rfl rfl rfl) rfl ?_)
                  (refine G.v (rv_field rfl) rfl ?_)
                  (refine G.v (rv_load1 0 rfl rfl rfl) rfl ?_)
                  refine G.v (rv_neq rfl rfl) rfl ?_
                  refine G.done ?_
                  refine G.thenN ?_
                  refine G.cond rfl (fun hc => ?_) (fun hc => ?_)
                  · try exact Bool.noConfusion hc
                    all_goals
                     try replace hc := of_decide_eq_true hc
                     try (exfalso; contradiction)
                     all_goals
                      refine G.seq ?_
                      refine G.region ?_
                      refine G.v (rv_assign rfl) rfl ?_
                      refine G.done ?_
                      refine G.thenN ?_
                      refine G.ret ?_
                      refine G.thenR ?_
                      refine G.retFV rfl rfl (congrArg Value.bool ?_); simp_all
                  · try exact Bool.noConfusion hc
                    all_goals
                     try replace hc := of_decide_eq_false hc
                     try (exfalso; contradiction)
                     all_goals
                      refine G.skip ?_
                      refine G.thenN ?_
                      refine G.seq ?_
                      refine G.region ?_
                      refine G.v (rv_assign rfl) rfl ?_
                      refine G.done ?_
                      refine G.thenN ?_
                      refine G.ret ?_
                      refine G.retFV rfl rfl (congrArg Value.bool ?_); simp_all
theorem eqShelfS_any {u v : Value} {xs ys : List (ShelfM × Value)} (w : World) (h : Rd w u 5 (xs.map ShelfM.cells)) (hs : Subs w ShelfM.l xs) (h2 : Rd w v 5 (ys.map ShelfM.cells)) (hs2 : Subs w ShelfM.l ys) : FnV Try.prog 51 [u, v] w (.bool (decide (xs.map Prod.fst = ys.map Prod.fst))) := by
  have hle := h.le_map
  have hln : (xs.map ShelfM.cells).length = xs.length := by simp
  have hln2 : (ys.map ShelfM.cells).length = ys.length := by simp
  have hln3 : (xs.map Prod.fst).length = xs.length := by simp
  have hln4 : (ys.map Prod.fst).length = ys.length := by simp
  refine FnV.of (n := 27) Try.func51 rfl rfl ?_
  refine G.seq ?_
  refine G.region ?_
  refine G.v (rv_assign rfl) rfl ?_
  refine G.done ?_
  refine G.thenN ?_
  refine G.seq ?_
  refine G.seq ?_
  refine G.region ?_
  refine G.v (rv_move rfl) rfl ?_
  refine G.v (rv_len rfl (by exact Rd.stays (by assumption))) rfl ?_
  refine G.v (rv_move rfl) rfl ?_
  refine G.v (rv_len rfl (by exact Rd.stays (by assumption))) rfl ?_
  refine G.v (rv_neq rfl rfl) rfl ?_
  refine G.done ?_
  refine G.thenN ?_
  refine G.cond rfl (fun hc => ?_) (fun hc => ?_)
  · try exact Bool.noConfusion hc
    all_goals
     try replace hc := of_decide_eq_true hc
     try (exfalso; contradiction)
     all_goals
      refine G.seq ?_
      refine G.region ?_
      refine G.v (rv_assign rfl) rfl ?_
      refine G.done ?_
      refine G.thenN ?_
      refine G.ret ?_
      refine G.thenR ?_
      (exact G.retFV rfl rfl (congrArg Value.bool (by rw [eq_comm, decide_eq_false]; intro hq; have := congrArg List.length hq; omega)))
  · try exact Bool.noConfusion hc
    all_goals
     try replace hc := of_decide_eq_false hc
     try (exfalso; contradiction)
     all_goals
      refine G.skip ?_
      refine G.thenN ?_
      refine G.seq ?_
      refine G.seq ?_
      refine G.region ?_
      refine G.v (rv_assign rfl) rfl ?_
      refine G.done ?_
      refine G.thenN ?_
      refine G.block ?_
      -- loop 0: turned [5], kept [0, 1]
      refine G.loopK (ι := Nat) (ks := [0, 1]) (fun k => [(5, .int .i64 k)]) (fun _ => []) (fun k => k ≤ xs.length ∧ (xs.map Prod.fst).take k = (ys.map Prod.fst).take k) (fun k => xs.length - k) 0 (.cons rfl (.cons rfl (.nil))) rfl ?_ ?_ ?_
      · exact ⟨Nat.zero_le _, rfl⟩
      · exact ⟨rfl, trivial⟩
      rintro k ⟨hk, ht⟩
      by_cases hlt : k < xs.length
      case' pos => (obtain ⟨a, ha⟩ := get_of_lt hlt; obtain ⟨b, hb⟩ := get_of_lt (l := ys) (k := k) (by omega); have he := get_map ha ShelfM.cells; have he2 := get_map hb ShelfM.cells; have hab := fst_get ha hb)
      all_goals
       refine G.seq ?_
       refine G.seq ?_
       refine G.region ?_
       refine G.v (rv_move rfl) rfl ?_
       refine G.v (rv_move rfl) rfl ?_
       refine G.v (rv_len rfl (by exact Rd.stays (by assumption))) rfl ?_
       refine G.v (rv_lss rfl rfl) rfl ?_
       refine G.done ?_
       refine G.thenN ?_
       refine G.cond rfl (fun hc => ?_) (fun hc => ?_)
       · try exact Bool.noConfusion hc
         all_goals
          try replace hc := of_decide_eq_true hc
          try (exfalso; omega)
          all_goals
           refine G.skip ?_
           refine G.thenN ?_
           refine G.seq ?_
           refine G.block ?_
           refine G.seq ?_
           refine G.drawL [] ?_
           refine GE.q 0 rfl (by kernel_rfl) rfl (qg_runs (rv_move rfl)) rfl ?_
           refine GE.q 1 rfl (by kernel_rfl) rfl (qg_runs (rv_move rfl)) rfl ?_
           (refine GE.q 2 rfl (by kernel_rfl) rfl (qg_runs (rv_indexH rfl rfl (by exact Rd.stays (by assumption)) rfl (by assumption))) rfl ?_)
           (refine GE.q 3 rfl (by kernel_rfl) rfl (qg_runs (rv_loadEW rfl (by exact Rd.stays (by assumption)) (by assumption) rfl)) rfl ?_)
           refine GE.q 4 rfl (by kernel_rfl) rfl (qg_runs (rv_move rfl)) rfl ?_
           refine GE.ol 5 (by kernel_rfl) rfl rfl (og_runs (rv_move rfl)) rfl (fun _ _ h => by exact h) (fun _ _ => ?_)
           (refine GE.ol 6 (by kernel_rfl) rfl rfl (og_runs (rv_indexH rfl rfl (by exact Rd.stays (by assumption)) rfl (by assumption))) rfl (fun _ _ h => by exact h) (fun _ _ => ?_))
           (refine GE.ol 7 (by kernel_rfl) rfl rfl (og_runs (rv_loadEW rfl (by exact Rd.stays (by assumption)) (by assumption) rfl)) rfl (fun _ _ h => by exact h) (fun _ _ => ?_))
           refine GE.ol 8 (by kernel_rfl) rfl rfl (og_callV rfl rfl (fun w hh => eqShelf_any a b w (Rd.stays (hs.at ha) _ hh) (Rd.stays (hs2.at hb) _ hh))) rfl (fun _ _ h => by exact h) (fun _ _ => ?_)
           refine GE.ol 9 (by kernel_rfl) rfl rfl (og_runs (rv_not rfl)) rfl (fun _ _ h => by exact h) (fun _ _ => ?_)
           refine GE.done (by kernel_rfl) ?_
           refine G.thenN ?_
           refine G.cond rfl (fun hc => ?_) (fun hc => ?_)
           · try exact Bool.noConfusion hc
             all_goals
              try replace hc := of_decide_eq_true hc
              try (exfalso; contradiction)
              all_goals
               refine G.seq ?_
               refine G.region ?_
               refine G.v (rv_assign rfl) rfl ?_
               refine G.done ?_
               refine G.thenN ?_
               refine G.ret ?_
               refine G.inR ?_
               refine G.thenR ?_
               refine G.thenR ?_
               refine G.inR ?_
               refine G.thenR ?_
               exact G.retFV rfl rfl (eqS_elt hab.1 hab.2 hc)
           · try exact Bool.noConfusion hc
             all_goals
              try replace hc := of_decide_eq_false hc
              try (exfalso; contradiction)
              all_goals
               refine G.skip ?_
               refine G.inN ?_
               refine G.thenN ?_
               refine G.region ?_
               refine G.v (rv_move rfl) rfl ?_
               (refine G.v (rv_incr rfl rfl (by omega)) rfl ?_)
               refine G.v (rv_assign rfl) rfl ?_
               refine G.done ?_
               refine G.backK (k + 1) 0 rfl (.cons rfl (.cons rfl (.nil))) ?_ ?_ ?_
               · exact ⟨rfl, trivial⟩
               · exact ⟨hlt, eqS_next ht hab.1 hab.2 hc⟩
               · omega
       · try exact Bool.noConfusion hc
         all_goals
          try replace hc := of_decide_eq_false hc
          try (exfalso; omega)
          all_goals
           refine G.exit ?_
           refine G.thenX ?_
           refine G.thenX ?_
           refine G.inX ?_
           refine G.thenN ?_
           refine G.seq ?_
           refine G.region ?_
           refine G.v (rv_assign rfl) rfl ?_
           refine G.done ?_
           refine G.thenN ?_
           refine G.ret ?_
           exact G.retFV rfl rfl (eqS_all ht (by omega) (by omega))

theorem szLayer_any (a : LayerM × Value) (left : Int) (w : World) (h : Rd w a.2 1 (a.1.l.map icell)) (h0 : 0 ≤ left) (h1 : left ≤ 1048576) : FnV Try.prog 100 [.agg (LayerM.cells a).toArray, .int .i64 left] w (.int .i64 (szM a.1.l.length left)) := by
  refine FnV.of (n := 12) Try.func100 rfl rfl ?_
  refine G.seq ?_
  refine G.region ?_
  refine G.op (og_box rfl rfl) rfl (fun bk2 _ => ?_)
  refine G.v (rv_assign rfl) rfl ?_
  refine G.done ?_
  refine G.thenN ?_
  refine G.seq ?_
  refine G.region ?_
  (refine G.v (rv_field rfl) rfl ?_)
  refine G.v (rv_load1 0 rfl rfl rfl) rfl ?_
  refine G.v (rv_move rfl) rfl ?_
  refine G.op (og_callV rfl rfl (fun w hh => szIntS_any _ w (by exact Rd.stays (by assumption) _ hh) (by (try simp only [szM] at *); omega) (by (try simp only [szM] at *); omega))) rfl (fun _ _ => ?_)
  refine G.v (rv_assign rfl) rfl ?_
  refine G.done ?_
  refine G.thenN ?_
  refine G.seq ?_
  refine G.seq ?_
  refine G.region ?_
  refine G.v (rv_move rfl) rfl ?_
  refine G.v (rv_lss rfl rfl) rfl ?_
  refine G.done ?_
  refine G.thenN ?_
  refine G.cond rfl (fun hc => ?_) (fun hc => ?_)
  · try exact Bool.noConfusion hc
    all_goals
     try replace hc := of_decide_eq_true hc
     try (exfalso; contradiction)
     all_goals
      refine G.seq ?_
      refine G.region ?_
      refine G.v (rv_assign rfl) rfl ?_
      refine G.done ?_
      refine G.thenN ?_
      refine G.ret ?_
      refine G.thenR ?_
      exact G.retFV rfl rfl (congrArg (Value.int .i64) (by simp only [szM] at * <;> omega))
  · try exact Bool.noConfusion hc
    all_goals
     try replace hc := of_decide_eq_false hc
     try (exfalso; contradiction)
     all_goals
      refine G.skip ?_
      refine G.thenN ?_
      refine G.seq ?_
      refine G.region ?_
      refine G.v (rv_move rfl) rfl ?_
      refine G.v (rv_assign rfl) rfl ?_
      refine G.done ?_
      refine G.thenN ?_
      refine G.ret ?_
      exact G.retFV rfl rfl (congrArg (Value.int .i64) (by simp only [szM] at * <;> omega))
theorem szLayerS_any {v : Value} {l : List (LayerM × Value)} (left : Int) (w : World) (h : Rd w v 4 (l.map LayerM.cells)) (hs : Subs w LayerM.l l) (h0 : 0 ≤ left) (h1 : left ≤ 1048576) : FnV Try.prog 40 [v, .int .i64 left] w (.int .i64 (szM (tot LayerM.l l) left)) := by
  have hle := h.le_map
  have hln : ((l.map LayerM.cells).length : Int) = l.length := by simp
  have htl := tot_take LayerM.l l
  have htot : tot LayerM.l l = l.length + (l.map fun t => t.1.l.length).sum := rfl
  refine FnV.of (n := 27) Try.func40 rfl rfl ?_
  refine G.seq ?_
  refine G.region ?_
  refine G.v (rv_assign rfl) rfl ?_
  refine G.done ?_
  refine G.thenN ?_
  refine G.seq ?_
  refine G.region ?_
  refine G.v (rv_move rfl) rfl ?_
  refine G.v (rv_move rfl) rfl ?_
  refine G.v (rv_len rfl (by exact Rd.stays (by assumption))) rfl ?_
  (refine G.v (rv_subB rfl rfl (by omega) (by omega)) rfl ?_)
  refine G.v (rv_assign rfl) rfl ?_
  refine G.done ?_
  refine G.thenN ?_
  refine G.seq ?_
  refine G.seq ?_
  refine G.region ?_
  refine G.v (rv_move rfl) rfl ?_
  refine G.v (rv_lss rfl rfl) rfl ?_
  refine G.done ?_
  refine G.thenN ?_
  refine G.cond rfl (fun hc => ?_) (fun hc => ?_)
  · try exact Bool.noConfusion hc
    all_goals
     try replace hc := of_decide_eq_true hc
     try (exfalso; contradiction)
     all_goals
      refine G.seq ?_
      refine G.region ?_
      refine G.v (rv_assign rfl) rfl ?_
      refine G.done ?_
      refine G.thenN ?_
      refine G.ret ?_
      refine G.thenR ?_
      exact G.retFV rfl rfl (congrArg (Value.int .i64) (by simp only [szM] at * <;> omega))
  · try exact Bool.noConfusion hc
    all_goals
     try replace hc := of_decide_eq_false hc
     try (exfalso; contradiction)
     all_goals
      refine G.skip ?_
      refine G.thenN ?_
      refine G.seq ?_
      refine G.seq ?_
      refine G.region ?_
      refine G.v (rv_assign rfl) rfl ?_
      refine G.done ?_
      refine G.thenN ?_
      refine G.block ?_
      -- loop 0: turned [1, 5], kept [0]
      refine G.loopK (ι := Nat) (ks := [0]) (fun k => [(1, .int .i64 (left - l.length - ((l.take k).map fun t => t.1.l.length).sum)), (5, .int .i64 k)]) (fun _ => []) (fun k => k ≤ l.length ∧ (0:Int) ≤ left - l.length - ((l.take k).map fun t => t.1.l.length).sum) (fun k => l.length - k) 0 (.cons rfl (.nil)) rfl ?_ ?_ ?_
      · exact ⟨Nat.zero_le _, by simp; omega⟩
      · exact ⟨by simp; rfl, rfl, trivial⟩
      rintro k ⟨hk, hpos⟩
      by_cases hlt : k < l.length
      case' pos => (obtain ⟨b, hb⟩ := get_of_lt hlt; have he := get_map hb LayerM.cells; have hn := tot_next LayerM.l hb; have hn2 := htl (k + 1))
      case' neg => (have hn4 : ((l.take k).map fun t => t.1.l.length).sum = (l.map fun t => t.1.l.length).sum := by rw [take_all hlt])
      all_goals
       refine G.seq ?_
       refine G.seq ?_
       refine G.region ?_
       refine G.v (rv_move rfl) rfl ?_
       refine G.v (rv_move rfl) rfl ?_
       refine G.v (rv_len rfl (by exact Rd.stays (by assumption))) rfl ?_
       refine G.v (rv_lss rfl rfl) rfl ?_
       refine G.done ?_
       refine G.thenN ?_
       refine G.cond rfl (fun hc => ?_) (fun hc => ?_)
       · try exact Bool.noConfusion hc
         all_goals
          try replace hc := of_decide_eq_true hc
          try (exfalso; omega)
          all_goals
           refine G.skip ?_
           refine G.thenN ?_
           refine G.seq ?_
           refine G.block ?_
           refine G.seq ?_
           refine G.region ?_
           refine G.v (rv_move rfl) rfl ?_
           refine G.v (rv_move rfl) rfl ?_
           (refine G.v (rv_indexH rfl rfl (by exact Rd.stays (by assumption)) rfl (by assumption)) rfl ?_)
           (refine G.v (rv_loadEW rfl (by exact Rd.stays (by assumption)) (by assumption) rfl) rfl ?_)
           refine G.v (rv_move rfl) rfl ?_
           refine G.op (og_callV rfl rfl (fun w hh => szLayer_any b _ w (Rd.stays (hs.at hb) _ hh) (by omega) (by omega))) rfl (fun _ _ => ?_)
           refine G.v (rv_assign rfl) rfl ?_
           refine G.done ?_
           refine G.thenN ?_
           refine G.seq ?_
           refine G.region ?_
           refine G.v (rv_move rfl) rfl ?_
           refine G.v (rv_lss rfl rfl) rfl ?_
           refine G.done ?_
           refine G.thenN ?_
           refine G.cond rfl (fun hc => ?_) (fun hc => ?_)
           · try exact Bool.noConfusion hc
             all_goals
              try replace hc := of_decide_eq_true hc
              try (exfalso; contradiction)
              all_goals
               refine G.seq ?_
               refine G.region ?_
               refine G.v (rv_assign rfl) rfl ?_
               refine G.done ?_
               refine G.thenN ?_
               refine G.ret ?_
               refine G.inR ?_
               refine G.thenR ?_
               refine G.thenR ?_
               refine G.inR ?_
               refine G.thenR ?_
               exact G.retFV rfl rfl (congrArg (Value.int .i64) (by simp only [szM] at * <;> omega))
           · try exact Bool.noConfusion hc
             all_goals
              try replace hc := of_decide_eq_false hc
              try (exfalso; contradiction)
              all_goals
               refine G.skip ?_
               refine G.inN ?_
               refine G.thenN ?_
               refine G.region ?_
               refine G.v (rv_move rfl) rfl ?_
               (refine G.v (rv_incr rfl rfl (by omega)) rfl ?_)
               refine G.v (rv_assign rfl) rfl ?_
               refine G.done ?_
               refine G.backK (k + 1) 0 rfl (.cons rfl (.nil)) ?_ ?_ ?_
               · exact ⟨congrArg (fun z => some (Value.int .i64 z)) (by simp only [szM] at * <;> omega), rfl, trivial⟩
               · exact ⟨hlt, by simp only [szM] at *; omega⟩
               · omega
       · try exact Bool.noConfusion hc
         all_goals
          try replace hc := of_decide_eq_false hc
          try (exfalso; omega)
          all_goals
           refine G.exit ?_
           refine G.thenX ?_
           refine G.thenX ?_
           refine G.inX ?_
           refine G.thenN ?_
           refine G.seq ?_
           refine G.region ?_
           refine G.v (rv_move rfl) rfl ?_
           refine G.v (rv_assign rfl) rfl ?_
           refine G.done ?_
           refine G.thenN ?_
           refine G.ret ?_
           exact G.retFV rfl rfl (congrArg (Value.int .i64) (by simp only [szM] at * <;> omega))
theorem toLayer_any (a : LayerM × Value) (w : World) (h : Rd w a.2 1 (a.1.l.map icell)) (hl : a.1.l.length ≤ 1048576) : Fn Try.prog 102 [.agg (LayerM.cells a).toArray] w (fun v : Value => v.oneCell' = true) (fun v => .agg (LayerM.cells (a.1, v)).toArray) (fun v => [.row v 3 1 (a.1.l.map icell)]) := by
  refine Fn.of (n := 18) Try.func102 rfl rfl ?_
  refine G.seq ?_
  refine G.region ?_
  refine G.op (og_box rfl rfl) rfl (fun bk1 _ => ?_)
  refine G.op (og_alloc) rfl (fun bk2 _ => ?_)
  refine G.done ?_
  refine G.thenN ?_
  refine G.seq ?_
  refine G.region ?_
  refine G.op (og_alloc) rfl (fun bk3 _ => ?_)
  refine G.done ?_
  refine G.thenN ?_
  refine G.seq ?_
  refine G.region ?_
  (refine G.v (rv_field rfl) rfl ?_)
  (refine G.v (rv_load1 2 rfl rfl rfl) rfl ?_)
  (first | (refine G.op (og_callF1 rfl rfl (fun w hh => toIntS_any w (by first | exact Rd.stays (by assumption) _ hh | exact Rd.owned 0 rfl _ hh | exact Rd.owned 1 rfl _ hh | exact Rd.owned 2 rfl _ hh | exact Rd.owned 3 rfl _ hh | exact Rd.owned 4 rfl _ hh | exact Rd.owned 5 rfl _ hh | exact Rd.owned 6 rfl _ hh | exact Rd.owned 7 rfl _ hh | exact Rd.owned 8 rfl _ hh | exact Rd.owned 9 rfl _ hh | exact Rd.owned 10 rfl _ hh | exact Rd.owned 11 rfl _ hh | exact Rd.owned 12 rfl _ hh | exact Rd.owned 13 rfl _ hh | exact Rd.owned 14 rfl _ hh | exact Rd.owned 15 rfl _ hh) (by (try simp only [szM] at *); omega))) rfl ?_; rintro v hov; try dsimp only) | (refine G.op (og_callF2 rfl rfl (fun w hh => toIntS_any w (by first | exact Rd.stays (by assumption) _ hh | exact Rd.owned 0 rfl _ hh | exact Rd.owned 1 rfl _ hh | exact Rd.owned 2 rfl _ hh | exact Rd.owned 3 rfl _ hh | exact Rd.owned 4 rfl _ hh | exact Rd.owned 5 rfl _ hh | exact Rd.owned 6 rfl _ hh | exact Rd.owned 7 rfl _ hh | exact Rd.owned 8 rfl _ hh | exact Rd.owned 9 rfl _ hh | exact Rd.owned 10 rfl _ hh | exact Rd.owned 11 rfl _ hh | exact Rd.owned 12 rfl _ hh | exact Rd.owned 13 rfl _ hh | exact Rd.owned 14 rfl _ hh | exact Rd.owned 15 rfl _ hh) (by (try simp only [szM] at *); omega))) rfl ?_; rintro v hov; try dsimp only) | (refine G.op (og_callF3 rfl rfl (fun w hh => toIntS_any w (by first | exact Rd.stays (by assumption) _ hh | exact Rd.owned 0 rfl _ hh | exact Rd.owned 1 rfl _ hh | exact Rd.owned 2 rfl _ hh | exact Rd.owned 3 rfl _ hh | exact Rd.owned 4 rfl _ hh | exact Rd.owned 5 rfl _ hh | exact Rd.owned 6 rfl _ hh | exact Rd.owned 7 rfl _ hh | exact Rd.owned 8 rfl _ hh | exact Rd.owned 9 rfl _ hh | exact Rd.owned 10 rfl _ hh | exact Rd.owned 11 rfl _ hh | exact Rd.owned 12 rfl _ hh | exact Rd.owned 13 rfl _ hh | exact Rd.owned 14 rfl _ hh | exact Rd.owned 15 rfl _ hh) (by (try simp only [szM] at *); omega))) rfl ?_; rintro v hov; try dsimp only) | (refine G.op (og_callF0 rfl rfl (fun w hh => toIntS_any w (by first | exact Rd.stays (by assumption) _ hh | exact Rd.owned 0 rfl _ hh | exact Rd.owned 1 rfl _ hh | exact Rd.owned 2 rfl _ hh | exact Rd.owned 3 rfl _ hh | exact Rd.owned 4 rfl _ hh | exact Rd.owned 5 rfl _ hh | exact Rd.owned 6 rfl _ hh | exact Rd.owned 7 rfl _ hh | exact Rd.owned 8 rfl _ hh | exact Rd.owned 9 rfl _ hh | exact Rd.owned 10 rfl _ hh | exact Rd.owned 11 rfl _ hh | exact Rd.owned 12 rfl _ hh | exact Rd.owned 13 rfl _ hh | exact Rd.owned 14 rfl _ hh | exact Rd.owned 15 rfl _ hh) (by (try simp only [szM] at *); omega))) rfl ?_; rintro v hov; try dsimp only) | (refine G.op (og_callF rfl rfl (fun w hh => toIntS_any w (by first | exact Rd.stays (by assumption) _ hh | exact Rd.owned 0 rfl _ hh | exact Rd.owned 1 rfl _ hh | exact Rd.owned 2 rfl _ hh | exact Rd.owned 3 rfl _ hh | exact Rd.owned 4 rfl _ hh | exact Rd.owned 5 rfl _ hh | exact Rd.owned 6 rfl _ hh | exact Rd.owned 7 rfl _ hh | exact Rd.owned 8 rfl _ hh | exact Rd.owned 9 rfl _ hh | exact Rd.owned 10 rfl _ hh | exact Rd.owned 11 rfl _ hh | exact Rd.owned 12 rfl _ hh | exact Rd.owned 13 rfl _ hh | exact Rd.owned 14 rfl _ hh | exact Rd.owned 15 rfl _ hh) (by (try simp only [szM] at *); omega))) rfl ?_; rintro v hov; try dsimp only))
  (refine G.v (rv_field rfl) rfl ?_)
  (refine G.op0 (og_st1 rfl rfl rfl (cells_one (by assumption)) rfl (by repeat (first | rfl | refine one_cons (by assumption) ?_)) (.zero (.cons .nil))) (fun _ _ => ?_))
  refine G.done ?_
  refine G.thenN ?_
  refine G.seq ?_
  refine G.region ?_
  (refine G.v (rv_field rfl) rfl ?_)
  (refine G.v (rv_load1 3 rfl rfl rfl) rfl ?_)
  (refine G.v (rv_field rfl) rfl ?_)
  (refine G.op0 (og_st1 rfl rfl rfl rfl rfl rfl (.succ (.zero (.cons .nil)))) (fun _ _ => ?_))
  refine G.done ?_
  refine G.thenN ?_
  refine G.seq ?_
  refine G.region ?_
  (refine G.v (rv_field rfl) rfl ?_)
  (refine G.v (rv_load1 3 rfl rfl rfl) rfl ?_)
  (refine G.v (rv_field rfl) rfl ?_)
  (refine G.op0 (og_st1 rfl rfl rfl rfl rfl rfl (.succ (.succ (.zero (.cons .nil))))) (fun _ _ => ?_))
  refine G.done ?_
  refine G.thenN ?_
  refine G.seq ?_
  refine G.region ?_
  (refine G.v (rv_field rfl) rfl ?_)
  (refine G.v (rv_load1 3 rfl rfl rfl) rfl ?_)
  (refine G.v (rv_field rfl) rfl ?_)
  (refine G.op0 (og_st1 rfl rfl rfl rfl rfl rfl (.succ (.succ (.succ (.zero (.cons .nil)))))) (fun _ _ => ?_))
  refine G.done ?_
  refine G.thenN ?_
  refine G.seq ?_
  refine G.region ?_
  (refine G.v (rv_loadW 1 rfl rfl rfl) rfl ?_)
  (refine G.op0 (og_st2 rfl rfl rfl rfl rfl (by repeat (first | rfl | refine one_cons (by assumption) ?_)) (.zero (.cons (.cons (.cons (.cons .nil)))))) (fun _ _ => ?_))
  refine G.done ?_
  refine G.thenN ?_
  refine G.ret ?_
  exact G.retFc v hov 2 rfl rfl rfl rfl rfl (fun w hh => hh.pick [0] rfl)
theorem toLayerS_any {v : Value} {l : List (LayerM × Value)} (w : World) (h : Rd w v 4 (l.map LayerM.cells)) (hs : Subs w LayerM.l l) (hl : tot LayerM.l l ≤ 1048576) : Fn Try.prog 43 [v] w (fun x : Value × List (LayerM × Value) => x.1.oneCell' = true ∧ x.2.map Prod.fst = l.map Prod.fst) (fun x => x.1) (fun x => [.grp 3 1 (x.2.map (sub LayerM.l)), .row x.1 61 4 (x.2.map LayerM.cells)]) := by
  have hln : (l.map LayerM.cells).length = l.length := by simp
  have htl := tot_len (f := LayerM.l) (ts := l)
  refine Fn.of (n := 23) Try.func43 rfl rfl ?_
  refine G.seq ?_
  refine G.region ?_
  refine G.v (rv_assign rfl) rfl ?_
  refine G.done ?_
  refine G.thenN ?_
  refine G.seq ?_
  refine G.region ?_
  refine G.v (rv_move rfl) rfl ?_
  refine G.v (rv_len rfl (by exact Rd.stays (by assumption))) rfl ?_
  refine G.op (og_make rfl rfl rfl rfl rfl (by simp; omega) (by simp; omega)) rfl (fun v _ => ?_)
  refine G.v (rv_assign rfl) rfl ?_
  refine G.done ?_
  refine G.thenN ?_
  refine G.seq ?_
  refine G.seq ?_
  refine G.region ?_
  refine G.v (rv_assign rfl) rfl ?_
  refine G.done ?_
  refine G.thenN ?_
  refine G.block ?_
  -- loop 0: turned [4], kept [0, 3]
  refine G.heap (fun w hh => hh.nilGrp 3 1) ?_
  refine G.loopK (ι := List (LayerM × Value)) (ks := [0, 3]) (fun d => [(4, .int .i64 d.length)]) (fun d => [.grp 3 1 (d.map (sub LayerM.l)), .row v 61 4 (fillUp LayerM.cells LayerM.z (l.map LayerM.cells).length d)]) (fun d => d.length ≤ l.length ∧ d.map Prod.fst = (l.take d.length).map Prod.fst) (fun d => l.length - d.length) [] (.cons rfl (.cons rfl (.nil))) rfl ?_ ?_ ?_
  · exact ⟨Nat.zero_le _, rfl⟩
  · exact ⟨rfl, trivial⟩
  rintro d ⟨hk, hd⟩
  by_cases hlt : d.length < l.length
  case' pos => (obtain ⟨b, hb⟩ := get_of_lt hlt; have he := get_map hb LayerM.cells; have hf := fillUp_get (c := LayerM.cells) (z := LayerM.z) (Nat.lt_of_lt_of_eq hlt hln.symm))
  all_goals
   refine G.seq ?_
   refine G.seq ?_
   refine G.region ?_
   refine G.v (rv_move rfl) rfl ?_
   refine G.v (rv_move rfl) rfl ?_
   refine G.v (rv_len rfl (by exact Rd.stays (by assumption))) rfl ?_
   refine G.v (rv_lss rfl rfl) rfl ?_
   refine G.done ?_
   refine G.thenN ?_
   refine G.cond rfl (fun hc => ?_) (fun hc => ?_)
   · try exact Bool.noConfusion hc
     all_goals
      try replace hc := of_decide_eq_true hc
      try simp only [List.length_map] at hc
      try (exfalso; omega)
      all_goals
       refine G.skip ?_
       refine G.thenN ?_
       refine G.seq ?_
       refine G.block ?_
       refine G.region ?_
       refine G.v (rv_move rfl) rfl ?_
       refine G.v (rv_move rfl) rfl ?_
       refine G.v (rv_move rfl) rfl ?_
       refine G.v (rv_move rfl) rfl ?_
       (refine G.v (rv_indexH rfl rfl (by exact Rd.stays (by assumption)) rfl (by assumption)) rfl ?_)
       (refine G.v (rv_loadEW rfl (by exact Rd.stays (by assumption)) (by assumption) rfl) rfl ?_)
       (first | (refine G.op (og_callF1 rfl rfl (fun w hh => toLayer_any b w (Rd.stays (hs.at hb) _ hh) (by have := tot_elt (f := LayerM.l) hb; omega))) rfl ?_; rintro u hou; try dsimp only) | (refine G.op (og_callF2 rfl rfl (fun w hh => toLayer_any b w (Rd.stays (hs.at hb) _ hh) (by have := tot_elt (f := LayerM.l) hb; omega))) rfl ?_; rintro u hou; try dsimp only) | (refine G.op (og_callF3 rfl rfl (fun w hh => toLayer_any b w (Rd.stays (hs.at hb) _ hh) (by have := tot_elt (f := LayerM.l) hb; omega))) rfl ?_; rintro u hou; try dsimp only) | (refine G.op (og_callF0 rfl rfl (fun w hh => toLayer_any b w (Rd.stays (hs.at hb) _ hh) (by have := tot_elt (f := LayerM.l) hb; omega))) rfl ?_; rintro u hou; try dsimp only) | (refine G.op (og_callF rfl rfl (fun w hh => toLayer_any b w (Rd.stays (hs.at hb) _ hh) (by have := tot_elt (f := LayerM.l) hb; omega))) rfl ?_; rintro u hou; try dsimp only))
       (refine G.v (rv_indexH rfl rfl (by exact Rd.owned 2 rfl) rfl (by assumption)) rfl ?_)
       (refine G.op0 (og_stE2 rfl rfl rfl (by assumption) rfl rfl (by repeat (first | rfl | refine one_cons (by assumption) ?_)) rfl (.zero (.cons (.cons (.cons (.cons .nil)))))) (fun _ _ => ?_))
       refine G.done ?_
       refine G.inN ?_
       refine G.thenN ?_
       refine G.region ?_
       refine G.v (rv_move rfl) rfl ?_
       (refine G.v (rv_incr rfl rfl (by omega)) rfl ?_)
       refine G.v (rv_assign rfl) rfl ?_
       refine G.done ?_
       refine G.heap (H' := [.grp 3 1 ((d ++ [(b.1, u)]).map (sub LayerM.l)), .row v 61 4 (fillUp LayerM.cells LayerM.z (l.map LayerM.cells).length (d ++ [(b.1, u)]))]) (fun w hh => by have := hh.push; rw [← fillUp_set (Nat.lt_of_lt_of_eq hlt hln.symm), List.map_append]; exact this) ?_
       refine G.backK (d ++ [(b.1, u)]) 0 rfl (.cons rfl (.cons rfl (.nil))) ?_ ?_ ?_
       · exact ⟨congrArg (fun z => some (Value.int .i64 z)) (by simp), trivial⟩
       · exact ⟨by simp; omega, fst_next hd hb rfl⟩
       · simp; omega
   · try exact Bool.noConfusion hc
     all_goals
      try replace hc := of_decide_eq_false hc
      try simp only [List.length_map] at hc
      try (exfalso; omega)
      all_goals
       refine G.exit ?_
       refine G.thenX ?_
       refine G.thenX ?_
       refine G.inX ?_
       refine G.thenN ?_
       refine G.seq ?_
       refine G.region ?_
       refine G.v (rv_move rfl) rfl ?_
       refine G.v (rv_assign rfl) rfl ?_
       refine G.done ?_
       refine G.thenN ?_
       refine G.ret ?_
       refine G.know (fun w hw => (Rd.owned 1 rfl w hw).one_) (fun hone => G.retF (v, d) ⟨hone, by rw [hd, take_all hlt]⟩ rfl rfl rfl (fun w hw => by rw [fillUp_all (by omega)] at hw; exact hw))
theorem eqLayer_any (a b : LayerM × Value) (w : World) (h : Rd w a.2 1 (a.1.l.map icell)) (h2 : Rd w b.2 1 (b.1.l.map icell)) : FnV Try.prog 104 [.agg (LayerM.cells a).toArray, .agg (LayerM.cells b).toArray] w (.bool (decide (a.1 = b.1))) := by
  have hx := LayerM.eq_iff
  obtain ⟨a, va⟩ := a
  obtain ⟨b, vb⟩ := b
  refine FnV.of (n := 26) Try.func104 rfl rfl ?_
  refine G.seq ?_
  refine G.region ?_
  refine G.op (og_box rfl rfl) rfl (fun bk2 _ => ?_)
  refine G.op (og_box rfl rfl) rfl (fun bk3 _ => ?_)
  refine G.v (rv_assign rfl) rfl ?_
  refine G.done ?_
  refine G.thenN ?_
  refine G.seq ?_
  refine G.seq ?_
  refine G.region ?_
  (refine G.v (rv_field rfl) rfl ?_)
  (refine G.v (rv_load1 1 rfl rfl rfl) rfl ?_)
  (refine G.v (rv_field rfl) rfl ?_)
  (refine G.v (rv_load1 0 rfl rfl rfl) rfl ?_)
  refine G.op (og_callV rfl rfl (fun w hh => eqIntS_any w (by exact Rd.stays (by assumption) _ hh) (by exact Rd.stays (by assumption) _ hh))) rfl (fun _ _ => ?_)
  refine G.v (rv_not rfl) rfl ?_
  refine G.done ?_
  refine G.thenN ?_
  refine G.cond rfl (fun hc => ?_) (fun hc => ?_)
  · try exact Bool.noConfusion hc
    all_goals
     try replace hc := of_decide_eq_true hc
     try (exfalso; contradiction)
     all_goals
      refine G.seq ?_
      refine G.region ?_
      refine G.v (rv_assign rfl) rfl ?_
      refine G.done ?_
      refine G.thenN ?_
      refine G.ret ?_
      refine G.thenR ?_
      refine G.retFV rfl rfl (congrArg Value.bool ?_); simp_all
  · try exact Bool.noConfusion hc
    all_goals
     try replace hc := of_decide_eq_false hc
     try (exfalso; contradiction)
     all_goals
      refine G.skip ?_
      refine G.thenN ?_
      refine G.seq ?_
      refine G.seq ?_
      refine G.region ?_
      (refine G.v (rv_field rfl) rfl ?_)
      (refine G.v (rv_load1 1 rfl rfl rfl) rfl ?_)
      (refine G.v (rv_field rfl) rfl ?_)
      (refine G.v (rv_load1 0 rfl rfl rfl) rfl ?_)
      refine G.v (rv_neq rfl rfl) rfl ?_
      refine G.done ?_
      refine G.thenN ?_
      refine G.cond rfl (fun hc => ?_) (fun hc => ?_)
      · try exact Bool.noConfusion hc
        all_goals
         try replace hc := of_decide_eq_true hc
         try (exfalso; contradiction)
         all_goals
          refine G.seq ?_
          refine G.region ?_
          refine G.v (rv_assign rfl) rfl ?_
          refine G.done ?_
          refine G.thenN ?_
          refine G.ret ?_
          refine G.thenR ?_
          refine G.retFV rfl rfl (congrArg Value.bool ?_); simp_all
      · try exact Bool.noConfusion hc
        all_goals
         try replace hc := of_decide_eq_false hc
         try (exfalso; contradiction)
         all_goals
          refine G.skip ?_
          refine G.thenN ?_
          refine G.seq ?_
          refine G.seq ?_
          refine G.region ?_
          (refine G.v (rv_field rfl) rfl ?_)
          (refine G.v (rv_load1 1 rfl rfl rfl) rfl ?_)
          (refine G.v (rv_field rfl) rfl ?_)
          (refine G.v (rv_load1 0 rfl rfl rfl) rfl ?_)
          refine G.v (rv_neq rfl rfl) rfl ?_
          refine G.done ?_
          refine G.thenN ?_
          refine G.cond rfl (fun hc => ?_) (fun hc => ?_)
          · try exact Bool.noConfusion hc
            all_goals
             try replace hc := of_decide_eq_true hc
             try (exfalso; contradiction)
             all_goals
              refine G.seq ?_
              refine G.region ?_
              refine G.v (rv_assign rfl) rfl ?_
              refine G.done ?_
              refine G.thenN ?_
              refine G.ret ?_
              refine G.thenR ?_
              refine G.retFV rfl rfl (congrArg Value.bool ?_); simp_all
          · try exact Bool.noConfusion hc
            all_goals
             try replace hc := of_decide_eq_false hc
             try (exfalso; contradiction)
             all_goals
              refine G.skip ?_
              refine G.thenN ?_
              refine G.seq ?_
              refine G.seq ?_
              refine G.region ?_
              (refine G.v (rv_field rfl) rfl ?_)
              (refine G.v (rv_load1 1 rfl rfl rfl) rfl ?_)
              (refine G.v (rv_field rfl) rfl ?_)
              (refine G.v (rv_load1 0 rfl rfl rfl) rfl ?_)
              refine G.v (rv_neq rfl rfl) rfl ?_
              refine G.done ?_
              refine G.thenN ?_
              refine G.cond rfl (fun hc => ?_) (fun hc => ?_)
              · try exact Bool.noConfusion hc
                all_goals
                 try replace hc := of_decide_eq_true hc
                 try (exfalso; contradiction)
                 all_goals
                  refine G.seq ?_
                  refine G.region ?_
                  refine G.v (rv_assign rfl) rfl ?_
                  refine G.done ?_
                  refine G.thenN ?_
                  refine G.ret ?_
                  refine G.thenR ?_
                  refine G.retFV rfl rfl (congrArg Value.bool ?_); simp_all
              · try exact Bool.noConfusion hc
                all_goals
                 try replace hc := of_decide_eq_false hc
                 try (exfalso; contradiction)
                 all_goals
                  refine G.skip ?_
                  refine G.thenN ?_
                  refine G.seq ?_
                  refine G.region ?_
                  refine G.v (rv_assign rfl) rfl ?_
                  refine G.done ?_
                  refine G.thenN ?_
                  refine G.ret ?_
                  refine G.retFV rfl rfl (congrArg Value.bool ?_); simp_all
theorem eqLayerS_any {u v : Value} {xs ys : List (LayerM × Value)} (w : World) (h : Rd w u 4 (xs.map LayerM.cells)) (hs : Subs w LayerM.l xs) (h2 : Rd w v 4 (ys.map LayerM.cells)) (hs2 : Subs w LayerM.l ys) : FnV Try.prog 45 [u, v] w (.bool (decide (xs.map Prod.fst = ys.map Prod.fst))) := by
  have hle := h.le_map
  have hln : (xs.map LayerM.cells).length = xs.length := by simp
  have hln2 : (ys.map LayerM.cells).length = ys.length := by simp
  have hln3 : (xs.map Prod.fst).length = xs.length := by simp
  have hln4 : (ys.map Prod.fst).length = ys.length := by simp
  refine FnV.of (n := 27) Try.func45 rfl rfl ?_
  refine G.seq ?_
  refine G.region ?_
  refine G.v (rv_assign rfl) rfl ?_
  refine G.done ?_
  refine G.thenN ?_
  refine G.seq ?_
  refine G.seq ?_
  refine G.region ?_
  refine G.v (rv_move rfl) rfl ?_
  refine G.v (rv_len rfl (by exact Rd.stays (by assumption))) rfl ?_
  refine G.v (rv_move rfl) rfl ?_
  refine G.v (rv_len rfl (by exact Rd.stays (by assumption))) rfl ?_
  refine G.v (rv_neq rfl rfl) rfl ?_
  refine G.done ?_
  refine G.thenN ?_
  refine G.cond rfl (fun hc => ?_) (fun hc => ?_)
  · try exact Bool.noConfusion hc
    all_goals
     try replace hc := of_decide_eq_true hc
     try (exfalso; contradiction)
     all_goals
      refine G.seq ?_
      refine G.region ?_
      refine G.v (rv_assign rfl) rfl ?_
      refine G.done ?_
      refine G.thenN ?_
      refine G.ret ?_
      refine G.thenR ?_
      (exact G.retFV rfl rfl (congrArg Value.bool (by rw [eq_comm, decide_eq_false]; intro hq; have := congrArg List.length hq; omega)))
  · try exact Bool.noConfusion hc
    all_goals
     try replace hc := of_decide_eq_false hc
     try (exfalso; contradiction)
     all_goals
      refine G.skip ?_
      refine G.thenN ?_
      refine G.seq ?_
      refine G.seq ?_
      refine G.region ?_
      refine G.v (rv_assign rfl) rfl ?_
      refine G.done ?_
      refine G.thenN ?_
      refine G.block ?_
      -- loop 0: turned [5], kept [0, 1]
      refine G.loopK (ι := Nat) (ks := [0, 1]) (fun k => [(5, .int .i64 k)]) (fun _ => []) (fun k => k ≤ xs.length ∧ (xs.map Prod.fst).take k = (ys.map Prod.fst).take k) (fun k => xs.length - k) 0 (.cons rfl (.cons rfl (.nil))) rfl ?_ ?_ ?_
      · exact ⟨Nat.zero_le _, rfl⟩
      · exact ⟨rfl, trivial⟩
      rintro k ⟨hk, ht⟩
      by_cases hlt : k < xs.length
      case' pos => (obtain ⟨a, ha⟩ := get_of_lt hlt; obtain ⟨b, hb⟩ := get_of_lt (l := ys) (k := k) (by omega); have he := get_map ha LayerM.cells; have he2 := get_map hb LayerM.cells; have hab := fst_get ha hb)
      all_goals
       refine G.seq ?_
       refine G.seq ?_
       refine G.region ?_
       refine G.v (rv_move rfl) rfl ?_
       refine G.v (rv_move rfl) rfl ?_
       refine G.v (rv_len rfl (by exact Rd.stays (by assumption))) rfl ?_
       refine G.v (rv_lss rfl rfl) rfl ?_
       refine G.done ?_
       refine G.thenN ?_
       refine G.cond rfl (fun hc => ?_) (fun hc => ?_)
       · try exact Bool.noConfusion hc
         all_goals
          try replace hc := of_decide_eq_true hc
          try (exfalso; omega)
          all_goals
           refine G.skip ?_
           refine G.thenN ?_
           refine G.seq ?_
           refine G.block ?_
           refine G.seq ?_
           refine G.drawL [] ?_
           refine GE.q 0 rfl (by kernel_rfl) rfl (qg_runs (rv_move rfl)) rfl ?_
           refine GE.q 1 rfl (by kernel_rfl) rfl (qg_runs (rv_move rfl)) rfl ?_
           (refine GE.q 2 rfl (by kernel_rfl) rfl (qg_runs (rv_indexH rfl rfl (by exact Rd.stays (by assumption)) rfl (by assumption))) rfl ?_)
           (refine GE.q 3 rfl (by kernel_rfl) rfl (qg_runs (rv_loadEW rfl (by exact Rd.stays (by assumption)) (by assumption) rfl)) rfl ?_)
           refine GE.q 4 rfl (by kernel_rfl) rfl (qg_runs (rv_move rfl)) rfl ?_
           refine GE.ol 5 (by kernel_rfl) rfl rfl (og_runs (rv_move rfl)) rfl (fun _ _ h => by exact h) (fun _ _ => ?_)
           (refine GE.ol 6 (by kernel_rfl) rfl rfl (og_runs (rv_indexH rfl rfl (by exact Rd.stays (by assumption)) rfl (by assumption))) rfl (fun _ _ h => by exact h) (fun _ _ => ?_))
           (refine GE.ol 7 (by kernel_rfl) rfl rfl (og_runs (rv_loadEW rfl (by exact Rd.stays (by assumption)) (by assumption) rfl)) rfl (fun _ _ h => by exact h) (fun _ _ => ?_))
           refine GE.ol 8 (by kernel_rfl) rfl rfl (og_callV rfl rfl (fun w hh => eqLayer_any a b w (Rd.stays (hs.at ha) _ hh) (Rd.stays (hs2.at hb) _ hh))) rfl (fun _ _ h => by exact h) (fun _ _ => ?_)
           refine GE.ol 9 (by kernel_rfl) rfl rfl (og_runs (rv_not rfl)) rfl (fun _ _ h => by exact h) (fun _ _ => ?_)
           refine GE.done (by kernel_rfl) ?_
           refine G.thenN ?_
           refine G.cond rfl (fun hc => ?_) (fun hc => ?_)
           · try exact Bool.noConfusion hc
             all_goals
              try replace hc := of_decide_eq_true hc
              try (exfalso; contradiction)
              all_goals
               refine G.seq ?_
               refine G.region ?_
               refine G.v (rv_assign rfl) rfl ?_
               refine G.done ?_
               refine G.thenN ?_
               refine G.ret ?_
               refine G.inR ?_
               refine G.thenR ?_
               refine G.thenR ?_
               refine G.inR ?_
               refine G.thenR ?_
               exact G.retFV rfl rfl (eqS_elt hab.1 hab.2 hc)
           · try exact Bool.noConfusion hc
             all_goals
              try replace hc := of_decide_eq_false hc
              try (exfalso; contradiction)
              all_goals
               refine G.skip ?_
               refine G.inN ?_
               refine G.thenN ?_
               refine G.region ?_
               refine G.v (rv_move rfl) rfl ?_
               (refine G.v (rv_incr rfl rfl (by omega)) rfl ?_)
               refine G.v (rv_assign rfl) rfl ?_
               refine G.done ?_
               refine G.backK (k + 1) 0 rfl (.cons rfl (.cons rfl (.nil))) ?_ ?_ ?_
               · exact ⟨rfl, trivial⟩
               · exact ⟨hlt, eqS_next ht hab.1 hab.2 hc⟩
               · omega
       · try exact Bool.noConfusion hc
         all_goals
          try replace hc := of_decide_eq_false hc
          try (exfalso; omega)
          all_goals
           refine G.exit ?_
           refine G.thenX ?_
           refine G.thenX ?_
           refine G.inX ?_
           refine G.thenN ?_
           refine G.seq ?_
           refine G.region ?_
           refine G.v (rv_assign rfl) rfl ?_
           refine G.done ?_
           refine G.thenN ?_
           refine G.ret ?_
           exact G.retFV rfl rfl (eqS_all ht (by omega) (by omega))

theorem szCarton_any (a : CartonM × Value) (left : Int) (w : World) (h : Rd w a.2 1 (a.1.l.map icell)) (h0 : 0 ≤ left) (h1 : left ≤ 1048576) : FnV Try.prog 121 [.agg (CartonM.cells a).toArray, .int .i64 left] w (.int .i64 (szM a.1.l.length left)) := by
  refine FnV.of (n := 12) Try.func121 rfl rfl ?_
  refine G.seq ?_
  refine G.region ?_
  refine G.op (og_box rfl rfl) rfl (fun bk2 _ => ?_)
  refine G.v (rv_assign rfl) rfl ?_
  refine G.done ?_
  refine G.thenN ?_
  refine G.seq ?_
  refine G.region ?_
  (refine G.v (rv_field rfl) rfl ?_)
  refine G.v (rv_load1 0 rfl rfl rfl) rfl ?_
  refine G.v (rv_move rfl) rfl ?_
  refine G.op (og_callV rfl rfl (fun w hh => szIntS_any _ w (by exact Rd.stays (by assumption) _ hh) (by (try simp only [szM] at *); omega) (by (try simp only [szM] at *); omega))) rfl (fun _ _ => ?_)
  refine G.v (rv_assign rfl) rfl ?_
  refine G.done ?_
  refine G.thenN ?_
  refine G.seq ?_
  refine G.seq ?_
  refine G.region ?_
  refine G.v (rv_move rfl) rfl ?_
  refine G.v (rv_lss rfl rfl) rfl ?_
  refine G.done ?_
  refine G.thenN ?_
  refine G.cond rfl (fun hc => ?_) (fun hc => ?_)
  · try exact Bool.noConfusion hc
    all_goals
     try replace hc := of_decide_eq_true hc
     try (exfalso; contradiction)
     all_goals
      refine G.seq ?_
      refine G.region ?_
      refine G.v (rv_assign rfl) rfl ?_
      refine G.done ?_
      refine G.thenN ?_
      refine G.ret ?_
      refine G.thenR ?_
      exact G.retFV rfl rfl (congrArg (Value.int .i64) (by simp only [szM] at * <;> omega))
  · try exact Bool.noConfusion hc
    all_goals
     try replace hc := of_decide_eq_false hc
     try (exfalso; contradiction)
     all_goals
      refine G.skip ?_
      refine G.thenN ?_
      refine G.seq ?_
      refine G.region ?_
      refine G.v (rv_move rfl) rfl ?_
      refine G.v (rv_assign rfl) rfl ?_
      refine G.done ?_
      refine G.thenN ?_
      refine G.ret ?_
      exact G.retFV rfl rfl (congrArg (Value.int .i64) (by simp only [szM] at * <;> omega))
theorem szCartonS_any {v : Value} {l : List (CartonM × Value)} (left : Int) (w : World) (h : Rd w v 3 (l.map CartonM.cells)) (hs : Subs w CartonM.l l) (h0 : 0 ≤ left) (h1 : left ≤ 1048576) : FnV Try.prog 83 [v, .int .i64 left] w (.int .i64 (szM (tot CartonM.l l) left)) := by
  have hle := h.le_map
  have hln : ((l.map CartonM.cells).length : Int) = l.length := by simp
  have htl := tot_take CartonM.l l
  have htot : tot CartonM.l l = l.length + (l.map fun t => t.1.l.length).sum := rfl
  refine FnV.of (n := 27) Try.func83 rfl rfl ?_
  refine G.seq ?_
  refine G.region ?_
  refine G.v (rv_assign rfl) rfl ?_
  refine G.done ?_
  refine G.thenN ?_
  refine G.seq ?_
  refine G.region ?_
  refine G.v (rv_move rfl) rfl ?_
  refine G.v (rv_move rfl) rfl ?_
  refine G.v (rv_len rfl (by exact Rd.stays (by assumption))) rfl ?_
  (refine G.v (rv_subB rfl rfl (by omega) (by omega)) rfl ?_)
  refine G.v (rv_assign rfl) rfl ?_
  refine G.done ?_
  refine G.thenN ?_
  refine G.seq ?_
  refine G.seq ?_
  refine G.region ?_
  refine G.v (rv_move rfl) rfl ?_
  refine G.v (rv_lss rfl rfl) rfl ?_
  refine G.done ?_
  refine G.thenN ?_
  refine G.cond rfl (fun hc => ?_) (fun hc => ?_)
  · try exact Bool.noConfusion hc
    all_goals
     try replace hc := of_decide_eq_true hc
     try (exfalso; contradiction)
     all_goals
      refine G.seq ?_
      refine G.region ?_
      refine G.v (rv_assign rfl) rfl ?_
      refine G.done ?_
      refine G.thenN ?_
      refine G.ret ?_
      refine G.thenR ?_
      exact G.retFV rfl rfl (congrArg (Value.int .i64) (by simp only [szM] at * <;> omega))
  · try exact Bool.noConfusion hc
    all_goals
     try replace hc := of_decide_eq_false hc
     try (exfalso; contradiction)
     all_goals
      refine G.skip ?_
      refine G.thenN ?_
      refine G.seq ?_
      refine G.seq ?_
      refine G.region ?_
      refine G.v (rv_assign rfl) rfl ?_
      refine G.done ?_
      refine G.thenN ?_
      refine G.block ?_
      -- loop 0: turned [1, 5], kept [0]
      refine G.loopK (ι := Nat) (ks := [0]) (fun k => [(1, .int .i64 (left - l.length - ((l.take k).map fun t => t.1.l.length).sum)), (5, .int .i64 k)]) (fun _ => []) (fun k => k ≤ l.length ∧ (0:Int) ≤ left - l.length - ((l.take k).map fun t => t.1.l.length).sum) (fun k => l.length - k) 0 (.cons rfl (.nil)) rfl ?_ ?_ ?_
      · exact ⟨Nat.zero_le _, by simp; omega⟩
      · exact ⟨by simp; rfl, rfl, trivial⟩
      rintro k ⟨hk, hpos⟩
      by_cases hlt : k < l.length
      case' pos => (obtain ⟨b, hb⟩ := get_of_lt hlt; have he := get_map hb CartonM.cells; have hn := tot_next CartonM.l hb; have hn2 := htl (k + 1))
      case' neg => (have hn4 : ((l.take k).map fun t => t.1.l.length).sum = (l.map fun t => t.1.l.length).sum := by rw [take_all hlt])
      all_goals
       refine G.seq ?_
       refine G.seq ?_
       refine G.region ?_
       refine G.v (rv_move rfl) rfl ?_
       refine G.v (rv_move rfl) rfl ?_
       refine G.v (rv_len rfl (by exact Rd.stays (by assumption))) rfl ?_
       refine G.v (rv_lss rfl rfl) rfl ?_
       refine G.done ?_
       refine G.thenN ?_
       refine G.cond rfl (fun hc => ?_) (fun hc => ?_)
       · try exact Bool.noConfusion hc
         all_goals
          try replace hc := of_decide_eq_true hc
          try (exfalso; omega)
          all_goals
           refine G.skip ?_
           refine G.thenN ?_
           refine G.seq ?_
           refine G.block ?_
           refine G.seq ?_
           refine G.region ?_
           refine G.v (rv_move rfl) rfl ?_
           refine G.v (rv_move rfl) rfl ?_
           (refine G.v (rv_indexH rfl rfl (by exact Rd.stays (by assumption)) rfl (by assumption)) rfl ?_)
           (refine G.v (rv_loadEW rfl (by exact Rd.stays (by assumption)) (by assumption) rfl) rfl ?_)
           refine G.v (rv_move rfl) rfl ?_
           refine G.op (og_callV rfl rfl (fun w hh => szCarton_any b _ w (Rd.stays (hs.at hb) _ hh) (by omega) (by omega))) rfl (fun _ _ => ?_)
           refine G.v (rv_assign rfl) rfl ?_
           refine G.done ?_
           refine G.thenN ?_
           refine G.seq ?_
           refine G.region ?_
           refine G.v (rv_move rfl) rfl ?_
           refine G.v (rv_lss rfl rfl) rfl ?_
           refine G.done ?_
           refine G.thenN ?_
           refine G.cond rfl (fun hc => ?_) (fun hc => ?_)
           · try exact Bool.noConfusion hc
             all_goals
              try replace hc := of_decide_eq_true hc
              try (exfalso; contradiction)
              all_goals
               refine G.seq ?_
               refine G.region ?_
               refine G.v (rv_assign rfl) rfl ?_
               refine G.done ?_
               refine G.thenN ?_
               refine G.ret ?_
               refine G.inR ?_
               refine G.thenR ?_
               refine G.thenR ?_
               refine G.inR ?_
               refine G.thenR ?_
               exact G.retFV rfl rfl (congrArg (Value.int .i64) (by simp only [szM] at * <;> omega))
           · try exact Bool.noConfusion hc
             all_goals
              try replace hc := of_decide_eq_false hc
              try (exfalso; contradiction)
              all_goals
               refine G.skip ?_
               refine G.inN ?_
               refine G.thenN ?_
               refine G.region ?_
               refine G.v (rv_move rfl) rfl ?_
               (refine G.v (rv_incr rfl rfl (by omega)) rfl ?_)
               refine G.v (rv_assign rfl) rfl ?_
               refine G.done ?_
               refine G.backK (k + 1) 0 rfl (.cons rfl (.nil)) ?_ ?_ ?_
               · exact ⟨congrArg (fun z => some (Value.int .i64 z)) (by simp only [szM] at * <;> omega), rfl, trivial⟩
               · exact ⟨hlt, by simp only [szM] at *; omega⟩
               · omega
       · try exact Bool.noConfusion hc
         all_goals
          try replace hc := of_decide_eq_false hc
          try (exfalso; omega)
          all_goals
           refine G.exit ?_
           refine G.thenX ?_
           refine G.thenX ?_
           refine G.inX ?_
           refine G.thenN ?_
           refine G.seq ?_
           refine G.region ?_
           refine G.v (rv_move rfl) rfl ?_
           refine G.v (rv_assign rfl) rfl ?_
           refine G.done ?_
           refine G.thenN ?_
           refine G.ret ?_
           exact G.retFV rfl rfl (congrArg (Value.int .i64) (by simp only [szM] at * <;> omega))
theorem toCarton_any (a : CartonM × Value) (w : World) (h : Rd w a.2 1 (a.1.l.map icell)) (hl : a.1.l.length ≤ 1048576) : Fn Try.prog 122 [.agg (CartonM.cells a).toArray] w (fun v : Value => v.oneCell' = true) (fun v => .agg (CartonM.cells (a.1, v)).toArray) (fun v => [.row v 3 1 (a.1.l.map icell)]) := by
  refine Fn.of (n := 15) Try.func122 rfl rfl ?_
  refine G.seq ?_
  refine G.region ?_
  refine G.op (og_box rfl rfl) rfl (fun bk1 _ => ?_)
  refine G.op (og_alloc) rfl (fun bk2 _ => ?_)
  refine G.done ?_
  refine G.thenN ?_
  refine G.seq ?_
  refine G.region ?_
  refine G.op (og_alloc) rfl (fun bk3 _ => ?_)
  refine G.done ?_
  refine G.thenN ?_
  refine G.seq ?_
  refine G.region ?_
  (refine G.v (rv_field rfl) rfl ?_)
  (refine G.v (rv_load1 2 rfl rfl rfl) rfl ?_)
  (refine G.v (rv_field rfl) rfl ?_)
  (refine G.op0 (og_st0 rfl rfl rfl rfl rfl rfl (.zero (.cons .nil))) (fun _ _ => ?_))
  refine G.done ?_
  refine G.thenN ?_
  refine G.seq ?_
  refine G.region ?_
  (refine G.v (rv_field rfl) rfl ?_)
  (refine G.v (rv_load1 2 rfl rfl rfl) rfl ?_)
  (refine G.v (rv_field rfl) rfl ?_)
  (refine G.op0 (og_st0 rfl rfl rfl rfl rfl rfl (.succ (.zero (.cons .nil)))) (fun _ _ => ?_))
  refine G.done ?_
  refine G.thenN ?_
  refine G.seq ?_
  refine G.region ?_
  (refine G.v (rv_field rfl) rfl ?_)
  (refine G.v (rv_load1 2 rfl rfl rfl) rfl ?_)
  (first | (refine G.op (og_callF1 rfl rfl (fun w hh => toIntS_any w (by first | exact Rd.stays (by assumption) _ hh | exact Rd.owned 0 rfl _ hh | exact Rd.owned 1 rfl _ hh | exact Rd.owned 2 rfl _ hh | exact Rd.owned 3 rfl _ hh | exact Rd.owned 4 rfl _ hh | exact Rd.owned 5 rfl _ hh | exact Rd.owned 6 rfl _ hh | exact Rd.owned 7 rfl _ hh | exact Rd.owned 8 rfl _ hh | exact Rd.owned 9 rfl _ hh | exact Rd.owned 10 rfl _ hh | exact Rd.owned 11 rfl _ hh | exact Rd.owned 12 rfl _ hh | exact Rd.owned 13 rfl _ hh | exact Rd.owned 14 rfl _ hh | exact Rd.owned 15 rfl _ hh) (by (try simp only [szM] at *); omega))) rfl ?_; rintro v hov; try dsimp only) | (refine G.op (og_callF2 rfl rfl (fun w hh => toIntS_any w (by first | exact Rd.stays (by assumption) _ hh | exact Rd.owned 0 rfl _ hh | exact Rd.owned 1 rfl _ hh | exact Rd.owned 2 rfl _ hh | exact Rd.owned 3 rfl _ hh | exact Rd.owned 4 rfl _ hh | exact Rd.owned 5 rfl _ hh | exact Rd.owned 6 rfl _ hh | exact Rd.owned 7 rfl _ hh | exact Rd.owned 8 rfl _ hh | exact Rd.owned 9 rfl _ hh | exact Rd.owned 10 rfl _ hh | exact Rd.owned 11 rfl _ hh | exact Rd.owned 12 rfl _ hh | exact Rd.owned 13 rfl _ hh | exact Rd.owned 14 rfl _ hh | exact Rd.owned 15 rfl _ hh) (by (try simp only [szM] at *); omega))) rfl ?_; rintro v hov; try dsimp only) | (refine G.op (og_callF3 rfl rfl (fun w hh => toIntS_any w (by first | exact Rd.stays (by assumption) _ hh | exact Rd.owned 0 rfl _ hh | exact Rd.owned 1 rfl _ hh | exact Rd.owned 2 rfl _ hh | exact Rd.owned 3 rfl _ hh | exact Rd.owned 4 rfl _ hh | exact Rd.owned 5 rfl _ hh | exact Rd.owned 6 rfl _ hh | exact Rd.owned 7 rfl _ hh | exact Rd.owned 8 rfl _ hh | exact Rd.owned 9 rfl _ hh | exact Rd.owned 10 rfl _ hh | exact Rd.owned 11 rfl _ hh | exact Rd.owned 12 rfl _ hh | exact Rd.owned 13 rfl _ hh | exact Rd.owned 14 rfl _ hh | exact Rd.owned 15 rfl _ hh) (by (try simp only [szM] at *); omega))) rfl ?_; rintro v hov; try dsimp only) | (refine G.op (og_callF0 rfl rfl (fun w hh => toIntS_any w (by first | exact Rd.stays (by assumption) _ hh | exact Rd.owned 0 rfl _ hh | exact Rd.owned 1 rfl _ hh | exact Rd.owned 2 rfl _ hh | exact Rd.owned 3 rfl _ hh | exact Rd.owned 4 rfl _ hh | exact Rd.owned 5 rfl _ hh | exact Rd.owned 6 rfl _ hh | exact Rd.owned 7 rfl _ hh | exact Rd.owned 8 rfl _ hh | exact Rd.owned 9 rfl _ hh | exact Rd.owned 10 rfl _ hh | exact Rd.owned 11 rfl _ hh | exact Rd.owned 12 rfl _ hh | exact Rd.owned 13 rfl _ hh | exact Rd.owned 14 rfl _ hh | exact Rd.owned 15 rfl _ hh) (by (try simp only [szM] at *); omega))) rfl ?_; rintro v hov; try dsimp only) | (refine G.op (og_callF rfl rfl (fun w hh => toIntS_any w (by first | exact Rd.stays (by assumption) _ hh | exact Rd.owned 0 rfl _ hh | exact Rd.owned 1 rfl _ hh | exact Rd.owned 2 rfl _ hh | exact Rd.owned 3 rfl _ hh | exact Rd.owned 4 rfl _ hh | exact Rd.owned 5 rfl _ hh | exact Rd.owned 6 rfl _ hh | exact Rd.owned 7 rfl _ hh | exact Rd.owned 8 rfl _ hh | exact Rd.owned 9 rfl _ hh | exact Rd.owned 10 rfl _ hh | exact Rd.owned 11 rfl _ hh | exact Rd.owned 12 rfl _ hh | exact Rd.owned 13 rfl _ hh | exact Rd.owned 14 rfl _ hh | exact Rd.owned 15 rfl _ hh) (by (try simp only [szM] at *); omega))) rfl ?_; rintro v hov; try dsimp only))
  (refine G.v (rv_field rfl) rfl ?_)
  (refine G.op0 (og_st1 rfl rfl rfl (cells_one (by assumption)) rfl (by repeat (first | rfl | refine one_cons (by assumption) ?_)) (.succ (.succ (.zero (.cons .nil))))) (fun _ _ => ?_))
  refine G.done ?_
  refine G.thenN ?_
  refine G.seq ?_
  refine G.region ?_
  (refine G.v (rv_loadW 1 rfl rfl rfl) rfl ?_)
  (refine G.op0 (og_st2 rfl rfl rfl rfl rfl (by repeat (first | rfl | refine one_cons (by first | rfl | assumption) ?_)) (.zero (.cons (.cons (.cons .nil))))) (fun _ _ => ?_))
  refine G.done ?_
  refine G.thenN ?_
  refine G.ret ?_
  exact G.retFc v hov 2 rfl rfl rfl rfl rfl (fun w hh => hh.pick [0] rfl)
theorem toCartonS_any {v : Value} {l : List (CartonM × Value)} (w : World) (h : Rd w v 3 (l.map CartonM.cells)) (hs : Subs w CartonM.l l) (hl : tot CartonM.l l ≤ 1048576) : Fn Try.prog 86 [v] w (fun x : Value × List (CartonM × Value) => x.1.oneCell' = true ∧ x.2.map Prod.fst = l.map Prod.fst) (fun x => x.1) (fun x => [.grp 3 1 (x.2.map (sub CartonM.l)), .row x.1 113 3 (x.2.map CartonM.cells)]) := by
  have hln : (l.map CartonM.cells).length = l.length := by simp
  have htl := tot_len (f := CartonM.l) (ts := l)
  refine Fn.of (n := 23) Try.func86 rfl rfl ?_
  refine G.seq ?_
  refine G.region ?_
  refine G.v (rv_assign rfl) rfl ?_
  refine G.done ?_
  refine G.thenN ?_
  refine G.seq ?_
  refine G.region ?_
  refine G.v (rv_move rfl) rfl ?_
  refine G.v (rv_len rfl (by exact Rd.stays (by assumption))) rfl ?_
  refine G.op (og_make rfl rfl rfl rfl rfl (by simp; omega) (by simp; omega)) rfl (fun v _ => ?_)
  refine G.v (rv_assign rfl) rfl ?_
  refine G.done ?_
  refine G.thenN ?_
  refine G.seq ?_
  refine G.seq ?_
  refine G.region ?_
  refine G.v (rv_assign rfl) rfl ?_
  refine G.done ?_
  refine G.thenN ?_
  refine G.block ?_
  -- loop 0: turned [4], kept [0, 3]
  refine G.heap (fun w hh => hh.nilGrp 3 1) ?_
  refine G.loopK (ι := List (CartonM × Value)) (ks := [0, 3]) (fun d => [(4, .int .i64 d.length)]) (fun d => [.grp 3 1 (d.map (sub CartonM.l)), .row v 113 3 (fillUp CartonM.cells CartonM.z (l.map CartonM.cells).length d)]) (fun d => d.length ≤ l.length ∧ d.map Prod.fst = (l.take d.length).map Prod.fst) (fun d => l.length - d.length) [] (.cons rfl (.cons rfl (.nil))) rfl ?_ ?_ ?_
  · exact ⟨Nat.zero_le _, rfl⟩
  · exact ⟨rfl, trivial⟩
  rintro d ⟨hk, hd⟩
  by_cases hlt : d.length < l.length
  case' pos => (obtain ⟨b, hb⟩ := get_of_lt hlt; have he := get_map hb CartonM.cells; have hf := fillUp_get (c := CartonM.cells) (z := CartonM.z) (Nat.lt_of_lt_of_eq hlt hln.symm))
  all_goals
   refine G.seq ?_
   refine G.seq ?_
   refine G.region ?_
   refine G.v (rv_move rfl) rfl ?_
   refine G.v (rv_move rfl) rfl ?_
   refine G.v (rv_len rfl (by exact Rd.stays (by assumption))) rfl ?_
   refine G.v (rv_lss rfl rfl) rfl ?_
   refine G.done ?_
   refine G.thenN ?_
   refine G.cond rfl (fun hc => ?_) (fun hc => ?_)
   · try exact Bool.noConfusion hc
     all_goals
      try replace hc := of_decide_eq_true hc
      try simp only [List.length_map] at hc
      try (exfalso; omega)
      all_goals
       refine G.skip ?_
       refine G.thenN ?_
       refine G.seq ?_
       refine G.block ?_
       refine G.region ?_
       refine G.v (rv_move rfl) rfl ?_
       refine G.v (rv_move rfl) rfl ?_
       refine G.v (rv_move rfl) rfl ?_
       refine G.v (rv_move rfl) rfl ?_
       (refine G.v (rv_indexH rfl rfl (by exact Rd.stays (by assumption)) rfl (by assumption)) rfl ?_)
       (refine G.v (rv_loadEW rfl (by exact Rd.stays (by assumption)) (by assumption) rfl) rfl ?_)
       (first | (refine G.op (og_callF1 rfl rfl (fun w hh => toCarton_any b w (Rd.stays (hs.at hb) _ hh) (by have := tot_elt (f := CartonM.l) hb; omega))) rfl ?_; rintro u hou; try dsimp only) | (refine G.op (og_callF2 rfl rfl (fun w hh => toCarton_any b w (Rd.stays (hs.at hb) _ hh) (by have := tot_elt (f := CartonM.l) hb; omega))) rfl ?_; rintro u hou; try dsimp only) | (refine G.op (og_callF3 rfl rfl (fun w hh => toCarton_any b w (Rd.stays (hs.at hb) _ hh) (by have := tot_elt (f := CartonM.l) hb; omega))) rfl ?_; rintro u hou; try dsimp only) | (refine G.op (og_callF0 rfl rfl (fun w hh => toCarton_any b w (Rd.stays (hs.at hb) _ hh) (by have := tot_elt (f := CartonM.l) hb; omega))) rfl ?_; rintro u hou; try dsimp only) | (refine G.op (og_callF rfl rfl (fun w hh => toCarton_any b w (Rd.stays (hs.at hb) _ hh) (by have := tot_elt (f := CartonM.l) hb; omega))) rfl ?_; rintro u hou; try dsimp only))
       (refine G.v (rv_indexH rfl rfl (by exact Rd.owned 2 rfl) rfl (by assumption)) rfl ?_)
       (refine G.op0 (og_stE2 rfl rfl rfl (by assumption) rfl rfl (by repeat (first | rfl | refine one_cons (by first | rfl | assumption) ?_)) rfl (.zero (.cons (.cons (.cons .nil))))) (fun _ _ => ?_))
       refine G.done ?_
       refine G.inN ?_
       refine G.thenN ?_
       refine G.region ?_
       refine G.v (rv_move rfl) rfl ?_
       (refine G.v (rv_incr rfl rfl (by omega)) rfl ?_)
       refine G.v (rv_assign rfl) rfl ?_
       refine G.done ?_
       refine G.heap (H' := [.grp 3 1 ((d ++ [(b.1, u)]).map (sub CartonM.l)), .row v 113 3 (fillUp CartonM.cells CartonM.z (l.map CartonM.cells).length (d ++ [(b.1, u)]))]) (fun w hh => by have := hh.push; rw [← fillUp_set (Nat.lt_of_lt_of_eq hlt hln.symm), List.map_append]; exact this) ?_
       refine G.backK (d ++ [(b.1, u)]) 0 rfl (.cons rfl (.cons rfl (.nil))) ?_ ?_ ?_
       · exact ⟨congrArg (fun z => some (Value.int .i64 z)) (by simp), trivial⟩
       · exact ⟨by simp; omega, fst_next hd hb rfl⟩
       · simp; omega
   · try exact Bool.noConfusion hc
     all_goals
      try replace hc := of_decide_eq_false hc
      try simp only [List.length_map] at hc
      try (exfalso; omega)
      all_goals
       refine G.exit ?_
       refine G.thenX ?_
       refine G.thenX ?_
       refine G.inX ?_
       refine G.thenN ?_
       refine G.seq ?_
       refine G.region ?_
       refine G.v (rv_move rfl) rfl ?_
       refine G.v (rv_assign rfl) rfl ?_
       refine G.done ?_
       refine G.thenN ?_
       refine G.ret ?_
       refine G.know (fun w hw => (Rd.owned 1 rfl w hw).one_) (fun hone => G.retF (v, d) ⟨hone, by rw [hd, take_all hlt]⟩ rfl rfl rfl (fun w hw => by rw [fillUp_all (by omega)] at hw; exact hw))
theorem eqCarton_any (a b : CartonM × Value) (w : World) (h : Rd w a.2 1 (a.1.l.map icell)) (h2 : Rd w b.2 1 (b.1.l.map icell)) : FnV Try.prog 124 [.agg (CartonM.cells a).toArray, .agg (CartonM.cells b).toArray] w (.bool (decide (a.1 = b.1))) := by
  have hx := CartonM.eq_iff
  obtain ⟨a, va⟩ := a
  obtain ⟨b, vb⟩ := b
  refine FnV.of (n := 21) Try.func124 rfl rfl ?_
  refine G.seq ?_
  refine G.region ?_
  refine G.op (og_box rfl rfl) rfl (fun bk2 _ => ?_)
  refine G.op (og_box rfl rfl) rfl (fun bk3 _ => ?_)
  refine G.v (rv_assign rfl) rfl ?_
  refine G.done ?_
  refine G.thenN ?_
  refine G.seq ?_
  refine G.seq ?_
  refine G.region ?_
  (refine G.v (rv_field rfl) rfl ?_)
  (refine G.v (rv_load1 1 rfl rfl rfl) rfl ?_)
  (refine G.v (rv_field rfl) rfl ?_)
  (refine G.v (rv_load1 0 rfl rfl rfl) rfl ?_)
  refine G.v (rv_neq rfl rfl) rfl ?_
  refine G.done ?_
  refine G.thenN ?_
  refine G.cond rfl (fun hc => ?_) (fun hc => ?_)
  · try exact Bool.noConfusion hc
    all_goals
     try replace hc := of_decide_eq_true hc
     try (exfalso; contradiction)
     all_goals
      refine G.seq ?_
      refine G.region ?_
      refine G.v (rv_assign rfl) rfl ?_
      refine G.done ?_
      refine G.thenN ?_
      refine G.ret ?_
      refine G.thenR ?_
      refine G.retFV rfl rfl (congrArg Value.bool ?_); simp_all
  · try exact Bool.noConfusion hc
    all_goals
     try replace hc := of_decide_eq_false hc
     try (exfalso; contradiction)
     all_goals
      refine G.skip ?_
      refine G.thenN ?_
      refine G.seq ?_
      refine G.seq ?_
      refine G.region ?_
      (refine G.v (rv_field rfl) rfl ?_)
      (refine G.v (rv_load1 1 rfl rfl rfl) rfl ?_)
      (refine G.v (rv_field rfl) rfl ?_)
      (refine G.v (rv_load1 0 rfl rfl rfl) rfl ?_)
      refine G.v (rv_neq rfl rfl) rfl ?_
      refine G.done ?_
      refine G.thenN ?_
      refine G.cond rfl (fun hc => ?_) (fun hc => ?_)
      · try exact Bool.noConfusion hc
        all_goals
         try replace hc := of_decide_eq_true hc
         try (exfalso; contradiction)
         all_goals
          refine G.seq ?_
          refine G.region ?_
          refine G.v (rv_assign rfl) rfl ?_
          refine G.done ?_
          refine G.thenN ?_
          refine G.ret ?_
          refine G.thenR ?_
          refine G.retFV rfl rfl (congrArg Value.bool ?_); simp_all
      · try exact Bool.noConfusion hc
        all_goals
         try replace hc := of_decide_eq_false hc
         try (exfalso; contradiction)
         all_goals
          refine G.skip ?_
          refine G.thenN ?_
          refine G.seq ?_
          refine G.seq ?_
          refine G.region ?_
          (refine G.v (rv_field rfl) rfl ?_)
          (refine G.v (rv_load1 1 rfl rfl rfl) rfl ?_)
          (refine G.v (rv_field rfl) rfl ?_)
          (refine G.v (rv_load1 0 rfl rfl rfl) rfl ?_)
          refine G.op (og_callV rfl rfl (fun w hh => eqIntS_any w (by exact Rd.stays (by assumption) _ hh) (by exact Rd.stays (by assumption) _ hh))) rfl (fun _ _ => ?_)
          refine G.v (rv_not rfl) rfl ?_
          refine G.done ?_
          refine G.thenN ?_
          refine G.cond rfl (fun hc => ?_) (fun hc => ?_)
          · try exact Bool.noConfusion hc
            all_goals
             try replace hc := of_decide_eq_true hc
             try (exfalso; contradiction)
             all_goals
              refine G.seq ?_
              refine G.region ?_
              refine G.v (rv_assign rfl) rfl ?_
              refine G.done ?_
              refine G.thenN ?_
              refine G.ret ?_
              refine G.thenR ?_
              refine G.retFV rfl rfl (congrArg Value.bool ?_); simp_all
          · try exact Bool.noConfusion hc
            all_goals
             try replace hc := of_decide_eq_false hc
             try (exfalso; contradiction)
             all_goals
              refine G.skip ?_
              refine G.thenN ?_
              refine G.seq ?_
              refine G.region ?_
              refine G.v (rv_assign rfl) rfl ?_
              refine G.done ?_
              refine G.thenN ?_
              refine G.ret ?_
              refine G.retFV rfl rfl (congrArg Value.bool ?_); simp_all
theorem eqCartonS_any {u v : Value} {xs ys : List (CartonM × Value)} (w : World) (h : Rd w u 3 (xs.map CartonM.cells)) (hs : Subs w CartonM.l xs) (h2 : Rd w v 3 (ys.map CartonM.cells)) (hs2 : Subs w CartonM.l ys) : FnV Try.prog 92 [u, v] w (.bool (decide (xs.map Prod.fst = ys.map Prod.fst))) := by
  have hle := h.le_map
  have hln : (xs.map CartonM.cells).length = xs.length := by simp
  have hln2 : (ys.map CartonM.cells).length = ys.length := by simp
  have hln3 : (xs.map Prod.fst).length = xs.length := by simp
  have hln4 : (ys.map Prod.fst).length = ys.length := by simp
  refine FnV.of (n := 27) Try.func92 rfl rfl ?_
  refine G.seq ?_
  refine G.region ?_
  refine G.v (rv_assign rfl) rfl ?_
  refine G.done ?_
  refine G.thenN ?_
  refine G.seq ?_
  refine G.seq ?_
  refine G.region ?_
  refine G.v (rv_move rfl) rfl ?_
  refine G.v (rv_len rfl (by exact Rd.stays (by assumption))) rfl ?_
  refine G.v (rv_move rfl) rfl ?_
  refine G.v (rv_len rfl (by exact Rd.stays (by assumption))) rfl ?_
  refine G.v (rv_neq rfl rfl) rfl ?_
  refine G.done ?_
  refine G.thenN ?_
  refine G.cond rfl (fun hc => ?_) (fun hc => ?_)
  · try exact Bool.noConfusion hc
    all_goals
     try replace hc := of_decide_eq_true hc
     try (exfalso; contradiction)
     all_goals
      refine G.seq ?_
      refine G.region ?_
      refine G.v (rv_assign rfl) rfl ?_
      refine G.done ?_
      refine G.thenN ?_
      refine G.ret ?_
      refine G.thenR ?_
      (exact G.retFV rfl rfl (congrArg Value.bool (by rw [eq_comm, decide_eq_false]; intro hq; have := congrArg List.length hq; omega)))
  · try exact Bool.noConfusion hc
    all_goals
     try replace hc := of_decide_eq_false hc
     try (exfalso; contradiction)
     all_goals
      refine G.skip ?_
      refine G.thenN ?_
      refine G.seq ?_
      refine G.seq ?_
      refine G.region ?_
      refine G.v (rv_assign rfl) rfl ?_
      refine G.done ?_
      refine G.thenN ?_
      refine G.block ?_
      -- loop 0: turned [5], kept [0, 1]
      refine G.loopK (ι := Nat) (ks := [0, 1]) (fun k => [(5, .int .i64 k)]) (fun _ => []) (fun k => k ≤ xs.length ∧ (xs.map Prod.fst).take k = (ys.map Prod.fst).take k) (fun k => xs.length - k) 0 (.cons rfl (.cons rfl (.nil))) rfl ?_ ?_ ?_
      · exact ⟨Nat.zero_le _, rfl⟩
      · exact ⟨rfl, trivial⟩
      rintro k ⟨hk, ht⟩
      by_cases hlt : k < xs.length
      case' pos => (obtain ⟨a, ha⟩ := get_of_lt hlt; obtain ⟨b, hb⟩ := get_of_lt (l := ys) (k := k) (by omega); have he := get_map ha CartonM.cells; have he2 := get_map hb CartonM.cells; have hab := fst_get ha hb)
      all_goals
       refine G.seq ?_
       refine G.seq ?_
       refine G.region ?_
       refine G.v (rv_move rfl) rfl ?_
       refine G.v (rv_move rfl) rfl ?_
       refine G.v (rv_len rfl (by exact Rd.stays (by assumption))) rfl ?_
       refine G.v (rv_lss rfl rfl) rfl ?_
       refine G.done ?_
       refine G.thenN ?_
       refine G.cond rfl (fun hc => ?_) (fun hc => ?_)
       · try exact Bool.noConfusion hc
         all_goals
          try replace hc := of_decide_eq_true hc
          try (exfalso; omega)
          all_goals
           refine G.skip ?_
           refine G.thenN ?_
           refine G.seq ?_
           refine G.block ?_
           refine G.seq ?_
           refine G.drawL [] ?_
           refine GE.q 0 rfl (by kernel_rfl) rfl (qg_runs (rv_move rfl)) rfl ?_
           refine GE.q 1 rfl (by kernel_rfl) rfl (qg_runs (rv_move rfl)) rfl ?_
           (refine GE.q 2 rfl (by kernel_rfl) rfl (qg_runs (rv_indexH rfl rfl (by exact Rd.stays (by assumption)) rfl (by assumption))) rfl ?_)
           (refine GE.q 3 rfl (by kernel_rfl) rfl (qg_runs (rv_loadEW rfl (by exact Rd.stays (by assumption)) (by assumption) rfl)) rfl ?_)
           refine GE.q 4 rfl (by kernel_rfl) rfl (qg_runs (rv_move rfl)) rfl ?_
           refine GE.ol 5 (by kernel_rfl) rfl rfl (og_runs (rv_move rfl)) rfl (fun _ _ h => by exact h) (fun _ _ => ?_)
           (refine GE.ol 6 (by kernel_rfl) rfl rfl (og_runs (rv_indexH rfl rfl (by exact Rd.stays (by assumption)) rfl (by assumption))) rfl (fun _ _ h => by exact h) (fun _ _ => ?_))
           (refine GE.ol 7 (by kernel_rfl) rfl rfl (og_runs (rv_loadEW rfl (by exact Rd.stays (by assumption)) (by assumption) rfl)) rfl (fun _ _ h => by exact h) (fun _ _ => ?_))
           refine GE.ol 8 (by kernel_rfl) rfl rfl (og_callV rfl rfl (fun w hh => eqCarton_any a b w (Rd.stays (hs.at ha) _ hh) (Rd.stays (hs2.at hb) _ hh))) rfl (fun _ _ h => by exact h) (fun _ _ => ?_)
           refine GE.ol 9 (by kernel_rfl) rfl rfl (og_runs (rv_not rfl)) rfl (fun _ _ h => by exact h) (fun _ _ => ?_)
           refine GE.done (by kernel_rfl) ?_
           refine G.thenN ?_
           refine G.cond rfl (fun hc => ?_) (fun hc => ?_)
           · try exact Bool.noConfusion hc
             all_goals
              try replace hc := of_decide_eq_true hc
              try (exfalso; contradiction)
              all_goals
               refine G.seq ?_
               refine G.region ?_
               refine G.v (rv_assign rfl) rfl ?_
               refine G.done ?_
               refine G.thenN ?_
               refine G.ret ?_
               refine G.inR ?_
               refine G.thenR ?_
               refine G.thenR ?_
               refine G.inR ?_
               refine G.thenR ?_
               exact G.retFV rfl rfl (eqS_elt hab.1 hab.2 hc)
           · try exact Bool.noConfusion hc
             all_goals
              try replace hc := of_decide_eq_false hc
              try (exfalso; contradiction)
              all_goals
               refine G.skip ?_
               refine G.inN ?_
               refine G.thenN ?_
               refine G.region ?_
               refine G.v (rv_move rfl) rfl ?_
               (refine G.v (rv_incr rfl rfl (by omega)) rfl ?_)
               refine G.v (rv_assign rfl) rfl ?_
               refine G.done ?_
               refine G.backK (k + 1) 0 rfl (.cons rfl (.cons rfl (.nil))) ?_ ?_ ?_
               · exact ⟨rfl, trivial⟩
               · exact ⟨hlt, eqS_next ht hab.1 hab.2 hc⟩
               · omega
       · try exact Bool.noConfusion hc
         all_goals
          try replace hc := of_decide_eq_false hc
          try (exfalso; omega)
          all_goals
           refine G.exit ?_
           refine G.thenX ?_
           refine G.thenX ?_
           refine G.inX ?_
           refine G.thenN ?_
           refine G.seq ?_
           refine G.region ?_
           refine G.v (rv_assign rfl) rfl ?_
           refine G.done ?_
           refine G.thenN ?_
           refine G.ret ?_
           exact G.retFV rfl rfl (eqS_all ht (by omega) (by omega))

theorem eqLoad_any (a b : LoadM × Value) (w : World) (h : Rd w a.2 1 (a.1.l.map icell)) (h2 : Rd w b.2 1 (b.1.l.map icell)) : FnV Try.prog 103 [.agg (LoadM.cells a).toArray, .agg (LoadM.cells b).toArray] w (.bool (decide (a.1 = b.1))) := by
  have hx := LoadM.eq_iff
  obtain ⟨a, va⟩ := a
  obtain ⟨b, vb⟩ := b
  refine FnV.of (n := 21) Try.func103 rfl rfl ?_
  refine G.seq ?_
  refine G.region ?_
  refine G.op (og_box rfl rfl) rfl (fun bk2 _ => ?_)
  refine G.op (og_box rfl rfl) rfl (fun bk3 _ => ?_)
  refine G.v (rv_assign rfl) rfl ?_
  refine G.done ?_
  refine G.thenN ?_
  refine G.seq ?_
  refine G.seq ?_
  refine G.region ?_
  (refine G.v (rv_field rfl) rfl ?_)
  (refine G.v (rv_load1 1 rfl rfl rfl) rfl ?_)
  (refine G.v (rv_field rfl) rfl ?_)
  (refine G.v (rv_load1 0 rfl rfl rfl) rfl ?_)
  refine G.op (og_callV rfl rfl (fun w hh => eqIntS_any w (by exact Rd.stays (by assumption) _ hh) (by exact Rd.stays (by assumption) _ hh))) rfl (fun _ _ => ?_)
  refine G.v (rv_not rfl) rfl ?_
  refine G.done ?_
  refine G.thenN ?_
  refine G.cond rfl (fun hc => ?_) (fun hc => ?_)
  · try exact Bool.noConfusion hc
    all_goals
     try replace hc := of_decide_eq_true hc
     try (exfalso; contradiction)
     all_goals
      refine G.seq ?_
      refine G.region ?_
      refine G.v (rv_assign rfl) rfl ?_
      refine G.done ?_
      refine G.thenN ?_
      refine G.ret ?_
      refine G.thenR ?_
      refine G.retFV rfl rfl (congrArg Value.bool ?_); simp_all
  · try exact Bool.noConfusion hc
    all_goals
     try replace hc := of_decide_eq_false hc
     try (exfalso; contradiction)
     all_goals
      refine G.skip ?_
      refine G.thenN ?_
      refine G.seq ?_
      refine G.seq ?_
      refine G.region ?_
      (refine G.v (rv_field rfl) rfl ?_)
      (refine G.v (rv_load1 1 rfl rfl rfl) rfl ?_)
      (refine G.v (rv_field rfl) rfl ?_)
      (refine G.v (rv_load1 0 rfl rfl rfl) rfl ?_)
      refine G.v (rv_neq rfl rfl) rfl ?_
      refine G.done ?_
      refine G.thenN ?_
      refine G.cond rfl (fun hc => ?_) (fun hc => ?_)
      · try exact Bool.noConfusion hc
        all_goals
         try replace hc := of_decide_eq_true hc
         try (exfalso; contradiction)
         all_goals
          refine G.seq ?_
          refine G.region ?_
          refine G.v (rv_assign rfl) rfl ?_
          refine G.done ?_
          refine G.thenN ?_
          refine G.ret ?_
          refine G.thenR ?_
          refine G.retFV rfl rfl (congrArg Value.bool ?_); simp_all
      · try exact Bool.noConfusion hc
        all_goals
         try replace hc := of_decide_eq_false hc
         try (exfalso; contradiction)
         all_goals
          refine G.skip ?_
          refine G.thenN ?_
          refine G.seq ?_
          refine G.seq ?_
          refine G.region ?_
          (refine G.v (rv_field rfl) rfl ?_)
          (refine G.v (rv_load1 1 rfl rfl rfl) rfl ?_)
          (refine G.v (rv_field rfl) rfl ?_)
          (refine G.v (rv_load1 0 rfl rfl rfl) rfl ?_)
          refine G.v (rv_neq rfl rfl) rfl ?_
          refine G.done ?_
          refine G.thenN ?_
          refine G.cond rfl (fun hc => ?_) (fun hc => ?_)
          · try exact Bool.noConfusion hc
            all_goals
             try replace hc := of_decide_eq_true hc
             try (exfalso; contradiction)
             all_goals
              refine G.seq ?_
              refine G.region ?_
              refine G.v (rv_assign rfl) rfl ?_
              refine G.done ?_
              refine G.thenN ?_
              refine G.ret ?_
              refine G.thenR ?_
              refine G.retFV rfl rfl (congrArg Value.bool ?_); simp_all
          · try exact Bool.noConfusion hc
            all_goals
             try replace hc := of_decide_eq_false hc
             try (exfalso; contradiction)
             all_goals
              refine G.skip ?_
              refine G.thenN ?_
              refine G.seq ?_
              refine G.region ?_
              refine G.v (rv_assign rfl) rfl ?_
              refine G.done ?_
              refine G.thenN ?_
              refine G.ret ?_
              refine G.retFV rfl rfl (congrArg Value.bool ?_); simp_all
theorem eqLoadS_any {u v : Value} {xs ys : List (LoadM × Value)} (w : World) (h : Rd w u 3 (xs.map LoadM.cells)) (hs : Subs w LoadM.l xs) (h2 : Rd w v 3 (ys.map LoadM.cells)) (hs2 : Subs w LoadM.l ys) : FnV Try.prog 44 [u, v] w (.bool (decide (xs.map Prod.fst = ys.map Prod.fst))) := by
  have hle := h.le_map
  have hln : (xs.map LoadM.cells).length = xs.length := by simp
  have hln2 : (ys.map LoadM.cells).length = ys.length := by simp
  have hln3 : (xs.map Prod.fst).length = xs.length := by simp
  have hln4 : (ys.map Prod.fst).length = ys.length := by simp
  refine FnV.of (n := 27) Try.func44 rfl rfl ?_
  refine G.seq ?_
  refine G.region ?_
  refine G.v (rv_assign rfl) rfl ?_
  refine G.done ?_
  refine G.thenN ?_
  refine G.seq ?_
  refine G.seq ?_
  refine G.region ?_
  refine G.v (rv_move rfl) rfl ?_
  refine G.v (rv_len rfl (by exact Rd.stays (by assumption))) rfl ?_
  refine G.v (rv_move rfl) rfl ?_
  refine G.v (rv_len rfl (by exact Rd.stays (by assumption))) rfl ?_
  refine G.v (rv_neq rfl rfl) rfl ?_
  refine G.done ?_
  refine G.thenN ?_
  refine G.cond rfl (fun hc => ?_) (fun hc => ?_)
  · try exact Bool.noConfusion hc
    all_goals
     try replace hc := of_decide_eq_true hc
     try (exfalso; contradiction)
     all_goals
      refine G.seq ?_
      refine G.region ?_
      refine G.v (rv_assign rfl) rfl ?_
      refine G.done ?_
      refine G.thenN ?_
      refine G.ret ?_
      refine G.thenR ?_
      (exact G.retFV rfl rfl (congrArg Value.bool (by rw [eq_comm, decide_eq_false]; intro hq; have := congrArg List.length hq; omega)))
  · try exact Bool.noConfusion hc
    all_goals
     try replace hc := of_decide_eq_false hc
     try (exfalso; contradiction)
     all_goals
      refine G.skip ?_
      refine G.thenN ?_
      refine G.seq ?_
      refine G.seq ?_
      refine G.region ?_
      refine G.v (rv_assign rfl) rfl ?_
      refine G.done ?_
      refine G.thenN ?_
      refine G.block ?_
      -- loop 0: turned [5], kept [0, 1]
      refine G.loopK (ι := Nat) (ks := [0, 1]) (fun k => [(5, .int .i64 k)]) (fun _ => []) (fun k => k ≤ xs.length ∧ (xs.map Prod.fst).take k = (ys.map Prod.fst).take k) (fun k => xs.length - k) 0 (.cons rfl (.cons rfl (.nil))) rfl ?_ ?_ ?_
      · exact ⟨Nat.zero_le _, rfl⟩
      · exact ⟨rfl, trivial⟩
      rintro k ⟨hk, ht⟩
      by_cases hlt : k < xs.length
      case' pos => (obtain ⟨a, ha⟩ := get_of_lt hlt; obtain ⟨b, hb⟩ := get_of_lt (l := ys) (k := k) (by omega); have he := get_map ha LoadM.cells; have he2 := get_map hb LoadM.cells; have hab := fst_get ha hb)
      all_goals
       refine G.seq ?_
       refine G.seq ?_
       refine G.region ?_
       refine G.v (rv_move rfl) rfl ?_
       refine G.v (rv_move rfl) rfl ?_
       refine G.v (rv_len rfl (by exact Rd.stays (by assumption))) rfl ?_
       refine G.v (rv_lss rfl rfl) rfl ?_
       refine G.done ?_
       refine G.thenN ?_
       refine G.cond rfl (fun hc => ?_) (fun hc => ?_)
       · try exact Bool.noConfusion hc
         all_goals
          try replace hc := of_decide_eq_true hc
          try (exfalso; omega)
          all_goals
           refine G.skip ?_
           refine G.thenN ?_
           refine G.seq ?_
           refine G.block ?_
           refine G.seq ?_
           refine G.drawL [] ?_
           refine GE.q 0 rfl (by kernel_rfl) rfl (qg_runs (rv_move rfl)) rfl ?_
           refine GE.q 1 rfl (by kernel_rfl) rfl (qg_runs (rv_move rfl)) rfl ?_
           (refine GE.q 2 rfl (by kernel_rfl) rfl (qg_runs (rv_indexH rfl rfl (by exact Rd.stays (by assumption)) rfl (by assumption))) rfl ?_)
           (refine GE.q 3 rfl (by kernel_rfl) rfl (qg_runs (rv_loadEW rfl (by exact Rd.stays (by assumption)) (by assumption) rfl)) rfl ?_)
           refine GE.q 4 rfl (by kernel_rfl) rfl (qg_runs (rv_move rfl)) rfl ?_
           refine GE.ol 5 (by kernel_rfl) rfl rfl (og_runs (rv_move rfl)) rfl (fun _ _ h => by exact h) (fun _ _ => ?_)
           (refine GE.ol 6 (by kernel_rfl) rfl rfl (og_runs (rv_indexH rfl rfl (by exact Rd.stays (by assumption)) rfl (by assumption))) rfl (fun _ _ h => by exact h) (fun _ _ => ?_))
           (refine GE.ol 7 (by kernel_rfl) rfl rfl (og_runs (rv_loadEW rfl (by exact Rd.stays (by assumption)) (by assumption) rfl)) rfl (fun _ _ h => by exact h) (fun _ _ => ?_))
           refine GE.ol 8 (by kernel_rfl) rfl rfl (og_callV rfl rfl (fun w hh => eqLoad_any a b w (Rd.stays (hs.at ha) _ hh) (Rd.stays (hs2.at hb) _ hh))) rfl (fun _ _ h => by exact h) (fun _ _ => ?_)
           refine GE.ol 9 (by kernel_rfl) rfl rfl (og_runs (rv_not rfl)) rfl (fun _ _ h => by exact h) (fun _ _ => ?_)
           refine GE.done (by kernel_rfl) ?_
           refine G.thenN ?_
           refine G.cond rfl (fun hc => ?_) (fun hc => ?_)
           · try exact Bool.noConfusion hc
             all_goals
              try replace hc := of_decide_eq_true hc
              try (exfalso; contradiction)
              all_goals
               refine G.seq ?_
               refine G.region ?_
               refine G.v (rv_assign rfl) rfl ?_
               refine G.done ?_
               refine G.thenN ?_
               refine G.ret ?_
               refine G.inR ?_
               refine G.thenR ?_
               refine G.thenR ?_
               refine G.inR ?_
               refine G.thenR ?_
               exact G.retFV rfl rfl (eqS_elt hab.1 hab.2 hc)
           · try exact Bool.noConfusion hc
             all_goals
              try replace hc := of_decide_eq_false hc
              try (exfalso; contradiction)
              all_goals
               refine G.skip ?_
               refine G.inN ?_
               refine G.thenN ?_
               refine G.region ?_
               refine G.v (rv_move rfl) rfl ?_
               (refine G.v (rv_incr rfl rfl (by omega)) rfl ?_)
               refine G.v (rv_assign rfl) rfl ?_
               refine G.done ?_
               refine G.backK (k + 1) 0 rfl (.cons rfl (.cons rfl (.nil))) ?_ ?_ ?_
               · exact ⟨rfl, trivial⟩
               · exact ⟨hlt, eqS_next ht hab.1 hab.2 hc⟩
               · omega
       · try exact Bool.noConfusion hc
         all_goals
          try replace hc := of_decide_eq_false hc
          try (exfalso; omega)
          all_goals
           refine G.exit ?_
           refine G.thenX ?_
           refine G.thenX ?_
           refine G.inX ?_
           refine G.thenN ?_
           refine G.seq ?_
           refine G.region ?_
           refine G.v (rv_assign rfl) rfl ?_
           refine G.done ?_
           refine G.thenN ?_
           refine G.ret ?_
           exact G.retFV rfl rfl (eqS_all ht (by omega) (by omega))

end Go.Proofs.Yticgeijklhlonaa
