/-
  Texts of this proof, one behind the other: Grp4, Grp5, Grp6, Grp7, ShelfP, FitM, DelF, RoomW, NextW, Sorts2.
-/
import Derived.Test.YtibkggjbkgdnkaaGreatPknC
import Derived.Test.YtibkggjbkgdnkaaGreatPknA
import Derived.Test.YtibkggjbkgdnkaaGreatPknB
set_option linter.unusedVariables false
set_option linter.unusedSimpArgs false

/-
  Kinds that are put into groups: the program's way.
-/
namespace Go.Proofs.YtibkggjbkgdnkaaGreat
open Go.RowKit
attribute [local irreducible] Go.wpList Go.Code.wp Go.Exit.then Go.Exit.inBlock Go.bodyPost Go.Calls pE pB G RunsV FnV Fn FnM
set_option maxRecDepth 100000
set_option maxHeartbeats 4000000
theorem idx_neg {α : Type} {p : α → Bool} {l : List α} (h : idxM p l < 0) : l.any p = false := by
  rcases idx_cases p l with ⟨_, e⟩ | ⟨k, b, e, _⟩
  · exact e
  · omega
theorem idx_pos {α : Type} {p : α → Bool} {l : List α} (h : ¬ idxM p l < 0) : ∃ (k : Nat) (b : α), idxM p l = (k : Int) ∧ l[k]? = some b ∧ p b = true ∧ (l.take k).any p = false := by
  rcases idx_cases p l with ⟨e, _⟩ | h2
  · omega
  · exact h2
theorem any_fst {p : List Int → Bool} {ts : List (List Int × Value)} : (ts.map Prod.fst).any p = ts.any (fun b => p b.1) := by rw [List.any_map]; rfl
theorem put_push {p : List Int → Bool} {ts : List (List Int × Value)} {x : Int} {v : Value} (h : ts.any (fun b => p b.1) = false) : putM p (ts.map Prod.fst) x = (ts ++ [([x], v)]).map Prod.fst := by
  rw [put_no (by rw [any_fst]; exact h), List.map_append]; rfl
theorem put_into {p : List Int → Bool} {ts : List (List Int × Value)} {x : Int} {q : Nat} {b : List Int × Value} {v : Value} (hb : ts[q]? = some b) (hp : p b.1 = true) (h : (ts.take q).any (fun b => p b.1) = false) : putM p (ts.map Prod.fst) x = (ts.set q (b.1 ++ [x], v)).map Prod.fst := by
  rw [put_at (k := q) (b := b.1) (by rw [← List.map_take, any_fst]; exact h) (by rw [List.getElem?_map, hb]; rfl) hp, List.map_set]
theorem push_sub {ts : List (List Int × Value)} {x : Int} {v : Value} : (ts.map (sub id)) ++ [(v, [[Value.int .i64 x]])] = (ts ++ [([x], v)]).map (sub id) := by
  rw [List.map_append]; rfl
theorem push_g {ts : List (List Int × Value)} {x : Int} {v : Value} : ts.map gcell ++ [[v]] = (ts ++ [([x], v)]).map gcell := by
  rw [List.map_append]; rfl
theorem into_sub {ts : List (List Int × Value)} {x : Int} {q : Nat} {b : List Int × Value} {v : Value} : (ts.map (sub id)).set q (v, b.1.map icell ++ [[Value.int .i64 x]]) = (ts.set q (b.1 ++ [x], v)).map (sub id) := by
  rw [List.map_set]; simp [sub, icell]
theorem into_g {ts : List (List Int × Value)} {x : Int} {q : Nat} {b : List Int × Value} {v : Value} : (ts.map gcell).set q [v] = (ts.set q (b.1 ++ [x], v)).map gcell := by
  rw [List.map_set]; rfl
theorem GE.know {P : Program} {ops : Array Oper} {Q : Exit → Act → World → Prop} {qs : List Nat} {n : Nat} {w0 : World} {HC : List Ch} {f : Nat} {listed : Array Bool} {fr : Fr} {H : List Ch} {p : Prop} (hp : ∀ w, HeapOk w0 w H → p) (h : p → GE P ops Q qs n w0 HC f listed fr H) : GE P ops Q qs n w0 HC f listed fr H := G.know hp h
theorem below_yes {l : List Int} {n : Nat} (h : hasM l (n : Int) = true) : below l (n + 1) = below l n ++ [(n : Int)] := by rw [below_next, if_pos h]
theorem below_no {l : List Int} {n : Nat} (h : hasM l (n : Int) = false) : below l (n + 1) = below l n := by rw [below_next, if_neg (by rw [h]; decide), List.append_nil]
theorem sgroups_any {ps : List PairM} {pv uv : Value} {l : List Int} (w : World) (h : Rd w pv 2 (ps.map PairM.cells)) (h2 : Rd w uv 1 (l.map icell)) (hasc : l.Pairwise (· < ·)) (hin : ∀ x ∈ l, 0 ≤ x ∧ x ≤ 3) :
    Fn Tryz.prog 76 [pv, uv] w (fun x : Value × List (List Int × Value) => x.1.oneCell' = true ∧ x.2.map Prod.fst = groupsM ps l) (fun x => x.1) (fun x => [.grp 3 1 (x.2.map (sub id)), .row x.1 44 1 (x.2.map gcell)]) := by
  refine Fn.of (n := 51) Tryz.func76 rfl rfl ?_; refine G.seq (G.region (G.v (rv_assign rfl) rfl (G.done (G.thenN (G.seq (G.region ?_)))))); refine G.op (og_lit rfl .nil rfl rfl rfl rfl rfl rfl) rfl (fun vl _ => ?_); refine G.v (rv_assign rfl) rfl (G.done (G.thenN (G.seq (G.seq (G.region (G.v (rv_assign rfl) rfl (G.done (G.thenN (G.block ?_)))))))))
  -- loop 0: turned [5, 6], kept [0, 1]
  refine G.heap (fun w hh => hh.nilGrp 3 1) ?_; refine G.loopK (ι := Nat × List (List Int × Value) × Value) (ks := [0, 1]) (fun x => [(5, x.2.2), (6, .int .i64 (x.1 : Int))]) (fun x => [.grp 3 1 (x.2.1.map (sub id)), .row x.2.2 44 1 (x.2.1.map gcell)]) (fun x => x.1 ≤ 4 ∧ x.2.1.map Prod.fst = groupsM ps (below l x.1)) (fun x => 4 - x.1) (0, [], vl) (.cons rfl (.cons rfl (.nil))) rfl ?_ ?_ ?_
  · exact ⟨Nat.zero_le _, rfl⟩
  · exact ⟨rfl, rfl, trivial⟩
  rintro ⟨c, ts, v2⟩ ⟨hk, hM⟩
  dsimp only at hk hM ⊢
  have hl0 : (ts.map gcell).length = ts.length := (by simp)
  have htl : ts.length ≤ 4 := (by have := putAll_len (fun g x => joinsM ps g x) (below l c); have e2 := congrArg List.length hM; rw [List.length_map] at e2; rw [groupsM] at e2; have := below_len l c; omega)
  all_goals
   refine G.seq (G.seq (G.region (G.v (rv_move rfl) rfl (G.v (rv_lss rfl rfl) rfl (G.done (G.thenN ?_)))))); refine G.cond rfl (fun hc => ?_) (fun hc => ?_)
   · try exact Bool.noConfusion hc
     all_goals
      try replace hc := of_decide_eq_true hc
      try simp only [List.length_map] at hc
      try (exfalso; contradiction)
      all_goals
       refine G.skip (G.thenN (G.seq (G.block (G.seq (G.seq (G.region (G.v (rv_move rfl) rfl (G.v (rv_move rfl) rfl ?_)))))))); refine G.op (og_callV rfl rfl (fun w hh => l1Has_any _ w (by exact Rd.stays (by assumption) _ hh))) rfl (fun _ _ => ?_); refine G.v (rv_not rfl) rfl (G.done (G.thenN ?_)); refine G.cond rfl (fun hc => ?_) (fun hc => ?_)
       · try exact Bool.noConfusion hc
         all_goals
          try replace hc := of_decide_eq_true hc
          try simp only [List.length_map] at hc
          try (exfalso; contradiction)
          all_goals
           have hh1 : hasM l (c : Int) = false := by simpa using hc
           all_goals
            refine G.exit (G.thenX (G.inX (G.thenN (G.region (G.v (rv_move rfl) rfl ?_))))); refine G.v (rv_incr rfl rfl (by omega)) rfl ?_; refine G.v (rv_assign rfl) rfl (G.done ?_); refine G.frontR1 v2 rfl ?_; refine G.frontG1 _ rfl ?_
            (refine G.keep2 0 rfl ?_; refine G.backK (c + 1, ts, v2) 0 (by rfl) (.cons rfl (.cons rfl (.nil))) ?_ ?_ ?_)
            · exact ⟨rfl, rfl, trivial⟩
            · (exact ⟨by omega, by rw [below_no hh1]; exact hM⟩)
            · dsimp only; omega
       · try exact Bool.noConfusion hc
         all_goals
          try replace hc := of_decide_eq_false hc
          try simp only [List.length_map] at hc
          try (exfalso; contradiction)
          all_goals
           have hh1 : hasM l (c : Int) = true := by simpa using hc
           all_goals
            refine G.skip (G.thenN (G.seq (G.region (G.v (rv_assign rfl) rfl (G.done (G.thenN (G.seq (G.seq (G.region (G.v (rv_move rfl) rfl ?_)))))))))); refine G.v (rv_len rfl (by exact Rd.owned 1 rfl)) rfl ?_; refine G.v (rv_subB rfl rfl (by omega) (by omega)) rfl ?_; refine G.v (rv_assign rfl) rfl (G.done (G.thenN (G.block ?_)))
            -- loop 1: turned [7, 8], kept [0, 1, 5, 6]
            refine G.loopK (ι := Nat) (ks := [0, 1, 5, 6]) (fun k => [(7, .int .i64 (idxFrom (fun b => joinsM ps b.1 (c : Int)) ts k)), (8, .int .i64 ((k : Int) - 1))]) (fun _ => []) (fun k => k ≤ ts.length) (fun k => k) ts.length (.cons rfl (.cons rfl (.cons rfl (.cons rfl (.nil))))) rfl ?_ ?_ ?_
            · exact Nat.le_refl _
            · exact ⟨congrArg (fun z => some (Value.int .i64 z)) from_end.symm, congrArg (fun z : Nat => some (Value.int .i64 ((z : Int) - 1))) hl0, trivial⟩
            rintro k hk1
            rcases k with _ | k
            case' succ => (obtain ⟨b, hb⟩ := get_of_lt (l := ts) (k := k) (by omega); have heb := get_map hb gcell)
            all_goals
             refine G.seq (G.seq (G.region (G.v (rv_move rfl) rfl (G.v (rv_geq rfl rfl) rfl (G.done (G.thenN ?_)))))); refine G.cond rfl (fun hc => ?_) (fun hc => ?_)
             · try exact Bool.noConfusion hc
               all_goals
                try replace hc := of_decide_eq_true hc
                try simp only [List.length_map] at hc
                try (exfalso; contradiction)
                all_goals
                 refine G.skip (G.thenN (G.seq (G.block (G.seq (G.region (G.v (rv_move rfl) rfl (G.v (rv_move rfl) rfl (G.v (rv_move rfl) rfl ?_)))))))); refine G.v (rv_indexH (k := k) rfl rfl (by exact Rd.owned 1 rfl) (by omega) heb) rfl ?_; refine G.v (rv_loadE rfl (by exact Rd.owned 1 rfl) (by exact heb) rfl) rfl ?_; refine G.v (rv_move rfl) rfl ?_; refine G.op (og_callV rfl rfl (fun w hh => l3Joins_any (ps := ps) (l := b.1) _ w (Rd.stays h _ hh) (Subs.at (by exact Subs.owned 0 rfl _ hh) hb))) rfl (fun _ _ => ?_); refine G.done (G.thenN ?_); refine G.cond rfl (fun hc => ?_) (fun hc => ?_)
                 · try exact Bool.noConfusion hc
                   all_goals
                    try replace hc := of_decide_eq_true hc
                    try simp only [List.length_map] at hc
                    try (exfalso; contradiction)
                    all_goals
                     refine G.region (G.v (rv_move rfl) rfl (G.v (rv_assign rfl) rfl (G.done (G.inN (G.thenN (G.region (G.v (rv_move rfl) rfl ?_))))))); refine G.v (rv_subB rfl rfl (by omega) (by omega)) rfl ?_; refine G.v (rv_assign rfl) rfl (G.done ?_); refine G.backK k 0 rfl (.cons rfl (.cons rfl (.cons rfl (.cons rfl (.nil))))) ?_ ?_ ?_
                     · exact ⟨congrArg (fun z => some (Value.int .i64 z)) ((show ((k + 1 : Nat) : Int) - 1 = (k : Int) by omega).trans (from_yes hb hc)), congrArg (fun z => some (Value.int .i64 z)) (show ((k + 1 : Nat) : Int) - 1 - 1 = (k : Int) - 1 by omega), trivial⟩
                     · omega
                     · omega
                 · try exact Bool.noConfusion hc
                   all_goals
                    try replace hc := of_decide_eq_false hc
                    try simp only [List.length_map] at hc
                    try (exfalso; contradiction)
                    all_goals
                     refine G.skip (G.inN (G.thenN (G.region (G.v (rv_move rfl) rfl ?_)))); refine G.v (rv_subB rfl rfl (by omega) (by omega)) rfl ?_; refine G.v (rv_assign rfl) rfl (G.done ?_); refine G.backK k 0 rfl (.cons rfl (.cons rfl (.cons rfl (.cons rfl (.nil))))) ?_ ?_ ?_
                     · exact ⟨congrArg (fun z => some (Value.int .i64 z)) (from_no hb hc), congrArg (fun z => some (Value.int .i64 z)) (show ((k + 1 : Nat) : Int) - 1 - 1 = (k : Int) - 1 by omega), trivial⟩
                     · omega
                     · omega
             · try exact Bool.noConfusion hc
               all_goals
                try replace hc := of_decide_eq_false hc
                try simp only [List.length_map] at hc
                try (exfalso; omega)
                all_goals
                 refine G.exit (G.thenX (G.thenX (G.inX (G.thenN (G.seq (G.region (G.v (rv_move rfl) rfl (G.v (rv_lss rfl rfl) rfl (G.done (G.thenN ?_)))))))))); refine G.cond rfl (fun hc => ?_) (fun hc => ?_)
                 · try exact Bool.noConfusion hc
                   all_goals
                    try replace hc := of_decide_eq_true hc
                    try simp only [List.length_map] at hc
                    try (exfalso; contradiction)
                    all_goals
                     rw [from_zero] at hc
                     have hno := idx_neg hc
                     all_goals
                      refine G.region (G.v (rv_move rfl) rfl (G.v (rv_move rfl) rfl ?_)); refine G.op (og_lit rfl (.cons rfl .nil) rfl rfl rfl rfl rfl rfl) rfl (fun vl _ => ?_); refine G.know (fun w hw => (Rd.owned 0 rfl w hw).one_) (fun hovl => ?_); refine G.op (og_lit rfl (.cons (cells_one (by assumption)) .nil) (by simp only [List.all_cons, List.all_nil, Bool.and_true, Bool.and_eq_true]; exact ⟨rfl, by assumption⟩) rfl rfl rfl rfl rfl) rfl (fun vm _ => ?_); refine G.op (og_app3 rfl rfl rfl (by exact Rd.owned 0 rfl) rfl rfl (by (simp; omega)) (by (simp; omega))) rfl (fun va _ => ?_); refine G.frontG2 _ rfl ?_; refine G.frontR2 vl rfl ?_; refine G.pushRow _ push_sub rfl ?_; refine G.v (rv_assign rfl) rfl (G.done (G.inN (G.thenN (G.region (G.v (rv_move rfl) rfl ?_))))); refine G.v (rv_incr rfl rfl (by omega)) rfl ?_; refine G.v (rv_assign rfl) rfl (G.done ?_); refine G.frontR2 va rfl ?_; refine G.frontG1 _ rfl ?_
                      (refine G.keep2 1 rfl ?_; refine G.backK (c + 1, ts ++ [([(c : Int)], vl)], va) 0 (by exact two_eq (congrArg (fun z => Ch.grp 3 1 z) rfl) (congrArg (fun z => Ch.row va 44 1 z) push_g)) (.cons rfl (.cons rfl (.nil))) ?_ ?_ ?_)
                      · exact ⟨rfl, rfl, trivial⟩
                      · (exact ⟨by omega, by rw [below_yes hh1, groupsM, putAll_snoc, ← groupsM, ← hM]; exact (put_push (p := fun g => joinsM ps g (c : Int)) hno).symm⟩)
                      · dsimp only; omega
                 · try exact Bool.noConfusion hc
                   all_goals
                    try replace hc := of_decide_eq_false hc
                    try simp only [List.length_map] at hc
                    try (exfalso; contradiction)
                    all_goals
                     rw [from_zero] at hc
                     obtain ⟨q, b, hq, hqb, hpb, hbt⟩ := idx_pos hc
                     have hq2 := (from_zero (p := fun b => joinsM ps b.1 (c : Int)) (l := ts)).trans hq
                     have heq := get_map hqb gcell
                     have hgi : (ts.map (sub id))[q]? = some (b.2, b.1.map icell) := get_mapS hqb
                     have hbl : b.1.length ≤ 4 := (by have := (putAll_at (p := fun g x => joinsM ps g x) (l := below l c) (q := q) (g := b.1) (by show (groupsM ps (below l c))[q]? = _; rw [← hM, List.getElem?_map, hqb]; rfl)); have := below_len l c; omega)
                     all_goals
                      refine G.region (G.v (rv_move rfl) rfl (G.v (rv_move rfl) rfl (G.v (rv_move rfl) rfl (G.v (rv_move rfl) rfl ?_)))); refine G.v (rv_indexH (k := q) rfl rfl (by exact Rd.owned 1 rfl) (by omega) heq) rfl ?_; refine G.v (rv_loadE rfl (by exact Rd.owned 1 rfl) (by exact heq) rfl) rfl ?_; refine G.v (rv_move rfl) rfl ?_; refine G.op (og_lit rfl (.cons rfl .nil) rfl rfl rfl rfl rfl rfl) rfl (fun vl _ => ?_); refine G.op (og_appG1 rfl rfl rfl hgi (by exact Rd.owned 0 rfl) rfl rfl (by (simp; omega)) (by (simp; omega))) rfl (fun vb _ => ?_)
                      skip; refine G.know (fun w hw => (Rd.grp 1 rfl (List.mem_of_getElem? (get_set1 hgi)) w hw).one_) (fun hova => ?_)
                      refine G.v (rv_indexH (k := q) rfl rfl (by exact Rd.owned 2 rfl) (by omega) heq) rfl ?_; refine G.op0 (og_stE2 rfl rfl rfl (by exact heq) (cells_one (by assumption)) rfl (by repeat (first | rfl | refine one_cons (by assumption) ?_)) rfl (.zero (.cons .nil))) (fun _ _ => ?_); refine G.done (G.inN (G.thenN (G.region (G.v (rv_move rfl) rfl ?_)))); refine G.v (rv_incr rfl rfl (by omega)) rfl ?_; refine G.v (rv_assign rfl) rfl (G.done ?_); refine G.frontR2 v2 rfl ?_; refine G.frontG2 _ rfl ?_
                      (refine G.keep2 1 rfl ?_; refine G.backK (c + 1, ts.set q (b.1 ++ [(c : Int)], vb), v2) 0 (by exact two_eq (congrArg (fun z => Ch.grp 3 1 z) into_sub) (congrArg (fun z => Ch.row v2 44 1 z) into_g)) (.cons rfl (.cons rfl (.nil))) ?_ ?_ ?_)
                      · exact ⟨rfl, rfl, trivial⟩
                      · (exact ⟨by omega, by rw [below_yes hh1, groupsM, putAll_snoc, ← groupsM, ← hM]; exact (put_into (p := fun g => joinsM ps g (c : Int)) hqb hpb hbt).symm⟩)
                      · dsimp only; omega
   · try exact Bool.noConfusion hc
     all_goals
      try replace hc := of_decide_eq_false hc
      try simp only [List.length_map] at hc
      try (exfalso; contradiction)
      all_goals
       refine G.exit (G.thenX (G.thenX (G.inX (G.thenN (G.seq (G.region (G.v (rv_move rfl) rfl (G.v (rv_assign rfl) rfl (G.done (G.thenN (G.ret ?_))))))))))); refine G.know (fun w hw => (Rd.owned 1 rfl w hw).one_) (fun hone => G.retF (v2, ts) ⟨hone, by rw [show c = 4 by omega, below_all hasc hin] at hM; exact hM⟩ rfl rfl rfl (fun w hw => hw.sublist (by repeat (exact List.Sublist.refl _))))
def groupsOfM (r : ReqM) : List (List Int) := groupsM r.pairs (presI r)
theorem presI_no {r : ReqM} (h : ¬ classM r = 0) : presI r = [] := by rw [presI, presM, if_neg h]; rfl
theorem groupsOf_no {r : ReqM} (h : ¬ classM r = 0) : groupsOfM r = [] := by rw [groupsOfM, presI_no h]; rfl
section
variable {r : ReqM} {pv tv iv : Value} (w : World) (h : Rd w pv 2 (r.pairs.map PairM.cells)) (h2 : Rd w tv 7 (r.types.map TypeM.cells)) (h3 : Rd w iv 7 (r.items.map ItemM.cells))
include h h2 h3
theorem sgroupsOf_any : Fn Tryz.prog 19 [.agg (r.cells pv tv iv).toArray] w (fun x : Value × List (List Int × Value) => x.1.oneCell' = true ∧ x.2.map Prod.fst = groupsOfM r) (fun x => x.1) (fun x => [.grp 3 1 (x.2.map (sub id)), .row x.1 44 1 (x.2.map gcell)]) := by
  refine Fn.of (n := 8) Tryz.func19 rfl rfl ?_; refine G.seq (G.region ?_); refine G.op (og_box rfl rfl) rfl (fun bk1 _ => ?_); refine G.v (rv_assign rfl) rfl (G.done (G.thenN (G.seq ?_))); refine G.drawL [5] ?_
  (first | refine GE.q 0 rfl (by as_aux_lemma => kernel_rfl) rfl (qg_runs (rv_field rfl)) rfl ?_ | refine GE.q 0 rfl (by as_aux_lemma => kernel_rfl) rfl (qg_runs (rv_fieldE rfl)) rfl ?_)
  (first | refine GE.q 1 rfl (by as_aux_lemma => kernel_rfl) rfl (qg_runs (rv_load1 0 rfl rfl rfl)) rfl ?_ | refine GE.q 1 rfl (by as_aux_lemma => kernel_rfl) rfl (qg_runs (rv_load1 1 rfl rfl rfl)) rfl ?_ | refine GE.q 1 rfl (by as_aux_lemma => kernel_rfl) rfl (qg_runs (rv_load1 2 rfl rfl rfl)) rfl ?_ | refine GE.q 1 rfl (by as_aux_lemma => kernel_rfl) rfl (qg_runs (rv_load1 3 rfl rfl rfl)) rfl ?_)
  (first | refine GE.ol 2 (by as_aux_lemma => kernel_rfl) rfl rfl (og_runs (rv_loadW 0 rfl rfl rfl)) rfl (fun _ _ h => by first | exact h | exact h.drop 1 | exact h.drop 2 | exact h.drop 3 | exact h.drop 4 | exact h.drop 5 | exact h.drop 6 | exact h.drop 7 | exact h.drop 8 | exact h.drop 9 | exact h.drop 10 | exact h.drop 11 | exact h.drop 12 | exact h.drop 13) (fun _ _ => ?_) | refine GE.ol 2 (by as_aux_lemma => kernel_rfl) rfl rfl (og_runs (rv_loadW 1 rfl rfl rfl)) rfl (fun _ _ h => by first | exact h | exact h.drop 1 | exact h.drop 2 | exact h.drop 3 | exact h.drop 4 | exact h.drop 5 | exact h.drop 6 | exact h.drop 7 | exact h.drop 8 | exact h.drop 9 | exact h.drop 10 | exact h.drop 11 | exact h.drop 12 | exact h.drop 13) (fun _ _ => ?_) | refine GE.ol 2 (by as_aux_lemma => kernel_rfl) rfl rfl (og_runs (rv_loadW 2 rfl rfl rfl)) rfl (fun _ _ h => by first | exact h | exact h.drop 1 | exact h.drop 2 | exact h.drop 3 | exact h.drop 4 | exact h.drop 5 | exact h.drop 6 | exact h.drop 7 | exact h.drop 8 | exact h.drop 9 | exact h.drop 10 | exact h.drop 11 | exact h.drop 12 | exact h.drop 13) (fun _ _ => ?_) | refine GE.ol 2 (by as_aux_lemma => kernel_rfl) rfl rfl (og_runs (rv_loadW 3 rfl rfl rfl)) rfl (fun _ _ h => by first | exact h | exact h.drop 1 | exact h.drop 2 | exact h.drop 3 | exact h.drop 4 | exact h.drop 5 | exact h.drop 6 | exact h.drop 7 | exact h.drop 8 | exact h.drop 9 | exact h.drop 10 | exact h.drop 11 | exact h.drop 12 | exact h.drop 13) (fun _ _ => ?_) | refine GE.ol 2 (by as_aux_lemma => kernel_rfl) rfl rfl (og_runs (rv_loadP 0 rfl rfl (.one (.one (.one (.one (.one (.one (.one (.one (.one (.one .nil)))))))))))) rfl (fun _ _ h => by first | exact h | exact h.drop 1 | exact h.drop 2 | exact h.drop 3 | exact h.drop 4 | exact h.drop 5 | exact h.drop 6 | exact h.drop 7 | exact h.drop 8 | exact h.drop 9 | exact h.drop 10 | exact h.drop 11 | exact h.drop 12 | exact h.drop 13) (fun _ _ => ?_) | refine GE.ol 2 (by as_aux_lemma => kernel_rfl) rfl rfl (og_runs (rv_loadP 1 rfl rfl (.one (.one (.one (.one (.one (.one (.one (.one (.one (.one .nil)))))))))))) rfl (fun _ _ h => by first | exact h | exact h.drop 1 | exact h.drop 2 | exact h.drop 3 | exact h.drop 4 | exact h.drop 5 | exact h.drop 6 | exact h.drop 7 | exact h.drop 8 | exact h.drop 9 | exact h.drop 10 | exact h.drop 11 | exact h.drop 12 | exact h.drop 13) (fun _ _ => ?_) | refine GE.ol 2 (by as_aux_lemma => kernel_rfl) rfl rfl (og_runs (rv_loadP 2 rfl rfl (.one (.one (.one (.one (.one (.one (.one (.one (.one (.one .nil)))))))))))) rfl (fun _ _ h => by first | exact h | exact h.drop 1 | exact h.drop 2 | exact h.drop 3 | exact h.drop 4 | exact h.drop 5 | exact h.drop 6 | exact h.drop 7 | exact h.drop 8 | exact h.drop 9 | exact h.drop 10 | exact h.drop 11 | exact h.drop 12 | exact h.drop 13) (fun _ _ => ?_) | refine GE.ol 2 (by as_aux_lemma => kernel_rfl) rfl rfl (og_runs (rv_loadP 3 rfl rfl (.one (.one (.one (.one (.one (.one (.one (.one (.one (.one .nil)))))))))))) rfl (fun _ _ h => by first | exact h | exact h.drop 1 | exact h.drop 2 | exact h.drop 3 | exact h.drop 4 | exact h.drop 5 | exact h.drop 6 | exact h.drop 7 | exact h.drop 8 | exact h.drop 9 | exact h.drop 10 | exact h.drop 11 | exact h.drop 12 | exact h.drop 13) (fun _ _ => ?_))
  (refine GE.ol 3 (by as_aux_lemma => kernel_rfl) rfl rfl (og_callF1 rfl rfl (fun w hh => spresent_any (r := r) w (Rd.stays h _ hh) (Rd.stays h2 _ hh) (Rd.stays h3 _ hh))) rfl (fun _ _ h => by first | exact h | exact h.drop 1 | exact h.drop 2 | exact h.drop 3 | exact h.drop 4 | exact h.drop 5 | exact h.drop 6 | exact h.drop 7 | exact h.drop 8 | exact h.drop 9 | exact h.drop 10 | exact h.drop 11 | exact h.drop 12 | exact h.drop 13) ?_; rintro vk hvk; try dsimp only)
  (refine GE.ol 4 (by as_aux_lemma => kernel_rfl) rfl rfl (og_callF2 rfl rfl (fun w hh => sgroups_any (ps := r.pairs) (l := presI r) w (Rd.stays h _ hh) (by rw [← presI_cells]; first | exact Rd.owned 0 rfl _ hh | exact Rd.owned 1 rfl _ hh | exact Rd.owned 2 rfl _ hh) (presI_asc r) (fun x hx => presI_in hx))) rfl (fun _ _ h => by first | exact h | exact h.drop 1 | exact h.drop 2 | exact h.drop 3 | exact h.drop 4 | exact h.drop 5 | exact h.drop 6 | exact h.drop 7 | exact h.drop 8 | exact h.drop 9 | exact h.drop 10 | exact h.drop 11 | exact h.drop 12 | exact h.drop 13) ?_; rintro ⟨vo, os⟩ ⟨hvo, hos⟩; try dsimp only)
  refine GE.t 5 (by as_aux_lemma => kernel_rfl) rfl rfl rfl (og_runs (rv_assign rfl)) rfl (fun _ _ => ?_); refine GE.done (by as_aux_lemma => kernel_rfl) ?_; refine G.thenN (G.ret ?_)
  exact G.retF (vo, os) ⟨hvo, hos⟩ rfl rfl rfl (fun w hw => hw.sublist (by repeat (first | exact List.Sublist.refl _ | refine List.Sublist.cons_cons _ ?_ | refine List.Sublist.cons _ ?_)))
end
def clsAt (r : ReqM) (i : Nat) : Int := ((r.items[i]?).getD itemZ).cls
/-- The places of those units that a group holds. -/
def unitsIn (r : ReqM) (g : List Int) (l : List Nat) : List Nat := (l.zipIdx.filter (fun p => hasM g (clsAt r p.1))).map Prod.snd
theorem in_next {r : ReqM} {g : List Int} {l : List Nat} {k i : Nat} (hb : l[k]? = some i) : unitsIn r g (l.take (k + 1)) = unitsIn r g (l.take k) ++ (if hasM g (clsAt r i) then [k] else []) := by
  have hk := (List.getElem?_eq_some_iff.1 hb).1
  simp only [unitsIn, List.take_add_one, hb, Option.toList_some, List.zipIdx_append, List.filter_append, List.map_append, List.length_take]
  rw [Nat.min_eq_left (by omega)]
  cases h : hasM g (clsAt r i) <;> simp [h]
theorem in_yes {r : ReqM} {g : List Int} {l : List Nat} {k i : Nat} {x : ItemM} (hb : l[k]? = some i) (hx : r.items[i]? = some x) (h : hasM g x.cls = true) : (unitsIn r g (l.take k)).map ncell ++ [[.int .i64 (k : Int)]] = (unitsIn r g (l.take (k + 1))).map ncell := by
  rw [in_next hb, clsAt, hx, show (some x).getD itemZ = x from rfl, if_pos h, List.map_append]; rfl
theorem in_no {r : ReqM} {g : List Int} {l : List Nat} {k i : Nat} {x : ItemM} (hb : l[k]? = some i) (hx : r.items[i]? = some x) (h : hasM g x.cls = false) : (unitsIn r g (l.take k)).map ncell = (unitsIn r g (l.take (k + 1))).map ncell := by
  rw [in_next hb, clsAt, hx, if_neg (by rw [show (some x).getD itemZ = x from rfl, h]; decide), List.append_nil]
theorem in_len (r : ReqM) (g : List Int) (l : List Nat) : (unitsIn r g l).length ≤ l.length := by
  rw [unitsIn, List.length_map]
  have := List.length_filter_le (fun p : Nat × Nat => hasM g (clsAt r p.1)) l.zipIdx
  rwa [List.length_zipIdx] at this
/-- The units of a group of an order. -/
def unitsOfM (r : ReqM) (k : Int) : List Nat := if inB k 0 (((groupsOfM r).length : Int) - 1) then unitsIn r ((groupsOfM r).getD k.toNat []) (unitsM r) else []
theorem unitsOf_yes {r : ReqM} {ts : List (List Int × Value)} {m : Nat} {b : List Int × Value} (hM : ts.map Prod.fst = groupsOfM r) (hb : ts[m]? = some b) : unitsOfM r (m : Int) = unitsIn r b.1 (unitsM r) := by
  have hm := (List.getElem?_eq_some_iff.1 hb).1
  have e : (groupsOfM r)[m]? = some b.1 := by rw [← hM, List.getElem?_map, hb]; rfl
  have e2 : (groupsOfM r).length = ts.length := by rw [← hM, List.length_map]
  rw [unitsOfM, if_pos (by simp only [inB, Bool.and_eq_true, decide_eq_true_eq]; omega), Int.toNat_natCast, List.getD_eq_getElem?_getD, e]; rfl
theorem unitsOf_no {r : ReqM} {ts : List (List Int × Value)} {k : Int} (hM : ts.map Prod.fst = groupsOfM r) (h : inB k 0 (((ts.map gcell).length : Int) - 1) = false) : unitsOfM r k = [] := by
  have e2 : (ts.map gcell).length = (groupsOfM r).length := by rw [← hM]; simp
  rw [unitsOfM, ← e2, h]; rfl
theorem group_in {ts : List (List Int × Value)} {k : Int} (h : inB k 0 (((ts.map gcell).length : Int) - 1) = true) : ∃ (m : Nat) (b : List Int × Value), k = m ∧ ts[m]? = some b := by
  simp only [inB, Bool.and_eq_true, decide_eq_true_eq, List.length_map] at h
  obtain ⟨m, rfl⟩ : ∃ m : Nat, k = m := ⟨k.toNat, by omega⟩
  obtain ⟨b, hb⟩ := get_of_lt (l := ts) (k := m) (by omega)
  exact ⟨m, b, rfl, hb⟩
theorem group_sound {r : ReqM} {ts : List (List Int × Value)} {m : Nat} {b : List Int × Value} (hM : ts.map Prod.fst = groupsOfM r) (hb : ts[m]? = some b) : classM r = 0 := by
  rcases Classical.em (classM r = 0) with h | h
  · exact h
  · have e := congrArg List.length hM
    rw [groupsOf_no h, List.length_map] at e
    have hm := (List.getElem?_eq_some_iff.1 hb).1
    simp at e; simp [e] at hm
section
variable {r : ReqM} {pv tv iv : Value} (w : World) (h : Rd w pv 2 (r.pairs.map PairM.cells)) (h2 : Rd w tv 7 (r.types.map TypeM.cells)) (h3 : Rd w iv 7 (r.items.map ItemM.cells))
include h h2 h3
theorem sunitsOf_any (z : Int) : Fn Tryz.prog 27 [.agg (r.cells pv tv iv).toArray, .int .i64 z] w (fun v : Value => v.oneCell' = true) (fun v => v) (fun v => [.row v 3 1 ((unitsOfM r z).map ncell)]) := by
  have hun := unitsM_len r
  have hun2 : ((unitsM r).map ncell).length = (unitsM r).length := by simp
  refine Fn.of (n := 46) Tryz.func27 rfl rfl ?_; refine G.seq (G.region ?_); refine G.op (og_box rfl rfl) rfl (fun bk2 _ => ?_); refine G.v (rv_assign rfl) rfl (G.done (G.thenN (G.seq (G.region ?_)))); refine G.op (og_lit rfl .nil rfl rfl rfl rfl rfl rfl) rfl (fun vl _ => ?_); refine G.v (rv_assign rfl) rfl (G.done (G.thenN (G.seq (G.region ?_))))
  (first | refine G.v (rv_loadW 0 rfl rfl rfl) rfl ?_ | refine G.v (rv_loadW 1 rfl rfl rfl) rfl ?_ | refine G.v (rv_loadW 2 rfl rfl rfl) rfl ?_ | refine G.v (rv_loadW 3 rfl rfl rfl) rfl ?_ | refine G.v (rv_loadW 4 rfl rfl rfl) rfl ?_ | refine G.v (rv_loadW 5 rfl rfl rfl) rfl ?_ | refine G.v (rv_loadW 6 rfl rfl rfl) rfl ?_ | refine G.v (rv_loadP 0 rfl rfl (.one (.one (.one (.one (.one (.one (.one (.one (.one (.one .nil))))))))))) rfl ?_ | refine G.v (rv_loadP 1 rfl rfl (.one (.one (.one (.one (.one (.one (.one (.one (.one (.one .nil))))))))))) rfl ?_ | refine G.v (rv_loadP 2 rfl rfl (.one (.one (.one (.one (.one (.one (.one (.one (.one (.one .nil))))))))))) rfl ?_ | refine G.v (rv_loadP 3 rfl rfl (.one (.one (.one (.one (.one (.one (.one (.one (.one (.one .nil))))))))))) rfl ?_ | refine G.v (rv_loadP 4 rfl rfl (.one (.one (.one (.one (.one (.one (.one (.one (.one (.one .nil))))))))))) rfl ?_ | refine G.v (rv_loadP 5 rfl rfl (.one (.one (.one (.one (.one (.one (.one (.one (.one (.one .nil))))))))))) rfl ?_ | refine G.v (rv_loadP 6 rfl rfl (.one (.one (.one (.one (.one (.one (.one (.one (.one (.one .nil))))))))))) rfl ?_)
  (refine G.op (og_callF2 rfl rfl (fun w hh => sgroupsOf_any (r := r) w (Rd.stays h _ hh) (Rd.stays h2 _ hh) (Rd.stays h3 _ hh))) rfl ?_; rintro ⟨vo, ts⟩ ⟨hvo, hts⟩; try dsimp only)
  have hgl : (ts.map gcell).length ≤ 4 := by (have e := congrArg List.length hts; have := putAll_len (fun g x => joinsM r.pairs g x) (presI r); have h4 := presI_len r; simp only [List.length_map, groupsOfM, groupsM] at e ⊢; omega)
  refine G.v (rv_assign rfl) rfl (G.done (G.thenN (G.seq (G.seq (G.region (G.v (rv_move rfl) rfl (G.v (rv_move rfl) rfl ?_))))))); refine G.v (rv_len rfl (by first | exact Rd.stays (by assumption) | exact Rd.owned 0 rfl | exact Rd.owned 1 rfl | exact Rd.owned 2 rfl | exact Rd.owned 3 rfl | exact Rd.owned 4 rfl | exact Rd.owned 5 rfl | exact Rd.owned 6 rfl)) rfl ?_; refine G.v (rv_subB rfl rfl (by omega) (by omega)) rfl ?_; refine G.op (og_callV rfl rfl (fun w _ => l1In_any _ _ _ w)) rfl (fun _ _ => ?_); refine G.v (rv_not rfl) rfl (G.done (G.thenN ?_)); refine G.cond rfl (fun hc => ?_) (fun hc => ?_)
  · try exact Bool.noConfusion hc
    all_goals
     try replace hc := of_decide_eq_true hc
     try simp only [hun2] at hc
     try (exfalso; first | contradiction | omega)
     all_goals
      have hno : inB z 0 (((ts.map gcell).length : Int) - 1) = false := by simpa using hc
      all_goals
       refine G.seq (G.region (G.v (rv_move rfl) rfl (G.v (rv_assign rfl) rfl (G.done (G.thenN (G.ret (G.thenR ?_)))))))
       first | (refine G.know (fun w hw => (Rd.owned 0 rfl w hw).one_) (fun hone => G.retF v hone rfl rfl rfl (fun w hw => by rw [take_all (l := unitsM r) (by omega), ← unitsOf_yes hts hmg] at hw; exact hw.sublist (by repeat (first | exact List.Sublist.refl _ | refine List.Sublist.cons_cons _ ?_ | refine List.Sublist.cons _ ?_)))); done) | ((first | refine G.frontR0 vl rfl ?_ | refine G.frontR1 vl rfl ?_ | refine G.frontR2 vl rfl ?_ | refine G.frontR3 vl rfl ?_ | refine G.frontR4 vl rfl ?_ | refine G.frontR5 vl rfl ?_ | refine G.frontR6 vl rfl ?_ | refine G.frontR7 vl rfl ?_ | refine G.frontR8 vl rfl ?_ | refine G.frontR9 vl rfl ?_ | refine G.frontR10 vl rfl ?_ | refine G.frontR11 vl rfl ?_ | refine G.frontR12 vl rfl ?_ | refine G.frontR13 vl rfl ?_); refine G.know (fun w hw => (Rd.owned 0 rfl w hw).one_) (fun hone => G.retF vl hone rfl rfl rfl (fun w hw => by rw [unitsOf_no hts hno]; exact hw.sublist (by repeat (first | exact List.Sublist.refl _ | refine List.Sublist.cons_cons _ ?_ | refine List.Sublist.cons _ ?_)))))
  · try exact Bool.noConfusion hc
    all_goals
     try replace hc := of_decide_eq_false hc
     try simp only [hun2] at hc
     try (exfalso; first | contradiction | omega)
     all_goals
      obtain ⟨m, g, rfl, hmg⟩ := group_in (by simpa using hc : inB z 0 (((ts.map gcell).length : Int) - 1) = true)
      have heg := get_map hmg gcell
      have hyes := group_sound hts hmg
      all_goals
       refine G.skip (G.thenN (G.seq (G.region ?_)))
       (first | refine G.v (rv_loadW 0 rfl rfl rfl) rfl ?_ | refine G.v (rv_loadW 1 rfl rfl rfl) rfl ?_ | refine G.v (rv_loadW 2 rfl rfl rfl) rfl ?_ | refine G.v (rv_loadW 3 rfl rfl rfl) rfl ?_ | refine G.v (rv_loadW 4 rfl rfl rfl) rfl ?_ | refine G.v (rv_loadW 5 rfl rfl rfl) rfl ?_ | refine G.v (rv_loadW 6 rfl rfl rfl) rfl ?_ | refine G.v (rv_loadP 0 rfl rfl (.one (.one (.one (.one (.one (.one (.one (.one (.one (.one .nil))))))))))) rfl ?_ | refine G.v (rv_loadP 1 rfl rfl (.one (.one (.one (.one (.one (.one (.one (.one (.one (.one .nil))))))))))) rfl ?_ | refine G.v (rv_loadP 2 rfl rfl (.one (.one (.one (.one (.one (.one (.one (.one (.one (.one .nil))))))))))) rfl ?_ | refine G.v (rv_loadP 3 rfl rfl (.one (.one (.one (.one (.one (.one (.one (.one (.one (.one .nil))))))))))) rfl ?_ | refine G.v (rv_loadP 4 rfl rfl (.one (.one (.one (.one (.one (.one (.one (.one (.one (.one .nil))))))))))) rfl ?_ | refine G.v (rv_loadP 5 rfl rfl (.one (.one (.one (.one (.one (.one (.one (.one (.one (.one .nil))))))))))) rfl ?_ | refine G.v (rv_loadP 6 rfl rfl (.one (.one (.one (.one (.one (.one (.one (.one (.one (.one .nil))))))))))) rfl ?_)
       (refine G.op (og_callF1 rfl rfl (fun w hh => by have q := sl6Units_any (r := r) (pv := pv) (tv := tv) w (bounds_items (cls_sound hyes)) (bounds_lens (cls_sound hyes)).1 (Rd.stays h3 _ hh); rw [← unitsM_yes hyes] at q; exact q)) rfl ?_; rintro vu hvu; try dsimp only)
       refine G.v (rv_assign rfl) rfl (G.done (G.thenN (G.seq (G.seq (G.region (G.v (rv_assign rfl) rfl (G.done (G.thenN (G.block ?_)))))))))
       -- loop 0: turned [5, 8], kept [1, 2, 6, 7]
       (first | refine G.frontR0 vl rfl ?_ | refine G.frontR1 vl rfl ?_ | refine G.frontR2 vl rfl ?_ | refine G.frontR3 vl rfl ?_ | refine G.frontR4 vl rfl ?_ | refine G.frontR5 vl rfl ?_ | refine G.frontR6 vl rfl ?_ | refine G.frontR7 vl rfl ?_ | refine G.frontR8 vl rfl ?_ | refine G.frontR9 vl rfl ?_ | refine G.frontR10 vl rfl ?_ | refine G.frontR11 vl rfl ?_ | refine G.frontR12 vl rfl ?_ | refine G.frontR13 vl rfl ?_)
       refine G.loopK (ι := Nat × Value) (ks := [1, 2, 6, 7]) (fun x => [(5, x.2), (8, .int .i64 (x.1 : Int))]) (fun x => [.row x.2 3 1 ((unitsIn r g.1 ((unitsM r).take x.1)).map ncell)]) (fun x => x.1 ≤ (unitsM r).length) (fun x => (unitsM r).length - x.1) (0, vl) (.cons rfl (.cons rfl (.cons rfl (.cons rfl (.nil))))) rfl ?_ ?_ ?_
       · exact Nat.zero_le _
       · exact ⟨rfl, rfl, trivial⟩
       rintro ⟨k, v⟩ hk
       dsimp only at hk ⊢
       have hil := in_len r g.1 ((unitsM r).take k)
       have hil2 : ((unitsIn r g.1 ((unitsM r).take k)).map ncell).length = (unitsIn r g.1 ((unitsM r).take k)).length := by simp
       rw [List.length_take] at hil
       by_cases hlt : k < (unitsM r).length
       case' pos => (obtain ⟨i, hb⟩ := get_of_lt hlt; have e1 := get_map hb ncell; obtain ⟨x, hx⟩ := get_of_lt (unitsM_lt i (List.mem_of_getElem? hb)); have e3 := get_map hx ItemM.cells)
       all_goals
        refine G.seq (G.seq (G.region (G.v (rv_move rfl) rfl (G.v (rv_move rfl) rfl ?_)))); refine G.v (rv_len rfl (by first | exact Rd.stays (by assumption) | exact Rd.owned 0 rfl | exact Rd.owned 1 rfl | exact Rd.owned 2 rfl | exact Rd.owned 3 rfl | exact Rd.owned 4 rfl | exact Rd.owned 5 rfl | exact Rd.owned 6 rfl)) rfl ?_; refine G.v (rv_lss rfl rfl) rfl (G.done (G.thenN ?_)); refine G.cond rfl (fun hc => ?_) (fun hc => ?_)
        · try exact Bool.noConfusion hc
          all_goals
           try replace hc := of_decide_eq_true hc
           try simp only [hun2] at hc
           try (exfalso; first | contradiction | omega)
           all_goals
            refine G.skip (G.thenN (G.seq (G.block (G.seq ?_)))); refine G.drawL [] ?_; refine GE.q 0 rfl (by as_aux_lemma => kernel_rfl) rfl (qg_runs (rv_move rfl)) rfl ?_; refine GE.q 1 rfl (by as_aux_lemma => kernel_rfl) rfl (qg_runs (rv_move rfl)) rfl ?_
            (first | refine GE.q 2 rfl (by as_aux_lemma => kernel_rfl) rfl (qg_runs (rv_indexH rfl rfl (by first | exact Rd.stays (by assumption) | exact Rd.owned 0 rfl | exact Rd.owned 1 rfl | exact Rd.owned 2 rfl | exact Rd.owned 3 rfl | exact Rd.owned 4 rfl | exact Rd.owned 5 rfl | exact Rd.owned 6 rfl) rfl (by first | exact heg | exact e1 | exact e3))) rfl ?_ | refine GE.q 2 rfl (by as_aux_lemma => kernel_rfl) rfl (qg_runs (rv_index rfl rfl (by first | exact Rd.stays (by assumption) | exact Rd.owned 0 rfl | exact Rd.owned 1 rfl | exact Rd.owned 2 rfl | exact Rd.owned 3 rfl | exact Rd.owned 4 rfl | exact Rd.owned 5 rfl | exact Rd.owned 6 rfl) rfl (by assumption))) rfl ?_)
            refine GE.q 3 rfl (by as_aux_lemma => kernel_rfl) rfl (qg_runs (rv_loadE rfl (by first | exact Rd.stays (by assumption) | exact Rd.owned 0 rfl | exact Rd.owned 1 rfl | exact Rd.owned 2 rfl | exact Rd.owned 3 rfl | exact Rd.owned 4 rfl | exact Rd.owned 5 rfl | exact Rd.owned 6 rfl) (by first | exact heg | exact e1 | exact e3) rfl)) rfl ?_
            (first | refine GE.q 4 rfl (by as_aux_lemma => kernel_rfl) rfl (qg_runs (rv_field rfl)) rfl ?_ | refine GE.q 4 rfl (by as_aux_lemma => kernel_rfl) rfl (qg_runs (rv_fieldE rfl)) rfl ?_)
            (first | refine GE.q 5 rfl (by as_aux_lemma => kernel_rfl) rfl (qg_runs (rv_load1 0 rfl rfl rfl)) rfl ?_ | refine GE.q 5 rfl (by as_aux_lemma => kernel_rfl) rfl (qg_runs (rv_load1 1 rfl rfl rfl)) rfl ?_ | refine GE.q 5 rfl (by as_aux_lemma => kernel_rfl) rfl (qg_runs (rv_load1 2 rfl rfl rfl)) rfl ?_ | refine GE.q 5 rfl (by as_aux_lemma => kernel_rfl) rfl (qg_runs (rv_load1 3 rfl rfl rfl)) rfl ?_ | refine GE.q 5 rfl (by as_aux_lemma => kernel_rfl) rfl (qg_runs (rv_load1 4 rfl rfl rfl)) rfl ?_ | refine GE.q 5 rfl (by as_aux_lemma => kernel_rfl) rfl (qg_runs (rv_load1 5 rfl rfl rfl)) rfl ?_ | refine GE.q 5 rfl (by as_aux_lemma => kernel_rfl) rfl (qg_runs (rv_load1 6 rfl rfl rfl)) rfl ?_)
            refine GE.q 6 rfl (by as_aux_lemma => kernel_rfl) rfl (qg_runs (rv_move rfl)) rfl ?_; refine GE.ol 7 (by as_aux_lemma => kernel_rfl) rfl rfl (og_runs (rv_move rfl)) rfl (fun _ _ h => by first | exact h | exact h.drop 1 | exact h.drop 2 | exact h.drop 3 | exact h.drop 4 | exact h.drop 5 | exact h.drop 6 | exact h.drop 7 | exact h.drop 8 | exact h.drop 9 | exact h.drop 10 | exact h.drop 11 | exact h.drop 12 | exact h.drop 13) (fun _ _ => ?_)
            (first | refine GE.ol 8 (by as_aux_lemma => kernel_rfl) rfl rfl (og_runs (rv_indexH rfl rfl (by first | exact Rd.stays (by assumption) | exact Rd.owned 0 rfl | exact Rd.owned 1 rfl | exact Rd.owned 2 rfl | exact Rd.owned 3 rfl | exact Rd.owned 4 rfl | exact Rd.owned 5 rfl | exact Rd.owned 6 rfl) rfl (by first | exact heg | exact e1 | exact e3))) rfl (fun _ _ h => by first | exact h | exact h.drop 1 | exact h.drop 2 | exact h.drop 3 | exact h.drop 4 | exact h.drop 5 | exact h.drop 6 | exact h.drop 7 | exact h.drop 8 | exact h.drop 9 | exact h.drop 10 | exact h.drop 11 | exact h.drop 12 | exact h.drop 13) (fun _ _ => ?_) | refine GE.ol 8 (by as_aux_lemma => kernel_rfl) rfl rfl (og_runs (rv_index rfl rfl (by first | exact Rd.stays (by assumption) | exact Rd.owned 0 rfl | exact Rd.owned 1 rfl | exact Rd.owned 2 rfl | exact Rd.owned 3 rfl | exact Rd.owned 4 rfl | exact Rd.owned 5 rfl | exact Rd.owned 6 rfl) rfl (by assumption))) rfl (fun _ _ h => by first | exact h | exact h.drop 1 | exact h.drop 2 | exact h.drop 3 | exact h.drop 4 | exact h.drop 5 | exact h.drop 6 | exact h.drop 7 | exact h.drop 8 | exact h.drop 9 | exact h.drop 10 | exact h.drop 11 | exact h.drop 12 | exact h.drop 13) (fun _ _ => ?_))
            refine GE.ol 9 (by as_aux_lemma => kernel_rfl) rfl rfl (og_runs (rv_loadE rfl (by first | exact Rd.stays (by assumption) | exact Rd.owned 0 rfl | exact Rd.owned 1 rfl | exact Rd.owned 2 rfl | exact Rd.owned 3 rfl | exact Rd.owned 4 rfl | exact Rd.owned 5 rfl | exact Rd.owned 6 rfl) (by first | exact heg | exact e1 | exact e3) rfl)) rfl (fun _ _ h => by first | exact h | exact h.drop 1 | exact h.drop 2 | exact h.drop 3 | exact h.drop 4 | exact h.drop 5 | exact h.drop 6 | exact h.drop 7 | exact h.drop 8 | exact h.drop 9 | exact h.drop 10 | exact h.drop 11 | exact h.drop 12 | exact h.drop 13) (fun _ _ => ?_)
            (first | refine GE.ol 10 (by as_aux_lemma => kernel_rfl) rfl rfl (og_runs (rv_indexH rfl rfl (by first | exact Rd.stays (by assumption) | exact Rd.owned 0 rfl | exact Rd.owned 1 rfl | exact Rd.owned 2 rfl | exact Rd.owned 3 rfl | exact Rd.owned 4 rfl | exact Rd.owned 5 rfl | exact Rd.owned 6 rfl) rfl (by first | exact heg | exact e1 | exact e3))) rfl (fun _ _ h => by first | exact h | exact h.drop 1 | exact h.drop 2 | exact h.drop 3 | exact h.drop 4 | exact h.drop 5 | exact h.drop 6 | exact h.drop 7 | exact h.drop 8 | exact h.drop 9 | exact h.drop 10 | exact h.drop 11 | exact h.drop 12 | exact h.drop 13) (fun _ _ => ?_) | refine GE.ol 10 (by as_aux_lemma => kernel_rfl) rfl rfl (og_runs (rv_index rfl rfl (by first | exact Rd.stays (by assumption) | exact Rd.owned 0 rfl | exact Rd.owned 1 rfl | exact Rd.owned 2 rfl | exact Rd.owned 3 rfl | exact Rd.owned 4 rfl | exact Rd.owned 5 rfl | exact Rd.owned 6 rfl) rfl (by assumption))) rfl (fun _ _ h => by first | exact h | exact h.drop 1 | exact h.drop 2 | exact h.drop 3 | exact h.drop 4 | exact h.drop 5 | exact h.drop 6 | exact h.drop 7 | exact h.drop 8 | exact h.drop 9 | exact h.drop 10 | exact h.drop 11 | exact h.drop 12 | exact h.drop 13) (fun _ _ => ?_))
            (first | refine GE.ol 11 (by as_aux_lemma => kernel_rfl) rfl rfl (og_runs (rv_field rfl)) rfl (fun _ _ h => by first | exact h | exact h.drop 1 | exact h.drop 2 | exact h.drop 3 | exact h.drop 4 | exact h.drop 5 | exact h.drop 6 | exact h.drop 7 | exact h.drop 8 | exact h.drop 9 | exact h.drop 10 | exact h.drop 11 | exact h.drop 12 | exact h.drop 13) (fun _ _ => ?_) | refine GE.ol 11 (by as_aux_lemma => kernel_rfl) rfl rfl (og_runs (rv_fieldE rfl)) rfl (fun _ _ h => by first | exact h | exact h.drop 1 | exact h.drop 2 | exact h.drop 3 | exact h.drop 4 | exact h.drop 5 | exact h.drop 6 | exact h.drop 7 | exact h.drop 8 | exact h.drop 9 | exact h.drop 10 | exact h.drop 11 | exact h.drop 12 | exact h.drop 13) (fun _ _ => ?_))
            refine GE.ol 12 (by as_aux_lemma => kernel_rfl) rfl rfl (og_runs (rv_loadE rfl (by first | exact Rd.stays (by assumption) | exact Rd.owned 0 rfl | exact Rd.owned 1 rfl | exact Rd.owned 2 rfl | exact Rd.owned 3 rfl | exact Rd.owned 4 rfl | exact Rd.owned 5 rfl | exact Rd.owned 6 rfl) (by first | exact heg | exact e1 | exact e3) rfl)) rfl (fun _ _ h => by first | exact h | exact h.drop 1 | exact h.drop 2 | exact h.drop 3 | exact h.drop 4 | exact h.drop 5 | exact h.drop 6 | exact h.drop 7 | exact h.drop 8 | exact h.drop 9 | exact h.drop 10 | exact h.drop 11 | exact h.drop 12 | exact h.drop 13) (fun _ _ => ?_); refine GE.ol 13 (by as_aux_lemma => kernel_rfl) rfl rfl (og_callV rfl rfl (fun w hh => l1Has_any (l := g.1) x.cls w (Subs.at (by first | exact Subs.owned 0 rfl _ hh | exact Subs.owned 1 rfl _ hh | exact Subs.owned 2 rfl _ hh | exact Subs.owned 3 rfl _ hh | exact Subs.owned 4 rfl _ hh) hmg))) rfl (fun _ _ h => by first | exact h | exact h.drop 1 | exact h.drop 2 | exact h.drop 3 | exact h.drop 4 | exact h.drop 5 | exact h.drop 6 | exact h.drop 7 | exact h.drop 8 | exact h.drop 9 | exact h.drop 10 | exact h.drop 11 | exact h.drop 12 | exact h.drop 13) (fun _ _ => ?_); refine GE.done (by as_aux_lemma => kernel_rfl) ?_; refine G.thenN ?_; refine G.cond rfl (fun hc => ?_) (fun hc => ?_)
            · try exact Bool.noConfusion hc
              all_goals
               try replace hc := of_decide_eq_true hc
               try simp only [hun2] at hc
               try (exfalso; first | contradiction | omega)
               all_goals
                refine G.region (G.v (rv_move rfl) rfl (G.v (rv_move rfl) rfl ?_)); refine G.op (og_lit rfl (.cons rfl .nil) rfl rfl rfl rfl rfl rfl) rfl (fun vx _ => ?_)
                (first | refine G.op (og_app0 rfl rfl rfl (by first | exact Rd.stays (by assumption) | exact Rd.owned 0 rfl | exact Rd.owned 1 rfl | exact Rd.owned 2 rfl | exact Rd.owned 3 rfl | exact Rd.owned 4 rfl | exact Rd.owned 5 rfl | exact Rd.owned 6 rfl) rfl rfl (by first | (simp; done) | (simp; omega)) (by first | (simp; done) | (simp; omega))) rfl (fun va _ => ?_) | refine G.op (og_app1 rfl rfl rfl (by first | exact Rd.stays (by assumption) | exact Rd.owned 0 rfl | exact Rd.owned 1 rfl | exact Rd.owned 2 rfl | exact Rd.owned 3 rfl | exact Rd.owned 4 rfl | exact Rd.owned 5 rfl | exact Rd.owned 6 rfl) rfl rfl (by first | (simp; done) | (simp; omega)) (by first | (simp; done) | (simp; omega))) rfl (fun va _ => ?_) | refine G.op (og_app2 rfl rfl rfl (by first | exact Rd.stays (by assumption) | exact Rd.owned 0 rfl | exact Rd.owned 1 rfl | exact Rd.owned 2 rfl | exact Rd.owned 3 rfl | exact Rd.owned 4 rfl | exact Rd.owned 5 rfl | exact Rd.owned 6 rfl) rfl rfl (by first | (simp; done) | (simp; omega)) (by first | (simp; done) | (simp; omega))) rfl (fun va _ => ?_) | refine G.op (og_app3 rfl rfl rfl (by first | exact Rd.stays (by assumption) | exact Rd.owned 0 rfl | exact Rd.owned 1 rfl | exact Rd.owned 2 rfl | exact Rd.owned 3 rfl | exact Rd.owned 4 rfl | exact Rd.owned 5 rfl | exact Rd.owned 6 rfl) rfl rfl (by first | (simp; done) | (simp; omega)) (by first | (simp; done) | (simp; omega))) rfl (fun va _ => ?_) | refine G.op (og_app4 rfl rfl rfl (by first | exact Rd.stays (by assumption) | exact Rd.owned 0 rfl | exact Rd.owned 1 rfl | exact Rd.owned 2 rfl | exact Rd.owned 3 rfl | exact Rd.owned 4 rfl | exact Rd.owned 5 rfl | exact Rd.owned 6 rfl) rfl rfl (by first | (simp; done) | (simp; omega)) (by first | (simp; done) | (simp; omega))) rfl (fun va _ => ?_) | refine G.op (og_app5 rfl rfl rfl (by first | exact Rd.stays (by assumption) | exact Rd.owned 0 rfl | exact Rd.owned 1 rfl | exact Rd.owned 2 rfl | exact Rd.owned 3 rfl | exact Rd.owned 4 rfl | exact Rd.owned 5 rfl | exact Rd.owned 6 rfl) rfl rfl (by first | (simp; done) | (simp; omega)) (by first | (simp; done) | (simp; omega))) rfl (fun va _ => ?_) | refine G.op (og_app6 rfl rfl rfl (by first | exact Rd.stays (by assumption) | exact Rd.owned 0 rfl | exact Rd.owned 1 rfl | exact Rd.owned 2 rfl | exact Rd.owned 3 rfl | exact Rd.owned 4 rfl | exact Rd.owned 5 rfl | exact Rd.owned 6 rfl) rfl rfl (by first | (simp; done) | (simp; omega)) (by first | (simp; done) | (simp; omega))) rfl (fun va _ => ?_))
                refine G.v (rv_assign rfl) rfl (G.done (G.inN (G.thenN (G.region (G.v (rv_move rfl) rfl ?_)))))
                (first | refine G.v (rv_incr rfl rfl (by omega)) rfl ?_ | refine G.v (rv_addB rfl rfl (by omega) (by omega)) rfl ?_)
                refine G.v (rv_assign rfl) rfl (G.done ?_)
                first | refine G.backK (k + 1, va) 0 (by first | exact one_eq (congrArg (fun z => Ch.row va 3 1 z) (in_yes hb hx hc)) | exact one_eq (congrArg (fun z => Ch.row v 3 1 z) (in_no hb hx hc))) (.cons rfl (.cons rfl (.cons rfl (.cons rfl (.nil))))) (⟨rfl, rfl, trivial⟩) ?_ ?_ | refine G.backK (k + 1, va) 1 (by first | exact one_eq (congrArg (fun z => Ch.row va 3 1 z) (in_yes hb hx hc)) | exact one_eq (congrArg (fun z => Ch.row v 3 1 z) (in_no hb hx hc))) (.cons rfl (.cons rfl (.cons rfl (.cons rfl (.nil))))) (⟨rfl, rfl, trivial⟩) ?_ ?_ | refine G.backK (k + 1, va) 2 (by first | exact one_eq (congrArg (fun z => Ch.row va 3 1 z) (in_yes hb hx hc)) | exact one_eq (congrArg (fun z => Ch.row v 3 1 z) (in_no hb hx hc))) (.cons rfl (.cons rfl (.cons rfl (.cons rfl (.nil))))) (⟨rfl, rfl, trivial⟩) ?_ ?_ | refine G.backK (k + 1, v) 0 (by first | exact one_eq (congrArg (fun z => Ch.row va 3 1 z) (in_yes hb hx hc)) | exact one_eq (congrArg (fun z => Ch.row v 3 1 z) (in_no hb hx hc))) (.cons rfl (.cons rfl (.cons rfl (.cons rfl (.nil))))) (⟨rfl, rfl, trivial⟩) ?_ ?_ | refine G.backK (k + 1, v) 1 (by first | exact one_eq (congrArg (fun z => Ch.row va 3 1 z) (in_yes hb hx hc)) | exact one_eq (congrArg (fun z => Ch.row v 3 1 z) (in_no hb hx hc))) (.cons rfl (.cons rfl (.cons rfl (.cons rfl (.nil))))) (⟨rfl, rfl, trivial⟩) ?_ ?_ | refine G.backK (k + 1, v) 2 (by first | exact one_eq (congrArg (fun z => Ch.row va 3 1 z) (in_yes hb hx hc)) | exact one_eq (congrArg (fun z => Ch.row v 3 1 z) (in_no hb hx hc))) (.cons rfl (.cons rfl (.cons rfl (.cons rfl (.nil))))) (⟨rfl, rfl, trivial⟩) ?_ ?_
                · exact hlt
                · dsimp only; omega
            · try exact Bool.noConfusion hc
              all_goals
               try replace hc := of_decide_eq_false hc
               try simp only [hun2] at hc
               try (exfalso; first | contradiction | omega)
               all_goals
                refine G.skip (G.inN (G.thenN (G.region (G.v (rv_move rfl) rfl ?_))))
                (first | refine G.v (rv_incr rfl rfl (by omega)) rfl ?_ | refine G.v (rv_addB rfl rfl (by omega) (by omega)) rfl ?_)
                refine G.v (rv_assign rfl) rfl (G.done ?_)
                first | refine G.backK (k + 1, va) 0 (by first | exact one_eq (congrArg (fun z => Ch.row va 3 1 z) (in_yes hb hx hc)) | exact one_eq (congrArg (fun z => Ch.row v 3 1 z) (in_no hb hx hc))) (.cons rfl (.cons rfl (.cons rfl (.cons rfl (.nil))))) (⟨rfl, rfl, trivial⟩) ?_ ?_ | refine G.backK (k + 1, va) 1 (by first | exact one_eq (congrArg (fun z => Ch.row va 3 1 z) (in_yes hb hx hc)) | exact one_eq (congrArg (fun z => Ch.row v 3 1 z) (in_no hb hx hc))) (.cons rfl (.cons rfl (.cons rfl (.cons rfl (.nil))))) (⟨rfl, rfl, trivial⟩) ?_ ?_ | refine G.backK (k + 1, va) 2 (by first | exact one_eq (congrArg (fun z => Ch.row va 3 1 z) (in_yes hb hx hc)) | exact one_eq (congrArg (fun z => Ch.row v 3 1 z) (in_no hb hx hc))) (.cons rfl (.cons rfl (.cons rfl (.cons rfl (.nil))))) (⟨rfl, rfl, trivial⟩) ?_ ?_ | refine G.backK (k + 1, v) 0 (by first | exact one_eq (congrArg (fun z => Ch.row va 3 1 z) (in_yes hb hx hc)) | exact one_eq (congrArg (fun z => Ch.row v 3 1 z) (in_no hb hx hc))) (.cons rfl (.cons rfl (.cons rfl (.cons rfl (.nil))))) (⟨rfl, rfl, trivial⟩) ?_ ?_ | refine G.backK (k + 1, v) 1 (by first | exact one_eq (congrArg (fun z => Ch.row va 3 1 z) (in_yes hb hx hc)) | exact one_eq (congrArg (fun z => Ch.row v 3 1 z) (in_no hb hx hc))) (.cons rfl (.cons rfl (.cons rfl (.cons rfl (.nil))))) (⟨rfl, rfl, trivial⟩) ?_ ?_ | refine G.backK (k + 1, v) 2 (by first | exact one_eq (congrArg (fun z => Ch.row va 3 1 z) (in_yes hb hx hc)) | exact one_eq (congrArg (fun z => Ch.row v 3 1 z) (in_no hb hx hc))) (.cons rfl (.cons rfl (.cons rfl (.cons rfl (.nil))))) (⟨rfl, rfl, trivial⟩) ?_ ?_
                · exact hlt
                · dsimp only; omega
        · try exact Bool.noConfusion hc
          all_goals
           try replace hc := of_decide_eq_false hc
           try simp only [hun2] at hc
           try (exfalso; first | contradiction | omega)
           all_goals
            refine G.exit (G.thenX (G.thenX (G.inX (G.thenN (G.seq (G.region (G.v (rv_move rfl) rfl (G.v (rv_assign rfl) rfl (G.done (G.thenN (G.ret ?_)))))))))))
            first | (refine G.know (fun w hw => (Rd.owned 0 rfl w hw).one_) (fun hone => G.retF v hone rfl rfl rfl (fun w hw => by rw [take_all (l := unitsM r) (by omega), ← unitsOf_yes hts hmg] at hw; exact hw.sublist (by repeat (first | exact List.Sublist.refl _ | refine List.Sublist.cons_cons _ ?_ | refine List.Sublist.cons _ ?_)))); done) | ((first | refine G.frontR0 vl rfl ?_ | refine G.frontR1 vl rfl ?_ | refine G.frontR2 vl rfl ?_ | refine G.frontR3 vl rfl ?_ | refine G.frontR4 vl rfl ?_ | refine G.frontR5 vl rfl ?_ | refine G.frontR6 vl rfl ?_ | refine G.frontR7 vl rfl ?_ | refine G.frontR8 vl rfl ?_ | refine G.frontR9 vl rfl ?_ | refine G.frontR10 vl rfl ?_ | refine G.frontR11 vl rfl ?_ | refine G.frontR12 vl rfl ?_ | refine G.frontR13 vl rfl ?_); refine G.know (fun w hw => (Rd.owned 0 rfl w hw).one_) (fun hone => G.retF vl hone rfl rfl rfl (fun w hw => by rw [unitsOf_no hts hno]; exact hw.sublist (by repeat (first | exact List.Sublist.refl _ | refine List.Sublist.cons_cons _ ?_ | refine List.Sublist.cons _ ?_)))))
end
theorem unitsOf_len (r : ReqM) (z : Int) : (unitsOfM r z).length ≤ 48 := by
  rw [unitsOfM]
  split
  · have h1 := in_len r ((groupsOfM r).getD z.toNat []) (unitsM r)
    have h2 := unitsM_len r
    omega
  · simp
end Go.Proofs.YtibkggjbkgdnkaaGreat

/-
  Boxes that are put on shelves, the deepest first: no program is in sight here.
-/
namespace Go.Proofs.YtibkggjbkgdnkaaGreat
open Go.RowKit
def keyM (ks : List Int) (i : Nat) : Int := -(ks.getD i 0)
theorem keyM_get {ks : List Int} {i : Nat} {k : Int} (h : ks[i]? = some k) : keyM ks i = -k := by simp [keyM, List.getD_eq_getElem?_getD, h]
def shelfRoom (p : PalletM) (t : ShelfM) (b : BoxM) : Bool := decide (t.w + b.w ≤ p.w) && decide (t.g + b.g ≤ p.g)
def shelfAdd (t : ShelfM) (k : Nat) (b : BoxM) : ShelfM := ⟨t.l ++ [(k : Int)], t.w + b.w, max t.d b.d, max t.h b.h, t.g + b.g⟩
def shelfZ : ShelfM := ⟨[], 0, 0, 0, 0⟩
def boxAt (l : List BoxM) (i : Nat) : BoxM := l.getD i ⟨0, 0, 0, 0⟩
def shelfXs (l : List BoxM) : List (BoxM × Nat) := (ordM (keyM (l.map BoxM.d)) l.length).map fun i => (boxAt l i, i)
def shelvesM (p : PalletM) (l : List BoxM) : List ShelfM := if boxesOkM p l then pile (shelfRoom p) shelfAdd shelfZ (shelfXs l) else []
/-- Whether a unit is there. -/
def hereM (r : ReqM) (u : Int) : Bool := inB u 0 (((unitsM r).length : Int) - 1)
/-- The units that are there. -/
def thereM (r : ReqM) (us : List Int) : List Int := us.filter (hereM r)
theorem thereM_len (r : ReqM) (us : List Int) : (thereM r us).length ≤ us.length := List.length_filter_le _ _
theorem thereM_no {r : ReqM} (h : ¬ classM r = 0) (us : List Int) : thereM r us = [] := by
  refine List.filter_eq_nil_iff.2 (fun u _ => ?_)
  simp only [hereM, unitsM_no h, inB, List.length_nil, Bool.and_eq_true, decide_eq_true_eq]
  omega
/-- Whether units are at most what the master carton holds. -/
def holdsM (r : ReqM) (us : List Int) : Bool := decide (volUS r us ≤ volM (mst r).w (mst r).h (mst r).d) && decide (gramM r us ≤ (mst r).g)
/-- Whether there is room for a unit more. -/
def roomM (r : ReqM) (g : List Int) (u : Int) : Bool := decide (classM r = 0) && holdsM r (g ++ [u])
theorem room_yes {r : ReqM} (h : classM r = 0) (g : List Int) (u : Int) : roomM r g u = holdsM r (g ++ [u]) := by rw [roomM, decide_eq_true h, Bool.true_and]
/-- x is put into the last list if p holds of it, or into a list of its own. -/
def lastM (p : List Int → Bool) (l : List (List Int)) (x : Int) : List (List Int) := match l.getLast? with
  | some g => if p g then l.set (l.length - 1) (g ++ [x]) else l ++ [[x]]
  | none => l ++ [[x]]
theorem last_nil {p : List Int → Bool} {l : List (List Int)} {x : Int} (h : l.length = 0) : lastM p l x = l ++ [[x]] := by
  rw [List.length_eq_zero_iff.1 h]; rfl
theorem last_no {p : List Int → Bool} {l : List (List Int)} {k : Nat} {b : List Int} {x : Int} (hb : l[k]? = some b) (hk : l.length = k + 1) (h : p b = false) : lastM p l x = l ++ [[x]] := by
  have e : l.getLast? = some b := by rw [List.getLast?_eq_getElem?, hk, ← hb]; rfl
  rw [lastM, e]; simp only [h]; rfl
theorem last_yes {p : List Int → Bool} {l : List (List Int)} {k : Nat} {b : List Int} {x : Int} (hb : l[k]? = some b) (hk : l.length = k + 1) (h : p b = true) : lastM p l x = l.set k (b ++ [x]) := by
  have e : l.getLast? = some b := by rw [List.getLast?_eq_getElem?, hk, ← hb]; rfl
  rw [lastM, e]; simp only [h, if_true]; rw [hk]; rfl
def lastAll (p : List Int → Int → Bool) (l : List Int) : List (List Int) := l.foldl (fun out x => lastM (fun g => p g x) out x) []
theorem lastAll_next {p : List Int → Int → Bool} {l : List Int} {k : Nat} {x : Int} (h : l[k]? = some x) : lastAll p (l.take (k + 1)) = lastM (fun g => p g x) (lastAll p (l.take k)) x := foldl_take_succ h _ []
theorem sum_set : ∀ {l : List (List Int)} {k : Nat} {b : List Int} (x : Int), l[k]? = some b → ((l.set k (b ++ [x])).map List.length).sum = (l.map List.length).sum + 1
  | [], k, b, x, h => by simp at h
  | a :: r, 0, b, x, h => by
    simp at h; subst h
    simp only [List.set_cons_zero, List.map_cons, List.sum_cons, List.length_append, List.length_singleton]; omega
  | a :: r, k + 1, b, x, h => by
    simp only [List.getElem?_cons_succ] at h
    have := sum_set x h
    simp only [List.set_cons_succ, List.map_cons, List.sum_cons]; omega
theorem last_sum (p : List Int → Bool) (x : Int) (l : List (List Int)) : ((lastM p l x).map List.length).sum = (l.map List.length).sum + 1 := by
  unfold lastM
  split
  · rename_i g hg
    rw [List.getLast?_eq_getElem?] at hg
    split
    · exact sum_set x hg
    · simp
  · simp
theorem last_lenle (p : List Int → Bool) (x : Int) (l : List (List Int)) : (lastM p l x).length ≤ l.length + 1 := by
  unfold lastM
  split
  · split
    · simp
    · simp
  · simp
theorem lastAll_sumG (p : List Int → Int → Bool) : ∀ (l : List Int) (out : List (List Int)), ((l.foldl (fun out x => lastM (fun g => p g x) out x) out).map List.length).sum = (out.map List.length).sum + l.length
  | [], out => by simp
  | x :: r, out => by
    rw [List.foldl_cons, lastAll_sumG p r, last_sum, List.length_cons]; omega
theorem lastAll_lenG (p : List Int → Int → Bool) : ∀ (l : List Int) (out : List (List Int)), (l.foldl (fun out x => lastM (fun g => p g x) out x) out).length ≤ out.length + l.length
  | [], out => by simp
  | x :: r, out => by
    have h1 := lastAll_lenG p r (lastM (fun g => p g x) out x)
    have h2 := last_lenle (fun g => p g x) x out
    rw [List.foldl_cons, List.length_cons]; omega
theorem lastAll_sum (p : List Int → Int → Bool) (l : List Int) : ((lastAll p l).map List.length).sum = l.length := by rw [lastAll, lastAll_sumG]; simp
theorem lastAll_len (p : List Int → Int → Bool) (l : List Int) : (lastAll p l).length ≤ l.length := by have := lastAll_lenG p l []; simpa [lastAll] using this
theorem lastAll_at {p : List Int → Int → Bool} {l : List Int} {q : Nat} {g : List Int} (h : (lastAll p l)[q]? = some g) : g.length ≤ l.length := by
  have := len_le_sum (List.mem_of_getElem? h); rwa [lastAll_sum] at this
/-- The cartons of next fit. -/
def nextM (r : ReqM) (us : List Int) : List (List Int) := lastAll (roomM r) (thereM r us)
/-- Units by their volume, the greatest first. -/
def ordU (r : ReqM) (t : List Int) : List Int := (ordM (keyM (t.map (vOf r))) t.length).map (fun i => t.getD i 0)
theorem ordU_at {r : ReqM} {t : List Int} {k x : Nat} {u : Int} (hx : (ordM (keyM (t.map (vOf r))) t.length)[k]? = some x) (hu : t[x]? = some u) : (ordU r t)[k]? = some u := by
  rw [ordU, List.getElem?_map, hx, Option.map_some, List.getD_eq_getElem?_getD, hu]; rfl
theorem ordU_len (r : ReqM) (t : List Int) : (ordU r t).length = t.length := by rw [ordU, List.length_map, ordM_len]
/-- The cartons of first fit. -/
def firstM (r : ReqM) (us : List Int) : List (List Int) := putAll (roomM r) (ordU r (thereM r us))
end Go.Proofs.YtibkggjbkgdnkaaGreat

/-
  Numbers that are struck out of a list; the units that are there.
-/
namespace Go.Proofs.YtibkggjbkgdnkaaGreat
open Go.RowKit
attribute [local irreducible] Go.wpList Go.Code.wp Go.Exit.then Go.Exit.inBlock Go.bodyPost Go.Calls pE pB G RunsV FnV Fn FnM
set_option maxRecDepth 100000
set_option maxHeartbeats 4000000
def keptM (p : Int → Bool) (l : List Int) (j : Nat) : List Int := (l.take j).filter fun x => !p x
theorem kept_yes {p : Int → Bool} {l : List Int} {j : Nat} {b : Int} (hb : l[j]? = some b) (h : (!p b) = true) : keptM p l (j + 1) = keptM p l j ++ [b] := by
  simp only [keptM, List.take_add_one, hb, Option.toList_some, List.filter_append, List.filter_cons, h, List.filter_nil, if_true]
theorem kept_no {p : Int → Bool} {l : List Int} {j : Nat} {b : Int} (hb : l[j]? = some b) (h : (!p b) = false) : keptM p l (j + 1) = keptM p l j := by
  simp [keptM, List.take_add_one, hb, List.filter_append, List.filter_cons, h]
theorem kept_len (p : Int → Bool) (l : List Int) (j : Nat) : (keptM p l j).length ≤ j := by
  have h1 := List.length_filter_le (fun x => !p x) (l.take j)
  have h2 := List.length_take_le j l
  rw [keptM]; omega
theorem kept_all {p : Int → Bool} {l : List Int} {j : Nat} (h : l.length ≤ j) : keptM p l j = l.filter fun x => !p x := by rw [keptM, List.take_of_length_le h]
theorem kept_first {p : Int → Bool} {l : List Int} {k : Nat} {b : Int} (h : (l.take k).any p = false) (hb : l[k]? = some b) (hp : p b = true) : keptM p l (k + 1) = l.take k := by
  rw [kept_no hb (by rw [hp]; rfl), keptM, List.filter_eq_self.2 (fun x hx => by have := List.any_eq_false.1 h x hx; simpa using this)]
/-- The row while numbers are struck out of it. -/
def keptRow (p : Int → Bool) (l : List Int) (j : Nat) : List Int := keptM p l j ++ l.drop (keptM p l j).length
theorem keptRow_len {p : Int → Bool} {l : List Int} {j : Nat} (h : j ≤ l.length) : (keptRow p l j).length = l.length := by
  have := kept_len p l j
  rw [keptRow, List.length_append, List.length_drop]; omega
theorem keptRow_get {p : Int → Bool} {l : List Int} {j i : Nat} (h : (keptM p l j).length ≤ i) : (keptRow p l j)[i]? = l[i]? := by
  rw [keptRow, List.getElem?_append_right h, List.getElem?_drop]; congr 1; omega
theorem keptRow_set {p : Int → Bool} {l : List Int} {j : Nat} {b : Int} (hb : l[j]? = some b) (h : (!p b) = true) : (keptRow p l j).set (keptM p l j).length b = keptRow p l (j + 1) := by
  have hk := (List.getElem?_eq_some_iff.1 hb).1
  have hl := kept_len p l j
  rw [keptRow, keptRow, kept_yes hb h, List.set_append_right _ _ (Nat.le_refl _), Nat.sub_self, List.length_append, List.append_assoc]
  congr 1
  rw [List.drop_eq_getElem_cons (show (keptM p l j).length < l.length by omega), List.set_cons_zero]
  rfl
theorem kept_cut {p : Int → Bool} {l : List Int} {j q : Nat} {z : List Value} : ((((keptRow p l j).map icell).take (keptM p l j).length) ++ List.replicate q z).take (keptM p l j).length = (keptM p l j).map icell := by
  have e : ((keptRow p l j).map icell).take (keptM p l j).length = (keptM p l j).map icell := by
    rw [← List.map_take, keptRow, List.take_left']; rfl
  rw [e, List.take_left']; simp
theorem kept_begin {p : Int → Bool} {l : List Int} {k : Nat} {b : Int} (h : (l.take k).any p = false) (hb : l[k]? = some b) (hp : p b = true) : keptRow p l (k + 1) = l := by
  have hk := (List.getElem?_eq_some_iff.1 hb).1
  rw [keptRow, kept_first h hb hp, List.length_take, Nat.min_eq_left (by omega), List.take_append_drop]
section
variable {w0 : World} {F : List Ch} {v : Value}
theorem deleteFunc_any {g : Nat} [FnOk Tryz.prog g] {cap : List Value} {l : List Int} {p : Int → Bool} (hn : l.length ≤ 1048576) (hf : ∀ (w' : World) (x : Int), HeapOk w0 w' F → FnV Tryz.prog g ([.int .i64 x] ++ cap) w' (.bool (p x))) :
    FnMF Tryz.prog 160 [v, .func (.func g) #[] cap.toArray] w0 [.row v 3 1 (l.map icell)] F (fun x : Value => x.oneCell' = true) (fun x => x) (fun x => [.row x 3 1 ((l.filter fun x => !p x).map icell)]) := by
  have hln : (l.map icell).length = l.length := by simp
  refine FnMF.of (n := 42) Tryz.func160 rfl rfl ?_; refine G.know (fun w hw => (Rd.owned 0 rfl w hw).one_) (fun hone => ?_); refine G.seq (G.region (G.v (rv_assign rfl) rfl (G.done (G.thenN (G.seq (G.region (G.v (rv_move rfl) rfl (G.v (rv_move rfl) rfl ?_)))))))); refine G.op (og_callV rfl rfl (fun w hh => indexInt_any (l := l) (p := p) w (Rd.owned 0 rfl _ hh) (fun w' k b hw _ => hf w' b ((hh.call hw).sublist (List.sublist_cons_self _ _))))) rfl (fun _ _ => ?_); refine G.v (rv_assign rfl) rfl (G.done (G.thenN (G.seq (G.seq (G.region (G.v (rv_move rfl) rfl (G.v (rv_eql rfl rfl) rfl (G.done (G.thenN ?_))))))))); refine G.cond rfl (fun hc => ?_) (fun hc => ?_)
  · try exact Bool.noConfusion hc
    all_goals
     try replace hc := of_decide_eq_true hc
     try simp only [List.length_map] at hc
     try (exfalso; contradiction)
     all_goals
      have hall : l.filter (fun x => !p x) = l := (by rcases idx_cases p l with ⟨_, e⟩ | ⟨k, b, e, _⟩; (exact List.filter_eq_self.2 (fun x hx => by have := List.any_eq_false.1 e x hx; simpa using this)); (exfalso; omega))
      all_goals
       refine G.seq (G.region (G.v (rv_move rfl) rfl (G.v (rv_assign rfl) rfl (G.done (G.thenN (G.ret (G.thenR ?_)))))))
       (exact G.retF v hone rfl rfl rfl (fun w hw => by rw [hall]; exact hw))
  · try exact Bool.noConfusion hc
    all_goals
     try replace hc := of_decide_eq_false hc
     try simp only [List.length_map] at hc
     try (exfalso; contradiction)
     all_goals
      obtain ⟨k0, b0, hq, hb0, hp0, hbt⟩ : ∃ (k : Nat) (b : Int), idxM p l = (k : Int) ∧ l[k]? = some b ∧ p b = true ∧ (l.take k).any p = false := (by rcases idx_cases p l with ⟨e, _⟩ | e; (exfalso; omega); (exact e))
      have hk0 := (List.getElem?_eq_some_iff.1 hb0).1
      all_goals
       refine G.skip (G.thenN (G.seq (G.seq (G.region (G.v (rv_move rfl) rfl ?_))))); refine G.v (rv_addB rfl rfl (by omega) (by omega)) rfl ?_; refine G.v (rv_assign rfl) rfl (G.done (G.thenN (G.block ?_)))
       -- loop 0: turned [5, 6], kept [0, 1]
       refine G.rowEq ((keptRow p l (k0 + 1)).map icell) (by rw [kept_begin hbt hb0 hp0]) rfl ?_
       have hD0 : (keptM p l (k0 + 1)).length = k0 := by rw [kept_first hbt hb0 hp0, List.length_take]; omega
       refine G.loopK (ι := Nat) (ks := [0, 1]) (fun j => [(5, .int .i64 ((keptM p l j).length : Int)), (6, .int .i64 (j : Int))]) (fun j => [.row v 3 1 ((keptRow p l j).map icell)]) (fun j => j ≤ l.length ∧ (keptM p l j).length + 1 ≤ j) (fun j => l.length - j) (k0 + 1) (.cons rfl (.cons rfl (.nil))) rfl ?_ ?_ ?_
       · exact ⟨by omega, by rw [hD0]; omega⟩
       · exact ⟨congrArg (fun z => some (Value.int .i64 z)) (by rw [hD0]; exact hq), congrArg (fun z => some (Value.int .i64 z)) (by rw [hq]; rfl), trivial⟩
       rintro j ⟨hj, hD⟩
       have hrl := keptRow_len (p := p) hj
       have hrl2 : ((keptRow p l j).map icell).length = l.length := by rw [List.length_map, hrl]
       by_cases hlt : j < l.length
       case' pos => (obtain ⟨b, hb⟩ := get_of_lt hlt; have e1 : ((keptRow p l j).map icell)[j]? = some (icell b) := get_map (by rw [keptRow_get (by omega)]; exact hb) icell; obtain ⟨c3, hc3⟩ := get_of_lt (l := keptRow p l j) (k := (keptM p l j).length) (by omega); have e3 := get_map hc3 icell)
       all_goals
        refine G.seq (G.seq (G.region (G.v (rv_move rfl) rfl (G.v (rv_move rfl) rfl ?_)))); refine G.v (rv_len rfl (by exact Rd.owned 0 rfl)) rfl ?_; refine G.v (rv_lss rfl rfl) rfl (G.done (G.thenN ?_)); refine G.cond rfl (fun hc => ?_) (fun hc => ?_)
        · try exact Bool.noConfusion hc
          all_goals
           try replace hc := of_decide_eq_true hc
           try simp only [List.length_map] at hc
           try (exfalso; omega)
           all_goals
            refine G.skip (G.thenN (G.seq (G.block (G.seq (G.region (G.v (rv_move rfl) rfl (G.v (rv_move rfl) rfl ?_))))))); refine G.v (rv_indexH rfl rfl (by exact Rd.owned 0 rfl) rfl (by exact e1)) rfl ?_; refine G.v (rv_loadE rfl (by exact Rd.owned 0 rfl) (by exact e1) rfl) rfl ?_; refine G.v (rv_assign rfl) rfl (G.done (G.thenN (G.seq (G.region (G.v (rv_move rfl) rfl (G.v (rv_move rfl) rfl ?_)))))); refine G.op (og_callV rfl rfl (fun w hh => hf w b (hh.drop 1))) rfl (fun _ _ => ?_); refine G.v (rv_not rfl) rfl (G.done (G.thenN ?_)); refine G.cond rfl (fun hc => ?_) (fun hc => ?_)
            · try exact Bool.noConfusion hc
              all_goals
               try replace hc := of_decide_eq_true hc
               try simp only [List.length_map] at hc
               try (exfalso; contradiction)
               all_goals
                refine G.seq (G.region (G.v (rv_move rfl) rfl (G.v (rv_move rfl) rfl (G.v (rv_move rfl) rfl ?_)))); refine G.v (rv_indexH rfl rfl (by exact Rd.owned 0 rfl) rfl (by exact e3)) rfl ?_; refine G.op0 (og_stE0 rfl rfl rfl (by exact e3) rfl rfl rfl rfl (.zero (.cons .nil))) (fun _ _ => ?_); refine G.done (G.thenN (G.region (G.v (rv_move rfl) rfl ?_))); refine G.v (rv_incr rfl rfl (by omega)) rfl ?_; refine G.v (rv_assign rfl) rfl (G.done (G.inN (G.thenN (G.region (G.v (rv_move rfl) rfl ?_))))); refine G.v (rv_incr rfl rfl (by omega)) rfl ?_; refine G.v (rv_assign rfl) rfl (G.done ?_); refine G.backK (j + 1) 0 (by exact one_eq (congrArg (fun z => Ch.row v 3 1 z) ((List.map_set (f := icell)).symm.trans (congrArg (List.map icell) (keptRow_set hb hc))))) (.cons rfl (.cons rfl (.nil))) ?_ ?_ ?_
                · (exact ⟨congrArg (fun z : Nat => some (Value.int .i64 (z : Int))) (by rw [kept_yes hb hc, List.length_append]; rfl), rfl, trivial⟩)
                · refine ⟨by omega, ?_⟩; (rw [kept_yes hb hc, List.length_append]; simp; omega)
                · omega
            · try exact Bool.noConfusion hc
              all_goals
               try replace hc := of_decide_eq_false hc
               try simp only [List.length_map] at hc
               try (exfalso; contradiction)
               all_goals
                refine G.skip (G.inN (G.thenN (G.region (G.v (rv_move rfl) rfl ?_)))); refine G.v (rv_incr rfl rfl (by omega)) rfl ?_; refine G.v (rv_assign rfl) rfl (G.done ?_); refine G.backK (j + 1) 0 (by (exact one_eq (congrArg (fun z : List Int => Ch.row v 3 1 (z.map icell)) (show keptRow p l j = keptRow p l (j + 1) by simp only [keptRow]; rw [kept_no hb hc])))) (.cons rfl (.cons rfl (.nil))) ?_ ?_ ?_
                · exact ⟨congrArg (fun z : Nat => some (Value.int .i64 (z : Int))) (by rw [kept_no hb hc]), rfl, trivial⟩
                · refine ⟨by omega, ?_⟩; (rw [kept_no hb hc]; omega)
                · omega
        · try exact Bool.noConfusion hc
          all_goals
           try replace hc := of_decide_eq_false hc
           try simp only [List.length_map] at hc
           try (exfalso; omega)
           all_goals
            refine G.exit (G.thenX (G.thenX (G.inX (G.thenN (G.seq (G.region (G.v (rv_move rfl) rfl (G.v (rv_move rfl) rfl ?_)))))))); refine G.v (rv_sliceL rfl rfl (by exact Rd.owned 0 rfl) (by omega)) rfl ?_; refine G.op0 (og_clear0 ((keptM p l j).length) rfl rfl rfl (by omega) rfl) (fun _ _ => ?_); refine G.done (G.thenN (G.seq (G.region (G.v (rv_move rfl) rfl (G.v (rv_move rfl) rfl ?_))))); refine G.v (rv_sliceH rfl rfl (Rd.owned 0 rfl) (by simp; omega)) rfl ?_; refine G.v (rv_assign rfl) rfl (G.done (G.thenN (G.ret ?_)))
            (refine G.cutRow (keptM p l j).length (by simp; omega) rfl ?_; refine G.know (fun w hw => (Rd.owned 0 rfl w hw).one_) (fun hone2 => ?_); exact G.retF _ hone2 rfl rfl rfl (fun w hw => by rw [kept_cut] at hw; rw [← kept_all (p := p) (l := l) (j := j) (by omega)]; exact hw))
end
theorem thereOf1_any (x : Int) (n : Nat) {q : Nat} (w : World) (h : Rd w (.slice (some ⟨q, 0, none⟩) 1 1) 1 [[.int .i64 (n : Int)]]) (hn : n ≤ 1048576) : FnV Tryz.prog 161 [.int .i64 x, pB q 0] w (.bool (!inB x 0 ((n : Int) - 1))) := by
  rw [pB_eq_pE q 1]
  refine FnV.of (n := 9) Tryz.func161 rfl rfl ?_; refine G.seq (G.region (G.v (rv_assign rfl) rfl (G.done (G.thenN (G.seq (G.region (G.v (rv_move rfl) rfl ?_))))))); refine G.v (rv_loadE rfl (by exact Rd.stays (by assumption)) rfl rfl) rfl ?_; refine G.v (rv_subB rfl rfl (by omega) (by omega)) rfl ?_; refine G.op (og_callV rfl rfl (fun w _ => in_any _ _ _ w)) rfl (fun _ _ => ?_); refine G.v (rv_not rfl) rfl (G.v (rv_assign rfl) rfl (G.done (G.thenN (G.ret ?_))))
  exact G.retFV rfl rfl rfl
theorem req_all {r : ReqM} {pv tv iv : Value} (h : pv.oneCell' = true) (h2 : tv.oneCell' = true) (h3 : iv.oneCell' = true) : (r.cells pv tv iv).all Value.oneCell' = true := by
  simp only [ReqM.cells, List.all_cons, List.all_nil, Bool.and_true, h, h2, h3]; rfl
theorem there_eq {r : ReqM} {us : List Int} {n : Nat} (hn : n = (unitsM r).length) : us.filter (fun x => !(!inB x 0 ((n : Int) - 1))) = thereM r us := by
  subst hn
  rw [thereM]
  refine List.filter_congr (fun x _ => ?_)
  rw [Bool.not_not]; rfl
theorem thereOf_any {r : ReqM} {pv tv iv uv : Value} {us : List Int} (w : World) (h : Rd w pv 2 (r.pairs.map PairM.cells)) (h2 : Rd w tv 7 (r.types.map TypeM.cells)) (h3 : Rd w iv 7 (r.items.map ItemM.cells)) (h4 : Rd w uv 1 (us.map icell)) (hul : us.length ≤ 1048576) :
    Fn Tryz.prog 100 [.agg (r.cells pv tv iv).toArray, uv] w (fun v : Value => v.oneCell' = true) (fun v => v) (fun v => [.row v 3 1 ((thereM r us).map icell)]) := by
  have hun := unitsM_len r
  have hun2 : ((unitsM r).map ncell).length = (unitsM r).length := by simp
  refine Fn.of (n := 13) Tryz.func100 rfl rfl ?_; refine G.seq (G.region ?_); refine G.op (og_box rfl rfl) rfl (fun bk2 _ => ?_); refine G.v (rv_assign rfl) rfl (G.done (G.thenN (G.seq (G.region (G.v (rv_loadW 0 rfl rfl rfl) rfl ?_)))))
  (refine G.op (og_callF1 rfl rfl (fun w hh => units_any (r := r) w (Rd.stays h _ hh) (Rd.stays h2 _ hh) (Rd.stays h3 _ hh))) rfl ?_; rintro vu hvu; try dsimp only)
  refine G.v (rv_len rfl (by exact Rd.owned 0 rfl)) rfl ?_; refine G.op (og_alloc) rfl (fun bk5 _ => ?_); refine G.op0 (og_st0 rfl rfl rfl rfl rfl rfl (.zero (.cons .nil))) (fun _ _ => ?_); refine G.done (G.thenN (G.seq (G.region (G.v (rv_move rfl) rfl ?_))))
  (refine G.op (og_callF1 rfl rfl (fun w hh => clone_any w (Rd.stays h4 _ hh) hul)) rfl ?_; rintro v1 hv1; try dsimp only)
  refine G.v (rv_makeFunc rfl rfl) rfl ?_
  (refine G.frontR0 (v1) rfl ?_); refine G.op (og_callMM1 rfl rfl rfl (deleteFunc_any (l := us) (p := fun x => !inB x 0 ((((unitsM r).map ncell).length : Int) - 1)) hul (fun w' x hw => thereOf1_any x ((unitsM r).map ncell).length w' (by exact Rd.ofBlk 0 rfl rfl w' hw) (by omega)))) rfl ?_; rintro v2 hv2; try dsimp only
  refine G.v (rv_assign rfl) rfl (G.done (G.thenN (G.ret ?_)))
  exact G.retF v2 hv2 rfl rfl rfl (fun w hw => by rw [there_eq hun2] at hw; exact hw.sublist (by repeat (first | exact List.Sublist.refl _ | refine List.Sublist.cons_cons _ ?_ | refine List.Sublist.cons _ ?_)))
theorem known_yes {r : ReqM} {us : List Int} {k : Nat} {u : Int} (hb : us[k]? = some u) (h : hereM r u = true) : (thereM r (us.take k)).map icell ++ [[.int .i64 u]] = (thereM r (us.take (k + 1))).map icell := by
  simp [thereM, List.take_add_one, hb, List.filter_append, List.filter_cons, h, icell]
theorem known_no {r : ReqM} {us : List Int} {k : Nat} {u : Int} (hb : us[k]? = some u) (h : hereM r u = false) : (thereM r (us.take k)).map icell = (thereM r (us.take (k + 1))).map icell := by
  simp [thereM, List.take_add_one, hb, List.filter_append, List.filter_cons, h]
theorem l7Known_any {r : ReqM} {av uv : Value} {us : List Int} (w : World) (h5 : Rd w av 1 ((unitsM r).map ncell)) (h4 : Rd w uv 1 (us.map icell)) (hul : us.length ≤ 1048576) :
    Fn Tryz.prog 99 [av, uv] w (fun v : Value => v.oneCell' = true) (fun v => v) (fun v => [.row v 3 1 ((thereM r us).map icell)]) := by
  have hun := unitsM_len r
  have hun2 : ((unitsM r).map ncell).length = (unitsM r).length := by simp
  have hul2 : (us.map icell).length = us.length := by simp
  refine Fn.of (n := 30) Tryz.func99 rfl rfl ?_; refine G.seq (G.region (G.v (rv_assign rfl) rfl (G.done (G.thenN (G.seq (G.region ?_)))))); refine G.op (og_lit rfl .nil rfl rfl rfl rfl rfl rfl) rfl (fun vl _ => ?_); refine G.v (rv_assign rfl) rfl (G.done (G.thenN (G.seq (G.seq (G.region (G.v (rv_assign rfl) rfl (G.done (G.thenN (G.block ?_)))))))))
  -- loop 0: turned [5, 6], kept [0, 1]
  refine G.loopK (ι := Nat × Value) (ks := [0, 1]) (fun x => [(5, x.2), (6, .int .i64 (x.1 : Int))]) (fun x => [.row x.2 3 1 ((thereM r (us.take x.1)).map icell)]) (fun x => x.1 ≤ us.length) (fun x => us.length - x.1) (0, vl) (.cons rfl (.cons rfl (.nil))) rfl ?_ ?_ ?_
  · exact Nat.zero_le _
  · exact ⟨rfl, rfl, trivial⟩
  rintro ⟨k, v⟩ hk
  dsimp only at hk ⊢
  have hil := thereM_len r (us.take k)
  have hil2 : ((thereM r (us.take k)).map icell).length = (thereM r (us.take k)).length := by simp
  rw [List.length_take] at hil
  by_cases hlt : k < us.length
  case' pos => (obtain ⟨u, hb⟩ := get_of_lt hlt; have e1 := get_map hb icell)
  all_goals
   refine G.seq (G.seq (G.region (G.v (rv_move rfl) rfl (G.v (rv_move rfl) rfl ?_)))); refine G.v (rv_len rfl (by exact Rd.stays (by assumption))) rfl ?_; refine G.v (rv_lss rfl rfl) rfl (G.done (G.thenN ?_)); refine G.cond rfl (fun hc => ?_) (fun hc => ?_)
   · try exact Bool.noConfusion hc
     all_goals
      try replace hc := of_decide_eq_true hc
      try simp only [hul2] at hc
      try (exfalso; omega)
      all_goals
       refine G.skip (G.thenN (G.seq (G.block (G.seq (G.region (G.v (rv_move rfl) rfl (G.v (rv_move rfl) rfl ?_))))))); refine G.v (rv_indexH rfl rfl (by exact Rd.stays (by assumption)) rfl (by exact e1)) rfl ?_; refine G.v (rv_loadE rfl (by exact Rd.stays (by assumption)) (by exact e1) rfl) rfl ?_; refine G.v (rv_move rfl) rfl ?_; refine G.v (rv_len rfl (by exact Rd.stays (by assumption))) rfl ?_; refine G.v (rv_subB rfl rfl (by omega) (by omega)) rfl ?_; refine G.op (og_callV rfl rfl (fun w _ => l1In_any _ _ _ w)) rfl (fun _ _ => ?_); refine G.done (G.thenN ?_); refine G.cond rfl (fun hc => ?_) (fun hc => ?_)
       · try exact Bool.noConfusion hc
         all_goals
          try replace hc := of_decide_eq_true hc
          try simp only [hul2] at hc
          try (exfalso; contradiction)
          all_goals
           have hhe : hereM r u = true := by rw [hereM, ← hun2]; exact hc
           all_goals
            refine G.region (G.v (rv_move rfl) rfl (G.v (rv_move rfl) rfl (G.v (rv_move rfl) rfl ?_))); refine G.v (rv_indexH rfl rfl (by exact Rd.stays (by assumption)) rfl (by exact e1)) rfl ?_; refine G.v (rv_loadE rfl (by exact Rd.stays (by assumption)) (by exact e1) rfl) rfl ?_; refine G.op (og_lit rfl (.cons rfl .nil) rfl rfl rfl rfl rfl rfl) rfl (fun vx _ => ?_); refine G.op (og_app1 rfl rfl rfl (by exact Rd.owned 0 rfl) rfl rfl (by (simp; omega)) (by (simp; omega))) rfl (fun va _ => ?_); refine G.v (rv_assign rfl) rfl (G.done (G.inN (G.thenN (G.region (G.v (rv_move rfl) rfl ?_))))); refine G.v (rv_incr rfl rfl (by omega)) rfl ?_; refine G.v (rv_assign rfl) rfl (G.done ?_); refine G.backK (k + 1, va) 1 (by exact one_eq (congrArg (fun z => Ch.row va 3 1 z) (known_yes hb hhe))) (.cons rfl (.cons rfl (.nil))) (⟨rfl, rfl, trivial⟩) ?_ ?_
            · exact hlt
            · dsimp only; omega
       · try exact Bool.noConfusion hc
         all_goals
          try replace hc := of_decide_eq_false hc
          try simp only [hul2] at hc
          try (exfalso; contradiction)
          all_goals
           have hhe : hereM r u = false := by rw [hereM, ← hun2]; exact hc
           all_goals
            refine G.skip (G.inN (G.thenN (G.region (G.v (rv_move rfl) rfl ?_)))); refine G.v (rv_incr rfl rfl (by omega)) rfl ?_; refine G.v (rv_assign rfl) rfl (G.done ?_); refine G.backK (k + 1, v) 0 (by exact one_eq (congrArg (fun z => Ch.row v 3 1 z) (known_no hb hhe))) (.cons rfl (.cons rfl (.nil))) (⟨rfl, rfl, trivial⟩) ?_ ?_
            · exact hlt
            · dsimp only; omega
   · try exact Bool.noConfusion hc
     all_goals
      try replace hc := of_decide_eq_false hc
      try simp only [hul2] at hc
      try (exfalso; omega)
      all_goals
       refine G.exit (G.thenX (G.thenX (G.inX (G.thenN (G.seq (G.region (G.v (rv_move rfl) rfl (G.v (rv_assign rfl) rfl (G.done (G.thenN (G.ret ?_))))))))))); refine G.know (fun w hw => (Rd.owned 0 rfl w hw).one_) (fun hone => G.retF v hone rfl rfl rfl (fun w hw => by rw [take_all (l := us) (by omega)] at hw; exact hw.sublist (by repeat (exact List.Sublist.refl _))))
def withinT (r : ReqM) (us : List Int) (t : TypeM) : Bool := decide (volUS r us ≤ volM t.w t.h t.d) && decide (gramM r us ≤ t.g)
theorem snoc_cells (g : List Int) (u : Int) : g.map icell ++ [[Value.int .i64 u]] = (g ++ [u]).map icell := by simp [icell]
section
variable {r : ReqM} {pv tv iv uv : Value} {us : List Int} (w : World) (h : Rd w pv 2 (r.pairs.map PairM.cells)) (h2 : Rd w tv 7 (r.types.map TypeM.cells)) (h3 : Rd w iv 7 (r.items.map ItemM.cells)) (h4 : Rd w uv 1 (us.map icell))
include h h2 h3 h4
theorem within_any (hul : us.length ≤ 1048576) (t : TypeM) : FnV Tryz.prog 110 [.agg (r.cells pv tv iv).toArray, uv, t.val] w (.bool (withinT r us t)) := by
  refine FnV.of (n := 26) Tryz.func110 rfl rfl ?_; refine G.seq (G.region ?_); refine G.op (og_box rfl rfl) rfl (fun bk3 _ => ?_); refine G.op (og_box rfl rfl) rfl (fun bk5 _ => ?_); refine G.v (rv_assign rfl) rfl (G.done (G.thenN (G.seq ?_))); refine G.drawL [19] ?_; refine GE.q 0 rfl (by as_aux_lemma => kernel_rfl) rfl (qg_runs (rv_loadW 1 rfl rfl rfl)) rfl ?_; refine GE.q 1 rfl (by as_aux_lemma => kernel_rfl) rfl (qg_runs (rv_move rfl)) rfl ?_; refine GE.q 2 rfl (by as_aux_lemma => kernel_rfl) rfl (qg_call rfl rfl (fun w hh => volumeOf_any (r := r) (us := us) w (Rd.stays h _ hh) (Rd.stays h2 _ hh) (Rd.stays h3 _ hh) (Rd.stays h4 _ hh) hul)) rfl ?_; refine GE.q 3 rfl (by as_aux_lemma => kernel_rfl) rfl (qg_runs (rv_field rfl)) rfl ?_; refine GE.q 4 rfl (by as_aux_lemma => kernel_rfl) rfl (qg_runs (rv_load1 0 rfl rfl rfl)) rfl ?_; refine GE.q 5 rfl (by as_aux_lemma => kernel_rfl) rfl (qg_runs (rv_field rfl)) rfl ?_; refine GE.q 6 rfl (by as_aux_lemma => kernel_rfl) rfl (qg_runs (rv_load1 0 rfl rfl rfl)) rfl ?_; refine GE.ol 7 (by as_aux_lemma => kernel_rfl) rfl rfl (og_runs (rv_field rfl)) rfl (fun _ _ h => by exact h) (fun _ _ => ?_); refine GE.ol 8 (by as_aux_lemma => kernel_rfl) rfl rfl (og_runs (rv_load1 0 rfl rfl rfl)) rfl (fun _ _ h => by exact h) (fun _ _ => ?_); refine GE.ol 9 (by as_aux_lemma => kernel_rfl) rfl rfl (og_callV rfl rfl (fun w hh => volume_any t.w t.h t.d w)) rfl (fun _ _ h => by exact h) (fun _ _ => ?_)
  refine GE.ol 10 (by as_aux_lemma => kernel_rfl) rfl rfl (og_runs (rv_leq rfl rfl)) rfl (fun _ _ h => by exact h) (fun _ _ => ?_); refine GE.ol 11 (by as_aux_lemma => kernel_rfl) rfl rfl (og_runs (rv_move rfl)) rfl (fun _ _ h => by exact h) (fun _ _ => ?_)
  all_goals (((with_reducible refine GE.part (t := 18) rfl (fun hg => ?_) (fun hg => ?_)) <;> (try exact Bool.noConfusion hg) <;> (first | (refine GE.q 12 rfl (by as_aux_lemma => kernel_rfl) rfl (qg_runs (rv_loadW 1 rfl rfl rfl)) rfl ?_) | refine GE.qn 12 rfl (by as_aux_lemma => kernel_rfl) rfl rfl ?_)))
  all_goals ((first | refine GE.q 13 rfl (by as_aux_lemma => kernel_rfl) rfl (qg_runs (rv_move rfl)) rfl ?_ | refine GE.qn 13 rfl (by as_aux_lemma => kernel_rfl) rfl rfl ?_))
  all_goals ((first | refine GE.q 14 rfl (by as_aux_lemma => kernel_rfl) rfl (qg_call rfl rfl (fun w hh => gramOf_any (r := r) (us := us) w (Rd.stays h _ hh) (Rd.stays h2 _ hh) (Rd.stays h3 _ hh) (Rd.stays h4 _ hh) hul)) rfl ?_ | refine GE.qn 14 rfl (by as_aux_lemma => kernel_rfl) rfl rfl ?_))
  all_goals ((first | (refine GE.q 15 rfl (by as_aux_lemma => kernel_rfl) rfl (qg_runs (rv_field rfl)) rfl ?_) | refine GE.qn 15 rfl (by as_aux_lemma => kernel_rfl) rfl rfl ?_))
  all_goals ((first | (refine GE.q 16 rfl (by as_aux_lemma => kernel_rfl) rfl (qg_runs (rv_load1 0 rfl rfl rfl)) rfl ?_) | refine GE.qn 16 rfl (by as_aux_lemma => kernel_rfl) rfl rfl ?_))
  all_goals ((first | refine GE.q 17 rfl (by as_aux_lemma => kernel_rfl) rfl (qg_runs (rv_leq rfl rfl)) rfl ?_ | refine GE.qn 17 rfl (by as_aux_lemma => kernel_rfl) rfl rfl ?_))
  all_goals ((first | refine GE.ol 18 (by as_aux_lemma => kernel_rfl) rfl rfl (og_runs (rv_pickT rfl rfl)) rfl (fun _ _ h => by exact h) (fun _ _ => ?_) | refine GE.ol 18 (by as_aux_lemma => kernel_rfl) rfl rfl (og_runs (rv_pickF rfl rfl)) rfl (fun _ _ h => by exact h) (fun _ _ => ?_)))
  all_goals (refine GE.t 19 (by as_aux_lemma => kernel_rfl) rfl rfl rfl (og_runs (rv_assign rfl)) rfl (fun _ _ => ?_))
  all_goals
   refine GE.done (by as_aux_lemma => kernel_rfl) ?_; refine G.thenN (G.ret ?_)
   first | (refine G.retFV rfl rfl (congrArg Value.bool ?_); simp_all [withinT]; done) | (refine G.retFV rfl rfl (congrArg Value.bool ?_); simp_all [withinT]; intro hq9; omega)
theorem room_yesW (hul : us.length + 1 ≤ 1048576) (u : Int) (hyes : classM r = 0) : FnV Tryz.prog 60 [.agg (r.cells pv tv iv).toArray, uv, .int .i64 u] w (.bool (roomM r us u)) := by
  have hul2 : (us.map icell).length = us.length := by simp
  refine FnV.of (n := 26) Tryz.func60 rfl rfl ?_; refine G.seq (G.region ?_); refine G.op (og_box rfl rfl) rfl (fun bk3 _ => ?_); refine G.v (rv_assign rfl) rfl (G.done (G.thenN (G.seq (G.region (G.v (rv_loadW 0 rfl rfl rfl) rfl ?_))))); refine G.op (og_callV rfl rfl (fun w hh => masterOf_any (r := r) w (Rd.stays h2 _ hh))) rfl (fun _ _ => ?_); refine G.v (rv_move rfl) rfl (G.v (rv_extract rfl rfl) rfl (G.v (rv_extract rfl rfl) rfl ?_)); refine G.op (og_alloc) rfl (fun bk7 _ => ?_); refine G.op0 (og_st0 rfl rfl rfl rfl rfl rfl (.zero (.cons (.cons (.cons (.cons (.cons (.cons (.cons .nil))))))))) (fun _ _ => ?_); refine G.v (rv_assign rfl) rfl (G.done (G.thenN (G.seq ?_))); refine G.drawL [12] ?_; refine GE.ol 0 (by as_aux_lemma => kernel_rfl) rfl rfl (og_runs (rv_loadW 1 rfl rfl rfl)) rfl (fun _ _ h => by exact h) (fun _ _ => ?_); refine GE.ol 1 (by as_aux_lemma => kernel_rfl) rfl rfl (og_callV rfl rfl (fun w hh => (sound_any (r := r) w (Rd.stays h _ hh) (Rd.stays h2 _ hh) (Rd.stays h3 _ hh)).mono (show Value.bool (decide (classM r = 0)) = Value.bool true by rw [decide_eq_true hyes]))) rfl (fun _ _ h => by exact h) (fun _ _ => ?_); refine GE.ol 2 (by as_aux_lemma => kernel_rfl) rfl rfl (og_runs (rv_move rfl)) rfl (fun _ _ h => by exact h) (fun _ _ => ?_); refine GE.q 3 rfl (by as_aux_lemma => kernel_rfl) rfl (qg_runs (rv_loadW 1 rfl rfl rfl)) rfl ?_
  refine GE.q 4 rfl (by as_aux_lemma => kernel_rfl) rfl (qg_runs (rv_move rfl)) rfl ?_; refine GE.q 6 rfl (by as_aux_lemma => kernel_rfl) rfl (qg_runs (rv_move rfl)) rfl ?_; refine GE.q 9 rfl (by as_aux_lemma => kernel_rfl) rfl (qg_runs (rv_loadW 0 rfl rfl rfl)) rfl ?_; refine GE.any (rs := [5, 7]) (by as_aux_lemma => kernel_rfl) (by simp) ?_; refine List.forall_mem_cons.2 ⟨?_, List.forall_mem_cons.2 ⟨?_, fun _ h => absurd h List.not_mem_nil⟩⟩
  focus
    (refine GE.pickOp rfl rfl rfl (og_callF1 rfl rfl (fun w hh => clone_any (l := us) w (Rd.stays h4 _ hh) (by omega))) rfl (fun _ _ h => by exact h.drop 1) ?_; rintro v1 hv1; try dsimp only)
    refine GE.ol 7 (by as_aux_lemma => kernel_rfl) rfl rfl (og_lit rfl (.cons rfl .nil) rfl rfl rfl rfl rfl rfl) rfl (fun _ _ h => by exact h.drop 2) (fun vl _ => ?_); refine GE.ol 8 (by as_aux_lemma => kernel_rfl) rfl rfl (og_app1 rfl rfl rfl (by exact Rd.owned 0 rfl) rfl rfl (by (simp; omega)) (by (simp; omega))) rfl (fun _ _ h => by exact h.drop 2) (fun va _ => ?_)
    (refine GE.ol 10 (by as_aux_lemma => kernel_rfl) rfl rfl (og_callF0 rfl rfl (fun w hh => (within_any (r := r) (us := us ++ [u]) w (Rd.stays h _ hh) (Rd.stays h2 _ hh) (Rd.stays h3 _ hh) (by rw [← snoc_cells]; exact Rd.owned 1 rfl _ hh) (by rw [List.length_append]; exact hul) (mst r)).toFn)) rfl (fun _ _ h => by exact h.drop 2) ?_; rintro ⟨⟩ _; try dsimp only)
    refine GE.ol 11 (by as_aux_lemma => kernel_rfl) rfl rfl (og_runs (rv_pickT rfl rfl)) rfl (fun _ _ h => by exact h.drop 2) (fun _ _ => ?_); refine GE.t 12 (by as_aux_lemma => kernel_rfl) rfl rfl rfl (og_runs (rv_assign rfl)) rfl (fun _ _ => ?_); refine GE.done (by as_aux_lemma => kernel_rfl) ?_
  rotate_left
  focus
    refine GE.pickOp rfl rfl rfl (og_lit rfl (.cons rfl .nil) rfl rfl rfl rfl rfl rfl) rfl (fun _ _ h => by exact h.drop 1) (fun vl _ => ?_)
    (refine GE.ol 5 (by as_aux_lemma => kernel_rfl) rfl rfl (og_callF1 rfl rfl (fun w hh => clone_any (l := us) w (Rd.stays h4 _ hh) (by omega))) rfl (fun _ _ h => by exact h.drop 2) ?_; rintro v1 hv1; try dsimp only)
    refine GE.ol 8 (by as_aux_lemma => kernel_rfl) rfl rfl (og_app0 rfl rfl rfl (by exact Rd.owned 1 rfl) rfl rfl (by (simp; omega)) (by (simp; omega))) rfl (fun _ _ h => by exact h.drop 2) (fun va _ => ?_)
    (refine GE.ol 10 (by as_aux_lemma => kernel_rfl) rfl rfl (og_callF0 rfl rfl (fun w hh => (within_any (r := r) (us := us ++ [u]) w (Rd.stays h _ hh) (Rd.stays h2 _ hh) (Rd.stays h3 _ hh) (by rw [← snoc_cells]; exact Rd.owned 0 rfl _ hh) (by rw [List.length_append]; exact hul) (mst r)).toFn)) rfl (fun _ _ h => by exact h.drop 2) ?_; rintro ⟨⟩ _; try dsimp only)
    refine GE.ol 11 (by as_aux_lemma => kernel_rfl) rfl rfl (og_runs (rv_pickT rfl rfl)) rfl (fun _ _ h => by exact h.drop 2) (fun _ _ => ?_); refine GE.t 12 (by as_aux_lemma => kernel_rfl) rfl rfl rfl (og_runs (rv_assign rfl)) rfl (fun _ _ => ?_); refine GE.done (by as_aux_lemma => kernel_rfl) ?_
  rotate_left
  all_goals
   refine G.thenN (G.ret ?_); refine G.retFV rfl rfl (congrArg Value.bool ?_); rw [room_yes hyes]; rfl
omit h4 in
theorem room_noW (u : Int) (hno : ¬ classM r = 0) : FnV Tryz.prog 60 [.agg (r.cells pv tv iv).toArray, uv, .int .i64 u] w (.bool (roomM r us u)) := by
  refine FnV.of (n := 26) Tryz.func60 rfl rfl ?_; refine G.seq (G.region ?_); refine G.op (og_box rfl rfl) rfl (fun bk3 _ => ?_); refine G.v (rv_assign rfl) rfl (G.done (G.thenN (G.seq (G.region (G.v (rv_loadW 0 rfl rfl rfl) rfl ?_))))); refine G.op (og_callV rfl rfl (fun w hh => masterOf_any (r := r) w (Rd.stays h2 _ hh))) rfl (fun _ _ => ?_); refine G.v (rv_move rfl) rfl (G.v (rv_extract rfl rfl) rfl (G.v (rv_extract rfl rfl) rfl ?_)); refine G.op (og_alloc) rfl (fun bk7 _ => ?_); refine G.op0 (og_st0 rfl rfl rfl rfl rfl rfl (.zero (.cons (.cons (.cons (.cons (.cons (.cons (.cons .nil))))))))) (fun _ _ => ?_); refine G.v (rv_assign rfl) rfl (G.done (G.thenN (G.seq ?_))); refine G.drawL [12] ?_; refine GE.ol 0 (by as_aux_lemma => kernel_rfl) rfl rfl (og_runs (rv_loadW 1 rfl rfl rfl)) rfl (fun _ _ h => by exact h) (fun _ _ => ?_); refine GE.ol 1 (by as_aux_lemma => kernel_rfl) rfl rfl (og_callV rfl rfl (fun w hh => (sound_any (r := r) w (Rd.stays h _ hh) (Rd.stays h2 _ hh) (Rd.stays h3 _ hh)).mono (show Value.bool (decide (classM r = 0)) = Value.bool false by rw [decide_eq_false hno]))) rfl (fun _ _ h => by exact h) (fun _ _ => ?_); refine GE.ol 2 (by as_aux_lemma => kernel_rfl) rfl rfl (og_runs (rv_move rfl)) rfl (fun _ _ h => by exact h) (fun _ _ => ?_); refine GE.qn 3 rfl (by as_aux_lemma => kernel_rfl) rfl rfl ?_; refine GE.qn 4 rfl (by as_aux_lemma => kernel_rfl) rfl rfl ?_
  refine GE.qn 5 rfl (by as_aux_lemma => kernel_rfl) rfl rfl ?_; refine GE.qn 6 rfl (by as_aux_lemma => kernel_rfl) rfl rfl ?_; refine GE.qn 7 rfl (by as_aux_lemma => kernel_rfl) rfl rfl ?_; refine GE.qn 8 rfl (by as_aux_lemma => kernel_rfl) rfl rfl ?_; refine GE.qn 9 rfl (by as_aux_lemma => kernel_rfl) rfl rfl ?_; refine GE.qn 10 rfl (by as_aux_lemma => kernel_rfl) rfl rfl ?_; refine GE.ol 11 (by as_aux_lemma => kernel_rfl) rfl rfl (og_runs (rv_pickF rfl rfl)) rfl (fun _ _ h => by exact h) (fun _ _ => ?_); refine GE.t 12 (by as_aux_lemma => kernel_rfl) rfl rfl rfl (og_runs (rv_assign rfl)) rfl (fun _ _ => ?_); refine GE.done (by as_aux_lemma => kernel_rfl) ?_; refine G.thenN (G.ret ?_); refine G.retFV rfl rfl (congrArg Value.bool ?_); rw [roomM, decide_eq_false hno, Bool.false_and]
theorem room_any (hul : us.length + 1 ≤ 1048576) (u : Int) : FnV Tryz.prog 60 [.agg (r.cells pv tv iv).toArray, uv, .int .i64 u] w (.bool (roomM r us u)) := by
  by_cases hc : classM r = 0
  · exact room_yesW w h h2 h3 h4 hul u hc
  · exact room_noW w h h2 h3 u hc
omit h h2 in
theorem l7Room_any (hul : us.length + 1 ≤ 1048576) (t : TypeM) (u : Int) {av : Value} (h5 : Rd w av 1 ((unitsM r).map ncell)) : FnV Tryz.prog 159 [.agg (r.cells pv tv iv).toArray, av, t.val, uv, .int .i64 u] w (.bool (withinT r (us ++ [u]) t)) := by
  have hul2 : (us.map icell).length = us.length := by simp
  refine FnV.of (n := 38) Tryz.func159 rfl rfl ?_; refine G.seq (G.region ?_); refine G.op (og_box rfl rfl) rfl (fun bk5 _ => ?_); refine G.op (og_box rfl rfl) rfl (fun bk7 _ => ?_); refine G.v (rv_assign rfl) rfl (G.done (G.thenN (G.seq ?_))); refine G.drawL [10] ?_; refine GE.q 0 rfl (by as_aux_lemma => kernel_rfl) rfl (qg_runs (rv_loadW 1 rfl rfl rfl)) rfl ?_; refine GE.q 1 rfl (by as_aux_lemma => kernel_rfl) rfl (qg_runs (rv_move rfl)) rfl ?_; refine GE.q 3 rfl (by as_aux_lemma => kernel_rfl) rfl (qg_runs (rv_move rfl)) rfl ?_; refine GE.q 5 rfl (by as_aux_lemma => kernel_rfl) rfl (qg_runs (rv_move rfl)) rfl ?_; refine GE.any (rs := [2, 6, 9]) (by as_aux_lemma => kernel_rfl) (by simp) ?_; refine List.forall_mem_cons.2 ⟨?_, List.forall_mem_cons.2 ⟨?_, List.forall_mem_cons.2 ⟨?_, fun _ h => absurd h List.not_mem_nil⟩⟩⟩
  focus
    refine GE.pickOp rfl rfl rfl (og_lit rfl .nil rfl rfl rfl rfl rfl rfl) rfl (fun _ _ h => by exact h.drop 1) (fun vz _ => ?_); refine GE.any (rs := [4, 6, 9]) (by as_aux_lemma => kernel_rfl) (by simp) ?_; refine List.forall_mem_cons.2 ⟨?_, List.forall_mem_cons.2 ⟨?_, List.forall_mem_cons.2 ⟨?_, fun _ h => absurd h List.not_mem_nil⟩⟩⟩
    focus
      refine GE.pickOp rfl rfl rfl (og_app0 rfl rfl rfl (by exact Rd.stays (by assumption)) rfl rfl (by (simp; omega)) (by (simp; omega))) rfl (fun _ _ h => by exact h.drop 1) (fun vy _ => ?_); refine GE.any (rs := [6, 9]) (by as_aux_lemma => kernel_rfl) (by simp) ?_; refine List.forall_mem_cons.2 ⟨?_, List.forall_mem_cons.2 ⟨?_, fun _ h => absurd h List.not_mem_nil⟩⟩
      focus
        refine GE.pickOp rfl rfl rfl (og_lit rfl (.cons rfl .nil) rfl rfl rfl rfl rfl rfl) rfl (fun _ _ h => by exact h.drop 2) (fun vx _ => ?_); refine GE.any (rs := [7, 9]) (by as_aux_lemma => kernel_rfl) (by simp) ?_; refine List.forall_mem_cons.2 ⟨?_, List.forall_mem_cons.2 ⟨?_, fun _ h => absurd h List.not_mem_nil⟩⟩
        focus
          refine GE.pickOp rfl rfl rfl (og_app1 rfl rfl rfl (by exact Rd.owned 0 rfl) rfl rfl (by (simp; omega)) (by (simp; omega))) rfl (fun _ _ h => by exact h.drop 2) (fun va _ => ?_); refine GE.any (rs := [8, 9]) (by as_aux_lemma => kernel_rfl) (by simp) ?_; refine List.forall_mem_cons.2 ⟨?_, List.forall_mem_cons.2 ⟨?_, fun _ h => absurd h List.not_mem_nil⟩⟩
          focus
            (refine GE.pickOp rfl rfl rfl (og_callF0 rfl rfl (fun w hh => (l7Of_any (r := r) (us := us ++ [u]) w (Rd.stays h3 _ hh) (by rw [← snoc_cells]; exact Rd.owned 1 rfl _ hh) (by rw [List.length_append]; exact hul) (Rd.stays h5 _ hh)).toFn)) rfl (fun _ _ h => by exact h.drop 2) ?_; rintro ⟨⟩ _; try dsimp only)
            refine GE.ol 9 (by as_aux_lemma => kernel_rfl) rfl rfl (og_alloc) rfl (fun _ _ h => by exact h.drop 3) (fun bk11 _ => ?_); refine GE.t0 10 (by as_aux_lemma => kernel_rfl) rfl rfl rfl (og_st0 rfl rfl rfl rfl rfl rfl (.zero (.cons (.cons .nil)))) (fun _ _ => ?_); refine GE.done (by as_aux_lemma => kernel_rfl) ?_
          rotate_left
          focus
            refine GE.pickOp rfl rfl rfl (og_alloc) rfl (fun _ _ h => by exact h.drop 3) (fun bk11 _ => ?_)
            (refine GE.ol 8 (by as_aux_lemma => kernel_rfl) rfl rfl (og_callF0 rfl rfl (fun w hh => (l7Of_any (r := r) (us := us ++ [u]) w (Rd.stays h3 _ hh) (by rw [← snoc_cells]; exact Rd.owned 2 rfl _ hh) (by rw [List.length_append]; exact hul) (Rd.stays h5 _ hh)).toFn)) rfl (fun _ _ h => by exact h.drop 3) ?_; rintro ⟨⟩ _; try dsimp only)
            refine GE.t0 10 (by as_aux_lemma => kernel_rfl) rfl rfl rfl (og_st0 rfl rfl rfl rfl rfl rfl (.zero (.cons (.cons .nil)))) (fun _ _ => ?_); refine GE.done (by as_aux_lemma => kernel_rfl) ?_
          rotate_left
        rotate_left 2
        focus
          refine GE.pickOp rfl rfl rfl (og_alloc) rfl (fun _ _ h => by exact h.drop 3) (fun bk11 _ => ?_); refine GE.ol 7 (by as_aux_lemma => kernel_rfl) rfl rfl (og_app2 rfl rfl rfl (by exact Rd.owned 1 rfl) rfl rfl (by (simp; omega)) (by (simp; omega))) rfl (fun _ _ h => by exact h.drop 3) (fun va _ => ?_)
          (refine GE.ol 8 (by as_aux_lemma => kernel_rfl) rfl rfl (og_callF0 rfl rfl (fun w hh => (l7Of_any (r := r) (us := us ++ [u]) w (Rd.stays h3 _ hh) (by rw [← snoc_cells]; exact Rd.owned 2 rfl _ hh) (by rw [List.length_append]; exact hul) (Rd.stays h5 _ hh)).toFn)) rfl (fun _ _ h => by exact h.drop 3) ?_; rintro ⟨⟩ _; try dsimp only)
          refine GE.t0 10 (by as_aux_lemma => kernel_rfl) rfl rfl rfl (og_st0 rfl rfl rfl rfl rfl rfl (.zero (.cons (.cons .nil)))) (fun _ _ => ?_); refine GE.done (by as_aux_lemma => kernel_rfl) ?_
        rotate_left
      rotate_left 3
      focus
        refine GE.pickOp rfl rfl rfl (og_alloc) rfl (fun _ _ h => by exact h.drop 2) (fun bk11 _ => ?_); refine GE.ol 6 (by as_aux_lemma => kernel_rfl) rfl rfl (og_lit rfl (.cons rfl .nil) rfl rfl rfl rfl rfl rfl) rfl (fun _ _ h => by exact h.drop 3) (fun vx _ => ?_); refine GE.ol 7 (by as_aux_lemma => kernel_rfl) rfl rfl (og_app2 rfl rfl rfl (by exact Rd.owned 0 rfl) rfl rfl (by (simp; omega)) (by (simp; omega))) rfl (fun _ _ h => by exact h.drop 3) (fun va _ => ?_)
        (refine GE.ol 8 (by as_aux_lemma => kernel_rfl) rfl rfl (og_callF0 rfl rfl (fun w hh => (l7Of_any (r := r) (us := us ++ [u]) w (Rd.stays h3 _ hh) (by rw [← snoc_cells]; exact Rd.owned 2 rfl _ hh) (by rw [List.length_append]; exact hul) (Rd.stays h5 _ hh)).toFn)) rfl (fun _ _ h => by exact h.drop 3) ?_; rintro ⟨⟩ _; try dsimp only)
        refine GE.t0 10 (by as_aux_lemma => kernel_rfl) rfl rfl rfl (og_st1 rfl rfl rfl rfl rfl rfl (.zero (.cons (.cons .nil)))) (fun _ _ => ?_); refine GE.done (by as_aux_lemma => kernel_rfl) ?_
      rotate_left
    rotate_left 4
    focus
      refine GE.pickOp rfl rfl rfl (og_lit rfl (.cons rfl .nil) rfl rfl rfl rfl rfl rfl) rfl (fun _ _ h => by exact h.drop 2) (fun vx _ => ?_); refine GE.any (rs := [4, 9]) (by as_aux_lemma => kernel_rfl) (by simp) ?_; refine List.forall_mem_cons.2 ⟨?_, List.forall_mem_cons.2 ⟨?_, fun _ h => absurd h List.not_mem_nil⟩⟩
      focus
        refine GE.pickOp rfl rfl rfl (og_app1 rfl rfl rfl (by exact Rd.stays (by assumption)) rfl rfl (by (simp; omega)) (by (simp; omega))) rfl (fun _ _ h => by exact h.drop 2) (fun vy _ => ?_); refine GE.any (rs := [7, 9]) (by as_aux_lemma => kernel_rfl) (by simp) ?_; refine List.forall_mem_cons.2 ⟨?_, List.forall_mem_cons.2 ⟨?_, fun _ h => absurd h List.not_mem_nil⟩⟩
        focus
          refine GE.pickOp rfl rfl rfl (og_app1 rfl rfl rfl (by exact Rd.owned 0 rfl) rfl rfl (by (simp; omega)) (by (simp; omega))) rfl (fun _ _ h => by exact h.drop 2) (fun va _ => ?_); refine GE.any (rs := [8, 9]) (by as_aux_lemma => kernel_rfl) (by simp) ?_; refine List.forall_mem_cons.2 ⟨?_, List.forall_mem_cons.2 ⟨?_, fun _ h => absurd h List.not_mem_nil⟩⟩
          focus
            (refine GE.pickOp rfl rfl rfl (og_callF0 rfl rfl (fun w hh => (l7Of_any (r := r) (us := us ++ [u]) w (Rd.stays h3 _ hh) (by rw [← snoc_cells]; exact Rd.owned 1 rfl _ hh) (by rw [List.length_append]; exact hul) (Rd.stays h5 _ hh)).toFn)) rfl (fun _ _ h => by exact h.drop 2) ?_; rintro ⟨⟩ _; try dsimp only)
            refine GE.ol 9 (by as_aux_lemma => kernel_rfl) rfl rfl (og_alloc) rfl (fun _ _ h => by exact h.drop 3) (fun bk11 _ => ?_); refine GE.t0 10 (by as_aux_lemma => kernel_rfl) rfl rfl rfl (og_st0 rfl rfl rfl rfl rfl rfl (.zero (.cons (.cons .nil)))) (fun _ _ => ?_); refine GE.done (by as_aux_lemma => kernel_rfl) ?_
          rotate_left
          focus
            refine GE.pickOp rfl rfl rfl (og_alloc) rfl (fun _ _ h => by exact h.drop 3) (fun bk11 _ => ?_)
            (refine GE.ol 8 (by as_aux_lemma => kernel_rfl) rfl rfl (og_callF0 rfl rfl (fun w hh => (l7Of_any (r := r) (us := us ++ [u]) w (Rd.stays h3 _ hh) (by rw [← snoc_cells]; exact Rd.owned 2 rfl _ hh) (by rw [List.length_append]; exact hul) (Rd.stays h5 _ hh)).toFn)) rfl (fun _ _ h => by exact h.drop 3) ?_; rintro ⟨⟩ _; try dsimp only)
            refine GE.t0 10 (by as_aux_lemma => kernel_rfl) rfl rfl rfl (og_st0 rfl rfl rfl rfl rfl rfl (.zero (.cons (.cons .nil)))) (fun _ _ => ?_); refine GE.done (by as_aux_lemma => kernel_rfl) ?_
          rotate_left
        rotate_left 2
        focus
          refine GE.pickOp rfl rfl rfl (og_alloc) rfl (fun _ _ h => by exact h.drop 3) (fun bk11 _ => ?_); refine GE.ol 7 (by as_aux_lemma => kernel_rfl) rfl rfl (og_app2 rfl rfl rfl (by exact Rd.owned 1 rfl) rfl rfl (by (simp; omega)) (by (simp; omega))) rfl (fun _ _ h => by exact h.drop 3) (fun va _ => ?_)
          (refine GE.ol 8 (by as_aux_lemma => kernel_rfl) rfl rfl (og_callF0 rfl rfl (fun w hh => (l7Of_any (r := r) (us := us ++ [u]) w (Rd.stays h3 _ hh) (by rw [← snoc_cells]; exact Rd.owned 2 rfl _ hh) (by rw [List.length_append]; exact hul) (Rd.stays h5 _ hh)).toFn)) rfl (fun _ _ h => by exact h.drop 3) ?_; rintro ⟨⟩ _; try dsimp only)
          refine GE.t0 10 (by as_aux_lemma => kernel_rfl) rfl rfl rfl (og_st0 rfl rfl rfl rfl rfl rfl (.zero (.cons (.cons .nil)))) (fun _ _ => ?_); refine GE.done (by as_aux_lemma => kernel_rfl) ?_
        rotate_left
      rotate_left 3
      focus
        refine GE.pickOp rfl rfl rfl (og_alloc) rfl (fun _ _ h => by exact h.drop 3) (fun bk11 _ => ?_); refine GE.ol 4 (by as_aux_lemma => kernel_rfl) rfl rfl (og_app2 rfl rfl rfl (by exact Rd.stays (by assumption)) rfl rfl (by (simp; omega)) (by (simp; omega))) rfl (fun _ _ h => by exact h.drop 3) (fun vy _ => ?_); refine GE.ol 7 (by as_aux_lemma => kernel_rfl) rfl rfl (og_app2 rfl rfl rfl (by exact Rd.owned 1 rfl) rfl rfl (by (simp; omega)) (by (simp; omega))) rfl (fun _ _ h => by exact h.drop 3) (fun va _ => ?_)
        (refine GE.ol 8 (by as_aux_lemma => kernel_rfl) rfl rfl (og_callF0 rfl rfl (fun w hh => (l7Of_any (r := r) (us := us ++ [u]) w (Rd.stays h3 _ hh) (by rw [← snoc_cells]; exact Rd.owned 2 rfl _ hh) (by rw [List.length_append]; exact hul) (Rd.stays h5 _ hh)).toFn)) rfl (fun _ _ h => by exact h.drop 3) ?_; rintro ⟨⟩ _; try dsimp only)
        refine GE.t0 10 (by as_aux_lemma => kernel_rfl) rfl rfl rfl (og_st0 rfl rfl rfl rfl rfl rfl (.zero (.cons (.cons .nil)))) (fun _ _ => ?_); refine GE.done (by as_aux_lemma => kernel_rfl) ?_
      rotate_left
    rotate_left 4
    focus
      refine GE.pickOp rfl rfl rfl (og_alloc) rfl (fun _ _ h => by exact h.drop 2) (fun bk11 _ => ?_); refine GE.any (rs := [4, 6]) (by as_aux_lemma => kernel_rfl) (by simp) ?_; refine List.forall_mem_cons.2 ⟨?_, List.forall_mem_cons.2 ⟨?_, fun _ h => absurd h List.not_mem_nil⟩⟩
      focus
        refine GE.pickOp rfl rfl rfl (og_app1 rfl rfl rfl (by exact Rd.stays (by assumption)) rfl rfl (by (simp; omega)) (by (simp; omega))) rfl (fun _ _ h => by exact h.drop 2) (fun vy _ => ?_); refine GE.ol 6 (by as_aux_lemma => kernel_rfl) rfl rfl (og_lit rfl (.cons rfl .nil) rfl rfl rfl rfl rfl rfl) rfl (fun _ _ h => by exact h.drop 3) (fun vx _ => ?_); refine GE.ol 7 (by as_aux_lemma => kernel_rfl) rfl rfl (og_app2 rfl rfl rfl (by exact Rd.owned 0 rfl) rfl rfl (by (simp; omega)) (by (simp; omega))) rfl (fun _ _ h => by exact h.drop 3) (fun va _ => ?_)
        (refine GE.ol 8 (by as_aux_lemma => kernel_rfl) rfl rfl (og_callF0 rfl rfl (fun w hh => (l7Of_any (r := r) (us := us ++ [u]) w (Rd.stays h3 _ hh) (by rw [← snoc_cells]; exact Rd.owned 2 rfl _ hh) (by rw [List.length_append]; exact hul) (Rd.stays h5 _ hh)).toFn)) rfl (fun _ _ h => by exact h.drop 3) ?_; rintro ⟨⟩ _; try dsimp only)
        refine GE.t0 10 (by as_aux_lemma => kernel_rfl) rfl rfl rfl (og_st1 rfl rfl rfl rfl rfl rfl (.zero (.cons (.cons .nil)))) (fun _ _ => ?_); refine GE.done (by as_aux_lemma => kernel_rfl) ?_
      rotate_left
      focus
        refine GE.pickOp rfl rfl rfl (og_lit rfl (.cons rfl .nil) rfl rfl rfl rfl rfl rfl) rfl (fun _ _ h => by exact h.drop 3) (fun vx _ => ?_); refine GE.ol 4 (by as_aux_lemma => kernel_rfl) rfl rfl (og_app2 rfl rfl rfl (by exact Rd.stays (by assumption)) rfl rfl (by (simp; omega)) (by (simp; omega))) rfl (fun _ _ h => by exact h.drop 3) (fun vy _ => ?_); refine GE.ol 7 (by as_aux_lemma => kernel_rfl) rfl rfl (og_app2 rfl rfl rfl (by exact Rd.owned 0 rfl) rfl rfl (by (simp; omega)) (by (simp; omega))) rfl (fun _ _ h => by exact h.drop 3) (fun va _ => ?_)
        (refine GE.ol 8 (by as_aux_lemma => kernel_rfl) rfl rfl (og_callF0 rfl rfl (fun w hh => (l7Of_any (r := r) (us := us ++ [u]) w (Rd.stays h3 _ hh) (by rw [← snoc_cells]; exact Rd.owned 2 rfl _ hh) (by rw [List.length_append]; exact hul) (Rd.stays h5 _ hh)).toFn)) rfl (fun _ _ h => by exact h.drop 3) ?_; rintro ⟨⟩ _; try dsimp only)
        refine GE.t0 10 (by as_aux_lemma => kernel_rfl) rfl rfl rfl (og_st1 rfl rfl rfl rfl rfl rfl (.zero (.cons (.cons .nil)))) (fun _ _ => ?_); refine GE.done (by as_aux_lemma => kernel_rfl) ?_
      rotate_left
    rotate_left 2
  rotate_left 10
  focus
    refine GE.pickOp rfl rfl rfl (og_lit rfl (.cons rfl .nil) rfl rfl rfl rfl rfl rfl) rfl (fun _ _ h => by exact h.drop 1) (fun vx _ => ?_); refine GE.any (rs := [2, 9]) (by as_aux_lemma => kernel_rfl) (by simp) ?_; refine List.forall_mem_cons.2 ⟨?_, List.forall_mem_cons.2 ⟨?_, fun _ h => absurd h List.not_mem_nil⟩⟩
    focus
      refine GE.pickOp rfl rfl rfl (og_lit rfl .nil rfl rfl rfl rfl rfl rfl) rfl (fun _ _ h => by exact h.drop 2) (fun vz _ => ?_); refine GE.any (rs := [4, 9]) (by as_aux_lemma => kernel_rfl) (by simp) ?_; refine List.forall_mem_cons.2 ⟨?_, List.forall_mem_cons.2 ⟨?_, fun _ h => absurd h List.not_mem_nil⟩⟩
      focus
        refine GE.pickOp rfl rfl rfl (og_app0 rfl rfl rfl (by exact Rd.stays (by assumption)) rfl rfl (by (simp; omega)) (by (simp; omega))) rfl (fun _ _ h => by exact h.drop 2) (fun vy _ => ?_); refine GE.any (rs := [7, 9]) (by as_aux_lemma => kernel_rfl) (by simp) ?_; refine List.forall_mem_cons.2 ⟨?_, List.forall_mem_cons.2 ⟨?_, fun _ h => absurd h List.not_mem_nil⟩⟩
        focus
          refine GE.pickOp rfl rfl rfl (og_app0 rfl rfl rfl (by exact Rd.owned 1 rfl) rfl rfl (by (simp; omega)) (by (simp; omega))) rfl (fun _ _ h => by exact h.drop 2) (fun va _ => ?_); refine GE.any (rs := [8, 9]) (by as_aux_lemma => kernel_rfl) (by simp) ?_; refine List.forall_mem_cons.2 ⟨?_, List.forall_mem_cons.2 ⟨?_, fun _ h => absurd h List.not_mem_nil⟩⟩
          focus
            (refine GE.pickOp rfl rfl rfl (og_callF0 rfl rfl (fun w hh => (l7Of_any (r := r) (us := us ++ [u]) w (Rd.stays h3 _ hh) (by rw [← snoc_cells]; exact Rd.owned 0 rfl _ hh) (by rw [List.length_append]; exact hul) (Rd.stays h5 _ hh)).toFn)) rfl (fun _ _ h => by exact h.drop 2) ?_; rintro ⟨⟩ _; try dsimp only)
            refine GE.ol 9 (by as_aux_lemma => kernel_rfl) rfl rfl (og_alloc) rfl (fun _ _ h => by exact h.drop 3) (fun bk11 _ => ?_); refine GE.t0 10 (by as_aux_lemma => kernel_rfl) rfl rfl rfl (og_st0 rfl rfl rfl rfl rfl rfl (.zero (.cons (.cons .nil)))) (fun _ _ => ?_); refine GE.done (by as_aux_lemma => kernel_rfl) ?_
          rotate_left
          focus
            refine GE.pickOp rfl rfl rfl (og_alloc) rfl (fun _ _ h => by exact h.drop 3) (fun bk11 _ => ?_)
            (refine GE.ol 8 (by as_aux_lemma => kernel_rfl) rfl rfl (og_callF0 rfl rfl (fun w hh => (l7Of_any (r := r) (us := us ++ [u]) w (Rd.stays h3 _ hh) (by rw [← snoc_cells]; exact Rd.owned 1 rfl _ hh) (by rw [List.length_append]; exact hul) (Rd.stays h5 _ hh)).toFn)) rfl (fun _ _ h => by exact h.drop 3) ?_; rintro ⟨⟩ _; try dsimp only)
            refine GE.t0 10 (by as_aux_lemma => kernel_rfl) rfl rfl rfl (og_st0 rfl rfl rfl rfl rfl rfl (.zero (.cons (.cons .nil)))) (fun _ _ => ?_); refine GE.done (by as_aux_lemma => kernel_rfl) ?_
          rotate_left
        rotate_left 2
        focus
          refine GE.pickOp rfl rfl rfl (og_alloc) rfl (fun _ _ h => by exact h.drop 3) (fun bk11 _ => ?_); refine GE.ol 7 (by as_aux_lemma => kernel_rfl) rfl rfl (og_app1 rfl rfl rfl (by exact Rd.owned 2 rfl) rfl rfl (by (simp; omega)) (by (simp; omega))) rfl (fun _ _ h => by exact h.drop 3) (fun va _ => ?_)
          (refine GE.ol 8 (by as_aux_lemma => kernel_rfl) rfl rfl (og_callF0 rfl rfl (fun w hh => (l7Of_any (r := r) (us := us ++ [u]) w (Rd.stays h3 _ hh) (by rw [← snoc_cells]; exact Rd.owned 1 rfl _ hh) (by rw [List.length_append]; exact hul) (Rd.stays h5 _ hh)).toFn)) rfl (fun _ _ h => by exact h.drop 3) ?_; rintro ⟨⟩ _; try dsimp only)
          refine GE.t0 10 (by as_aux_lemma => kernel_rfl) rfl rfl rfl (og_st0 rfl rfl rfl rfl rfl rfl (.zero (.cons (.cons .nil)))) (fun _ _ => ?_); refine GE.done (by as_aux_lemma => kernel_rfl) ?_
        rotate_left
      rotate_left 3
      focus
        refine GE.pickOp rfl rfl rfl (og_alloc) rfl (fun _ _ h => by exact h.drop 3) (fun bk11 _ => ?_); refine GE.ol 4 (by as_aux_lemma => kernel_rfl) rfl rfl (og_app1 rfl rfl rfl (by exact Rd.stays (by assumption)) rfl rfl (by (simp; omega)) (by (simp; omega))) rfl (fun _ _ h => by exact h.drop 3) (fun vy _ => ?_); refine GE.ol 7 (by as_aux_lemma => kernel_rfl) rfl rfl (og_app1 rfl rfl rfl (by exact Rd.owned 2 rfl) rfl rfl (by (simp; omega)) (by (simp; omega))) rfl (fun _ _ h => by exact h.drop 3) (fun va _ => ?_)
        (refine GE.ol 8 (by as_aux_lemma => kernel_rfl) rfl rfl (og_callF0 rfl rfl (fun w hh => (l7Of_any (r := r) (us := us ++ [u]) w (Rd.stays h3 _ hh) (by rw [← snoc_cells]; exact Rd.owned 1 rfl _ hh) (by rw [List.length_append]; exact hul) (Rd.stays h5 _ hh)).toFn)) rfl (fun _ _ h => by exact h.drop 3) ?_; rintro ⟨⟩ _; try dsimp only)
        refine GE.t0 10 (by as_aux_lemma => kernel_rfl) rfl rfl rfl (og_st0 rfl rfl rfl rfl rfl rfl (.zero (.cons (.cons .nil)))) (fun _ _ => ?_); refine GE.done (by as_aux_lemma => kernel_rfl) ?_
      rotate_left
    rotate_left 4
    focus
      refine GE.pickOp rfl rfl rfl (og_alloc) rfl (fun _ _ h => by exact h.drop 2) (fun bk11 _ => ?_); refine GE.ol 2 (by as_aux_lemma => kernel_rfl) rfl rfl (og_lit rfl .nil rfl rfl rfl rfl rfl rfl) rfl (fun _ _ h => by exact h.drop 3) (fun vz _ => ?_); refine GE.ol 4 (by as_aux_lemma => kernel_rfl) rfl rfl (og_app0 rfl rfl rfl (by exact Rd.stays (by assumption)) rfl rfl (by (simp; omega)) (by (simp; omega))) rfl (fun _ _ h => by exact h.drop 3) (fun vy _ => ?_); refine GE.ol 7 (by as_aux_lemma => kernel_rfl) rfl rfl (og_app0 rfl rfl rfl (by exact Rd.owned 2 rfl) rfl rfl (by (simp; omega)) (by (simp; omega))) rfl (fun _ _ h => by exact h.drop 3) (fun va _ => ?_)
      (refine GE.ol 8 (by as_aux_lemma => kernel_rfl) rfl rfl (og_callF0 rfl rfl (fun w hh => (l7Of_any (r := r) (us := us ++ [u]) w (Rd.stays h3 _ hh) (by rw [← snoc_cells]; exact Rd.owned 0 rfl _ hh) (by rw [List.length_append]; exact hul) (Rd.stays h5 _ hh)).toFn)) rfl (fun _ _ h => by exact h.drop 3) ?_; rintro ⟨⟩ _; try dsimp only)
      refine GE.t0 10 (by as_aux_lemma => kernel_rfl) rfl rfl rfl (og_st1 rfl rfl rfl rfl rfl rfl (.zero (.cons (.cons .nil)))) (fun _ _ => ?_); refine GE.done (by as_aux_lemma => kernel_rfl) ?_
    rotate_left
  rotate_left 5
  focus
    refine GE.pickOp rfl rfl rfl (og_alloc) rfl (fun _ _ h => by exact h.drop 1) (fun bk11 _ => ?_); refine GE.any (rs := [2, 6]) (by as_aux_lemma => kernel_rfl) (by simp) ?_; refine List.forall_mem_cons.2 ⟨?_, List.forall_mem_cons.2 ⟨?_, fun _ h => absurd h List.not_mem_nil⟩⟩
    focus
      refine GE.pickOp rfl rfl rfl (og_lit rfl .nil rfl rfl rfl rfl rfl rfl) rfl (fun _ _ h => by exact h.drop 2) (fun vz _ => ?_); refine GE.any (rs := [4, 6]) (by as_aux_lemma => kernel_rfl) (by simp) ?_; refine List.forall_mem_cons.2 ⟨?_, List.forall_mem_cons.2 ⟨?_, fun _ h => absurd h List.not_mem_nil⟩⟩
      focus
        refine GE.pickOp rfl rfl rfl (og_app0 rfl rfl rfl (by exact Rd.stays (by assumption)) rfl rfl (by (simp; omega)) (by (simp; omega))) rfl (fun _ _ h => by exact h.drop 2) (fun vy _ => ?_); refine GE.ol 6 (by as_aux_lemma => kernel_rfl) rfl rfl (og_lit rfl (.cons rfl .nil) rfl rfl rfl rfl rfl rfl) rfl (fun _ _ h => by exact h.drop 3) (fun vx _ => ?_); refine GE.ol 7 (by as_aux_lemma => kernel_rfl) rfl rfl (og_app1 rfl rfl rfl (by exact Rd.owned 0 rfl) rfl rfl (by (simp; omega)) (by (simp; omega))) rfl (fun _ _ h => by exact h.drop 3) (fun va _ => ?_)
        (refine GE.ol 8 (by as_aux_lemma => kernel_rfl) rfl rfl (og_callF0 rfl rfl (fun w hh => (l7Of_any (r := r) (us := us ++ [u]) w (Rd.stays h3 _ hh) (by rw [← snoc_cells]; exact Rd.owned 1 rfl _ hh) (by rw [List.length_append]; exact hul) (Rd.stays h5 _ hh)).toFn)) rfl (fun _ _ h => by exact h.drop 3) ?_; rintro ⟨⟩ _; try dsimp only)
        refine GE.t0 10 (by as_aux_lemma => kernel_rfl) rfl rfl rfl (og_st2 rfl rfl rfl rfl rfl rfl (.zero (.cons (.cons .nil)))) (fun _ _ => ?_); refine GE.done (by as_aux_lemma => kernel_rfl) ?_
      rotate_left
      focus
        refine GE.pickOp rfl rfl rfl (og_lit rfl (.cons rfl .nil) rfl rfl rfl rfl rfl rfl) rfl (fun _ _ h => by exact h.drop 3) (fun vx _ => ?_); refine GE.ol 4 (by as_aux_lemma => kernel_rfl) rfl rfl (og_app1 rfl rfl rfl (by exact Rd.stays (by assumption)) rfl rfl (by (simp; omega)) (by (simp; omega))) rfl (fun _ _ h => by exact h.drop 3) (fun vy _ => ?_); refine GE.ol 7 (by as_aux_lemma => kernel_rfl) rfl rfl (og_app1 rfl rfl rfl (by exact Rd.owned 0 rfl) rfl rfl (by (simp; omega)) (by (simp; omega))) rfl (fun _ _ h => by exact h.drop 3) (fun va _ => ?_)
        (refine GE.ol 8 (by as_aux_lemma => kernel_rfl) rfl rfl (og_callF0 rfl rfl (fun w hh => (l7Of_any (r := r) (us := us ++ [u]) w (Rd.stays h3 _ hh) (by rw [← snoc_cells]; exact Rd.owned 1 rfl _ hh) (by rw [List.length_append]; exact hul) (Rd.stays h5 _ hh)).toFn)) rfl (fun _ _ h => by exact h.drop 3) ?_; rintro ⟨⟩ _; try dsimp only)
        refine GE.t0 10 (by as_aux_lemma => kernel_rfl) rfl rfl rfl (og_st2 rfl rfl rfl rfl rfl rfl (.zero (.cons (.cons .nil)))) (fun _ _ => ?_); refine GE.done (by as_aux_lemma => kernel_rfl) ?_
      rotate_left
    rotate_left 2
    focus
      refine GE.pickOp rfl rfl rfl (og_lit rfl (.cons rfl .nil) rfl rfl rfl rfl rfl rfl) rfl (fun _ _ h => by exact h.drop 2) (fun vx _ => ?_); refine GE.ol 2 (by as_aux_lemma => kernel_rfl) rfl rfl (og_lit rfl .nil rfl rfl rfl rfl rfl rfl) rfl (fun _ _ h => by exact h.drop 3) (fun vz _ => ?_); refine GE.ol 4 (by as_aux_lemma => kernel_rfl) rfl rfl (og_app0 rfl rfl rfl (by exact Rd.stays (by assumption)) rfl rfl (by (simp; omega)) (by (simp; omega))) rfl (fun _ _ h => by exact h.drop 3) (fun vy _ => ?_); refine GE.ol 7 (by as_aux_lemma => kernel_rfl) rfl rfl (og_app0 rfl rfl rfl (by exact Rd.owned 1 rfl) rfl rfl (by (simp; omega)) (by (simp; omega))) rfl (fun _ _ h => by exact h.drop 3) (fun va _ => ?_)
      (refine GE.ol 8 (by as_aux_lemma => kernel_rfl) rfl rfl (og_callF0 rfl rfl (fun w hh => (l7Of_any (r := r) (us := us ++ [u]) w (Rd.stays h3 _ hh) (by rw [← snoc_cells]; exact Rd.owned 0 rfl _ hh) (by rw [List.length_append]; exact hul) (Rd.stays h5 _ hh)).toFn)) rfl (fun _ _ h => by exact h.drop 3) ?_; rintro ⟨⟩ _; try dsimp only)
      refine GE.t0 10 (by as_aux_lemma => kernel_rfl) rfl rfl rfl (og_st2 rfl rfl rfl rfl rfl rfl (.zero (.cons (.cons .nil)))) (fun _ _ => ?_); refine GE.done (by as_aux_lemma => kernel_rfl) ?_
    rotate_left
  rotate_left 3
  all_goals
   refine G.thenN (G.seq ?_); refine G.drawL [17] ?_; refine GE.q 0 rfl (by as_aux_lemma => kernel_rfl) rfl (qg_runs (rv_field rfl)) rfl ?_
   (first | refine GE.q 1 rfl (by as_aux_lemma => kernel_rfl) rfl (qg_runs (rv_load1 0 rfl rfl rfl)) rfl ?_ | refine GE.q 1 rfl (by as_aux_lemma => kernel_rfl) rfl (qg_runs (rv_load1 1 rfl rfl rfl)) rfl ?_ | refine GE.q 1 rfl (by as_aux_lemma => kernel_rfl) rfl (qg_runs (rv_load1 2 rfl rfl rfl)) rfl ?_)
   refine GE.q 2 rfl (by as_aux_lemma => kernel_rfl) rfl (qg_runs (rv_field rfl)) rfl ?_; refine GE.q 3 rfl (by as_aux_lemma => kernel_rfl) rfl (qg_runs (rv_load1 3 rfl rfl rfl)) rfl ?_; refine GE.q 4 rfl (by as_aux_lemma => kernel_rfl) rfl (qg_runs (rv_field rfl)) rfl ?_; refine GE.q 5 rfl (by as_aux_lemma => kernel_rfl) rfl (qg_runs (rv_load1 3 rfl rfl rfl)) rfl ?_; refine GE.ol 6 (by as_aux_lemma => kernel_rfl) rfl rfl (og_runs (rv_field rfl)) rfl (fun _ _ h => by exact h) (fun _ _ => ?_); refine GE.ol 7 (by as_aux_lemma => kernel_rfl) rfl rfl (og_runs (rv_load1 3 rfl rfl rfl)) rfl (fun _ _ h => by exact h) (fun _ _ => ?_); refine GE.ol 8 (by as_aux_lemma => kernel_rfl) rfl rfl (og_callV rfl rfl (fun w hh => svolume_any t.w t.h t.d w)) rfl (fun _ _ h => by exact h) (fun _ _ => ?_); refine GE.ol 9 (by as_aux_lemma => kernel_rfl) rfl rfl (og_runs (rv_leq rfl rfl)) rfl (fun _ _ h => by exact h) (fun _ _ => ?_); refine GE.ol 10 (by as_aux_lemma => kernel_rfl) rfl rfl (og_runs (rv_move rfl)) rfl (fun _ _ h => by exact h) (fun _ _ => ?_)
   all_goals (((with_reducible refine GE.part (t := 31) rfl (fun hg => ?_) (fun hg => ?_)) <;> (try exact Bool.noConfusion hg) <;> (first | (refine GE.q 11 rfl (by as_aux_lemma => kernel_rfl) rfl (qg_runs (rv_field rfl)) rfl ?_) | refine GE.qn 11 rfl (by as_aux_lemma => kernel_rfl) rfl rfl ?_)))
   all_goals ((first | (first | refine GE.q 12 rfl (by as_aux_lemma => kernel_rfl) rfl (qg_runs (rv_load1 0 rfl rfl rfl)) rfl ?_ | refine GE.q 12 rfl (by as_aux_lemma => kernel_rfl) rfl (qg_runs (rv_load1 1 rfl rfl rfl)) rfl ?_ | refine GE.q 12 rfl (by as_aux_lemma => kernel_rfl) rfl (qg_runs (rv_load1 2 rfl rfl rfl)) rfl ?_) | refine GE.qn 12 rfl (by as_aux_lemma => kernel_rfl) rfl rfl ?_))
   all_goals ((first | (refine GE.q 13 rfl (by as_aux_lemma => kernel_rfl) rfl (qg_runs (rv_field rfl)) rfl ?_) | refine GE.qn 13 rfl (by as_aux_lemma => kernel_rfl) rfl rfl ?_))
   all_goals ((first | (refine GE.q 14 rfl (by as_aux_lemma => kernel_rfl) rfl (qg_runs (rv_load1 3 rfl rfl rfl)) rfl ?_) | refine GE.qn 14 rfl (by as_aux_lemma => kernel_rfl) rfl rfl ?_))
   all_goals ((first | refine GE.q 15 rfl (by as_aux_lemma => kernel_rfl) rfl (qg_runs (rv_leq rfl rfl)) rfl ?_ | refine GE.qn 15 rfl (by as_aux_lemma => kernel_rfl) rfl rfl ?_))
   all_goals ((first | refine GE.ol 16 (by as_aux_lemma => kernel_rfl) rfl rfl (og_runs (rv_pickT rfl rfl)) rfl (fun _ _ h => by exact h) (fun _ _ => ?_) | refine GE.ol 16 (by as_aux_lemma => kernel_rfl) rfl rfl (og_runs (rv_pickF rfl rfl)) rfl (fun _ _ h => by exact h) (fun _ _ => ?_)))
   all_goals (refine GE.t 17 (by as_aux_lemma => kernel_rfl) rfl rfl rfl (og_runs (rv_assign rfl)) rfl (fun _ _ => ?_))
   all_goals
    refine GE.done (by as_aux_lemma => kernel_rfl) ?_; refine G.thenN (G.ret ?_)
    first | (refine G.retFV rfl rfl (congrArg Value.bool ?_); simp_all [withinT]; done) | (refine G.retFV rfl rfl (congrArg Value.bool ?_); simp_all [withinT]; intro hq9; omega)
end
theorem last_push {p : List Int → Bool} {ts : List (List Int × Value)} {x : Int} {v : Value} (h : lastM p (ts.map Prod.fst) x = ts.map Prod.fst ++ [[x]]) : lastM p (ts.map Prod.fst) x = (ts ++ [([x], v)]).map Prod.fst := by
  rw [h, List.map_append]; rfl
theorem last_into {p : List Int → Bool} {ts : List (List Int × Value)} {x : Int} {q : Nat} {b : List Int × Value} {v : Value} (hb : ts[q]? = some b) (hq : ts.length = q + 1) (hp : p b.1 = true) : lastM p (ts.map Prod.fst) x = (ts.set q (b.1 ++ [x], v)).map Prod.fst := by
  rw [last_yes (k := q) (b := b.1) (by rw [List.getElem?_map, hb]; rfl) (by rw [List.length_map]; exact hq) hp, List.map_set]
section
variable {r : ReqM} {pv tv iv uv : Value} {us : List Int} (w : World) (h : Rd w pv 2 (r.pairs.map PairM.cells)) (h2 : Rd w tv 7 (r.types.map TypeM.cells)) (h3 : Rd w iv 7 (r.items.map ItemM.cells)) (h4 : Rd w uv 1 (us.map icell)) (hul : us.length ≤ 1048576)
include h h2 h3 h4 hul
theorem nextFit_any : Fn Tryz.prog 34 [.agg (r.cells pv tv iv).toArray, uv] w (fun x : Value × List (List Int × Value) => x.1.oneCell' = true ∧ x.2.map Prod.fst = nextM r us) (fun x => x.1) (fun x => [.grp 3 1 (x.2.map (sub id)), .row x.1 44 1 (x.2.map gcell)]) := by
  obtain ⟨T, hT⟩ : ∃ T, T = thereM r us := ⟨_, rfl⟩
  have hTl : T.length ≤ 1048576 := by have := thereM_len r us; rw [hT]; omega
  have hTl2 : (T.map icell).length = T.length := by simp
  refine Fn.of (n := 49) Tryz.func34 rfl rfl ?_; refine G.seq (G.region ?_); refine G.op (og_box rfl rfl) rfl (fun bk2 _ => ?_); refine G.v (rv_assign rfl) rfl (G.done (G.thenN (G.seq (G.region ?_)))); refine G.op (og_lit rfl .nil rfl rfl rfl rfl rfl rfl) rfl (fun vl _ => ?_); refine G.v (rv_assign rfl) rfl (G.done (G.thenN (G.seq (G.seq (G.region (G.v (rv_loadW 1 rfl rfl rfl) rfl (G.v (rv_move rfl) rfl ?_)))))))
  (refine G.op (og_callF1 rfl rfl (fun w hh => by have q := thereOf_any (r := r) (us := us) w (Rd.stays h _ hh) (Rd.stays h2 _ hh) (Rd.stays h3 _ hh) (Rd.stays h4 _ hh) (by omega); rw [← hT] at q; exact q)) rfl ?_; rintro vt hvt; try dsimp only)
  refine G.v (rv_len rfl (by exact Rd.owned 0 rfl)) rfl ?_; refine G.v (rv_move rfl) rfl (G.done (G.thenN (G.block ?_)))
  -- loop 0: turned [5, 14], kept [2, 12, 13]
  refine G.frontR1 vl rfl ?_; refine G.heap (fun w hh => hh.nilGrp 3 1) ?_; refine G.loopK (ι := Nat × List (List Int × Value) × Value) (ks := [2, 12, 13]) (fun x => [(5, x.2.2), (14, .int .i64 (x.1 : Int))]) (fun x => [.grp 3 1 (x.2.1.map (sub id)), .row x.2.2 44 1 (x.2.1.map gcell)]) (fun x => x.1 ≤ T.length ∧ x.2.1.map Prod.fst = lastAll (roomM r) (T.take x.1)) (fun x => T.length - x.1) (0, [], vl) (.cons rfl (.cons rfl (.cons rfl (.nil)))) rfl ?_ ?_ ?_
  · exact ⟨Nat.zero_le _, rfl⟩
  · exact ⟨rfl, rfl, trivial⟩
  rintro ⟨k, ts, v2⟩ ⟨hk, hM⟩
  dsimp only at hk hM ⊢
  have hl0 : (ts.map gcell).length = ts.length := (by simp)
  have htl : ts.length ≤ k := (by have := lastAll_len (roomM r) (T.take k); have e2 := congrArg List.length hM; rw [List.length_map] at e2; rw [List.length_take] at this; omega)
  by_cases hlt : k < T.length
  case' pos => (obtain ⟨x, hx⟩ := get_of_lt hlt; have he := get_map hx icell; rcases nil_or_snoc ts with hts | ⟨tp, t, hts⟩; have hn0 : ts.length = 0 := (by rw [hts]; rfl); rotate_left; have hn1 : ts.length = tp.length + 1 := (by (rw [hts]; simp)); obtain ⟨q, hq⟩ : ∃ y, y = tp.length := ⟨_, rfl⟩; rw [← hq] at hn1; have htq : ts[q]? = some t := (by (rw [hq]; exact get_last hts)); have heq := get_map htq gcell; have hgi : (ts.map (sub id))[q]? = some (t.2, t.1.map icell) := get_mapS htq; have hbl : t.1.length ≤ k := (by have := (lastAll_at (p := roomM r) (l := T.take k) (q := q) (g := t.1) (by rw [← hM, List.getElem?_map, htq]; rfl)); rw [List.length_take] at this; omega))
  all_goals
   refine G.seq (G.region (G.v (rv_lss rfl rfl) rfl (G.done (G.thenN (G.seq ?_))))); refine G.cond rfl (fun hc => ?_) (fun hc => ?_)
   · try exact Bool.noConfusion hc
     all_goals
      try replace hc := of_decide_eq_true hc
      try simp only [List.length_map] at hc
      try (exfalso; omega)
      all_goals
       refine G.skip (G.thenN (G.seq (G.block (G.seq (G.region ?_))))); refine G.v (rv_indexH rfl rfl (by exact Rd.owned 2 rfl) rfl (by exact he)) rfl ?_; refine G.v (rv_loadE rfl (by exact Rd.owned 2 rfl) (by exact he) rfl) rfl ?_; refine G.v (rv_assign rfl) rfl (G.done (G.thenN (G.seq (G.region (G.v (rv_move rfl) rfl ?_))))); refine G.v (rv_len rfl (by exact Rd.owned 1 rfl)) rfl ?_; refine G.v (rv_subB rfl rfl (by omega) (by omega)) rfl ?_; refine G.v (rv_assign rfl) rfl (G.done (G.thenN (G.seq ?_))); refine G.drawL [] ?_; refine GE.ol 0 (by as_aux_lemma => kernel_rfl) rfl rfl (og_runs (rv_move rfl)) rfl (fun _ _ h => by exact h) (fun _ _ => ?_); refine GE.ol 1 (by as_aux_lemma => kernel_rfl) rfl rfl (og_runs (rv_geq rfl rfl)) rfl (fun _ _ h => by exact h) (fun _ _ => ?_); refine GE.ol 2 (by as_aux_lemma => kernel_rfl) rfl rfl (og_runs (rv_move rfl)) rfl (fun _ _ h => by exact h) (fun _ _ => ?_)
       all_goals (((with_reducible refine GE.part (t := 23) rfl (fun hg => ?_) (fun hg => ?_)) <;> (try exact Bool.noConfusion hg) <;> (try (exfalso; first | (have hq := of_decide_eq_false hg; omega) | (have hq := of_decide_eq_true hg; omega); done)) <;> (first | (refine GE.q 3 rfl (by as_aux_lemma => kernel_rfl) rfl (qg_runs (rv_loadW 3 rfl rfl rfl)) rfl ?_) | refine GE.qn 3 rfl (by as_aux_lemma => kernel_rfl) rfl rfl ?_)))
       all_goals ((first | refine GE.q 4 rfl (by as_aux_lemma => kernel_rfl) rfl (qg_runs (rv_move rfl)) rfl ?_ | refine GE.qn 4 rfl (by as_aux_lemma => kernel_rfl) rfl rfl ?_))
       all_goals ((first | refine GE.q 5 rfl (by as_aux_lemma => kernel_rfl) rfl (qg_runs (rv_move rfl)) rfl ?_ | refine GE.qn 5 rfl (by as_aux_lemma => kernel_rfl) rfl rfl ?_))
       all_goals ((first | (refine GE.q 6 rfl (by as_aux_lemma => kernel_rfl) rfl (qg_runs (rv_indexH (k := q) rfl rfl (by exact Rd.owned 1 rfl) (by omega) heq)) rfl ?_) | refine GE.qn 6 rfl (by as_aux_lemma => kernel_rfl) rfl rfl ?_))
       all_goals ((first | refine GE.q 7 rfl (by as_aux_lemma => kernel_rfl) rfl (qg_runs (rv_loadE rfl (by first | exact Rd.stays (by assumption) | exact Rd.owned 1 rfl) (by exact heq) rfl)) rfl ?_ | refine GE.qn 7 rfl (by as_aux_lemma => kernel_rfl) rfl rfl ?_))
       all_goals ((first | refine GE.q 8 rfl (by as_aux_lemma => kernel_rfl) rfl (qg_runs (rv_move rfl)) rfl ?_ | refine GE.qn 8 rfl (by as_aux_lemma => kernel_rfl) rfl rfl ?_))
       all_goals ((first | refine GE.q 9 rfl (by as_aux_lemma => kernel_rfl) rfl (qg_call rfl rfl (fun w hh => room_any (r := r) (us := t.1) w (Rd.stays h _ hh) (Rd.stays h2 _ hh) (Rd.stays h3 _ hh) (Subs.at (by exact Subs.owned 0 rfl _ hh) htq) (by omega) x)) rfl ?_ | refine GE.qn 9 rfl (by as_aux_lemma => kernel_rfl) rfl rfl ?_))
       all_goals ((first | refine GE.ol 10 (by as_aux_lemma => kernel_rfl) rfl rfl (og_runs (rv_pickT rfl rfl)) rfl (fun _ _ h => by exact h) (fun _ _ => ?_) | refine GE.ol 10 (by as_aux_lemma => kernel_rfl) rfl rfl (og_runs (rv_pickF rfl rfl)) rfl (fun _ _ h => by exact h) (fun _ _ => ?_)))
       all_goals
        refine GE.done (by as_aux_lemma => kernel_rfl) ?_; refine G.thenN ?_; refine G.cond rfl (fun hc => ?_) (fun hc => ?_)
        · try exact Bool.noConfusion hc
          all_goals
           try replace hc := of_decide_eq_true hc
           try simp only [List.length_map] at hc
           try (exfalso; contradiction)
           all_goals
            have hstep := fun v : Value => last_into (p := fun g => roomM r g x) (x := x) (v := v) htq hn1 hc
            all_goals
             refine G.region (G.v (rv_move rfl) rfl (G.v (rv_move rfl) rfl (G.v (rv_move rfl) rfl (G.v (rv_move rfl) rfl ?_)))); refine G.v (rv_indexH (k := q) rfl rfl (by exact Rd.owned 1 rfl) (by omega) heq) rfl ?_; refine G.v (rv_loadE rfl (by exact Rd.owned 1 rfl) (by exact heq) rfl) rfl ?_; refine G.v (rv_move rfl) rfl ?_; refine G.op (og_lit rfl (.cons rfl .nil) rfl rfl rfl rfl rfl rfl) rfl (fun vl _ => ?_); refine G.op (og_appG1 rfl rfl rfl hgi (by exact Rd.owned 0 rfl) rfl rfl (by (simp; omega)) (by (simp; omega))) rfl (fun vb _ => ?_)
             skip; refine G.know (fun w hw => (Rd.grp 1 rfl (List.mem_of_getElem? (get_set1 hgi)) w hw).one_) (fun hova => ?_)
             refine G.v (rv_indexH (k := q) rfl rfl (by exact Rd.owned 2 rfl) (by omega) heq) rfl ?_; refine G.op0 (og_stE2 rfl rfl rfl (by exact heq) (cells_one (by assumption)) rfl (by repeat (first | rfl | refine one_cons (by assumption) ?_)) rfl (.zero (.cons .nil))) (fun _ _ => ?_); refine G.done (G.inN (G.thenN (G.region ?_))); refine G.v (rv_incr rfl rfl (by omega)) rfl ?_; refine G.v (rv_move rfl) rfl (G.done ?_); refine G.frontR2 v2 rfl ?_; refine G.frontG2 _ rfl ?_
             (refine G.keep2 1 rfl ?_; refine G.backK (k + 1, ts.set q (t.1 ++ [x], vb), v2) 0 (by exact two_eq (congrArg (fun z => Ch.grp 3 1 z) into_sub) (congrArg (fun z => Ch.row v2 44 1 z) into_g)) (.cons rfl (.cons rfl (.cons rfl (.nil)))) ?_ ?_ ?_)
             · exact ⟨rfl, rfl, trivial⟩
             · exact ⟨hlt, by rw [lastAll_next hx, ← hM]; exact (hstep _).symm⟩
             · dsimp only; omega
        · try exact Bool.noConfusion hc
          all_goals
           try replace hc := of_decide_eq_false hc
           try simp only [List.length_map] at hc
           try (exfalso; contradiction)
           all_goals
            have hstep : ∀ v : Value, lastM (fun g => roomM r g x) (ts.map Prod.fst) x = (ts ++ [([x], v)]).map Prod.fst := (fun v => last_push (by first | exact last_nil (by rw [List.length_map]; exact hn0) | exact last_no (fst_at htq) (by rw [List.length_map]; exact hn1) hc))
            all_goals
             refine G.region (G.v (rv_move rfl) rfl (G.v (rv_move rfl) rfl ?_)); refine G.op (og_lit rfl (.cons rfl .nil) rfl rfl rfl rfl rfl rfl) rfl (fun vl _ => ?_); refine G.know (fun w hw => (Rd.owned 0 rfl w hw).one_) (fun hovl => ?_); refine G.op (og_lit rfl (.cons (cells_one (by assumption)) .nil) (by simp only [List.all_cons, List.all_nil, Bool.and_true, Bool.and_eq_true]; exact ⟨rfl, by assumption⟩) rfl rfl rfl rfl rfl) rfl (fun vm _ => ?_); refine G.op (og_app3 rfl rfl rfl (by exact Rd.owned 0 rfl) rfl rfl (by (simp; omega)) (by (simp; omega))) rfl (fun va _ => ?_); refine G.frontG2 _ rfl ?_; refine G.frontR2 vl rfl ?_; refine G.pushRow _ push_sub rfl ?_; refine G.v (rv_assign rfl) rfl (G.done (G.inN (G.thenN (G.region ?_)))); refine G.v (rv_incr rfl rfl (by omega)) rfl ?_; refine G.v (rv_move rfl) rfl (G.done ?_); refine G.frontR2 va rfl ?_; refine G.frontG1 _ rfl ?_
             (refine G.keep2 1 rfl ?_; refine G.backK (k + 1, ts ++ [([x], vl)], va) 0 (by exact two_eq (congrArg (fun z => Ch.grp 3 1 z) rfl) (congrArg (fun z => Ch.row va 44 1 z) push_g)) (.cons rfl (.cons rfl (.cons rfl (.nil)))) ?_ ?_ ?_)
             · exact ⟨rfl, rfl, trivial⟩
             · exact ⟨hlt, by rw [lastAll_next hx, ← hM]; exact (hstep _).symm⟩
             · dsimp only; omega
   · try exact Bool.noConfusion hc
     all_goals
      try replace hc := of_decide_eq_false hc
      try simp only [List.length_map] at hc
      try (exfalso; omega)
      all_goals
       refine G.exit (G.thenX (G.thenX (G.inX (G.thenN (G.seq (G.region (G.v (rv_move rfl) rfl (G.v (rv_assign rfl) rfl (G.done (G.thenN (G.ret ?_))))))))))); refine G.know (fun w hw => (Rd.owned 1 rfl w hw).one_) (fun hone => G.retF (v2, ts) ⟨hone, by rw [take_all (l := T) (by omega), hT] at hM; exact hM⟩ rfl rfl rfl (fun w hw => hw.sublist (by repeat (first | exact List.Sublist.refl _ | refine List.Sublist.cons_cons _ ?_ | refine List.Sublist.cons _ ?_))))
omit h in
theorem l7Next_any (hyes : classM r = 0) : Fn Tryz.prog 98 [.agg (r.cells pv tv iv).toArray, uv] w (fun x : Value × List (List Int × Value) => x.1.oneCell' = true ∧ x.2.map Prod.fst = lastAll (roomM r) us) (fun x => x.1) (fun x => [.grp 3 1 (x.2.map (sub id)), .row x.1 44 1 (x.2.map gcell)]) := by
  have hTl2 : (us.map icell).length = us.length := by simp
  refine Fn.of (n := 68) Tryz.func98 rfl rfl ?_; refine G.seq (G.region ?_); refine G.op (og_box rfl rfl) rfl (fun bk2 _ => ?_); refine G.v (rv_assign rfl) rfl (G.done (G.thenN (G.seq (G.region (G.v (rv_loadW 0 rfl rfl rfl) rfl ?_))))); refine G.op (og_callV rfl rfl (fun w hh => smasterOf_any (r := r) w (Rd.stays h2 _ hh))) rfl (fun _ _ => ?_); refine G.v (rv_move rfl) rfl (G.v (rv_extract rfl rfl) rfl (G.v (rv_extract rfl rfl) rfl ?_)); refine G.op (og_alloc) rfl (fun bk5 _ => ?_); refine G.op0 (og_st0 rfl rfl rfl rfl rfl rfl (.zero (.cons (.cons (.cons (.cons (.cons (.cons (.cons .nil))))))))) (fun _ _ => ?_); refine G.v (rv_assign rfl) rfl (G.done (G.thenN (G.seq (G.region (G.v (rv_loadW 1 rfl rfl rfl) rfl ?_)))))
  (refine G.op (og_callF1 rfl rfl (fun w hh => by have q := sl6Units_any (r := r) (pv := pv) (tv := tv) w (bounds_items (cls_sound hyes)) (bounds_lens (cls_sound hyes)).1 (Rd.stays h3 _ hh); rw [← unitsM_yes hyes] at q; exact q)) rfl ?_; rintro vu hvu; try dsimp only)
  refine G.v (rv_assign rfl) rfl (G.done (G.thenN (G.seq (G.region ?_)))); refine G.op (og_lit rfl .nil rfl rfl rfl rfl rfl rfl) rfl (fun vl _ => ?_); refine G.v (rv_assign rfl) rfl (G.done (G.thenN (G.seq (G.seq (G.region (G.v (rv_assign rfl) rfl (G.done (G.thenN (G.block ?_)))))))))
  -- loop 0: turned [8, 9], kept [1, 2, 5, 7]
  refine G.frontR0 vl rfl ?_; refine G.heap (fun w hh => hh.nilGrp 3 1) ?_; refine G.loopK (ι := Nat × List (List Int × Value) × Value) (ks := [1, 2, 5, 7]) (fun x => [(8, x.2.2), (9, .int .i64 (x.1 : Int))]) (fun x => [.grp 3 1 (x.2.1.map (sub id)), .row x.2.2 44 1 (x.2.1.map gcell)]) (fun x => x.1 ≤ us.length ∧ x.2.1.map Prod.fst = lastAll (roomM r) (us.take x.1)) (fun x => us.length - x.1) (0, [], vl) (.cons rfl (.cons rfl (.cons rfl (.cons rfl (.nil))))) rfl ?_ ?_ ?_
  · exact ⟨Nat.zero_le _, rfl⟩
  · exact ⟨rfl, rfl, trivial⟩
  rintro ⟨k, ts, v2⟩ ⟨hk, hM⟩
  dsimp only at hk hM ⊢
  have hl0 : (ts.map gcell).length = ts.length := (by simp)
  have htl : ts.length ≤ k := (by have := lastAll_len (roomM r) (us.take k); have e2 := congrArg List.length hM; rw [List.length_map] at e2; rw [List.length_take] at this; omega)
  by_cases hlt : k < us.length
  case' pos => (obtain ⟨x, hx⟩ := get_of_lt hlt; have he := get_map hx icell; rcases nil_or_snoc ts with hts | ⟨tp, t, hts⟩; have hn0 : ts.length = 0 := (by rw [hts]; rfl); rotate_left; have hn1 : ts.length = tp.length + 1 := (by (rw [hts]; simp)); obtain ⟨q, hq⟩ : ∃ y, y = tp.length := ⟨_, rfl⟩; rw [← hq] at hn1; have htq : ts[q]? = some t := (by (rw [hq]; exact get_last hts)); have heq := get_map htq gcell; have hgi : (ts.map (sub id))[q]? = some (t.2, t.1.map icell) := get_mapS htq; have hbl : t.1.length ≤ k := (by have := (lastAll_at (p := roomM r) (l := us.take k) (q := q) (g := t.1) (by rw [← hM, List.getElem?_map, htq]; rfl)); rw [List.length_take] at this; omega))
  all_goals
   refine G.seq (G.seq (G.region (G.v (rv_move rfl) rfl (G.v (rv_move rfl) rfl ?_)))); refine G.v (rv_len rfl (by exact Rd.stays (by assumption))) rfl ?_; refine G.v (rv_lss rfl rfl) rfl (G.done (G.thenN ?_)); refine G.cond rfl (fun hc => ?_) (fun hc => ?_)
   · try exact Bool.noConfusion hc
     all_goals
      try replace hc := of_decide_eq_true hc
      try simp only [List.length_map] at hc
      try (exfalso; omega)
      all_goals
       refine G.skip (G.thenN (G.seq (G.block (G.seq (G.region (G.v (rv_move rfl) rfl ?_)))))); refine G.v (rv_len rfl (by exact Rd.owned 1 rfl)) rfl ?_; refine G.v (rv_assign rfl) rfl (G.done (G.thenN (G.seq ?_))); refine G.drawL [] ?_; refine GE.ol 0 (by as_aux_lemma => kernel_rfl) rfl rfl (og_runs (rv_move rfl)) rfl (fun _ _ h => by exact h) (fun _ _ => ?_); refine GE.ol 1 (by as_aux_lemma => kernel_rfl) rfl rfl (og_runs (rv_gtr rfl rfl)) rfl (fun _ _ h => by exact h) (fun _ _ => ?_); refine GE.ol 2 (by as_aux_lemma => kernel_rfl) rfl rfl (og_runs (rv_move rfl)) rfl (fun _ _ h => by exact h) (fun _ _ => ?_)
       all_goals (((with_reducible refine GE.part (t := 29) rfl (fun hg => ?_) (fun hg => ?_)) <;> (try exact Bool.noConfusion hg) <;> (try (exfalso; first | (have hq := of_decide_eq_false hg; omega) | (have hq := of_decide_eq_true hg; omega); done)) <;> (first | (refine GE.q 3 rfl (by as_aux_lemma => kernel_rfl) rfl (qg_runs (rv_loadW 4 rfl rfl rfl)) rfl ?_) | refine GE.qn 3 rfl (by as_aux_lemma => kernel_rfl) rfl rfl ?_)))
       all_goals ((first | refine GE.q 4 rfl (by as_aux_lemma => kernel_rfl) rfl (qg_runs (rv_move rfl)) rfl ?_ | refine GE.qn 4 rfl (by as_aux_lemma => kernel_rfl) rfl rfl ?_))
       all_goals ((first | (refine GE.q 5 rfl (by as_aux_lemma => kernel_rfl) rfl (qg_runs (rv_loadW 3 rfl rfl rfl)) rfl ?_) | refine GE.qn 5 rfl (by as_aux_lemma => kernel_rfl) rfl rfl ?_))
       all_goals ((first | refine GE.q 6 rfl (by as_aux_lemma => kernel_rfl) rfl (qg_runs (rv_move rfl)) rfl ?_ | refine GE.qn 6 rfl (by as_aux_lemma => kernel_rfl) rfl rfl ?_))
       all_goals ((first | refine GE.q 7 rfl (by as_aux_lemma => kernel_rfl) rfl (qg_runs (rv_move rfl)) rfl ?_ | refine GE.qn 7 rfl (by as_aux_lemma => kernel_rfl) rfl rfl ?_))
       all_goals ((first | refine GE.q 8 rfl (by as_aux_lemma => kernel_rfl) rfl (qg_runs (rv_subB rfl rfl (by omega) (by omega))) rfl ?_ | refine GE.qn 8 rfl (by as_aux_lemma => kernel_rfl) rfl rfl ?_))
       all_goals ((first | (refine GE.q 9 rfl (by as_aux_lemma => kernel_rfl) rfl (qg_runs (rv_indexH (k := q) rfl rfl (by exact Rd.owned 1 rfl) (by omega) heq)) rfl ?_) | refine GE.qn 9 rfl (by as_aux_lemma => kernel_rfl) rfl rfl ?_))
       all_goals ((first | refine GE.q 10 rfl (by as_aux_lemma => kernel_rfl) rfl (qg_runs (rv_loadE rfl (by first | exact Rd.stays (by assumption) | exact Rd.owned 1 rfl) (by first | exact he | exact heq) rfl)) rfl ?_ | refine GE.qn 10 rfl (by as_aux_lemma => kernel_rfl) rfl rfl ?_))
       all_goals ((first | refine GE.q 11 rfl (by as_aux_lemma => kernel_rfl) rfl (qg_runs (rv_move rfl)) rfl ?_ | refine GE.qn 11 rfl (by as_aux_lemma => kernel_rfl) rfl rfl ?_))
       all_goals ((first | refine GE.q 12 rfl (by as_aux_lemma => kernel_rfl) rfl (qg_runs (rv_move rfl)) rfl ?_ | refine GE.qn 12 rfl (by as_aux_lemma => kernel_rfl) rfl rfl ?_))
       all_goals ((first | (refine GE.q 13 rfl (by as_aux_lemma => kernel_rfl) rfl (qg_runs (rv_indexH rfl rfl (by exact Rd.stays (by assumption)) rfl (by exact he))) rfl ?_) | refine GE.qn 13 rfl (by as_aux_lemma => kernel_rfl) rfl rfl ?_))
       all_goals ((first | refine GE.q 14 rfl (by as_aux_lemma => kernel_rfl) rfl (qg_runs (rv_loadE rfl (by exact Rd.stays (by assumption)) (by exact he) rfl)) rfl ?_ | refine GE.qn 14 rfl (by as_aux_lemma => kernel_rfl) rfl rfl ?_))
       all_goals ((first | refine GE.q 15 rfl (by as_aux_lemma => kernel_rfl) rfl (qg_call rfl rfl (fun w hh => (l7Room_any (r := r) (us := t.1) w (Rd.stays h3 _ hh) (Subs.at (by exact Subs.owned 0 rfl _ hh) htq) (by omega) (mst r) x (by exact Rd.owned 2 rfl _ hh)).mono (congrArg Value.bool (room_yes hyes t.1 x).symm))) rfl ?_ | refine GE.qn 15 rfl (by as_aux_lemma => kernel_rfl) rfl rfl ?_))
       all_goals ((first | refine GE.ol 16 (by as_aux_lemma => kernel_rfl) rfl rfl (og_runs (rv_pickT rfl rfl)) rfl (fun _ _ h => by exact h) (fun _ _ => ?_) | refine GE.ol 16 (by as_aux_lemma => kernel_rfl) rfl rfl (og_runs (rv_pickF rfl rfl)) rfl (fun _ _ h => by exact h) (fun _ _ => ?_)))
       all_goals
        refine GE.done (by as_aux_lemma => kernel_rfl) ?_; refine G.thenN ?_; refine G.cond rfl (fun hc => ?_) (fun hc => ?_)
        · try exact Bool.noConfusion hc
          all_goals
           try replace hc := of_decide_eq_true hc
           try simp only [List.length_map] at hc
           try (exfalso; contradiction)
           all_goals
            have hstep := fun v : Value => last_into (p := fun g => roomM r g x) (x := x) (v := v) htq hn1 hc
            all_goals
             refine G.frontG0 _ rfl ?_; refine G.drawD1 [14, 15] rfl ?_; refine GE.q2 0 rfl (by as_aux_lemma => kernel_rfl) rfl (qg_runs (rv_move rfl)) (fun _ h => by exact h.drop 1) rfl ?_; refine GE.q2 1 rfl (by as_aux_lemma => kernel_rfl) rfl (qg_runs (rv_move rfl)) (fun _ h => by exact h.drop 1) rfl ?_; refine GE.q2 2 rfl (by as_aux_lemma => kernel_rfl) rfl (qg_runs (rv_subB rfl rfl (by omega) (by omega))) (fun _ h => by exact h.drop 1) rfl ?_; refine GE.q2 3 rfl (by as_aux_lemma => kernel_rfl) rfl (qg_runs (rv_move rfl)) (fun _ h => by exact h.drop 1) rfl ?_; refine GE.q2 4 rfl (by as_aux_lemma => kernel_rfl) rfl (qg_runs (rv_move rfl)) (fun _ h => by exact h.drop 1) rfl ?_; refine GE.q2 5 rfl (by as_aux_lemma => kernel_rfl) rfl (qg_runs (rv_subB rfl rfl (by omega) (by omega))) (fun _ h => by exact h.drop 1) rfl ?_; refine GE.q2 6 rfl (by as_aux_lemma => kernel_rfl) rfl (qg_runs (rv_indexH (k := q) rfl rfl (by exact Rd.owned 0 rfl) (by omega) heq)) (fun _ h => by exact h.drop 1) rfl ?_; refine GE.q2 7 rfl (by as_aux_lemma => kernel_rfl) rfl (qg_runs (rv_loadE rfl (by exact Rd.owned 0 rfl) (by exact heq) rfl)) (fun _ h => by exact h.drop 1) rfl ?_; refine GE.q2 8 rfl (by as_aux_lemma => kernel_rfl) rfl (qg_runs (rv_move rfl)) (fun _ h => by exact h.drop 1) rfl ?_; refine GE.ol 9 (by as_aux_lemma => kernel_rfl) rfl rfl (og_runs (rv_move rfl)) rfl (fun _ _ h => by exact h.drop 1) (fun _ _ => ?_)
             refine GE.ol 10 (by as_aux_lemma => kernel_rfl) rfl rfl (og_runs (rv_indexH rfl rfl (by exact Rd.stays (by assumption)) rfl (by exact he))) rfl (fun _ _ h => by exact h.drop 1) (fun _ _ => ?_); refine GE.ol 11 (by as_aux_lemma => kernel_rfl) rfl rfl (og_runs (rv_loadE rfl (by exact Rd.stays (by assumption)) (by exact he) rfl)) rfl (fun _ _ h => by exact h.drop 1) (fun _ _ => ?_); refine GE.ol 12 (by as_aux_lemma => kernel_rfl) rfl rfl (og_lit rfl (.cons rfl .nil) rfl rfl rfl rfl rfl rfl) rfl (fun _ _ h => by exact h.drop 2) (fun vl _ => ?_); refine GE.ol 13 (by as_aux_lemma => kernel_rfl) rfl rfl (og_appG1 rfl rfl rfl hgi (by exact Rd.owned 0 rfl) rfl rfl (by (simp; omega)) (by (simp; omega))) rfl (fun _ _ h => by exact h.drop 2) (fun vb _ => ?_)
             skip; refine GE.know (fun w hw => (Rd.grp 1 rfl (List.mem_of_getElem? (get_set1 hgi)) w hw).one_) (fun hova => ?_)
             refine GE.t 14 (by as_aux_lemma => kernel_rfl) rfl rfl rfl (og_runs (rv_indexH (k := q) rfl rfl (by exact Rd.owned 2 rfl) (by omega) heq)) rfl (fun _ _ => ?_); refine GE.t0 15 (by as_aux_lemma => kernel_rfl) rfl rfl rfl (og_stE2 rfl rfl rfl (by exact heq) (cells_one (by assumption)) rfl (by repeat (first | rfl | refine one_cons (by assumption) ?_)) rfl (.zero (.cons .nil))) (fun _ _ => ?_); refine GE.done (by as_aux_lemma => kernel_rfl) ?_; refine G.inN (G.thenN (G.region (G.v (rv_move rfl) rfl ?_))); refine G.v (rv_incr rfl rfl (by omega)) rfl ?_; refine G.v (rv_assign rfl) rfl (G.done ?_); refine G.frontR2 v2 rfl ?_; refine G.frontG2 _ rfl ?_
             (refine G.keep2 1 rfl ?_; refine G.backK (k + 1, ts.set q (t.1 ++ [x], vb), v2) 0 (by exact two_eq (congrArg (fun z => Ch.grp 3 1 z) into_sub) (congrArg (fun z => Ch.row v2 44 1 z) into_g)) (.cons rfl (.cons rfl (.cons rfl (.cons rfl (.nil))))) ?_ ?_ ?_)
             · exact ⟨rfl, rfl, trivial⟩
             · exact ⟨hlt, by rw [lastAll_next hx, ← hM]; exact (hstep _).symm⟩
             · dsimp only; omega
        · try exact Bool.noConfusion hc
          all_goals
           try replace hc := of_decide_eq_false hc
           try simp only [List.length_map] at hc
           try (exfalso; contradiction)
           all_goals
            have hstep : ∀ v : Value, lastM (fun g => roomM r g x) (ts.map Prod.fst) x = (ts ++ [([x], v)]).map Prod.fst := (fun v => last_push (by first | exact last_nil (by rw [List.length_map]; exact hn0) | exact last_no (fst_at htq) (by rw [List.length_map]; exact hn1) hc))
            all_goals
             refine G.region (G.v (rv_move rfl) rfl (G.v (rv_move rfl) rfl (G.v (rv_move rfl) rfl ?_))); refine G.v (rv_indexH rfl rfl (by exact Rd.stays (by assumption)) rfl (by exact he)) rfl ?_; refine G.v (rv_loadE rfl (by exact Rd.stays (by assumption)) (by exact he) rfl) rfl ?_; refine G.op (og_lit rfl (.cons rfl .nil) rfl rfl rfl rfl rfl rfl) rfl (fun vl _ => ?_); refine G.know (fun w hw => (Rd.owned 0 rfl w hw).one_) (fun hovl => ?_); refine G.op (og_lit rfl (.cons (cells_one (by assumption)) .nil) (by simp only [List.all_cons, List.all_nil, Bool.and_true, Bool.and_eq_true]; exact ⟨rfl, by assumption⟩) rfl rfl rfl rfl rfl) rfl (fun vm _ => ?_); refine G.op (og_app3 rfl rfl rfl (by exact Rd.owned 0 rfl) rfl rfl (by (simp; omega)) (by (simp; omega))) rfl (fun va _ => ?_); refine G.frontG2 _ rfl ?_; refine G.frontR2 vl rfl ?_; refine G.pushRow _ push_sub rfl ?_; refine G.v (rv_assign rfl) rfl (G.done (G.inN (G.thenN (G.region (G.v (rv_move rfl) rfl ?_))))); refine G.v (rv_incr rfl rfl (by omega)) rfl ?_; refine G.v (rv_assign rfl) rfl (G.done ?_); refine G.frontR2 va rfl ?_; refine G.frontG1 _ rfl ?_
             (refine G.keep2 1 rfl ?_; refine G.backK (k + 1, ts ++ [([x], vl)], va) 0 (by exact two_eq (congrArg (fun z => Ch.grp 3 1 z) rfl) (congrArg (fun z => Ch.row va 44 1 z) push_g)) (.cons rfl (.cons rfl (.cons rfl (.cons rfl (.nil))))) ?_ ?_ ?_)
             · exact ⟨rfl, rfl, trivial⟩
             · exact ⟨hlt, by rw [lastAll_next hx, ← hM]; exact (hstep _).symm⟩
             · dsimp only; omega
   · try exact Bool.noConfusion hc
     all_goals
      try replace hc := of_decide_eq_false hc
      try simp only [List.length_map] at hc
      try (exfalso; omega)
      all_goals
       refine G.exit (G.thenX (G.thenX (G.inX (G.thenN (G.seq (G.region (G.v (rv_move rfl) rfl (G.v (rv_assign rfl) rfl (G.done (G.thenN (G.ret ?_))))))))))); refine G.know (fun w hw => (Rd.owned 1 rfl w hw).one_) (fun hone => G.retF (v2, ts) ⟨hone, by rw [take_all (l := us) (by omega)] at hM; exact hM⟩ rfl rfl rfl (fun w hw => hw.sublist (by repeat (first | exact List.Sublist.refl _ | refine List.Sublist.cons_cons _ ?_ | refine List.Sublist.cons _ ?_))))
theorem snextFit_any : Fn Tryz.prog 32 [.agg (r.cells pv tv iv).toArray, uv] w (fun x : Value × List (List Int × Value) => x.1.oneCell' = true ∧ x.2.map Prod.fst = nextM r us) (fun x => x.1) (fun x => [.grp 3 1 (x.2.map (sub id)), .row x.1 44 1 (x.2.map gcell)]) := by
  have hTl : (thereM r us).length ≤ 1048576 := by have := thereM_len r us; omega
  refine Fn.of (n := 15) Tryz.func32 rfl rfl ?_; refine G.seq (G.region ?_); refine G.op (og_box rfl rfl) rfl (fun bk2 _ => ?_); refine G.v (rv_assign rfl) rfl (G.done (G.thenN (G.seq (G.seq (G.region (G.v (rv_loadW 0 rfl rfl rfl) rfl ?_)))))); refine G.op (og_callV rfl rfl (fun w hh => sclass_any (r := r) w (Rd.stays h _ hh) (Rd.stays h2 _ hh) (Rd.stays h3 _ hh))) rfl (fun _ _ => ?_); refine G.v (rv_neq rfl rfl) rfl (G.done (G.thenN ?_)); refine G.cond rfl (fun hc => ?_) (fun hc => ?_)
  · try exact Bool.noConfusion hc
    all_goals
     try replace hc := of_decide_eq_true hc
     try (exfalso; contradiction)
     all_goals
      have hno : ¬ classM r = 0 := hc
      all_goals
       refine G.seq (G.region ?_); refine G.op (og_lit rfl .nil rfl rfl rfl rfl rfl rfl) rfl (fun vl _ => ?_); refine G.v (rv_assign rfl) rfl (G.done (G.thenN (G.ret (G.thenR ?_))))
       (refine G.heap (fun w hh => hh.nilGrp 3 1) ?_; refine G.know (fun w hw => (Rd.owned 1 rfl w hw).one_) (fun hone => G.retF (vl, []) ⟨hone, by rw [nextM, thereM_no hno]; rfl⟩ rfl rfl rfl (fun w hw => hw.sublist (by repeat (first | exact List.Sublist.refl _ | refine List.Sublist.cons_cons _ ?_ | refine List.Sublist.cons _ ?_)))))
  · try exact Bool.noConfusion hc
    all_goals
     try replace hc := of_decide_eq_false hc
     try (exfalso; contradiction)
     all_goals
      have hyes : classM r = 0 := by omega
      all_goals
       refine G.skip (G.thenN (G.seq ?_)); refine G.drawL [6] ?_; refine GE.q 0 rfl (by as_aux_lemma => kernel_rfl) rfl (qg_runs (rv_loadW 0 rfl rfl rfl)) rfl ?_; refine GE.q 1 rfl (by as_aux_lemma => kernel_rfl) rfl (qg_runs (rv_loadW 0 rfl rfl rfl)) rfl ?_; refine GE.q 3 rfl (by as_aux_lemma => kernel_rfl) rfl (qg_runs (rv_move rfl)) rfl ?_
       (refine GE.ol 2 (by as_aux_lemma => kernel_rfl) rfl rfl (og_callF1 rfl rfl (fun w hh => by have q := sl6Units_any (r := r) (pv := pv) (tv := tv) w (bounds_items (cls_sound hyes)) (bounds_lens (cls_sound hyes)).1 (Rd.stays h3 _ hh); rw [← unitsM_yes hyes] at q; exact q)) rfl (fun _ _ h => by exact h.drop 1) ?_; rintro vu hvu; try dsimp only)
       (refine GE.ol 4 (by as_aux_lemma => kernel_rfl) rfl rfl (og_callF1 rfl rfl (fun w hh => l7Known_any (r := r) (us := us) w (by exact Rd.owned 0 rfl _ hh) (Rd.stays h4 _ hh) (by omega))) rfl (fun _ _ h => by exact h.drop 2) ?_; rintro vt hvt; try dsimp only)
       (refine GE.ol 5 (by as_aux_lemma => kernel_rfl) rfl rfl (og_callF2 rfl rfl (fun w hh => l7Next_any (r := r) (us := thereM r us) w (Rd.stays h2 _ hh) (Rd.stays h3 _ hh) (by exact Rd.owned 0 rfl _ hh) hTl hyes)) rfl (fun _ _ h => by exact h.drop 4) ?_; rintro ⟨vo, os⟩ ⟨hvo, hos⟩; try dsimp only)
       refine GE.t 6 (by as_aux_lemma => kernel_rfl) rfl rfl rfl (og_runs (rv_assign rfl)) rfl (fun _ _ => ?_); refine GE.done (by as_aux_lemma => kernel_rfl) ?_; refine G.thenN (G.ret ?_)
       exact G.retF (vo, os) ⟨hvo, hos⟩ rfl rfl rfl (fun w hw => hw.sublist (by repeat (first | exact List.Sublist.refl _ | refine List.Sublist.cons_cons _ ?_ | refine List.Sublist.cons _ ?_)))
end
theorem Frm.lt {a b n : Nat} {f g : Nat → Nat} (h : Frm a b f g) (hf : ∀ j, a ≤ j → j < b → f j < n) {x : Nat} (h1 : a ≤ x) (h2 : x < b) : g x < n := by
  obtain ⟨i, i1, i2, i3⟩ := h.src x h1 h2
  rw [i3]; exact hf i i1 i2
theorem Frm.srt_hi {K : Nat → Int} {a b c d : Nat} {f g : Nat → Nat} (h : Frm a b f g) (hb : b ≤ c) (hs : Srt K c d f) : Srt K c d g := fun j k j1 j2 j3 => by
  rw [h.out j (.inr (by omega)), h.out k (.inr (by omega))]; exact hs j k j1 j2 j3
theorem Frm.crs_hi {K : Nat → Int} {a b c d e : Nat} {f g : Nat → Nat} (h : Frm a b f g) (hb : b ≤ c) (hc : c ≤ d) (hs : Crs K c d e f) : Crs K c d e g := fun j k j1 j2 j3 j4 => by
  rw [h.out j (.inr (by omega)), h.out k (.inr (by omega))]; exact hs j k j1 j2 j3 j4
section
variable {w0 : World} {F : List Ch} {v : Value} {n : Nat} {g : Nat} [FnOk Tryz.prog g] {caps : List Value} {K : Nat → Int}
theorem symMerge_any (hcmp : ∀ w, HeapOk w0 w F → ∀ i j : Nat, i < n → j < n → FnV Tryz.prog g ([.int .i64 (i : Int), .int .i64 (j : Int)] ++ caps) w (.int .i64 (cmpZ (K i) (K j)))) (hn : n ≤ 1048576) : ∀ (s : Nat) {f : Nat → Nat} {a m b : Nat}, b - a ≤ s → a < m → m < b → b ≤ n → Srt K a m f → Srt K m b f → Crs K a m b f → (∀ j, a ≤ j → j < b → f j < n) →
    FnMF Tryz.prog 235 [v, .int .i64 (a : Int), .int .i64 (m : Int), .int .i64 (b : Int), .func (.func g) #[] caps.toArray] w0 [.row v 3 1 (rowF n f)] F (fun f' : Nat → Nat => Frm a b f f' ∧ Srt K a b f') (fun _ => .tuple #[]) (fun f' => [.row v 3 1 (rowF n f')]) := by
  intro s
  induction s with
  | zero => intro f a m b h0 h1 h2; omega
  | succ s ih =>
  intro f a m b h0 h1 h2 h3 hs1 hs2 hcr hfn
  have hfa := hfn a (Nat.le_refl _) (by omega)
  have hfm := hfn m (by omega) h2
  have ea : (rowF n f)[a]? = some (icell (f a : Int)) := rowF_get (by omega)
  have em : (rowF n f)[m]? = some (icell (f m : Int)) := rowF_get (by omega)
  refine FnMF.of (n := 220) Tryz.func235 rfl rfl ?_; refine G.seq (G.seq (G.region (G.v (rv_move rfl) rfl (G.v (rv_move rfl) rfl ?_)))); refine G.v (rv_subN rfl rfl (by omega) (by omega)) rfl ?_; refine G.v (rv_eql rfl rfl) rfl (G.done (G.thenN ?_)); refine G.cond rfl (fun hc => ?_) (fun hc => ?_)
  · try exact Bool.noConfusion hc
    all_goals
     try replace hc := of_decide_eq_true hc
     try simp only [cmpZ_neg, Bool.not_eq_true', Bool.not_eq_false', decide_eq_false_iff_not, decide_eq_true_eq] at hc
     try (exfalso; contradiction)
     all_goals
      refine G.seq (G.region (G.v (rv_move rfl) rfl (G.v (rv_assign rfl) rfl (G.done (G.thenN (G.seq (G.region (G.v (rv_move rfl) rfl (G.v (rv_assign rfl) rfl (G.done (G.thenN ?_))))))))))); refine G.seq (G.block ?_)
      -- loop 0: turned [10, 11], kept [0, 1, 4]
      refine G.loopK (ι := Nat × Nat) (ks := [0, 1, 4]) (fun x => [(10, .int .i64 (x.1 : Int)), (11, .int .i64 (x.2 : Int))]) (fun _ => [.row v 3 1 (rowF n f)]) (fun x => m ≤ x.1 ∧ x.1 ≤ x.2 ∧ x.2 ≤ b ∧ (x.1 = m ∨ K (f (x.1 - 1)) < K (f a)) ∧ (x.2 = b ∨ ¬ K (f x.2) < K (f a))) (fun x => x.2 - x.1) (m, b) (.cons rfl (.cons rfl (.cons rfl (.nil)))) rfl ?_ ?_ ?_
      · exact ⟨Nat.le_refl _, by dsimp only; omega, Nat.le_refl _, .inl rfl, .inl rfl⟩
      · exact ⟨rfl, rfl, trivial⟩
      rintro ⟨i, j⟩ ⟨hi, hij, hj, hl, hr⟩
      dsimp only at hi hij hj hl hr ⊢
      by_cases hlt : i < j
      case' pos => (have hfh := hfn ((i + j) / 2) (by omega) (by omega); have eh : (rowF n f)[(i + j) / 2]? = some (icell (f ((i + j) / 2) : Int)) := rowF_get (by omega))
      all_goals
       refine G.seq (G.seq (G.region (G.v (rv_move rfl) rfl (G.v (rv_move rfl) rfl (G.v (rv_lss rfl rfl) rfl (G.done (G.thenN ?_))))))); refine G.cond rfl (fun hc => ?_) (fun hc => ?_)
       · try exact Bool.noConfusion hc
         all_goals
          try replace hc := of_decide_eq_true hc
          try simp only [cmpZ_neg, Bool.not_eq_true', Bool.not_eq_false', decide_eq_false_iff_not, decide_eq_true_eq] at hc
          try (exfalso; omega)
          all_goals
           refine G.skip (G.thenN (G.block (G.seq (G.region (G.v (rv_move rfl) rfl (G.v (rv_move rfl) rfl ?_)))))); refine G.v (rv_addN rfl rfl (by omega)) rfl ?_; refine G.v (rv_conv rfl) rfl ?_; refine G.v (rv_shr rfl rfl (by omega)) rfl ?_; refine G.v (rv_half (m := (i + j) / 2) rfl rfl (by omega) (by omega)) rfl ?_; refine G.v (rv_assign rfl) rfl (G.done (G.thenN (G.seq ?_))); refine G.drawL [] ?_; refine GE.q 0 rfl (by as_aux_lemma => kernel_rfl) rfl (qg_runs (rv_move rfl)) rfl ?_; refine GE.q 1 rfl (by as_aux_lemma => kernel_rfl) rfl (qg_runs (rv_move rfl)) rfl ?_; refine GE.q 2 rfl (by as_aux_lemma => kernel_rfl) rfl (qg_runs (rv_move rfl)) rfl ?_; refine GE.q 3 rfl (by as_aux_lemma => kernel_rfl) rfl (qg_runs (rv_indexH rfl rfl (by exact Rd.owned 0 rfl) rfl (by exact eh))) rfl ?_; refine GE.q 4 rfl (by as_aux_lemma => kernel_rfl) rfl (qg_runs (rv_loadE rfl (by exact Rd.owned 0 rfl) (by exact eh) rfl)) rfl ?_; refine GE.q 5 rfl (by as_aux_lemma => kernel_rfl) rfl (qg_runs (rv_move rfl)) rfl ?_; refine GE.ol 6 (by as_aux_lemma => kernel_rfl) rfl rfl (og_runs (rv_move rfl)) rfl (fun _ _ h => by exact h) (fun _ _ => ?_); refine GE.ol 7 (by as_aux_lemma => kernel_rfl) rfl rfl (og_runs (rv_indexH rfl rfl (by exact Rd.owned 0 rfl) rfl (by exact ea))) rfl (fun _ _ h => by exact h) (fun _ _ => ?_)
           refine GE.ol 8 (by as_aux_lemma => kernel_rfl) rfl rfl (og_runs (rv_loadE rfl (by exact Rd.owned 0 rfl) (by exact ea) rfl)) rfl (fun _ _ h => by exact h) (fun _ _ => ?_); refine GE.ol 9 (by as_aux_lemma => kernel_rfl) rfl rfl (og_callV rfl rfl (fun w hh => hcmp w hh.tail _ _ hfh hfa)) rfl (fun _ _ h => by exact h) (fun _ _ => ?_); refine GE.ol 10 (by as_aux_lemma => kernel_rfl) rfl rfl (og_runs (rv_lss rfl rfl)) rfl (fun _ _ h => by exact h) (fun _ _ => ?_); refine GE.done (by as_aux_lemma => kernel_rfl) ?_; refine G.thenN ?_; refine G.cond rfl (fun hc => ?_) (fun hc => ?_)
           · try exact Bool.noConfusion hc
             all_goals
              try replace hc := of_decide_eq_true hc
              try simp only [cmpZ_neg, Bool.not_eq_true', Bool.not_eq_false', decide_eq_false_iff_not, decide_eq_true_eq] at hc
              try (exfalso; contradiction)
              all_goals
               refine G.region (G.v (rv_move rfl) rfl ?_); refine G.v (rv_incr rfl rfl (by omega)) rfl ?_; refine G.v (rv_assign rfl) rfl (G.done (G.inN ?_)); refine G.backK ((i + j) / 2 + 1, j) 0 rfl (.cons rfl (.cons rfl (.cons rfl (.nil)))) (⟨rfl, rfl, trivial⟩) ?_ ?_
               · (exact ⟨by dsimp only; omega, by dsimp only; omega, by dsimp only; omega, .inr hc, hr⟩)
               · dsimp only; omega
           · try exact Bool.noConfusion hc
             all_goals
              try replace hc := of_decide_eq_false hc
              try simp only [cmpZ_neg, Bool.not_eq_true', Bool.not_eq_false', decide_eq_false_iff_not, decide_eq_true_eq] at hc
              try (exfalso; contradiction)
              all_goals
               refine G.region (G.v (rv_move rfl) rfl (G.v (rv_assign rfl) rfl (G.done (G.inN ?_)))); refine G.backK (i, (i + j) / 2) 0 rfl (.cons rfl (.cons rfl (.cons rfl (.nil)))) (⟨rfl, rfl, trivial⟩) ?_ ?_
               · (exact ⟨by dsimp only; omega, by dsimp only; omega, by dsimp only; omega, hl, .inr hc⟩)
               · dsimp only; omega
       · try exact Bool.noConfusion hc
         all_goals
          try replace hc := of_decide_eq_false hc
          try simp only [cmpZ_neg, Bool.not_eq_true', Bool.not_eq_false', decide_eq_false_iff_not, decide_eq_true_eq] at hc
          try (exfalso; omega)
          all_goals
           refine G.exit (G.thenX (G.thenX (G.inX (G.thenN (G.seq (G.seq (G.region (G.v (rv_move rfl) rfl (G.v (rv_assign rfl) rfl (G.done (G.thenN ?_))))))))))); refine G.block ?_
           -- loop 1: turned [13], kept [0, 10]
           refine G.rowEq (rowF n (rotF f a (a + 1) (a + 1))) (by rw [rot_id (by omega) (Nat.le_refl _) (.inr rfl)]) rfl ?_; refine G.loopK (ι := Nat) (ks := [0, 10]) (fun k => [(13, .int .i64 (k : Int))]) (fun k => [.row v 3 1 (rowF n (rotF f a (a + 1) (k + 1)))]) (fun k => a ≤ k ∧ k + 1 ≤ i) (fun k => i - k) a (.cons rfl (.cons rfl (.nil))) rfl ?_ ?_ ?_
           · exact ⟨Nat.le_refl _, by omega⟩
           · exact ⟨rfl, trivial⟩
           rintro k ⟨hak, hki⟩
           by_cases hk2 : k + 1 < i
           case' pos => (have e1 : (rowF n (rotF f a (a + 1) (k + 1)))[k]? = some (icell (f a : Int)) := (by rw [rowF_get (by omega), rot_hi (by omega) (by omega)]; congr 4; omega); have e2 : (rowF n (rotF f a (a + 1) (k + 1)))[k + 1]? = some (icell (f (k + 1) : Int)) := (by rw [rowF_get (by omega), rot_out (by omega) (by omega) (.inr (Nat.le_refl _))]))
           all_goals
            refine G.seq (G.seq (G.region (G.v (rv_move rfl) rfl (G.v (rv_move rfl) rfl ?_)))); refine G.v (rv_decr rfl rfl (by omega) (by omega)) rfl ?_; refine G.v (rv_lss rfl rfl) rfl (G.done (G.thenN ?_)); refine G.cond rfl (fun hc => ?_) (fun hc => ?_)
            · try exact Bool.noConfusion hc
              all_goals
               try replace hc := of_decide_eq_true hc
               try simp only [cmpZ_neg, Bool.not_eq_true', Bool.not_eq_false', decide_eq_false_iff_not, decide_eq_true_eq] at hc
               try (exfalso; omega)
               all_goals
                refine G.skip (G.thenN (G.seq (G.block ?_))); refine G.drawS [15, 17] rfl ?_; refine GS.p 0 rfl (by as_aux_lemma => kernel_rfl) (qg_runs (rv_move rfl)) (fun _ h => h.drop 1) rfl ?_; refine GS.p 1 rfl (by as_aux_lemma => kernel_rfl) (qg_runs (rv_move rfl)) (fun _ h => h.drop 1) rfl ?_; refine GS.p 2 rfl (by as_aux_lemma => kernel_rfl) (qg_runs (rv_move rfl)) (fun _ h => h.drop 1) rfl ?_; refine GS.p 3 rfl (by as_aux_lemma => kernel_rfl) (qg_runs (rv_move rfl)) (fun _ h => h.drop 1) rfl ?_; refine GS.p 4 rfl (by as_aux_lemma => kernel_rfl) (qg_runs (rv_incr rfl rfl (by omega))) (fun _ h => h.drop 1) rfl ?_; refine GS.p 5 rfl (by as_aux_lemma => kernel_rfl) (qg_runs (rv_move rfl)) (fun _ h => h.drop 1) rfl ?_; refine GS.p 6 rfl (by as_aux_lemma => kernel_rfl) (qg_runs (rv_move rfl)) (fun _ h => h.drop 1) rfl ?_; refine GS.p 7 rfl (by as_aux_lemma => kernel_rfl) (qg_runs (rv_incr rfl rfl (by omega))) (fun _ h => h.drop 1) rfl ?_; refine GS.q 8 [9, 14, 15, 16, 17] rfl (by as_aux_lemma => kernel_rfl) (by as_aux_lemma => kernel_rfl) (qg_runs (rv_indexH rfl rfl (by exact Rd.owned 0 rfl) rfl (by exact e2))) rfl ?_; refine GS.q 9 [14, 15, 16, 17] rfl (by as_aux_lemma => kernel_rfl) (by as_aux_lemma => kernel_rfl) (qg_runs (rv_loadE rfl (by exact Rd.owned 0 rfl) (by exact e2) rfl)) rfl ?_; refine GS.p 10 rfl (by as_aux_lemma => kernel_rfl) (qg_runs (rv_move rfl)) (fun _ h => h.drop 1) rfl ?_
                refine GS.p 11 rfl (by as_aux_lemma => kernel_rfl) (qg_runs (rv_move rfl)) (fun _ h => h.drop 1) rfl ?_; refine GS.q 12 [13, 14, 15, 16, 17] rfl (by as_aux_lemma => kernel_rfl) (by as_aux_lemma => kernel_rfl) (qg_runs (rv_indexH rfl rfl (by exact Rd.owned 0 rfl) rfl (by exact e1))) rfl ?_; refine GS.q 13 [14, 15, 16, 17] rfl (by as_aux_lemma => kernel_rfl) (by as_aux_lemma => kernel_rfl) (qg_runs (rv_loadE rfl (by exact Rd.owned 0 rfl) (by exact e1) rfl)) rfl ?_; refine GS.q 14 [15, 16, 17] rfl (by as_aux_lemma => kernel_rfl) (by as_aux_lemma => kernel_rfl) (qg_runs (rv_indexH rfl rfl (by exact Rd.owned 0 rfl) rfl (by exact e1))) rfl ?_; refine GS.o0 15 (by as_aux_lemma => kernel_rfl) rfl rfl (og_stE0 rfl rfl rfl (by exact e1) rfl rfl rfl rfl (.zero (.cons .nil))) (fun _ _ h => h.drop 1) (fun _ _ => ?_); refine GS.q 16 [17] rfl (by as_aux_lemma => kernel_rfl) (by as_aux_lemma => kernel_rfl) (qg_runs (rv_indexH rfl rfl (by exact Rd.owned 0 rfl) rfl (by exact get_setN (by omega) e2))) rfl ?_; refine GS.o0 17 (by as_aux_lemma => kernel_rfl) rfl rfl (og_stE0 rfl rfl rfl (by exact get_setN (by omega) e2) rfl rfl rfl rfl (.zero (.cons .nil))) (fun _ _ h => h.drop 1) (fun _ _ => ?_); refine GS.done (by as_aux_lemma => kernel_rfl) ?_; refine G.inN (G.thenN (G.region (G.v (rv_move rfl) rfl ?_))); refine G.v (rv_incr rfl rfl (by omega)) rfl ?_; refine G.v (rv_assign rfl) rfl (G.done ?_)
                refine G.backK (k + 1) 0 (one_eq (congrArg (fun z => Ch.row v 3 1 z) (row_up hak))) (.cons rfl (.cons rfl (.nil))) ?_ ?_ ?_
                · exact ⟨rfl, trivial⟩
                · exact ⟨by omega, by omega⟩
                · omega
            · try exact Bool.noConfusion hc
              all_goals
               try replace hc := of_decide_eq_false hc
               try simp only [cmpZ_neg, Bool.not_eq_true', Bool.not_eq_false', decide_eq_false_iff_not, decide_eq_true_eq] at hc
               try (exfalso; omega)
               all_goals
                refine G.exit (G.thenX (G.thenX (G.inX (G.thenN (G.ret (G.thenR ?_))))))
                (exact G.retF0 (rotF f a (a + 1) i) ⟨(rot_frm (by omega) (by omega)).mono (Nat.le_refl _) (by omega), by obtain rfl : m = a + 1 := (by omega); exact put_left hs2 hcr hi (by omega) hl (by (have hq : j = i := (by omega)); rw [hq] at hr; exact hr)⟩ rfl rfl (fun w hw => by obtain rfl : i = k + 1 := (by omega); exact hw))
  · try exact Bool.noConfusion hc
    all_goals
     try replace hc := of_decide_eq_false hc
     try simp only [cmpZ_neg, Bool.not_eq_true', Bool.not_eq_false', decide_eq_false_iff_not, decide_eq_true_eq] at hc
     try (exfalso; contradiction)
     all_goals
      refine G.skip (G.thenN (G.seq (G.seq (G.region (G.v (rv_move rfl) rfl (G.v (rv_move rfl) rfl ?_)))))); refine G.v (rv_subN rfl rfl (by omega) (by omega)) rfl ?_; refine G.v (rv_eql rfl rfl) rfl (G.done (G.thenN ?_)); refine G.cond rfl (fun hc => ?_) (fun hc => ?_)
      · try exact Bool.noConfusion hc
        all_goals
         try replace hc := of_decide_eq_true hc
         try simp only [cmpZ_neg, Bool.not_eq_true', Bool.not_eq_false', decide_eq_false_iff_not, decide_eq_true_eq] at hc
         try (exfalso; contradiction)
         all_goals
          refine G.seq (G.region (G.v (rv_move rfl) rfl (G.v (rv_assign rfl) rfl (G.done (G.thenN (G.seq (G.region (G.v (rv_move rfl) rfl (G.v (rv_assign rfl) rfl (G.done (G.thenN ?_))))))))))); refine G.seq (G.block ?_)
          -- loop 2: turned [14, 15], kept [0, 2, 4]
          refine G.loopK (ι := Nat × Nat) (ks := [0, 2, 4]) (fun x => [(14, .int .i64 (x.1 : Int)), (15, .int .i64 (x.2 : Int))]) (fun _ => [.row v 3 1 (rowF n f)]) (fun x => a ≤ x.1 ∧ x.1 ≤ x.2 ∧ x.2 ≤ m ∧ (x.1 = a ∨ ¬ K (f m) < K (f (x.1 - 1))) ∧ (x.2 = m ∨ K (f m) < K (f x.2))) (fun x => x.2 - x.1) (a, m) (.cons rfl (.cons rfl (.cons rfl (.nil)))) rfl ?_ ?_ ?_
          · exact ⟨Nat.le_refl _, by dsimp only; omega, Nat.le_refl _, .inl rfl, .inl rfl⟩
          · exact ⟨rfl, rfl, trivial⟩
          rintro ⟨i, j⟩ ⟨hi, hij, hj, hl, hr⟩
          dsimp only at hi hij hj hl hr ⊢
          by_cases hlt : i < j
          case' pos => (have hfh := hfn ((i + j) / 2) (by omega) (by omega); have eh : (rowF n f)[(i + j) / 2]? = some (icell (f ((i + j) / 2) : Int)) := rowF_get (by omega))
          all_goals
           refine G.seq (G.seq (G.region (G.v (rv_move rfl) rfl (G.v (rv_move rfl) rfl (G.v (rv_lss rfl rfl) rfl (G.done (G.thenN ?_))))))); refine G.cond rfl (fun hc => ?_) (fun hc => ?_)
           · try exact Bool.noConfusion hc
             all_goals
              try replace hc := of_decide_eq_true hc
              try simp only [cmpZ_neg, Bool.not_eq_true', Bool.not_eq_false', decide_eq_false_iff_not, decide_eq_true_eq] at hc
              try (exfalso; omega)
              all_goals
               refine G.skip (G.thenN (G.block (G.seq (G.region (G.v (rv_move rfl) rfl (G.v (rv_move rfl) rfl ?_)))))); refine G.v (rv_addN rfl rfl (by omega)) rfl ?_; refine G.v (rv_conv rfl) rfl ?_; refine G.v (rv_shr rfl rfl (by omega)) rfl ?_; refine G.v (rv_half (m := (i + j) / 2) rfl rfl (by omega) (by omega)) rfl ?_; refine G.v (rv_assign rfl) rfl (G.done (G.thenN (G.seq ?_))); refine G.drawL [] ?_; refine GE.q 0 rfl (by as_aux_lemma => kernel_rfl) rfl (qg_runs (rv_move rfl)) rfl ?_; refine GE.q 1 rfl (by as_aux_lemma => kernel_rfl) rfl (qg_runs (rv_move rfl)) rfl ?_; refine GE.q 2 rfl (by as_aux_lemma => kernel_rfl) rfl (qg_runs (rv_move rfl)) rfl ?_; refine GE.q 3 rfl (by as_aux_lemma => kernel_rfl) rfl (qg_runs (rv_indexH rfl rfl (by exact Rd.owned 0 rfl) rfl (by exact em))) rfl ?_; refine GE.q 4 rfl (by as_aux_lemma => kernel_rfl) rfl (qg_runs (rv_loadE rfl (by exact Rd.owned 0 rfl) (by exact em) rfl)) rfl ?_; refine GE.q 5 rfl (by as_aux_lemma => kernel_rfl) rfl (qg_runs (rv_move rfl)) rfl ?_; refine GE.ol 6 (by as_aux_lemma => kernel_rfl) rfl rfl (og_runs (rv_move rfl)) rfl (fun _ _ h => by exact h) (fun _ _ => ?_); refine GE.ol 7 (by as_aux_lemma => kernel_rfl) rfl rfl (og_runs (rv_indexH rfl rfl (by exact Rd.owned 0 rfl) rfl (by exact eh))) rfl (fun _ _ h => by exact h) (fun _ _ => ?_)
               refine GE.ol 8 (by as_aux_lemma => kernel_rfl) rfl rfl (og_runs (rv_loadE rfl (by exact Rd.owned 0 rfl) (by exact eh) rfl)) rfl (fun _ _ h => by exact h) (fun _ _ => ?_); refine GE.ol 9 (by as_aux_lemma => kernel_rfl) rfl rfl (og_callV rfl rfl (fun w hh => hcmp w hh.tail _ _ hfm hfh)) rfl (fun _ _ h => by exact h) (fun _ _ => ?_); refine GE.ol 10 (by as_aux_lemma => kernel_rfl) rfl rfl (og_runs (rv_lss rfl rfl)) rfl (fun _ _ h => by exact h) (fun _ _ => ?_); refine GE.ol 11 (by as_aux_lemma => kernel_rfl) rfl rfl (og_runs (rv_not rfl)) rfl (fun _ _ h => by exact h) (fun _ _ => ?_); refine GE.done (by as_aux_lemma => kernel_rfl) ?_; refine G.thenN ?_; refine G.cond rfl (fun hc => ?_) (fun hc => ?_)
               · try exact Bool.noConfusion hc
                 all_goals
                  try replace hc := of_decide_eq_true hc
                  try simp only [cmpZ_neg, Bool.not_eq_true', Bool.not_eq_false', decide_eq_false_iff_not, decide_eq_true_eq] at hc
                  try (exfalso; contradiction)
                  all_goals
                   refine G.region (G.v (rv_move rfl) rfl ?_); refine G.v (rv_incr rfl rfl (by omega)) rfl ?_; refine G.v (rv_assign rfl) rfl (G.done (G.inN ?_)); refine G.backK ((i + j) / 2 + 1, j) 0 rfl (.cons rfl (.cons rfl (.cons rfl (.nil)))) (⟨rfl, rfl, trivial⟩) ?_ ?_
                   · (exact ⟨by dsimp only; omega, by dsimp only; omega, by dsimp only; omega, .inr hc, hr⟩)
                   · dsimp only; omega
               · try exact Bool.noConfusion hc
                 all_goals
                  try replace hc := of_decide_eq_false hc
                  try simp only [cmpZ_neg, Bool.not_eq_true', Bool.not_eq_false', decide_eq_false_iff_not, decide_eq_true_eq] at hc
                  try (exfalso; contradiction)
                  all_goals
                   refine G.region (G.v (rv_move rfl) rfl (G.v (rv_assign rfl) rfl (G.done (G.inN ?_)))); refine G.backK (i, (i + j) / 2) 0 rfl (.cons rfl (.cons rfl (.cons rfl (.nil)))) (⟨rfl, rfl, trivial⟩) ?_ ?_
                   · (exact ⟨by dsimp only; omega, by dsimp only; omega, by dsimp only; omega, hl, .inr hc⟩)
                   · dsimp only; omega
           · try exact Bool.noConfusion hc
             all_goals
              try replace hc := of_decide_eq_false hc
              try simp only [cmpZ_neg, Bool.not_eq_true', Bool.not_eq_false', decide_eq_false_iff_not, decide_eq_true_eq] at hc
              try (exfalso; omega)
              all_goals
               refine G.exit (G.thenX (G.thenX (G.inX (G.thenN (G.seq (G.seq (G.region (G.v (rv_move rfl) rfl (G.v (rv_assign rfl) rfl (G.done (G.thenN ?_))))))))))); refine G.block ?_
               -- loop 3: turned [17], kept [0, 14]
               refine G.rowEq (rowF n (rotF f m m (m + 1))) (by rw [rot_id (Nat.le_refl _) (by omega) (.inl rfl)]) rfl ?_; refine G.loopK (ι := Nat) (ks := [0, 14]) (fun k => [(17, .int .i64 (k : Int))]) (fun k => [.row v 3 1 (rowF n (rotF f k m (m + 1)))]) (fun k => i ≤ k ∧ k ≤ m) (fun k => k) m (.cons rfl (.cons rfl (.nil))) rfl ?_ ?_ ?_
               · exact ⟨by omega, Nat.le_refl _⟩
               · exact ⟨rfl, trivial⟩
               rintro k ⟨hik, hkm⟩
               by_cases hk2 : i < k
               case' pos => (have e1 : (rowF n (rotF f k m (m + 1)))[k]? = some (icell (f m : Int)) := (by rw [rowF_get (by omega), rot_lo (Nat.le_refl _) (by omega)]; congr 4; omega); have e2 : (rowF n (rotF f k m (m + 1)))[k - 1]? = some (icell (f (k - 1) : Int)) := (by rw [rowF_get (by omega), rot_out hkm (by omega) (.inl (by omega))]))
               all_goals
                refine G.seq (G.seq (G.region (G.v (rv_move rfl) rfl (G.v (rv_move rfl) rfl (G.v (rv_gtr rfl rfl) rfl (G.done (G.thenN ?_))))))); refine G.cond rfl (fun hc => ?_) (fun hc => ?_)
                · try exact Bool.noConfusion hc
                  all_goals
                   try replace hc := of_decide_eq_true hc
                   try simp only [cmpZ_neg, Bool.not_eq_true', Bool.not_eq_false', decide_eq_false_iff_not, decide_eq_true_eq] at hc
                   try (exfalso; omega)
                   all_goals
                    refine G.skip (G.thenN (G.seq (G.block ?_))); refine G.drawS [15, 17] rfl ?_; refine GS.p 0 rfl (by as_aux_lemma => kernel_rfl) (qg_runs (rv_move rfl)) (fun _ h => h.drop 1) rfl ?_; refine GS.p 1 rfl (by as_aux_lemma => kernel_rfl) (qg_runs (rv_move rfl)) (fun _ h => h.drop 1) rfl ?_; refine GS.p 2 rfl (by as_aux_lemma => kernel_rfl) (qg_runs (rv_move rfl)) (fun _ h => h.drop 1) rfl ?_; refine GS.p 3 rfl (by as_aux_lemma => kernel_rfl) (qg_runs (rv_move rfl)) (fun _ h => h.drop 1) rfl ?_; refine GS.p 4 rfl (by as_aux_lemma => kernel_rfl) (qg_runs (rv_decr rfl rfl (by omega) (by omega))) (fun _ h => h.drop 1) rfl ?_; refine GS.p 5 rfl (by as_aux_lemma => kernel_rfl) (qg_runs (rv_move rfl)) (fun _ h => h.drop 1) rfl ?_; refine GS.p 6 rfl (by as_aux_lemma => kernel_rfl) (qg_runs (rv_move rfl)) (fun _ h => h.drop 1) rfl ?_; refine GS.p 7 rfl (by as_aux_lemma => kernel_rfl) (qg_runs (rv_decr rfl rfl (by omega) (by omega))) (fun _ h => h.drop 1) rfl ?_; refine GS.q 8 [9, 14, 15, 16, 17] rfl (by as_aux_lemma => kernel_rfl) (by as_aux_lemma => kernel_rfl) (qg_runs (rv_indexH rfl rfl (by exact Rd.owned 0 rfl) rfl (by exact e2))) rfl ?_; refine GS.q 9 [14, 15, 16, 17] rfl (by as_aux_lemma => kernel_rfl) (by as_aux_lemma => kernel_rfl) (qg_runs (rv_loadE rfl (by exact Rd.owned 0 rfl) (by exact e2) rfl)) rfl ?_; refine GS.p 10 rfl (by as_aux_lemma => kernel_rfl) (qg_runs (rv_move rfl)) (fun _ h => h.drop 1) rfl ?_
                    refine GS.p 11 rfl (by as_aux_lemma => kernel_rfl) (qg_runs (rv_move rfl)) (fun _ h => h.drop 1) rfl ?_; refine GS.q 12 [13, 14, 15, 16, 17] rfl (by as_aux_lemma => kernel_rfl) (by as_aux_lemma => kernel_rfl) (qg_runs (rv_indexH rfl rfl (by exact Rd.owned 0 rfl) rfl (by exact e1))) rfl ?_; refine GS.q 13 [14, 15, 16, 17] rfl (by as_aux_lemma => kernel_rfl) (by as_aux_lemma => kernel_rfl) (qg_runs (rv_loadE rfl (by exact Rd.owned 0 rfl) (by exact e1) rfl)) rfl ?_; refine GS.q 14 [15, 16, 17] rfl (by as_aux_lemma => kernel_rfl) (by as_aux_lemma => kernel_rfl) (qg_runs (rv_indexH rfl rfl (by exact Rd.owned 0 rfl) rfl (by exact e1))) rfl ?_; refine GS.o0 15 (by as_aux_lemma => kernel_rfl) rfl rfl (og_stE0 rfl rfl rfl (by exact e1) rfl rfl rfl rfl (.zero (.cons .nil))) (fun _ _ h => h.drop 1) (fun _ _ => ?_); refine GS.q 16 [17] rfl (by as_aux_lemma => kernel_rfl) (by as_aux_lemma => kernel_rfl) (qg_runs (rv_indexH rfl rfl (by exact Rd.owned 0 rfl) rfl (by exact get_setN (by omega) e2))) rfl ?_; refine GS.o0 17 (by as_aux_lemma => kernel_rfl) rfl rfl (og_stE0 rfl rfl rfl (by exact get_setN (by omega) e2) rfl rfl rfl rfl (.zero (.cons .nil))) (fun _ _ h => h.drop 1) (fun _ _ => ?_); refine GS.done (by as_aux_lemma => kernel_rfl) ?_; refine G.inN (G.thenN (G.region (G.v (rv_move rfl) rfl ?_))); refine G.v (rv_decr rfl rfl (by omega) (by omega)) rfl ?_; refine G.v (rv_assign rfl) rfl (G.done ?_)
                    refine G.backK (k - 1) 0 (one_eq (congrArg (fun z => Ch.row v 3 1 z) (by obtain ⟨q, rfl⟩ : ∃ q, k = q + 1 := ⟨k - 1, by omega⟩; exact row_dn (by omega)))) (.cons rfl (.cons rfl (.nil))) ?_ ?_ ?_
                    · exact ⟨rfl, trivial⟩
                    · exact ⟨by omega, by omega⟩
                    · omega
                · try exact Bool.noConfusion hc
                  all_goals
                   try replace hc := of_decide_eq_false hc
                   try simp only [cmpZ_neg, Bool.not_eq_true', Bool.not_eq_false', decide_eq_false_iff_not, decide_eq_true_eq] at hc
                   try (exfalso; omega)
                   all_goals
                    refine G.exit (G.thenX (G.thenX (G.inX (G.thenN (G.ret (G.thenR ?_))))))
                    (exact G.retF0 (rotF f i m (m + 1)) ⟨(rot_frm (by omega) (by omega)).mono (by omega) (by omega), by obtain rfl : b = m + 1 := (by omega); exact put_right hs1 hcr hi (by omega) hl (by (have hq : j = i := (by omega)); rw [hq] at hr; exact hr)⟩ rfl rfl (fun w hw => by obtain rfl : i = k := (by omega); exact hw))
      · try exact Bool.noConfusion hc
        all_goals
         try replace hc := of_decide_eq_false hc
         try simp only [cmpZ_neg, Bool.not_eq_true', Bool.not_eq_false', decide_eq_false_iff_not, decide_eq_true_eq] at hc
         try (exfalso; contradiction)
         all_goals
          refine G.skip (G.thenN (G.seq (G.region (G.v (rv_move rfl) rfl (G.v (rv_move rfl) rfl ?_))))); refine G.v (rv_addN rfl rfl (by omega)) rfl ?_; refine G.v (rv_conv rfl) rfl ?_; refine G.v (rv_shr rfl rfl (by omega)) rfl ?_; refine G.v (rv_half (m := (a + b) / 2) rfl rfl (by omega) (by omega)) rfl ?_; refine G.v (rv_assign rfl) rfl (G.done (G.thenN (G.seq (G.region (G.v (rv_move rfl) rfl (G.v (rv_move rfl) rfl ?_)))))); refine G.v (rv_addN rfl rfl (by omega)) rfl ?_; refine G.v (rv_assign rfl) rfl (G.done (G.thenN (G.seq (G.region (G.v (rv_assign rfl) rfl (G.v (rv_assign rfl) rfl (G.done (G.thenN (G.seq (G.seq (G.region ?_))))))))))); refine G.v (rv_move rfl) rfl (G.v (rv_move rfl) rfl (G.v (rv_gtr rfl rfl) rfl (G.done (G.thenN ?_)))); refine G.cond rfl (fun hc => ?_) (fun hc => ?_)
          · try exact Bool.noConfusion hc
            all_goals
             try replace hc := of_decide_eq_true hc
             try simp only [cmpZ_neg, Bool.not_eq_true', Bool.not_eq_false', decide_eq_false_iff_not, decide_eq_true_eq] at hc
             try (exfalso; contradiction)
             all_goals
              obtain ⟨s0, hs0⟩ : ∃ y, y = (a + b) / 2 + m - b := ⟨_, rfl⟩
              obtain ⟨r0, hr0⟩ : ∃ y, y = (a + b) / 2 := ⟨_, rfl⟩
              have hL : s0 = a ∨ (a + b) / 2 + m - s0 = b := by omega
              have hR : r0 = m ∨ (a + b) / 2 + m - r0 = m := by omega
              all_goals
               refine G.seq (G.region (G.v (rv_move rfl) rfl (G.v (rv_move rfl) rfl ?_))); refine G.v (rv_subN rfl rfl (by omega) (by omega)) rfl ?_; refine G.v (rv_assign rfl) rfl (G.done (G.thenN (G.region (G.v (rv_move rfl) rfl (G.v (rv_assign rfl) rfl (G.done (G.thenN (G.seq (G.region (G.v (rv_move rfl) rfl ?_)))))))))); refine G.v (rv_decr rfl rfl (by omega) (by omega)) rfl ?_; refine G.v (rv_assign rfl) rfl (G.done (G.thenN (G.seq (G.block ?_))))
               -- loop 4: turned [20, 21], kept [0, 1, 2, 3, 4, 18, 19, 22]
               refine G.loopK (ι := Nat × Nat) (ks := [0, 1, 2, 3, 4, 18, 19, 22]) (fun x => [(20, .int .i64 (x.1 : Int)), (21, .int .i64 (x.2 : Int))]) (fun _ => [.row v 3 1 (rowF n f)]) (fun x => s0 ≤ x.1 ∧ x.1 ≤ x.2 ∧ x.2 ≤ r0 ∧ (x.1 = s0 ∨ ¬ K (f ((a + b) / 2 + m - 1 - (x.1 - 1))) < K (f (x.1 - 1))) ∧ (x.2 = r0 ∨ K (f ((a + b) / 2 + m - 1 - x.2)) < K (f x.2))) (fun x => x.2 - x.1) (s0, r0) (.cons rfl (.cons rfl (.cons rfl (.cons rfl (.cons rfl (.cons rfl (.cons rfl (.cons rfl (.nil))))))))) rfl ?_ ?_ ?_
               · exact ⟨Nat.le_refl _, by dsimp only; omega, Nat.le_refl _, .inl rfl, .inl rfl⟩
               · exact ⟨congrArg (fun z : Nat => some (Value.int .i64 (z : Int))) hs0.symm, congrArg (fun z : Nat => some (Value.int .i64 (z : Int))) hr0.symm, trivial⟩
               rintro ⟨i, j⟩ ⟨hi, hij, hj, hl, hr⟩
               dsimp only at hi hij hj hl hr ⊢
               have ham : a ≤ s0 ∧ r0 ≤ m ∧ r0 ≤ (a + b) / 2 ∧ (a + b) / 2 + m - s0 ≤ b := by omega
               by_cases hlt : i < j
               case' pos => (have hfh := hfn ((i + j) / 2) (by omega) (by omega); have eh : (rowF n f)[(i + j) / 2]? = some (icell (f ((i + j) / 2) : Int)) := rowF_get (by omega); have hfp := hfn ((a + b) / 2 + m - 1 - (i + j) / 2) (by omega) (by omega); have ep : (rowF n f)[(a + b) / 2 + m - 1 - (i + j) / 2]? = some (icell (f ((a + b) / 2 + m - 1 - (i + j) / 2) : Int)) := rowF_get (by omega))
               case' neg => (obtain rfl : j = i := (by omega); have hmid := mid_of (st := j) (en := (a + b) / 2 + m - j) (mid := (a + b) / 2) hs1 hs2 hcr (by omega) (by omega) (by omega) (by omega) (by omega) (by omega) (by omega) (by rcases hl with hl | hl; (rcases hL with h | h; exact .inl (hl.trans h); exact .inr (.inl (by omega))); (by_cases hz : j = a; exact .inl hz; rw [show (a + b) / 2 + m - 1 - (j - 1) = (a + b) / 2 + m - j from by omega] at hl; exact .inr (.inr hl))) (by rcases hr with hr | hr; (rcases hR with h | h; exact .inl (hr.trans h); exact .inr (.inl (by omega))); (rw [show (a + b) / 2 + m - 1 - j = (a + b) / 2 + m - j - 1 from by omega] at hr; exact .inr (.inr hr))); have hfr : Frm a b f (rotF f j m ((a + b) / 2 + m - j)) := (rot_frm (by omega) (by omega)).mono (by omega) (by omega))
               all_goals
                refine G.seq (G.seq (G.region (G.v (rv_move rfl) rfl (G.v (rv_move rfl) rfl (G.v (rv_lss rfl rfl) rfl (G.done (G.thenN ?_))))))); refine G.cond rfl (fun hc => ?_) (fun hc => ?_)
                · try exact Bool.noConfusion hc
                  all_goals
                   try replace hc := of_decide_eq_true hc
                   try simp only [cmpZ_neg, Bool.not_eq_true', Bool.not_eq_false', decide_eq_false_iff_not, decide_eq_true_eq] at hc
                   try (exfalso; omega)
                   all_goals
                    refine G.skip (G.thenN (G.block (G.seq (G.region (G.v (rv_move rfl) rfl (G.v (rv_move rfl) rfl ?_)))))); refine G.v (rv_addN rfl rfl (by omega)) rfl ?_; refine G.v (rv_conv rfl) rfl ?_; refine G.v (rv_shr rfl rfl (by omega)) rfl ?_; refine G.v (rv_half (m := (i + j) / 2) rfl rfl (by omega) (by omega)) rfl ?_; refine G.v (rv_assign rfl) rfl (G.done (G.thenN (G.seq ?_))); refine G.drawL [] ?_; refine GE.q 0 rfl (by as_aux_lemma => kernel_rfl) rfl (qg_runs (rv_move rfl)) rfl ?_; refine GE.q 1 rfl (by as_aux_lemma => kernel_rfl) rfl (qg_runs (rv_move rfl)) rfl ?_; refine GE.q 2 rfl (by as_aux_lemma => kernel_rfl) rfl (qg_runs (rv_move rfl)) rfl ?_; refine GE.q 3 rfl (by as_aux_lemma => kernel_rfl) rfl (qg_runs (rv_move rfl)) rfl ?_; refine GE.q 4 rfl (by as_aux_lemma => kernel_rfl) rfl (qg_runs (rv_subN rfl rfl (by omega) (by omega))) rfl ?_; refine GE.q 5 rfl (by as_aux_lemma => kernel_rfl) rfl (qg_runs (rv_indexH rfl rfl (by exact Rd.owned 0 rfl) rfl (by exact ep))) rfl ?_; refine GE.q 6 rfl (by as_aux_lemma => kernel_rfl) rfl (qg_runs (rv_loadE rfl (by exact Rd.owned 0 rfl) (by exact ep) rfl)) rfl ?_; refine GE.q 7 rfl (by as_aux_lemma => kernel_rfl) rfl (qg_runs (rv_move rfl)) rfl ?_; refine GE.ol 8 (by as_aux_lemma => kernel_rfl) rfl rfl (og_runs (rv_move rfl)) rfl (fun _ _ h => by exact h) (fun _ _ => ?_)
                    refine GE.ol 9 (by as_aux_lemma => kernel_rfl) rfl rfl (og_runs (rv_indexH rfl rfl (by exact Rd.owned 0 rfl) rfl (by exact eh))) rfl (fun _ _ h => by exact h) (fun _ _ => ?_); refine GE.ol 10 (by as_aux_lemma => kernel_rfl) rfl rfl (og_runs (rv_loadE rfl (by exact Rd.owned 0 rfl) (by exact eh) rfl)) rfl (fun _ _ h => by exact h) (fun _ _ => ?_); refine GE.ol 11 (by as_aux_lemma => kernel_rfl) rfl rfl (og_callV rfl rfl (fun w hh => hcmp w hh.tail _ _ hfp hfh)) rfl (fun _ _ h => by exact h) (fun _ _ => ?_); refine GE.ol 12 (by as_aux_lemma => kernel_rfl) rfl rfl (og_runs (rv_lss rfl rfl)) rfl (fun _ _ h => by exact h) (fun _ _ => ?_); refine GE.ol 13 (by as_aux_lemma => kernel_rfl) rfl rfl (og_runs (rv_not rfl)) rfl (fun _ _ h => by exact h) (fun _ _ => ?_); refine GE.done (by as_aux_lemma => kernel_rfl) ?_; refine G.thenN ?_; refine G.cond rfl (fun hc => ?_) (fun hc => ?_)
                    · try exact Bool.noConfusion hc
                      all_goals
                       try replace hc := of_decide_eq_true hc
                       try simp only [cmpZ_neg, Bool.not_eq_true', Bool.not_eq_false', decide_eq_false_iff_not, decide_eq_true_eq] at hc
                       try (exfalso; contradiction)
                       all_goals
                        refine G.region (G.v (rv_move rfl) rfl ?_); refine G.v (rv_incr rfl rfl (by omega)) rfl ?_; refine G.v (rv_assign rfl) rfl (G.done (G.inN ?_)); refine G.backK ((i + j) / 2 + 1, j) 0 rfl (.cons rfl (.cons rfl (.cons rfl (.cons rfl (.cons rfl (.cons rfl (.cons rfl (.cons rfl (.nil))))))))) (⟨rfl, rfl, trivial⟩) ?_ ?_
                        · (exact ⟨by dsimp only; omega, by dsimp only; omega, by dsimp only; omega, .inr hc, hr⟩)
                        · dsimp only; omega
                    · try exact Bool.noConfusion hc
                      all_goals
                       try replace hc := of_decide_eq_false hc
                       try simp only [cmpZ_neg, Bool.not_eq_true', Bool.not_eq_false', decide_eq_false_iff_not, decide_eq_true_eq] at hc
                       try (exfalso; contradiction)
                       all_goals
                        refine G.region (G.v (rv_move rfl) rfl (G.v (rv_assign rfl) rfl (G.done (G.inN ?_)))); refine G.backK (i, (i + j) / 2) 0 rfl (.cons rfl (.cons rfl (.cons rfl (.cons rfl (.cons rfl (.cons rfl (.cons rfl (.cons rfl (.nil))))))))) (⟨rfl, rfl, trivial⟩) ?_ ?_
                        · (exact ⟨by dsimp only; omega, by dsimp only; omega, by dsimp only; omega, hl, .inr hc⟩)
                        · dsimp only; omega
                · try exact Bool.noConfusion hc
                  all_goals
                   try replace hc := of_decide_eq_false hc
                   try simp only [cmpZ_neg, Bool.not_eq_true', Bool.not_eq_false', decide_eq_false_iff_not, decide_eq_true_eq] at hc
                   try (exfalso; omega)
                   all_goals
                    refine G.exit (G.thenX (G.thenX (G.inX (G.thenN (G.seq (G.region (G.v (rv_move rfl) rfl (G.v (rv_move rfl) rfl ?_)))))))); refine G.v (rv_subN rfl rfl (by omega) (by omega)) rfl ?_; refine G.v (rv_assign rfl) rfl (G.done (G.thenN (G.seq (G.seq (G.region (G.v (rv_move rfl) rfl (G.v (rv_move rfl) rfl (G.v (rv_lss rfl rfl) rfl (G.v (rv_move rfl) rfl ?_)))))))))
                    all_goals (((with_reducible refine G.gP rfl rfl (fun hg => ?_) (fun hg => ?_)) <;> (try exact Bool.noConfusion hg) <;> (try (exfalso; (have hq := of_decide_eq_false hg; omega))) <;> ((refine G.gY rfl rfl ?_; refine G.v (rv_move rfl) rfl ?_))))
                    all_goals (((refine G.gY rfl rfl ?_; refine G.v (rv_move rfl) rfl ?_)))
                    all_goals (((refine G.gY rfl rfl ?_; refine G.v (rv_lss rfl rfl) rfl ?_)))
                    all_goals ((refine G.v (rv_pickT rfl rfl) rfl ?_))
                    all_goals
                     refine G.done (G.thenN ?_); refine G.cond rfl (fun hc => ?_) (fun hc => ?_)
                     · try exact Bool.noConfusion hc
                       all_goals
                        try replace hc := of_decide_eq_true hc
                        try simp only [cmpZ_neg, Bool.not_eq_true', Bool.not_eq_false', decide_eq_false_iff_not, decide_eq_true_eq] at hc
                        try (exfalso; contradiction)
                        all_goals
                         refine G.region (G.v (rv_move rfl) rfl (G.v (rv_move rfl) rfl (G.v (rv_move rfl) rfl (G.v (rv_move rfl) rfl (G.v (rv_move rfl) rfl ?_)))))
                         (refine G.frontR0 (v) rfl ?_); refine G.op (og_callMM1 rfl rfl rfl (rotate_any (by omega) (by omega) (by omega) hn)) rfl ?_; rintro ⟨⟩ _; try dsimp only
                         refine G.done (G.thenN (G.seq (G.seq (G.region (G.v (rv_move rfl) rfl (G.v (rv_move rfl) rfl (G.v (rv_lss rfl rfl) rfl (G.v (rv_move rfl) rfl ?_))))))))
                         all_goals (((with_reducible refine G.gP rfl rfl (fun hg => ?_) (fun hg => ?_)) <;> (try exact Bool.noConfusion hg) <;> (try (exfalso; (have hq := of_decide_eq_false hg; omega))) <;> (first | (refine G.gY rfl rfl ?_; refine G.v (rv_move rfl) rfl ?_) | refine G.gN rfl rfl rfl ?_)))
                         all_goals ((first | (refine G.gY rfl rfl ?_; refine G.v (rv_move rfl) rfl ?_) | refine G.gN rfl rfl rfl ?_))
                         all_goals ((first | (refine G.gY rfl rfl ?_; refine G.v (rv_lss rfl rfl) rfl ?_) | refine G.gN rfl rfl rfl ?_))
                         all_goals ((first | refine G.v (rv_pickT rfl rfl) rfl ?_ | refine G.v (rv_pickF rfl rfl) rfl ?_))
                         all_goals
                          refine G.done (G.thenN ?_); refine G.cond rfl (fun hc => ?_) (fun hc => ?_)
                          · try exact Bool.noConfusion hc
                            all_goals
                             try replace hc := of_decide_eq_true hc
                             try simp only [cmpZ_neg, Bool.not_eq_true', Bool.not_eq_false', decide_eq_false_iff_not, decide_eq_true_eq] at hc
                             try (exfalso; contradiction)
                             all_goals
                              refine G.region (G.v (rv_move rfl) rfl (G.v (rv_move rfl) rfl (G.v (rv_move rfl) rfl (G.v (rv_move rfl) rfl (G.v (rv_move rfl) rfl ?_)))))
                              (refine G.frontR0 (v) rfl ?_); refine G.op (og_callMM1 rfl rfl rfl (ih (by omega) (by (have hq := of_decide_eq_true hg; omega)) (by omega) (by omega) hmid.s1 hmid.s2 hmid.c1 (fun x x1 x2 => hfr.lt hfn x1 (by omega)))) rfl ?_; rintro g1 ⟨hf1, hm1⟩; try dsimp only
                              refine G.done (G.thenN (G.seq (G.region (G.v (rv_move rfl) rfl (G.v (rv_move rfl) rfl (G.v (rv_lss rfl rfl) rfl (G.v (rv_move rfl) rfl ?_)))))))
                              all_goals (((with_reducible refine G.gP rfl rfl (fun hg => ?_) (fun hg => ?_)) <;> (try exact Bool.noConfusion hg) <;> (try (exfalso; (have hq := of_decide_eq_false hg; omega))) <;> ((refine G.gY rfl rfl ?_; refine G.v (rv_move rfl) rfl ?_))))
                              all_goals (((refine G.gY rfl rfl ?_; refine G.v (rv_move rfl) rfl ?_)))
                              all_goals (((refine G.gY rfl rfl ?_; refine G.v (rv_lss rfl rfl) rfl ?_)))
                              all_goals ((refine G.v (rv_pickT rfl rfl) rfl ?_))
                              all_goals
                               refine G.done (G.thenN ?_); refine G.cond rfl (fun hc => ?_) (fun hc => ?_)
                               · try exact Bool.noConfusion hc
                                 all_goals
                                  try replace hc := of_decide_eq_true hc
                                  try simp only [cmpZ_neg, Bool.not_eq_true', Bool.not_eq_false', decide_eq_false_iff_not, decide_eq_true_eq] at hc
                                  try (exfalso; contradiction)
                                  all_goals
                                   have h3 := hf1.srt_hi (Nat.le_refl _) hmid.s3
                                   have h4 := hf1.srt_hi (by omega) hmid.s4
                                   have h5 := hf1.crs_hi (Nat.le_refl _) (by omega) hmid.c2
                                   all_goals
                                    refine G.region (G.v (rv_move rfl) rfl (G.v (rv_move rfl) rfl (G.v (rv_move rfl) rfl (G.v (rv_move rfl) rfl (G.v (rv_move rfl) rfl ?_)))))
                                    (refine G.frontR0 (v) rfl ?_); refine G.op (og_callMM1 rfl rfl rfl (ih (by omega) (by omega) (by omega) (by omega) h3 h4 h5 (fun x x1 x2 => by rw [hf1.out x (.inr x1)]; exact hfr.lt hfn (by omega) x2))) rfl ?_; rintro g2 ⟨hf2, hm2⟩; try dsimp only
                                    refine G.done ?_
                                    exact G.endF0 g2 ⟨hfr.trans ((hf1.mono (Nat.le_refl _) (by omega)).trans (hf2.mono (by omega) (Nat.le_refl _))), srt_join hmid.lr hf1 hm1 hf2 hm2⟩ rfl rfl (fun w hw => hw)
                               · try exact Bool.noConfusion hc
                                 all_goals
                                  try replace hc := of_decide_eq_false hc
                                  try simp only [cmpZ_neg, Bool.not_eq_true', Bool.not_eq_false', decide_eq_false_iff_not, decide_eq_true_eq] at hc
                                  try (exfalso; contradiction)
                                  all_goals
                                   have h3 := hf1.srt_hi (Nat.le_refl _) hmid.s3
                                   have h4 := hf1.srt_hi (by omega) hmid.s4
                                   obtain ⟨g2, hg2⟩ : ∃ y, y = g1 := ⟨_, rfl⟩
                                   have hf2 : Frm ((a + b) / 2) b g1 g2 := hg2 ▸ Frm.refl _ _ _
                                   have hm2 : Srt K ((a + b) / 2) b g2 := hg2 ▸ srt_of h3 h4 (by omega) (by omega) (by omega)
                                   refine G.rowEq (rowF n g2) (by rw [hg2]) rfl ?_
                                   all_goals
                                    refine G.skip ?_
                                    exact G.endF0 g2 ⟨hfr.trans ((hf1.mono (Nat.le_refl _) (by omega)).trans (hf2.mono (by omega) (Nat.le_refl _))), srt_join hmid.lr hf1 hm1 hf2 hm2⟩ rfl rfl (fun w hw => hw)
                          · try exact Bool.noConfusion hc
                            all_goals
                             try replace hc := of_decide_eq_false hc
                             try simp only [cmpZ_neg, Bool.not_eq_true', Bool.not_eq_false', decide_eq_false_iff_not, decide_eq_true_eq] at hc
                             try (exfalso; omega)
                             all_goals
                              obtain ⟨g1, hg1⟩ : ∃ y, y = rotF f j m ((a + b) / 2 + m - j) := ⟨_, rfl⟩
                              have hf1 : Frm a ((a + b) / 2) (rotF f j m ((a + b) / 2 + m - j)) g1 := hg1 ▸ Frm.refl _ _ _
                              have hm1 : Srt K a ((a + b) / 2) g1 := hg1 ▸ srt_of hmid.s1 hmid.s2 (by (have hq := of_decide_eq_false hg; omega)) (by omega) (by omega)
                              refine G.rowEq (rowF n g1) (by rw [hg1]) rfl ?_
                              all_goals
                               refine G.skip (G.thenN (G.seq (G.region (G.v (rv_move rfl) rfl (G.v (rv_move rfl) rfl (G.v (rv_lss rfl rfl) rfl (G.v (rv_move rfl) rfl ?_)))))))
                               all_goals (((with_reducible refine G.gP rfl rfl (fun hg => ?_) (fun hg => ?_)) <;> (try exact Bool.noConfusion hg) <;> (try (exfalso; (have hq := of_decide_eq_false hg; omega))) <;> ((refine G.gY rfl rfl ?_; refine G.v (rv_move rfl) rfl ?_))))
                               all_goals (((refine G.gY rfl rfl ?_; refine G.v (rv_move rfl) rfl ?_)))
                               all_goals (((refine G.gY rfl rfl ?_; refine G.v (rv_lss rfl rfl) rfl ?_)))
                               all_goals ((refine G.v (rv_pickT rfl rfl) rfl ?_))
                               all_goals
                                refine G.done (G.thenN ?_); refine G.cond rfl (fun hc => ?_) (fun hc => ?_)
                                · try exact Bool.noConfusion hc
                                  all_goals
                                   try replace hc := of_decide_eq_true hc
                                   try simp only [cmpZ_neg, Bool.not_eq_true', Bool.not_eq_false', decide_eq_false_iff_not, decide_eq_true_eq] at hc
                                   try (exfalso; contradiction)
                                   all_goals
                                    have h3 := hf1.srt_hi (Nat.le_refl _) hmid.s3
                                    have h4 := hf1.srt_hi (by omega) hmid.s4
                                    have h5 := hf1.crs_hi (Nat.le_refl _) (by omega) hmid.c2
                                    all_goals
                                     refine G.region (G.v (rv_move rfl) rfl (G.v (rv_move rfl) rfl (G.v (rv_move rfl) rfl (G.v (rv_move rfl) rfl (G.v (rv_move rfl) rfl ?_)))))
                                     (refine G.frontR0 (v) rfl ?_); refine G.op (og_callMM1 rfl rfl rfl (ih (by omega) (by omega) (by omega) (by omega) h3 h4 h5 (fun x x1 x2 => by rw [hf1.out x (.inr x1)]; exact hfr.lt hfn (by omega) x2))) rfl ?_; rintro g2 ⟨hf2, hm2⟩; try dsimp only
                                     refine G.done ?_
                                     exact G.endF0 g2 ⟨hfr.trans ((hf1.mono (Nat.le_refl _) (by omega)).trans (hf2.mono (by omega) (Nat.le_refl _))), srt_join hmid.lr hf1 hm1 hf2 hm2⟩ rfl rfl (fun w hw => hw)
                                · try exact Bool.noConfusion hc
                                  all_goals
                                   try replace hc := of_decide_eq_false hc
                                   try simp only [cmpZ_neg, Bool.not_eq_true', Bool.not_eq_false', decide_eq_false_iff_not, decide_eq_true_eq] at hc
                                   try (exfalso; contradiction)
                                   all_goals
                                    have h3 := hf1.srt_hi (Nat.le_refl _) hmid.s3
                                    have h4 := hf1.srt_hi (by omega) hmid.s4
                                    obtain ⟨g2, hg2⟩ : ∃ y, y = g1 := ⟨_, rfl⟩
                                    have hf2 : Frm ((a + b) / 2) b g1 g2 := hg2 ▸ Frm.refl _ _ _
                                    have hm2 : Srt K ((a + b) / 2) b g2 := hg2 ▸ srt_of h3 h4 (by omega) (by omega) (by omega)
                                    refine G.rowEq (rowF n g2) (by rw [hg2]) rfl ?_
                                    all_goals
                                     refine G.skip ?_
                                     exact G.endF0 g2 ⟨hfr.trans ((hf1.mono (Nat.le_refl _) (by omega)).trans (hf2.mono (by omega) (Nat.le_refl _))), srt_join hmid.lr hf1 hm1 hf2 hm2⟩ rfl rfl (fun w hw => hw)
                     · try exact Bool.noConfusion hc
                       all_goals
                        try replace hc := of_decide_eq_false hc
                        try simp only [cmpZ_neg, Bool.not_eq_true', Bool.not_eq_false', decide_eq_false_iff_not, decide_eq_true_eq] at hc
                        try (exfalso; contradiction)
                        all_goals
                         refine G.rowEq (rowF n (rotF f j m ((a + b) / 2 + m - j))) (by rw [rot_id (by omega) (by omega) (by omega)]) rfl ?_
                         all_goals
                          refine G.skip (G.thenN (G.seq (G.seq (G.region (G.v (rv_move rfl) rfl (G.v (rv_move rfl) rfl (G.v (rv_lss rfl rfl) rfl (G.v (rv_move rfl) rfl ?_))))))))
                          all_goals (((with_reducible refine G.gP rfl rfl (fun hg => ?_) (fun hg => ?_)) <;> (try exact Bool.noConfusion hg) <;> (try (exfalso; (have hq := of_decide_eq_false hg; omega))) <;> ((refine G.gY rfl rfl ?_; refine G.v (rv_move rfl) rfl ?_))))
                          all_goals (((refine G.gY rfl rfl ?_; refine G.v (rv_move rfl) rfl ?_)))
                          all_goals (((refine G.gY rfl rfl ?_; refine G.v (rv_lss rfl rfl) rfl ?_)))
                          all_goals ((refine G.v (rv_pickT rfl rfl) rfl ?_))
                          all_goals
                           refine G.done (G.thenN ?_); refine G.cond rfl (fun hc => ?_) (fun hc => ?_)
                           · try exact Bool.noConfusion hc
                             all_goals
                              try replace hc := of_decide_eq_true hc
                              try simp only [cmpZ_neg, Bool.not_eq_true', Bool.not_eq_false', decide_eq_false_iff_not, decide_eq_true_eq] at hc
                              try (exfalso; omega)
                              all_goals
                               refine G.region (G.v (rv_move rfl) rfl (G.v (rv_move rfl) rfl (G.v (rv_move rfl) rfl (G.v (rv_move rfl) rfl (G.v (rv_move rfl) rfl ?_)))))
                               (refine G.frontR0 (v) rfl ?_); refine G.op (og_callMM1 rfl rfl rfl (ih (by omega) (by omega) (by omega) (by omega) hmid.s1 hmid.s2 hmid.c1 (fun x x1 x2 => hfr.lt hfn x1 (by omega)))) rfl ?_; rintro g1 ⟨hf1, hm1⟩; try dsimp only
                               refine G.done (G.thenN (G.seq (G.region (G.v (rv_move rfl) rfl (G.v (rv_move rfl) rfl (G.v (rv_lss rfl rfl) rfl (G.v (rv_move rfl) rfl ?_)))))))
                               all_goals (((with_reducible refine G.gP rfl rfl (fun hg => ?_) (fun hg => ?_)) <;> (try exact Bool.noConfusion hg) <;> (try (exfalso; (have hq := of_decide_eq_false hg; omega))) <;> ((refine G.gY rfl rfl ?_; refine G.v (rv_move rfl) rfl ?_))))
                               all_goals (((refine G.gY rfl rfl ?_; refine G.v (rv_move rfl) rfl ?_)))
                               all_goals (((refine G.gY rfl rfl ?_; refine G.v (rv_lss rfl rfl) rfl ?_)))
                               all_goals ((refine G.v (rv_pickT rfl rfl) rfl ?_))
                               all_goals
                                refine G.done (G.thenN ?_); refine G.cond rfl (fun hc => ?_) (fun hc => ?_)
                                · try exact Bool.noConfusion hc
                                  all_goals
                                   try replace hc := of_decide_eq_true hc
                                   try simp only [cmpZ_neg, Bool.not_eq_true', Bool.not_eq_false', decide_eq_false_iff_not, decide_eq_true_eq] at hc
                                   try (exfalso; contradiction)
                                   all_goals
                                    have h3 := hf1.srt_hi (Nat.le_refl _) hmid.s3
                                    have h4 := hf1.srt_hi (by omega) hmid.s4
                                    have h5 := hf1.crs_hi (Nat.le_refl _) (by omega) hmid.c2
                                    all_goals
                                     refine G.region (G.v (rv_move rfl) rfl (G.v (rv_move rfl) rfl (G.v (rv_move rfl) rfl (G.v (rv_move rfl) rfl (G.v (rv_move rfl) rfl ?_)))))
                                     (refine G.frontR0 (v) rfl ?_); refine G.op (og_callMM1 rfl rfl rfl (ih (by omega) (by omega) (by omega) (by omega) h3 h4 h5 (fun x x1 x2 => by rw [hf1.out x (.inr x1)]; exact hfr.lt hfn (by omega) x2))) rfl ?_; rintro g2 ⟨hf2, hm2⟩; try dsimp only
                                     refine G.done ?_
                                     exact G.endF0 g2 ⟨hfr.trans ((hf1.mono (Nat.le_refl _) (by omega)).trans (hf2.mono (by omega) (Nat.le_refl _))), srt_join hmid.lr hf1 hm1 hf2 hm2⟩ rfl rfl (fun w hw => hw)
                                · try exact Bool.noConfusion hc
                                  all_goals
                                   try replace hc := of_decide_eq_false hc
                                   try simp only [cmpZ_neg, Bool.not_eq_true', Bool.not_eq_false', decide_eq_false_iff_not, decide_eq_true_eq] at hc
                                   try (exfalso; contradiction)
                                   all_goals
                                    have h3 := hf1.srt_hi (Nat.le_refl _) hmid.s3
                                    have h4 := hf1.srt_hi (by omega) hmid.s4
                                    obtain ⟨g2, hg2⟩ : ∃ y, y = g1 := ⟨_, rfl⟩
                                    have hf2 : Frm ((a + b) / 2) b g1 g2 := hg2 ▸ Frm.refl _ _ _
                                    have hm2 : Srt K ((a + b) / 2) b g2 := hg2 ▸ srt_of h3 h4 (by omega) (by omega) (by omega)
                                    refine G.rowEq (rowF n g2) (by rw [hg2]) rfl ?_
                                    all_goals
                                     refine G.skip ?_
                                     exact G.endF0 g2 ⟨hfr.trans ((hf1.mono (Nat.le_refl _) (by omega)).trans (hf2.mono (by omega) (Nat.le_refl _))), srt_join hmid.lr hf1 hm1 hf2 hm2⟩ rfl rfl (fun w hw => hw)
                           · try exact Bool.noConfusion hc
                             all_goals
                              try replace hc := of_decide_eq_false hc
                              try simp only [cmpZ_neg, Bool.not_eq_true', Bool.not_eq_false', decide_eq_false_iff_not, decide_eq_true_eq] at hc
                              try (exfalso; contradiction)
                              all_goals
                               obtain ⟨g1, hg1⟩ : ∃ y, y = rotF f j m ((a + b) / 2 + m - j) := ⟨_, rfl⟩
                               have hf1 : Frm a ((a + b) / 2) (rotF f j m ((a + b) / 2 + m - j)) g1 := hg1 ▸ Frm.refl _ _ _
                               have hm1 : Srt K a ((a + b) / 2) g1 := hg1 ▸ srt_of hmid.s1 hmid.s2 (by omega) (by omega) (by omega)
                               refine G.rowEq (rowF n g1) (by rw [hg1]) rfl ?_
                               all_goals
                                refine G.skip (G.thenN (G.seq (G.region (G.v (rv_move rfl) rfl (G.v (rv_move rfl) rfl (G.v (rv_lss rfl rfl) rfl (G.v (rv_move rfl) rfl ?_)))))))
                                all_goals (((with_reducible refine G.gP rfl rfl (fun hg => ?_) (fun hg => ?_)) <;> (try exact Bool.noConfusion hg) <;> (try (exfalso; (have hq := of_decide_eq_false hg; omega))) <;> ((refine G.gY rfl rfl ?_; refine G.v (rv_move rfl) rfl ?_))))
                                all_goals (((refine G.gY rfl rfl ?_; refine G.v (rv_move rfl) rfl ?_)))
                                all_goals (((refine G.gY rfl rfl ?_; refine G.v (rv_lss rfl rfl) rfl ?_)))
                                all_goals ((refine G.v (rv_pickT rfl rfl) rfl ?_))
                                all_goals
                                 refine G.done (G.thenN ?_); refine G.cond rfl (fun hc => ?_) (fun hc => ?_)
                                 · try exact Bool.noConfusion hc
                                   all_goals
                                    try replace hc := of_decide_eq_true hc
                                    try simp only [cmpZ_neg, Bool.not_eq_true', Bool.not_eq_false', decide_eq_false_iff_not, decide_eq_true_eq] at hc
                                    try (exfalso; contradiction)
                                    all_goals
                                     have h3 := hf1.srt_hi (Nat.le_refl _) hmid.s3
                                     have h4 := hf1.srt_hi (by omega) hmid.s4
                                     have h5 := hf1.crs_hi (Nat.le_refl _) (by omega) hmid.c2
                                     all_goals
                                      refine G.region (G.v (rv_move rfl) rfl (G.v (rv_move rfl) rfl (G.v (rv_move rfl) rfl (G.v (rv_move rfl) rfl (G.v (rv_move rfl) rfl ?_)))))
                                      (refine G.frontR0 (v) rfl ?_); refine G.op (og_callMM1 rfl rfl rfl (ih (by omega) (by omega) (by omega) (by omega) h3 h4 h5 (fun x x1 x2 => by rw [hf1.out x (.inr x1)]; exact hfr.lt hfn (by omega) x2))) rfl ?_; rintro g2 ⟨hf2, hm2⟩; try dsimp only
                                      refine G.done ?_
                                      exact G.endF0 g2 ⟨hfr.trans ((hf1.mono (Nat.le_refl _) (by omega)).trans (hf2.mono (by omega) (Nat.le_refl _))), srt_join hmid.lr hf1 hm1 hf2 hm2⟩ rfl rfl (fun w hw => hw)
                                 · try exact Bool.noConfusion hc
                                   all_goals
                                    try replace hc := of_decide_eq_false hc
                                    try simp only [cmpZ_neg, Bool.not_eq_true', Bool.not_eq_false', decide_eq_false_iff_not, decide_eq_true_eq] at hc
                                    try (exfalso; omega)
                                    all_goals
                                     have h3 := hf1.srt_hi (Nat.le_refl _) hmid.s3
                                     have h4 := hf1.srt_hi (by omega) hmid.s4
                                     obtain ⟨g2, hg2⟩ : ∃ y, y = g1 := ⟨_, rfl⟩
                                     have hf2 : Frm ((a + b) / 2) b g1 g2 := hg2 ▸ Frm.refl _ _ _
                                     have hm2 : Srt K ((a + b) / 2) b g2 := hg2 ▸ srt_of h3 h4 (by omega) (by omega) (by omega)
                                     refine G.rowEq (rowF n g2) (by rw [hg2]) rfl ?_
                                     all_goals
                                      refine G.skip ?_
                                      exact G.endF0 g2 ⟨hfr.trans ((hf1.mono (Nat.le_refl _) (by omega)).trans (hf2.mono (by omega) (Nat.le_refl _))), srt_join hmid.lr hf1 hm1 hf2 hm2⟩ rfl rfl (fun w hw => hw)
          · try exact Bool.noConfusion hc
            all_goals
             try replace hc := of_decide_eq_false hc
             try simp only [cmpZ_neg, Bool.not_eq_true', Bool.not_eq_false', decide_eq_false_iff_not, decide_eq_true_eq] at hc
             try (exfalso; contradiction)
             all_goals
              obtain ⟨s0, hs0⟩ : ∃ y, y = a := ⟨_, rfl⟩
              obtain ⟨r0, hr0⟩ : ∃ y, y = m := ⟨_, rfl⟩
              have hL : s0 = a ∨ (a + b) / 2 + m - s0 = b := by omega
              have hR : r0 = m ∨ (a + b) / 2 + m - r0 = m := by omega
              all_goals
               refine G.seq (G.region (G.v (rv_move rfl) rfl (G.v (rv_assign rfl) rfl (G.done (G.thenN (G.region (G.v (rv_move rfl) rfl (G.v (rv_assign rfl) rfl (G.done (G.thenN (G.seq ?_))))))))))); refine G.region (G.v (rv_move rfl) rfl ?_); refine G.v (rv_decr rfl rfl (by omega) (by omega)) rfl ?_; refine G.v (rv_assign rfl) rfl (G.done (G.thenN (G.seq (G.block ?_))))
               -- loop 4: turned [20, 21], kept [0, 1, 2, 3, 4, 18, 19, 22]
               refine G.loopK (ι := Nat × Nat) (ks := [0, 1, 2, 3, 4, 18, 19, 22]) (fun x => [(20, .int .i64 (x.1 : Int)), (21, .int .i64 (x.2 : Int))]) (fun _ => [.row v 3 1 (rowF n f)]) (fun x => s0 ≤ x.1 ∧ x.1 ≤ x.2 ∧ x.2 ≤ r0 ∧ (x.1 = s0 ∨ ¬ K (f ((a + b) / 2 + m - 1 - (x.1 - 1))) < K (f (x.1 - 1))) ∧ (x.2 = r0 ∨ K (f ((a + b) / 2 + m - 1 - x.2)) < K (f x.2))) (fun x => x.2 - x.1) (s0, r0) (.cons rfl (.cons rfl (.cons rfl (.cons rfl (.cons rfl (.cons rfl (.cons rfl (.cons rfl (.nil))))))))) rfl ?_ ?_ ?_
               · exact ⟨Nat.le_refl _, by dsimp only; omega, Nat.le_refl _, .inl rfl, .inl rfl⟩
               · exact ⟨congrArg (fun z : Nat => some (Value.int .i64 (z : Int))) hs0.symm, congrArg (fun z : Nat => some (Value.int .i64 (z : Int))) hr0.symm, trivial⟩
               rintro ⟨i, j⟩ ⟨hi, hij, hj, hl, hr⟩
               dsimp only at hi hij hj hl hr ⊢
               have ham : a ≤ s0 ∧ r0 ≤ m ∧ r0 ≤ (a + b) / 2 ∧ (a + b) / 2 + m - s0 ≤ b := by omega
               by_cases hlt : i < j
               case' pos => (have hfh := hfn ((i + j) / 2) (by omega) (by omega); have eh : (rowF n f)[(i + j) / 2]? = some (icell (f ((i + j) / 2) : Int)) := rowF_get (by omega); have hfp := hfn ((a + b) / 2 + m - 1 - (i + j) / 2) (by omega) (by omega); have ep : (rowF n f)[(a + b) / 2 + m - 1 - (i + j) / 2]? = some (icell (f ((a + b) / 2 + m - 1 - (i + j) / 2) : Int)) := rowF_get (by omega))
               case' neg => (obtain rfl : j = i := (by omega); have hmid := mid_of (st := j) (en := (a + b) / 2 + m - j) (mid := (a + b) / 2) hs1 hs2 hcr (by omega) (by omega) (by omega) (by omega) (by omega) (by omega) (by omega) (by rcases hl with hl | hl; (rcases hL with h | h; exact .inl (hl.trans h); exact .inr (.inl (by omega))); (by_cases hz : j = a; exact .inl hz; rw [show (a + b) / 2 + m - 1 - (j - 1) = (a + b) / 2 + m - j from by omega] at hl; exact .inr (.inr hl))) (by rcases hr with hr | hr; (rcases hR with h | h; exact .inl (hr.trans h); exact .inr (.inl (by omega))); (rw [show (a + b) / 2 + m - 1 - j = (a + b) / 2 + m - j - 1 from by omega] at hr; exact .inr (.inr hr))); have hfr : Frm a b f (rotF f j m ((a + b) / 2 + m - j)) := (rot_frm (by omega) (by omega)).mono (by omega) (by omega))
               all_goals
                refine G.seq (G.seq (G.region (G.v (rv_move rfl) rfl (G.v (rv_move rfl) rfl (G.v (rv_lss rfl rfl) rfl (G.done (G.thenN ?_))))))); refine G.cond rfl (fun hc => ?_) (fun hc => ?_)
                · try exact Bool.noConfusion hc
                  all_goals
                   try replace hc := of_decide_eq_true hc
                   try simp only [cmpZ_neg, Bool.not_eq_true', Bool.not_eq_false', decide_eq_false_iff_not, decide_eq_true_eq] at hc
                   try (exfalso; omega)
                   all_goals
                    refine G.skip (G.thenN (G.block (G.seq (G.region (G.v (rv_move rfl) rfl (G.v (rv_move rfl) rfl ?_)))))); refine G.v (rv_addN rfl rfl (by omega)) rfl ?_; refine G.v (rv_conv rfl) rfl ?_; refine G.v (rv_shr rfl rfl (by omega)) rfl ?_; refine G.v (rv_half (m := (i + j) / 2) rfl rfl (by omega) (by omega)) rfl ?_; refine G.v (rv_assign rfl) rfl (G.done (G.thenN (G.seq ?_))); refine G.drawL [] ?_; refine GE.q 0 rfl (by as_aux_lemma => kernel_rfl) rfl (qg_runs (rv_move rfl)) rfl ?_; refine GE.q 1 rfl (by as_aux_lemma => kernel_rfl) rfl (qg_runs (rv_move rfl)) rfl ?_; refine GE.q 2 rfl (by as_aux_lemma => kernel_rfl) rfl (qg_runs (rv_move rfl)) rfl ?_; refine GE.q 3 rfl (by as_aux_lemma => kernel_rfl) rfl (qg_runs (rv_move rfl)) rfl ?_; refine GE.q 4 rfl (by as_aux_lemma => kernel_rfl) rfl (qg_runs (rv_subN rfl rfl (by omega) (by omega))) rfl ?_; refine GE.q 5 rfl (by as_aux_lemma => kernel_rfl) rfl (qg_runs (rv_indexH rfl rfl (by exact Rd.owned 0 rfl) rfl (by exact ep))) rfl ?_; refine GE.q 6 rfl (by as_aux_lemma => kernel_rfl) rfl (qg_runs (rv_loadE rfl (by exact Rd.owned 0 rfl) (by exact ep) rfl)) rfl ?_; refine GE.q 7 rfl (by as_aux_lemma => kernel_rfl) rfl (qg_runs (rv_move rfl)) rfl ?_; refine GE.ol 8 (by as_aux_lemma => kernel_rfl) rfl rfl (og_runs (rv_move rfl)) rfl (fun _ _ h => by exact h) (fun _ _ => ?_)
                    refine GE.ol 9 (by as_aux_lemma => kernel_rfl) rfl rfl (og_runs (rv_indexH rfl rfl (by exact Rd.owned 0 rfl) rfl (by exact eh))) rfl (fun _ _ h => by exact h) (fun _ _ => ?_); refine GE.ol 10 (by as_aux_lemma => kernel_rfl) rfl rfl (og_runs (rv_loadE rfl (by exact Rd.owned 0 rfl) (by exact eh) rfl)) rfl (fun _ _ h => by exact h) (fun _ _ => ?_); refine GE.ol 11 (by as_aux_lemma => kernel_rfl) rfl rfl (og_callV rfl rfl (fun w hh => hcmp w hh.tail _ _ hfp hfh)) rfl (fun _ _ h => by exact h) (fun _ _ => ?_); refine GE.ol 12 (by as_aux_lemma => kernel_rfl) rfl rfl (og_runs (rv_lss rfl rfl)) rfl (fun _ _ h => by exact h) (fun _ _ => ?_); refine GE.ol 13 (by as_aux_lemma => kernel_rfl) rfl rfl (og_runs (rv_not rfl)) rfl (fun _ _ h => by exact h) (fun _ _ => ?_); refine GE.done (by as_aux_lemma => kernel_rfl) ?_; refine G.thenN ?_; refine G.cond rfl (fun hc => ?_) (fun hc => ?_)
                    · try exact Bool.noConfusion hc
                      all_goals
                       try replace hc := of_decide_eq_true hc
                       try simp only [cmpZ_neg, Bool.not_eq_true', Bool.not_eq_false', decide_eq_false_iff_not, decide_eq_true_eq] at hc
                       try (exfalso; contradiction)
                       all_goals
                        refine G.region (G.v (rv_move rfl) rfl ?_); refine G.v (rv_incr rfl rfl (by omega)) rfl ?_; refine G.v (rv_assign rfl) rfl (G.done (G.inN ?_)); refine G.backK ((i + j) / 2 + 1, j) 0 rfl (.cons rfl (.cons rfl (.cons rfl (.cons rfl (.cons rfl (.cons rfl (.cons rfl (.cons rfl (.nil))))))))) (⟨rfl, rfl, trivial⟩) ?_ ?_
                        · (exact ⟨by dsimp only; omega, by dsimp only; omega, by dsimp only; omega, .inr hc, hr⟩)
                        · dsimp only; omega
                    · try exact Bool.noConfusion hc
                      all_goals
                       try replace hc := of_decide_eq_false hc
                       try simp only [cmpZ_neg, Bool.not_eq_true', Bool.not_eq_false', decide_eq_false_iff_not, decide_eq_true_eq] at hc
                       try (exfalso; contradiction)
                       all_goals
                        refine G.region (G.v (rv_move rfl) rfl (G.v (rv_assign rfl) rfl (G.done (G.inN ?_)))); refine G.backK (i, (i + j) / 2) 0 rfl (.cons rfl (.cons rfl (.cons rfl (.cons rfl (.cons rfl (.cons rfl (.cons rfl (.cons rfl (.nil))))))))) (⟨rfl, rfl, trivial⟩) ?_ ?_
                        · (exact ⟨by dsimp only; omega, by dsimp only; omega, by dsimp only; omega, hl, .inr hc⟩)
                        · dsimp only; omega
                · try exact Bool.noConfusion hc
                  all_goals
                   try replace hc := of_decide_eq_false hc
                   try simp only [cmpZ_neg, Bool.not_eq_true', Bool.not_eq_false', decide_eq_false_iff_not, decide_eq_true_eq] at hc
                   try (exfalso; omega)
                   all_goals
                    refine G.exit (G.thenX (G.thenX (G.inX (G.thenN (G.seq (G.region (G.v (rv_move rfl) rfl (G.v (rv_move rfl) rfl ?_)))))))); refine G.v (rv_subN rfl rfl (by omega) (by omega)) rfl ?_; refine G.v (rv_assign rfl) rfl (G.done (G.thenN (G.seq (G.seq (G.region (G.v (rv_move rfl) rfl (G.v (rv_move rfl) rfl (G.v (rv_lss rfl rfl) rfl (G.v (rv_move rfl) rfl ?_)))))))))
                    all_goals (((with_reducible refine G.gP rfl rfl (fun hg => ?_) (fun hg => ?_)) <;> (try exact Bool.noConfusion hg) <;> (try (exfalso; (have hq := of_decide_eq_false hg; omega))) <;> (first | (refine G.gY rfl rfl ?_; refine G.v (rv_move rfl) rfl ?_) | refine G.gN rfl rfl rfl ?_)))
                    all_goals ((first | (refine G.gY rfl rfl ?_; refine G.v (rv_move rfl) rfl ?_) | refine G.gN rfl rfl rfl ?_))
                    all_goals ((first | (refine G.gY rfl rfl ?_; refine G.v (rv_lss rfl rfl) rfl ?_) | refine G.gN rfl rfl rfl ?_))
                    all_goals ((first | refine G.v (rv_pickT rfl rfl) rfl ?_ | refine G.v (rv_pickF rfl rfl) rfl ?_))
                    all_goals
                     refine G.done (G.thenN ?_); refine G.cond rfl (fun hc => ?_) (fun hc => ?_)
                     · try exact Bool.noConfusion hc
                       all_goals
                        try replace hc := of_decide_eq_true hc
                        try simp only [cmpZ_neg, Bool.not_eq_true', Bool.not_eq_false', decide_eq_false_iff_not, decide_eq_true_eq] at hc
                        try (exfalso; contradiction)
                        all_goals
                         refine G.region (G.v (rv_move rfl) rfl (G.v (rv_move rfl) rfl (G.v (rv_move rfl) rfl (G.v (rv_move rfl) rfl (G.v (rv_move rfl) rfl ?_)))))
                         (refine G.frontR0 (v) rfl ?_); refine G.op (og_callMM1 rfl rfl rfl (rotate_any (by (have hq := of_decide_eq_true hg; omega)) (by omega) (by omega) hn)) rfl ?_; rintro ⟨⟩ _; try dsimp only
                         refine G.done (G.thenN (G.seq (G.seq (G.region (G.v (rv_move rfl) rfl (G.v (rv_move rfl) rfl (G.v (rv_lss rfl rfl) rfl (G.v (rv_move rfl) rfl ?_))))))))
                         all_goals (((with_reducible refine G.gP rfl rfl (fun hg => ?_) (fun hg => ?_)) <;> (try exact Bool.noConfusion hg) <;> (try (exfalso; (have hq := of_decide_eq_false hg; omega))) <;> (first | (refine G.gY rfl rfl ?_; refine G.v (rv_move rfl) rfl ?_) | refine G.gN rfl rfl rfl ?_)))
                         all_goals ((first | (refine G.gY rfl rfl ?_; refine G.v (rv_move rfl) rfl ?_) | refine G.gN rfl rfl rfl ?_))
                         all_goals ((first | (refine G.gY rfl rfl ?_; refine G.v (rv_lss rfl rfl) rfl ?_) | refine G.gN rfl rfl rfl ?_))
                         all_goals ((first | refine G.v (rv_pickT rfl rfl) rfl ?_ | refine G.v (rv_pickF rfl rfl) rfl ?_))
                         all_goals
                          refine G.done (G.thenN ?_); refine G.cond rfl (fun hc => ?_) (fun hc => ?_)
                          · try exact Bool.noConfusion hc
                            all_goals
                             try replace hc := of_decide_eq_true hc
                             try simp only [cmpZ_neg, Bool.not_eq_true', Bool.not_eq_false', decide_eq_false_iff_not, decide_eq_true_eq] at hc
                             try (exfalso; contradiction)
                             all_goals
                              refine G.region (G.v (rv_move rfl) rfl (G.v (rv_move rfl) rfl (G.v (rv_move rfl) rfl (G.v (rv_move rfl) rfl (G.v (rv_move rfl) rfl ?_)))))
                              (refine G.frontR0 (v) rfl ?_); refine G.op (og_callMM1 rfl rfl rfl (ih (by omega) (by (have hq := of_decide_eq_true hg; omega)) (by omega) (by omega) hmid.s1 hmid.s2 hmid.c1 (fun x x1 x2 => hfr.lt hfn x1 (by omega)))) rfl ?_; rintro g1 ⟨hf1, hm1⟩; try dsimp only
                              refine G.done (G.thenN (G.seq (G.region (G.v (rv_move rfl) rfl (G.v (rv_move rfl) rfl (G.v (rv_lss rfl rfl) rfl (G.v (rv_move rfl) rfl ?_)))))))
                              all_goals (((with_reducible refine G.gP rfl rfl (fun hg => ?_) (fun hg => ?_)) <;> (try exact Bool.noConfusion hg) <;> (try (exfalso; (have hq := of_decide_eq_false hg; omega))) <;> (first | (refine G.gY rfl rfl ?_; refine G.v (rv_move rfl) rfl ?_) | refine G.gN rfl rfl rfl ?_)))
                              all_goals ((first | (refine G.gY rfl rfl ?_; refine G.v (rv_move rfl) rfl ?_) | refine G.gN rfl rfl rfl ?_))
                              all_goals ((first | (refine G.gY rfl rfl ?_; refine G.v (rv_lss rfl rfl) rfl ?_) | refine G.gN rfl rfl rfl ?_))
                              all_goals ((first | refine G.v (rv_pickT rfl rfl) rfl ?_ | refine G.v (rv_pickF rfl rfl) rfl ?_))
                              all_goals
                               refine G.done (G.thenN ?_); refine G.cond rfl (fun hc => ?_) (fun hc => ?_)
                               · try exact Bool.noConfusion hc
                                 all_goals
                                  try replace hc := of_decide_eq_true hc
                                  try simp only [cmpZ_neg, Bool.not_eq_true', Bool.not_eq_false', decide_eq_false_iff_not, decide_eq_true_eq] at hc
                                  try (exfalso; contradiction)
                                  all_goals
                                   have h3 := hf1.srt_hi (Nat.le_refl _) hmid.s3
                                   have h4 := hf1.srt_hi (by omega) hmid.s4
                                   have h5 := hf1.crs_hi (Nat.le_refl _) (by omega) hmid.c2
                                   all_goals
                                    refine G.region (G.v (rv_move rfl) rfl (G.v (rv_move rfl) rfl (G.v (rv_move rfl) rfl (G.v (rv_move rfl) rfl (G.v (rv_move rfl) rfl ?_)))))
                                    (refine G.frontR0 (v) rfl ?_); refine G.op (og_callMM1 rfl rfl rfl (ih (by omega) (by (have hq := of_decide_eq_true hg; omega)) (by omega) (by omega) h3 h4 h5 (fun x x1 x2 => by rw [hf1.out x (.inr x1)]; exact hfr.lt hfn (by omega) x2))) rfl ?_; rintro g2 ⟨hf2, hm2⟩; try dsimp only
                                    refine G.done ?_
                                    exact G.endF0 g2 ⟨hfr.trans ((hf1.mono (Nat.le_refl _) (by omega)).trans (hf2.mono (by omega) (Nat.le_refl _))), srt_join hmid.lr hf1 hm1 hf2 hm2⟩ rfl rfl (fun w hw => hw)
                               · try exact Bool.noConfusion hc
                                 all_goals
                                  try replace hc := of_decide_eq_false hc
                                  try simp only [cmpZ_neg, Bool.not_eq_true', Bool.not_eq_false', decide_eq_false_iff_not, decide_eq_true_eq] at hc
                                  try (exfalso; contradiction)
                                  all_goals
                                   have h3 := hf1.srt_hi (Nat.le_refl _) hmid.s3
                                   have h4 := hf1.srt_hi (by omega) hmid.s4
                                   obtain ⟨g2, hg2⟩ : ∃ y, y = g1 := ⟨_, rfl⟩
                                   have hf2 : Frm ((a + b) / 2) b g1 g2 := hg2 ▸ Frm.refl _ _ _
                                   have hm2 : Srt K ((a + b) / 2) b g2 := hg2 ▸ srt_of h3 h4 (by first | omega | (have hq := of_decide_eq_false hg; omega)) (by omega) (by omega)
                                   refine G.rowEq (rowF n g2) (by rw [hg2]) rfl ?_
                                   all_goals
                                    refine G.skip ?_
                                    exact G.endF0 g2 ⟨hfr.trans ((hf1.mono (Nat.le_refl _) (by omega)).trans (hf2.mono (by omega) (Nat.le_refl _))), srt_join hmid.lr hf1 hm1 hf2 hm2⟩ rfl rfl (fun w hw => hw)
                          · try exact Bool.noConfusion hc
                            all_goals
                             try replace hc := of_decide_eq_false hc
                             try simp only [cmpZ_neg, Bool.not_eq_true', Bool.not_eq_false', decide_eq_false_iff_not, decide_eq_true_eq] at hc
                             try (exfalso; omega)
                             all_goals
                              obtain ⟨g1, hg1⟩ : ∃ y, y = rotF f j m ((a + b) / 2 + m - j) := ⟨_, rfl⟩
                              have hf1 : Frm a ((a + b) / 2) (rotF f j m ((a + b) / 2 + m - j)) g1 := hg1 ▸ Frm.refl _ _ _
                              have hm1 : Srt K a ((a + b) / 2) g1 := hg1 ▸ srt_of hmid.s1 hmid.s2 (by (have hq := of_decide_eq_false hg; omega)) (by omega) (by omega)
                              refine G.rowEq (rowF n g1) (by rw [hg1]) rfl ?_
                              all_goals
                               refine G.skip (G.thenN (G.seq (G.region (G.v (rv_move rfl) rfl (G.v (rv_move rfl) rfl (G.v (rv_lss rfl rfl) rfl (G.v (rv_move rfl) rfl ?_)))))))
                               all_goals (((with_reducible refine G.gP rfl rfl (fun hg => ?_) (fun hg => ?_)) <;> (try exact Bool.noConfusion hg) <;> (try (exfalso; (have hq := of_decide_eq_false hg; omega))) <;> (first | (refine G.gY rfl rfl ?_; refine G.v (rv_move rfl) rfl ?_) | refine G.gN rfl rfl rfl ?_)))
                               all_goals ((first | (refine G.gY rfl rfl ?_; refine G.v (rv_move rfl) rfl ?_) | refine G.gN rfl rfl rfl ?_))
                               all_goals ((first | (refine G.gY rfl rfl ?_; refine G.v (rv_lss rfl rfl) rfl ?_) | refine G.gN rfl rfl rfl ?_))
                               all_goals ((first | refine G.v (rv_pickT rfl rfl) rfl ?_ | refine G.v (rv_pickF rfl rfl) rfl ?_))
                               all_goals
                                refine G.done (G.thenN ?_); refine G.cond rfl (fun hc => ?_) (fun hc => ?_)
                                · try exact Bool.noConfusion hc
                                  all_goals
                                   try replace hc := of_decide_eq_true hc
                                   try simp only [cmpZ_neg, Bool.not_eq_true', Bool.not_eq_false', decide_eq_false_iff_not, decide_eq_true_eq] at hc
                                   try (exfalso; contradiction)
                                   all_goals
                                    have h3 := hf1.srt_hi (Nat.le_refl _) hmid.s3
                                    have h4 := hf1.srt_hi (by omega) hmid.s4
                                    have h5 := hf1.crs_hi (Nat.le_refl _) (by omega) hmid.c2
                                    all_goals
                                     refine G.region (G.v (rv_move rfl) rfl (G.v (rv_move rfl) rfl (G.v (rv_move rfl) rfl (G.v (rv_move rfl) rfl (G.v (rv_move rfl) rfl ?_)))))
                                     (refine G.frontR0 (v) rfl ?_); refine G.op (og_callMM1 rfl rfl rfl (ih (by omega) (by (have hq := of_decide_eq_true hg; omega)) (by omega) (by omega) h3 h4 h5 (fun x x1 x2 => by rw [hf1.out x (.inr x1)]; exact hfr.lt hfn (by omega) x2))) rfl ?_; rintro g2 ⟨hf2, hm2⟩; try dsimp only
                                     refine G.done ?_
                                     exact G.endF0 g2 ⟨hfr.trans ((hf1.mono (Nat.le_refl _) (by omega)).trans (hf2.mono (by omega) (Nat.le_refl _))), srt_join hmid.lr hf1 hm1 hf2 hm2⟩ rfl rfl (fun w hw => hw)
                                · try exact Bool.noConfusion hc
                                  all_goals
                                   try replace hc := of_decide_eq_false hc
                                   try simp only [cmpZ_neg, Bool.not_eq_true', Bool.not_eq_false', decide_eq_false_iff_not, decide_eq_true_eq] at hc
                                   try (exfalso; contradiction)
                                   all_goals
                                    have h3 := hf1.srt_hi (Nat.le_refl _) hmid.s3
                                    have h4 := hf1.srt_hi (by omega) hmid.s4
                                    obtain ⟨g2, hg2⟩ : ∃ y, y = g1 := ⟨_, rfl⟩
                                    have hf2 : Frm ((a + b) / 2) b g1 g2 := hg2 ▸ Frm.refl _ _ _
                                    have hm2 : Srt K ((a + b) / 2) b g2 := hg2 ▸ srt_of h3 h4 (by first | omega | (have hq := of_decide_eq_false hg; omega)) (by omega) (by omega)
                                    refine G.rowEq (rowF n g2) (by rw [hg2]) rfl ?_
                                    all_goals
                                     refine G.skip ?_
                                     exact G.endF0 g2 ⟨hfr.trans ((hf1.mono (Nat.le_refl _) (by omega)).trans (hf2.mono (by omega) (Nat.le_refl _))), srt_join hmid.lr hf1 hm1 hf2 hm2⟩ rfl rfl (fun w hw => hw)
                     · try exact Bool.noConfusion hc
                       all_goals
                        try replace hc := of_decide_eq_false hc
                        try simp only [cmpZ_neg, Bool.not_eq_true', Bool.not_eq_false', decide_eq_false_iff_not, decide_eq_true_eq] at hc
                        try (exfalso; contradiction)
                        all_goals
                         refine G.rowEq (rowF n (rotF f j m ((a + b) / 2 + m - j))) (by rw [rot_id (by omega) (by omega) (by first | omega | (have hq := of_decide_eq_false hg; omega))]) rfl ?_
                         all_goals
                          refine G.skip (G.thenN (G.seq (G.seq (G.region (G.v (rv_move rfl) rfl (G.v (rv_move rfl) rfl (G.v (rv_lss rfl rfl) rfl (G.v (rv_move rfl) rfl ?_))))))))
                          all_goals (((with_reducible refine G.gP rfl rfl (fun hg => ?_) (fun hg => ?_)) <;> (try exact Bool.noConfusion hg) <;> (try (exfalso; (have hq := of_decide_eq_false hg; omega))) <;> (first | (refine G.gY rfl rfl ?_; refine G.v (rv_move rfl) rfl ?_) | refine G.gN rfl rfl rfl ?_)))
                          all_goals ((first | (refine G.gY rfl rfl ?_; refine G.v (rv_move rfl) rfl ?_) | refine G.gN rfl rfl rfl ?_))
                          all_goals ((first | (refine G.gY rfl rfl ?_; refine G.v (rv_lss rfl rfl) rfl ?_) | refine G.gN rfl rfl rfl ?_))
                          all_goals ((first | refine G.v (rv_pickT rfl rfl) rfl ?_ | refine G.v (rv_pickF rfl rfl) rfl ?_))
                          all_goals
                           refine G.done (G.thenN ?_); refine G.cond rfl (fun hc => ?_) (fun hc => ?_)
                           · try exact Bool.noConfusion hc
                             all_goals
                              try replace hc := of_decide_eq_true hc
                              try simp only [cmpZ_neg, Bool.not_eq_true', Bool.not_eq_false', decide_eq_false_iff_not, decide_eq_true_eq] at hc
                              try (exfalso; omega)
                              all_goals
                               refine G.region (G.v (rv_move rfl) rfl (G.v (rv_move rfl) rfl (G.v (rv_move rfl) rfl (G.v (rv_move rfl) rfl (G.v (rv_move rfl) rfl ?_)))))
                               (refine G.frontR0 (v) rfl ?_); refine G.op (og_callMM1 rfl rfl rfl (ih (by omega) (by (have hq := of_decide_eq_true hg; omega)) (by omega) (by omega) hmid.s1 hmid.s2 hmid.c1 (fun x x1 x2 => hfr.lt hfn x1 (by omega)))) rfl ?_; rintro g1 ⟨hf1, hm1⟩; try dsimp only
                               refine G.done (G.thenN (G.seq (G.region (G.v (rv_move rfl) rfl (G.v (rv_move rfl) rfl (G.v (rv_lss rfl rfl) rfl (G.v (rv_move rfl) rfl ?_)))))))
                               all_goals (((with_reducible refine G.gP rfl rfl (fun hg => ?_) (fun hg => ?_)) <;> (try exact Bool.noConfusion hg) <;> (try (exfalso; (have hq := of_decide_eq_false hg; omega))) <;> (first | (refine G.gY rfl rfl ?_; refine G.v (rv_move rfl) rfl ?_) | refine G.gN rfl rfl rfl ?_)))
                               all_goals ((first | (refine G.gY rfl rfl ?_; refine G.v (rv_move rfl) rfl ?_) | refine G.gN rfl rfl rfl ?_))
                               all_goals ((first | (refine G.gY rfl rfl ?_; refine G.v (rv_lss rfl rfl) rfl ?_) | refine G.gN rfl rfl rfl ?_))
                               all_goals ((first | refine G.v (rv_pickT rfl rfl) rfl ?_ | refine G.v (rv_pickF rfl rfl) rfl ?_))
                               all_goals
                                refine G.done (G.thenN ?_); refine G.cond rfl (fun hc => ?_) (fun hc => ?_)
                                · try exact Bool.noConfusion hc
                                  all_goals
                                   try replace hc := of_decide_eq_true hc
                                   try simp only [cmpZ_neg, Bool.not_eq_true', Bool.not_eq_false', decide_eq_false_iff_not, decide_eq_true_eq] at hc
                                   try (exfalso; contradiction)
                                   all_goals
                                    have h3 := hf1.srt_hi (Nat.le_refl _) hmid.s3
                                    have h4 := hf1.srt_hi (by omega) hmid.s4
                                    have h5 := hf1.crs_hi (Nat.le_refl _) (by omega) hmid.c2
                                    all_goals
                                     refine G.region (G.v (rv_move rfl) rfl (G.v (rv_move rfl) rfl (G.v (rv_move rfl) rfl (G.v (rv_move rfl) rfl (G.v (rv_move rfl) rfl ?_)))))
                                     (refine G.frontR0 (v) rfl ?_); refine G.op (og_callMM1 rfl rfl rfl (ih (by omega) (by (have hq := of_decide_eq_true hg; omega)) (by omega) (by omega) h3 h4 h5 (fun x x1 x2 => by rw [hf1.out x (.inr x1)]; exact hfr.lt hfn (by omega) x2))) rfl ?_; rintro g2 ⟨hf2, hm2⟩; try dsimp only
                                     refine G.done ?_
                                     exact G.endF0 g2 ⟨hfr.trans ((hf1.mono (Nat.le_refl _) (by omega)).trans (hf2.mono (by omega) (Nat.le_refl _))), srt_join hmid.lr hf1 hm1 hf2 hm2⟩ rfl rfl (fun w hw => hw)
                                · try exact Bool.noConfusion hc
                                  all_goals
                                   try replace hc := of_decide_eq_false hc
                                   try simp only [cmpZ_neg, Bool.not_eq_true', Bool.not_eq_false', decide_eq_false_iff_not, decide_eq_true_eq] at hc
                                   try (exfalso; contradiction)
                                   all_goals
                                    have h3 := hf1.srt_hi (Nat.le_refl _) hmid.s3
                                    have h4 := hf1.srt_hi (by omega) hmid.s4
                                    obtain ⟨g2, hg2⟩ : ∃ y, y = g1 := ⟨_, rfl⟩
                                    have hf2 : Frm ((a + b) / 2) b g1 g2 := hg2 ▸ Frm.refl _ _ _
                                    have hm2 : Srt K ((a + b) / 2) b g2 := hg2 ▸ srt_of h3 h4 (by first | omega | (have hq := of_decide_eq_false hg; omega)) (by omega) (by omega)
                                    refine G.rowEq (rowF n g2) (by rw [hg2]) rfl ?_
                                    all_goals
                                     refine G.skip ?_
                                     exact G.endF0 g2 ⟨hfr.trans ((hf1.mono (Nat.le_refl _) (by omega)).trans (hf2.mono (by omega) (Nat.le_refl _))), srt_join hmid.lr hf1 hm1 hf2 hm2⟩ rfl rfl (fun w hw => hw)
                           · try exact Bool.noConfusion hc
                             all_goals
                              try replace hc := of_decide_eq_false hc
                              try simp only [cmpZ_neg, Bool.not_eq_true', Bool.not_eq_false', decide_eq_false_iff_not, decide_eq_true_eq] at hc
                              try (exfalso; contradiction)
                              all_goals
                               obtain ⟨g1, hg1⟩ : ∃ y, y = rotF f j m ((a + b) / 2 + m - j) := ⟨_, rfl⟩
                               have hf1 : Frm a ((a + b) / 2) (rotF f j m ((a + b) / 2 + m - j)) g1 := hg1 ▸ Frm.refl _ _ _
                               have hm1 : Srt K a ((a + b) / 2) g1 := hg1 ▸ srt_of hmid.s1 hmid.s2 (by first | omega | (have hq := of_decide_eq_false hg; omega)) (by omega) (by omega)
                               refine G.rowEq (rowF n g1) (by rw [hg1]) rfl ?_
                               all_goals
                                refine G.skip (G.thenN (G.seq (G.region (G.v (rv_move rfl) rfl (G.v (rv_move rfl) rfl (G.v (rv_lss rfl rfl) rfl (G.v (rv_move rfl) rfl ?_)))))))
                                all_goals (((with_reducible refine G.gP rfl rfl (fun hg => ?_) (fun hg => ?_)) <;> (try exact Bool.noConfusion hg) <;> (try (exfalso; (have hq := of_decide_eq_true hg; omega); done)) <;> (first | (refine G.gY rfl rfl ?_; refine G.v (rv_move rfl) rfl ?_) | refine G.gN rfl rfl rfl ?_)))
                                all_goals ((first | (refine G.gY rfl rfl ?_; refine G.v (rv_move rfl) rfl ?_) | refine G.gN rfl rfl rfl ?_))
                                all_goals ((first | (refine G.gY rfl rfl ?_; refine G.v (rv_lss rfl rfl) rfl ?_) | refine G.gN rfl rfl rfl ?_))
                                all_goals ((first | refine G.v (rv_pickT rfl rfl) rfl ?_ | refine G.v (rv_pickF rfl rfl) rfl ?_))
                                all_goals
                                 refine G.done (G.thenN ?_); refine G.cond rfl (fun hc => ?_) (fun hc => ?_)
                                 · try exact Bool.noConfusion hc
                                   all_goals
                                    try replace hc := of_decide_eq_true hc
                                    try simp only [cmpZ_neg, Bool.not_eq_true', Bool.not_eq_false', decide_eq_false_iff_not, decide_eq_true_eq] at hc
                                    try (exfalso; contradiction)
                                    all_goals
                                     have h3 := hf1.srt_hi (Nat.le_refl _) hmid.s3
                                     have h4 := hf1.srt_hi (by omega) hmid.s4
                                     have h5 := hf1.crs_hi (Nat.le_refl _) (by omega) hmid.c2
                                     all_goals
                                      refine G.region (G.v (rv_move rfl) rfl (G.v (rv_move rfl) rfl (G.v (rv_move rfl) rfl (G.v (rv_move rfl) rfl (G.v (rv_move rfl) rfl ?_)))))
                                      (refine G.frontR0 (v) rfl ?_); refine G.op (og_callMM1 rfl rfl rfl (ih (by omega) (by (have hq := of_decide_eq_true hg; omega)) (by omega) (by omega) h3 h4 h5 (fun x x1 x2 => by rw [hf1.out x (.inr x1)]; exact hfr.lt hfn (by omega) x2))) rfl ?_; rintro g2 ⟨hf2, hm2⟩; try dsimp only
                                      refine G.done ?_
                                      exact G.endF0 g2 ⟨hfr.trans ((hf1.mono (Nat.le_refl _) (by omega)).trans (hf2.mono (by omega) (Nat.le_refl _))), srt_join hmid.lr hf1 hm1 hf2 hm2⟩ rfl rfl (fun w hw => hw)
                                 · try exact Bool.noConfusion hc
                                   all_goals
                                    try replace hc := of_decide_eq_false hc
                                    try simp only [cmpZ_neg, Bool.not_eq_true', Bool.not_eq_false', decide_eq_false_iff_not, decide_eq_true_eq] at hc
                                    try (exfalso; contradiction)
                                    all_goals
                                     have h3 := hf1.srt_hi (Nat.le_refl _) hmid.s3
                                     have h4 := hf1.srt_hi (by omega) hmid.s4
                                     obtain ⟨g2, hg2⟩ : ∃ y, y = g1 := ⟨_, rfl⟩
                                     have hf2 : Frm ((a + b) / 2) b g1 g2 := hg2 ▸ Frm.refl _ _ _
                                     have hm2 : Srt K ((a + b) / 2) b g2 := hg2 ▸ srt_of h3 h4 (by first | omega | (have hq := of_decide_eq_false hg; omega)) (by omega) (by omega)
                                     refine G.rowEq (rowF n g2) (by rw [hg2]) rfl ?_
                                     all_goals
                                      refine G.skip ?_
                                      exact G.endF0 g2 ⟨hfr.trans ((hf1.mono (Nat.le_refl _) (by omega)).trans (hf2.mono (by omega) (Nat.le_refl _))), srt_join hmid.lr hf1 hm1 hf2 hm2⟩ rfl rfl (fun w hw => hw)
end
end Go.Proofs.YtibkggjbkgdnkaaGreat
