/-
  Texts of this proof, one behind the other: Grp4, Grp5, Grp6, Grp7, ShelfP, FitM, DelF, RoomW, NextW, Sorts2, Sorts3, FirstW.
-/
import Derived.Test.YtglpgohilfoecaaGreatPkpC
import Derived.Test.YtglpgohilfoecaaGreatPkpA
import Derived.Test.YtglpgohilfoecaaGreatPkpB
set_option linter.unusedVariables false
set_option linter.unusedSimpArgs false

/-
  Kinds that are put into groups: the program's way.
-/
namespace Go.Proofs.YtglpgohilfoecaaGreat
open Go.RowKit
attribute [local irreducible] Go.wpList Go.Code.wp Go.Exit.then Go.Exit.inBlock Go.bodyPost Go.Calls pE pB G RunsV FnV Fn FnM
set_option maxRecDepth 100000
set_option maxHeartbeats 4000000
theorem idx_neg {α : Type} {p : α → Bool} {l : List α} (h : idxM p l < 0) : l.any p = false := by
  rcases d2 p l with ⟨_, e⟩ | ⟨k, b, e, _⟩
  · exact e
  · omega
theorem idx_pos {α : Type} {p : α → Bool} {l : List α} (h : ¬ idxM p l < 0) : ∃ (k : Nat) (b : α), idxM p l = (k : Int) ∧ l[k]? = some b ∧ p b = true ∧ (l.take k).any p = false := by
  rcases d2 p l with ⟨e, _⟩ | h2
  · omega
  · exact h2
theorem any_fst {p : List Int → Bool} {ts : List (List Int × Value)} : (ts.map Prod.fst).any p = ts.any (fun b => p b.1) := by rw [List.any_map]; rfl
theorem put_push {p : List Int → Bool} {ts : List (List Int × Value)} {x : Int} {v : Value} (h : ts.any (fun b => p b.1) = false) : putM p (ts.map Prod.fst) x = (ts ++ [([x], v)]).map Prod.fst := by
  rw [put_no (by rw [any_fst]; exact h), List.map_append]; rfl
theorem put_into {p : List Int → Bool} {ts : List (List Int × Value)} {x : Int} {q : Nat} {b : List Int × Value} {v : Value} (hb : ts[q]? = some b) (hp : p b.1 = true) (h : (ts.take q).any (fun b => p b.1) = false) : putM p (ts.map Prod.fst) x = (ts.set q (b.1 ++ [x], v)).map Prod.fst := by
  rw [put_at (k := q) (b := b.1) (by rw [← List.map_take, any_fst]; exact h) (by rw [List.getElem?_map, hb]; rfl) hp, List.map_set]
theorem d3 {ts : List (List Int × Value)} {x : Int} {v : Value} : (ts.map (sub id)) ++ [(v, [[Value.int .i64 x]])] = (ts ++ [([x], v)]).map (sub id) := by
  rw [List.map_append]; rfl
theorem push_g {ts : List (List Int × Value)} {x : Int} {v : Value} : ts.map gcell ++ [[v]] = (ts ++ [([x], v)]).map gcell := by
  rw [List.map_append]; rfl
theorem d4 {ts : List (List Int × Value)} {x : Int} {q : Nat} {b : List Int × Value} {v : Value} : (ts.map (sub id)).set q (v, b.1.map icell ++ [[Value.int .i64 x]]) = (ts.set q (b.1 ++ [x], v)).map (sub id) := by
  rw [List.map_set]; simp [sub, icell]
theorem into_g {ts : List (List Int × Value)} {x : Int} {q : Nat} {b : List Int × Value} {v : Value} : (ts.map gcell).set q [v] = (ts.set q (b.1 ++ [x], v)).map gcell := by
  rw [List.map_set]; rfl
theorem GE.know {P : Program} {ops : Array Oper} {Q : Exit → Act → World → Prop} {qs : List Nat} {n : Nat} {w0 : World} {HC : List Ch} {f : Nat} {listed : Array Bool} {fr : Fr} {H : List Ch} {p : Prop} (hp : ∀ w, HeapOk w0 w H → p) (h : p → GE P ops Q qs n w0 HC f listed fr H) : GE P ops Q qs n w0 HC f listed fr H := G.know hp h
theorem groups_any {ps : List PairM} {pv uv : Value} {l : List Int} (w : World) (h : Rd w pv 2 (ps.map PairM.cells)) (h2 : Rd w uv 1 (l.map icell)) (hasc : l.Pairwise (· < ·)) (hin : ∀ x ∈ l, 0 ≤ x ∧ x ≤ 3) (hn : l.length ≤ 4) :
    Fn Tryz.prog 98 [pv, uv] w (fun x : Value × List (List Int × Value) => x.1.oneCell' = true ∧ x.2.map Prod.fst = groupsM ps l) (fun x => x.1) (fun x => [.grp 3 1 (x.2.map (sub id)), .row x.1 52 1 (x.2.map gcell)]) := by
  have hln : (l.map icell).length = l.length := by simp
  have hov : pv.oneCell' = true := h.one_
  refine Fn.of (n := 42) Tryz.func98 rfl rfl ?_; refine G.seq (G.region ?_); refine G.op (bE rfl (bK (by assumption))) rfl (fun bk2 _ => ?_); refine G.v (bb rfl) rfl (G.I (G.E (G.seq (G.region ?_)))); refine G.op (bq rfl .nil rfl rfl rfl rfl rfl rfl) rfl (fun vl _ => ?_); refine G.v (bb rfl) rfl (G.I (G.E (G.seq (G.seq (G.region (G.v (ba rfl) rfl ?_)))))); refine G.op (bH rfl rfl (fun w hh => by have q := kinds_any (l := l) w (Rd.stays h2 _ hh) (by omega); rw [dd_sorted hasc] at q; exact q)) rfl ?_; rintro vk hvk; try dsimp only
  refine G.v (bz rfl (by exact Rd.ba 0 rfl)) rfl ?_; refine G.v (ba rfl) rfl (G.I (G.E (G.block ?_))); refine G.bm vl rfl ?_; refine G.heap (fun w hh => hh.nilGrp 3 1) ?_; refine G.Y (ι := Nat × List (List Int × Value) × Value) (ks := [2, 11, 12]) (fun x => [(5, x.2.2), (13, .int .i64 (x.1 : Int))]) (fun x => [.grp 3 1 (x.2.1.map (sub id)), .row x.2.2 52 1 (x.2.1.map gcell)]) (fun x => x.1 ≤ l.length ∧ x.2.1.map Prod.fst = groupsM ps (l.take x.1)) (fun x => l.length - x.1) (0, [], vl) (.cons rfl (.cons rfl (.cons rfl (.nil)))) rfl ?_ ?_ ?_
  exact ⟨Nat.zero_le _, rfl⟩
  exact ⟨rfl, rfl, trivial⟩
  rintro ⟨k, ts, v2⟩ ⟨hk, hM⟩
  dsimp only at hk hM ⊢
  have hl0 : (ts.map gcell).length = ts.length := (by simp)
  have htl : ts.length ≤ k := (by have := cQ (fun g x => joinsM ps g x) (l.take k); have e2 := congrArg List.length hM; rw [List.length_map] at e2; rw [groupsM] at e2; rw [List.length_take] at this; omega)
  by_cases hlt : k < l.length
  case' pos => (obtain ⟨x, hx⟩ := bn hlt; have he := bt hx icell; have hxr := hin x (List.mem_of_getElem? hx); have hxi : inB x 0 3 = true := (by simp only [inB, Bool.and_eq_true, decide_eq_true_eq]; omega))
  all_goals
   refine G.seq (G.region (G.v (br rfl rfl) rfl (G.I (G.E (G.seq ?_))))); refine G.cond rfl (fun hc => ?_) (fun hc => ?_)
   · all_goals
      replace hc := of_decide_eq_true hc
      simp only [List.length_map] at hc
      try (exfalso; omega)
      all_goals
       refine G.skip (G.E (G.seq (G.block (G.seq (G.region ?_))))); refine G.v (bg rfl rfl (by exact Rd.ba 2 rfl) rfl (by exact he)) rfl ?_; refine G.v (bi rfl (by exact Rd.ba 2 rfl) (by exact he) rfl) rfl ?_; refine G.op (bu) rfl (fun bk7 _ => ?_); refine G.bk (bL rfl rfl rfl rfl rfl rfl (.zero (.cons .nil))) (fun _ _ => ?_); refine G.I (G.E (G.seq (G.seq (G.region (G.v (bf 0 rfl rfl rfl) rfl ?_))))); refine G.op (bh rfl rfl (fun w _ => b5 _ _ _ w)) rfl (fun _ _ => ?_); refine G.v (bF rfl) rfl (G.I (G.E ?_)); refine G.cond rfl (fun hc => ?_) (fun hc => ?_)
       · all_goals
          all_goals
           exfalso; simp [hxi] at hc
       · all_goals
          all_goals
           refine G.skip (G.E (G.seq (G.region (G.v (ba rfl) rfl (G.v (bY rfl rfl) rfl ?_))))); refine G.op (bh rfl rfl (fun w hh => indexTbl_any (l := ts) (p := fun g => joinsM ps g x) w (by exact Rd.ba 2 rfl _ hh) (fun w' j b hw hb => groups1_any (ps := ps) (pv := pv) x w' (Rd.stays (Rd.stays h _ hh) w' hw) (Rd.stays (Subs.at (by exact Subs.owned 1 rfl _ hh) hb) w' hw) (Rd.stays (by exact Rd.bb 4 rfl (bB hov rfl) w hh) w' hw) (Rd.stays (by exact Rd.bb 0 rfl rfl w hh) w' hw)))) rfl (fun _ _ => ?_); refine G.v (bb rfl) rfl (G.I (G.E (G.seq (G.region (G.v (ba rfl) rfl (G.v (br rfl rfl) rfl (G.I (G.E ?_)))))))); refine G.cond rfl (fun hc => ?_) (fun hc => ?_)
           · all_goals
              replace hc := of_decide_eq_true hc
              all_goals
               have hno := idx_neg hc
               skip
               all_goals
                refine G.region (G.v (ba rfl) rfl (G.v (bf 0 rfl rfl rfl) rfl ?_)); refine G.op (bq rfl (.cons rfl .nil) rfl rfl rfl rfl rfl rfl) rfl (fun vl _ => ?_); refine G.know (fun w hw => (Rd.ba 0 rfl w hw).one_) (fun hovl => ?_); refine G.op (bq rfl (.cons (bK (by assumption)) .nil) (by simp only [List.all_cons, List.all_nil, Bool.and_true, Bool.and_eq_true]; exact ⟨rfl, by assumption⟩) rfl rfl rfl rfl rfl) rfl (fun vm _ => ?_); refine G.op (cZ rfl rfl rfl (by exact Rd.ba 0 rfl) rfl rfl (by (simp; omega)) (by (simp; omega))) rfl (fun va _ => ?_); refine G.bE _ rfl ?_; refine G.be vl rfl ?_; refine G.bF _ d3 rfl ?_; refine G.v (bb rfl) rfl (G.I (G.bc (G.E (G.region ?_)))); refine G.v (bp rfl rfl (by omega)) rfl ?_; refine G.v (ba rfl) rfl (G.I ?_); refine G.bi va rfl ?_; refine G.bA _ rfl ?_; refine G.bt 2 rfl ?_; refine G.V (k + 1, ts ++ [([x], vl)], va) 0 (by exact cG (congrArg (fun z => Ch.grp 3 1 z) rfl) (congrArg (fun z => Ch.row va 52 1 z) push_g)) (.cons rfl (.cons rfl (.cons rfl (.nil)))) ?_ ?_ ?_
                exact ⟨rfl, rfl, trivial⟩
                exact ⟨hlt, by rw [groupsM, dd hx, ← groupsM, ← hM]; exact (put_push (p := fun g => joinsM ps g x) hno).symm⟩
                dsimp only; omega
           · all_goals
              replace hc := of_decide_eq_false hc
              all_goals
               obtain ⟨q, b, hq, hqb, hpb, hbt⟩ := idx_pos hc
               have heq := bt hqb gcell
               have hgi : (ts.map (sub id))[q]? = some (b.2, b.1.map icell) := cn hqb
               have hbl : b.1.length ≤ k := (by have := (putAll_at (p := fun g x => joinsM ps g x) (l := l.take k) (q := q) (g := b.1) (by show (groupsM ps (l.take k))[q]? = _; rw [← hM, List.getElem?_map, hqb]; rfl)); rw [List.length_take] at this; omega)
               all_goals
                refine G.bA _ rfl ?_; refine G.bG [9, 10] rfl ?_; refine GE.Y 0 rfl (by as_aux_lemma => kernel_rfl) rfl (bc (ba rfl)) (fun _ h => by exact h.drop 1) rfl ?_; refine GE.Y 1 rfl (by as_aux_lemma => kernel_rfl) rfl (bc (ba rfl)) (fun _ h => by exact h.drop 1) rfl ?_; refine GE.Y 2 rfl (by as_aux_lemma => kernel_rfl) rfl (bc (ba rfl)) (fun _ h => by exact h.drop 1) rfl ?_; refine GE.Y 3 rfl (by as_aux_lemma => kernel_rfl) rfl (bc (ba rfl)) (fun _ h => by exact h.drop 1) rfl ?_; refine GE.Y 4 rfl (by as_aux_lemma => kernel_rfl) rfl (bc (bg (k := q) rfl rfl (by exact Rd.ba 1 rfl) (by omega) heq)) (fun _ h => by exact h.drop 1) rfl ?_; refine GE.Y 5 rfl (by as_aux_lemma => kernel_rfl) rfl (bc (bi rfl (by exact Rd.ba 1 rfl) (by exact heq) rfl)) (fun _ h => by exact h.drop 1) rfl ?_; refine GE.V 6 (by as_aux_lemma => kernel_rfl) rfl rfl (bd (bf 1 rfl rfl rfl)) rfl (fun _ _ h => by exact h.drop 1) (fun _ _ => ?_); refine GE.V 7 (by as_aux_lemma => kernel_rfl) rfl rfl (bq rfl (.cons rfl .nil) rfl rfl rfl rfl rfl rfl) rfl (fun _ _ h => by exact h.drop 2) (fun vl _ => ?_); refine GE.V 8 (by as_aux_lemma => kernel_rfl) rfl rfl (dh rfl rfl rfl hgi (by exact Rd.ba 0 rfl) rfl rfl (by (simp; omega)) (by (simp; omega))) rfl (fun _ _ h => by exact h.drop 2) (fun vb _ => ?_)
                skip; refine GE.know (fun w hw => (Rd.grp 1 rfl (List.mem_of_getElem? (bw hgi)) w hw).one_) (fun hova => ?_)
                refine GE.t 9 (by as_aux_lemma => kernel_rfl) rfl rfl rfl (bd (bg (k := q) rfl rfl (by exact Rd.ba 3 rfl) (by omega) heq)) rfl (fun _ _ => ?_); refine GE.U 10 (by as_aux_lemma => kernel_rfl) rfl rfl rfl (cD rfl rfl rfl (by exact heq) (bK (by assumption)) rfl (by repeat (first | rfl | refine bB (by assumption) ?_)) rfl (.zero (.cons .nil))) (fun _ _ => ?_); refine GE.E (by as_aux_lemma => kernel_rfl) ?_; refine G.bc (G.E (G.region ?_)); refine G.v (bp rfl rfl (by omega)) rfl ?_; refine G.v (ba rfl) rfl (G.I ?_); refine G.bi v2 rfl ?_; refine G.br _ rfl ?_; refine G.bt 2 rfl ?_; refine G.V (k + 1, ts.set q (b.1 ++ [x], vb), v2) 0 (by exact cG (congrArg (fun z => Ch.grp 3 1 z) d4) (congrArg (fun z => Ch.row v2 52 1 z) into_g)) (.cons rfl (.cons rfl (.cons rfl (.nil)))) ?_ ?_ ?_
                exact ⟨rfl, rfl, trivial⟩
                exact ⟨hlt, by rw [groupsM, dd hx, ← groupsM, ← hM]; exact (put_into (p := fun g => joinsM ps g x) hqb hpb hbt).symm⟩
                dsimp only; omega
   · all_goals
      replace hc := of_decide_eq_false hc
      simp only [List.length_map] at hc
      try (exfalso; omega)
      all_goals
       refine G.exit (G.L (G.L (G.bn (G.E (G.seq (G.region (G.v (ba rfl) rfl (G.v (bb rfl) rfl (G.I (G.E (G.ret ?_))))))))))); refine G.know (fun w hw => (Rd.ba 1 rfl w hw).one_) (fun hone => G.bg (v2, ts) ⟨hone, by rw [bZ (l := l) (by omega)] at hM; exact hM⟩ rfl rfl rfl (fun w hw => hw.sublist (by repeat (first | exact List.Sublist.refl _ | refine List.Sublist.cons_cons _ ?_ | refine List.Sublist.cons _ ?_))))
theorem below_yes {l : List Int} {n : Nat} (h : hasM l (n : Int) = true) : below l (n + 1) = below l n ++ [(n : Int)] := by rw [below_next, if_pos h]
theorem below_no {l : List Int} {n : Nat} (h : hasM l (n : Int) = false) : below l (n + 1) = below l n := by rw [below_next, if_neg (by rw [h]; decide), List.append_nil]
theorem sgroups_any {ps : List PairM} {pv uv : Value} {l : List Int} (w : World) (h : Rd w pv 2 (ps.map PairM.cells)) (h2 : Rd w uv 1 (l.map icell)) (hasc : l.Pairwise (· < ·)) (hin : ∀ x ∈ l, 0 ≤ x ∧ x ≤ 3) :
    Fn Tryz.prog 104 [pv, uv] w (fun x : Value × List (List Int × Value) => x.1.oneCell' = true ∧ x.2.map Prod.fst = groupsM ps l) (fun x => x.1) (fun x => [.grp 3 1 (x.2.map (sub id)), .row x.1 52 1 (x.2.map gcell)]) := by
  refine Fn.of (n := 51) Tryz.func104 rfl rfl ?_; refine G.seq (G.region (G.v (bb rfl) rfl (G.I (G.E (G.seq (G.region ?_)))))); refine G.op (bq rfl .nil rfl rfl rfl rfl rfl rfl) rfl (fun vl _ => ?_); refine G.v (bb rfl) rfl (G.I (G.E (G.seq (G.seq (G.region (G.v (bb rfl) rfl (G.I (G.E (G.block ?_))))))))); refine G.heap (fun w hh => hh.nilGrp 3 1) ?_; refine G.Y (ι := Nat × List (List Int × Value) × Value) (ks := [0, 1]) (fun x => [(5, x.2.2), (6, .int .i64 (x.1 : Int))]) (fun x => [.grp 3 1 (x.2.1.map (sub id)), .row x.2.2 52 1 (x.2.1.map gcell)]) (fun x => x.1 ≤ 4 ∧ x.2.1.map Prod.fst = groupsM ps (below l x.1)) (fun x => 4 - x.1) (0, [], vl) (.cons rfl (.cons rfl (.nil))) rfl ?_ ?_ ?_
  exact ⟨Nat.zero_le _, rfl⟩
  exact ⟨rfl, rfl, trivial⟩
  rintro ⟨c, ts, v2⟩ ⟨hk, hM⟩
  dsimp only at hk hM ⊢
  have hl0 : (ts.map gcell).length = ts.length := (by simp)
  have htl : ts.length ≤ 4 := (by have := cQ (fun g x => joinsM ps g x) (below l c); have e2 := congrArg List.length hM; rw [List.length_map] at e2; rw [groupsM] at e2; have := below_len l c; omega)
  refine G.seq (G.seq (G.region (G.v (ba rfl) rfl (G.v (br rfl rfl) rfl (G.I (G.E ?_)))))); refine G.bd rfl (fun hc => ?_) (fun hc => ?_); refine G.skip (G.E (G.seq (G.block (G.seq (G.seq (G.region (G.v (ba rfl) rfl (G.v (ba rfl) rfl ?_)))))))); refine G.op (bh rfl rfl (fun w hh => l1Has_any _ w (by exact Rd.stays (by assumption) _ hh))) rfl (fun _ _ => ?_); refine G.v (bF rfl) rfl (G.I (G.E ?_)); refine G.cond rfl (fun hc => ?_) (fun hc => ?_)
  have hh1 : hasM l (c : Int) = false := by simpa using hc
  refine G.exit (G.L (G.bn (G.E (G.region (G.v (ba rfl) rfl ?_))))); refine G.v (bp rfl rfl (by omega)) rfl ?_; refine G.v (bb rfl) rfl (G.I ?_); refine G.bm v2 rfl ?_; refine G.bA _ rfl ?_; refine G.bt 0 rfl ?_; refine G.V (c + 1, ts, v2) 0 (by rfl) (.cons rfl (.cons rfl (.nil))) ?_ ?_ ?_
  exact ⟨rfl, rfl, trivial⟩
  exact ⟨by omega, by rw [below_no hh1]; exact hM⟩
  dsimp only; omega
  · have hh1 : hasM l (c : Int) = true := by simpa using hc
    refine G.skip (G.E (G.seq (G.region (G.v (bb rfl) rfl (G.I (G.E (G.seq (G.seq (G.region (G.v (ba rfl) rfl ?_)))))))))); refine G.v (bz rfl (by exact Rd.ba 1 rfl)) rfl ?_; refine G.v (b8 rfl rfl (by omega) (by omega)) rfl ?_; refine G.v (bb rfl) rfl (G.I (G.E (G.block ?_))); refine G.Y (ι := Nat) (ks := [0, 1, 5, 6]) (fun k => [(7, .int .i64 (idxFrom (fun b => joinsM ps b.1 (c : Int)) ts k)), (8, .int .i64 ((k : Int) - 1))]) (fun _ => []) (fun k => k ≤ ts.length) (fun k => k) ts.length (.cons rfl (.cons rfl (.cons rfl (.cons rfl (.nil))))) rfl ?_ ?_ ?_
    exact Nat.le_refl _
    exact ⟨congrArg (fun z => some (Value.int .i64 z)) from_end.symm, congrArg (fun z : Nat => some (Value.int .i64 ((z : Int) - 1))) hl0, trivial⟩
    rintro k hk1
    rcases k with _ | k
    case' succ => (obtain ⟨b, hb⟩ := bn (l := ts) (k := k) (by omega); have heb := bt hb gcell)
    all_goals
     refine G.seq (G.seq (G.region (G.v (ba rfl) rfl (G.v (cu rfl rfl) rfl (G.I (G.E ?_)))))); refine G.cond rfl (fun hc => ?_) (fun hc => ?_)
     · try exact Bool.noConfusion hc
       all_goals
        replace hc := of_decide_eq_true hc
        all_goals
         refine G.skip (G.E (G.seq (G.block (G.seq (G.region (G.v (ba rfl) rfl (G.v (ba rfl) rfl (G.v (ba rfl) rfl ?_)))))))); refine G.v (bg (k := k) rfl rfl (by exact Rd.ba 1 rfl) (by omega) heb) rfl ?_; refine G.v (bi rfl (by exact Rd.ba 1 rfl) (by exact heb) rfl) rfl ?_; refine G.v (ba rfl) rfl ?_; refine G.op (bh rfl rfl (fun w hh => l3Joins_any (ps := ps) (l := b.1) _ w (Rd.stays h _ hh) (Subs.at (by exact Subs.owned 0 rfl _ hh) hb))) rfl (fun _ _ => ?_); refine G.I (G.E ?_); refine G.cond rfl (fun hc => ?_) (fun hc => ?_)
         · all_goals
            all_goals
             refine G.region (G.v (ba rfl) rfl (G.v (bb rfl) rfl (G.I (G.bc (G.E (G.region (G.v (ba rfl) rfl ?_))))))); refine G.v (b8 rfl rfl (by omega) (by omega)) rfl ?_; refine G.v (bb rfl) rfl (G.I ?_); refine G.V k 0 rfl (.cons rfl (.cons rfl (.cons rfl (.cons rfl (.nil))))) ?_ ?_ ?_
             exact ⟨congrArg (fun z => some (Value.int .i64 z)) ((show ((k + 1 : Nat) : Int) - 1 = (k : Int) by omega).trans (from_yes hb hc)), congrArg (fun z => some (Value.int .i64 z)) (show ((k + 1 : Nat) : Int) - 1 - 1 = (k : Int) - 1 by omega), trivial⟩
             omega
             omega
         · all_goals
            all_goals
             refine G.skip (G.bc (G.E (G.region (G.v (ba rfl) rfl ?_)))); refine G.v (b8 rfl rfl (by omega) (by omega)) rfl ?_; refine G.v (bb rfl) rfl (G.I ?_); refine G.V k 0 rfl (.cons rfl (.cons rfl (.cons rfl (.cons rfl (.nil))))) ?_ ?_ ?_
             exact ⟨congrArg (fun z => some (Value.int .i64 z)) (from_no hb hc), congrArg (fun z => some (Value.int .i64 z)) (show ((k + 1 : Nat) : Int) - 1 - 1 = (k : Int) - 1 by omega), trivial⟩
             omega
             omega
     · all_goals
        replace hc := of_decide_eq_false hc
        try (exfalso; omega)
        all_goals
         refine G.exit (G.L (G.L (G.bn (G.E (G.seq (G.region (G.v (ba rfl) rfl (G.v (br rfl rfl) rfl (G.I (G.E ?_)))))))))); refine G.cond rfl (fun hc => ?_) (fun hc => ?_)
         · all_goals
            replace hc := of_decide_eq_true hc
            all_goals
             rw [dE] at hc
             have hno := idx_neg hc
             all_goals
              refine G.region (G.v (ba rfl) rfl (G.v (ba rfl) rfl ?_)); refine G.op (bq rfl (.cons rfl .nil) rfl rfl rfl rfl rfl rfl) rfl (fun vl _ => ?_); refine G.know (fun w hw => (Rd.ba 0 rfl w hw).one_) (fun hovl => ?_); refine G.op (bq rfl (.cons (bK (by assumption)) .nil) (by simp only [List.all_cons, List.all_nil, Bool.and_true, Bool.and_eq_true]; exact ⟨rfl, by assumption⟩) rfl rfl rfl rfl rfl) rfl (fun vm _ => ?_); refine G.op (dt rfl rfl rfl (by exact Rd.ba 0 rfl) rfl rfl (by (simp; omega)) (by (simp; omega))) rfl (fun va _ => ?_); refine G.br _ rfl ?_; refine G.be vl rfl ?_; refine G.bF _ d3 rfl ?_; refine G.v (bb rfl) rfl (G.I (G.bc (G.E (G.region (G.v (ba rfl) rfl ?_))))); refine G.v (bp rfl rfl (by omega)) rfl ?_; refine G.v (bb rfl) rfl (G.I ?_); refine G.be va rfl ?_; refine G.bA _ rfl ?_; refine G.bt 1 rfl ?_; refine G.V (c + 1, ts ++ [([(c : Int)], vl)], va) 0 (by exact cG (congrArg (fun z => Ch.grp 3 1 z) rfl) (congrArg (fun z => Ch.row va 52 1 z) push_g)) (.cons rfl (.cons rfl (.nil))) ?_ ?_ ?_
              exact ⟨rfl, rfl, trivial⟩
              exact ⟨by omega, by rw [below_yes hh1, groupsM, putAll_snoc, ← groupsM, ← hM]; exact (put_push (p := fun g => joinsM ps g (c : Int)) hno).symm⟩
              dsimp only; omega
         · all_goals
            replace hc := of_decide_eq_false hc
            all_goals
             rw [dE] at hc
             obtain ⟨q, b, hq, hqb, hpb, hbt⟩ := idx_pos hc
             have hq2 := (dE (p := fun b => joinsM ps b.1 (c : Int)) (l := ts)).trans hq
             have heq := bt hqb gcell
             have hgi : (ts.map (sub id))[q]? = some (b.2, b.1.map icell) := cn hqb
             have hbl : b.1.length ≤ 4 := (by have := (putAll_at (p := fun g x => joinsM ps g x) (l := below l c) (q := q) (g := b.1) (by show (groupsM ps (below l c))[q]? = _; rw [← hM, List.getElem?_map, hqb]; rfl)); have := below_len l c; omega)
             all_goals
              refine G.region (G.v (ba rfl) rfl (G.v (ba rfl) rfl (G.v (ba rfl) rfl (G.v (ba rfl) rfl ?_)))); refine G.v (bg (k := q) rfl rfl (by exact Rd.ba 1 rfl) (by omega) heq) rfl ?_; refine G.v (bi rfl (by exact Rd.ba 1 rfl) (by exact heq) rfl) rfl ?_; refine G.v (ba rfl) rfl ?_; refine G.op (bq rfl (.cons rfl .nil) rfl rfl rfl rfl rfl rfl) rfl (fun vl _ => ?_); refine G.op (dh rfl rfl rfl hgi (by exact Rd.ba 0 rfl) rfl rfl (by (simp; omega)) (by (simp; omega))) rfl (fun vb _ => ?_)
              skip; refine G.know (fun w hw => (Rd.grp 1 rfl (List.mem_of_getElem? (bw hgi)) w hw).one_) (fun hova => ?_)
              refine G.v (bg (k := q) rfl rfl (by exact Rd.ba 2 rfl) (by omega) heq) rfl ?_; refine G.bk (cx rfl rfl rfl (by exact heq) (bK (by assumption)) rfl (by repeat (first | rfl | refine bB (by assumption) ?_)) rfl (.zero (.cons .nil))) (fun _ _ => ?_); refine G.I (G.bc (G.E (G.region (G.v (ba rfl) rfl ?_)))); refine G.v (bp rfl rfl (by omega)) rfl ?_; refine G.v (bb rfl) rfl (G.I ?_); refine G.be v2 rfl ?_; refine G.br _ rfl ?_; refine G.bt 1 rfl ?_; refine G.V (c + 1, ts.set q (b.1 ++ [(c : Int)], vb), v2) 0 (by exact cG (congrArg (fun z => Ch.grp 3 1 z) d4) (congrArg (fun z => Ch.row v2 52 1 z) into_g)) (.cons rfl (.cons rfl (.nil))) ?_ ?_ ?_
              exact ⟨rfl, rfl, trivial⟩
              exact ⟨by omega, by rw [below_yes hh1, groupsM, putAll_snoc, ← groupsM, ← hM]; exact (put_into (p := fun g => joinsM ps g (c : Int)) hqb hpb hbt).symm⟩
              dsimp only; omega
  refine G.exit (G.L (G.L (G.bn (G.E (G.seq (G.region (G.v (ba rfl) rfl (G.v (bb rfl) rfl (G.I (G.E (G.ret ?_))))))))))); refine G.know (fun w hw => (Rd.ba 1 rfl w hw).one_) (fun hone => G.bg (v2, ts) ⟨hone, by rw [show c = 4 by omega, below_all hasc hin] at hM; exact hM⟩ rfl rfl rfl (fun w hw => hw.sublist (by repeat (exact List.Sublist.refl _))))
def groupsOfM (r : ReqM) : List (List Int) := groupsM r.pairs (presI r)
theorem presI_no {r : ReqM} (h : ¬ classM r = 0) : presI r = [] := by rw [presI, presM, if_neg h]; rfl
theorem groupsOf_no {r : ReqM} (h : ¬ classM r = 0) : groupsOfM r = [] := by rw [groupsOfM, presI_no h]; rfl
section
variable {r : ReqM} {pv tv iv : Value} (w : World) (h : Rd w pv 2 (r.pairs.map PairM.cells)) (h2 : Rd w tv 7 (r.types.map TypeM.cells)) (h3 : Rd w iv 7 (r.items.map ItemM.cells))
include h h2 h3
theorem groupsOf_any : Fn Tryz.prog 42 [.agg (r.cells pv tv iv).toArray] w (fun x : Value × List (List Int × Value) => x.1.oneCell' = true ∧ x.2.map Prod.fst = groupsOfM r) (fun x => x.1) (fun x => [.grp 3 1 (x.2.map (sub id)), .row x.1 52 1 (x.2.map gcell)]) := by
  refine Fn.of (n := 11) Tryz.func42 rfl rfl ?_; refine G.seq (G.region ?_); refine G.op (bE rfl rfl) rfl (fun bk1 _ => ?_); refine G.v (bb rfl) rfl (G.I (G.E (G.seq (G.seq (G.region (G.v (bj 0 rfl rfl rfl) rfl ?_)))))); refine G.op (bh rfl rfl (fun w hh => dc (r := r) w (Rd.stays h _ hh) (Rd.stays h2 _ hh) (Rd.stays h3 _ hh))) rfl (fun _ _ => ?_); refine G.v (bF rfl) rfl (G.I (G.E ?_)); refine G.cond rfl (fun hc => ?_) (fun hc => ?_); refine G.seq (G.region (G.v (bb rfl) rfl (G.I (G.E (G.ret (G.O ?_))))))
  exact G.bg (.slice none 0 0, []) ⟨rfl, (groupsOf_no (by exact of_decide_eq_false (by simpa using hc))).symm⟩ rfl rfl rfl (fun w hw => (hw.none.nilRow _ _).nilGrp _ _)
  refine G.skip (G.E (G.seq ?_)); refine G.ba [5] ?_; refine GE.q 0 rfl (by as_aux_lemma => kernel_rfl) rfl (bc (be rfl)) rfl ?_; refine GE.q 1 rfl (by as_aux_lemma => kernel_rfl) rfl (bc (bf 0 rfl rfl rfl)) rfl ?_; refine GE.V 2 (by as_aux_lemma => kernel_rfl) rfl rfl (bd (bj 0 rfl rfl rfl)) rfl (fun _ _ h => by exact h) (fun _ _ => ?_); refine GE.V 3 (by as_aux_lemma => kernel_rfl) rfl rfl (bH rfl rfl (fun w hh => present_any (r := r) w (Rd.stays h _ hh) (Rd.stays h2 _ hh) (Rd.stays h3 _ hh))) rfl (fun _ _ h => by exact h.drop 1) ?_; rintro vk hvk; try dsimp only
  refine GE.V 4 (by as_aux_lemma => kernel_rfl) rfl rfl (bX rfl rfl (fun w hh => groups_any (ps := r.pairs) (l := presI r) w (Rd.stays h _ hh) (by rw [← presI_cells]; exact Rd.ba 0 rfl _ hh) (presI_asc r) (fun x hx => presI_in hx) (presI_len r))) rfl (fun _ _ h => by exact h.drop 3) ?_; rintro ⟨vo, os⟩ ⟨hvo, hos⟩; try dsimp only
  refine GE.t 5 (by as_aux_lemma => kernel_rfl) rfl rfl rfl (bd (bb rfl)) rfl (fun _ _ => ?_); refine GE.E (by as_aux_lemma => kernel_rfl) ?_; refine G.E (G.ret ?_)
  exact G.bg (vo, os) ⟨hvo, hos⟩ rfl rfl rfl (fun w hw => hw.sublist (by repeat (first | exact List.Sublist.refl _ | refine List.Sublist.cons_cons _ ?_ | refine List.Sublist.cons _ ?_)))
theorem sgroupsOf_any : Fn Tryz.prog 48 [.agg (r.cells pv tv iv).toArray] w (fun x : Value × List (List Int × Value) => x.1.oneCell' = true ∧ x.2.map Prod.fst = groupsOfM r) (fun x => x.1) (fun x => [.grp 3 1 (x.2.map (sub id)), .row x.1 52 1 (x.2.map gcell)]) := by
  refine Fn.of (n := 8) Tryz.func48 rfl rfl ?_; refine G.seq (G.region ?_); refine G.op (bE rfl rfl) rfl (fun bk1 _ => ?_); refine G.v (bb rfl) rfl (G.I (G.E (G.seq ?_))); refine G.ba [5] ?_; refine GE.q 0 rfl (by as_aux_lemma => kernel_rfl) rfl (bc (be rfl)) rfl ?_; refine GE.q 1 rfl (by as_aux_lemma => kernel_rfl) rfl (bc (bf 0 rfl rfl rfl)) rfl ?_; refine GE.V 2 (by as_aux_lemma => kernel_rfl) rfl rfl (bd (bj 0 rfl rfl rfl)) rfl (fun _ _ h => by exact h) (fun _ _ => ?_); refine GE.V 3 (by as_aux_lemma => kernel_rfl) rfl rfl (bH rfl rfl (fun w hh => spresent_any (r := r) w (Rd.stays h _ hh) (Rd.stays h2 _ hh) (Rd.stays h3 _ hh))) rfl (fun _ _ h => by exact h.drop 1) ?_; rintro vk hvk; try dsimp only
  refine GE.V 4 (by as_aux_lemma => kernel_rfl) rfl rfl (bX rfl rfl (fun w hh => sgroups_any (ps := r.pairs) (l := presI r) w (Rd.stays h _ hh) (by rw [← presI_cells]; exact Rd.ba 0 rfl _ hh) (presI_asc r) (fun x hx => presI_in hx))) rfl (fun _ _ h => by exact h.drop 3) ?_; rintro ⟨vo, os⟩ ⟨hvo, hos⟩; try dsimp only
  refine GE.t 5 (by as_aux_lemma => kernel_rfl) rfl rfl rfl (bd (bb rfl)) rfl (fun _ _ => ?_); refine GE.E (by as_aux_lemma => kernel_rfl) ?_; refine G.E (G.ret ?_)
  exact G.bg (vo, os) ⟨hvo, hos⟩ rfl rfl rfl (fun w hw => hw.sublist (by repeat (first | exact List.Sublist.refl _ | refine List.Sublist.cons_cons _ ?_ | refine List.Sublist.cons _ ?_)))
end
def clsAt (r : ReqM) (i : Nat) : Int := ((r.items[i]?).getD itemZ).cls
/-- The places of those units that a group holds. -/
def unitsIn (r : ReqM) (g : List Int) (l : List Nat) : List Nat := (l.zipIdx.filter (fun p => hasM g (clsAt r p.1))).map Prod.snd
theorem in_next {r : ReqM} {g : List Int} {l : List Nat} {k i : Nat} (hb : l[k]? = some i) : unitsIn r g (l.take (k + 1)) = unitsIn r g (l.take k) ++ (if hasM g (clsAt r i) then [k] else []) := by
  have hk := (List.getElem?_eq_some_iff.1 hb).1
  simp only [unitsIn, List.take_add_one, hb, Option.toList_some, List.zipIdx_append, List.filter_append, List.map_append, List.length_take]
  rw [Nat.min_eq_left (by omega)]
  cases h : hasM g (clsAt r i) <;> simp [h]
theorem in_yes {r : ReqM} {g : List Int} {l : List Nat} {k i : Nat} {x : ItemM} (hb : l[k]? = some i) (hx : r.items[i]? = some x) (h : hasM g x.cls = true) : (unitsIn r g (l.take k)).map ncell ++ [[.int .i64 (k : Int)]] = (unitsIn r g (l.take (k + 1))).map ncell := by
  rw [in_next hb, clsAt, hx, show (some x).getD itemZ = x from rfl, if_pos h, List.map_append]; rfl
theorem in_no {r : ReqM} {g : List Int} {l : List Nat} {k i : Nat} {x : ItemM} (hb : l[k]? = some i) (hx : r.items[i]? = some x) (h : hasM g x.cls = false) : (unitsIn r g (l.take k)).map ncell = (unitsIn r g (l.take (k + 1))).map ncell := by
  rw [in_next hb, clsAt, hx, if_neg (by rw [show (some x).getD itemZ = x from rfl, h]; decide), List.append_nil]
theorem in_len (r : ReqM) (g : List Int) (l : List Nat) : (unitsIn r g l).length ≤ l.length := by
  rw [unitsIn, List.length_map]
  have := List.length_filter_le (fun p : Nat × Nat => hasM g (clsAt r p.1)) l.zipIdx
  rwa [List.length_zipIdx] at this
/-- The units of a group of an order. -/
def unitsOfM (r : ReqM) (k : Int) : List Nat := if inB k 0 (((groupsOfM r).length : Int) - 1) then unitsIn r ((groupsOfM r).getD k.toNat []) (unitsM r) else []
theorem unitsOf_yes {r : ReqM} {ts : List (List Int × Value)} {m : Nat} {b : List Int × Value} (hM : ts.map Prod.fst = groupsOfM r) (hb : ts[m]? = some b) : unitsOfM r (m : Int) = unitsIn r b.1 (unitsM r) := by
  have hm := (List.getElem?_eq_some_iff.1 hb).1
  have e : (groupsOfM r)[m]? = some b.1 := by rw [← hM, List.getElem?_map, hb]; rfl
  have e2 : (groupsOfM r).length = ts.length := by rw [← hM, List.length_map]
  rw [unitsOfM, if_pos (by simp only [inB, Bool.and_eq_true, decide_eq_true_eq]; omega), Int.toNat_natCast, List.getD_eq_getElem?_getD, e]; rfl
theorem unitsOf_no {r : ReqM} {ts : List (List Int × Value)} {k : Int} (hM : ts.map Prod.fst = groupsOfM r) (h : inB k 0 (((ts.map gcell).length : Int) - 1) = false) : unitsOfM r k = [] := by
  have e2 : (ts.map gcell).length = (groupsOfM r).length := by rw [← hM]; simp
  rw [unitsOfM, ← e2, h]; rfl
theorem group_in {ts : List (List Int × Value)} {k : Int} (h : inB k 0 (((ts.map gcell).length : Int) - 1) = true) : ∃ (m : Nat) (b : List Int × Value), k = m ∧ ts[m]? = some b := by
  simp only [inB, Bool.and_eq_true, decide_eq_true_eq, List.length_map] at h
  obtain ⟨m, rfl⟩ : ∃ m : Nat, k = m := ⟨k.toNat, by omega⟩
  obtain ⟨b, hb⟩ := bn (l := ts) (k := m) (by omega)
  exact ⟨m, b, rfl, hb⟩
theorem group_sound {r : ReqM} {ts : List (List Int × Value)} {m : Nat} {b : List Int × Value} (hM : ts.map Prod.fst = groupsOfM r) (hb : ts[m]? = some b) : classM r = 0 := by
  rcases Classical.em (classM r = 0) with h | h
  · exact h
  · have e := congrArg List.length hM
    rw [groupsOf_no h, List.length_map] at e
    have hm := (List.getElem?_eq_some_iff.1 hb).1
    simp at e; simp [e] at hm
section
variable {r : ReqM} {pv tv iv : Value} (w : World) (h : Rd w pv 2 (r.pairs.map PairM.cells)) (h2 : Rd w tv 7 (r.types.map TypeM.cells)) (h3 : Rd w iv 7 (r.items.map ItemM.cells))
include h h2 h3
theorem unitsOf_any (z : Int) : Fn Tryz.prog 71 [.agg (r.cells pv tv iv).toArray, .int .i64 z] w (fun v : Value => v.oneCell' = true) (fun v => v) (fun v => [.row v 3 1 ((unitsOfM r z).map ncell)]) := by
  have hun := c6 r
  have hun2 : ((unitsM r).map ncell).length = (unitsM r).length := by simp
  refine Fn.of (n := 43) Tryz.func71 rfl rfl ?_; refine G.seq (G.region ?_); refine G.op (bE rfl rfl) rfl (fun bk2 _ => ?_); refine G.v (bb rfl) rfl (G.I (G.E (G.seq (G.region (G.v (bj 0 rfl rfl rfl) rfl ?_))))); refine G.op (bX rfl rfl (fun w hh => groupsOf_any (r := r) w (Rd.stays h _ hh) (Rd.stays h2 _ hh) (Rd.stays h3 _ hh))) rfl ?_; rintro ⟨vo, ts⟩ ⟨hvo, hts⟩; try dsimp only
  have hgl : (ts.map gcell).length ≤ 4 := by (have e := congrArg List.length hts; have := cQ (fun g x => joinsM r.pairs g x) (presI r); have h4 := presI_len r; simp only [List.length_map, groupsOfM, groupsM] at e ⊢; omega)
  refine G.v (bb rfl) rfl (G.I (G.E (G.seq (G.seq (G.region (G.v (ba rfl) rfl (G.v (ba rfl) rfl ?_))))))); refine G.v (bz rfl (by exact Rd.ba 1 rfl)) rfl ?_; refine G.v (b8 rfl rfl (by omega) (by omega)) rfl ?_; refine G.op (bh rfl rfl (fun w _ => b5 _ _ _ w)) rfl (fun _ _ => ?_); refine G.v (bF rfl) rfl (G.I (G.E ?_)); refine G.cond rfl (fun hc => ?_) (fun hc => ?_)
  have hno : inB z 0 (((ts.map gcell).length : Int) - 1) = false := by simpa using hc
  refine G.seq (G.region (G.v (bb rfl) rfl (G.I (G.E (G.ret (G.O ?_))))))
  exact G.bg (.slice none 0 0) rfl rfl rfl rfl (fun w hw => by rw [unitsOf_no hts hno]; exact (hw.none).nilRow _ _)
  · obtain ⟨m, g, rfl, hmg⟩ := group_in (by simpa using hc : inB z 0 (((ts.map gcell).length : Int) - 1) = true)
    have heg := bt hmg gcell
    refine G.skip (G.E (G.seq (G.region ?_))); refine G.op (bq rfl .nil rfl rfl rfl rfl rfl rfl) rfl (fun vl _ => ?_); refine G.v (bb rfl) rfl (G.I (G.E (G.seq (G.seq (G.region (G.v (bj 3 rfl rfl rfl) rfl ?_)))))); refine G.op (bH rfl rfl (fun w hh => units_any (r := r) w (Rd.stays h _ hh) (Rd.stays h2 _ hh) (Rd.stays h3 _ hh))) rfl ?_; rintro vu hvu; try dsimp only
    refine G.v (bz rfl (by exact Rd.ba 0 rfl)) rfl ?_; refine G.v (ba rfl) rfl (G.I (G.E (G.block ?_))); refine G.bm vl rfl ?_; refine G.Y (ι := Nat × Value) (ks := [1, 2, 5, 19, 20]) (fun x => [(6, x.2), (21, .int .i64 (x.1 : Int))]) (fun x => [.row x.2 3 1 ((unitsIn r g.1 ((unitsM r).take x.1)).map ncell)]) (fun x => x.1 ≤ (unitsM r).length) (fun x => (unitsM r).length - x.1) (0, vl) (.cons rfl (.cons rfl (.cons rfl (.cons rfl (.cons rfl (.nil)))))) rfl ?_ ?_ ?_
    exact Nat.zero_le _
    exact ⟨rfl, rfl, trivial⟩
    rintro ⟨k, v⟩ hk
    dsimp only at hk ⊢
    have hil := in_len r g.1 ((unitsM r).take k)
    have hil2 : ((unitsIn r g.1 ((unitsM r).take k)).map ncell).length = (unitsIn r g.1 ((unitsM r).take k)).length := by simp
    rw [List.length_take] at hil
    by_cases hlt : k < (unitsM r).length
    case' pos => (obtain ⟨i, hb⟩ := bn hlt; have e1 := bt hb ncell; obtain ⟨x, hx⟩ := bn (unitsM_lt i (List.mem_of_getElem? hb)); have e3 := bt hx ItemM.cells)
    all_goals
     refine G.seq (G.region (G.v (br rfl rfl) rfl (G.I (G.E (G.seq ?_))))); refine G.cond rfl (fun hc => ?_) (fun hc => ?_)
     · all_goals
        replace hc := of_decide_eq_true hc
        simp only [hun2] at hc
        try (exfalso; omega)
        all_goals
         refine G.skip (G.E (G.seq (G.block (G.seq (G.region (G.v (ba rfl) rfl ?_)))))); refine G.v (bg rfl rfl (by exact Rd.ba 1 rfl) rfl (by exact e1)) rfl ?_; refine G.v (bi rfl (by exact Rd.ba 1 rfl) (by exact e1) rfl) rfl ?_; refine G.v (bb rfl) rfl (G.v (bb rfl) rfl (G.I (G.E (G.seq ?_)))); refine G.ba [] ?_; refine GE.q 0 rfl (by as_aux_lemma => kernel_rfl) rfl (bc (ba rfl)) rfl ?_; refine GE.q 1 rfl (by as_aux_lemma => kernel_rfl) rfl (bc (ba rfl)) rfl ?_; refine GE.q 2 rfl (by as_aux_lemma => kernel_rfl) rfl (bc (bg rfl rfl (by exact Rd.ba 3 rfl) rfl (by exact heg))) rfl ?_; refine GE.q 3 rfl (by as_aux_lemma => kernel_rfl) rfl (bc (bi rfl (by exact Rd.ba 3 rfl) (by exact heg) rfl)) rfl ?_; refine GE.q 4 rfl (by as_aux_lemma => kernel_rfl) rfl (bc (be rfl)) rfl ?_; refine GE.q 5 rfl (by as_aux_lemma => kernel_rfl) rfl (bc (bf 4 rfl rfl rfl)) rfl ?_; refine GE.V 6 (by as_aux_lemma => kernel_rfl) rfl rfl (bd (ba rfl)) rfl (fun _ _ h => by exact h) (fun _ _ => ?_); refine GE.V 7 (by as_aux_lemma => kernel_rfl) rfl rfl (bd (bg rfl rfl (by exact Rd.stays (by assumption)) rfl (by exact e3))) rfl (fun _ _ h => by exact h) (fun _ _ => ?_)
         refine GE.V 8 (by as_aux_lemma => kernel_rfl) rfl rfl (bd (bo rfl)) rfl (fun _ _ h => by exact h) (fun _ _ => ?_); refine GE.V 9 (by as_aux_lemma => kernel_rfl) rfl rfl (bd (bi rfl (by exact Rd.stays (by assumption)) (by exact e3) rfl)) rfl (fun _ _ h => by exact h) (fun _ _ => ?_); refine GE.V 10 (by as_aux_lemma => kernel_rfl) rfl rfl (bh rfl rfl (fun w hh => hasInt_any (l := g.1) x.cls w (Subs.at (by exact Subs.owned 2 rfl _ hh) hmg))) rfl (fun _ _ h => by exact h) (fun _ _ => ?_); refine GE.E (by as_aux_lemma => kernel_rfl) ?_; refine G.E ?_; refine G.cond rfl (fun hc => ?_) (fun hc => ?_)
         · all_goals
            all_goals
             refine G.region (G.v (ba rfl) rfl (G.v (ba rfl) rfl ?_)); refine G.op (bq rfl (.cons rfl .nil) rfl rfl rfl rfl rfl rfl) rfl (fun vx _ => ?_); refine G.op (bU rfl rfl rfl (by exact Rd.ba 0 rfl) rfl rfl (by (simp; omega)) (by (simp; omega))) rfl (fun va _ => ?_); refine G.v (bb rfl) rfl (G.I (G.bc (G.E (G.region ?_)))); refine G.v (bp rfl rfl (by omega)) rfl ?_; refine G.v (ba rfl) rfl (G.I ?_); refine G.V (k + 1, va) 1 (by exact bV (congrArg (fun z => Ch.row va 3 1 z) (in_yes hb hx hc))) (.cons rfl (.cons rfl (.cons rfl (.cons rfl (.cons rfl (.nil)))))) (⟨rfl, rfl, trivial⟩) ?_ ?_
             exact hlt
             dsimp only; omega
         · all_goals
            all_goals
             refine G.skip (G.bc (G.E (G.region ?_))); refine G.v (bp rfl rfl (by omega)) rfl ?_; refine G.v (ba rfl) rfl (G.I ?_); refine G.V (k + 1, v) 0 (by exact bV (congrArg (fun z => Ch.row v 3 1 z) (in_no hb hx hc))) (.cons rfl (.cons rfl (.cons rfl (.cons rfl (.cons rfl (.nil)))))) (⟨rfl, rfl, trivial⟩) ?_ ?_
             exact hlt
             dsimp only; omega
     · all_goals
        replace hc := of_decide_eq_false hc
        simp only [hun2] at hc
        try (exfalso; omega)
        all_goals
         refine G.exit (G.L (G.L (G.bn (G.E (G.seq (G.region (G.v (ba rfl) rfl (G.v (bb rfl) rfl (G.I (G.E (G.ret ?_))))))))))); refine G.know (fun w hw => (Rd.ba 0 rfl w hw).one_) (fun hone => G.bg v hone rfl rfl rfl (fun w hw => by rw [bZ (l := unitsM r) (by omega), ← unitsOf_yes hts hmg] at hw; exact hw.sublist (by repeat (first | exact List.Sublist.refl _ | refine List.Sublist.cons_cons _ ?_ | refine List.Sublist.cons _ ?_)))); done
theorem sunitsOf_any (z : Int) : Fn Tryz.prog 74 [.agg (r.cells pv tv iv).toArray, .int .i64 z] w (fun v : Value => v.oneCell' = true) (fun v => v) (fun v => [.row v 3 1 ((unitsOfM r z).map ncell)]) := by
  have hun := c6 r
  have hun2 : ((unitsM r).map ncell).length = (unitsM r).length := by simp
  refine Fn.of (n := 46) Tryz.func74 rfl rfl ?_; refine G.seq (G.region ?_); refine G.op (bE rfl rfl) rfl (fun bk2 _ => ?_); refine G.v (bb rfl) rfl (G.I (G.E (G.seq (G.region ?_)))); refine G.op (bq rfl .nil rfl rfl rfl rfl rfl rfl) rfl (fun vl _ => ?_); refine G.v (bb rfl) rfl (G.I (G.E (G.seq (G.region (G.v (bj 1 rfl rfl rfl) rfl ?_))))); refine G.op (bX rfl rfl (fun w hh => sgroupsOf_any (r := r) w (Rd.stays h _ hh) (Rd.stays h2 _ hh) (Rd.stays h3 _ hh))) rfl ?_; rintro ⟨vo, ts⟩ ⟨hvo, hts⟩; try dsimp only
  have hgl : (ts.map gcell).length ≤ 4 := by (have e := congrArg List.length hts; have := cQ (fun g x => joinsM r.pairs g x) (presI r); have h4 := presI_len r; simp only [List.length_map, groupsOfM, groupsM] at e ⊢; omega)
  refine G.v (bb rfl) rfl (G.I (G.E (G.seq (G.seq (G.region (G.v (ba rfl) rfl (G.v (ba rfl) rfl ?_))))))); refine G.v (bz rfl (by exact Rd.ba 1 rfl)) rfl ?_; refine G.v (b8 rfl rfl (by omega) (by omega)) rfl ?_; refine G.op (bh rfl rfl (fun w _ => b7 _ _ _ w)) rfl (fun _ _ => ?_); refine G.v (bF rfl) rfl (G.I (G.E ?_)); refine G.cond rfl (fun hc => ?_) (fun hc => ?_)
  have hno : inB z 0 (((ts.map gcell).length : Int) - 1) = false := by simpa using hc
  refine G.seq (G.region (G.v (ba rfl) rfl (G.v (bb rfl) rfl (G.I (G.E (G.ret (G.O ?_)))))))
  (refine G.be vl rfl ?_); refine G.know (fun w hw => (Rd.ba 0 rfl w hw).one_) (fun hone => G.bg vl hone rfl rfl rfl (fun w hw => by rw [unitsOf_no hts hno]; exact hw.sublist (by repeat (first | exact List.Sublist.refl _ | refine List.Sublist.cons_cons _ ?_ | refine List.Sublist.cons _ ?_))))
  · obtain ⟨m, g, rfl, hmg⟩ := group_in (by simpa using hc : inB z 0 (((ts.map gcell).length : Int) - 1) = true)
    have heg := bt hmg gcell
    have hyes := group_sound hts hmg
    refine G.skip (G.E (G.seq (G.region (G.v (bj 3 rfl rfl rfl) rfl ?_)))); refine G.op (bH rfl rfl (fun w hh => by have q := cK (r := r) (pv := pv) (tv := tv) w (b9 (bR hyes)) (cr (bR hyes)).1 (Rd.stays h3 _ hh); rw [← cw hyes] at q; exact q)) rfl ?_; rintro vu hvu; try dsimp only
    refine G.v (bb rfl) rfl (G.I (G.E (G.seq (G.seq (G.region (G.v (bb rfl) rfl (G.I (G.E (G.block ?_))))))))); refine G.bi vl rfl ?_; refine G.Y (ι := Nat × Value) (ks := [1, 2, 6, 7]) (fun x => [(5, x.2), (8, .int .i64 (x.1 : Int))]) (fun x => [.row x.2 3 1 ((unitsIn r g.1 ((unitsM r).take x.1)).map ncell)]) (fun x => x.1 ≤ (unitsM r).length) (fun x => (unitsM r).length - x.1) (0, vl) (.cons rfl (.cons rfl (.cons rfl (.cons rfl (.nil))))) rfl ?_ ?_ ?_
    exact Nat.zero_le _
    exact ⟨rfl, rfl, trivial⟩
    rintro ⟨k, v⟩ hk
    dsimp only at hk ⊢
    have hil := in_len r g.1 ((unitsM r).take k)
    have hil2 : ((unitsIn r g.1 ((unitsM r).take k)).map ncell).length = (unitsIn r g.1 ((unitsM r).take k)).length := by simp
    rw [List.length_take] at hil
    by_cases hlt : k < (unitsM r).length
    case' pos => (obtain ⟨i, hb⟩ := bn hlt; have e1 := bt hb ncell; obtain ⟨x, hx⟩ := bn (unitsM_lt i (List.mem_of_getElem? hb)); have e3 := bt hx ItemM.cells)
    all_goals
     refine G.seq (G.seq (G.region (G.v (ba rfl) rfl (G.v (ba rfl) rfl ?_)))); refine G.v (bz rfl (by exact Rd.ba 1 rfl)) rfl ?_; refine G.v (br rfl rfl) rfl (G.I (G.E ?_)); refine G.cond rfl (fun hc => ?_) (fun hc => ?_)
     · all_goals
        replace hc := of_decide_eq_true hc
        simp only [hun2] at hc
        try (exfalso; omega)
        all_goals
         refine G.skip (G.E (G.seq (G.block (G.seq ?_)))); refine G.ba [] ?_; refine GE.q 0 rfl (by as_aux_lemma => kernel_rfl) rfl (bc (ba rfl)) rfl ?_; refine GE.q 1 rfl (by as_aux_lemma => kernel_rfl) rfl (bc (ba rfl)) rfl ?_; refine GE.q 2 rfl (by as_aux_lemma => kernel_rfl) rfl (bc (bg rfl rfl (by exact Rd.ba 3 rfl) rfl (by exact heg))) rfl ?_; refine GE.q 3 rfl (by as_aux_lemma => kernel_rfl) rfl (bc (bi rfl (by exact Rd.ba 3 rfl) (by exact heg) rfl)) rfl ?_; refine GE.q 4 rfl (by as_aux_lemma => kernel_rfl) rfl (bc (be rfl)) rfl ?_; refine GE.q 5 rfl (by as_aux_lemma => kernel_rfl) rfl (bc (bf 4 rfl rfl rfl)) rfl ?_; refine GE.q 6 rfl (by as_aux_lemma => kernel_rfl) rfl (bc (ba rfl)) rfl ?_; refine GE.V 7 (by as_aux_lemma => kernel_rfl) rfl rfl (bd (ba rfl)) rfl (fun _ _ h => by exact h) (fun _ _ => ?_); refine GE.V 8 (by as_aux_lemma => kernel_rfl) rfl rfl (bd (bg rfl rfl (by exact Rd.ba 1 rfl) rfl (by exact e1))) rfl (fun _ _ h => by exact h) (fun _ _ => ?_); refine GE.V 9 (by as_aux_lemma => kernel_rfl) rfl rfl (bd (bi rfl (by exact Rd.ba 1 rfl) (by exact e1) rfl)) rfl (fun _ _ h => by exact h) (fun _ _ => ?_); refine GE.V 10 (by as_aux_lemma => kernel_rfl) rfl rfl (bd (bg rfl rfl (by exact Rd.stays (by assumption)) rfl (by exact e3))) rfl (fun _ _ h => by exact h) (fun _ _ => ?_)
         refine GE.V 11 (by as_aux_lemma => kernel_rfl) rfl rfl (bd (bo rfl)) rfl (fun _ _ h => by exact h) (fun _ _ => ?_); refine GE.V 12 (by as_aux_lemma => kernel_rfl) rfl rfl (bd (bi rfl (by exact Rd.stays (by assumption)) (by exact e3) rfl)) rfl (fun _ _ h => by exact h) (fun _ _ => ?_); refine GE.V 13 (by as_aux_lemma => kernel_rfl) rfl rfl (bh rfl rfl (fun w hh => l1Has_any (l := g.1) x.cls w (Subs.at (by exact Subs.owned 2 rfl _ hh) hmg))) rfl (fun _ _ h => by exact h) (fun _ _ => ?_); refine GE.E (by as_aux_lemma => kernel_rfl) ?_; refine G.E ?_; refine G.cond rfl (fun hc => ?_) (fun hc => ?_)
         · all_goals
            all_goals
             refine G.region (G.v (ba rfl) rfl (G.v (ba rfl) rfl ?_)); refine G.op (bq rfl (.cons rfl .nil) rfl rfl rfl rfl rfl rfl) rfl (fun vx _ => ?_); refine G.op (bU rfl rfl rfl (by exact Rd.ba 0 rfl) rfl rfl (by (simp; omega)) (by (simp; omega))) rfl (fun va _ => ?_); refine G.v (bb rfl) rfl (G.I (G.bc (G.E (G.region (G.v (ba rfl) rfl ?_))))); refine G.v (bp rfl rfl (by omega)) rfl ?_; refine G.v (bb rfl) rfl (G.I ?_); refine G.V (k + 1, va) 1 (by exact bV (congrArg (fun z => Ch.row va 3 1 z) (in_yes hb hx hc))) (.cons rfl (.cons rfl (.cons rfl (.cons rfl (.nil))))) (⟨rfl, rfl, trivial⟩) ?_ ?_
             exact hlt
             dsimp only; omega
         · all_goals
            all_goals
             refine G.skip (G.bc (G.E (G.region (G.v (ba rfl) rfl ?_)))); refine G.v (bp rfl rfl (by omega)) rfl ?_; refine G.v (bb rfl) rfl (G.I ?_); refine G.V (k + 1, v) 0 (by exact bV (congrArg (fun z => Ch.row v 3 1 z) (in_no hb hx hc))) (.cons rfl (.cons rfl (.cons rfl (.cons rfl (.nil))))) (⟨rfl, rfl, trivial⟩) ?_ ?_
             exact hlt
             dsimp only; omega
     · all_goals
        replace hc := of_decide_eq_false hc
        simp only [hun2] at hc
        try (exfalso; omega)
        all_goals
         refine G.exit (G.L (G.L (G.bn (G.E (G.seq (G.region (G.v (ba rfl) rfl (G.v (bb rfl) rfl (G.I (G.E (G.ret ?_))))))))))); refine G.know (fun w hw => (Rd.ba 0 rfl w hw).one_) (fun hone => G.bg v hone rfl rfl rfl (fun w hw => by rw [bZ (l := unitsM r) (by omega), ← unitsOf_yes hts hmg] at hw; exact hw.sublist (by repeat (first | exact List.Sublist.refl _ | refine List.Sublist.cons_cons _ ?_ | refine List.Sublist.cons _ ?_)))); done
end
theorem unitsOf_len (r : ReqM) (z : Int) : (unitsOfM r z).length ≤ 48 := by
  rw [unitsOfM]
  split
  · have h1 := in_len r ((groupsOfM r).getD z.toNat []) (unitsM r)
    have h2 := c6 r
    omega
  · simp
theorem ncell_eq (l : List Nat) : l.map ncell = (l.map (fun n : Nat => (n : Int))).map icell := by rw [List.map_map]; rfl
end Go.Proofs.YtglpgohilfoecaaGreat

/-
  Boxes that are put on shelves, the deepest first: no program is in sight here.
-/
namespace Go.Proofs.YtglpgohilfoecaaGreat
open Go.RowKit
def keyM (ks : List Int) (i : Nat) : Int := -(ks.getD i 0)
theorem keyM_get {ks : List Int} {i : Nat} {k : Int} (h : ks[i]? = some k) : keyM ks i = -k := by simp [keyM, List.getD_eq_getElem?_getD, h]
def shelfRoom (p : PalletM) (t : ShelfM) (b : BoxM) : Bool := decide (t.w + b.w ≤ p.w) && decide (t.g + b.g ≤ p.g)
def shelfAdd (t : ShelfM) (k : Nat) (b : BoxM) : ShelfM := ⟨t.l ++ [(k : Int)], t.w + b.w, max t.d b.d, max t.h b.h, t.g + b.g⟩
def shelfZ : ShelfM := ⟨[], 0, 0, 0, 0⟩
def boxAt (l : List BoxM) (i : Nat) : BoxM := l.getD i ⟨0, 0, 0, 0⟩
def shelfXs (l : List BoxM) : List (BoxM × Nat) := (ordM (keyM (l.map BoxM.d)) l.length).map fun i => (boxAt l i, i)
def shelvesM (p : PalletM) (l : List BoxM) : List ShelfM := if boxesOkM p l then pile (shelfRoom p) shelfAdd shelfZ (shelfXs l) else []
theorem boxAt_get {l : List BoxM} {i : Nat} {b : BoxM} (h : l[i]? = some b) : boxAt l i = b := by simp [boxAt, List.getD_eq_getElem?_getD, h]
theorem xs_len (l : List BoxM) : (shelfXs l).length = l.length := by simp [shelfXs, cP]
theorem xs_get {l : List BoxM} {k x : Nat} {b : BoxM} (hx : (ordM (keyM (l.map BoxM.d)) l.length)[k]? = some x) (hb : l[x]? = some b) : (shelfXs l)[k]? = some (b, x) := by
  simp [shelfXs, hx, boxAt_get hb]
theorem xs_mem {l : List BoxM} {y : BoxM × Nat} (h : y ∈ shelfXs l) : l[y.2]? = some y.1 := by
  obtain ⟨i, hi, rfl⟩ := List.mem_map.1 h
  rw [dJ] at hi
  simp [boxAt, List.getD_eq_getElem?_getD, hi]
theorem box_in {p : PalletM} {b : BoxM} (h : boxOkM p b = true) : 1 ≤ b.w ∧ b.w ≤ p.w ∧ 1 ≤ b.d ∧ b.d ≤ p.d ∧ 1 ≤ b.h ∧ b.h ≤ p.h ∧ 1 ≤ b.g ∧ b.g ≤ p.g := by
  simp only [boxOkM, inB, Bool.and_eq_true, decide_eq_true_eq] at h; omega
theorem shelf_bd {p : PalletM} {l : List BoxM} (hok : boxesOkM p l = true) (k : Nat) : ∀ t ∈ ((shelfXs l).take k).foldl (pileStep (shelfRoom p) shelfAdd shelfZ) [], 0 ≤ t.w ∧ t.w ≤ p.w ∧ 0 ≤ t.d ∧ t.d ≤ p.d ∧ 0 ≤ t.h ∧ t.h ≤ p.h ∧ 0 ≤ t.g ∧ t.g ≤ p.g := by
  refine dH _ _ (fun x hx => ?_) (by simp)
  have hx' : x.1 ∈ l := List.mem_of_getElem? (xs_mem (List.mem_of_mem_take hx))
  simp only [boxesOkM, Bool.and_eq_true, List.all_eq_true] at hok
  have hh := box_in (hok.2 x.1 hx')
  refine ⟨by simp only [shelfAdd, shelfZ]; omega, fun t ht hr => ?_⟩
  simp only [shelfRoom, Bool.and_eq_true, decide_eq_true_eq] at hr
  simp only [shelfAdd]; omega
theorem shelves_len (p : PalletM) (l : List BoxM) : (shelvesM p l).length ≤ l.length := by
  unfold shelvesM; split
  · have := dI (room := shelfRoom p) (add := shelfAdd) (z := shelfZ) (shelfXs l) []
    rw [xs_len] at this; simpa [pile] using this
  · simp
theorem shelf_end {p : PalletM} {l : List BoxM} {m : List ShelfM} {k : Nat} (hok : boxesOkM p l = true) (hM : m = ((shelfXs l).take k).foldl (pileStep (shelfRoom p) shelfAdd shelfZ) []) (hk : ¬ k < l.length) : m = shelvesM p l := by
  rw [hM, shelvesM, if_pos hok, List.take_of_length_le (by rw [xs_len]; omega)]; rfl
theorem shelf_no {p : PalletM} {l : List BoxM} (hok : boxesOkM p l = false) : shelvesM p l = [] := by rw [shelvesM, hok]; rfl
theorem dsnoc {l : List BoxM} {k : Nat} {b : BoxM} (h : l[k]? = some b) : ((l.take k).map BoxM.d).map icell ++ [[.int .i64 b.d]] = ((l.take (k + 1)).map BoxM.d).map icell := by
  rw [List.take_add_one, h]; simp [icell]
/-- Whether a unit is there. -/
def hereM (r : ReqM) (u : Int) : Bool := inB u 0 (((unitsM r).length : Int) - 1)
/-- The units that are there. -/
def thereM (r : ReqM) (us : List Int) : List Int := us.filter (hereM r)
theorem cL (r : ReqM) (us : List Int) : (thereM r us).length ≤ us.length := List.length_filter_le _ _
theorem thereM_no {r : ReqM} (h : ¬ classM r = 0) (us : List Int) : thereM r us = [] := by
  refine List.filter_eq_nil_iff.2 (fun u _ => ?_)
  simp only [hereM, dD h, inB, List.length_nil, Bool.and_eq_true, decide_eq_true_eq]
  omega
/-- Whether units are at most what the master carton holds. -/
def holdsM (r : ReqM) (us : List Int) : Bool := decide (volUS r us ≤ volM (mst r).w (mst r).h (mst r).d) && decide (gramM r us ≤ (mst r).g)
/-- Whether there is room for a unit more. -/
def roomM (r : ReqM) (g : List Int) (u : Int) : Bool := decide (classM r = 0) && holdsM r (g ++ [u])
theorem room_yes {r : ReqM} (h : classM r = 0) (g : List Int) (u : Int) : roomM r g u = holdsM r (g ++ [u]) := by rw [roomM, decide_eq_true h, Bool.true_and]
/-- x is put into the last list if p holds of it, or into a list of its own. -/
def lastM (p : List Int → Bool) (l : List (List Int)) (x : Int) : List (List Int) := match l.getLast? with
  | some g => if p g then l.set (l.length - 1) (g ++ [x]) else l ++ [[x]]
  | none => l ++ [[x]]
theorem last_nil {p : List Int → Bool} {l : List (List Int)} {x : Int} (h : l.length = 0) : lastM p l x = l ++ [[x]] := by
  rw [List.length_eq_zero_iff.1 h]; rfl
theorem last_no {p : List Int → Bool} {l : List (List Int)} {k : Nat} {b : List Int} {x : Int} (hb : l[k]? = some b) (hk : l.length = k + 1) (h : p b = false) : lastM p l x = l ++ [[x]] := by
  have e : l.getLast? = some b := by rw [List.getLast?_eq_getElem?, hk, ← hb]; rfl
  rw [lastM, e]; simp only [h]; rfl
theorem last_yes {p : List Int → Bool} {l : List (List Int)} {k : Nat} {b : List Int} {x : Int} (hb : l[k]? = some b) (hk : l.length = k + 1) (h : p b = true) : lastM p l x = l.set k (b ++ [x]) := by
  have e : l.getLast? = some b := by rw [List.getLast?_eq_getElem?, hk, ← hb]; rfl
  rw [lastM, e]; simp only [h, if_true]; rw [hk]; rfl
def lastAll (p : List Int → Int → Bool) (l : List Int) : List (List Int) := l.foldl (fun out x => lastM (fun g => p g x) out x) []
theorem lastAll_next {p : List Int → Int → Bool} {l : List Int} {k : Nat} {x : Int} (h : l[k]? = some x) : lastAll p (l.take (k + 1)) = lastM (fun g => p g x) (lastAll p (l.take k)) x := bP h _ []
theorem sum_set : ∀ {l : List (List Int)} {k : Nat} {b : List Int} (x : Int), l[k]? = some b → ((l.set k (b ++ [x])).map List.length).sum = (l.map List.length).sum + 1
  | [], k, b, x, h => by simp at h
  | a :: r, 0, b, x, h => by
    simp at h; subst h
    simp only [List.set_cons_zero, List.map_cons, List.sum_cons, List.length_append, List.length_singleton]; omega
  | a :: r, k + 1, b, x, h => by
    simp only [List.getElem?_cons_succ] at h
    have := sum_set x h
    simp only [List.set_cons_succ, List.map_cons, List.sum_cons]; omega
theorem last_sum (p : List Int → Bool) (x : Int) (l : List (List Int)) : ((lastM p l x).map List.length).sum = (l.map List.length).sum + 1 := by
  unfold lastM
  split
  · rename_i g hg
    rw [List.getLast?_eq_getElem?] at hg
    split
    · exact sum_set x hg
    · simp
  · simp
theorem last_lenle (p : List Int → Bool) (x : Int) (l : List (List Int)) : (lastM p l x).length ≤ l.length + 1 := by
  unfold lastM
  split
  · split
    · simp
    · simp
  · simp
theorem lastAll_sumG (p : List Int → Int → Bool) : ∀ (l : List Int) (out : List (List Int)), ((l.foldl (fun out x => lastM (fun g => p g x) out x) out).map List.length).sum = (out.map List.length).sum + l.length
  | [], out => by simp
  | x :: r, out => by
    rw [List.foldl_cons, lastAll_sumG p r, last_sum, List.length_cons]; omega
theorem lastAll_lenG (p : List Int → Int → Bool) : ∀ (l : List Int) (out : List (List Int)), (l.foldl (fun out x => lastM (fun g => p g x) out x) out).length ≤ out.length + l.length
  | [], out => by simp
  | x :: r, out => by
    have h1 := lastAll_lenG p r (lastM (fun g => p g x) out x)
    have h2 := last_lenle (fun g => p g x) x out
    rw [List.foldl_cons, List.length_cons]; omega
theorem lastAll_sum (p : List Int → Int → Bool) (l : List Int) : ((lastAll p l).map List.length).sum = l.length := by rw [lastAll, lastAll_sumG]; simp
theorem lastAll_len (p : List Int → Int → Bool) (l : List Int) : (lastAll p l).length ≤ l.length := by have := lastAll_lenG p l []; simpa [lastAll] using this
theorem lastAll_at {p : List Int → Int → Bool} {l : List Int} {q : Nat} {g : List Int} (h : (lastAll p l)[q]? = some g) : g.length ≤ l.length := by
  have := len_le_sum (List.mem_of_getElem? h); rwa [lastAll_sum] at this
/-- The cartons of next fit. -/
def nextM (r : ReqM) (us : List Int) : List (List Int) := lastAll (roomM r) (thereM r us)
/-- Units by their volume, the greatest first. -/
def ordU (r : ReqM) (t : List Int) : List Int := (ordM (keyM (t.map (vOf r))) t.length).map (fun i => t.getD i 0)
theorem ordU_at {r : ReqM} {t : List Int} {k x : Nat} {u : Int} (hx : (ordM (keyM (t.map (vOf r))) t.length)[k]? = some x) (hu : t[x]? = some u) : (ordU r t)[k]? = some u := by
  rw [ordU, List.getElem?_map, hx, Option.map_some, List.getD_eq_getElem?_getD, hu]; rfl
theorem ordU_len (r : ReqM) (t : List Int) : (ordU r t).length = t.length := by rw [ordU, List.length_map, cP]
/-- The cartons of first fit. -/
def firstM (r : ReqM) (us : List Int) : List (List Int) := putAll (roomM r) (ordU r (thereM r us))
end Go.Proofs.YtglpgohilfoecaaGreat

/-
  Numbers that are struck out of a list; the units that are there.
-/
namespace Go.Proofs.YtglpgohilfoecaaGreat
open Go.RowKit
attribute [local irreducible] Go.wpList Go.Code.wp Go.Exit.then Go.Exit.inBlock Go.bodyPost Go.Calls pE pB G RunsV FnV Fn FnM
set_option maxRecDepth 100000
set_option maxHeartbeats 4000000
def keptM (p : Int → Bool) (l : List Int) (j : Nat) : List Int := (l.take j).filter fun x => !p x
theorem kept_yes {p : Int → Bool} {l : List Int} {j : Nat} {b : Int} (hb : l[j]? = some b) (h : (!p b) = true) : keptM p l (j + 1) = keptM p l j ++ [b] := by
  simp only [keptM, List.take_add_one, hb, Option.toList_some, List.filter_append, List.filter_cons, h, List.filter_nil, if_true]
theorem kept_no {p : Int → Bool} {l : List Int} {j : Nat} {b : Int} (hb : l[j]? = some b) (h : (!p b) = false) : keptM p l (j + 1) = keptM p l j := by
  simp [keptM, List.take_add_one, hb, List.filter_append, List.filter_cons, h]
theorem kept_len (p : Int → Bool) (l : List Int) (j : Nat) : (keptM p l j).length ≤ j := by
  have h1 := List.length_filter_le (fun x => !p x) (l.take j)
  have h2 := List.length_take_le j l
  rw [keptM]; omega
theorem kept_all {p : Int → Bool} {l : List Int} {j : Nat} (h : l.length ≤ j) : keptM p l j = l.filter fun x => !p x := by rw [keptM, List.take_of_length_le h]
theorem kept_first {p : Int → Bool} {l : List Int} {k : Nat} {b : Int} (h : (l.take k).any p = false) (hb : l[k]? = some b) (hp : p b = true) : keptM p l (k + 1) = l.take k := by
  rw [kept_no hb (by rw [hp]; rfl), keptM, List.filter_eq_self.2 (fun x hx => by have := List.any_eq_false.1 h x hx; simpa using this)]
/-- The row while numbers are struck out of it. -/
def keptRow (p : Int → Bool) (l : List Int) (j : Nat) : List Int := keptM p l j ++ l.drop (keptM p l j).length
theorem keptRow_len {p : Int → Bool} {l : List Int} {j : Nat} (h : j ≤ l.length) : (keptRow p l j).length = l.length := by
  have := kept_len p l j
  rw [keptRow, List.length_append, List.length_drop]; omega
theorem keptRow_get {p : Int → Bool} {l : List Int} {j i : Nat} (h : (keptM p l j).length ≤ i) : (keptRow p l j)[i]? = l[i]? := by
  rw [keptRow, List.getElem?_append_right h, List.getElem?_drop]; congr 1; omega
theorem keptRow_set {p : Int → Bool} {l : List Int} {j : Nat} {b : Int} (hb : l[j]? = some b) (h : (!p b) = true) : (keptRow p l j).set (keptM p l j).length b = keptRow p l (j + 1) := by
  have hk := (List.getElem?_eq_some_iff.1 hb).1
  have hl := kept_len p l j
  rw [keptRow, keptRow, kept_yes hb h, List.set_append_right _ _ (Nat.le_refl _), Nat.sub_self, List.length_append, List.append_assoc]
  congr 1
  rw [List.drop_eq_getElem_cons (show (keptM p l j).length < l.length by omega), List.set_cons_zero]
  rfl
theorem kept_cut {p : Int → Bool} {l : List Int} {j q : Nat} {z : List Value} : ((((keptRow p l j).map icell).take (keptM p l j).length) ++ List.replicate q z).take (keptM p l j).length = (keptM p l j).map icell := by
  have e : ((keptRow p l j).map icell).take (keptM p l j).length = (keptM p l j).map icell := by
    rw [← List.map_take, keptRow, List.take_left']; rfl
  rw [e, List.take_left']; simp
theorem kept_begin {p : Int → Bool} {l : List Int} {k : Nat} {b : Int} (h : (l.take k).any p = false) (hb : l[k]? = some b) (hp : p b = true) : keptRow p l (k + 1) = l := by
  have hk := (List.getElem?_eq_some_iff.1 hb).1
  rw [keptRow, kept_first h hb hp, List.length_take, Nat.min_eq_left (by omega), List.take_append_drop]
section
variable {w0 : World} {F : List Ch} {v : Value}
theorem deleteFunc_any {g : Nat} [FnOk Tryz.prog g] {cap : List Value} {l : List Int} {p : Int → Bool} (hn : l.length ≤ 1048576) (hf : ∀ (w' : World) (x : Int), HeapOk w0 w' F → FnV Tryz.prog g ([.int .i64 x] ++ cap) w' (.bool (p x))) :
    FnMF Tryz.prog 199 [v, .func (.func g) #[] cap.toArray] w0 [.row v 3 1 (l.map icell)] F (fun x : Value => x.oneCell' = true) (fun x => x) (fun x => [.row x 3 1 ((l.filter fun x => !p x).map icell)]) := by
  have hln : (l.map icell).length = l.length := by simp
  refine FnMF.of (n := 42) Tryz.func199 rfl rfl ?_; refine G.know (fun w hw => (Rd.ba 0 rfl w hw).one_) (fun hone => ?_); refine G.seq (G.region (G.v (bb rfl) rfl (G.I (G.E (G.seq (G.region (G.v (ba rfl) rfl (G.v (ba rfl) rfl ?_)))))))); refine G.op (bh rfl rfl (fun w hh => indexInt_any (l := l) (p := p) w (Rd.ba 0 rfl _ hh) (fun w' k b hw _ => hf w' b ((hh.call hw).sublist (List.sublist_cons_self _ _))))) rfl (fun _ _ => ?_); refine G.v (bb rfl) rfl (G.I (G.E (G.seq (G.seq (G.region (G.v (ba rfl) rfl (G.v (bQ rfl rfl) rfl (G.I (G.E ?_))))))))); refine G.bd rfl (fun hc => ?_) (fun hc => ?_)
  have hall : l.filter (fun x => !p x) = l := (by rcases d2 p l with ⟨_, e⟩ | ⟨k, b, e, _⟩; (exact List.filter_eq_self.2 (fun x hx => by have := List.any_eq_false.1 e x hx; simpa using this)); (exfalso; omega))
  refine G.seq (G.region (G.v (ba rfl) rfl (G.v (bb rfl) rfl (G.I (G.E (G.ret (G.O ?_)))))))
  exact G.bg v hone rfl rfl rfl (fun w hw => by rw [hall]; exact hw)
  · obtain ⟨k0, b0, hq, hb0, hp0, hbt⟩ : ∃ (k : Nat) (b : Int), idxM p l = (k : Int) ∧ l[k]? = some b ∧ p b = true ∧ (l.take k).any p = false := (by rcases d2 p l with ⟨e, _⟩ | e; (exfalso; omega); (exact e))
    have hk0 := (List.getElem?_eq_some_iff.1 hb0).1
    refine G.skip (G.E (G.seq (G.seq (G.region (G.v (ba rfl) rfl ?_))))); refine G.v (bD rfl rfl (by omega) (by omega)) rfl ?_; refine G.v (bb rfl) rfl (G.I (G.E (G.block ?_))); refine G.bo ((keptRow p l (k0 + 1)).map icell) (by rw [kept_begin hbt hb0 hp0]) rfl ?_
    have hD0 : (keptM p l (k0 + 1)).length = k0 := by rw [kept_first hbt hb0 hp0, List.length_take]; omega
    refine G.Y (ι := Nat) (ks := [0, 1]) (fun j => [(5, .int .i64 ((keptM p l j).length : Int)), (6, .int .i64 (j : Int))]) (fun j => [.row v 3 1 ((keptRow p l j).map icell)]) (fun j => j ≤ l.length ∧ (keptM p l j).length + 1 ≤ j) (fun j => l.length - j) (k0 + 1) (.cons rfl (.cons rfl (.nil))) rfl ?_ ?_ ?_
    exact ⟨by omega, by rw [hD0]; omega⟩
    exact ⟨congrArg (fun z => some (Value.int .i64 z)) (by rw [hD0]; exact hq), congrArg (fun z => some (Value.int .i64 z)) (by rw [hq]; rfl), trivial⟩
    rintro j ⟨hj, hD⟩
    have hrl := keptRow_len (p := p) hj
    have hrl2 : ((keptRow p l j).map icell).length = l.length := by rw [List.length_map, hrl]
    by_cases hlt : j < l.length
    case' pos => (obtain ⟨b, hb⟩ := bn hlt; have e1 : ((keptRow p l j).map icell)[j]? = some (icell b) := bt (by rw [keptRow_get (by omega)]; exact hb) icell; obtain ⟨c3, hc3⟩ := bn (l := keptRow p l j) (k := (keptM p l j).length) (by omega); have e3 := bt hc3 icell)
    all_goals
     refine G.seq (G.seq (G.region (G.v (ba rfl) rfl (G.v (ba rfl) rfl ?_)))); refine G.v (bz rfl (by exact Rd.ba 0 rfl)) rfl ?_; refine G.v (br rfl rfl) rfl (G.I (G.E ?_)); refine G.cond rfl (fun hc => ?_) (fun hc => ?_)
     · all_goals
        replace hc := of_decide_eq_true hc
        simp only [List.length_map] at hc
        try (exfalso; omega)
        all_goals
         refine G.skip (G.E (G.seq (G.block (G.seq (G.region (G.v (ba rfl) rfl (G.v (ba rfl) rfl ?_))))))); refine G.v (bg rfl rfl (by exact Rd.ba 0 rfl) rfl (by exact e1)) rfl ?_; refine G.v (bi rfl (by exact Rd.ba 0 rfl) (by exact e1) rfl) rfl ?_; refine G.v (bb rfl) rfl (G.I (G.E (G.seq (G.region (G.v (ba rfl) rfl (G.v (ba rfl) rfl ?_)))))); refine G.op (bh rfl rfl (fun w hh => hf w b (hh.drop 1))) rfl (fun _ _ => ?_); refine G.v (bF rfl) rfl (G.I (G.E ?_)); refine G.cond rfl (fun hc => ?_) (fun hc => ?_)
         · all_goals
            all_goals
             refine G.seq (G.region (G.v (ba rfl) rfl (G.v (ba rfl) rfl (G.v (ba rfl) rfl ?_)))); refine G.v (bg rfl rfl (by exact Rd.ba 0 rfl) rfl (by exact e3)) rfl ?_; refine G.bk (cR rfl rfl rfl (by exact e3) rfl rfl rfl rfl (.zero (.cons .nil))) (fun _ _ => ?_); refine G.I (G.E (G.region (G.v (ba rfl) rfl ?_))); refine G.v (bp rfl rfl (by omega)) rfl ?_; refine G.v (bb rfl) rfl (G.I (G.bc (G.E (G.region (G.v (ba rfl) rfl ?_))))); refine G.v (bp rfl rfl (by omega)) rfl ?_; refine G.v (bb rfl) rfl (G.I ?_); refine G.V (j + 1) 0 (by exact bV (congrArg (fun z => Ch.row v 3 1 z) ((List.map_set (f := icell)).symm.trans (congrArg (List.map icell) (keptRow_set hb hc))))) (.cons rfl (.cons rfl (.nil))) ?_ ?_ ?_
             exact ⟨congrArg (fun z : Nat => some (Value.int .i64 (z : Int))) (by rw [kept_yes hb hc, List.length_append]; rfl), rfl, trivial⟩
             refine ⟨by omega, ?_⟩; (rw [kept_yes hb hc, List.length_append]; simp; omega)
             omega
         · all_goals
            all_goals
             refine G.skip (G.bc (G.E (G.region (G.v (ba rfl) rfl ?_)))); refine G.v (bp rfl rfl (by omega)) rfl ?_; refine G.v (bb rfl) rfl (G.I ?_); refine G.V (j + 1) 0 (by (exact bV (congrArg (fun z : List Int => Ch.row v 3 1 (z.map icell)) (show keptRow p l j = keptRow p l (j + 1) by simp only [keptRow]; rw [kept_no hb hc])))) (.cons rfl (.cons rfl (.nil))) ?_ ?_ ?_
             exact ⟨congrArg (fun z : Nat => some (Value.int .i64 (z : Int))) (by rw [kept_no hb hc]), rfl, trivial⟩
             refine ⟨by omega, ?_⟩; (rw [kept_no hb hc]; omega)
             omega
     · all_goals
        replace hc := of_decide_eq_false hc
        simp only [List.length_map] at hc
        try (exfalso; omega)
        all_goals
         refine G.exit (G.L (G.L (G.bn (G.E (G.seq (G.region (G.v (ba rfl) rfl (G.v (ba rfl) rfl ?_)))))))); refine G.v (dq rfl rfl (by exact Rd.ba 0 rfl) (by omega)) rfl ?_; refine G.bk (og_clear0 ((keptM p l j).length) rfl rfl rfl (by omega) rfl) (fun _ _ => ?_); refine G.I (G.E (G.seq (G.region (G.v (ba rfl) rfl (G.v (ba rfl) rfl ?_))))); refine G.v (dp rfl rfl (Rd.ba 0 rfl) (by simp; omega)) rfl ?_; refine G.v (bb rfl) rfl (G.I (G.E (G.ret ?_))); refine G.cutRow (keptM p l j).length (by simp; omega) rfl ?_; refine G.know (fun w hw => (Rd.ba 0 rfl w hw).one_) (fun hone2 => ?_); exact G.bg _ hone2 rfl rfl rfl (fun w hw => by rw [kept_cut] at hw; rw [← kept_all (p := p) (l := l) (j := j) (by omega)]; exact hw)
end
theorem thereOf1_any (x : Int) (n : Nat) {q : Nat} (w : World) (h : Rd w (.slice (some ⟨q, 0, none⟩) 1 1) 1 [[.int .i64 (n : Int)]]) (hn : n ≤ 1048576) : FnV Tryz.prog 201 [.int .i64 x, pB q 0] w (.bool (!inB x 0 ((n : Int) - 1))) := by
  rw [cp q 1]
  refine FnV.of (n := 9) Tryz.func201 rfl rfl ?_; refine G.seq (G.region (G.v (bb rfl) rfl (G.I (G.E (G.seq (G.region (G.v (ba rfl) rfl ?_))))))); refine G.v (bi rfl (by exact Rd.stays (by assumption)) rfl rfl) rfl ?_; refine G.v (b8 rfl rfl (by omega) (by omega)) rfl ?_; refine G.op (bh rfl rfl (fun w _ => b5 _ _ _ w)) rfl (fun _ _ => ?_); refine G.v (bF rfl) rfl (G.v (bb rfl) rfl (G.I (G.E (G.ret ?_))))
  exact G.U rfl rfl rfl
theorem req_all {r : ReqM} {pv tv iv : Value} (h : pv.oneCell' = true) (h2 : tv.oneCell' = true) (h3 : iv.oneCell' = true) : (r.cells pv tv iv).all Value.oneCell' = true := by
  simp only [ReqM.cells, List.all_cons, List.all_nil, Bool.and_true, h, h2, h3]; rfl
theorem there_eq {r : ReqM} {us : List Int} {n : Nat} (hn : n = (unitsM r).length) : us.filter (fun x => !(!inB x 0 ((n : Int) - 1))) = thereM r us := by
  subst hn
  rw [thereM]
  refine List.filter_congr (fun x _ => ?_)
  rw [Bool.not_not]; rfl
theorem thereOf_any {r : ReqM} {pv tv iv uv : Value} {us : List Int} (w : World) (h : Rd w pv 2 (r.pairs.map PairM.cells)) (h2 : Rd w tv 7 (r.types.map TypeM.cells)) (h3 : Rd w iv 7 (r.items.map ItemM.cells)) (h4 : Rd w uv 1 (us.map icell)) (hul : us.length ≤ 1048576) :
    Fn Tryz.prog 139 [.agg (r.cells pv tv iv).toArray, uv] w (fun v : Value => v.oneCell' = true) (fun v => v) (fun v => [.row v 3 1 ((thereM r us).map icell)]) := by
  have hun := c6 r
  have hun2 : ((unitsM r).map ncell).length = (unitsM r).length := by simp
  refine Fn.of (n := 13) Tryz.func139 rfl rfl ?_; refine G.seq (G.region ?_); refine G.op (bE rfl rfl) rfl (fun bk2 _ => ?_); refine G.v (bb rfl) rfl (G.I (G.E (G.seq (G.region (G.v (bj 0 rfl rfl rfl) rfl ?_))))); refine G.op (bH rfl rfl (fun w hh => units_any (r := r) w (Rd.stays h _ hh) (Rd.stays h2 _ hh) (Rd.stays h3 _ hh))) rfl ?_; rintro vu hvu; try dsimp only
  refine G.v (bz rfl (by exact Rd.ba 0 rfl)) rfl ?_; refine G.op (bu) rfl (fun bk5 _ => ?_); refine G.bk (bL rfl rfl rfl rfl rfl rfl (.zero (.cons .nil))) (fun _ _ => ?_); refine G.I (G.E (G.seq (G.region (G.v (ba rfl) rfl ?_)))); refine G.op (bH rfl rfl (fun w hh => clone_any w (Rd.stays h4 _ hh) hul)) rfl ?_; rintro v1 hv1; try dsimp only
  refine G.v (bY rfl rfl) rfl ?_
  (refine G.bb (v1) rfl ?_); refine G.op (bO rfl rfl rfl (deleteFunc_any (l := us) (p := fun x => !inB x 0 ((((unitsM r).map ncell).length : Int) - 1)) hul (fun w' x hw => thereOf1_any x ((unitsM r).map ncell).length w' (by exact Rd.bb 0 rfl rfl w' hw) (by omega)))) rfl ?_; rintro v2 hv2; try dsimp only
  refine G.v (bb rfl) rfl (G.I (G.E (G.ret ?_)))
  exact G.bg v2 hv2 rfl rfl rfl (fun w hw => by rw [there_eq hun2] at hw; exact hw.sublist (by repeat (first | exact List.Sublist.refl _ | refine List.Sublist.cons_cons _ ?_ | refine List.Sublist.cons _ ?_)))
theorem known_yes {r : ReqM} {us : List Int} {k : Nat} {u : Int} (hb : us[k]? = some u) (h : hereM r u = true) : (thereM r (us.take k)).map icell ++ [[.int .i64 u]] = (thereM r (us.take (k + 1))).map icell := by
  simp [thereM, List.take_add_one, hb, List.filter_append, List.filter_cons, h, icell]
theorem known_no {r : ReqM} {us : List Int} {k : Nat} {u : Int} (hb : us[k]? = some u) (h : hereM r u = false) : (thereM r (us.take k)).map icell = (thereM r (us.take (k + 1))).map icell := by
  simp [thereM, List.take_add_one, hb, List.filter_append, List.filter_cons, h]
theorem l7Known_any {r : ReqM} {av uv : Value} {us : List Int} (w : World) (h5 : Rd w av 1 ((unitsM r).map ncell)) (h4 : Rd w uv 1 (us.map icell)) (hul : us.length ≤ 1048576) :
    Fn Tryz.prog 194 [av, uv] w (fun v : Value => v.oneCell' = true) (fun v => v) (fun v => [.row v 3 1 ((thereM r us).map icell)]) := by
  have hun := c6 r
  have hun2 : ((unitsM r).map ncell).length = (unitsM r).length := by simp
  have hul2 : (us.map icell).length = us.length := by simp
  refine Fn.of (n := 30) Tryz.func194 rfl rfl ?_; refine G.seq (G.region (G.v (bb rfl) rfl (G.I (G.E (G.seq (G.region ?_)))))); refine G.op (bq rfl .nil rfl rfl rfl rfl rfl rfl) rfl (fun vl _ => ?_); refine G.v (bb rfl) rfl (G.I (G.E (G.seq (G.seq (G.region (G.v (bb rfl) rfl (G.I (G.E (G.block ?_))))))))); refine G.Y (ι := Nat × Value) (ks := [0, 1]) (fun x => [(5, x.2), (6, .int .i64 (x.1 : Int))]) (fun x => [.row x.2 3 1 ((thereM r (us.take x.1)).map icell)]) (fun x => x.1 ≤ us.length) (fun x => us.length - x.1) (0, vl) (.cons rfl (.cons rfl (.nil))) rfl ?_ ?_ ?_
  exact Nat.zero_le _
  exact ⟨rfl, rfl, trivial⟩
  rintro ⟨k, v⟩ hk
  dsimp only at hk ⊢
  have hil := cL r (us.take k)
  have hil2 : ((thereM r (us.take k)).map icell).length = (thereM r (us.take k)).length := by simp
  rw [List.length_take] at hil
  by_cases hlt : k < us.length
  case' pos => (obtain ⟨u, hb⟩ := bn hlt; have e1 := bt hb icell)
  all_goals
   refine G.seq (G.seq (G.region (G.v (ba rfl) rfl (G.v (ba rfl) rfl ?_)))); refine G.v (bz rfl (by exact Rd.stays (by assumption))) rfl ?_; refine G.v (br rfl rfl) rfl (G.I (G.E ?_)); refine G.cond rfl (fun hc => ?_) (fun hc => ?_)
   · all_goals
      replace hc := of_decide_eq_true hc
      simp only [hul2] at hc
      try (exfalso; omega)
      all_goals
       refine G.skip (G.E (G.seq (G.block (G.seq (G.region (G.v (ba rfl) rfl (G.v (ba rfl) rfl ?_))))))); refine G.v (bg rfl rfl (by exact Rd.stays (by assumption)) rfl (by exact e1)) rfl ?_; refine G.v (bi rfl (by exact Rd.stays (by assumption)) (by exact e1) rfl) rfl ?_; refine G.v (ba rfl) rfl ?_; refine G.v (bz rfl (by exact Rd.stays (by assumption))) rfl ?_; refine G.v (b8 rfl rfl (by omega) (by omega)) rfl ?_; refine G.op (bh rfl rfl (fun w _ => b7 _ _ _ w)) rfl (fun _ _ => ?_); refine G.I (G.E ?_); refine G.cond rfl (fun hc => ?_) (fun hc => ?_)
       · all_goals
          all_goals
           have hhe : hereM r u = true := by rw [hereM, ← hun2]; exact hc
           all_goals
            refine G.region (G.v (ba rfl) rfl (G.v (ba rfl) rfl (G.v (ba rfl) rfl ?_))); refine G.v (bg rfl rfl (by exact Rd.stays (by assumption)) rfl (by exact e1)) rfl ?_; refine G.v (bi rfl (by exact Rd.stays (by assumption)) (by exact e1) rfl) rfl ?_; refine G.op (bq rfl (.cons rfl .nil) rfl rfl rfl rfl rfl rfl) rfl (fun vx _ => ?_); refine G.op (bU rfl rfl rfl (by exact Rd.ba 0 rfl) rfl rfl (by (simp; omega)) (by (simp; omega))) rfl (fun va _ => ?_); refine G.v (bb rfl) rfl (G.I (G.bc (G.E (G.region (G.v (ba rfl) rfl ?_))))); refine G.v (bp rfl rfl (by omega)) rfl ?_; refine G.v (bb rfl) rfl (G.I ?_); refine G.V (k + 1, va) 1 (by exact bV (congrArg (fun z => Ch.row va 3 1 z) (known_yes hb hhe))) (.cons rfl (.cons rfl (.nil))) (⟨rfl, rfl, trivial⟩) ?_ ?_
            exact hlt
            dsimp only; omega
       · all_goals
          all_goals
           have hhe : hereM r u = false := by rw [hereM, ← hun2]; exact hc
           all_goals
            refine G.skip (G.bc (G.E (G.region (G.v (ba rfl) rfl ?_)))); refine G.v (bp rfl rfl (by omega)) rfl ?_; refine G.v (bb rfl) rfl (G.I ?_); refine G.V (k + 1, v) 0 (by exact bV (congrArg (fun z => Ch.row v 3 1 z) (known_no hb hhe))) (.cons rfl (.cons rfl (.nil))) (⟨rfl, rfl, trivial⟩) ?_ ?_
            exact hlt
            dsimp only; omega
   · all_goals
      replace hc := of_decide_eq_false hc
      simp only [hul2] at hc
      try (exfalso; omega)
      all_goals
       refine G.exit (G.L (G.L (G.bn (G.E (G.seq (G.region (G.v (ba rfl) rfl (G.v (bb rfl) rfl (G.I (G.E (G.ret ?_))))))))))); refine G.know (fun w hw => (Rd.ba 0 rfl w hw).one_) (fun hone => G.bg v hone rfl rfl rfl (fun w hw => by rw [bZ (l := us) (by omega)] at hw; exact hw.sublist (by repeat (exact List.Sublist.refl _))))
def withinT (r : ReqM) (us : List Int) (t : TypeM) : Bool := decide (volUS r us ≤ volM t.w t.h t.d) && decide (gramM r us ≤ t.g)
theorem within_mst (r : ReqM) (us : List Int) : withinT r us (mst r) = holdsM r us := rfl
theorem bW (g : List Int) (u : Int) : g.map icell ++ [[Value.int .i64 u]] = (g ++ [u]).map icell := by simp [icell]
section
variable {r : ReqM} {pv tv iv uv : Value} {us : List Int} (w : World) (h : Rd w pv 2 (r.pairs.map PairM.cells)) (h2 : Rd w tv 7 (r.types.map TypeM.cells)) (h3 : Rd w iv 7 (r.items.map ItemM.cells)) (h4 : Rd w uv 1 (us.map icell))
include h h2 h3 h4
theorem within_any (hul : us.length ≤ 1048576) (t : TypeM) : FnV Tryz.prog 143 [.agg (r.cells pv tv iv).toArray, uv, t.val] w (.bool (withinT r us t)) := by
  refine FnV.of (n := 26) Tryz.func143 rfl rfl ?_; refine G.seq (G.region ?_); refine G.op (bE rfl rfl) rfl (fun bk3 _ => ?_); refine G.op (bE rfl rfl) rfl (fun bk5 _ => ?_); refine G.v (bb rfl) rfl (G.I (G.E (G.seq ?_))); refine G.ba [19] ?_; refine GE.q 0 rfl (by as_aux_lemma => kernel_rfl) rfl (bc (bj 1 rfl rfl rfl)) rfl ?_; refine GE.q 1 rfl (by as_aux_lemma => kernel_rfl) rfl (bc (ba rfl)) rfl ?_; refine GE.q 2 rfl (by as_aux_lemma => kernel_rfl) rfl (cY rfl rfl (fun w hh => volumeOf_any (r := r) (us := us) w (Rd.stays h _ hh) (Rd.stays h2 _ hh) (Rd.stays h3 _ hh) (Rd.stays h4 _ hh) hul)) rfl ?_; refine GE.q 3 rfl (by as_aux_lemma => kernel_rfl) rfl (bc (be rfl)) rfl ?_; refine GE.q 4 rfl (by as_aux_lemma => kernel_rfl) rfl (bc (bf 0 rfl rfl rfl)) rfl ?_; refine GE.q 5 rfl (by as_aux_lemma => kernel_rfl) rfl (bc (be rfl)) rfl ?_; refine GE.q 6 rfl (by as_aux_lemma => kernel_rfl) rfl (bc (bf 0 rfl rfl rfl)) rfl ?_; refine GE.V 7 (by as_aux_lemma => kernel_rfl) rfl rfl (bd (be rfl)) rfl (fun _ _ h => by exact h) (fun _ _ => ?_); refine GE.V 8 (by as_aux_lemma => kernel_rfl) rfl rfl (bd (bf 0 rfl rfl rfl)) rfl (fun _ _ h => by exact h) (fun _ _ => ?_); refine GE.V 9 (by as_aux_lemma => kernel_rfl) rfl rfl (bh rfl rfl (fun w hh => volume_any t.w t.h t.d w)) rfl (fun _ _ h => by exact h) (fun _ _ => ?_)
  refine GE.V 10 (by as_aux_lemma => kernel_rfl) rfl rfl (bd (ci rfl rfl)) rfl (fun _ _ h => by exact h) (fun _ _ => ?_); refine GE.V 11 (by as_aux_lemma => kernel_rfl) rfl rfl (bd (ba rfl)) rfl (fun _ _ h => by exact h) (fun _ _ => ?_)
  (with_reducible refine GE.part (t := 18) rfl (fun hg => ?_) (fun hg => ?_)) <;> (try exact Bool.noConfusion hg) <;> (first | (refine GE.q 12 rfl (by as_aux_lemma => kernel_rfl) rfl (bc (bj 1 rfl rfl rfl)) rfl ?_) | refine GE.O 12 rfl (by as_aux_lemma => kernel_rfl) rfl rfl ?_)
  all_goals ((first | refine GE.q 13 rfl (by as_aux_lemma => kernel_rfl) rfl (bc (ba rfl)) rfl ?_ | refine GE.O 13 rfl (by as_aux_lemma => kernel_rfl) rfl rfl ?_))
  all_goals ((first | refine GE.q 14 rfl (by as_aux_lemma => kernel_rfl) rfl (cY rfl rfl (fun w hh => gramOf_any (r := r) (us := us) w (Rd.stays h _ hh) (Rd.stays h2 _ hh) (Rd.stays h3 _ hh) (Rd.stays h4 _ hh) hul)) rfl ?_ | refine GE.O 14 rfl (by as_aux_lemma => kernel_rfl) rfl rfl ?_))
  all_goals ((first | (refine GE.q 15 rfl (by as_aux_lemma => kernel_rfl) rfl (bc (be rfl)) rfl ?_) | refine GE.O 15 rfl (by as_aux_lemma => kernel_rfl) rfl rfl ?_))
  all_goals ((first | (refine GE.q 16 rfl (by as_aux_lemma => kernel_rfl) rfl (bc (bf 0 rfl rfl rfl)) rfl ?_) | refine GE.O 16 rfl (by as_aux_lemma => kernel_rfl) rfl rfl ?_))
  all_goals ((first | refine GE.q 17 rfl (by as_aux_lemma => kernel_rfl) rfl (bc (ci rfl rfl)) rfl ?_ | refine GE.O 17 rfl (by as_aux_lemma => kernel_rfl) rfl rfl ?_))
  all_goals ((first | refine GE.V 18 (by as_aux_lemma => kernel_rfl) rfl rfl (bd (bk rfl rfl)) rfl (fun _ _ h => by exact h) (fun _ _ => ?_) | refine GE.V 18 (by as_aux_lemma => kernel_rfl) rfl rfl (bd (bm rfl rfl)) rfl (fun _ _ h => by exact h) (fun _ _ => ?_)))
  all_goals (refine GE.t 19 (by as_aux_lemma => kernel_rfl) rfl rfl rfl (bd (bb rfl)) rfl (fun _ _ => ?_))
  all_goals
   refine GE.E (by as_aux_lemma => kernel_rfl) ?_; refine G.E (G.ret ?_)
   first | (refine G.U rfl rfl (congrArg Value.bool ?_); simp_all [withinT]; done) | (refine G.U rfl rfl (congrArg Value.bool ?_); simp_all [withinT]; intro hq9; omega)
theorem room_yesW (hul : us.length + 1 ≤ 1048576) (u : Int) (hyes : classM r = 0) : FnV Tryz.prog 178 [.agg (r.cells pv tv iv).toArray, uv, .int .i64 u] w (.bool (roomM r us u)) := by
  have hul2 : (us.map icell).length = us.length := by simp
  refine FnV.of (n := 26) Tryz.func178 rfl rfl ?_; refine G.seq (G.region ?_); refine G.op (bE rfl rfl) rfl (fun bk3 _ => ?_); refine G.v (bb rfl) rfl (G.I (G.E (G.seq (G.region (G.v (bj 0 rfl rfl rfl) rfl ?_))))); refine G.op (bh rfl rfl (fun w hh => masterOf_any (r := r) w (Rd.stays h2 _ hh))) rfl (fun _ _ => ?_); refine G.v (ba rfl) rfl (G.v (bC rfl rfl) rfl (G.v (bC rfl rfl) rfl ?_)); refine G.op (bu) rfl (fun bk7 _ => ?_); refine G.bk (bL rfl rfl rfl rfl rfl rfl (.zero (.cons (.cons (.cons (.cons (.cons (.cons (.cons .nil))))))))) (fun _ _ => ?_); refine G.v (bb rfl) rfl (G.I (G.E (G.seq ?_))); refine G.ba [12] ?_; refine GE.V 0 (by as_aux_lemma => kernel_rfl) rfl rfl (bd (bj 1 rfl rfl rfl)) rfl (fun _ _ h => by exact h) (fun _ _ => ?_); refine GE.V 1 (by as_aux_lemma => kernel_rfl) rfl rfl (bh rfl rfl (fun w hh => (dc (r := r) w (Rd.stays h _ hh) (Rd.stays h2 _ hh) (Rd.stays h3 _ hh)).mono (show Value.bool (decide (classM r = 0)) = Value.bool true by rw [decide_eq_true hyes]))) rfl (fun _ _ h => by exact h) (fun _ _ => ?_); refine GE.V 2 (by as_aux_lemma => kernel_rfl) rfl rfl (bd (ba rfl)) rfl (fun _ _ h => by exact h) (fun _ _ => ?_); refine GE.q 3 rfl (by as_aux_lemma => kernel_rfl) rfl (bc (bj 1 rfl rfl rfl)) rfl ?_
  refine GE.q 4 rfl (by as_aux_lemma => kernel_rfl) rfl (bc (ba rfl)) rfl ?_; refine GE.q 6 rfl (by as_aux_lemma => kernel_rfl) rfl (bc (ba rfl)) rfl ?_; refine GE.q 9 rfl (by as_aux_lemma => kernel_rfl) rfl (bc (bj 0 rfl rfl rfl)) rfl ?_; refine GE.any (rs := [5, 7]) (by as_aux_lemma => kernel_rfl) (by simp) ?_; refine List.forall_mem_cons.2 ⟨?_, List.forall_mem_cons.2 ⟨?_, fun _ h => absurd h List.not_mem_nil⟩⟩
  focus
   refine GE.I rfl rfl rfl (bH rfl rfl (fun w hh => clone_any (l := us) w (Rd.stays h4 _ hh) (by omega))) rfl (fun _ _ h => by exact h.drop 1) ?_; rintro v1 hv1; try dsimp only
   refine GE.V 7 (by as_aux_lemma => kernel_rfl) rfl rfl (bq rfl (.cons rfl .nil) rfl rfl rfl rfl rfl rfl) rfl (fun _ _ h => by exact h.drop 2) (fun vl _ => ?_); refine GE.V 8 (by as_aux_lemma => kernel_rfl) rfl rfl (bU rfl rfl rfl (by exact Rd.ba 0 rfl) rfl rfl (by (simp; omega)) (by (simp; omega))) rfl (fun _ _ h => by exact h.drop 2) (fun va _ => ?_); refine GE.V 10 (by as_aux_lemma => kernel_rfl) rfl rfl (bT rfl rfl (fun w hh => (within_any (r := r) (us := us ++ [u]) w (Rd.stays h _ hh) (Rd.stays h2 _ hh) (Rd.stays h3 _ hh) (by rw [← bW]; exact Rd.ba 1 rfl _ hh) (by rw [List.length_append]; exact hul) (mst r)).toFn)) rfl (fun _ _ h => by exact h.drop 2) ?_; rintro ⟨⟩ _; try dsimp only
   refine GE.V 11 (by as_aux_lemma => kernel_rfl) rfl rfl (bd (bk rfl rfl)) rfl (fun _ _ h => by exact h.drop 2) (fun _ _ => ?_); refine GE.t 12 (by as_aux_lemma => kernel_rfl) rfl rfl rfl (bd (bb rfl)) rfl (fun _ _ => ?_); refine GE.E (by as_aux_lemma => kernel_rfl) ?_
  rotate_left
  focus
   refine GE.I rfl rfl rfl (bq rfl (.cons rfl .nil) rfl rfl rfl rfl rfl rfl) rfl (fun _ _ h => by exact h.drop 1) (fun vl _ => ?_); refine GE.V 5 (by as_aux_lemma => kernel_rfl) rfl rfl (bH rfl rfl (fun w hh => clone_any (l := us) w (Rd.stays h4 _ hh) (by omega))) rfl (fun _ _ h => by exact h.drop 2) ?_; rintro v1 hv1; try dsimp only
   refine GE.V 8 (by as_aux_lemma => kernel_rfl) rfl rfl (cS rfl rfl rfl (by exact Rd.ba 1 rfl) rfl rfl (by (simp; omega)) (by (simp; omega))) rfl (fun _ _ h => by exact h.drop 2) (fun va _ => ?_); refine GE.V 10 (by as_aux_lemma => kernel_rfl) rfl rfl (bT rfl rfl (fun w hh => (within_any (r := r) (us := us ++ [u]) w (Rd.stays h _ hh) (Rd.stays h2 _ hh) (Rd.stays h3 _ hh) (by rw [← bW]; exact Rd.ba 0 rfl _ hh) (by rw [List.length_append]; exact hul) (mst r)).toFn)) rfl (fun _ _ h => by exact h.drop 2) ?_; rintro ⟨⟩ _; try dsimp only
   refine GE.V 11 (by as_aux_lemma => kernel_rfl) rfl rfl (bd (bk rfl rfl)) rfl (fun _ _ h => by exact h.drop 2) (fun _ _ => ?_); refine GE.t 12 (by as_aux_lemma => kernel_rfl) rfl rfl rfl (bd (bb rfl)) rfl (fun _ _ => ?_); refine GE.E (by as_aux_lemma => kernel_rfl) ?_
  rotate_left
  all_goals
   refine G.E (G.ret ?_); refine G.U rfl rfl (congrArg Value.bool ?_); rw [room_yes hyes]; rfl
omit h4 in
theorem room_noW (u : Int) (hno : ¬ classM r = 0) : FnV Tryz.prog 178 [.agg (r.cells pv tv iv).toArray, uv, .int .i64 u] w (.bool (roomM r us u)) := by
  refine FnV.of (n := 26) Tryz.func178 rfl rfl ?_; refine G.seq (G.region ?_); refine G.op (bE rfl rfl) rfl (fun bk3 _ => ?_); refine G.v (bb rfl) rfl (G.I (G.E (G.seq (G.region (G.v (bj 0 rfl rfl rfl) rfl ?_))))); refine G.op (bh rfl rfl (fun w hh => masterOf_any (r := r) w (Rd.stays h2 _ hh))) rfl (fun _ _ => ?_); refine G.v (ba rfl) rfl (G.v (bC rfl rfl) rfl (G.v (bC rfl rfl) rfl ?_)); refine G.op (bu) rfl (fun bk7 _ => ?_); refine G.bk (bL rfl rfl rfl rfl rfl rfl (.zero (.cons (.cons (.cons (.cons (.cons (.cons (.cons .nil))))))))) (fun _ _ => ?_); refine G.v (bb rfl) rfl (G.I (G.E (G.seq ?_))); refine G.ba [12] ?_; refine GE.V 0 (by as_aux_lemma => kernel_rfl) rfl rfl (bd (bj 1 rfl rfl rfl)) rfl (fun _ _ h => by exact h) (fun _ _ => ?_); refine GE.V 1 (by as_aux_lemma => kernel_rfl) rfl rfl (bh rfl rfl (fun w hh => (dc (r := r) w (Rd.stays h _ hh) (Rd.stays h2 _ hh) (Rd.stays h3 _ hh)).mono (show Value.bool (decide (classM r = 0)) = Value.bool false by rw [decide_eq_false hno]))) rfl (fun _ _ h => by exact h) (fun _ _ => ?_); refine GE.V 2 (by as_aux_lemma => kernel_rfl) rfl rfl (bd (ba rfl)) rfl (fun _ _ h => by exact h) (fun _ _ => ?_); refine GE.O 3 rfl (by as_aux_lemma => kernel_rfl) rfl rfl ?_; refine GE.O 4 rfl (by as_aux_lemma => kernel_rfl) rfl rfl ?_
  refine GE.O 5 rfl (by as_aux_lemma => kernel_rfl) rfl rfl ?_; refine GE.O 6 rfl (by as_aux_lemma => kernel_rfl) rfl rfl ?_; refine GE.O 7 rfl (by as_aux_lemma => kernel_rfl) rfl rfl ?_; refine GE.O 8 rfl (by as_aux_lemma => kernel_rfl) rfl rfl ?_; refine GE.O 9 rfl (by as_aux_lemma => kernel_rfl) rfl rfl ?_; refine GE.O 10 rfl (by as_aux_lemma => kernel_rfl) rfl rfl ?_; refine GE.V 11 (by as_aux_lemma => kernel_rfl) rfl rfl (bd (bm rfl rfl)) rfl (fun _ _ h => by exact h) (fun _ _ => ?_); refine GE.t 12 (by as_aux_lemma => kernel_rfl) rfl rfl rfl (bd (bb rfl)) rfl (fun _ _ => ?_); refine GE.E (by as_aux_lemma => kernel_rfl) ?_; refine G.E (G.ret ?_); refine G.U rfl rfl (congrArg Value.bool ?_); rw [roomM, decide_eq_false hno, Bool.false_and]
theorem room_any (hul : us.length + 1 ≤ 1048576) (u : Int) : FnV Tryz.prog 178 [.agg (r.cells pv tv iv).toArray, uv, .int .i64 u] w (.bool (roomM r us u)) := by
  by_cases hc : classM r = 0
  · exact room_yesW w h h2 h3 h4 hul u hc
  · exact room_noW w h h2 h3 u hc
omit h h2 in
theorem l7Room_any (hul : us.length + 1 ≤ 1048576) (t : TypeM) (u : Int) {av : Value} (h5 : Rd w av 1 ((unitsM r).map ncell)) : FnV Tryz.prog 235 [.agg (r.cells pv tv iv).toArray, av, t.val, uv, .int .i64 u] w (.bool (withinT r (us ++ [u]) t)) := by
  have hul2 : (us.map icell).length = us.length := by simp
  refine FnV.of (n := 38) Tryz.func235 rfl rfl ?_; refine G.seq (G.region ?_); refine G.op (bE rfl rfl) rfl (fun bk5 _ => ?_); refine G.op (bE rfl rfl) rfl (fun bk7 _ => ?_); refine G.v (bb rfl) rfl (G.I (G.E (G.seq ?_))); refine G.ba [10] ?_; refine GE.q 0 rfl (by as_aux_lemma => kernel_rfl) rfl (bc (bj 1 rfl rfl rfl)) rfl ?_; refine GE.q 1 rfl (by as_aux_lemma => kernel_rfl) rfl (bc (ba rfl)) rfl ?_; refine GE.q 3 rfl (by as_aux_lemma => kernel_rfl) rfl (bc (ba rfl)) rfl ?_; refine GE.q 5 rfl (by as_aux_lemma => kernel_rfl) rfl (bc (ba rfl)) rfl ?_; refine GE.any (rs := [2, 6, 9]) (by as_aux_lemma => kernel_rfl) (by simp) ?_; refine List.forall_mem_cons.2 ⟨?_, List.forall_mem_cons.2 ⟨?_, List.forall_mem_cons.2 ⟨?_, fun _ h => absurd h List.not_mem_nil⟩⟩⟩
  focus
   refine GE.I rfl rfl rfl (bq rfl .nil rfl rfl rfl rfl rfl rfl) rfl (fun _ _ h => by exact h.drop 1) (fun vz _ => ?_); refine GE.any (rs := [4, 6, 9]) (by as_aux_lemma => kernel_rfl) (by simp) ?_; refine List.forall_mem_cons.2 ⟨?_, List.forall_mem_cons.2 ⟨?_, List.forall_mem_cons.2 ⟨?_, fun _ h => absurd h List.not_mem_nil⟩⟩⟩
   focus
    refine GE.I rfl rfl rfl (cS rfl rfl rfl (by exact Rd.stays (by assumption)) rfl rfl (by (simp; omega)) (by (simp; omega))) rfl (fun _ _ h => by exact h.drop 1) (fun vy _ => ?_); refine GE.any (rs := [6, 9]) (by as_aux_lemma => kernel_rfl) (by simp) ?_; refine List.forall_mem_cons.2 ⟨?_, List.forall_mem_cons.2 ⟨?_, fun _ h => absurd h List.not_mem_nil⟩⟩
    focus
     refine GE.I rfl rfl rfl (bq rfl (.cons rfl .nil) rfl rfl rfl rfl rfl rfl) rfl (fun _ _ h => by exact h.drop 2) (fun vx _ => ?_); refine GE.any (rs := [7, 9]) (by as_aux_lemma => kernel_rfl) (by simp) ?_; refine List.forall_mem_cons.2 ⟨?_, List.forall_mem_cons.2 ⟨?_, fun _ h => absurd h List.not_mem_nil⟩⟩
     focus
      refine GE.I rfl rfl rfl (bU rfl rfl rfl (by exact Rd.ba 0 rfl) rfl rfl (by (simp; omega)) (by (simp; omega))) rfl (fun _ _ h => by exact h.drop 2) (fun va _ => ?_); refine GE.any (rs := [8, 9]) (by as_aux_lemma => kernel_rfl) (by simp) ?_; refine List.forall_mem_cons.2 ⟨?_, List.forall_mem_cons.2 ⟨?_, fun _ h => absurd h List.not_mem_nil⟩⟩
      focus
       refine GE.I rfl rfl rfl (bT rfl rfl (fun w hh => (ca (r := r) (us := us ++ [u]) w (Rd.stays h3 _ hh) (by rw [← bW]; exact Rd.ba 1 rfl _ hh) (by rw [List.length_append]; exact hul) (Rd.stays h5 _ hh)).toFn)) rfl (fun _ _ h => by exact h.drop 2) ?_; rintro ⟨⟩ _; try dsimp only
       refine GE.V 9 (by as_aux_lemma => kernel_rfl) rfl rfl (bu) rfl (fun _ _ h => by exact h.drop 3) (fun bk11 _ => ?_); refine GE.U 10 (by as_aux_lemma => kernel_rfl) rfl rfl rfl (bL rfl rfl rfl rfl rfl rfl (.zero (.cons (.cons .nil)))) (fun _ _ => ?_); refine GE.E (by as_aux_lemma => kernel_rfl) ?_
      rotate_left
      focus
       refine GE.I rfl rfl rfl (bu) rfl (fun _ _ h => by exact h.drop 3) (fun bk11 _ => ?_); refine GE.V 8 (by as_aux_lemma => kernel_rfl) rfl rfl (bT rfl rfl (fun w hh => (ca (r := r) (us := us ++ [u]) w (Rd.stays h3 _ hh) (by rw [← bW]; exact Rd.ba 2 rfl _ hh) (by rw [List.length_append]; exact hul) (Rd.stays h5 _ hh)).toFn)) rfl (fun _ _ h => by exact h.drop 3) ?_; rintro ⟨⟩ _; try dsimp only
       refine GE.U 10 (by as_aux_lemma => kernel_rfl) rfl rfl rfl (bL rfl rfl rfl rfl rfl rfl (.zero (.cons (.cons .nil)))) (fun _ _ => ?_); refine GE.E (by as_aux_lemma => kernel_rfl) ?_
      rotate_left
     rotate_left 2
     focus
      refine GE.I rfl rfl rfl (bu) rfl (fun _ _ h => by exact h.drop 3) (fun bk11 _ => ?_); refine GE.V 7 (by as_aux_lemma => kernel_rfl) rfl rfl (cC rfl rfl rfl (by exact Rd.ba 1 rfl) rfl rfl (by (simp; omega)) (by (simp; omega))) rfl (fun _ _ h => by exact h.drop 3) (fun va _ => ?_); refine GE.V 8 (by as_aux_lemma => kernel_rfl) rfl rfl (bT rfl rfl (fun w hh => (ca (r := r) (us := us ++ [u]) w (Rd.stays h3 _ hh) (by rw [← bW]; exact Rd.ba 2 rfl _ hh) (by rw [List.length_append]; exact hul) (Rd.stays h5 _ hh)).toFn)) rfl (fun _ _ h => by exact h.drop 3) ?_; rintro ⟨⟩ _; try dsimp only
      refine GE.U 10 (by as_aux_lemma => kernel_rfl) rfl rfl rfl (bL rfl rfl rfl rfl rfl rfl (.zero (.cons (.cons .nil)))) (fun _ _ => ?_); refine GE.E (by as_aux_lemma => kernel_rfl) ?_
     rotate_left
    rotate_left 3
    focus
     refine GE.I rfl rfl rfl (bu) rfl (fun _ _ h => by exact h.drop 2) (fun bk11 _ => ?_); refine GE.V 6 (by as_aux_lemma => kernel_rfl) rfl rfl (bq rfl (.cons rfl .nil) rfl rfl rfl rfl rfl rfl) rfl (fun _ _ h => by exact h.drop 3) (fun vx _ => ?_); refine GE.V 7 (by as_aux_lemma => kernel_rfl) rfl rfl (cC rfl rfl rfl (by exact Rd.ba 0 rfl) rfl rfl (by (simp; omega)) (by (simp; omega))) rfl (fun _ _ h => by exact h.drop 3) (fun va _ => ?_); refine GE.V 8 (by as_aux_lemma => kernel_rfl) rfl rfl (bT rfl rfl (fun w hh => (ca (r := r) (us := us ++ [u]) w (Rd.stays h3 _ hh) (by rw [← bW]; exact Rd.ba 2 rfl _ hh) (by rw [List.length_append]; exact hul) (Rd.stays h5 _ hh)).toFn)) rfl (fun _ _ h => by exact h.drop 3) ?_; rintro ⟨⟩ _; try dsimp only
     refine GE.U 10 (by as_aux_lemma => kernel_rfl) rfl rfl rfl (cf rfl rfl rfl rfl rfl rfl (.zero (.cons (.cons .nil)))) (fun _ _ => ?_); refine GE.E (by as_aux_lemma => kernel_rfl) ?_
    rotate_left
   rotate_left 4
   focus
    refine GE.I rfl rfl rfl (bq rfl (.cons rfl .nil) rfl rfl rfl rfl rfl rfl) rfl (fun _ _ h => by exact h.drop 2) (fun vx _ => ?_); refine GE.any (rs := [4, 9]) (by as_aux_lemma => kernel_rfl) (by simp) ?_; refine List.forall_mem_cons.2 ⟨?_, List.forall_mem_cons.2 ⟨?_, fun _ h => absurd h List.not_mem_nil⟩⟩
    focus
     refine GE.I rfl rfl rfl (bU rfl rfl rfl (by exact Rd.stays (by assumption)) rfl rfl (by (simp; omega)) (by (simp; omega))) rfl (fun _ _ h => by exact h.drop 2) (fun vy _ => ?_); refine GE.any (rs := [7, 9]) (by as_aux_lemma => kernel_rfl) (by simp) ?_; refine List.forall_mem_cons.2 ⟨?_, List.forall_mem_cons.2 ⟨?_, fun _ h => absurd h List.not_mem_nil⟩⟩
     focus
      refine GE.I rfl rfl rfl (bU rfl rfl rfl (by exact Rd.ba 0 rfl) rfl rfl (by (simp; omega)) (by (simp; omega))) rfl (fun _ _ h => by exact h.drop 2) (fun va _ => ?_); refine GE.any (rs := [8, 9]) (by as_aux_lemma => kernel_rfl) (by simp) ?_; refine List.forall_mem_cons.2 ⟨?_, List.forall_mem_cons.2 ⟨?_, fun _ h => absurd h List.not_mem_nil⟩⟩
      focus
       refine GE.I rfl rfl rfl (bT rfl rfl (fun w hh => (ca (r := r) (us := us ++ [u]) w (Rd.stays h3 _ hh) (by rw [← bW]; exact Rd.ba 1 rfl _ hh) (by rw [List.length_append]; exact hul) (Rd.stays h5 _ hh)).toFn)) rfl (fun _ _ h => by exact h.drop 2) ?_; rintro ⟨⟩ _; try dsimp only
       refine GE.V 9 (by as_aux_lemma => kernel_rfl) rfl rfl (bu) rfl (fun _ _ h => by exact h.drop 3) (fun bk11 _ => ?_); refine GE.U 10 (by as_aux_lemma => kernel_rfl) rfl rfl rfl (bL rfl rfl rfl rfl rfl rfl (.zero (.cons (.cons .nil)))) (fun _ _ => ?_); refine GE.E (by as_aux_lemma => kernel_rfl) ?_
      rotate_left
      focus
       refine GE.I rfl rfl rfl (bu) rfl (fun _ _ h => by exact h.drop 3) (fun bk11 _ => ?_); refine GE.V 8 (by as_aux_lemma => kernel_rfl) rfl rfl (bT rfl rfl (fun w hh => (ca (r := r) (us := us ++ [u]) w (Rd.stays h3 _ hh) (by rw [← bW]; exact Rd.ba 2 rfl _ hh) (by rw [List.length_append]; exact hul) (Rd.stays h5 _ hh)).toFn)) rfl (fun _ _ h => by exact h.drop 3) ?_; rintro ⟨⟩ _; try dsimp only
       refine GE.U 10 (by as_aux_lemma => kernel_rfl) rfl rfl rfl (bL rfl rfl rfl rfl rfl rfl (.zero (.cons (.cons .nil)))) (fun _ _ => ?_); refine GE.E (by as_aux_lemma => kernel_rfl) ?_
      rotate_left
     rotate_left 2
     focus
      refine GE.I rfl rfl rfl (bu) rfl (fun _ _ h => by exact h.drop 3) (fun bk11 _ => ?_); refine GE.V 7 (by as_aux_lemma => kernel_rfl) rfl rfl (cC rfl rfl rfl (by exact Rd.ba 1 rfl) rfl rfl (by (simp; omega)) (by (simp; omega))) rfl (fun _ _ h => by exact h.drop 3) (fun va _ => ?_); refine GE.V 8 (by as_aux_lemma => kernel_rfl) rfl rfl (bT rfl rfl (fun w hh => (ca (r := r) (us := us ++ [u]) w (Rd.stays h3 _ hh) (by rw [← bW]; exact Rd.ba 2 rfl _ hh) (by rw [List.length_append]; exact hul) (Rd.stays h5 _ hh)).toFn)) rfl (fun _ _ h => by exact h.drop 3) ?_; rintro ⟨⟩ _; try dsimp only
      refine GE.U 10 (by as_aux_lemma => kernel_rfl) rfl rfl rfl (bL rfl rfl rfl rfl rfl rfl (.zero (.cons (.cons .nil)))) (fun _ _ => ?_); refine GE.E (by as_aux_lemma => kernel_rfl) ?_
     rotate_left
    rotate_left 3
    focus
     refine GE.I rfl rfl rfl (bu) rfl (fun _ _ h => by exact h.drop 3) (fun bk11 _ => ?_); refine GE.V 4 (by as_aux_lemma => kernel_rfl) rfl rfl (cC rfl rfl rfl (by exact Rd.stays (by assumption)) rfl rfl (by (simp; omega)) (by (simp; omega))) rfl (fun _ _ h => by exact h.drop 3) (fun vy _ => ?_); refine GE.V 7 (by as_aux_lemma => kernel_rfl) rfl rfl (cC rfl rfl rfl (by exact Rd.ba 1 rfl) rfl rfl (by (simp; omega)) (by (simp; omega))) rfl (fun _ _ h => by exact h.drop 3) (fun va _ => ?_); refine GE.V 8 (by as_aux_lemma => kernel_rfl) rfl rfl (bT rfl rfl (fun w hh => (ca (r := r) (us := us ++ [u]) w (Rd.stays h3 _ hh) (by rw [← bW]; exact Rd.ba 2 rfl _ hh) (by rw [List.length_append]; exact hul) (Rd.stays h5 _ hh)).toFn)) rfl (fun _ _ h => by exact h.drop 3) ?_; rintro ⟨⟩ _; try dsimp only
     refine GE.U 10 (by as_aux_lemma => kernel_rfl) rfl rfl rfl (bL rfl rfl rfl rfl rfl rfl (.zero (.cons (.cons .nil)))) (fun _ _ => ?_); refine GE.E (by as_aux_lemma => kernel_rfl) ?_
    rotate_left
   rotate_left 4
   focus
    refine GE.I rfl rfl rfl (bu) rfl (fun _ _ h => by exact h.drop 2) (fun bk11 _ => ?_); refine GE.any (rs := [4, 6]) (by as_aux_lemma => kernel_rfl) (by simp) ?_; refine List.forall_mem_cons.2 ⟨?_, List.forall_mem_cons.2 ⟨?_, fun _ h => absurd h List.not_mem_nil⟩⟩
    focus
     refine GE.I rfl rfl rfl (bU rfl rfl rfl (by exact Rd.stays (by assumption)) rfl rfl (by (simp; omega)) (by (simp; omega))) rfl (fun _ _ h => by exact h.drop 2) (fun vy _ => ?_); refine GE.V 6 (by as_aux_lemma => kernel_rfl) rfl rfl (bq rfl (.cons rfl .nil) rfl rfl rfl rfl rfl rfl) rfl (fun _ _ h => by exact h.drop 3) (fun vx _ => ?_); refine GE.V 7 (by as_aux_lemma => kernel_rfl) rfl rfl (cC rfl rfl rfl (by exact Rd.ba 0 rfl) rfl rfl (by (simp; omega)) (by (simp; omega))) rfl (fun _ _ h => by exact h.drop 3) (fun va _ => ?_); refine GE.V 8 (by as_aux_lemma => kernel_rfl) rfl rfl (bT rfl rfl (fun w hh => (ca (r := r) (us := us ++ [u]) w (Rd.stays h3 _ hh) (by rw [← bW]; exact Rd.ba 2 rfl _ hh) (by rw [List.length_append]; exact hul) (Rd.stays h5 _ hh)).toFn)) rfl (fun _ _ h => by exact h.drop 3) ?_; rintro ⟨⟩ _; try dsimp only
     refine GE.U 10 (by as_aux_lemma => kernel_rfl) rfl rfl rfl (cf rfl rfl rfl rfl rfl rfl (.zero (.cons (.cons .nil)))) (fun _ _ => ?_); refine GE.E (by as_aux_lemma => kernel_rfl) ?_
    rotate_left
    focus
     refine GE.I rfl rfl rfl (bq rfl (.cons rfl .nil) rfl rfl rfl rfl rfl rfl) rfl (fun _ _ h => by exact h.drop 3) (fun vx _ => ?_); refine GE.V 4 (by as_aux_lemma => kernel_rfl) rfl rfl (cC rfl rfl rfl (by exact Rd.stays (by assumption)) rfl rfl (by (simp; omega)) (by (simp; omega))) rfl (fun _ _ h => by exact h.drop 3) (fun vy _ => ?_); refine GE.V 7 (by as_aux_lemma => kernel_rfl) rfl rfl (cC rfl rfl rfl (by exact Rd.ba 0 rfl) rfl rfl (by (simp; omega)) (by (simp; omega))) rfl (fun _ _ h => by exact h.drop 3) (fun va _ => ?_); refine GE.V 8 (by as_aux_lemma => kernel_rfl) rfl rfl (bT rfl rfl (fun w hh => (ca (r := r) (us := us ++ [u]) w (Rd.stays h3 _ hh) (by rw [← bW]; exact Rd.ba 2 rfl _ hh) (by rw [List.length_append]; exact hul) (Rd.stays h5 _ hh)).toFn)) rfl (fun _ _ h => by exact h.drop 3) ?_; rintro ⟨⟩ _; try dsimp only
     refine GE.U 10 (by as_aux_lemma => kernel_rfl) rfl rfl rfl (cf rfl rfl rfl rfl rfl rfl (.zero (.cons (.cons .nil)))) (fun _ _ => ?_); refine GE.E (by as_aux_lemma => kernel_rfl) ?_
    rotate_left
   rotate_left 2
  rotate_left 10
  focus
   refine GE.I rfl rfl rfl (bq rfl (.cons rfl .nil) rfl rfl rfl rfl rfl rfl) rfl (fun _ _ h => by exact h.drop 1) (fun vx _ => ?_); refine GE.any (rs := [2, 9]) (by as_aux_lemma => kernel_rfl) (by simp) ?_; refine List.forall_mem_cons.2 ⟨?_, List.forall_mem_cons.2 ⟨?_, fun _ h => absurd h List.not_mem_nil⟩⟩
   focus
    refine GE.I rfl rfl rfl (bq rfl .nil rfl rfl rfl rfl rfl rfl) rfl (fun _ _ h => by exact h.drop 2) (fun vz _ => ?_); refine GE.any (rs := [4, 9]) (by as_aux_lemma => kernel_rfl) (by simp) ?_; refine List.forall_mem_cons.2 ⟨?_, List.forall_mem_cons.2 ⟨?_, fun _ h => absurd h List.not_mem_nil⟩⟩
    focus
     refine GE.I rfl rfl rfl (cS rfl rfl rfl (by exact Rd.stays (by assumption)) rfl rfl (by (simp; omega)) (by (simp; omega))) rfl (fun _ _ h => by exact h.drop 2) (fun vy _ => ?_); refine GE.any (rs := [7, 9]) (by as_aux_lemma => kernel_rfl) (by simp) ?_; refine List.forall_mem_cons.2 ⟨?_, List.forall_mem_cons.2 ⟨?_, fun _ h => absurd h List.not_mem_nil⟩⟩
     focus
      refine GE.I rfl rfl rfl (cS rfl rfl rfl (by exact Rd.ba 1 rfl) rfl rfl (by (simp; omega)) (by (simp; omega))) rfl (fun _ _ h => by exact h.drop 2) (fun va _ => ?_); refine GE.any (rs := [8, 9]) (by as_aux_lemma => kernel_rfl) (by simp) ?_; refine List.forall_mem_cons.2 ⟨?_, List.forall_mem_cons.2 ⟨?_, fun _ h => absurd h List.not_mem_nil⟩⟩
      focus
       refine GE.I rfl rfl rfl (bT rfl rfl (fun w hh => (ca (r := r) (us := us ++ [u]) w (Rd.stays h3 _ hh) (by rw [← bW]; exact Rd.ba 0 rfl _ hh) (by rw [List.length_append]; exact hul) (Rd.stays h5 _ hh)).toFn)) rfl (fun _ _ h => by exact h.drop 2) ?_; rintro ⟨⟩ _; try dsimp only
       refine GE.V 9 (by as_aux_lemma => kernel_rfl) rfl rfl (bu) rfl (fun _ _ h => by exact h.drop 3) (fun bk11 _ => ?_); refine GE.U 10 (by as_aux_lemma => kernel_rfl) rfl rfl rfl (bL rfl rfl rfl rfl rfl rfl (.zero (.cons (.cons .nil)))) (fun _ _ => ?_); refine GE.E (by as_aux_lemma => kernel_rfl) ?_
      rotate_left
      focus
       refine GE.I rfl rfl rfl (bu) rfl (fun _ _ h => by exact h.drop 3) (fun bk11 _ => ?_); refine GE.V 8 (by as_aux_lemma => kernel_rfl) rfl rfl (bT rfl rfl (fun w hh => (ca (r := r) (us := us ++ [u]) w (Rd.stays h3 _ hh) (by rw [← bW]; exact Rd.ba 1 rfl _ hh) (by rw [List.length_append]; exact hul) (Rd.stays h5 _ hh)).toFn)) rfl (fun _ _ h => by exact h.drop 3) ?_; rintro ⟨⟩ _; try dsimp only
       refine GE.U 10 (by as_aux_lemma => kernel_rfl) rfl rfl rfl (bL rfl rfl rfl rfl rfl rfl (.zero (.cons (.cons .nil)))) (fun _ _ => ?_); refine GE.E (by as_aux_lemma => kernel_rfl) ?_
      rotate_left
     rotate_left 2
     focus
      refine GE.I rfl rfl rfl (bu) rfl (fun _ _ h => by exact h.drop 3) (fun bk11 _ => ?_); refine GE.V 7 (by as_aux_lemma => kernel_rfl) rfl rfl (bU rfl rfl rfl (by exact Rd.ba 2 rfl) rfl rfl (by (simp; omega)) (by (simp; omega))) rfl (fun _ _ h => by exact h.drop 3) (fun va _ => ?_); refine GE.V 8 (by as_aux_lemma => kernel_rfl) rfl rfl (bT rfl rfl (fun w hh => (ca (r := r) (us := us ++ [u]) w (Rd.stays h3 _ hh) (by rw [← bW]; exact Rd.ba 1 rfl _ hh) (by rw [List.length_append]; exact hul) (Rd.stays h5 _ hh)).toFn)) rfl (fun _ _ h => by exact h.drop 3) ?_; rintro ⟨⟩ _; try dsimp only
      refine GE.U 10 (by as_aux_lemma => kernel_rfl) rfl rfl rfl (bL rfl rfl rfl rfl rfl rfl (.zero (.cons (.cons .nil)))) (fun _ _ => ?_); refine GE.E (by as_aux_lemma => kernel_rfl) ?_
     rotate_left
    rotate_left 3
    focus
     refine GE.I rfl rfl rfl (bu) rfl (fun _ _ h => by exact h.drop 3) (fun bk11 _ => ?_); refine GE.V 4 (by as_aux_lemma => kernel_rfl) rfl rfl (bU rfl rfl rfl (by exact Rd.stays (by assumption)) rfl rfl (by (simp; omega)) (by (simp; omega))) rfl (fun _ _ h => by exact h.drop 3) (fun vy _ => ?_); refine GE.V 7 (by as_aux_lemma => kernel_rfl) rfl rfl (bU rfl rfl rfl (by exact Rd.ba 2 rfl) rfl rfl (by (simp; omega)) (by (simp; omega))) rfl (fun _ _ h => by exact h.drop 3) (fun va _ => ?_); refine GE.V 8 (by as_aux_lemma => kernel_rfl) rfl rfl (bT rfl rfl (fun w hh => (ca (r := r) (us := us ++ [u]) w (Rd.stays h3 _ hh) (by rw [← bW]; exact Rd.ba 1 rfl _ hh) (by rw [List.length_append]; exact hul) (Rd.stays h5 _ hh)).toFn)) rfl (fun _ _ h => by exact h.drop 3) ?_; rintro ⟨⟩ _; try dsimp only
     refine GE.U 10 (by as_aux_lemma => kernel_rfl) rfl rfl rfl (bL rfl rfl rfl rfl rfl rfl (.zero (.cons (.cons .nil)))) (fun _ _ => ?_); refine GE.E (by as_aux_lemma => kernel_rfl) ?_
    rotate_left
   rotate_left 4
   focus
    refine GE.I rfl rfl rfl (bu) rfl (fun _ _ h => by exact h.drop 2) (fun bk11 _ => ?_); refine GE.V 2 (by as_aux_lemma => kernel_rfl) rfl rfl (bq rfl .nil rfl rfl rfl rfl rfl rfl) rfl (fun _ _ h => by exact h.drop 3) (fun vz _ => ?_); refine GE.V 4 (by as_aux_lemma => kernel_rfl) rfl rfl (cS rfl rfl rfl (by exact Rd.stays (by assumption)) rfl rfl (by (simp; omega)) (by (simp; omega))) rfl (fun _ _ h => by exact h.drop 3) (fun vy _ => ?_); refine GE.V 7 (by as_aux_lemma => kernel_rfl) rfl rfl (cS rfl rfl rfl (by exact Rd.ba 2 rfl) rfl rfl (by (simp; omega)) (by (simp; omega))) rfl (fun _ _ h => by exact h.drop 3) (fun va _ => ?_); refine GE.V 8 (by as_aux_lemma => kernel_rfl) rfl rfl (bT rfl rfl (fun w hh => (ca (r := r) (us := us ++ [u]) w (Rd.stays h3 _ hh) (by rw [← bW]; exact Rd.ba 0 rfl _ hh) (by rw [List.length_append]; exact hul) (Rd.stays h5 _ hh)).toFn)) rfl (fun _ _ h => by exact h.drop 3) ?_; rintro ⟨⟩ _; try dsimp only
    refine GE.U 10 (by as_aux_lemma => kernel_rfl) rfl rfl rfl (cf rfl rfl rfl rfl rfl rfl (.zero (.cons (.cons .nil)))) (fun _ _ => ?_); refine GE.E (by as_aux_lemma => kernel_rfl) ?_
   rotate_left
  rotate_left 5
  focus
   refine GE.I rfl rfl rfl (bu) rfl (fun _ _ h => by exact h.drop 1) (fun bk11 _ => ?_); refine GE.any (rs := [2, 6]) (by as_aux_lemma => kernel_rfl) (by simp) ?_; refine List.forall_mem_cons.2 ⟨?_, List.forall_mem_cons.2 ⟨?_, fun _ h => absurd h List.not_mem_nil⟩⟩
   focus
    refine GE.I rfl rfl rfl (bq rfl .nil rfl rfl rfl rfl rfl rfl) rfl (fun _ _ h => by exact h.drop 2) (fun vz _ => ?_); refine GE.any (rs := [4, 6]) (by as_aux_lemma => kernel_rfl) (by simp) ?_; refine List.forall_mem_cons.2 ⟨?_, List.forall_mem_cons.2 ⟨?_, fun _ h => absurd h List.not_mem_nil⟩⟩
    focus
     refine GE.I rfl rfl rfl (cS rfl rfl rfl (by exact Rd.stays (by assumption)) rfl rfl (by (simp; omega)) (by (simp; omega))) rfl (fun _ _ h => by exact h.drop 2) (fun vy _ => ?_); refine GE.V 6 (by as_aux_lemma => kernel_rfl) rfl rfl (bq rfl (.cons rfl .nil) rfl rfl rfl rfl rfl rfl) rfl (fun _ _ h => by exact h.drop 3) (fun vx _ => ?_); refine GE.V 7 (by as_aux_lemma => kernel_rfl) rfl rfl (bU rfl rfl rfl (by exact Rd.ba 0 rfl) rfl rfl (by (simp; omega)) (by (simp; omega))) rfl (fun _ _ h => by exact h.drop 3) (fun va _ => ?_); refine GE.V 8 (by as_aux_lemma => kernel_rfl) rfl rfl (bT rfl rfl (fun w hh => (ca (r := r) (us := us ++ [u]) w (Rd.stays h3 _ hh) (by rw [← bW]; exact Rd.ba 1 rfl _ hh) (by rw [List.length_append]; exact hul) (Rd.stays h5 _ hh)).toFn)) rfl (fun _ _ h => by exact h.drop 3) ?_; rintro ⟨⟩ _; try dsimp only
     refine GE.U 10 (by as_aux_lemma => kernel_rfl) rfl rfl rfl (dN rfl rfl rfl rfl rfl rfl (.zero (.cons (.cons .nil)))) (fun _ _ => ?_); refine GE.E (by as_aux_lemma => kernel_rfl) ?_
    rotate_left
    focus
     refine GE.I rfl rfl rfl (bq rfl (.cons rfl .nil) rfl rfl rfl rfl rfl rfl) rfl (fun _ _ h => by exact h.drop 3) (fun vx _ => ?_); refine GE.V 4 (by as_aux_lemma => kernel_rfl) rfl rfl (bU rfl rfl rfl (by exact Rd.stays (by assumption)) rfl rfl (by (simp; omega)) (by (simp; omega))) rfl (fun _ _ h => by exact h.drop 3) (fun vy _ => ?_); refine GE.V 7 (by as_aux_lemma => kernel_rfl) rfl rfl (bU rfl rfl rfl (by exact Rd.ba 0 rfl) rfl rfl (by (simp; omega)) (by (simp; omega))) rfl (fun _ _ h => by exact h.drop 3) (fun va _ => ?_); refine GE.V 8 (by as_aux_lemma => kernel_rfl) rfl rfl (bT rfl rfl (fun w hh => (ca (r := r) (us := us ++ [u]) w (Rd.stays h3 _ hh) (by rw [← bW]; exact Rd.ba 1 rfl _ hh) (by rw [List.length_append]; exact hul) (Rd.stays h5 _ hh)).toFn)) rfl (fun _ _ h => by exact h.drop 3) ?_; rintro ⟨⟩ _; try dsimp only
     refine GE.U 10 (by as_aux_lemma => kernel_rfl) rfl rfl rfl (dN rfl rfl rfl rfl rfl rfl (.zero (.cons (.cons .nil)))) (fun _ _ => ?_); refine GE.E (by as_aux_lemma => kernel_rfl) ?_
    rotate_left
   rotate_left 2
   focus
    refine GE.I rfl rfl rfl (bq rfl (.cons rfl .nil) rfl rfl rfl rfl rfl rfl) rfl (fun _ _ h => by exact h.drop 2) (fun vx _ => ?_); refine GE.V 2 (by as_aux_lemma => kernel_rfl) rfl rfl (bq rfl .nil rfl rfl rfl rfl rfl rfl) rfl (fun _ _ h => by exact h.drop 3) (fun vz _ => ?_); refine GE.V 4 (by as_aux_lemma => kernel_rfl) rfl rfl (cS rfl rfl rfl (by exact Rd.stays (by assumption)) rfl rfl (by (simp; omega)) (by (simp; omega))) rfl (fun _ _ h => by exact h.drop 3) (fun vy _ => ?_); refine GE.V 7 (by as_aux_lemma => kernel_rfl) rfl rfl (cS rfl rfl rfl (by exact Rd.ba 1 rfl) rfl rfl (by (simp; omega)) (by (simp; omega))) rfl (fun _ _ h => by exact h.drop 3) (fun va _ => ?_); refine GE.V 8 (by as_aux_lemma => kernel_rfl) rfl rfl (bT rfl rfl (fun w hh => (ca (r := r) (us := us ++ [u]) w (Rd.stays h3 _ hh) (by rw [← bW]; exact Rd.ba 0 rfl _ hh) (by rw [List.length_append]; exact hul) (Rd.stays h5 _ hh)).toFn)) rfl (fun _ _ h => by exact h.drop 3) ?_; rintro ⟨⟩ _; try dsimp only
    refine GE.U 10 (by as_aux_lemma => kernel_rfl) rfl rfl rfl (dN rfl rfl rfl rfl rfl rfl (.zero (.cons (.cons .nil)))) (fun _ _ => ?_); refine GE.E (by as_aux_lemma => kernel_rfl) ?_
   rotate_left
  rotate_left 3
  all_goals
   refine G.E (G.seq ?_); refine G.ba [17] ?_; refine GE.q 0 rfl (by as_aux_lemma => kernel_rfl) rfl (bc (be rfl)) rfl ?_
   first | refine GE.q 1 rfl (by as_aux_lemma => kernel_rfl) rfl (bc (bf 0 rfl rfl rfl)) rfl ?_ | refine GE.q 1 rfl (by as_aux_lemma => kernel_rfl) rfl (bc (bf 1 rfl rfl rfl)) rfl ?_ | refine GE.q 1 rfl (by as_aux_lemma => kernel_rfl) rfl (bc (bf 2 rfl rfl rfl)) rfl ?_
   refine GE.q 2 rfl (by as_aux_lemma => kernel_rfl) rfl (bc (be rfl)) rfl ?_; refine GE.q 3 rfl (by as_aux_lemma => kernel_rfl) rfl (bc (bf 3 rfl rfl rfl)) rfl ?_; refine GE.q 4 rfl (by as_aux_lemma => kernel_rfl) rfl (bc (be rfl)) rfl ?_; refine GE.q 5 rfl (by as_aux_lemma => kernel_rfl) rfl (bc (bf 3 rfl rfl rfl)) rfl ?_; refine GE.V 6 (by as_aux_lemma => kernel_rfl) rfl rfl (bd (be rfl)) rfl (fun _ _ h => by exact h) (fun _ _ => ?_); refine GE.V 7 (by as_aux_lemma => kernel_rfl) rfl rfl (bd (bf 3 rfl rfl rfl)) rfl (fun _ _ h => by exact h) (fun _ _ => ?_); refine GE.V 8 (by as_aux_lemma => kernel_rfl) rfl rfl (bh rfl rfl (fun w hh => svolume_any t.w t.h t.d w)) rfl (fun _ _ h => by exact h) (fun _ _ => ?_); refine GE.V 9 (by as_aux_lemma => kernel_rfl) rfl rfl (bd (ci rfl rfl)) rfl (fun _ _ h => by exact h) (fun _ _ => ?_); refine GE.V 10 (by as_aux_lemma => kernel_rfl) rfl rfl (bd (ba rfl)) rfl (fun _ _ h => by exact h) (fun _ _ => ?_)
   all_goals (((with_reducible refine GE.part (t := 31) rfl (fun hg => ?_) (fun hg => ?_)) <;> (try exact Bool.noConfusion hg) <;> (first | (refine GE.q 11 rfl (by as_aux_lemma => kernel_rfl) rfl (bc (be rfl)) rfl ?_) | refine GE.O 11 rfl (by as_aux_lemma => kernel_rfl) rfl rfl ?_)))
   all_goals ((first | (first | refine GE.q 12 rfl (by as_aux_lemma => kernel_rfl) rfl (bc (bf 0 rfl rfl rfl)) rfl ?_ | refine GE.q 12 rfl (by as_aux_lemma => kernel_rfl) rfl (bc (bf 1 rfl rfl rfl)) rfl ?_ | refine GE.q 12 rfl (by as_aux_lemma => kernel_rfl) rfl (bc (bf 2 rfl rfl rfl)) rfl ?_) | refine GE.O 12 rfl (by as_aux_lemma => kernel_rfl) rfl rfl ?_))
   all_goals ((first | (refine GE.q 13 rfl (by as_aux_lemma => kernel_rfl) rfl (bc (be rfl)) rfl ?_) | refine GE.O 13 rfl (by as_aux_lemma => kernel_rfl) rfl rfl ?_))
   all_goals ((first | (refine GE.q 14 rfl (by as_aux_lemma => kernel_rfl) rfl (bc (bf 3 rfl rfl rfl)) rfl ?_) | refine GE.O 14 rfl (by as_aux_lemma => kernel_rfl) rfl rfl ?_))
   all_goals ((first | refine GE.q 15 rfl (by as_aux_lemma => kernel_rfl) rfl (bc (ci rfl rfl)) rfl ?_ | refine GE.O 15 rfl (by as_aux_lemma => kernel_rfl) rfl rfl ?_))
   all_goals ((first | refine GE.V 16 (by as_aux_lemma => kernel_rfl) rfl rfl (bd (bk rfl rfl)) rfl (fun _ _ h => by exact h) (fun _ _ => ?_) | refine GE.V 16 (by as_aux_lemma => kernel_rfl) rfl rfl (bd (bm rfl rfl)) rfl (fun _ _ h => by exact h) (fun _ _ => ?_)))
   all_goals (refine GE.t 17 (by as_aux_lemma => kernel_rfl) rfl rfl rfl (bd (bb rfl)) rfl (fun _ _ => ?_))
   all_goals
    refine GE.E (by as_aux_lemma => kernel_rfl) ?_; refine G.E (G.ret ?_)
    first | (refine G.U rfl rfl (congrArg Value.bool ?_); simp_all [withinT]; done) | (refine G.U rfl rfl (congrArg Value.bool ?_); simp_all [withinT]; intro hq9; omega)
end
theorem last_push {p : List Int → Bool} {ts : List (List Int × Value)} {x : Int} {v : Value} (h : lastM p (ts.map Prod.fst) x = ts.map Prod.fst ++ [[x]]) : lastM p (ts.map Prod.fst) x = (ts ++ [([x], v)]).map Prod.fst := by
  rw [h, List.map_append]; rfl
theorem last_into {p : List Int → Bool} {ts : List (List Int × Value)} {x : Int} {q : Nat} {b : List Int × Value} {v : Value} (hb : ts[q]? = some b) (hq : ts.length = q + 1) (hp : p b.1 = true) : lastM p (ts.map Prod.fst) x = (ts.set q (b.1 ++ [x], v)).map Prod.fst := by
  rw [last_yes (k := q) (b := b.1) (by rw [List.getElem?_map, hb]; rfl) (by rw [List.length_map]; exact hq) hp, List.map_set]
section
variable {r : ReqM} {pv tv iv uv : Value} {us : List Int} (w : World) (h : Rd w pv 2 (r.pairs.map PairM.cells)) (h2 : Rd w tv 7 (r.types.map TypeM.cells)) (h3 : Rd w iv 7 (r.items.map ItemM.cells)) (h4 : Rd w uv 1 (us.map icell)) (hul : us.length ≤ 1048576)
include h h2 h3 h4 hul
theorem nextFit_any : Fn Tryz.prog 127 [.agg (r.cells pv tv iv).toArray, uv] w (fun x : Value × List (List Int × Value) => x.1.oneCell' = true ∧ x.2.map Prod.fst = nextM r us) (fun x => x.1) (fun x => [.grp 3 1 (x.2.map (sub id)), .row x.1 52 1 (x.2.map gcell)]) := by
  obtain ⟨T, hT⟩ : ∃ T, T = thereM r us := ⟨_, rfl⟩
  have hTl : T.length ≤ 1048576 := by have := cL r us; rw [hT]; omega
  have hTl2 : (T.map icell).length = T.length := by simp
  refine Fn.of (n := 49) Tryz.func127 rfl rfl ?_; refine G.seq (G.region ?_); refine G.op (bE rfl rfl) rfl (fun bk2 _ => ?_); refine G.v (bb rfl) rfl (G.I (G.E (G.seq (G.region ?_)))); refine G.op (bq rfl .nil rfl rfl rfl rfl rfl rfl) rfl (fun vl _ => ?_); refine G.v (bb rfl) rfl (G.I (G.E (G.seq (G.seq (G.region (G.v (bj 1 rfl rfl rfl) rfl (G.v (ba rfl) rfl ?_))))))); refine G.op (bH rfl rfl (fun w hh => by have q := thereOf_any (r := r) (us := us) w (Rd.stays h _ hh) (Rd.stays h2 _ hh) (Rd.stays h3 _ hh) (Rd.stays h4 _ hh) (by omega); rw [← hT] at q; exact q)) rfl ?_; rintro vt hvt; try dsimp only
  refine G.v (bz rfl (by exact Rd.ba 0 rfl)) rfl ?_; refine G.v (ba rfl) rfl (G.I (G.E (G.block ?_))); refine G.bm vl rfl ?_; refine G.heap (fun w hh => hh.nilGrp 3 1) ?_; refine G.Y (ι := Nat × List (List Int × Value) × Value) (ks := [2, 12, 13]) (fun x => [(5, x.2.2), (14, .int .i64 (x.1 : Int))]) (fun x => [.grp 3 1 (x.2.1.map (sub id)), .row x.2.2 52 1 (x.2.1.map gcell)]) (fun x => x.1 ≤ T.length ∧ x.2.1.map Prod.fst = lastAll (roomM r) (T.take x.1)) (fun x => T.length - x.1) (0, [], vl) (.cons rfl (.cons rfl (.cons rfl (.nil)))) rfl ?_ ?_ ?_
  exact ⟨Nat.zero_le _, rfl⟩
  exact ⟨rfl, rfl, trivial⟩
  rintro ⟨k, ts, v2⟩ ⟨hk, hM⟩
  dsimp only at hk hM ⊢
  have hl0 : (ts.map gcell).length = ts.length := (by simp)
  have htl : ts.length ≤ k := (by have := lastAll_len (roomM r) (T.take k); have e2 := congrArg List.length hM; rw [List.length_map] at e2; rw [List.length_take] at this; omega)
  by_cases hlt : k < T.length
  case' pos => (obtain ⟨x, hx⟩ := bn hlt; have he := bt hx icell; rcases dx ts with hts | ⟨tp, t, hts⟩; have hn0 : ts.length = 0 := (by rw [hts]; rfl); rotate_left; have hn1 : ts.length = tp.length + 1 := (by (rw [hts]; simp)); obtain ⟨q, hq⟩ : ∃ y, y = tp.length := ⟨_, rfl⟩; rw [← hq] at hn1; have htq : ts[q]? = some t := (by (rw [hq]; exact get_last hts)); have heq := bt htq gcell; have hgi : (ts.map (sub id))[q]? = some (t.2, t.1.map icell) := cn htq; have hbl : t.1.length ≤ k := (by have := (lastAll_at (p := roomM r) (l := T.take k) (q := q) (g := t.1) (by rw [← hM, List.getElem?_map, htq]; rfl)); rw [List.length_take] at this; omega))
  all_goals
   refine G.seq (G.region (G.v (br rfl rfl) rfl (G.I (G.E (G.seq ?_))))); refine G.cond rfl (fun hc => ?_) (fun hc => ?_)
   · all_goals
      replace hc := of_decide_eq_true hc
      simp only [List.length_map] at hc
      try (exfalso; omega)
      all_goals
       refine G.skip (G.E (G.seq (G.block (G.seq (G.region ?_))))); refine G.v (bg rfl rfl (by exact Rd.ba 2 rfl) rfl (by exact he)) rfl ?_; refine G.v (bi rfl (by exact Rd.ba 2 rfl) (by exact he) rfl) rfl ?_; refine G.v (bb rfl) rfl (G.I (G.E (G.seq (G.region (G.v (ba rfl) rfl ?_))))); refine G.v (bz rfl (by exact Rd.ba 1 rfl)) rfl ?_; refine G.v (b8 rfl rfl (by omega) (by omega)) rfl ?_; refine G.v (bb rfl) rfl (G.I (G.E (G.seq ?_))); refine G.ba [] ?_; refine GE.V 0 (by as_aux_lemma => kernel_rfl) rfl rfl (bd (ba rfl)) rfl (fun _ _ h => by exact h) (fun _ _ => ?_); refine GE.V 1 (by as_aux_lemma => kernel_rfl) rfl rfl (bd (cu rfl rfl)) rfl (fun _ _ h => by exact h) (fun _ _ => ?_); refine GE.V 2 (by as_aux_lemma => kernel_rfl) rfl rfl (bd (ba rfl)) rfl (fun _ _ h => by exact h) (fun _ _ => ?_)
       all_goals (((with_reducible refine GE.part (t := 23) rfl (fun hg => ?_) (fun hg => ?_)) <;> (try exact Bool.noConfusion hg) <;> (try (exfalso; first | (have hq := of_decide_eq_false hg; omega) | (have hq := of_decide_eq_true hg; omega); done)) <;> (first | (refine GE.q 3 rfl (by as_aux_lemma => kernel_rfl) rfl (bc (bj 3 rfl rfl rfl)) rfl ?_) | refine GE.O 3 rfl (by as_aux_lemma => kernel_rfl) rfl rfl ?_)))
       all_goals ((first | refine GE.q 4 rfl (by as_aux_lemma => kernel_rfl) rfl (bc (ba rfl)) rfl ?_ | refine GE.O 4 rfl (by as_aux_lemma => kernel_rfl) rfl rfl ?_))
       all_goals ((first | refine GE.q 5 rfl (by as_aux_lemma => kernel_rfl) rfl (bc (ba rfl)) rfl ?_ | refine GE.O 5 rfl (by as_aux_lemma => kernel_rfl) rfl rfl ?_))
       all_goals ((first | (refine GE.q 6 rfl (by as_aux_lemma => kernel_rfl) rfl (bc (bg (k := q) rfl rfl (by exact Rd.ba 1 rfl) (by omega) heq)) rfl ?_) | refine GE.O 6 rfl (by as_aux_lemma => kernel_rfl) rfl rfl ?_))
       all_goals ((first | refine GE.q 7 rfl (by as_aux_lemma => kernel_rfl) rfl (bc (bi rfl (by first | exact Rd.stays (by assumption) | exact Rd.ba 1 rfl) (by exact heq) rfl)) rfl ?_ | refine GE.O 7 rfl (by as_aux_lemma => kernel_rfl) rfl rfl ?_))
       all_goals ((first | refine GE.q 8 rfl (by as_aux_lemma => kernel_rfl) rfl (bc (ba rfl)) rfl ?_ | refine GE.O 8 rfl (by as_aux_lemma => kernel_rfl) rfl rfl ?_))
       all_goals ((first | refine GE.q 9 rfl (by as_aux_lemma => kernel_rfl) rfl (cY rfl rfl (fun w hh => room_any (r := r) (us := t.1) w (Rd.stays h _ hh) (Rd.stays h2 _ hh) (Rd.stays h3 _ hh) (Subs.at (by exact Subs.owned 0 rfl _ hh) htq) (by omega) x)) rfl ?_ | refine GE.O 9 rfl (by as_aux_lemma => kernel_rfl) rfl rfl ?_))
       all_goals ((first | refine GE.V 10 (by as_aux_lemma => kernel_rfl) rfl rfl (bd (bk rfl rfl)) rfl (fun _ _ h => by exact h) (fun _ _ => ?_) | refine GE.V 10 (by as_aux_lemma => kernel_rfl) rfl rfl (bd (bm rfl rfl)) rfl (fun _ _ h => by exact h) (fun _ _ => ?_)))
       all_goals
        refine GE.E (by as_aux_lemma => kernel_rfl) ?_; refine G.E ?_; refine G.cond rfl (fun hc => ?_) (fun hc => ?_)
        · try exact Bool.noConfusion hc
          all_goals
           all_goals
            have hstep := fun v : Value => last_into (p := fun g => roomM r g x) (x := x) (v := v) htq hn1 hc
            all_goals
             refine G.region (G.v (ba rfl) rfl (G.v (ba rfl) rfl (G.v (ba rfl) rfl (G.v (ba rfl) rfl ?_)))); refine G.v (bg (k := q) rfl rfl (by exact Rd.ba 1 rfl) (by omega) heq) rfl ?_; refine G.v (bi rfl (by exact Rd.ba 1 rfl) (by exact heq) rfl) rfl ?_; refine G.v (ba rfl) rfl ?_; refine G.op (bq rfl (.cons rfl .nil) rfl rfl rfl rfl rfl rfl) rfl (fun vl _ => ?_); refine G.op (dh rfl rfl rfl hgi (by exact Rd.ba 0 rfl) rfl rfl (by (simp; omega)) (by (simp; omega))) rfl (fun vb _ => ?_)
             skip; refine G.know (fun w hw => (Rd.grp 1 rfl (List.mem_of_getElem? (bw hgi)) w hw).one_) (fun hova => ?_)
             refine G.v (bg (k := q) rfl rfl (by exact Rd.ba 2 rfl) (by omega) heq) rfl ?_; refine G.bk (cx rfl rfl rfl (by exact heq) (bK (by assumption)) rfl (by repeat (first | rfl | refine bB (by assumption) ?_)) rfl (.zero (.cons .nil))) (fun _ _ => ?_); refine G.I (G.bc (G.E (G.region ?_))); refine G.v (bp rfl rfl (by omega)) rfl ?_; refine G.v (ba rfl) rfl (G.I ?_); refine G.be v2 rfl ?_; refine G.br _ rfl ?_; refine G.bt 1 rfl ?_; refine G.V (k + 1, ts.set q (t.1 ++ [x], vb), v2) 0 (by exact cG (congrArg (fun z => Ch.grp 3 1 z) d4) (congrArg (fun z => Ch.row v2 52 1 z) into_g)) (.cons rfl (.cons rfl (.cons rfl (.nil)))) ?_ ?_ ?_
             exact ⟨rfl, rfl, trivial⟩
             exact ⟨hlt, by rw [lastAll_next hx, ← hM]; exact (hstep _).symm⟩
             dsimp only; omega
        · all_goals
           try simp only [List.length_map] at hc
           all_goals
            have hstep : ∀ v : Value, lastM (fun g => roomM r g x) (ts.map Prod.fst) x = (ts ++ [([x], v)]).map Prod.fst := (fun v => last_push (by first | exact last_nil (by rw [List.length_map]; exact hn0) | exact last_no (dA htq) (by rw [List.length_map]; exact hn1) hc))
            all_goals
             refine G.region (G.v (ba rfl) rfl (G.v (ba rfl) rfl ?_)); refine G.op (bq rfl (.cons rfl .nil) rfl rfl rfl rfl rfl rfl) rfl (fun vl _ => ?_); refine G.know (fun w hw => (Rd.ba 0 rfl w hw).one_) (fun hovl => ?_); refine G.op (bq rfl (.cons (bK (by assumption)) .nil) (by simp only [List.all_cons, List.all_nil, Bool.and_true, Bool.and_eq_true]; exact ⟨rfl, by assumption⟩) rfl rfl rfl rfl rfl) rfl (fun vm _ => ?_); refine G.op (dt rfl rfl rfl (by exact Rd.ba 0 rfl) rfl rfl (by (simp; omega)) (by (simp; omega))) rfl (fun va _ => ?_); refine G.br _ rfl ?_; refine G.be vl rfl ?_; refine G.bF _ d3 rfl ?_; refine G.v (bb rfl) rfl (G.I (G.bc (G.E (G.region ?_)))); refine G.v (bp rfl rfl (by omega)) rfl ?_; refine G.v (ba rfl) rfl (G.I ?_); refine G.be va rfl ?_; refine G.bA _ rfl ?_; refine G.bt 1 rfl ?_; refine G.V (k + 1, ts ++ [([x], vl)], va) 0 (by exact cG (congrArg (fun z => Ch.grp 3 1 z) rfl) (congrArg (fun z => Ch.row va 52 1 z) push_g)) (.cons rfl (.cons rfl (.cons rfl (.nil)))) ?_ ?_ ?_
             exact ⟨rfl, rfl, trivial⟩
             exact ⟨hlt, by rw [lastAll_next hx, ← hM]; exact (hstep _).symm⟩
             dsimp only; omega
   · all_goals
      replace hc := of_decide_eq_false hc
      simp only [List.length_map] at hc
      try (exfalso; omega)
      all_goals
       refine G.exit (G.L (G.L (G.bn (G.E (G.seq (G.region (G.v (ba rfl) rfl (G.v (bb rfl) rfl (G.I (G.E (G.ret ?_))))))))))); refine G.know (fun w hw => (Rd.ba 1 rfl w hw).one_) (fun hone => G.bg (v2, ts) ⟨hone, by rw [bZ (l := T) (by omega), hT] at hM; exact hM⟩ rfl rfl rfl (fun w hw => hw.sublist (by repeat (first | exact List.Sublist.refl _ | refine List.Sublist.cons_cons _ ?_ | refine List.Sublist.cons _ ?_))))
omit h in
theorem l7Next_any (hyes : classM r = 0) : Fn Tryz.prog 193 [.agg (r.cells pv tv iv).toArray, uv] w (fun x : Value × List (List Int × Value) => x.1.oneCell' = true ∧ x.2.map Prod.fst = lastAll (roomM r) us) (fun x => x.1) (fun x => [.grp 3 1 (x.2.map (sub id)), .row x.1 52 1 (x.2.map gcell)]) := by
  have hTl2 : (us.map icell).length = us.length := by simp
  refine Fn.of (n := 68) Tryz.func193 rfl rfl ?_; refine G.seq (G.region ?_); refine G.op (bE rfl rfl) rfl (fun bk2 _ => ?_); refine G.v (bb rfl) rfl (G.I (G.E (G.seq (G.region (G.v (bj 0 rfl rfl rfl) rfl ?_))))); refine G.op (bh rfl rfl (fun w hh => cX (r := r) w (Rd.stays h2 _ hh))) rfl (fun _ _ => ?_); refine G.v (ba rfl) rfl (G.v (bC rfl rfl) rfl (G.v (bC rfl rfl) rfl ?_)); refine G.op (bu) rfl (fun bk5 _ => ?_); refine G.bk (bL rfl rfl rfl rfl rfl rfl (.zero (.cons (.cons (.cons (.cons (.cons (.cons (.cons .nil))))))))) (fun _ _ => ?_); refine G.v (bb rfl) rfl (G.I (G.E (G.seq (G.region (G.v (bj 1 rfl rfl rfl) rfl ?_))))); refine G.op (bH rfl rfl (fun w hh => by have q := cK (r := r) (pv := pv) (tv := tv) w (b9 (bR hyes)) (cr (bR hyes)).1 (Rd.stays h3 _ hh); rw [← cw hyes] at q; exact q)) rfl ?_; rintro vu hvu; try dsimp only
  refine G.v (bb rfl) rfl (G.I (G.E (G.seq (G.region ?_)))); refine G.op (bq rfl .nil rfl rfl rfl rfl rfl rfl) rfl (fun vl _ => ?_); refine G.v (bb rfl) rfl (G.I (G.E (G.seq (G.seq (G.region (G.v (bb rfl) rfl (G.I (G.E (G.block ?_))))))))); refine G.bb vl rfl ?_; refine G.heap (fun w hh => hh.nilGrp 3 1) ?_; refine G.Y (ι := Nat × List (List Int × Value) × Value) (ks := [1, 2, 5, 7]) (fun x => [(8, x.2.2), (9, .int .i64 (x.1 : Int))]) (fun x => [.grp 3 1 (x.2.1.map (sub id)), .row x.2.2 52 1 (x.2.1.map gcell)]) (fun x => x.1 ≤ us.length ∧ x.2.1.map Prod.fst = lastAll (roomM r) (us.take x.1)) (fun x => us.length - x.1) (0, [], vl) (.cons rfl (.cons rfl (.cons rfl (.cons rfl (.nil))))) rfl ?_ ?_ ?_
  exact ⟨Nat.zero_le _, rfl⟩
  exact ⟨rfl, rfl, trivial⟩
  rintro ⟨k, ts, v2⟩ ⟨hk, hM⟩
  dsimp only at hk hM ⊢
  have hl0 : (ts.map gcell).length = ts.length := (by simp)
  have htl : ts.length ≤ k := (by have := lastAll_len (roomM r) (us.take k); have e2 := congrArg List.length hM; rw [List.length_map] at e2; rw [List.length_take] at this; omega)
  by_cases hlt : k < us.length
  case' pos => (obtain ⟨x, hx⟩ := bn hlt; have he := bt hx icell; rcases dx ts with hts | ⟨tp, t, hts⟩; have hn0 : ts.length = 0 := (by rw [hts]; rfl); rotate_left; have hn1 : ts.length = tp.length + 1 := (by (rw [hts]; simp)); obtain ⟨q, hq⟩ : ∃ y, y = tp.length := ⟨_, rfl⟩; rw [← hq] at hn1; have htq : ts[q]? = some t := (by (rw [hq]; exact get_last hts)); have heq := bt htq gcell; have hgi : (ts.map (sub id))[q]? = some (t.2, t.1.map icell) := cn htq; have hbl : t.1.length ≤ k := (by have := (lastAll_at (p := roomM r) (l := us.take k) (q := q) (g := t.1) (by rw [← hM, List.getElem?_map, htq]; rfl)); rw [List.length_take] at this; omega))
  all_goals
   refine G.seq (G.seq (G.region (G.v (ba rfl) rfl (G.v (ba rfl) rfl ?_)))); refine G.v (bz rfl (by exact Rd.stays (by assumption))) rfl ?_; refine G.v (br rfl rfl) rfl (G.I (G.E ?_)); refine G.cond rfl (fun hc => ?_) (fun hc => ?_)
   · all_goals
      replace hc := of_decide_eq_true hc
      simp only [List.length_map] at hc
      try (exfalso; omega)
      all_goals
       refine G.skip (G.E (G.seq (G.block (G.seq (G.region (G.v (ba rfl) rfl ?_)))))); refine G.v (bz rfl (by exact Rd.ba 1 rfl)) rfl ?_; refine G.v (bb rfl) rfl (G.I (G.E (G.seq ?_))); refine G.ba [] ?_; refine GE.V 0 (by as_aux_lemma => kernel_rfl) rfl rfl (bd (ba rfl)) rfl (fun _ _ h => by exact h) (fun _ _ => ?_); refine GE.V 1 (by as_aux_lemma => kernel_rfl) rfl rfl (bd (b6 rfl rfl)) rfl (fun _ _ h => by exact h) (fun _ _ => ?_); refine GE.V 2 (by as_aux_lemma => kernel_rfl) rfl rfl (bd (ba rfl)) rfl (fun _ _ h => by exact h) (fun _ _ => ?_)
       all_goals (((with_reducible refine GE.part (t := 29) rfl (fun hg => ?_) (fun hg => ?_)) <;> (try exact Bool.noConfusion hg) <;> (try (exfalso; first | (have hq := of_decide_eq_false hg; omega) | (have hq := of_decide_eq_true hg; omega); done)) <;> (first | (refine GE.q 3 rfl (by as_aux_lemma => kernel_rfl) rfl (bc (bj 4 rfl rfl rfl)) rfl ?_) | refine GE.O 3 rfl (by as_aux_lemma => kernel_rfl) rfl rfl ?_)))
       all_goals ((first | refine GE.q 4 rfl (by as_aux_lemma => kernel_rfl) rfl (bc (ba rfl)) rfl ?_ | refine GE.O 4 rfl (by as_aux_lemma => kernel_rfl) rfl rfl ?_))
       all_goals ((first | (refine GE.q 5 rfl (by as_aux_lemma => kernel_rfl) rfl (bc (bj 3 rfl rfl rfl)) rfl ?_) | refine GE.O 5 rfl (by as_aux_lemma => kernel_rfl) rfl rfl ?_))
       all_goals ((first | refine GE.q 6 rfl (by as_aux_lemma => kernel_rfl) rfl (bc (ba rfl)) rfl ?_ | refine GE.O 6 rfl (by as_aux_lemma => kernel_rfl) rfl rfl ?_))
       all_goals ((first | refine GE.q 7 rfl (by as_aux_lemma => kernel_rfl) rfl (bc (ba rfl)) rfl ?_ | refine GE.O 7 rfl (by as_aux_lemma => kernel_rfl) rfl rfl ?_))
       all_goals ((first | refine GE.q 8 rfl (by as_aux_lemma => kernel_rfl) rfl (bc (b8 rfl rfl (by omega) (by omega))) rfl ?_ | refine GE.O 8 rfl (by as_aux_lemma => kernel_rfl) rfl rfl ?_))
       all_goals ((first | (refine GE.q 9 rfl (by as_aux_lemma => kernel_rfl) rfl (bc (bg (k := q) rfl rfl (by exact Rd.ba 1 rfl) (by omega) heq)) rfl ?_) | refine GE.O 9 rfl (by as_aux_lemma => kernel_rfl) rfl rfl ?_))
       all_goals ((first | refine GE.q 10 rfl (by as_aux_lemma => kernel_rfl) rfl (bc (bi rfl (by first | exact Rd.stays (by assumption) | exact Rd.ba 1 rfl) (by first | exact he | exact heq) rfl)) rfl ?_ | refine GE.O 10 rfl (by as_aux_lemma => kernel_rfl) rfl rfl ?_))
       all_goals ((first | refine GE.q 11 rfl (by as_aux_lemma => kernel_rfl) rfl (bc (ba rfl)) rfl ?_ | refine GE.O 11 rfl (by as_aux_lemma => kernel_rfl) rfl rfl ?_))
       all_goals ((first | refine GE.q 12 rfl (by as_aux_lemma => kernel_rfl) rfl (bc (ba rfl)) rfl ?_ | refine GE.O 12 rfl (by as_aux_lemma => kernel_rfl) rfl rfl ?_))
       all_goals ((first | (refine GE.q 13 rfl (by as_aux_lemma => kernel_rfl) rfl (bc (bg rfl rfl (by exact Rd.stays (by assumption)) rfl (by exact he))) rfl ?_) | refine GE.O 13 rfl (by as_aux_lemma => kernel_rfl) rfl rfl ?_))
       all_goals ((first | refine GE.q 14 rfl (by as_aux_lemma => kernel_rfl) rfl (bc (bi rfl (by exact Rd.stays (by assumption)) (by exact he) rfl)) rfl ?_ | refine GE.O 14 rfl (by as_aux_lemma => kernel_rfl) rfl rfl ?_))
       all_goals ((first | refine GE.q 15 rfl (by as_aux_lemma => kernel_rfl) rfl (cY rfl rfl (fun w hh => (l7Room_any (r := r) (us := t.1) w (Rd.stays h3 _ hh) (Subs.at (by exact Subs.owned 0 rfl _ hh) htq) (by omega) (mst r) x (by exact Rd.ba 2 rfl _ hh)).mono (congrArg Value.bool (room_yes hyes t.1 x).symm))) rfl ?_ | refine GE.O 15 rfl (by as_aux_lemma => kernel_rfl) rfl rfl ?_))
       all_goals ((first | refine GE.V 16 (by as_aux_lemma => kernel_rfl) rfl rfl (bd (bk rfl rfl)) rfl (fun _ _ h => by exact h) (fun _ _ => ?_) | refine GE.V 16 (by as_aux_lemma => kernel_rfl) rfl rfl (bd (bm rfl rfl)) rfl (fun _ _ h => by exact h) (fun _ _ => ?_)))
       all_goals
        refine GE.E (by as_aux_lemma => kernel_rfl) ?_; refine G.E ?_; refine G.cond rfl (fun hc => ?_) (fun hc => ?_)
        · try exact Bool.noConfusion hc
          all_goals
           all_goals
            have hstep := fun v : Value => last_into (p := fun g => roomM r g x) (x := x) (v := v) htq hn1 hc
            all_goals
             refine G.frontG0 _ rfl ?_; refine G.bG [14, 15] rfl ?_; refine GE.Y 0 rfl (by as_aux_lemma => kernel_rfl) rfl (bc (ba rfl)) (fun _ h => by exact h.drop 1) rfl ?_; refine GE.Y 1 rfl (by as_aux_lemma => kernel_rfl) rfl (bc (ba rfl)) (fun _ h => by exact h.drop 1) rfl ?_; refine GE.Y 2 rfl (by as_aux_lemma => kernel_rfl) rfl (bc (b8 rfl rfl (by omega) (by omega))) (fun _ h => by exact h.drop 1) rfl ?_; refine GE.Y 3 rfl (by as_aux_lemma => kernel_rfl) rfl (bc (ba rfl)) (fun _ h => by exact h.drop 1) rfl ?_; refine GE.Y 4 rfl (by as_aux_lemma => kernel_rfl) rfl (bc (ba rfl)) (fun _ h => by exact h.drop 1) rfl ?_; refine GE.Y 5 rfl (by as_aux_lemma => kernel_rfl) rfl (bc (b8 rfl rfl (by omega) (by omega))) (fun _ h => by exact h.drop 1) rfl ?_; refine GE.Y 6 rfl (by as_aux_lemma => kernel_rfl) rfl (bc (bg (k := q) rfl rfl (by exact Rd.ba 0 rfl) (by omega) heq)) (fun _ h => by exact h.drop 1) rfl ?_; refine GE.Y 7 rfl (by as_aux_lemma => kernel_rfl) rfl (bc (bi rfl (by exact Rd.ba 0 rfl) (by exact heq) rfl)) (fun _ h => by exact h.drop 1) rfl ?_; refine GE.Y 8 rfl (by as_aux_lemma => kernel_rfl) rfl (bc (ba rfl)) (fun _ h => by exact h.drop 1) rfl ?_; refine GE.V 9 (by as_aux_lemma => kernel_rfl) rfl rfl (bd (ba rfl)) rfl (fun _ _ h => by exact h.drop 1) (fun _ _ => ?_)
             refine GE.V 10 (by as_aux_lemma => kernel_rfl) rfl rfl (bd (bg rfl rfl (by exact Rd.stays (by assumption)) rfl (by exact he))) rfl (fun _ _ h => by exact h.drop 1) (fun _ _ => ?_); refine GE.V 11 (by as_aux_lemma => kernel_rfl) rfl rfl (bd (bi rfl (by exact Rd.stays (by assumption)) (by exact he) rfl)) rfl (fun _ _ h => by exact h.drop 1) (fun _ _ => ?_); refine GE.V 12 (by as_aux_lemma => kernel_rfl) rfl rfl (bq rfl (.cons rfl .nil) rfl rfl rfl rfl rfl rfl) rfl (fun _ _ h => by exact h.drop 2) (fun vl _ => ?_); refine GE.V 13 (by as_aux_lemma => kernel_rfl) rfl rfl (dh rfl rfl rfl hgi (by exact Rd.ba 0 rfl) rfl rfl (by (simp; omega)) (by (simp; omega))) rfl (fun _ _ h => by exact h.drop 2) (fun vb _ => ?_)
             skip; refine GE.know (fun w hw => (Rd.grp 1 rfl (List.mem_of_getElem? (bw hgi)) w hw).one_) (fun hova => ?_)
             refine GE.t 14 (by as_aux_lemma => kernel_rfl) rfl rfl rfl (bd (bg (k := q) rfl rfl (by exact Rd.ba 2 rfl) (by omega) heq)) rfl (fun _ _ => ?_); refine GE.U 15 (by as_aux_lemma => kernel_rfl) rfl rfl rfl (cx rfl rfl rfl (by exact heq) (bK (by assumption)) rfl (by repeat (first | rfl | refine bB (by assumption) ?_)) rfl (.zero (.cons .nil))) (fun _ _ => ?_); refine GE.E (by as_aux_lemma => kernel_rfl) ?_; refine G.bc (G.E (G.region (G.v (ba rfl) rfl ?_))); refine G.v (bp rfl rfl (by omega)) rfl ?_; refine G.v (bb rfl) rfl (G.I ?_); refine G.be v2 rfl ?_; refine G.br _ rfl ?_; refine G.bt 1 rfl ?_; refine G.V (k + 1, ts.set q (t.1 ++ [x], vb), v2) 0 (by exact cG (congrArg (fun z => Ch.grp 3 1 z) d4) (congrArg (fun z => Ch.row v2 52 1 z) into_g)) (.cons rfl (.cons rfl (.cons rfl (.cons rfl (.nil))))) ?_ ?_ ?_
             exact ⟨rfl, rfl, trivial⟩
             exact ⟨hlt, by rw [lastAll_next hx, ← hM]; exact (hstep _).symm⟩
             dsimp only; omega
        · all_goals
           try simp only [List.length_map] at hc
           all_goals
            have hstep : ∀ v : Value, lastM (fun g => roomM r g x) (ts.map Prod.fst) x = (ts ++ [([x], v)]).map Prod.fst := (fun v => last_push (by first | exact last_nil (by rw [List.length_map]; exact hn0) | exact last_no (dA htq) (by rw [List.length_map]; exact hn1) hc))
            all_goals
             refine G.region (G.v (ba rfl) rfl (G.v (ba rfl) rfl (G.v (ba rfl) rfl ?_))); refine G.v (bg rfl rfl (by exact Rd.stays (by assumption)) rfl (by exact he)) rfl ?_; refine G.v (bi rfl (by exact Rd.stays (by assumption)) (by exact he) rfl) rfl ?_; refine G.op (bq rfl (.cons rfl .nil) rfl rfl rfl rfl rfl rfl) rfl (fun vl _ => ?_); refine G.know (fun w hw => (Rd.ba 0 rfl w hw).one_) (fun hovl => ?_); refine G.op (bq rfl (.cons (bK (by assumption)) .nil) (by simp only [List.all_cons, List.all_nil, Bool.and_true, Bool.and_eq_true]; exact ⟨rfl, by assumption⟩) rfl rfl rfl rfl rfl) rfl (fun vm _ => ?_); refine G.op (dt rfl rfl rfl (by exact Rd.ba 0 rfl) rfl rfl (by (simp; omega)) (by (simp; omega))) rfl (fun va _ => ?_); refine G.br _ rfl ?_; refine G.be vl rfl ?_; refine G.bF _ d3 rfl ?_; refine G.v (bb rfl) rfl (G.I (G.bc (G.E (G.region (G.v (ba rfl) rfl ?_))))); refine G.v (bp rfl rfl (by omega)) rfl ?_; refine G.v (bb rfl) rfl (G.I ?_); refine G.be va rfl ?_; refine G.bA _ rfl ?_; refine G.bt 1 rfl ?_; refine G.V (k + 1, ts ++ [([x], vl)], va) 0 (by exact cG (congrArg (fun z => Ch.grp 3 1 z) rfl) (congrArg (fun z => Ch.row va 52 1 z) push_g)) (.cons rfl (.cons rfl (.cons rfl (.cons rfl (.nil))))) ?_ ?_ ?_
             exact ⟨rfl, rfl, trivial⟩
             exact ⟨hlt, by rw [lastAll_next hx, ← hM]; exact (hstep _).symm⟩
             dsimp only; omega
   · all_goals
      replace hc := of_decide_eq_false hc
      simp only [List.length_map] at hc
      try (exfalso; omega)
      all_goals
       refine G.exit (G.L (G.L (G.bn (G.E (G.seq (G.region (G.v (ba rfl) rfl (G.v (bb rfl) rfl (G.I (G.E (G.ret ?_))))))))))); refine G.know (fun w hw => (Rd.ba 1 rfl w hw).one_) (fun hone => G.bg (v2, ts) ⟨hone, by rw [bZ (l := us) (by omega)] at hM; exact hM⟩ rfl rfl rfl (fun w hw => hw.sublist (by repeat (first | exact List.Sublist.refl _ | refine List.Sublist.cons_cons _ ?_ | refine List.Sublist.cons _ ?_))))
theorem snextFit_any : Fn Tryz.prog 132 [.agg (r.cells pv tv iv).toArray, uv] w (fun x : Value × List (List Int × Value) => x.1.oneCell' = true ∧ x.2.map Prod.fst = nextM r us) (fun x => x.1) (fun x => [.grp 3 1 (x.2.map (sub id)), .row x.1 52 1 (x.2.map gcell)]) := by
  have hTl : (thereM r us).length ≤ 1048576 := by have := cL r us; omega
  refine Fn.of (n := 15) Tryz.func132 rfl rfl ?_; refine G.seq (G.region ?_); refine G.op (bE rfl rfl) rfl (fun bk2 _ => ?_); refine G.v (bb rfl) rfl (G.I (G.E (G.seq (G.seq (G.region (G.v (bj 0 rfl rfl rfl) rfl ?_)))))); refine G.op (bh rfl rfl (fun w hh => cJ (r := r) w (Rd.stays h _ hh) (Rd.stays h2 _ hh) (Rd.stays h3 _ hh))) rfl (fun _ _ => ?_); refine G.v (dk rfl rfl) rfl (G.I (G.E ?_)); refine G.bd rfl (fun hc => ?_) (fun hc => ?_)
  have hno : ¬ classM r = 0 := hc
  refine G.seq (G.region ?_); refine G.op (bq rfl .nil rfl rfl rfl rfl rfl rfl) rfl (fun vl _ => ?_); refine G.v (bb rfl) rfl (G.I (G.E (G.ret (G.O ?_)))); refine G.heap (fun w hh => hh.nilGrp 3 1) ?_; refine G.know (fun w hw => (Rd.ba 1 rfl w hw).one_) (fun hone => G.bg (vl, []) ⟨hone, by rw [nextM, thereM_no hno]; rfl⟩ rfl rfl rfl (fun w hw => hw.sublist (by repeat (first | exact List.Sublist.refl _ | refine List.Sublist.cons_cons _ ?_ | refine List.Sublist.cons _ ?_))))
  have hyes : classM r = 0 := by omega
  refine G.skip (G.E (G.seq ?_)); refine G.ba [6] ?_; refine GE.q 0 rfl (by as_aux_lemma => kernel_rfl) rfl (bc (bj 0 rfl rfl rfl)) rfl ?_; refine GE.q 1 rfl (by as_aux_lemma => kernel_rfl) rfl (bc (bj 0 rfl rfl rfl)) rfl ?_; refine GE.q 3 rfl (by as_aux_lemma => kernel_rfl) rfl (bc (ba rfl)) rfl ?_; refine GE.V 2 (by as_aux_lemma => kernel_rfl) rfl rfl (bH rfl rfl (fun w hh => by have q := cK (r := r) (pv := pv) (tv := tv) w (b9 (bR hyes)) (cr (bR hyes)).1 (Rd.stays h3 _ hh); rw [← cw hyes] at q; exact q)) rfl (fun _ _ h => by exact h.drop 1) ?_; rintro vu hvu; try dsimp only
  refine GE.V 4 (by as_aux_lemma => kernel_rfl) rfl rfl (bH rfl rfl (fun w hh => l7Known_any (r := r) (us := us) w (by exact Rd.ba 0 rfl _ hh) (Rd.stays h4 _ hh) (by omega))) rfl (fun _ _ h => by exact h.drop 2) ?_; rintro vt hvt; try dsimp only
  refine GE.V 5 (by as_aux_lemma => kernel_rfl) rfl rfl (bX rfl rfl (fun w hh => l7Next_any (r := r) (us := thereM r us) w (Rd.stays h2 _ hh) (Rd.stays h3 _ hh) (by exact Rd.ba 0 rfl _ hh) hTl hyes)) rfl (fun _ _ h => by exact h.drop 4) ?_; rintro ⟨vo, os⟩ ⟨hvo, hos⟩; try dsimp only
  refine GE.t 6 (by as_aux_lemma => kernel_rfl) rfl rfl rfl (bd (bb rfl)) rfl (fun _ _ => ?_); refine GE.E (by as_aux_lemma => kernel_rfl) ?_; refine G.E (G.ret ?_)
  exact G.bg (vo, os) ⟨hvo, hos⟩ rfl rfl rfl (fun w hw => hw.sublist (by repeat (first | exact List.Sublist.refl _ | refine List.Sublist.cons_cons _ ?_ | refine List.Sublist.cons _ ?_)))
end
theorem Frm.lt {a b n : Nat} {f g : Nat → Nat} (h : Frm a b f g) (hf : ∀ j, a ≤ j → j < b → f j < n) {x : Nat} (h1 : a ≤ x) (h2 : x < b) : g x < n := by
  obtain ⟨i, i1, i2, i3⟩ := h.src x h1 h2
  rw [i3]; exact hf i i1 i2
theorem Frm.srt_hi {K : Nat → Int} {a b c d : Nat} {f g : Nat → Nat} (h : Frm a b f g) (hb : b ≤ c) (hs : Srt K c d f) : Srt K c d g := fun j k j1 j2 j3 => by
  rw [h.out j (.inr (by omega)), h.out k (.inr (by omega))]; exact hs j k j1 j2 j3
theorem Frm.crs_hi {K : Nat → Int} {a b c d e : Nat} {f g : Nat → Nat} (h : Frm a b f g) (hb : b ≤ c) (hc : c ≤ d) (hs : Crs K c d e f) : Crs K c d e g := fun j k j1 j2 j3 j4 => by
  rw [h.out j (.inr (by omega)), h.out k (.inr (by omega))]; exact hs j k j1 j2 j3 j4
section
variable {w0 : World} {F : List Ch} {v : Value} {n : Nat} {g : Nat} [FnOk Tryz.prog g] {caps : List Value} {K : Nat → Int}
theorem symMerge_any (hcmp : ∀ w, HeapOk w0 w F → ∀ i j : Nat, i < n → j < n → FnV Tryz.prog g ([.int .i64 (i : Int), .int .i64 (j : Int)] ++ caps) w (.int .i64 (cmpZ (K i) (K j)))) (hn : n ≤ 1048576) : ∀ (s : Nat) {f : Nat → Nat} {a m b : Nat}, b - a ≤ s → a < m → m < b → b ≤ n → Srt K a m f → Srt K m b f → Crs K a m b f → (∀ j, a ≤ j → j < b → f j < n) →
    FnMF Tryz.prog 243 [v, .int .i64 (a : Int), .int .i64 (m : Int), .int .i64 (b : Int), .func (.func g) #[] caps.toArray] w0 [.row v 3 1 (rowF n f)] F (fun f' : Nat → Nat => Frm a b f f' ∧ Srt K a b f') (fun _ => .tuple #[]) (fun f' => [.row v 3 1 (rowF n f')]) := by
  intro s
  induction s with
  | zero => intro f a m b h0 h1 h2; omega
  | succ s ih =>
  intro f a m b h0 h1 h2 h3 hs1 hs2 hcr hfn
  have hfa := hfn a (Nat.le_refl _) (by omega)
  have hfm := hfn m (by omega) h2
  have ea : (rowF n f)[a]? = some (icell (f a : Int)) := cd (by omega)
  have em : (rowF n f)[m]? = some (icell (f m : Int)) := cd (by omega)
  refine FnMF.of (n := 220) Tryz.func243 rfl rfl ?_; refine G.seq (G.seq (G.region (G.v (ba rfl) rfl (G.v (ba rfl) rfl ?_)))); refine G.v (cI rfl rfl (by omega) (by omega)) rfl ?_; refine G.v (bQ rfl rfl) rfl (G.I (G.E ?_)); refine G.bd rfl (fun hc => ?_) (fun hc => ?_)
  · refine G.seq ?_
    refine G.region (G.v (ba rfl) rfl (G.v (bb rfl) rfl (G.I (G.E (G.seq (G.region (G.v (ba rfl) rfl (G.v (bb rfl) rfl (G.I (G.E (G.seq ?_))))))))))); refine G.block ?_; refine G.Y (ι := Nat × Nat) (ks := [0, 1, 4]) (fun x => [(10, .int .i64 (x.1 : Int)), (11, .int .i64 (x.2 : Int))]) (fun _ => [.row v 3 1 (rowF n f)]) (fun x => m ≤ x.1 ∧ x.1 ≤ x.2 ∧ x.2 ≤ b ∧ (x.1 = m ∨ K (f (x.1 - 1)) < K (f a)) ∧ (x.2 = b ∨ ¬ K (f x.2) < K (f a))) (fun x => x.2 - x.1) (m, b) (.cons rfl (.cons rfl (.cons rfl (.nil)))) rfl ?_ ?_ ?_
    exact ⟨Nat.le_refl _, by dsimp only; omega, Nat.le_refl _, .inl rfl, .inl rfl⟩
    exact ⟨rfl, rfl, trivial⟩
    rintro ⟨i, j⟩ ⟨hi, hij, hj, hl, hr⟩
    dsimp only at hi hij hj hl hr ⊢
    by_cases hlt : i < j
    case' pos => (have hfh := hfn ((i + j) / 2) (by omega) (by omega); have eh : (rowF n f)[(i + j) / 2]? = some (icell (f ((i + j) / 2) : Int)) := cd (by omega))
    all_goals
     refine G.seq (G.seq (G.region (G.v (ba rfl) rfl (G.v (ba rfl) rfl (G.v (br rfl rfl) rfl (G.I (G.E ?_))))))); refine G.cond rfl (fun hc => ?_) (fun hc => ?_)
     · all_goals
        replace hc := of_decide_eq_true hc
        try (exfalso; omega)
        all_goals
         refine G.skip (G.E (G.block (G.seq (G.region (G.v (ba rfl) rfl (G.v (ba rfl) rfl ?_)))))); refine G.v (cH rfl rfl (by omega)) rfl ?_; refine G.v (du rfl) rfl ?_; refine G.v (dz rfl rfl (by omega)) rfl ?_; refine G.v (rv_half (m := (i + j) / 2) rfl rfl (by omega) (by omega)) rfl ?_; refine G.v (bb rfl) rfl (G.I (G.E (G.seq ?_))); refine G.ba [] ?_; refine GE.q 0 rfl (by as_aux_lemma => kernel_rfl) rfl (bc (ba rfl)) rfl ?_; refine GE.q 1 rfl (by as_aux_lemma => kernel_rfl) rfl (bc (ba rfl)) rfl ?_; refine GE.q 2 rfl (by as_aux_lemma => kernel_rfl) rfl (bc (ba rfl)) rfl ?_; refine GE.q 3 rfl (by as_aux_lemma => kernel_rfl) rfl (bc (bg rfl rfl (by exact Rd.ba 0 rfl) rfl (by exact eh))) rfl ?_; refine GE.q 4 rfl (by as_aux_lemma => kernel_rfl) rfl (bc (bi rfl (by exact Rd.ba 0 rfl) (by exact eh) rfl)) rfl ?_; refine GE.q 5 rfl (by as_aux_lemma => kernel_rfl) rfl (bc (ba rfl)) rfl ?_; refine GE.V 6 (by as_aux_lemma => kernel_rfl) rfl rfl (bd (ba rfl)) rfl (fun _ _ h => by exact h) (fun _ _ => ?_); refine GE.V 7 (by as_aux_lemma => kernel_rfl) rfl rfl (bd (bg rfl rfl (by exact Rd.ba 0 rfl) rfl (by exact ea))) rfl (fun _ _ h => by exact h) (fun _ _ => ?_)
         refine GE.V 8 (by as_aux_lemma => kernel_rfl) rfl rfl (bd (bi rfl (by exact Rd.ba 0 rfl) (by exact ea) rfl)) rfl (fun _ _ h => by exact h) (fun _ _ => ?_); refine GE.V 9 (by as_aux_lemma => kernel_rfl) rfl rfl (bh rfl rfl (fun w hh => hcmp w hh.tail _ _ hfh hfa)) rfl (fun _ _ h => by exact h) (fun _ _ => ?_); refine GE.V 10 (by as_aux_lemma => kernel_rfl) rfl rfl (bd (br rfl rfl)) rfl (fun _ _ h => by exact h) (fun _ _ => ?_); refine GE.E (by as_aux_lemma => kernel_rfl) ?_; refine G.E ?_; refine G.cond rfl (fun hc => ?_) (fun hc => ?_)
         · all_goals
            replace hc := of_decide_eq_true hc
            simp only [ce, Bool.not_eq_true', Bool.not_eq_false', decide_eq_false_iff_not, decide_eq_true_eq] at hc
            all_goals
             refine G.region (G.v (ba rfl) rfl ?_); refine G.v (bp rfl rfl (by omega)) rfl ?_; refine G.v (bb rfl) rfl (G.I (G.bc ?_)); refine G.V ((i + j) / 2 + 1, j) 0 rfl (.cons rfl (.cons rfl (.cons rfl (.nil)))) (⟨rfl, rfl, trivial⟩) ?_ ?_
             exact ⟨by dsimp only; omega, by dsimp only; omega, by dsimp only; omega, .inr hc, hr⟩
             dsimp only; omega
         · all_goals
            replace hc := of_decide_eq_false hc
            simp only [ce, Bool.not_eq_true', Bool.not_eq_false', decide_eq_false_iff_not, decide_eq_true_eq] at hc
            all_goals
             refine G.region (G.v (ba rfl) rfl (G.v (bb rfl) rfl (G.I (G.bc ?_)))); refine G.V (i, (i + j) / 2) 0 rfl (.cons rfl (.cons rfl (.cons rfl (.nil)))) (⟨rfl, rfl, trivial⟩) ?_ ?_
             exact ⟨by dsimp only; omega, by dsimp only; omega, by dsimp only; omega, hl, .inr hc⟩
             dsimp only; omega
     · all_goals
        replace hc := of_decide_eq_false hc
        try (exfalso; omega)
        all_goals
         refine G.exit (G.L (G.L (G.bn (G.E (G.seq (G.seq (G.region (G.v (ba rfl) rfl (G.v (bb rfl) rfl (G.I (G.E ?_))))))))))); refine G.block ?_; refine G.bo (rowF n (rotF f a (a + 1) (a + 1))) (by rw [rot_id (by omega) (Nat.le_refl _) (.inr rfl)]) rfl ?_; refine G.Y (ι := Nat) (ks := [0, 10]) (fun k => [(13, .int .i64 (k : Int))]) (fun k => [.row v 3 1 (rowF n (rotF f a (a + 1) (k + 1)))]) (fun k => a ≤ k ∧ k + 1 ≤ i) (fun k => i - k) a (.cons rfl (.cons rfl (.nil))) rfl ?_ ?_ ?_
         exact ⟨Nat.le_refl _, by omega⟩
         exact ⟨rfl, trivial⟩
         rintro k ⟨hak, hki⟩
         by_cases hk2 : k + 1 < i
         case' pos => (have e1 : (rowF n (rotF f a (a + 1) (k + 1)))[k]? = some (icell (f a : Int)) := (by rw [cd (by omega), rot_hi (by omega) (by omega)]; congr 4; omega); have e2 : (rowF n (rotF f a (a + 1) (k + 1)))[k + 1]? = some (icell (f (k + 1) : Int)) := (by rw [cd (by omega), cO (by omega) (by omega) (.inr (Nat.le_refl _))]))
         all_goals
          refine G.seq (G.seq (G.region (G.v (ba rfl) rfl (G.v (ba rfl) rfl ?_)))); refine G.v (cq rfl rfl (by omega) (by omega)) rfl ?_; refine G.v (br rfl rfl) rfl (G.I (G.E ?_)); refine G.cond rfl (fun hc => ?_) (fun hc => ?_)
          · all_goals
             replace hc := of_decide_eq_true hc
             try (exfalso; omega)
             all_goals
              refine G.skip (G.E (G.seq (G.block ?_))); refine G.drawS [15, 17] rfl ?_; refine GS.p 0 rfl (by as_aux_lemma => kernel_rfl) (bc (ba rfl)) (fun _ h => h.drop 1) rfl ?_; refine GS.p 1 rfl (by as_aux_lemma => kernel_rfl) (bc (ba rfl)) (fun _ h => h.drop 1) rfl ?_; refine GS.p 2 rfl (by as_aux_lemma => kernel_rfl) (bc (ba rfl)) (fun _ h => h.drop 1) rfl ?_; refine GS.p 3 rfl (by as_aux_lemma => kernel_rfl) (bc (ba rfl)) (fun _ h => h.drop 1) rfl ?_; refine GS.p 4 rfl (by as_aux_lemma => kernel_rfl) (bc (bp rfl rfl (by omega))) (fun _ h => h.drop 1) rfl ?_; refine GS.p 5 rfl (by as_aux_lemma => kernel_rfl) (bc (ba rfl)) (fun _ h => h.drop 1) rfl ?_; refine GS.p 6 rfl (by as_aux_lemma => kernel_rfl) (bc (ba rfl)) (fun _ h => h.drop 1) rfl ?_; refine GS.p 7 rfl (by as_aux_lemma => kernel_rfl) (bc (bp rfl rfl (by omega))) (fun _ h => h.drop 1) rfl ?_; refine GS.q 8 [9, 14, 15, 16, 17] rfl (by as_aux_lemma => kernel_rfl) (by as_aux_lemma => kernel_rfl) (bc (bg rfl rfl (by exact Rd.ba 0 rfl) rfl (by exact e2))) rfl ?_; refine GS.q 9 [14, 15, 16, 17] rfl (by as_aux_lemma => kernel_rfl) (by as_aux_lemma => kernel_rfl) (bc (bi rfl (by exact Rd.ba 0 rfl) (by exact e2) rfl)) rfl ?_; refine GS.p 10 rfl (by as_aux_lemma => kernel_rfl) (bc (ba rfl)) (fun _ h => h.drop 1) rfl ?_
              refine GS.p 11 rfl (by as_aux_lemma => kernel_rfl) (bc (ba rfl)) (fun _ h => h.drop 1) rfl ?_; refine GS.q 12 [13, 14, 15, 16, 17] rfl (by as_aux_lemma => kernel_rfl) (by as_aux_lemma => kernel_rfl) (bc (bg rfl rfl (by exact Rd.ba 0 rfl) rfl (by exact e1))) rfl ?_; refine GS.q 13 [14, 15, 16, 17] rfl (by as_aux_lemma => kernel_rfl) (by as_aux_lemma => kernel_rfl) (bc (bi rfl (by exact Rd.ba 0 rfl) (by exact e1) rfl)) rfl ?_; refine GS.q 14 [15, 16, 17] rfl (by as_aux_lemma => kernel_rfl) (by as_aux_lemma => kernel_rfl) (bc (bg rfl rfl (by exact Rd.ba 0 rfl) rfl (by exact e1))) rfl ?_; refine GS.o0 15 (by as_aux_lemma => kernel_rfl) rfl rfl (cR rfl rfl rfl (by exact e1) rfl rfl rfl rfl (.zero (.cons .nil))) (fun _ _ h => h.drop 1) (fun _ _ => ?_); refine GS.q 16 [17] rfl (by as_aux_lemma => kernel_rfl) (by as_aux_lemma => kernel_rfl) (bc (bg rfl rfl (by exact Rd.ba 0 rfl) rfl (by exact cW (by omega) e2))) rfl ?_; refine GS.o0 17 (by as_aux_lemma => kernel_rfl) rfl rfl (cR rfl rfl rfl (by exact cW (by omega) e2) rfl rfl rfl rfl (.zero (.cons .nil))) (fun _ _ h => h.drop 1) (fun _ _ => ?_); refine GS.done (by as_aux_lemma => kernel_rfl) ?_; refine G.bc (G.E (G.region (G.v (ba rfl) rfl ?_))); refine G.v (bp rfl rfl (by omega)) rfl ?_; refine G.v (bb rfl) rfl (G.I ?_)
              refine G.V (k + 1) 0 (bV (congrArg (fun z => Ch.row v 3 1 z) (row_up hak))) (.cons rfl (.cons rfl (.nil))) ?_ ?_ ?_
              exact ⟨rfl, trivial⟩
              exact ⟨by omega, by omega⟩
              omega
          · all_goals
             replace hc := of_decide_eq_false hc
             try (exfalso; omega)
             all_goals
              refine G.exit (G.L (G.L (G.bn (G.E (G.ret (G.O ?_))))))
              exact G.retF0 (rotF f a (a + 1) i) ⟨(rot_frm (by omega) (by omega)).mono (Nat.le_refl _) (by omega), by obtain rfl : m = a + 1 := (by omega); exact put_left hs2 hcr hi (by omega) hl (by (have hq : j = i := (by omega)); rw [hq] at hr; exact hr)⟩ rfl rfl (fun w hw => by obtain rfl : i = k + 1 := (by omega); exact hw)
  refine G.skip (G.E (G.seq (G.seq (G.region (G.v (ba rfl) rfl (G.v (ba rfl) rfl ?_)))))); refine G.v (cI rfl rfl (by omega) (by omega)) rfl ?_; refine G.v (bQ rfl rfl) rfl (G.I (G.E ?_)); refine G.bd rfl (fun hc => ?_) (fun hc => ?_)
  · refine G.seq ?_
    refine G.region (G.v (ba rfl) rfl (G.v (bb rfl) rfl (G.I (G.E (G.seq (G.region (G.v (ba rfl) rfl (G.v (bb rfl) rfl (G.I (G.E (G.seq ?_))))))))))); refine G.block ?_; refine G.Y (ι := Nat × Nat) (ks := [0, 2, 4]) (fun x => [(14, .int .i64 (x.1 : Int)), (15, .int .i64 (x.2 : Int))]) (fun _ => [.row v 3 1 (rowF n f)]) (fun x => a ≤ x.1 ∧ x.1 ≤ x.2 ∧ x.2 ≤ m ∧ (x.1 = a ∨ ¬ K (f m) < K (f (x.1 - 1))) ∧ (x.2 = m ∨ K (f m) < K (f x.2))) (fun x => x.2 - x.1) (a, m) (.cons rfl (.cons rfl (.cons rfl (.nil)))) rfl ?_ ?_ ?_
    exact ⟨Nat.le_refl _, by dsimp only; omega, Nat.le_refl _, .inl rfl, .inl rfl⟩
    exact ⟨rfl, rfl, trivial⟩
    rintro ⟨i, j⟩ ⟨hi, hij, hj, hl, hr⟩
    dsimp only at hi hij hj hl hr ⊢
    by_cases hlt : i < j
    case' pos => (have hfh := hfn ((i + j) / 2) (by omega) (by omega); have eh : (rowF n f)[(i + j) / 2]? = some (icell (f ((i + j) / 2) : Int)) := cd (by omega))
    all_goals
     refine G.seq (G.seq (G.region (G.v (ba rfl) rfl (G.v (ba rfl) rfl (G.v (br rfl rfl) rfl (G.I (G.E ?_))))))); refine G.cond rfl (fun hc => ?_) (fun hc => ?_)
     · all_goals
        replace hc := of_decide_eq_true hc
        try (exfalso; omega)
        all_goals
         refine G.skip (G.E (G.block (G.seq (G.region (G.v (ba rfl) rfl (G.v (ba rfl) rfl ?_)))))); refine G.v (cH rfl rfl (by omega)) rfl ?_; refine G.v (du rfl) rfl ?_; refine G.v (dz rfl rfl (by omega)) rfl ?_; refine G.v (rv_half (m := (i + j) / 2) rfl rfl (by omega) (by omega)) rfl ?_; refine G.v (bb rfl) rfl (G.I (G.E (G.seq ?_))); refine G.ba [] ?_; refine GE.q 0 rfl (by as_aux_lemma => kernel_rfl) rfl (bc (ba rfl)) rfl ?_; refine GE.q 1 rfl (by as_aux_lemma => kernel_rfl) rfl (bc (ba rfl)) rfl ?_; refine GE.q 2 rfl (by as_aux_lemma => kernel_rfl) rfl (bc (ba rfl)) rfl ?_; refine GE.q 3 rfl (by as_aux_lemma => kernel_rfl) rfl (bc (bg rfl rfl (by exact Rd.ba 0 rfl) rfl (by exact em))) rfl ?_; refine GE.q 4 rfl (by as_aux_lemma => kernel_rfl) rfl (bc (bi rfl (by exact Rd.ba 0 rfl) (by exact em) rfl)) rfl ?_; refine GE.q 5 rfl (by as_aux_lemma => kernel_rfl) rfl (bc (ba rfl)) rfl ?_; refine GE.V 6 (by as_aux_lemma => kernel_rfl) rfl rfl (bd (ba rfl)) rfl (fun _ _ h => by exact h) (fun _ _ => ?_); refine GE.V 7 (by as_aux_lemma => kernel_rfl) rfl rfl (bd (bg rfl rfl (by exact Rd.ba 0 rfl) rfl (by exact eh))) rfl (fun _ _ h => by exact h) (fun _ _ => ?_)
         refine GE.V 8 (by as_aux_lemma => kernel_rfl) rfl rfl (bd (bi rfl (by exact Rd.ba 0 rfl) (by exact eh) rfl)) rfl (fun _ _ h => by exact h) (fun _ _ => ?_); refine GE.V 9 (by as_aux_lemma => kernel_rfl) rfl rfl (bh rfl rfl (fun w hh => hcmp w hh.tail _ _ hfm hfh)) rfl (fun _ _ h => by exact h) (fun _ _ => ?_); refine GE.V 10 (by as_aux_lemma => kernel_rfl) rfl rfl (bd (br rfl rfl)) rfl (fun _ _ h => by exact h) (fun _ _ => ?_); refine GE.V 11 (by as_aux_lemma => kernel_rfl) rfl rfl (bd (bF rfl)) rfl (fun _ _ h => by exact h) (fun _ _ => ?_); refine GE.E (by as_aux_lemma => kernel_rfl) ?_; refine G.E ?_; refine G.cond rfl (fun hc => ?_) (fun hc => ?_)
         · all_goals
            simp only [ce, Bool.not_eq_true', Bool.not_eq_false', decide_eq_false_iff_not, decide_eq_true_eq] at hc
            all_goals
             refine G.region (G.v (ba rfl) rfl ?_); refine G.v (bp rfl rfl (by omega)) rfl ?_; refine G.v (bb rfl) rfl (G.I (G.bc ?_)); refine G.V ((i + j) / 2 + 1, j) 0 rfl (.cons rfl (.cons rfl (.cons rfl (.nil)))) (⟨rfl, rfl, trivial⟩) ?_ ?_
             exact ⟨by dsimp only; omega, by dsimp only; omega, by dsimp only; omega, .inr hc, hr⟩
             dsimp only; omega
         · all_goals
            simp only [ce, Bool.not_eq_true', Bool.not_eq_false', decide_eq_false_iff_not, decide_eq_true_eq] at hc
            all_goals
             refine G.region (G.v (ba rfl) rfl (G.v (bb rfl) rfl (G.I (G.bc ?_)))); refine G.V (i, (i + j) / 2) 0 rfl (.cons rfl (.cons rfl (.cons rfl (.nil)))) (⟨rfl, rfl, trivial⟩) ?_ ?_
             exact ⟨by dsimp only; omega, by dsimp only; omega, by dsimp only; omega, hl, .inr hc⟩
             dsimp only; omega
     · all_goals
        replace hc := of_decide_eq_false hc
        try (exfalso; omega)
        all_goals
         refine G.exit (G.L (G.L (G.bn (G.E (G.seq (G.seq (G.region (G.v (ba rfl) rfl (G.v (bb rfl) rfl (G.I (G.E ?_))))))))))); refine G.block ?_; refine G.bo (rowF n (rotF f m m (m + 1))) (by rw [rot_id (Nat.le_refl _) (by omega) (.inl rfl)]) rfl ?_; refine G.Y (ι := Nat) (ks := [0, 14]) (fun k => [(17, .int .i64 (k : Int))]) (fun k => [.row v 3 1 (rowF n (rotF f k m (m + 1)))]) (fun k => i ≤ k ∧ k ≤ m) (fun k => k) m (.cons rfl (.cons rfl (.nil))) rfl ?_ ?_ ?_
         exact ⟨by omega, Nat.le_refl _⟩
         exact ⟨rfl, trivial⟩
         rintro k ⟨hik, hkm⟩
         by_cases hk2 : i < k
         case' pos => (have e1 : (rowF n (rotF f k m (m + 1)))[k]? = some (icell (f m : Int)) := (by rw [cd (by omega), d6 (Nat.le_refl _) (by omega)]; congr 4; omega); have e2 : (rowF n (rotF f k m (m + 1)))[k - 1]? = some (icell (f (k - 1) : Int)) := (by rw [cd (by omega), cO hkm (by omega) (.inl (by omega))]))
         all_goals
          refine G.seq (G.seq (G.region (G.v (ba rfl) rfl (G.v (ba rfl) rfl (G.v (b6 rfl rfl) rfl (G.I (G.E ?_))))))); refine G.cond rfl (fun hc => ?_) (fun hc => ?_)
          · all_goals
             replace hc := of_decide_eq_true hc
             try (exfalso; omega)
             all_goals
              refine G.skip (G.E (G.seq (G.block ?_))); refine G.drawS [15, 17] rfl ?_; refine GS.p 0 rfl (by as_aux_lemma => kernel_rfl) (bc (ba rfl)) (fun _ h => h.drop 1) rfl ?_; refine GS.p 1 rfl (by as_aux_lemma => kernel_rfl) (bc (ba rfl)) (fun _ h => h.drop 1) rfl ?_; refine GS.p 2 rfl (by as_aux_lemma => kernel_rfl) (bc (ba rfl)) (fun _ h => h.drop 1) rfl ?_; refine GS.p 3 rfl (by as_aux_lemma => kernel_rfl) (bc (ba rfl)) (fun _ h => h.drop 1) rfl ?_; refine GS.p 4 rfl (by as_aux_lemma => kernel_rfl) (bc (cq rfl rfl (by omega) (by omega))) (fun _ h => h.drop 1) rfl ?_; refine GS.p 5 rfl (by as_aux_lemma => kernel_rfl) (bc (ba rfl)) (fun _ h => h.drop 1) rfl ?_; refine GS.p 6 rfl (by as_aux_lemma => kernel_rfl) (bc (ba rfl)) (fun _ h => h.drop 1) rfl ?_; refine GS.p 7 rfl (by as_aux_lemma => kernel_rfl) (bc (cq rfl rfl (by omega) (by omega))) (fun _ h => h.drop 1) rfl ?_; refine GS.q 8 [9, 14, 15, 16, 17] rfl (by as_aux_lemma => kernel_rfl) (by as_aux_lemma => kernel_rfl) (bc (bg rfl rfl (by exact Rd.ba 0 rfl) rfl (by exact e2))) rfl ?_; refine GS.q 9 [14, 15, 16, 17] rfl (by as_aux_lemma => kernel_rfl) (by as_aux_lemma => kernel_rfl) (bc (bi rfl (by exact Rd.ba 0 rfl) (by exact e2) rfl)) rfl ?_; refine GS.p 10 rfl (by as_aux_lemma => kernel_rfl) (bc (ba rfl)) (fun _ h => h.drop 1) rfl ?_
              refine GS.p 11 rfl (by as_aux_lemma => kernel_rfl) (bc (ba rfl)) (fun _ h => h.drop 1) rfl ?_; refine GS.q 12 [13, 14, 15, 16, 17] rfl (by as_aux_lemma => kernel_rfl) (by as_aux_lemma => kernel_rfl) (bc (bg rfl rfl (by exact Rd.ba 0 rfl) rfl (by exact e1))) rfl ?_; refine GS.q 13 [14, 15, 16, 17] rfl (by as_aux_lemma => kernel_rfl) (by as_aux_lemma => kernel_rfl) (bc (bi rfl (by exact Rd.ba 0 rfl) (by exact e1) rfl)) rfl ?_; refine GS.q 14 [15, 16, 17] rfl (by as_aux_lemma => kernel_rfl) (by as_aux_lemma => kernel_rfl) (bc (bg rfl rfl (by exact Rd.ba 0 rfl) rfl (by exact e1))) rfl ?_; refine GS.o0 15 (by as_aux_lemma => kernel_rfl) rfl rfl (cR rfl rfl rfl (by exact e1) rfl rfl rfl rfl (.zero (.cons .nil))) (fun _ _ h => h.drop 1) (fun _ _ => ?_); refine GS.q 16 [17] rfl (by as_aux_lemma => kernel_rfl) (by as_aux_lemma => kernel_rfl) (bc (bg rfl rfl (by exact Rd.ba 0 rfl) rfl (by exact cW (by omega) e2))) rfl ?_; refine GS.o0 17 (by as_aux_lemma => kernel_rfl) rfl rfl (cR rfl rfl rfl (by exact cW (by omega) e2) rfl rfl rfl rfl (.zero (.cons .nil))) (fun _ _ h => h.drop 1) (fun _ _ => ?_); refine GS.done (by as_aux_lemma => kernel_rfl) ?_; refine G.bc (G.E (G.region (G.v (ba rfl) rfl ?_))); refine G.v (cq rfl rfl (by omega) (by omega)) rfl ?_; refine G.v (bb rfl) rfl (G.I ?_)
              refine G.V (k - 1) 0 (bV (congrArg (fun z => Ch.row v 3 1 z) (by obtain ⟨q, rfl⟩ : ∃ q, k = q + 1 := ⟨k - 1, by omega⟩; exact row_dn (by omega)))) (.cons rfl (.cons rfl (.nil))) ?_ ?_ ?_
              exact ⟨rfl, trivial⟩
              exact ⟨by omega, by omega⟩
              omega
          · all_goals
             replace hc := of_decide_eq_false hc
             try (exfalso; omega)
             all_goals
              refine G.exit (G.L (G.L (G.bn (G.E (G.ret (G.O ?_))))))
              exact G.retF0 (rotF f i m (m + 1)) ⟨(rot_frm (by omega) (by omega)).mono (by omega) (by omega), by obtain rfl : b = m + 1 := (by omega); exact put_right hs1 hcr hi (by omega) hl (by (have hq : j = i := (by omega)); rw [hq] at hr; exact hr)⟩ rfl rfl (fun w hw => by obtain rfl : i = k := (by omega); exact hw)
  refine G.skip (G.E (G.seq (G.region (G.v (ba rfl) rfl (G.v (ba rfl) rfl ?_))))); refine G.v (cH rfl rfl (by omega)) rfl ?_; refine G.v (du rfl) rfl ?_; refine G.v (dz rfl rfl (by omega)) rfl ?_; refine G.v (rv_half (m := (a + b) / 2) rfl rfl (by omega) (by omega)) rfl ?_; refine G.v (bb rfl) rfl (G.I (G.E (G.seq (G.region (G.v (ba rfl) rfl (G.v (ba rfl) rfl ?_)))))); refine G.v (cH rfl rfl (by omega)) rfl ?_; refine G.v (bb rfl) rfl (G.I (G.E (G.seq (G.region (G.v (bb rfl) rfl (G.v (bb rfl) rfl (G.I (G.E (G.seq (G.seq (G.region ?_))))))))))); refine G.v (ba rfl) rfl (G.v (ba rfl) rfl (G.v (b6 rfl rfl) rfl (G.I (G.E ?_)))); refine G.bd rfl (fun hc => ?_) (fun hc => ?_)
  · obtain ⟨s0, hs0⟩ : ∃ y, y = (a + b) / 2 + m - b := ⟨_, rfl⟩
    obtain ⟨r0, hr0⟩ : ∃ y, y = (a + b) / 2 := ⟨_, rfl⟩
    have hL : s0 = a ∨ (a + b) / 2 + m - s0 = b := by omega
    have hR : r0 = m ∨ (a + b) / 2 + m - r0 = m := by omega
    refine G.seq (G.region (G.v (ba rfl) rfl (G.v (ba rfl) rfl ?_))); refine G.v (cI rfl rfl (by omega) (by omega)) rfl ?_; refine G.v (bb rfl) rfl (G.I (G.E (G.region (G.v (ba rfl) rfl (G.v (bb rfl) rfl (G.I (G.E (G.seq (G.region (G.v (ba rfl) rfl ?_)))))))))); refine G.v (cq rfl rfl (by omega) (by omega)) rfl ?_; refine G.v (bb rfl) rfl (G.I (G.E (G.seq (G.block ?_)))); refine G.Y (ι := Nat × Nat) (ks := [0, 1, 2, 3, 4, 18, 19, 22]) (fun x => [(20, .int .i64 (x.1 : Int)), (21, .int .i64 (x.2 : Int))]) (fun _ => [.row v 3 1 (rowF n f)]) (fun x => s0 ≤ x.1 ∧ x.1 ≤ x.2 ∧ x.2 ≤ r0 ∧ (x.1 = s0 ∨ ¬ K (f ((a + b) / 2 + m - 1 - (x.1 - 1))) < K (f (x.1 - 1))) ∧ (x.2 = r0 ∨ K (f ((a + b) / 2 + m - 1 - x.2)) < K (f x.2))) (fun x => x.2 - x.1) (s0, r0) (.cons rfl (.cons rfl (.cons rfl (.cons rfl (.cons rfl (.cons rfl (.cons rfl (.cons rfl (.nil))))))))) rfl ?_ ?_ ?_
    exact ⟨Nat.le_refl _, by dsimp only; omega, Nat.le_refl _, .inl rfl, .inl rfl⟩
    exact ⟨congrArg (fun z : Nat => some (Value.int .i64 (z : Int))) hs0.symm, congrArg (fun z : Nat => some (Value.int .i64 (z : Int))) hr0.symm, trivial⟩
    rintro ⟨i, j⟩ ⟨hi, hij, hj, hl, hr⟩
    dsimp only at hi hij hj hl hr ⊢
    have ham : a ≤ s0 ∧ r0 ≤ m ∧ r0 ≤ (a + b) / 2 ∧ (a + b) / 2 + m - s0 ≤ b := by omega
    by_cases hlt : i < j
    case' pos => (have hfh := hfn ((i + j) / 2) (by omega) (by omega); have eh : (rowF n f)[(i + j) / 2]? = some (icell (f ((i + j) / 2) : Int)) := cd (by omega); have hfp := hfn ((a + b) / 2 + m - 1 - (i + j) / 2) (by omega) (by omega); have ep : (rowF n f)[(a + b) / 2 + m - 1 - (i + j) / 2]? = some (icell (f ((a + b) / 2 + m - 1 - (i + j) / 2) : Int)) := cd (by omega))
    case' neg => (obtain rfl : j = i := (by omega); have hmid := mid_of (st := j) (en := (a + b) / 2 + m - j) (mid := (a + b) / 2) hs1 hs2 hcr (by omega) (by omega) (by omega) (by omega) (by omega) (by omega) (by omega) (by rcases hl with hl | hl; (rcases hL with h | h; exact .inl (hl.trans h); exact .inr (.inl (by omega))); (by_cases hz : j = a; exact .inl hz; rw [show (a + b) / 2 + m - 1 - (j - 1) = (a + b) / 2 + m - j from by omega] at hl; exact .inr (.inr hl))) (by rcases hr with hr | hr; (rcases hR with h | h; exact .inl (hr.trans h); exact .inr (.inl (by omega))); (rw [show (a + b) / 2 + m - 1 - j = (a + b) / 2 + m - j - 1 from by omega] at hr; exact .inr (.inr hr))); have hfr : Frm a b f (rotF f j m ((a + b) / 2 + m - j)) := (rot_frm (by omega) (by omega)).mono (by omega) (by omega))
    all_goals
     refine G.seq (G.seq (G.region (G.v (ba rfl) rfl (G.v (ba rfl) rfl (G.v (br rfl rfl) rfl (G.I (G.E ?_))))))); refine G.cond rfl (fun hc => ?_) (fun hc => ?_)
     · all_goals
        replace hc := of_decide_eq_true hc
        try (exfalso; omega)
        all_goals
         refine G.skip (G.E (G.block (G.seq (G.region (G.v (ba rfl) rfl (G.v (ba rfl) rfl ?_)))))); refine G.v (cH rfl rfl (by omega)) rfl ?_; refine G.v (du rfl) rfl ?_; refine G.v (dz rfl rfl (by omega)) rfl ?_; refine G.v (rv_half (m := (i + j) / 2) rfl rfl (by omega) (by omega)) rfl ?_; refine G.v (bb rfl) rfl (G.I (G.E (G.seq ?_))); refine G.ba [] ?_; refine GE.q 0 rfl (by as_aux_lemma => kernel_rfl) rfl (bc (ba rfl)) rfl ?_; refine GE.q 1 rfl (by as_aux_lemma => kernel_rfl) rfl (bc (ba rfl)) rfl ?_; refine GE.q 2 rfl (by as_aux_lemma => kernel_rfl) rfl (bc (ba rfl)) rfl ?_; refine GE.q 3 rfl (by as_aux_lemma => kernel_rfl) rfl (bc (ba rfl)) rfl ?_; refine GE.q 4 rfl (by as_aux_lemma => kernel_rfl) rfl (bc (cI rfl rfl (by omega) (by omega))) rfl ?_; refine GE.q 5 rfl (by as_aux_lemma => kernel_rfl) rfl (bc (bg rfl rfl (by exact Rd.ba 0 rfl) rfl (by exact ep))) rfl ?_; refine GE.q 6 rfl (by as_aux_lemma => kernel_rfl) rfl (bc (bi rfl (by exact Rd.ba 0 rfl) (by exact ep) rfl)) rfl ?_; refine GE.q 7 rfl (by as_aux_lemma => kernel_rfl) rfl (bc (ba rfl)) rfl ?_; refine GE.V 8 (by as_aux_lemma => kernel_rfl) rfl rfl (bd (ba rfl)) rfl (fun _ _ h => by exact h) (fun _ _ => ?_)
         refine GE.V 9 (by as_aux_lemma => kernel_rfl) rfl rfl (bd (bg rfl rfl (by exact Rd.ba 0 rfl) rfl (by exact eh))) rfl (fun _ _ h => by exact h) (fun _ _ => ?_); refine GE.V 10 (by as_aux_lemma => kernel_rfl) rfl rfl (bd (bi rfl (by exact Rd.ba 0 rfl) (by exact eh) rfl)) rfl (fun _ _ h => by exact h) (fun _ _ => ?_); refine GE.V 11 (by as_aux_lemma => kernel_rfl) rfl rfl (bh rfl rfl (fun w hh => hcmp w hh.tail _ _ hfp hfh)) rfl (fun _ _ h => by exact h) (fun _ _ => ?_); refine GE.V 12 (by as_aux_lemma => kernel_rfl) rfl rfl (bd (br rfl rfl)) rfl (fun _ _ h => by exact h) (fun _ _ => ?_); refine GE.V 13 (by as_aux_lemma => kernel_rfl) rfl rfl (bd (bF rfl)) rfl (fun _ _ h => by exact h) (fun _ _ => ?_); refine GE.E (by as_aux_lemma => kernel_rfl) ?_; refine G.E ?_; refine G.cond rfl (fun hc => ?_) (fun hc => ?_)
         · all_goals
            simp only [ce, Bool.not_eq_true', Bool.not_eq_false', decide_eq_false_iff_not, decide_eq_true_eq] at hc
            all_goals
             refine G.region (G.v (ba rfl) rfl ?_); refine G.v (bp rfl rfl (by omega)) rfl ?_; refine G.v (bb rfl) rfl (G.I (G.bc ?_)); refine G.V ((i + j) / 2 + 1, j) 0 rfl (.cons rfl (.cons rfl (.cons rfl (.cons rfl (.cons rfl (.cons rfl (.cons rfl (.cons rfl (.nil))))))))) (⟨rfl, rfl, trivial⟩) ?_ ?_
             exact ⟨by dsimp only; omega, by dsimp only; omega, by dsimp only; omega, .inr hc, hr⟩
             dsimp only; omega
         · all_goals
            simp only [ce, Bool.not_eq_true', Bool.not_eq_false', decide_eq_false_iff_not, decide_eq_true_eq] at hc
            all_goals
             refine G.region (G.v (ba rfl) rfl (G.v (bb rfl) rfl (G.I (G.bc ?_)))); refine G.V (i, (i + j) / 2) 0 rfl (.cons rfl (.cons rfl (.cons rfl (.cons rfl (.cons rfl (.cons rfl (.cons rfl (.cons rfl (.nil))))))))) (⟨rfl, rfl, trivial⟩) ?_ ?_
             exact ⟨by dsimp only; omega, by dsimp only; omega, by dsimp only; omega, hl, .inr hc⟩
             dsimp only; omega
     · all_goals
        replace hc := of_decide_eq_false hc
        try (exfalso; omega)
        all_goals
         refine G.exit (G.L (G.L (G.bn (G.E (G.seq (G.region (G.v (ba rfl) rfl (G.v (ba rfl) rfl ?_)))))))); refine G.v (cI rfl rfl (by omega) (by omega)) rfl ?_; refine G.v (bb rfl) rfl (G.I (G.E (G.seq (G.seq (G.region (G.v (ba rfl) rfl (G.v (ba rfl) rfl (G.v (br rfl rfl) rfl (G.v (ba rfl) rfl ?_)))))))))
         all_goals (((with_reducible refine G.gP rfl rfl (fun hg => ?_) (fun hg => ?_)) <;> (try exact Bool.noConfusion hg) <;> (try (exfalso; (have hq := of_decide_eq_false hg; omega))) <;> ((refine G.gY rfl rfl ?_; refine G.v (ba rfl) rfl ?_))))
         all_goals (((refine G.gY rfl rfl ?_; refine G.v (ba rfl) rfl ?_)))
         all_goals (((refine G.gY rfl rfl ?_; refine G.v (br rfl rfl) rfl ?_)))
         all_goals ((refine G.v (bk rfl rfl) rfl ?_))
         all_goals
          refine G.I (G.E ?_); refine G.cond rfl (fun hc => ?_) (fun hc => ?_)
          · all_goals
             replace hc := of_decide_eq_true hc
             all_goals
              refine G.region (G.v (ba rfl) rfl (G.v (ba rfl) rfl (G.v (ba rfl) rfl (G.v (ba rfl) rfl (G.v (ba rfl) rfl ?_)))))
              (refine G.bb (v) rfl ?_); refine G.op (bO rfl rfl rfl (rotate_any (by omega) (by omega) (by omega) hn)) rfl ?_; rintro ⟨⟩ _; try dsimp only
              refine G.I (G.E (G.seq (G.seq (G.region (G.v (ba rfl) rfl (G.v (ba rfl) rfl (G.v (br rfl rfl) rfl (G.v (ba rfl) rfl ?_))))))))
              all_goals (((with_reducible refine G.gP rfl rfl (fun hg => ?_) (fun hg => ?_)) <;> (try exact Bool.noConfusion hg) <;> (try (exfalso; (have hq := of_decide_eq_false hg; omega))) <;> (first | (refine G.gY rfl rfl ?_; refine G.v (ba rfl) rfl ?_) | refine G.gN rfl rfl rfl ?_)))
              all_goals ((first | (refine G.gY rfl rfl ?_; refine G.v (ba rfl) rfl ?_) | refine G.gN rfl rfl rfl ?_))
              all_goals ((first | (refine G.gY rfl rfl ?_; refine G.v (br rfl rfl) rfl ?_) | refine G.gN rfl rfl rfl ?_))
              all_goals ((first | refine G.v (bk rfl rfl) rfl ?_ | refine G.v (bm rfl rfl) rfl ?_))
              all_goals
               refine G.I (G.E ?_); refine G.cond rfl (fun hc => ?_) (fun hc => ?_)
               · try exact Bool.noConfusion hc
                 all_goals
                  replace hc := of_decide_eq_true hc
                  all_goals
                   refine G.region (G.v (ba rfl) rfl (G.v (ba rfl) rfl (G.v (ba rfl) rfl (G.v (ba rfl) rfl (G.v (ba rfl) rfl ?_)))))
                   (refine G.bb (v) rfl ?_); refine G.op (bO rfl rfl rfl (ih (by omega) (by (have hq := of_decide_eq_true hg; omega)) (by omega) (by omega) hmid.s1 hmid.s2 hmid.c1 (fun x x1 x2 => hfr.lt hfn x1 (by omega)))) rfl ?_; rintro g1 ⟨hf1, hm1⟩; try dsimp only
                   refine G.I (G.E (G.seq (G.region (G.v (ba rfl) rfl (G.v (ba rfl) rfl (G.v (br rfl rfl) rfl (G.v (ba rfl) rfl ?_)))))))
                   all_goals (((with_reducible refine G.gP rfl rfl (fun hg => ?_) (fun hg => ?_)) <;> (try exact Bool.noConfusion hg) <;> (try (exfalso; (have hq := of_decide_eq_false hg; omega))) <;> ((refine G.gY rfl rfl ?_; refine G.v (ba rfl) rfl ?_))))
                   all_goals (((refine G.gY rfl rfl ?_; refine G.v (ba rfl) rfl ?_)))
                   all_goals (((refine G.gY rfl rfl ?_; refine G.v (br rfl rfl) rfl ?_)))
                   all_goals ((refine G.v (bk rfl rfl) rfl ?_))
                   all_goals
                    refine G.I (G.E ?_); refine G.cond rfl (fun hc => ?_) (fun hc => ?_)
                    · all_goals
                       replace hc := of_decide_eq_true hc
                       all_goals
                        have h3 := hf1.srt_hi (Nat.le_refl _) hmid.s3
                        have h4 := hf1.srt_hi (by omega) hmid.s4
                        have h5 := hf1.crs_hi (Nat.le_refl _) (by omega) hmid.c2
                        all_goals
                         refine G.region (G.v (ba rfl) rfl (G.v (ba rfl) rfl (G.v (ba rfl) rfl (G.v (ba rfl) rfl (G.v (ba rfl) rfl ?_)))))
                         (refine G.bb (v) rfl ?_); refine G.op (bO rfl rfl rfl (ih (by omega) (by omega) (by omega) (by omega) h3 h4 h5 (fun x x1 x2 => by rw [hf1.out x (.inr x1)]; exact hfr.lt hfn (by omega) x2))) rfl ?_; rintro g2 ⟨hf2, hm2⟩; try dsimp only
                         refine G.I ?_
                         exact G.bC g2 ⟨hfr.trans ((hf1.mono (Nat.le_refl _) (by omega)).trans (hf2.mono (by omega) (Nat.le_refl _))), cA hmid.lr hf1 hm1 hf2 hm2⟩ rfl rfl (fun w hw => hw)
                    · all_goals
                       replace hc := of_decide_eq_false hc
                       all_goals
                        have h3 := hf1.srt_hi (Nat.le_refl _) hmid.s3
                        have h4 := hf1.srt_hi (by omega) hmid.s4
                        obtain ⟨g2, hg2⟩ : ∃ y, y = g1 := ⟨_, rfl⟩
                        have hf2 : Frm ((a + b) / 2) b g1 g2 := hg2 ▸ Frm.refl _ _ _
                        have hm2 : Srt K ((a + b) / 2) b g2 := hg2 ▸ dR h3 h4 (by omega) (by omega) (by omega)
                        refine G.bo (rowF n g2) (by rw [hg2]) rfl ?_
                        all_goals
                         refine G.skip ?_
                         exact G.bC g2 ⟨hfr.trans ((hf1.mono (Nat.le_refl _) (by omega)).trans (hf2.mono (by omega) (Nat.le_refl _))), cA hmid.lr hf1 hm1 hf2 hm2⟩ rfl rfl (fun w hw => hw)
               · all_goals
                  try replace hc := of_decide_eq_false hc
                  try simp only [ce, Bool.not_eq_true', Bool.not_eq_false', decide_eq_false_iff_not, decide_eq_true_eq] at hc
                  try (exfalso; omega)
                  all_goals
                   obtain ⟨g1, hg1⟩ : ∃ y, y = rotF f j m ((a + b) / 2 + m - j) := ⟨_, rfl⟩
                   have hf1 : Frm a ((a + b) / 2) (rotF f j m ((a + b) / 2 + m - j)) g1 := hg1 ▸ Frm.refl _ _ _
                   have hm1 : Srt K a ((a + b) / 2) g1 := hg1 ▸ dR hmid.s1 hmid.s2 (by (have hq := of_decide_eq_false hg; omega)) (by omega) (by omega)
                   refine G.bo (rowF n g1) (by rw [hg1]) rfl ?_
                   all_goals
                    refine G.skip (G.E (G.seq (G.region (G.v (ba rfl) rfl (G.v (ba rfl) rfl (G.v (br rfl rfl) rfl (G.v (ba rfl) rfl ?_)))))))
                    all_goals (((with_reducible refine G.gP rfl rfl (fun hg => ?_) (fun hg => ?_)) <;> (try exact Bool.noConfusion hg) <;> (try (exfalso; (have hq := of_decide_eq_false hg; omega))) <;> ((refine G.gY rfl rfl ?_; refine G.v (ba rfl) rfl ?_))))
                    all_goals (((refine G.gY rfl rfl ?_; refine G.v (ba rfl) rfl ?_)))
                    all_goals (((refine G.gY rfl rfl ?_; refine G.v (br rfl rfl) rfl ?_)))
                    all_goals ((refine G.v (bk rfl rfl) rfl ?_))
                    all_goals
                     refine G.I (G.E ?_); refine G.cond rfl (fun hc => ?_) (fun hc => ?_)
                     · all_goals
                        replace hc := of_decide_eq_true hc
                        all_goals
                         have h3 := hf1.srt_hi (Nat.le_refl _) hmid.s3
                         have h4 := hf1.srt_hi (by omega) hmid.s4
                         have h5 := hf1.crs_hi (Nat.le_refl _) (by omega) hmid.c2
                         all_goals
                          refine G.region (G.v (ba rfl) rfl (G.v (ba rfl) rfl (G.v (ba rfl) rfl (G.v (ba rfl) rfl (G.v (ba rfl) rfl ?_)))))
                          (refine G.bb (v) rfl ?_); refine G.op (bO rfl rfl rfl (ih (by omega) (by omega) (by omega) (by omega) h3 h4 h5 (fun x x1 x2 => by rw [hf1.out x (.inr x1)]; exact hfr.lt hfn (by omega) x2))) rfl ?_; rintro g2 ⟨hf2, hm2⟩; try dsimp only
                          refine G.I ?_
                          exact G.bC g2 ⟨hfr.trans ((hf1.mono (Nat.le_refl _) (by omega)).trans (hf2.mono (by omega) (Nat.le_refl _))), cA hmid.lr hf1 hm1 hf2 hm2⟩ rfl rfl (fun w hw => hw)
                     · all_goals
                        replace hc := of_decide_eq_false hc
                        all_goals
                         have h3 := hf1.srt_hi (Nat.le_refl _) hmid.s3
                         have h4 := hf1.srt_hi (by omega) hmid.s4
                         obtain ⟨g2, hg2⟩ : ∃ y, y = g1 := ⟨_, rfl⟩
                         have hf2 : Frm ((a + b) / 2) b g1 g2 := hg2 ▸ Frm.refl _ _ _
                         have hm2 : Srt K ((a + b) / 2) b g2 := hg2 ▸ dR h3 h4 (by omega) (by omega) (by omega)
                         refine G.bo (rowF n g2) (by rw [hg2]) rfl ?_
                         all_goals
                          refine G.skip ?_
                          exact G.bC g2 ⟨hfr.trans ((hf1.mono (Nat.le_refl _) (by omega)).trans (hf2.mono (by omega) (Nat.le_refl _))), cA hmid.lr hf1 hm1 hf2 hm2⟩ rfl rfl (fun w hw => hw)
          · all_goals
             replace hc := of_decide_eq_false hc
             all_goals
              refine G.bo (rowF n (rotF f j m ((a + b) / 2 + m - j))) (by rw [rot_id (by omega) (by omega) (by omega)]) rfl ?_
              all_goals
               refine G.skip (G.E (G.seq (G.seq (G.region (G.v (ba rfl) rfl (G.v (ba rfl) rfl (G.v (br rfl rfl) rfl (G.v (ba rfl) rfl ?_))))))))
               all_goals (((with_reducible refine G.gP rfl rfl (fun hg => ?_) (fun hg => ?_)) <;> (try exact Bool.noConfusion hg) <;> (try (exfalso; (have hq := of_decide_eq_false hg; omega))) <;> ((refine G.gY rfl rfl ?_; refine G.v (ba rfl) rfl ?_))))
               all_goals (((refine G.gY rfl rfl ?_; refine G.v (ba rfl) rfl ?_)))
               all_goals (((refine G.gY rfl rfl ?_; refine G.v (br rfl rfl) rfl ?_)))
               all_goals ((refine G.v (bk rfl rfl) rfl ?_))
               all_goals
                refine G.I (G.E ?_); refine G.cond rfl (fun hc => ?_) (fun hc => ?_)
                · all_goals
                   replace hc := of_decide_eq_true hc
                   exfalso; omega
                · all_goals
                   replace hc := of_decide_eq_false hc
                   all_goals
                    obtain ⟨g1, hg1⟩ : ∃ y, y = rotF f j m ((a + b) / 2 + m - j) := ⟨_, rfl⟩
                    have hf1 : Frm a ((a + b) / 2) (rotF f j m ((a + b) / 2 + m - j)) g1 := hg1 ▸ Frm.refl _ _ _
                    have hm1 : Srt K a ((a + b) / 2) g1 := hg1 ▸ dR hmid.s1 hmid.s2 (by omega) (by omega) (by omega)
                    refine G.bo (rowF n g1) (by rw [hg1]) rfl ?_
                    all_goals
                     refine G.skip (G.E (G.seq (G.region (G.v (ba rfl) rfl (G.v (ba rfl) rfl (G.v (br rfl rfl) rfl (G.v (ba rfl) rfl ?_)))))))
                     all_goals (((with_reducible refine G.gP rfl rfl (fun hg => ?_) (fun hg => ?_)) <;> (try exact Bool.noConfusion hg) <;> (try (exfalso; (have hq := of_decide_eq_false hg; omega))) <;> ((refine G.gY rfl rfl ?_; refine G.v (ba rfl) rfl ?_))))
                     all_goals (((refine G.gY rfl rfl ?_; refine G.v (ba rfl) rfl ?_)))
                     all_goals (((refine G.gY rfl rfl ?_; refine G.v (br rfl rfl) rfl ?_)))
                     all_goals ((refine G.v (bk rfl rfl) rfl ?_))
                     all_goals
                      refine G.I (G.E ?_); refine G.cond rfl (fun hc => ?_) (fun hc => ?_)
                      · all_goals
                         replace hc := of_decide_eq_true hc
                         all_goals
                          have h3 := hf1.srt_hi (Nat.le_refl _) hmid.s3
                          have h4 := hf1.srt_hi (by omega) hmid.s4
                          have h5 := hf1.crs_hi (Nat.le_refl _) (by omega) hmid.c2
                          all_goals
                           refine G.region (G.v (ba rfl) rfl (G.v (ba rfl) rfl (G.v (ba rfl) rfl (G.v (ba rfl) rfl (G.v (ba rfl) rfl ?_)))))
                           (refine G.bb (v) rfl ?_); refine G.op (bO rfl rfl rfl (ih (by omega) (by omega) (by omega) (by omega) h3 h4 h5 (fun x x1 x2 => by rw [hf1.out x (.inr x1)]; exact hfr.lt hfn (by omega) x2))) rfl ?_; rintro g2 ⟨hf2, hm2⟩; try dsimp only
                           refine G.I ?_
                           exact G.bC g2 ⟨hfr.trans ((hf1.mono (Nat.le_refl _) (by omega)).trans (hf2.mono (by omega) (Nat.le_refl _))), cA hmid.lr hf1 hm1 hf2 hm2⟩ rfl rfl (fun w hw => hw)
                      · all_goals
                         replace hc := of_decide_eq_false hc
                         exfalso; omega
  · obtain ⟨s0, hs0⟩ : ∃ y, y = a := ⟨_, rfl⟩
    obtain ⟨r0, hr0⟩ : ∃ y, y = m := ⟨_, rfl⟩
    have hL : s0 = a ∨ (a + b) / 2 + m - s0 = b := by omega
    have hR : r0 = m ∨ (a + b) / 2 + m - r0 = m := by omega
    refine G.seq (G.region (G.v (ba rfl) rfl (G.v (bb rfl) rfl (G.I (G.E (G.region (G.v (ba rfl) rfl (G.v (bb rfl) rfl (G.I (G.E (G.seq ?_))))))))))); refine G.region (G.v (ba rfl) rfl ?_); refine G.v (cq rfl rfl (by omega) (by omega)) rfl ?_; refine G.v (bb rfl) rfl (G.I (G.E (G.seq (G.block ?_)))); refine G.Y (ι := Nat × Nat) (ks := [0, 1, 2, 3, 4, 18, 19, 22]) (fun x => [(20, .int .i64 (x.1 : Int)), (21, .int .i64 (x.2 : Int))]) (fun _ => [.row v 3 1 (rowF n f)]) (fun x => s0 ≤ x.1 ∧ x.1 ≤ x.2 ∧ x.2 ≤ r0 ∧ (x.1 = s0 ∨ ¬ K (f ((a + b) / 2 + m - 1 - (x.1 - 1))) < K (f (x.1 - 1))) ∧ (x.2 = r0 ∨ K (f ((a + b) / 2 + m - 1 - x.2)) < K (f x.2))) (fun x => x.2 - x.1) (s0, r0) (.cons rfl (.cons rfl (.cons rfl (.cons rfl (.cons rfl (.cons rfl (.cons rfl (.cons rfl (.nil))))))))) rfl ?_ ?_ ?_
    exact ⟨Nat.le_refl _, by dsimp only; omega, Nat.le_refl _, .inl rfl, .inl rfl⟩
    exact ⟨congrArg (fun z : Nat => some (Value.int .i64 (z : Int))) hs0.symm, congrArg (fun z : Nat => some (Value.int .i64 (z : Int))) hr0.symm, trivial⟩
    rintro ⟨i, j⟩ ⟨hi, hij, hj, hl, hr⟩
    dsimp only at hi hij hj hl hr ⊢
    have ham : a ≤ s0 ∧ r0 ≤ m ∧ r0 ≤ (a + b) / 2 ∧ (a + b) / 2 + m - s0 ≤ b := by omega
    by_cases hlt : i < j
    case' pos => (have hfh := hfn ((i + j) / 2) (by omega) (by omega); have eh : (rowF n f)[(i + j) / 2]? = some (icell (f ((i + j) / 2) : Int)) := cd (by omega); have hfp := hfn ((a + b) / 2 + m - 1 - (i + j) / 2) (by omega) (by omega); have ep : (rowF n f)[(a + b) / 2 + m - 1 - (i + j) / 2]? = some (icell (f ((a + b) / 2 + m - 1 - (i + j) / 2) : Int)) := cd (by omega))
    case' neg => (obtain rfl : j = i := (by omega); have hmid := mid_of (st := j) (en := (a + b) / 2 + m - j) (mid := (a + b) / 2) hs1 hs2 hcr (by omega) (by omega) (by omega) (by omega) (by omega) (by omega) (by omega) (by rcases hl with hl | hl; (rcases hL with h | h; exact .inl (hl.trans h); exact .inr (.inl (by omega))); (by_cases hz : j = a; exact .inl hz; rw [show (a + b) / 2 + m - 1 - (j - 1) = (a + b) / 2 + m - j from by omega] at hl; exact .inr (.inr hl))) (by rcases hr with hr | hr; (rcases hR with h | h; exact .inl (hr.trans h); exact .inr (.inl (by omega))); (rw [show (a + b) / 2 + m - 1 - j = (a + b) / 2 + m - j - 1 from by omega] at hr; exact .inr (.inr hr))); have hfr : Frm a b f (rotF f j m ((a + b) / 2 + m - j)) := (rot_frm (by omega) (by omega)).mono (by omega) (by omega))
    all_goals
     refine G.seq (G.seq (G.region (G.v (ba rfl) rfl (G.v (ba rfl) rfl (G.v (br rfl rfl) rfl (G.I (G.E ?_))))))); refine G.cond rfl (fun hc => ?_) (fun hc => ?_)
     · all_goals
        replace hc := of_decide_eq_true hc
        try (exfalso; omega)
        all_goals
         refine G.skip (G.E (G.block (G.seq (G.region (G.v (ba rfl) rfl (G.v (ba rfl) rfl ?_)))))); refine G.v (cH rfl rfl (by omega)) rfl ?_; refine G.v (du rfl) rfl ?_; refine G.v (dz rfl rfl (by omega)) rfl ?_; refine G.v (rv_half (m := (i + j) / 2) rfl rfl (by omega) (by omega)) rfl ?_; refine G.v (bb rfl) rfl (G.I (G.E (G.seq ?_))); refine G.ba [] ?_; refine GE.q 0 rfl (by as_aux_lemma => kernel_rfl) rfl (bc (ba rfl)) rfl ?_; refine GE.q 1 rfl (by as_aux_lemma => kernel_rfl) rfl (bc (ba rfl)) rfl ?_; refine GE.q 2 rfl (by as_aux_lemma => kernel_rfl) rfl (bc (ba rfl)) rfl ?_; refine GE.q 3 rfl (by as_aux_lemma => kernel_rfl) rfl (bc (ba rfl)) rfl ?_; refine GE.q 4 rfl (by as_aux_lemma => kernel_rfl) rfl (bc (cI rfl rfl (by omega) (by omega))) rfl ?_; refine GE.q 5 rfl (by as_aux_lemma => kernel_rfl) rfl (bc (bg rfl rfl (by exact Rd.ba 0 rfl) rfl (by exact ep))) rfl ?_; refine GE.q 6 rfl (by as_aux_lemma => kernel_rfl) rfl (bc (bi rfl (by exact Rd.ba 0 rfl) (by exact ep) rfl)) rfl ?_; refine GE.q 7 rfl (by as_aux_lemma => kernel_rfl) rfl (bc (ba rfl)) rfl ?_; refine GE.V 8 (by as_aux_lemma => kernel_rfl) rfl rfl (bd (ba rfl)) rfl (fun _ _ h => by exact h) (fun _ _ => ?_)
         refine GE.V 9 (by as_aux_lemma => kernel_rfl) rfl rfl (bd (bg rfl rfl (by exact Rd.ba 0 rfl) rfl (by exact eh))) rfl (fun _ _ h => by exact h) (fun _ _ => ?_); refine GE.V 10 (by as_aux_lemma => kernel_rfl) rfl rfl (bd (bi rfl (by exact Rd.ba 0 rfl) (by exact eh) rfl)) rfl (fun _ _ h => by exact h) (fun _ _ => ?_); refine GE.V 11 (by as_aux_lemma => kernel_rfl) rfl rfl (bh rfl rfl (fun w hh => hcmp w hh.tail _ _ hfp hfh)) rfl (fun _ _ h => by exact h) (fun _ _ => ?_); refine GE.V 12 (by as_aux_lemma => kernel_rfl) rfl rfl (bd (br rfl rfl)) rfl (fun _ _ h => by exact h) (fun _ _ => ?_); refine GE.V 13 (by as_aux_lemma => kernel_rfl) rfl rfl (bd (bF rfl)) rfl (fun _ _ h => by exact h) (fun _ _ => ?_); refine GE.E (by as_aux_lemma => kernel_rfl) ?_; refine G.E ?_; refine G.cond rfl (fun hc => ?_) (fun hc => ?_)
         · all_goals
            simp only [ce, Bool.not_eq_true', Bool.not_eq_false', decide_eq_false_iff_not, decide_eq_true_eq] at hc
            all_goals
             refine G.region (G.v (ba rfl) rfl ?_); refine G.v (bp rfl rfl (by omega)) rfl ?_; refine G.v (bb rfl) rfl (G.I (G.bc ?_)); refine G.V ((i + j) / 2 + 1, j) 0 rfl (.cons rfl (.cons rfl (.cons rfl (.cons rfl (.cons rfl (.cons rfl (.cons rfl (.cons rfl (.nil))))))))) (⟨rfl, rfl, trivial⟩) ?_ ?_
             exact ⟨by dsimp only; omega, by dsimp only; omega, by dsimp only; omega, .inr hc, hr⟩
             dsimp only; omega
         · all_goals
            simp only [ce, Bool.not_eq_true', Bool.not_eq_false', decide_eq_false_iff_not, decide_eq_true_eq] at hc
            all_goals
             refine G.region (G.v (ba rfl) rfl (G.v (bb rfl) rfl (G.I (G.bc ?_)))); refine G.V (i, (i + j) / 2) 0 rfl (.cons rfl (.cons rfl (.cons rfl (.cons rfl (.cons rfl (.cons rfl (.cons rfl (.cons rfl (.nil))))))))) (⟨rfl, rfl, trivial⟩) ?_ ?_
             exact ⟨by dsimp only; omega, by dsimp only; omega, by dsimp only; omega, hl, .inr hc⟩
             dsimp only; omega
     · all_goals
        replace hc := of_decide_eq_false hc
        try (exfalso; omega)
        all_goals
         refine G.exit (G.L (G.L (G.bn (G.E (G.seq (G.region (G.v (ba rfl) rfl (G.v (ba rfl) rfl ?_)))))))); refine G.v (cI rfl rfl (by omega) (by omega)) rfl ?_; refine G.v (bb rfl) rfl (G.I (G.E (G.seq (G.seq (G.region (G.v (ba rfl) rfl (G.v (ba rfl) rfl (G.v (br rfl rfl) rfl (G.v (ba rfl) rfl ?_)))))))))
         all_goals (((with_reducible refine G.gP rfl rfl (fun hg => ?_) (fun hg => ?_)) <;> (try exact Bool.noConfusion hg) <;> (try (exfalso; (have hq := of_decide_eq_false hg; omega))) <;> (first | (refine G.gY rfl rfl ?_; refine G.v (ba rfl) rfl ?_) | refine G.gN rfl rfl rfl ?_)))
         all_goals ((first | (refine G.gY rfl rfl ?_; refine G.v (ba rfl) rfl ?_) | refine G.gN rfl rfl rfl ?_))
         all_goals ((first | (refine G.gY rfl rfl ?_; refine G.v (br rfl rfl) rfl ?_) | refine G.gN rfl rfl rfl ?_))
         all_goals ((first | refine G.v (bk rfl rfl) rfl ?_ | refine G.v (bm rfl rfl) rfl ?_))
         all_goals
          refine G.I (G.E ?_); refine G.cond rfl (fun hc => ?_) (fun hc => ?_)
          · try exact Bool.noConfusion hc
            all_goals
             replace hc := of_decide_eq_true hc
             all_goals
              refine G.region (G.v (ba rfl) rfl (G.v (ba rfl) rfl (G.v (ba rfl) rfl (G.v (ba rfl) rfl (G.v (ba rfl) rfl ?_)))))
              (refine G.bb (v) rfl ?_); refine G.op (bO rfl rfl rfl (rotate_any (by (have hq := of_decide_eq_true hg; omega)) (by omega) (by omega) hn)) rfl ?_; rintro ⟨⟩ _; try dsimp only
              refine G.I (G.E (G.seq (G.seq (G.region (G.v (ba rfl) rfl (G.v (ba rfl) rfl (G.v (br rfl rfl) rfl (G.v (ba rfl) rfl ?_))))))))
              all_goals (((with_reducible refine G.gP rfl rfl (fun hg => ?_) (fun hg => ?_)) <;> (try exact Bool.noConfusion hg) <;> (try (exfalso; (have hq := of_decide_eq_false hg; omega))) <;> (first | (refine G.gY rfl rfl ?_; refine G.v (ba rfl) rfl ?_) | refine G.gN rfl rfl rfl ?_)))
              all_goals ((first | (refine G.gY rfl rfl ?_; refine G.v (ba rfl) rfl ?_) | refine G.gN rfl rfl rfl ?_))
              all_goals ((first | (refine G.gY rfl rfl ?_; refine G.v (br rfl rfl) rfl ?_) | refine G.gN rfl rfl rfl ?_))
              all_goals ((first | refine G.v (bk rfl rfl) rfl ?_ | refine G.v (bm rfl rfl) rfl ?_))
              all_goals
               refine G.I (G.E ?_); refine G.cond rfl (fun hc => ?_) (fun hc => ?_)
               · try exact Bool.noConfusion hc
                 all_goals
                  replace hc := of_decide_eq_true hc
                  all_goals
                   refine G.region (G.v (ba rfl) rfl (G.v (ba rfl) rfl (G.v (ba rfl) rfl (G.v (ba rfl) rfl (G.v (ba rfl) rfl ?_)))))
                   (refine G.bb (v) rfl ?_); refine G.op (bO rfl rfl rfl (ih (by omega) (by (have hq := of_decide_eq_true hg; omega)) (by omega) (by omega) hmid.s1 hmid.s2 hmid.c1 (fun x x1 x2 => hfr.lt hfn x1 (by omega)))) rfl ?_; rintro g1 ⟨hf1, hm1⟩; try dsimp only
                   refine G.I (G.E (G.seq (G.region (G.v (ba rfl) rfl (G.v (ba rfl) rfl (G.v (br rfl rfl) rfl (G.v (ba rfl) rfl ?_)))))))
                   all_goals (((with_reducible refine G.gP rfl rfl (fun hg => ?_) (fun hg => ?_)) <;> (try exact Bool.noConfusion hg) <;> (try (exfalso; (have hq := of_decide_eq_false hg; omega))) <;> (first | (refine G.gY rfl rfl ?_; refine G.v (ba rfl) rfl ?_) | refine G.gN rfl rfl rfl ?_)))
                   all_goals ((first | (refine G.gY rfl rfl ?_; refine G.v (ba rfl) rfl ?_) | refine G.gN rfl rfl rfl ?_))
                   all_goals ((first | (refine G.gY rfl rfl ?_; refine G.v (br rfl rfl) rfl ?_) | refine G.gN rfl rfl rfl ?_))
                   all_goals ((first | refine G.v (bk rfl rfl) rfl ?_ | refine G.v (bm rfl rfl) rfl ?_))
                   all_goals
                    refine G.I (G.E ?_); refine G.cond rfl (fun hc => ?_) (fun hc => ?_)
                    · try exact Bool.noConfusion hc
                      all_goals
                       replace hc := of_decide_eq_true hc
                       all_goals
                        have h3 := hf1.srt_hi (Nat.le_refl _) hmid.s3
                        have h4 := hf1.srt_hi (by omega) hmid.s4
                        have h5 := hf1.crs_hi (Nat.le_refl _) (by omega) hmid.c2
                        all_goals
                         refine G.region (G.v (ba rfl) rfl (G.v (ba rfl) rfl (G.v (ba rfl) rfl (G.v (ba rfl) rfl (G.v (ba rfl) rfl ?_)))))
                         (refine G.bb (v) rfl ?_); refine G.op (bO rfl rfl rfl (ih (by omega) (by (have hq := of_decide_eq_true hg; omega)) (by omega) (by omega) h3 h4 h5 (fun x x1 x2 => by rw [hf1.out x (.inr x1)]; exact hfr.lt hfn (by omega) x2))) rfl ?_; rintro g2 ⟨hf2, hm2⟩; try dsimp only
                         refine G.I ?_
                         exact G.bC g2 ⟨hfr.trans ((hf1.mono (Nat.le_refl _) (by omega)).trans (hf2.mono (by omega) (Nat.le_refl _))), cA hmid.lr hf1 hm1 hf2 hm2⟩ rfl rfl (fun w hw => hw)
                    · all_goals
                       try replace hc := of_decide_eq_false hc
                       try simp only [ce, Bool.not_eq_true', Bool.not_eq_false', decide_eq_false_iff_not, decide_eq_true_eq] at hc
                       all_goals
                        have h3 := hf1.srt_hi (Nat.le_refl _) hmid.s3
                        have h4 := hf1.srt_hi (by omega) hmid.s4
                        obtain ⟨g2, hg2⟩ : ∃ y, y = g1 := ⟨_, rfl⟩
                        have hf2 : Frm ((a + b) / 2) b g1 g2 := hg2 ▸ Frm.refl _ _ _
                        have hm2 : Srt K ((a + b) / 2) b g2 := hg2 ▸ dR h3 h4 (by first | omega | (have hq := of_decide_eq_false hg; omega)) (by omega) (by omega)
                        refine G.bo (rowF n g2) (by rw [hg2]) rfl ?_
                        all_goals
                         refine G.skip ?_
                         exact G.bC g2 ⟨hfr.trans ((hf1.mono (Nat.le_refl _) (by omega)).trans (hf2.mono (by omega) (Nat.le_refl _))), cA hmid.lr hf1 hm1 hf2 hm2⟩ rfl rfl (fun w hw => hw)
               · all_goals
                  try replace hc := of_decide_eq_false hc
                  try simp only [ce, Bool.not_eq_true', Bool.not_eq_false', decide_eq_false_iff_not, decide_eq_true_eq] at hc
                  try (exfalso; omega)
                  all_goals
                   obtain ⟨g1, hg1⟩ : ∃ y, y = rotF f j m ((a + b) / 2 + m - j) := ⟨_, rfl⟩
                   have hf1 : Frm a ((a + b) / 2) (rotF f j m ((a + b) / 2 + m - j)) g1 := hg1 ▸ Frm.refl _ _ _
                   have hm1 : Srt K a ((a + b) / 2) g1 := hg1 ▸ dR hmid.s1 hmid.s2 (by (have hq := of_decide_eq_false hg; omega)) (by omega) (by omega)
                   refine G.bo (rowF n g1) (by rw [hg1]) rfl ?_
                   all_goals
                    refine G.skip (G.E (G.seq (G.region (G.v (ba rfl) rfl (G.v (ba rfl) rfl (G.v (br rfl rfl) rfl (G.v (ba rfl) rfl ?_)))))))
                    all_goals (((with_reducible refine G.gP rfl rfl (fun hg => ?_) (fun hg => ?_)) <;> (try exact Bool.noConfusion hg) <;> (try (exfalso; (have hq := of_decide_eq_false hg; omega))) <;> (first | (refine G.gY rfl rfl ?_; refine G.v (ba rfl) rfl ?_) | refine G.gN rfl rfl rfl ?_)))
                    all_goals ((first | (refine G.gY rfl rfl ?_; refine G.v (ba rfl) rfl ?_) | refine G.gN rfl rfl rfl ?_))
                    all_goals ((first | (refine G.gY rfl rfl ?_; refine G.v (br rfl rfl) rfl ?_) | refine G.gN rfl rfl rfl ?_))
                    all_goals ((first | refine G.v (bk rfl rfl) rfl ?_ | refine G.v (bm rfl rfl) rfl ?_))
                    all_goals
                     refine G.I (G.E ?_); refine G.cond rfl (fun hc => ?_) (fun hc => ?_)
                     · try exact Bool.noConfusion hc
                       all_goals
                        replace hc := of_decide_eq_true hc
                        all_goals
                         have h3 := hf1.srt_hi (Nat.le_refl _) hmid.s3
                         have h4 := hf1.srt_hi (by omega) hmid.s4
                         have h5 := hf1.crs_hi (Nat.le_refl _) (by omega) hmid.c2
                         all_goals
                          refine G.region (G.v (ba rfl) rfl (G.v (ba rfl) rfl (G.v (ba rfl) rfl (G.v (ba rfl) rfl (G.v (ba rfl) rfl ?_)))))
                          (refine G.bb (v) rfl ?_); refine G.op (bO rfl rfl rfl (ih (by omega) (by (have hq := of_decide_eq_true hg; omega)) (by omega) (by omega) h3 h4 h5 (fun x x1 x2 => by rw [hf1.out x (.inr x1)]; exact hfr.lt hfn (by omega) x2))) rfl ?_; rintro g2 ⟨hf2, hm2⟩; try dsimp only
                          refine G.I ?_
                          exact G.bC g2 ⟨hfr.trans ((hf1.mono (Nat.le_refl _) (by omega)).trans (hf2.mono (by omega) (Nat.le_refl _))), cA hmid.lr hf1 hm1 hf2 hm2⟩ rfl rfl (fun w hw => hw)
                     · all_goals
                        try replace hc := of_decide_eq_false hc
                        try simp only [ce, Bool.not_eq_true', Bool.not_eq_false', decide_eq_false_iff_not, decide_eq_true_eq] at hc
                        all_goals
                         have h3 := hf1.srt_hi (Nat.le_refl _) hmid.s3
                         have h4 := hf1.srt_hi (by omega) hmid.s4
                         obtain ⟨g2, hg2⟩ : ∃ y, y = g1 := ⟨_, rfl⟩
                         have hf2 : Frm ((a + b) / 2) b g1 g2 := hg2 ▸ Frm.refl _ _ _
                         have hm2 : Srt K ((a + b) / 2) b g2 := hg2 ▸ dR h3 h4 (by first | omega | (have hq := of_decide_eq_false hg; omega)) (by omega) (by omega)
                         refine G.bo (rowF n g2) (by rw [hg2]) rfl ?_
                         all_goals
                          refine G.skip ?_
                          exact G.bC g2 ⟨hfr.trans ((hf1.mono (Nat.le_refl _) (by omega)).trans (hf2.mono (by omega) (Nat.le_refl _))), cA hmid.lr hf1 hm1 hf2 hm2⟩ rfl rfl (fun w hw => hw)
          · all_goals
             try replace hc := of_decide_eq_false hc
             try simp only [ce, Bool.not_eq_true', Bool.not_eq_false', decide_eq_false_iff_not, decide_eq_true_eq] at hc
             all_goals
              refine G.bo (rowF n (rotF f j m ((a + b) / 2 + m - j))) (by rw [rot_id (by omega) (by omega) (by first | omega | (have hq := of_decide_eq_false hg; omega))]) rfl ?_
              all_goals
               refine G.skip (G.E (G.seq (G.seq (G.region (G.v (ba rfl) rfl (G.v (ba rfl) rfl (G.v (br rfl rfl) rfl (G.v (ba rfl) rfl ?_))))))))
               all_goals (((with_reducible refine G.gP rfl rfl (fun hg => ?_) (fun hg => ?_)) <;> (try exact Bool.noConfusion hg) <;> (try (exfalso; (have hq := of_decide_eq_false hg; omega))) <;> (first | (refine G.gY rfl rfl ?_; refine G.v (ba rfl) rfl ?_) | refine G.gN rfl rfl rfl ?_)))
               all_goals ((first | (refine G.gY rfl rfl ?_; refine G.v (ba rfl) rfl ?_) | refine G.gN rfl rfl rfl ?_))
               all_goals ((first | (refine G.gY rfl rfl ?_; refine G.v (br rfl rfl) rfl ?_) | refine G.gN rfl rfl rfl ?_))
               all_goals ((first | refine G.v (bk rfl rfl) rfl ?_ | refine G.v (bm rfl rfl) rfl ?_))
               all_goals
                refine G.I (G.E ?_); refine G.cond rfl (fun hc => ?_) (fun hc => ?_)
                · try exact Bool.noConfusion hc
                  all_goals
                   replace hc := of_decide_eq_true hc
                   try (exfalso; omega)
                   all_goals
                    refine G.region (G.v (ba rfl) rfl (G.v (ba rfl) rfl (G.v (ba rfl) rfl (G.v (ba rfl) rfl (G.v (ba rfl) rfl ?_)))))
                    (refine G.bb (v) rfl ?_); refine G.op (bO rfl rfl rfl (ih (by omega) (by (have hq := of_decide_eq_true hg; omega)) (by omega) (by omega) hmid.s1 hmid.s2 hmid.c1 (fun x x1 x2 => hfr.lt hfn x1 (by omega)))) rfl ?_; rintro g1 ⟨hf1, hm1⟩; try dsimp only
                    refine G.I (G.E (G.seq (G.region (G.v (ba rfl) rfl (G.v (ba rfl) rfl (G.v (br rfl rfl) rfl (G.v (ba rfl) rfl ?_)))))))
                    all_goals (((with_reducible refine G.gP rfl rfl (fun hg => ?_) (fun hg => ?_)) <;> (try exact Bool.noConfusion hg) <;> (try (exfalso; (have hq := of_decide_eq_false hg; omega))) <;> (first | (refine G.gY rfl rfl ?_; refine G.v (ba rfl) rfl ?_) | refine G.gN rfl rfl rfl ?_)))
                    all_goals ((first | (refine G.gY rfl rfl ?_; refine G.v (ba rfl) rfl ?_) | refine G.gN rfl rfl rfl ?_))
                    all_goals ((first | (refine G.gY rfl rfl ?_; refine G.v (br rfl rfl) rfl ?_) | refine G.gN rfl rfl rfl ?_))
                    all_goals ((first | refine G.v (bk rfl rfl) rfl ?_ | refine G.v (bm rfl rfl) rfl ?_))
                    all_goals
                     refine G.I (G.E ?_); refine G.cond rfl (fun hc => ?_) (fun hc => ?_)
                     · try exact Bool.noConfusion hc
                       all_goals
                        replace hc := of_decide_eq_true hc
                        all_goals
                         have h3 := hf1.srt_hi (Nat.le_refl _) hmid.s3
                         have h4 := hf1.srt_hi (by omega) hmid.s4
                         have h5 := hf1.crs_hi (Nat.le_refl _) (by omega) hmid.c2
                         all_goals
                          refine G.region (G.v (ba rfl) rfl (G.v (ba rfl) rfl (G.v (ba rfl) rfl (G.v (ba rfl) rfl (G.v (ba rfl) rfl ?_)))))
                          (refine G.bb (v) rfl ?_); refine G.op (bO rfl rfl rfl (ih (by omega) (by (have hq := of_decide_eq_true hg; omega)) (by omega) (by omega) h3 h4 h5 (fun x x1 x2 => by rw [hf1.out x (.inr x1)]; exact hfr.lt hfn (by omega) x2))) rfl ?_; rintro g2 ⟨hf2, hm2⟩; try dsimp only
                          refine G.I ?_
                          exact G.bC g2 ⟨hfr.trans ((hf1.mono (Nat.le_refl _) (by omega)).trans (hf2.mono (by omega) (Nat.le_refl _))), cA hmid.lr hf1 hm1 hf2 hm2⟩ rfl rfl (fun w hw => hw)
                     · all_goals
                        try replace hc := of_decide_eq_false hc
                        try simp only [ce, Bool.not_eq_true', Bool.not_eq_false', decide_eq_false_iff_not, decide_eq_true_eq] at hc
                        all_goals
                         have h3 := hf1.srt_hi (Nat.le_refl _) hmid.s3
                         have h4 := hf1.srt_hi (by omega) hmid.s4
                         obtain ⟨g2, hg2⟩ : ∃ y, y = g1 := ⟨_, rfl⟩
                         have hf2 : Frm ((a + b) / 2) b g1 g2 := hg2 ▸ Frm.refl _ _ _
                         have hm2 : Srt K ((a + b) / 2) b g2 := hg2 ▸ dR h3 h4 (by first | omega | (have hq := of_decide_eq_false hg; omega)) (by omega) (by omega)
                         refine G.bo (rowF n g2) (by rw [hg2]) rfl ?_
                         all_goals
                          refine G.skip ?_
                          exact G.bC g2 ⟨hfr.trans ((hf1.mono (Nat.le_refl _) (by omega)).trans (hf2.mono (by omega) (Nat.le_refl _))), cA hmid.lr hf1 hm1 hf2 hm2⟩ rfl rfl (fun w hw => hw)
                · all_goals
                   try replace hc := of_decide_eq_false hc
                   try simp only [ce, Bool.not_eq_true', Bool.not_eq_false', decide_eq_false_iff_not, decide_eq_true_eq] at hc
                   all_goals
                    obtain ⟨g1, hg1⟩ : ∃ y, y = rotF f j m ((a + b) / 2 + m - j) := ⟨_, rfl⟩
                    have hf1 : Frm a ((a + b) / 2) (rotF f j m ((a + b) / 2 + m - j)) g1 := hg1 ▸ Frm.refl _ _ _
                    have hm1 : Srt K a ((a + b) / 2) g1 := hg1 ▸ dR hmid.s1 hmid.s2 (by first | omega | (have hq := of_decide_eq_false hg; omega)) (by omega) (by omega)
                    refine G.bo (rowF n g1) (by rw [hg1]) rfl ?_
                    all_goals
                     refine G.skip (G.E (G.seq (G.region (G.v (ba rfl) rfl (G.v (ba rfl) rfl (G.v (br rfl rfl) rfl (G.v (ba rfl) rfl ?_)))))))
                     all_goals (((with_reducible refine G.gP rfl rfl (fun hg => ?_) (fun hg => ?_)) <;> (try exact Bool.noConfusion hg) <;> (try (exfalso; (have hq := of_decide_eq_true hg; omega); done)) <;> (first | (refine G.gY rfl rfl ?_; refine G.v (ba rfl) rfl ?_) | refine G.gN rfl rfl rfl ?_)))
                     all_goals ((first | (refine G.gY rfl rfl ?_; refine G.v (ba rfl) rfl ?_) | refine G.gN rfl rfl rfl ?_))
                     all_goals ((first | (refine G.gY rfl rfl ?_; refine G.v (br rfl rfl) rfl ?_) | refine G.gN rfl rfl rfl ?_))
                     all_goals ((first | refine G.v (bk rfl rfl) rfl ?_ | refine G.v (bm rfl rfl) rfl ?_))
                     all_goals
                      refine G.I (G.E ?_); refine G.cond rfl (fun hc => ?_) (fun hc => ?_)
                      · try exact Bool.noConfusion hc
                        all_goals
                         replace hc := of_decide_eq_true hc
                         all_goals
                          have h3 := hf1.srt_hi (Nat.le_refl _) hmid.s3
                          have h4 := hf1.srt_hi (by omega) hmid.s4
                          have h5 := hf1.crs_hi (Nat.le_refl _) (by omega) hmid.c2
                          all_goals
                           refine G.region (G.v (ba rfl) rfl (G.v (ba rfl) rfl (G.v (ba rfl) rfl (G.v (ba rfl) rfl (G.v (ba rfl) rfl ?_)))))
                           (refine G.bb (v) rfl ?_); refine G.op (bO rfl rfl rfl (ih (by omega) (by (have hq := of_decide_eq_true hg; omega)) (by omega) (by omega) h3 h4 h5 (fun x x1 x2 => by rw [hf1.out x (.inr x1)]; exact hfr.lt hfn (by omega) x2))) rfl ?_; rintro g2 ⟨hf2, hm2⟩; try dsimp only
                           refine G.I ?_
                           exact G.bC g2 ⟨hfr.trans ((hf1.mono (Nat.le_refl _) (by omega)).trans (hf2.mono (by omega) (Nat.le_refl _))), cA hmid.lr hf1 hm1 hf2 hm2⟩ rfl rfl (fun w hw => hw)
                      · all_goals
                         try replace hc := of_decide_eq_false hc
                         try simp only [ce, Bool.not_eq_true', Bool.not_eq_false', decide_eq_false_iff_not, decide_eq_true_eq] at hc
                         all_goals
                          have h3 := hf1.srt_hi (Nat.le_refl _) hmid.s3
                          have h4 := hf1.srt_hi (by omega) hmid.s4
                          obtain ⟨g2, hg2⟩ : ∃ y, y = g1 := ⟨_, rfl⟩
                          have hf2 : Frm ((a + b) / 2) b g1 g2 := hg2 ▸ Frm.refl _ _ _
                          have hm2 : Srt K ((a + b) / 2) b g2 := hg2 ▸ dR h3 h4 (by first | omega | (have hq := of_decide_eq_false hg; omega)) (by omega) (by omega)
                          refine G.bo (rowF n g2) (by rw [hg2]) rfl ?_
                          all_goals
                           refine G.skip ?_
                           exact G.bC g2 ⟨hfr.trans ((hf1.mono (Nat.le_refl _) (by omega)).trans (hf2.mono (by omega) (Nat.le_refl _))), cA hmid.lr hf1 hm1 hf2 hm2⟩ rfl rfl (fun w hw => hw)
end
section
variable {w0 : World} {F : List Ch} {v : Value} {n : Nat} {g : Nat} [FnOk Tryz.prog g] {caps : List Value} {K : Nat → Int}
theorem stable_any (hcmp : ∀ w, HeapOk w0 w F → ∀ i j : Nat, i < n → j < n → FnV Tryz.prog g ([.int .i64 (i : Int), .int .i64 (j : Int)] ++ caps) w (.int .i64 (cmpZ (K i) (K j)))) (hn : n ≤ 1048576) :
    FnMF Tryz.prog 236 [v, .int .i64 (n : Int), .func (.func g) #[] caps.toArray] w0 [.row v 3 1 (rowF n fun j => j)] F (fun f' : Nat → Nat => Seg K 0 n f') (fun _ => .tuple #[]) (fun f' => [.row v 3 1 (rowF n f')]) := by
  refine FnMF.of (n := 63) Tryz.func236 rfl rfl ?_; refine G.seq (G.region (G.v (bb rfl) rfl (G.I (G.E (G.seq (G.region (G.v (ba rfl) rfl (G.v (bb rfl) rfl (G.v (bb rfl) rfl (G.I (G.E ?_))))))))))); refine G.seq (G.block ?_); refine G.Y (ι := Nat × Nat × (Nat → Nat)) (ks := [0, 1, 2, 6]) (fun x => [(7, .int .i64 (x.2.1 : Int)), (8, .int .i64 ((x.2.1 + 20 : Nat) : Int))]) (fun x => [.row v 3 1 (rowF n x.2.2)]) (fun x => x.2.1 = x.1 * 20 ∧ Ins K n x.1 x.2.2) (fun x => n - x.2.1) (0, 0, fun j => j) (.cons rfl (.cons rfl (.cons rfl (.cons rfl (.nil))))) rfl ?_ ?_ ?_
  exact ⟨rfl, Ins.start K n⟩
  exact ⟨rfl, rfl, trivial⟩
  rintro ⟨q, a, f⟩ ⟨ha, hI⟩
  dsimp only at ha hI ⊢
  have hIl := hI.le
  by_cases hlt : a + 20 ≤ n
  all_goals
   refine G.seq (G.seq (G.region (G.v (ba rfl) rfl (G.v (ba rfl) rfl (G.v (ci rfl rfl) rfl (G.I (G.E ?_))))))); refine G.cond rfl (fun hc => ?_) (fun hc => ?_)
   · all_goals
      replace hc := of_decide_eq_true hc
      try (exfalso; omega)
      all_goals
       refine G.skip (G.E (G.block (G.seq (G.region (G.v (ba rfl) rfl (G.v (ba rfl) rfl (G.v (ba rfl) rfl (G.v (ba rfl) rfl ?_))))))))
       (refine G.bb (v) rfl ?_); refine G.op (bO rfl rfl rfl (insertion_any hcmp (by omega) (by omega) hn (fun j j1 j2 => hI.hi j (by omega)))) rfl ?_; rintro h ⟨hho, hhs⟩; try dsimp only
       refine G.I (G.E (G.seq (G.region (G.v (ba rfl) rfl (G.v (bb rfl) rfl (G.I (G.E (G.region (G.v (ba rfl) rfl (G.v (ba rfl) rfl ?_)))))))))); refine G.v (bD rfl rfl (by omega) (by omega)) rfl ?_; refine G.v (bb rfl) rfl (G.I (G.bc ?_)); refine G.V (q + 1, a + 20, h) 0 rfl (.cons rfl (.cons rfl (.cons rfl (.cons rfl (.nil))))) ?_ ?_ ?_
       exact ⟨rfl, congrArg (fun z => some (Value.int .i64 z)) (by dsimp only; try omega), trivial⟩
       subst ha; exact ⟨by dsimp only; omega, hI.next hlt (fun j hj => hho j (by omega)) hhs⟩
       dsimp only; omega
   · all_goals
      replace hc := of_decide_eq_false hc
      try (exfalso; omega)
      all_goals
       refine G.exit (G.L (G.L (G.bn (G.E (G.seq (G.region (G.v (ba rfl) rfl (G.v (ba rfl) rfl (G.v (ba rfl) rfl (G.v (ba rfl) rfl ?_))))))))))
       (refine G.bb (v) rfl ?_); refine G.op (bO rfl rfl rfl (insertion_any hcmp (by omega) (Nat.le_refl _) hn (fun j j1 j2 => hI.hi j (by omega)))) rfl ?_; rintro h0 ⟨hho, hhs⟩; try dsimp only
       refine G.I (G.E (G.block ?_))
       have hB0 : Blk K 20 n h0 := (by subst ha; exact hI.last (by omega) (fun j hj => hho j hj) hhs)
       refine G.Y (ι := Nat × (Nat → Nat)) (ks := [0, 1, 2]) (fun x => [(6, .int .i64 (x.1 : Int))]) (fun x => [.row v 3 1 (rowF n x.2)]) (fun x => 20 ≤ x.1 ∧ x.1 ≤ 2097152 ∧ Blk K x.1 n x.2) (fun x => n - x.1) (20, h0) (.cons rfl (.cons rfl (.cons rfl (.nil)))) rfl ?_ ?_ ?_
       exact ⟨Nat.le_refl _, by dsimp only; omega, hB0⟩
       exact ⟨rfl, trivial⟩
       rintro ⟨s, f1⟩ ⟨hs20, hsm, hB⟩
       dsimp only at hs20 hsm hB ⊢
       by_cases hsn : s < n
       all_goals
        refine G.seq (G.seq (G.region (G.v (ba rfl) rfl (G.v (ba rfl) rfl (G.v (br rfl rfl) rfl (G.I (G.E ?_))))))); refine G.cond rfl (fun hc => ?_) (fun hc => ?_)
        · all_goals
           replace hc := of_decide_eq_true hc
           try (exfalso; omega)
           all_goals
            refine G.skip (G.E (G.block (G.seq (G.region (G.v (ba rfl) rfl ?_))))); refine G.v (rv_dblN rfl rfl (by omega)) rfl ?_; refine G.v (bb rfl) rfl (G.v (bb rfl) rfl (G.I (G.E (G.seq (G.block ?_))))); refine G.Y (ι := Nat × Nat × (Nat → Nat)) (ks := [0, 1, 2, 6]) (fun x => [(7, .int .i64 (x.2.1 : Int)), (8, .int .i64 ((x.2.1 + 2 * s : Nat) : Int))]) (fun x => [.row v 3 1 (rowF n x.2.2)]) (fun x => x.2.1 = x.1 * (2 * s) ∧ Pass K s n x.1 x.2.2) (fun x => n - x.2.1) (0, 0, f1) (.cons rfl (.cons rfl (.cons rfl (.cons rfl (.nil))))) rfl ?_ ?_ ?_
            exact ⟨by dsimp only; omega, Pass.start hB⟩
            exact ⟨rfl, congrArg (fun z => some (Value.int .i64 z)) (by dsimp only; try omega), trivial⟩
            rintro ⟨q, a, f2⟩ ⟨ha, hP⟩
            dsimp only at ha hP ⊢
            have hPl := hP.le
            rw [← ha] at hPl
            have hq2 : a + 2 * s ≤ n → Seg K a (a + s) f2 ∧ Seg K (a + s) (a + 2 * s) f2 := fun hz => by (have := hP.two (by rw [← ha]; omega); rw [← ha, Nat.min_eq_left hz] at this; exact this)
            have hq3 : n < a + 2 * s → a + s < n → Seg K a (a + s) f2 ∧ Seg K (a + s) n f2 := fun hz hy => by (have := hP.two (by rw [← ha]; omega); rw [← ha, Nat.min_eq_right (by omega)] at this; exact this)
            have hlt2 : a + 2 * s ≤ n → ∀ j, a ≤ j → j < a + 2 * s → f2 j < n := fun hz j j1 j2 => by (obtain ⟨p1, p2⟩ := hq2 hz; by_cases c : j < a + s; (have := p1.2 j j1 c; omega); (have := p2.2 j (by omega) j2; omega))
            have hlt3 : n < a + 2 * s → a + s < n → ∀ j, a ≤ j → j < n → f2 j < n := fun hz hy j j1 j2 => by (obtain ⟨p1, p2⟩ := hq3 hz hy; by_cases c : j < a + s; (have := p1.2 j j1 c; omega); (have := p2.2 j (by omega) j2; omega))
            by_cases hlt : a + 2 * s ≤ n
            all_goals
             refine G.seq (G.seq (G.region (G.v (ba rfl) rfl (G.v (ba rfl) rfl (G.v (ci rfl rfl) rfl (G.I (G.E ?_))))))); refine G.cond rfl (fun hc => ?_) (fun hc => ?_)
             · all_goals
                replace hc := of_decide_eq_true hc
                try (exfalso; omega)
                all_goals
                 refine G.skip (G.E (G.block (G.seq (G.region (G.v (ba rfl) rfl (G.v (ba rfl) rfl (G.v (ba rfl) rfl (G.v (ba rfl) rfl ?_)))))))); refine G.v (cH rfl rfl (by omega)) rfl ?_; refine G.v (ba rfl) rfl (G.v (ba rfl) rfl ?_)
                 (refine G.bb (v) rfl ?_); refine G.op (bO rfl rfl rfl (symMerge_any hcmp hn _ (Nat.le_refl _) (by omega) (by omega) (by omega) (hq2 (by omega)).1.1 (hq2 (by omega)).2.1 ((hq2 (by omega)).1.crs (hq2 (by omega)).2) (fun j j1 j2 => hlt2 (by omega) j j1 j2))) rfl ?_; rintro h ⟨hhf, hhs⟩; try dsimp only
                 refine G.I (G.E (G.seq (G.region (G.v (ba rfl) rfl (G.v (bb rfl) rfl (G.I (G.E (G.region (G.v (ba rfl) rfl (G.v (ba rfl) rfl ?_)))))))))); refine G.v (rv_dblN rfl rfl (by omega)) rfl ?_; refine G.v (cH rfl rfl (by omega)) rfl ?_; refine G.v (bb rfl) rfl (G.I (G.bc ?_)); refine G.V (q + 1, a + 2 * s, h) 0 rfl (.cons rfl (.cons rfl (.cons rfl (.cons rfl (.nil))))) ?_ ?_ ?_
                 exact ⟨rfl, congrArg (fun z => some (Value.int .i64 z)) (by dsimp only; try omega), trivial⟩
                 exact ⟨by dsimp only; rw [ha]; exact (Nat.succ_mul _ _).symm, hP.next (by rw [← ha]; exact hlt) (fun j hj => hhf.out j (by rw [← ha] at hj; exact hj)) (by rw [← ha]; exact Seg.merged (hq2 hlt).1 (hq2 hlt).2 ⟨by omega, by omega⟩ hhf hhs)⟩
                 dsimp only; omega
             · all_goals
                replace hc := of_decide_eq_false hc
                try (exfalso; omega)
                all_goals
                 refine G.exit (G.L (G.L (G.bn (G.E (G.seq (G.seq (G.region (G.v (ba rfl) rfl (G.v (ba rfl) rfl ?_))))))))); refine G.v (cH rfl rfl (by omega)) rfl ?_; refine G.v (bb rfl) rfl (G.I (G.E (G.seq (G.region (G.v (ba rfl) rfl (G.v (ba rfl) rfl (G.v (br rfl rfl) rfl (G.I (G.E ?_))))))))); refine G.cond rfl (fun hc => ?_) (fun hc => ?_)
                 · all_goals
                    replace hc := of_decide_eq_true hc
                    all_goals
                     refine G.region (G.v (ba rfl) rfl (G.v (ba rfl) rfl (G.v (ba rfl) rfl (G.v (ba rfl) rfl (G.v (ba rfl) rfl ?_)))))
                     (refine G.bb (v) rfl ?_); refine G.op (bO rfl rfl rfl (symMerge_any hcmp hn _ (Nat.le_refl _) (by omega) (by omega) (by omega) (hq3 (by omega) (by omega)).1.1 (hq3 (by omega) (by omega)).2.1 ((hq3 (by omega) (by omega)).1.crs (hq3 (by omega) (by omega)).2) (fun j j1 j2 => hlt3 (by omega) (by omega) j j1 j2))) rfl ?_; rintro h ⟨hhf, hhs⟩; try dsimp only
                     refine G.I (G.E (G.region (G.v (ba rfl) rfl ?_))); refine G.v (rv_dblM rfl rfl (by omega)) rfl ?_; refine G.v (bb rfl) rfl (G.I (G.bc ?_)); refine G.V (2 * s, h) 0 rfl (.cons rfl (.cons rfl (.cons rfl (.nil)))) (⟨rfl, trivial⟩) ?_ ?_
                     exact ⟨by dsimp only; omega, by dsimp only; omega, hP.last (by rw [← ha]; omega) (fun j hj => hhf.out j (by rw [← ha] at hj; exact hj)) (by rw [← ha]; exact Seg.merged (hq3 (by omega) (by omega)).1 (hq3 (by omega) (by omega)).2 ⟨by omega, by omega⟩ hhf hhs)⟩
                     dsimp only; omega
                 · all_goals
                    replace hc := of_decide_eq_false hc
                    all_goals
                     refine G.skip (G.E (G.region (G.v (ba rfl) rfl ?_))); refine G.v (rv_dblM rfl rfl (by omega)) rfl ?_; refine G.v (bb rfl) rfl (G.I (G.bc ?_)); refine G.V (2 * s, f2) 0 rfl (.cons rfl (.cons rfl (.cons rfl (.nil)))) (⟨rfl, trivial⟩) ?_ ?_
                     exact ⟨by dsimp only; omega, by dsimp only; omega, hP.end (by rw [← ha]; omega) (by rw [← ha]; omega)⟩
                     dsimp only; omega
        · all_goals
           replace hc := of_decide_eq_false hc
           try (exfalso; omega)
           all_goals
            refine G.exit (G.L (G.L (G.bn ?_)))
            exact G.bC f1 (hB.all (by omega)) rfl rfl (fun w hw => hw)
theorem sortStable_any (hcmp : ∀ w, HeapOk w0 w F → ∀ i j : Nat, i < n → j < n → FnV Tryz.prog g ([.int .i64 (i : Int), .int .i64 (j : Int)] ++ caps) w (.int .i64 (cmpZ (K i) (K j)))) (hn : n ≤ 1048576) :
    FnMF Tryz.prog 210 [v, .func (.func g) #[] caps.toArray] w0 [.row v 3 1 (rowF n fun j => j)] F (fun f' : Nat → Nat => Seg K 0 n f') (fun _ => .tuple #[]) (fun f' => [.row v 3 1 (rowF n f')]) := by
  have hln : (rowF n fun j => j).length = n := dT _ _
  refine FnMF.of (n := 9) Tryz.func210 rfl rfl ?_; refine G.region (G.v (ba rfl) rfl (G.v (ba rfl) rfl ?_)); refine G.v (bz rfl (by exact Rd.ba 0 rfl)) rfl ?_; refine G.v (ba rfl) rfl ?_
  (refine G.bb (v) rfl ?_); refine G.op (bO rfl rfl rfl (by rw [hln]; exact stable_any hcmp hn)) rfl ?_; rintro f1 hf1; try dsimp only
  refine G.I ?_
  exact G.bC f1 hf1 rfl rfl (fun w hw => hw)
end
theorem compare_any (a b : Int) (w : World) : FnV Tryz.prog 212 [.int .i64 a, .int .i64 b] w (.int .i64 (cmpZ a b)) := by
  refine FnV.of (n := 13) Tryz.func212 rfl rfl ?_; refine G.seq (G.region (G.v (bb rfl) rfl (G.I (G.E (G.seq (G.block (G.seq (G.region (G.v (ba rfl) rfl (G.v (ba rfl) rfl (G.v (br rfl rfl) rfl ?_))))))))))); refine G.v (bb rfl) rfl (G.I (G.E ?_)); refine G.bd rfl (fun hc => ?_) (fun hc => ?_); refine G.seq (G.region (G.v (bb rfl) rfl (G.I (G.E (G.ret (G.bq (G.O ?_)))))))
  exact G.U rfl rfl (congrArg (Value.int .i64) (by unfold cmpZ; (rw [if_pos (by omega)]; done)))
  refine G.seq (G.region (G.v (ba rfl) rfl (G.v (ba rfl) rfl (G.v (b6 rfl rfl) rfl (G.v (bb rfl) rfl (G.I (G.E ?_))))))); refine G.bd rfl (fun hc => ?_) (fun hc => ?_); refine G.seq (G.region (G.v (bb rfl) rfl (G.I (G.E (G.ret (G.bq (G.O ?_)))))))
  exact G.U rfl rfl (congrArg (Value.int .i64) (by unfold cmpZ; (rw [if_neg (by omega), if_pos (by omega)]; done)))
  refine G.skip (G.bc (G.E (G.seq (G.region (G.v (bb rfl) rfl (G.I (G.E (G.ret ?_))))))))
  exact G.U rfl rfl (congrArg (Value.int .i64) (by unfold cmpZ; rw [if_neg (by omega), if_neg (by omega)]))
theorem rowF_snoc (k : Nat) : (rowF k fun j => j) ++ [[.int .i64 (k : Int)]] = rowF (k + 1) fun j => j := by
  simp [rowF, List.range_succ, icell]
theorem range_snoc (k : Nat) : (List.range k).map ncell ++ [[.int .i64 (k : Int)]] = (List.range (k + 1)).map ncell := by
  simp [List.range_succ, ncell, icell]
theorem short_srt {α : Type} {R : α → α → Prop} {l : List α} (h : l.length < 2) : l.Pairwise R := by
  match l, h with
  | [], _ => exact List.Pairwise.nil
  | [x], _ => exact List.pairwise_singleton _ _
theorem mrg_halves {K : Nat → Int} {us bs ps : List Nat} {h : Nat} (h1 : us.Perm (ps.take h)) (h2 : bs.Perm (ps.drop h)) : (mrgM K us bs).Perm ps := by
  have := (dW (K := K) us bs).trans (h1.append h2)
  rwa [List.take_append_drop] at this
theorem halves_lt {ps : List Nat} {h x y : Nat} (hp : ps.Pairwise (· < ·)) (hx : x ∈ ps.take h) (hy : y ∈ ps.drop h) : x < y := by
  rw [← List.take_append_drop h ps] at hp
  exact (List.pairwise_append.1 hp).2.2 x hx y hy
theorem cmpZ_down {ks : List Int} {i j : Nat} {a b : Int} (h1 : ks[i]? = some a) (h2 : ks[j]? = some b) : cmpZ b a = cmpZ (keyM ks i) (keyM ks j) := by
  rw [keyM_get h1, keyM_get h2]; unfold cmpZ
  by_cases c : b < a
  · rw [if_pos c, if_pos (by omega)]
  · rw [if_neg c, if_neg (show ¬ -a < -b from by omega)]
    by_cases c2 : b > a
    · rw [if_pos c2, if_pos (by omega)]
    · rw [if_neg c2, if_neg (by omega)]
theorem sortDown1_any {kv : Value} {ks : List Int} {q i j : Nat} (w : World) (h : Rd w (.slice (some ⟨q, 0, none⟩) 1 1) 1 [[kv]]) (hk : Rd w kv 1 (ks.map icell)) (hi : i < ks.length) (hj : j < ks.length) : FnV Tryz.prog 211 [.int .i64 (i : Int), .int .i64 (j : Int), pB q 0] w (.int .i64 (cmpZ (keyM ks i) (keyM ks j))) := by
  rw [cp q 1]
  obtain ⟨a, ha⟩ := bn hi
  obtain ⟨b, hb⟩ := bn hj
  have e1 := bt ha icell
  have e2 := bt hb icell
  refine FnV.of (n := 15) Tryz.func211 rfl rfl ?_; refine G.seq (G.region (G.v (bb rfl) rfl (G.I (G.E (G.seq ?_))))); refine G.ba [9] ?_; refine GE.q 0 rfl (by as_aux_lemma => kernel_rfl) rfl (bc (bi rfl (by exact Rd.stays (by assumption)) (by rfl) rfl)) rfl ?_; refine GE.q 1 rfl (by as_aux_lemma => kernel_rfl) rfl (bc (ba rfl)) rfl ?_; refine GE.q 2 rfl (by as_aux_lemma => kernel_rfl) rfl (bc (bg rfl rfl (by exact Rd.stays (by assumption)) rfl (by exact e2))) rfl ?_; refine GE.q 3 rfl (by as_aux_lemma => kernel_rfl) rfl (bc (bi rfl (by exact Rd.stays (by assumption)) (by exact e2) rfl)) rfl ?_; refine GE.q 4 rfl (by as_aux_lemma => kernel_rfl) rfl (bc (bi rfl (by exact Rd.stays (by assumption)) (by rfl) rfl)) rfl ?_; refine GE.V 5 (by as_aux_lemma => kernel_rfl) rfl rfl (bd (ba rfl)) rfl (fun _ _ h => by exact h) (fun _ _ => ?_); refine GE.V 6 (by as_aux_lemma => kernel_rfl) rfl rfl (bd (bg rfl rfl (by exact Rd.stays (by assumption)) rfl (by exact e1))) rfl (fun _ _ h => by exact h) (fun _ _ => ?_); refine GE.V 7 (by as_aux_lemma => kernel_rfl) rfl rfl (bd (bi rfl (by exact Rd.stays (by assumption)) (by exact e1) rfl)) rfl (fun _ _ h => by exact h) (fun _ _ => ?_); refine GE.V 8 (by as_aux_lemma => kernel_rfl) rfl rfl (bh rfl rfl (fun w _ => compare_any _ _ w)) rfl (fun _ _ h => by exact h) (fun _ _ => ?_)
  refine GE.t 9 (by as_aux_lemma => kernel_rfl) rfl rfl rfl (bd (bb rfl)) rfl (fun _ _ => ?_); refine GE.E (by as_aux_lemma => kernel_rfl) ?_; refine G.E (G.ret ?_)
  exact G.U rfl rfl (congrArg (Value.int .i64) (cmpZ_down ha hb))
theorem dL {n : Nat} (w : World) (hn : n ≤ 1048576) : Fn Tryz.prog 209 [.int .i64 (n : Int)] w (fun v : Value => v.oneCell' = true) (fun v => v) (fun v => [.row v 3 1 (rowF n fun j => j)]) := by
  refine Fn.of (n := 16) Tryz.func209 rfl rfl ?_; refine G.seq (G.region (G.v (bb rfl) rfl (G.I (G.E (G.seq (G.region ?_)))))); refine G.op (bq rfl .nil rfl rfl rfl rfl rfl rfl) rfl (fun vl _ => ?_); refine G.v (bb rfl) rfl (G.I (G.E (G.seq (G.seq (G.region (G.v (ba rfl) rfl (G.v (ba rfl) rfl (G.I (G.E (G.block ?_)))))))))); refine G.Y (ι := Nat × Value) (ks := [6]) (fun x => [(3, x.2), (7, .int .i64 (x.1 : Int))]) (fun x => [.row x.2 3 1 (rowF x.1 fun j => j)]) (fun x => x.1 ≤ n) (fun x => n - x.1) (0, vl) (.cons rfl (.nil)) rfl ?_ ?_ ?_
  exact Nat.zero_le _
  exact ⟨rfl, rfl, trivial⟩
  rintro ⟨k, v⟩ hk
  dsimp only at hk ⊢
  have hln : (rowF k fun j => j).length = k := dT _ _
  refine G.seq (G.region (G.v (br rfl rfl) rfl (G.I (G.E (G.seq ?_))))); refine G.bd rfl (fun hc => ?_) (fun hc => ?_); refine G.skip (G.E (G.seq (G.block (G.seq (G.region (G.v (ba rfl) rfl (G.v (bb rfl) rfl (G.I (G.E (G.region (G.v (ba rfl) rfl ?_))))))))))); refine G.v (ba rfl) rfl ?_; refine G.op (bq rfl (.cons rfl .nil) rfl rfl rfl rfl rfl rfl) rfl (fun vl _ => ?_); refine G.op (bU rfl rfl rfl (by exact Rd.ba 0 rfl) rfl rfl (by (simp; omega)) (by (simp; omega))) rfl (fun va _ => ?_); refine G.v (bb rfl) rfl (G.I (G.bc (G.E (G.region ?_)))); refine G.v (bp rfl rfl (by omega)) rfl ?_; refine G.v (ba rfl) rfl (G.I ?_); refine G.V (k + 1, va) 1 (bV (congrArg (fun z => Ch.row va 3 1 z) (rowF_snoc k))) (.cons rfl (.nil)) ?_ ?_ ?_
  exact ⟨rfl, rfl, trivial⟩
  dsimp only; omega
  dsimp only; omega
  refine G.exit (G.L (G.L (G.bn (G.E (G.seq (G.region (G.v (ba rfl) rfl (G.v (bb rfl) rfl (G.I (G.E (G.ret ?_))))))))))); refine G.know (fun w hw => (Rd.ba 0 rfl w hw).one_) (fun hone => G.bg v hone rfl rfl rfl (fun w hw => by obtain rfl : k = n := (by omega); exact hw))
theorem cU {kv : Value} {ks : List Int} (w : World) (h : Rd w kv 1 (ks.map icell)) (hn : ks.length ≤ 1048576) : Fn Tryz.prog 156 [kv] w (fun v : Value => v.oneCell' = true) (fun v => v) (fun v => [.row v 3 1 ((ordM (keyM ks) ks.length).map ncell)]) := by
  have hln : (ks.map icell).length = ks.length := by simp
  have hone := h.one_
  refine Fn.of (n := 11) Tryz.func156 rfl rfl ?_; refine G.seq (G.region ?_); refine G.op (bE rfl (bK (by assumption))) rfl (fun bk1 _ => ?_); refine G.v (bb rfl) rfl (G.I (G.E (G.seq (G.region (G.v (bf 0 rfl rfl rfl) rfl ?_))))); refine G.v (bz rfl (by exact Rd.stays (by assumption))) rfl ?_
  first | (refine G.op (bH rfl rfl (fun w hh => by rw [hln]; exact dL w hn)) rfl ?_; rintro vp hvp; try dsimp only) | (refine G.op (bX rfl rfl (fun w hh => by rw [hln]; exact dL w hn)) rfl ?_; rintro vp hvp; try dsimp only) | (refine G.op (og_callF3 rfl rfl (fun w hh => by rw [hln]; exact dL w hn)) rfl ?_; rintro vp hvp; try dsimp only) | (refine G.op (bT rfl rfl (fun w hh => by rw [hln]; exact dL w hn)) rfl ?_; rintro vp hvp; try dsimp only) | (refine G.op (dv rfl rfl (fun w hh => by rw [hln]; exact dL w hn)) rfl ?_; rintro vp hvp; try dsimp only)
  refine G.v (bb rfl) rfl (G.I (G.E (G.seq (G.region (G.v (ba rfl) rfl (G.v (bY rfl rfl) rfl ?_))))))
  (refine G.bb (vp) rfl ?_); refine G.op (bO rfl rfl rfl (sortStable_any (fun w hh i j hi hj => sortDown1_any w (Rd.bb 0 rfl (bB hone rfl) w hh) (Rd.stays h w hh.none) hi hj) hn)) rfl ?_; rintro f1 hf1; try dsimp only
  refine G.I (G.E (G.seq (G.region (G.v (ba rfl) rfl (G.v (bb rfl) rfl (G.I (G.E (G.ret ?_))))))))
  exact G.bg vp hvp rfl rfl rfl (fun w hw => by rw [← ord_of_seg hf1]; exact hw.sublist (by repeat (first | exact List.Sublist.refl _ | refine List.Sublist.cons_cons _ ?_ | refine List.Sublist.cons _ ?_)))
theorem l1Places_any {n : Nat} (w : World) (hn : n ≤ 1048576) : Fn Tryz.prog 138 [.int .i64 (n : Int)] w (fun v : Value => v.oneCell' = true) (fun v => v) (fun v => [.row v 3 1 ((List.range n).map ncell)]) := by
  refine Fn.of (n := 16) Tryz.func138 rfl rfl ?_; refine G.seq (G.region (G.v (bb rfl) rfl (G.I (G.E (G.seq (G.region ?_)))))); refine G.op (bq rfl .nil rfl rfl rfl rfl rfl rfl) rfl (fun vl _ => ?_); refine G.v (bb rfl) rfl (G.I (G.E (G.seq (G.seq (G.region (G.v (bb rfl) rfl (G.I (G.E (G.block ?_))))))))); refine G.Y (ι := Nat × Value) (ks := [0]) (fun x => [(3, x.2), (4, .int .i64 (x.1 : Int))]) (fun x => [.row x.2 3 1 ((List.range x.1).map ncell)]) (fun x => x.1 ≤ n) (fun x => n - x.1) (0, vl) (.cons rfl (.nil)) rfl ?_ ?_ ?_
  exact Nat.zero_le _
  exact ⟨rfl, rfl, trivial⟩
  rintro ⟨k, v⟩ hk
  dsimp only at hk ⊢
  refine G.seq (G.seq (G.region (G.v (ba rfl) rfl (G.v (ba rfl) rfl (G.v (br rfl rfl) rfl (G.I (G.E ?_))))))); refine G.bd rfl (fun hc => ?_) (fun hc => ?_); refine G.skip (G.E (G.seq (G.block (G.region (G.v (ba rfl) rfl (G.v (ba rfl) rfl ?_)))))); refine G.op (bq rfl (.cons rfl .nil) rfl rfl rfl rfl rfl rfl) rfl (fun vl _ => ?_); refine G.op (bU rfl rfl rfl (by exact Rd.ba 0 rfl) rfl rfl (by (simp; omega)) (by (simp; omega))) rfl (fun va _ => ?_); refine G.v (bb rfl) rfl (G.I (G.bc (G.E (G.region (G.v (ba rfl) rfl ?_))))); refine G.v (bp rfl rfl (by omega)) rfl ?_; refine G.v (bb rfl) rfl (G.I ?_); refine G.V (k + 1, va) 1 (bV (congrArg (fun z => Ch.row va 3 1 z) (range_snoc k))) (.cons rfl (.nil)) ?_ ?_ ?_
  exact ⟨rfl, rfl, trivial⟩
  dsimp only; omega
  dsimp only; omega
  refine G.exit (G.L (G.L (G.bn (G.E (G.seq (G.region (G.v (ba rfl) rfl (G.v (bb rfl) rfl (G.I (G.E (G.ret ?_))))))))))); refine G.know (fun w hw => (Rd.ba 0 rfl w hw).one_) (fun hone => G.bg v hone rfl rfl rfl (fun w hw => by obtain rfl : k = n := (by omega); exact hw))
theorem l1Merge_any {kv : Value} {ks : List Int} : ∀ (s : Nat) {pv : Value} {ps : List Nat} (w : World), ps.length < s → Rd w kv 1 (ks.map icell) → Rd w pv 1 (ps.map ncell) → (∀ x ∈ ps, x < ks.length) → ps.Pairwise (· < ·) → ps.length ≤ 1048576 →
    Fn Tryz.prog 137 [kv, pv, .bool true] w (fun x : Value × List Nat => x.1.oneCell' = true ∧ x.2.Perm ps ∧ x.2.Pairwise (bef (keyM ks))) (fun x => x.1) (fun x => [.row x.1 3 1 (x.2.map ncell)]) := by
  intro s
  induction s with
  | zero => intro pv ps w hs; omega
  | succ s ih =>
  intro pv ps w hs hk hp hlt hpw hn
  have hln : (ps.map ncell).length = ps.length := by simp
  refine Fn.of (n := 132) Tryz.func137 rfl rfl ?_; refine G.seq (G.region (G.v (bb rfl) rfl (G.I (G.E (G.seq (G.seq (G.region (G.v (ba rfl) rfl ?_)))))))); refine G.v (bz rfl (by exact Rd.stays (by assumption))) rfl ?_; refine G.v (br rfl rfl) rfl (G.I (G.E ?_)); refine G.bd rfl (fun hc => ?_) (fun hc => ?_)
  · refine G.seq ?_
    refine G.region ?_; refine G.op (bq rfl .nil rfl rfl rfl rfl rfl rfl) rfl (fun vl _ => ?_); refine G.v (ba rfl) rfl ?_; refine G.op (cS rfl rfl rfl (by exact Rd.stays (by assumption)) rfl rfl (by (simp; omega)) (by (simp; omega))) rfl (fun va _ => ?_); refine G.v (bb rfl) rfl (G.I (G.E (G.ret (G.O ?_)))); refine G.know (fun w hw => (Rd.ba 0 rfl w hw).one_) (fun hone => G.bg (va, ps) ⟨hone, List.Perm.refl _, short_srt (by dsimp only; omega)⟩ rfl rfl rfl (fun w hw => hw.sublist (by repeat (exact List.Sublist.refl _)))); done
  · refine G.skip ?_
    refine G.E (G.seq (G.region (G.v (ba rfl) rfl ?_))); refine G.v (bz rfl (by exact Rd.stays (by assumption))) rfl ?_; refine G.v (rv_quoN rfl rfl (by omega)) rfl ?_; refine G.v (bb rfl) rfl (G.I (G.E (G.seq (G.region (G.v (ba rfl) rfl (G.v (ba rfl) rfl (G.v (ba rfl) rfl ?_))))))); refine G.v (dp rfl rfl (by exact Rd.stays (by assumption)) (by omega)) rfl ?_; refine G.v (ba rfl) rfl ?_; refine G.op (bH rfl rfl (fun w hh => ih w (by rw [List.length_take]; omega) (Rd.stays hk _ hh) (Rd.subH (Rd.stays hp _ hh) (by omega)) (fun x hx => hlt x (List.mem_of_mem_take hx)) (hpw.sublist (List.take_sublist _ _)) (by rw [List.length_take]; omega))) rfl ?_; rintro ⟨xa, us⟩ ⟨hxa, hpa, hsa⟩; try dsimp only
    refine G.v (bb rfl) rfl (G.I (G.E (G.seq (G.region (G.v (ba rfl) rfl (G.v (ba rfl) rfl (G.v (ba rfl) rfl ?_))))))); refine G.v (dq rfl rfl (by exact Rd.stays (by assumption)) (by omega)) rfl ?_; refine G.v (ba rfl) rfl ?_; refine G.op (bH rfl rfl (fun w hh => ih w (by rw [List.length_drop]; omega) (Rd.stays hk _ hh) (Rd.subL (Rd.stays hp _ hh) (by omega)) (fun x hx => hlt x (List.mem_of_mem_drop hx)) (hpw.sublist (List.drop_sublist _ _)) (by rw [List.length_drop]; omega))) rfl ?_; rintro ⟨xb, bs⟩ ⟨hxb, hpb, hsb⟩; try dsimp only
    refine G.v (bb rfl) rfl (G.I (G.E (G.seq (G.region ?_)))); refine G.op (bq rfl .nil rfl rfl rfl rfl rfl rfl) rfl (fun vl _ => ?_); refine G.v (bb rfl) rfl (G.I (G.E (G.seq (G.region (G.v (bb rfl) rfl (G.I (G.E (G.seq (G.region (G.v (bb rfl) rfl (G.I ?_))))))))))); refine G.E (G.seq (G.block ?_))
    have hla : us.length = (ps.map ncell).length / 2 := by (rw [hpa.length_eq, List.length_take]; omega)
    have hlb : bs.length = ps.length - (ps.map ncell).length / 2 := by rw [hpb.length_eq, List.length_drop]
    have hla2 : (us.map ncell).length = us.length := by simp
    have hlb2 : (bs.map ncell).length = bs.length := by simp
    refine G.Y (ι := Nat × Nat × List Nat × Value) (ks := [0, 2, 8, 9]) (fun x => [(10, x.2.2.2), (11, .int .i64 (x.1 : Int)), (12, .int .i64 (x.2.1 : Int))]) (fun x => [.row x.2.2.2 3 1 (x.2.2.1.map ncell)]) (fun x => x.1 ≤ us.length ∧ x.2.1 ≤ bs.length ∧ x.2.2.1.length = x.1 + x.2.1 ∧ x.2.2.1 ++ mrgM (keyM ks) (us.drop x.1) (bs.drop x.2.1) = mrgM (keyM ks) us bs) (fun x => us.length + bs.length - x.1 - x.2.1) (0, 0, [], vl) (.cons rfl (.cons rfl (.cons rfl (.cons rfl (.nil))))) rfl ?_ ?_ ?_
    exact ⟨Nat.zero_le _, Nat.zero_le _, rfl, rfl⟩
    exact ⟨rfl, rfl, rfl, trivial⟩
    rintro ⟨i, j, out, v⟩ ⟨hi, hj, hol, hm⟩
    dsimp only at hi hj hol hm ⊢
    have hol2 : (out.map ncell).length = out.length := by simp
    by_cases hA : i < us.length
    case' pos => (obtain ⟨x, hx⟩ := bn hA; have e1 := bt hx ncell; have hxl := hlt x (List.mem_of_mem_take (hpa.mem_iff.1 (List.mem_of_getElem? hx))); obtain ⟨kx, hkx⟩ := bn hxl; have e3 := bt hkx icell; have hK1 := keyM_get hkx)
    all_goals by_cases hB : j < bs.length
    any_goals (obtain ⟨y, hy⟩ := bn hB; have e2 := bt hy ncell; have hyl := hlt y (List.mem_of_mem_drop (hpb.mem_iff.1 (List.mem_of_getElem? hy))); obtain ⟨ky, hky⟩ := bn hyl; have e4 := bt hky icell; have hK2 := keyM_get hky)
    all_goals
     refine G.seq (G.seq (G.region (G.v (ba rfl) rfl (G.v (ba rfl) rfl ?_)))); refine G.v (bz rfl (by exact Rd.ba 2 rfl)) rfl ?_; refine G.v (br rfl rfl) rfl (G.v (ba rfl) rfl ?_)
     all_goals (((with_reducible refine G.gP rfl rfl (fun hg => ?_) (fun hg => ?_)) <;> (try exact Bool.noConfusion hg) <;> (try (exfalso; first | (have hq := of_decide_eq_false hg; omega) | (have hq := of_decide_eq_true hg; omega); done)) <;> (first | (refine G.gY rfl rfl ?_; refine G.v (ba rfl) rfl ?_) | refine G.gN rfl rfl rfl ?_)))
     all_goals ((first | (refine G.gY rfl rfl ?_; refine G.v (ba rfl) rfl ?_) | refine G.gN rfl rfl rfl ?_))
     all_goals ((first | (refine G.gY rfl rfl ?_; refine G.v (bz rfl (by exact Rd.ba 1 rfl)) rfl ?_) | refine G.gN rfl rfl rfl ?_))
     all_goals ((first | (refine G.gY rfl rfl ?_; refine G.v (br rfl rfl) rfl ?_) | refine G.gN rfl rfl rfl ?_))
     all_goals ((first | refine G.v (bk rfl rfl) rfl ?_ | refine G.v (bm rfl rfl) rfl ?_))
     all_goals
      refine G.I (G.E ?_); refine G.cond rfl (fun hc => ?_) (fun hc => ?_)
      · all_goals
         try replace hc := of_decide_eq_true hc
         try (exfalso; omega)
         all_goals
          refine G.skip (G.E (G.block (G.block (G.seq (G.region (G.v (ba rfl) rfl (G.v (ba rfl) rfl ?_))))))); refine G.v (bz rfl (by exact Rd.ba 1 rfl)) rfl ?_; refine G.v (bQ rfl rfl) rfl (G.v (bb rfl) rfl (G.I (G.E ?_))); refine G.cond rfl (fun hc => ?_) (fun hc => ?_)
          · all_goals
             replace hc := of_decide_eq_true hc
             try (exfalso; omega)
             all_goals
              refine G.seq (G.region (G.v (ba rfl) rfl (G.v (ba rfl) rfl (G.v (ba rfl) rfl ?_)))); refine G.v (bg rfl rfl (by exact Rd.ba 2 rfl) rfl (by exact e1)) rfl ?_; refine G.v (bi rfl (by exact Rd.ba 2 rfl) (by exact e1) rfl) rfl ?_; refine G.op (bq rfl (.cons rfl .nil) rfl rfl rfl rfl rfl rfl) rfl (fun vl _ => ?_); refine G.op (bU rfl rfl rfl (by exact Rd.ba 0 rfl) rfl rfl (by (simp; omega)) (by (simp; omega))) rfl (fun va _ => ?_); refine G.v (bb rfl) rfl (G.I (G.E (G.region (G.v (ba rfl) rfl ?_)))); refine G.v (bp rfl rfl (by omega)) rfl ?_; refine G.v (bb rfl) rfl (G.I (G.bc (G.bc ?_))); refine G.V (i + 1, j, out ++ [x], va) 1 (bV (congrArg (fun z => Ch.row va 3 1 z) (by rw [List.map_append]; rfl))) (.cons rfl (.cons rfl (.cons rfl (.cons rfl (.nil))))) (⟨rfl, rfl, rfl, trivial⟩) ?_ ?_
              · exact ⟨by dsimp only; omega, by dsimp only; omega, by simp; omega, by dsimp only; rw [mrg_left hx (fun y' hy' => by first | (rw [List.getElem?_eq_none (by omega)] at hy'; cases hy'; done) | (rw [hy] at hy'; cases hy'; rw [hK1, hK2]; first | omega | (have hq := of_decide_eq_false hg; omega)))] at hm; rw [List.append_assoc]; exact hm⟩
              dsimp only; omega
          · all_goals
             replace hc := of_decide_eq_false hc
             try (exfalso; omega)
             all_goals
              refine G.seq (G.region (G.v (ba rfl) rfl (G.v (ba rfl) rfl ?_))); refine G.v (bz rfl (by exact Rd.ba 2 rfl)) rfl ?_; refine G.v (bQ rfl rfl) rfl (G.v (bb rfl) rfl (G.I (G.E ?_))); refine G.cond rfl (fun hc => ?_) (fun hc => ?_)
              · all_goals
                 replace hc := of_decide_eq_true hc
                 try (exfalso; omega)
                 all_goals
                  refine G.seq (G.region (G.v (ba rfl) rfl (G.v (ba rfl) rfl (G.v (ba rfl) rfl ?_)))); refine G.v (bg rfl rfl (by exact Rd.ba 1 rfl) rfl (by exact e2)) rfl ?_; refine G.v (bi rfl (by exact Rd.ba 1 rfl) (by exact e2) rfl) rfl ?_; refine G.op (bq rfl (.cons rfl .nil) rfl rfl rfl rfl rfl rfl) rfl (fun vl _ => ?_); refine G.op (bU rfl rfl rfl (by exact Rd.ba 0 rfl) rfl rfl (by (simp; omega)) (by (simp; omega))) rfl (fun va _ => ?_); refine G.v (bb rfl) rfl (G.I (G.E (G.region (G.v (ba rfl) rfl ?_)))); refine G.v (bp rfl rfl (by omega)) rfl ?_; refine G.v (bb rfl) rfl (G.I (G.bc (G.bc ?_))); refine G.V (i, j + 1, out ++ [y], va) 1 (bV (congrArg (fun z => Ch.row va 3 1 z) (by rw [List.map_append]; rfl))) (.cons rfl (.cons rfl (.cons rfl (.cons rfl (.nil))))) (⟨rfl, rfl, rfl, trivial⟩) ?_ ?_
                  · exact ⟨by dsimp only; omega, by dsimp only; omega, by simp; omega, by dsimp only; rw [mrg_right hy (fun x' hx' => by first | (rw [List.getElem?_eq_none (by omega)] at hx'; cases hx'; done) | (rw [hx] at hx'; cases hx'; rw [hK1, hK2]; first | omega | (have hq := of_decide_eq_true hg; omega)))] at hm; rw [List.append_assoc]; exact hm⟩
                  dsimp only; omega
              · all_goals
                 replace hc := of_decide_eq_false hc
                 try (exfalso; omega)
                 all_goals
                  refine G.seq ?_; refine G.ba [] ?_; refine GE.q 0 rfl (by as_aux_lemma => kernel_rfl) rfl (bc (ba rfl)) rfl ?_; refine GE.q 1 rfl (by as_aux_lemma => kernel_rfl) rfl (bc (ba rfl)) rfl ?_; refine GE.q 2 rfl (by as_aux_lemma => kernel_rfl) rfl (bc (ba rfl)) rfl ?_; refine GE.q 3 rfl (by as_aux_lemma => kernel_rfl) rfl (bc (bg rfl rfl (by exact Rd.ba 1 rfl) rfl (by exact e2))) rfl ?_; refine GE.q 4 rfl (by as_aux_lemma => kernel_rfl) rfl (bc (bi rfl (by exact Rd.ba 1 rfl) (by exact e2) rfl)) rfl ?_; refine GE.q 5 rfl (by as_aux_lemma => kernel_rfl) rfl (bc (bg rfl rfl (by exact Rd.stays (by assumption)) rfl (by exact e4))) rfl ?_; refine GE.q 6 rfl (by as_aux_lemma => kernel_rfl) rfl (bc (bi rfl (by exact Rd.stays (by assumption)) (by exact e4) rfl)) rfl ?_; refine GE.q 7 rfl (by as_aux_lemma => kernel_rfl) rfl (bc (ba rfl)) rfl ?_; refine GE.q 8 rfl (by as_aux_lemma => kernel_rfl) rfl (bc (ba rfl)) rfl ?_; refine GE.V 9 (by as_aux_lemma => kernel_rfl) rfl rfl (bd (ba rfl)) rfl (fun _ _ h => by exact h) (fun _ _ => ?_); refine GE.V 10 (by as_aux_lemma => kernel_rfl) rfl rfl (bd (bg rfl rfl (by exact Rd.ba 2 rfl) rfl (by exact e1))) rfl (fun _ _ h => by exact h) (fun _ _ => ?_)
                  refine GE.V 11 (by as_aux_lemma => kernel_rfl) rfl rfl (bd (bi rfl (by exact Rd.ba 2 rfl) (by exact e1) rfl)) rfl (fun _ _ h => by exact h) (fun _ _ => ?_); refine GE.V 12 (by as_aux_lemma => kernel_rfl) rfl rfl (bd (bg rfl rfl (by exact Rd.stays (by assumption)) rfl (by exact e3))) rfl (fun _ _ h => by exact h) (fun _ _ => ?_); refine GE.V 13 (by as_aux_lemma => kernel_rfl) rfl rfl (bd (bi rfl (by exact Rd.stays (by assumption)) (by exact e3) rfl)) rfl (fun _ _ h => by exact h) (fun _ _ => ?_); refine GE.V 14 (by as_aux_lemma => kernel_rfl) rfl rfl (bd (br rfl rfl)) rfl (fun _ _ h => by exact h) (fun _ _ => ?_); refine GE.V 15 (by as_aux_lemma => kernel_rfl) rfl rfl (bd (ba rfl)) rfl (fun _ _ h => by exact h) (fun _ _ => ?_)
                  all_goals (((with_reducible refine GE.part (t := 98) rfl (fun hg => ?_) (fun hg => ?_)) <;> (try exact Bool.noConfusion hg) <;> (try (exfalso; (have hq := of_decide_eq_false hg; omega))) <;> (first | refine GE.q 16 rfl (by as_aux_lemma => kernel_rfl) rfl (bc (ba rfl)) rfl ?_ | refine GE.O 16 rfl (by as_aux_lemma => kernel_rfl) rfl rfl ?_)))
                  all_goals ((first | refine GE.q 17 rfl (by as_aux_lemma => kernel_rfl) rfl (bc (bF rfl)) rfl ?_ | refine GE.O 17 rfl (by as_aux_lemma => kernel_rfl) rfl rfl ?_))
                  all_goals ((first | refine GE.V 18 (by as_aux_lemma => kernel_rfl) rfl rfl (bd (bk rfl rfl)) rfl (fun _ _ h => by exact h) (fun _ _ => ?_) | refine GE.V 18 (by as_aux_lemma => kernel_rfl) rfl rfl (bd (bm rfl rfl)) rfl (fun _ _ h => by exact h) (fun _ _ => ?_)))
                  all_goals (refine GE.V 19 (by as_aux_lemma => kernel_rfl) rfl rfl (bd (ba rfl)) rfl (fun _ _ h => by exact h) (fun _ _ => ?_))
                  all_goals (((with_reducible refine GE.part (t := 102) rfl (fun hg => ?_) (fun hg => ?_)) <;> (try exact Bool.noConfusion hg) <;> (try (exfalso; (have hq := of_decide_eq_false hg; omega))) <;> (refine GE.q 20 rfl (by as_aux_lemma => kernel_rfl) rfl (bc (ba rfl)) rfl ?_)))
                  all_goals ((refine GE.q 21 rfl (by as_aux_lemma => kernel_rfl) rfl (bc (ba rfl)) rfl ?_))
                  all_goals ((refine GE.q 22 rfl (by as_aux_lemma => kernel_rfl) rfl (bc (ba rfl)) rfl ?_))
                  all_goals (((refine GE.q 23 rfl (by as_aux_lemma => kernel_rfl) rfl (bc (bg rfl rfl (by exact Rd.ba 1 rfl) rfl (by exact e2))) rfl ?_)))
                  all_goals ((refine GE.q 24 rfl (by as_aux_lemma => kernel_rfl) rfl (bc (bi rfl (by exact Rd.ba 1 rfl) (by exact e2) rfl)) rfl ?_))
                  all_goals (((refine GE.q 25 rfl (by as_aux_lemma => kernel_rfl) rfl (bc (bg rfl rfl (by exact Rd.stays (by assumption)) rfl (by exact e4))) rfl ?_)))
                  all_goals ((refine GE.q 26 rfl (by as_aux_lemma => kernel_rfl) rfl (bc (bi rfl (by exact Rd.stays (by assumption)) (by exact e4) rfl)) rfl ?_))
                  all_goals ((refine GE.q 27 rfl (by as_aux_lemma => kernel_rfl) rfl (bc (ba rfl)) rfl ?_))
                  all_goals ((refine GE.q 28 rfl (by as_aux_lemma => kernel_rfl) rfl (bc (ba rfl)) rfl ?_))
                  all_goals ((refine GE.q 29 rfl (by as_aux_lemma => kernel_rfl) rfl (bc (ba rfl)) rfl ?_))
                  all_goals (((refine GE.q 30 rfl (by as_aux_lemma => kernel_rfl) rfl (bc (bg rfl rfl (by exact Rd.ba 2 rfl) rfl (by exact e1))) rfl ?_)))
                  all_goals ((refine GE.q 31 rfl (by as_aux_lemma => kernel_rfl) rfl (bc (bi rfl (by exact Rd.ba 2 rfl) (by exact e1) rfl)) rfl ?_))
                  all_goals (((refine GE.q 32 rfl (by as_aux_lemma => kernel_rfl) rfl (bc (bg rfl rfl (by exact Rd.stays (by assumption)) rfl (by exact e3))) rfl ?_)))
                  all_goals ((refine GE.q 33 rfl (by as_aux_lemma => kernel_rfl) rfl (bc (bi rfl (by exact Rd.stays (by assumption)) (by exact e3) rfl)) rfl ?_))
                  all_goals ((refine GE.q 34 rfl (by as_aux_lemma => kernel_rfl) rfl (bc (b6 rfl rfl)) rfl ?_))
                  all_goals ((refine GE.q 35 rfl (by as_aux_lemma => kernel_rfl) rfl (bc (ba rfl)) rfl ?_))
                  all_goals ((((with_reducible refine GE.part (t := 118) rfl (fun hg => ?_) (fun hg => ?_)) <;> (try exact Bool.noConfusion hg) <;> (try (exfalso; (have hq := of_decide_eq_false hg; omega))) <;> (first | refine GE.q 36 rfl (by as_aux_lemma => kernel_rfl) rfl (bc (ba rfl)) rfl ?_ | refine GE.O 36 rfl (by as_aux_lemma => kernel_rfl) rfl rfl ?_))))
                  all_goals (((first | refine GE.q 37 rfl (by as_aux_lemma => kernel_rfl) rfl (bc (bk rfl rfl)) rfl ?_ | refine GE.q 37 rfl (by as_aux_lemma => kernel_rfl) rfl (bc (bm rfl rfl)) rfl ?_)))
                  all_goals ((refine GE.V 38 (by as_aux_lemma => kernel_rfl) rfl rfl (bd (bm rfl rfl)) rfl (fun _ _ h => by exact h) (fun _ _ => ?_)))
                  all_goals (refine GE.V 39 (by as_aux_lemma => kernel_rfl) rfl rfl (bd (bb rfl)) rfl (fun _ _ h => by exact h) (fun _ _ => ?_))
                  all_goals
                   refine GE.E (by as_aux_lemma => kernel_rfl) ?_; refine G.E ?_; refine G.cond rfl (fun hc => ?_) (fun hc => ?_)
                   · try exact Bool.noConfusion hc
                     all_goals
                      all_goals
                       refine G.seq (G.region (G.v (ba rfl) rfl (G.v (ba rfl) rfl (G.v (ba rfl) rfl ?_)))); refine G.v (bg rfl rfl (by exact Rd.ba 1 rfl) rfl (by exact e2)) rfl ?_; refine G.v (bi rfl (by exact Rd.ba 1 rfl) (by exact e2) rfl) rfl ?_; refine G.op (bq rfl (.cons rfl .nil) rfl rfl rfl rfl rfl rfl) rfl (fun vl _ => ?_); refine G.op (bU rfl rfl rfl (by exact Rd.ba 0 rfl) rfl rfl (by (simp; omega)) (by (simp; omega))) rfl (fun va _ => ?_); refine G.v (bb rfl) rfl (G.I (G.E (G.region (G.v (ba rfl) rfl ?_)))); refine G.v (bp rfl rfl (by omega)) rfl ?_; refine G.v (bb rfl) rfl (G.I (G.bc (G.bc ?_))); refine G.V (i, j + 1, out ++ [y], va) 1 (bV (congrArg (fun z => Ch.row va 3 1 z) (by rw [List.map_append]; rfl))) (.cons rfl (.cons rfl (.cons rfl (.cons rfl (.nil))))) (⟨rfl, rfl, rfl, trivial⟩) ?_ ?_
                       · exact ⟨by dsimp only; omega, by dsimp only; omega, by simp; omega, by dsimp only; rw [mrg_right hy (fun x' hx' => by first | (rw [List.getElem?_eq_none (by omega)] at hx'; cases hx'; done) | (rw [hx] at hx'; cases hx'; rw [hK1, hK2]; first | omega | (have hq := of_decide_eq_true hg; omega)))] at hm; rw [List.append_assoc]; exact hm⟩
                       dsimp only; omega
                   · try exact Bool.noConfusion hc
                     all_goals
                      all_goals
                       refine G.seq (G.region (G.v (ba rfl) rfl (G.v (ba rfl) rfl (G.v (ba rfl) rfl ?_)))); refine G.v (bg rfl rfl (by exact Rd.ba 2 rfl) rfl (by exact e1)) rfl ?_; refine G.v (bi rfl (by exact Rd.ba 2 rfl) (by exact e1) rfl) rfl ?_; refine G.op (bq rfl (.cons rfl .nil) rfl rfl rfl rfl rfl rfl) rfl (fun vl _ => ?_); refine G.op (bU rfl rfl rfl (by exact Rd.ba 0 rfl) rfl rfl (by (simp; omega)) (by (simp; omega))) rfl (fun va _ => ?_); refine G.v (bb rfl) rfl (G.I (G.E (G.region (G.v (ba rfl) rfl ?_)))); refine G.v (bp rfl rfl (by omega)) rfl ?_; refine G.v (bb rfl) rfl (G.I (G.bc (G.bc ?_))); refine G.V (i + 1, j, out ++ [x], va) 1 (bV (congrArg (fun z => Ch.row va 3 1 z) (by rw [List.map_append]; rfl))) (.cons rfl (.cons rfl (.cons rfl (.cons rfl (.nil))))) (⟨rfl, rfl, rfl, trivial⟩) ?_ ?_
                       · exact ⟨by dsimp only; omega, by dsimp only; omega, by simp; omega, by dsimp only; rw [mrg_left hx (fun y' hy' => by first | (rw [List.getElem?_eq_none (by omega)] at hy'; cases hy'; done) | (rw [hy] at hy'; cases hy'; rw [hK1, hK2]; first | omega | (have hq := of_decide_eq_false hg; omega)))] at hm; rw [List.append_assoc]; exact hm⟩
                       dsimp only; omega
      · try exact Bool.noConfusion hc
        all_goals
         replace hc := of_decide_eq_false hc
         try (exfalso; omega)
         all_goals
          refine G.exit (G.L (G.L (G.bn (G.E (G.seq (G.region (G.v (ba rfl) rfl (G.v (bb rfl) rfl (G.I (G.E (G.ret ?_)))))))))))
          have hout : out = mrgM (keyM ks) us bs := (by rw [List.drop_eq_nil_of_le (by omega), List.drop_eq_nil_of_le (by omega)] at hm; simpa [mrgM] using hm); refine G.know (fun w hw => (Rd.ba 0 rfl w hw).one_) (fun hone => G.bg (v, out) ⟨hone, hout ▸ mrg_halves hpa hpb, hout ▸ mrg_srt us bs hsa hsb (fun x hx y hy _ => halves_lt hpw (hpa.mem_iff.1 hx) (hpb.mem_iff.1 hy))⟩ rfl rfl rfl (fun w hw => hw.sublist (by repeat (first | exact List.Sublist.refl _ | refine List.Sublist.cons_cons _ ?_ | refine List.Sublist.cons _ ?_))))
theorem ssortDown_any {kv : Value} {ks : List Int} (w : World) (h : Rd w kv 1 (ks.map icell)) (hn : ks.length ≤ 1048576) : Fn Tryz.prog 166 [kv] w (fun v : Value => v.oneCell' = true) (fun v => v) (fun v => [.row v 3 1 ((ordM (keyM ks) ks.length).map ncell)]) := by
  have hln : (ks.map icell).length = ks.length := by simp
  refine Fn.of (n := 8) Tryz.func166 rfl rfl ?_; refine G.seq (G.region (G.v (bb rfl) rfl (G.I (G.E (G.seq (G.region (G.v (ba rfl) rfl (G.v (ba rfl) rfl ?_)))))))); refine G.v (bz rfl (by exact Rd.stays (by assumption))) rfl ?_; refine G.op (bH rfl rfl (fun w hh => by rw [hln]; exact l1Places_any w hn)) rfl ?_; rintro vp hvp; try dsimp only
  refine G.op (bH rfl rfl (fun w hh => l1Merge_any (ks.length + 1) w (by simp) (Rd.stays h _ hh) (Rd.ba 0 rfl _ hh) (fun x hx => List.mem_range.1 hx) List.pairwise_lt_range (by simpa using hn))) rfl ?_; rintro ⟨vo, os⟩ ⟨hvo, hpo, hso⟩; try dsimp only
  refine G.v (bb rfl) rfl (G.I (G.E (G.ret ?_)))
  exact G.bg vo hvo rfl rfl rfl (fun w hw => by rw [← ord_of_perm hso hpo]; exact hw.sublist (by repeat (first | exact List.Sublist.refl _ | refine List.Sublist.cons_cons _ ?_ | refine List.Sublist.cons _ ?_)))
theorem vkey_snoc {r : ReqM} {T : List Int} {k : Nat} {x : Int} (hx : T[k]? = some x) : ((T.take k).map (vOf r)).map icell ++ [[Value.int .i64 (vOf r x)]] = ((T.take (k + 1)).map (vOf r)).map icell := by
  simp [List.take_add_one, hx, icell]
theorem ordU_take {r : ReqM} {T : List Int} {k x : Nat} {u : Int} (hx : (ordM (keyM (T.map (vOf r))) (T.map (vOf r)).length)[k]? = some x) (hu : T[x]? = some u) : (ordU r T)[k]? = some u := ordU_at (by rw [← hx, List.length_map]) hu
section
variable {r : ReqM} {pv tv iv uv : Value} {us : List Int} (w : World) (h : Rd w pv 2 (r.pairs.map PairM.cells)) (h2 : Rd w tv 7 (r.types.map TypeM.cells)) (h3 : Rd w iv 7 (r.items.map ItemM.cells))
include h h2 h3
theorem firstFit1_any {g : List Int} {lv : Value} {q1 q2 : Nat} (u : Int) (h4 : Rd w lv 1 (g.map icell)) (hul : g.length + 1 ≤ 1048576) (h5 : Rd w (.slice (some ⟨q1, 0, none⟩) 1 1) 10 [r.cells pv tv iv]) (h6 : Rd w (.slice (some ⟨q2, 0, none⟩) 1 1) 1 [[.int .i64 u]]) : FnV Tryz.prog 180 [lv, pB q1 0, pB q2 0] w (.bool (roomM r g u)) := by
  rw [cp q1 10, cp q2 1]
  refine FnV.of (n := 9) Tryz.func180 rfl rfl ?_; refine G.seq (G.region (G.v (bb rfl) rfl (G.I (G.E (G.seq (G.region ?_)))))); refine G.v (bN rfl (by exact Rd.stays (by assumption)) rfl rfl) rfl ?_; refine G.v (ba rfl) rfl ?_; refine G.v (bi rfl (by exact Rd.stays (by assumption)) rfl rfl) rfl ?_; refine G.op (bh rfl rfl (fun w hh => room_any (r := r) (us := g) w (Rd.stays h _ hh) (Rd.stays h2 _ hh) (Rd.stays h3 _ hh) (Rd.stays h4 _ hh) hul u)) rfl (fun _ _ => ?_); refine G.v (bb rfl) rfl (G.I (G.E (G.ret ?_)))
  exact G.U rfl rfl rfl
variable (h4 : Rd w uv 1 (us.map icell)) (hul : us.length ≤ 1048576)
include h4 hul
theorem firstFit_any : Fn Tryz.prog 128 [.agg (r.cells pv tv iv).toArray, uv] w (fun x : Value × List (List Int × Value) => x.1.oneCell' = true ∧ x.2.map Prod.fst = firstM r us) (fun x => x.1) (fun x => [.grp 3 1 (x.2.map (sub id)), .row x.1 52 1 (x.2.map gcell)]) := by
  obtain ⟨T, hT⟩ : ∃ T, T = thereM r us := ⟨_, rfl⟩
  have hTl : T.length ≤ 1048576 := by have := cL r us; rw [hT]; omega
  have hTl2 : (T.map icell).length = T.length := by simp
  have hTl3 : (T.map (vOf r)).length = T.length := by simp
  have hol : ((ordM (keyM (T.map (vOf r))) (T.map (vOf r)).length).map ncell).length = T.length := by rw [List.length_map, cP, hTl3]
  have hol2 : (ordM (keyM (T.map (vOf r))) (T.map (vOf r)).length).length = T.length := by rw [cP, hTl3]
  have hul9 := ordU_len r T
  have hall : (r.cells pv tv iv).all Value.oneCell' = true := req_all h.one_ h2.one_ h3.one_
  refine Fn.of (n := 66) Tryz.func128 rfl rfl ?_; refine G.seq (G.region ?_); refine G.op (bE rfl rfl) rfl (fun bk2 _ => ?_); refine G.v (bb rfl) rfl (G.I (G.E (G.seq (G.region (G.v (bj 0 rfl rfl rfl) rfl (G.v (ba rfl) rfl ?_)))))); refine G.op (bH rfl rfl (fun w hh => by have q := thereOf_any (r := r) (us := us) w (Rd.stays h _ hh) (Rd.stays h2 _ hh) (Rd.stays h3 _ hh) (Rd.stays h4 _ hh) (by omega); rw [← hT] at q; exact q)) rfl ?_; rintro vt hvt; try dsimp only
  refine G.v (bb rfl) rfl (G.I (G.E (G.seq (G.region ?_)))); refine G.op (bq rfl .nil rfl rfl rfl rfl rfl rfl) rfl (fun vl _ => ?_); refine G.v (bb rfl) rfl (G.I (G.E (G.seq (G.seq (G.region (G.v (ba rfl) rfl ?_)))))); refine G.v (bz rfl (by exact Rd.ba 1 rfl)) rfl ?_; refine G.v (ba rfl) rfl (G.I (G.E (G.block ?_))); refine G.Y (ι := Nat × Value) (ks := [2, 5, 18, 19]) (fun x => [(6, x.2), (20, .int .i64 (x.1 : Int))]) (fun x => [.row x.2 3 1 (((T.take x.1).map (vOf r)).map icell)]) (fun x => x.1 ≤ T.length) (fun x => T.length - x.1) (0, vl) (.cons rfl (.cons rfl (.cons rfl (.cons rfl (.nil))))) rfl ?_ ?_ ?_
  exact Nat.zero_le _
  exact ⟨rfl, rfl, trivial⟩
  rintro ⟨k0, v0⟩ hk0
  dsimp only at hk0 ⊢
  have hl9 : (((T.take k0).map (vOf r)).map icell).length = k0 := by (simp; omega)
  by_cases hlt0 : k0 < T.length
  case' pos => (obtain ⟨x, hx⟩ := bn hlt0; have he := bt hx icell)
  case' neg => (have hkall : ((T.take k0).map (vOf r)).map icell = (T.map (vOf r)).map icell := (by rw [List.take_of_length_le (by omega)]))
  all_goals
   refine G.seq (G.region (G.v (br rfl rfl) rfl (G.I (G.E (G.seq ?_))))); refine G.cond rfl (fun hc => ?_) (fun hc => ?_)
   · all_goals
      replace hc := of_decide_eq_true hc
      simp only [hTl2, hol] at hc
      try (exfalso; omega)
      all_goals
       refine G.skip (G.E (G.seq (G.block (G.seq (G.region ?_))))); refine G.v (bg rfl rfl (by exact Rd.ba 1 rfl) rfl (by exact he)) rfl ?_; refine G.v (bi rfl (by exact Rd.ba 1 rfl) (by exact he) rfl) rfl ?_; refine G.v (bb rfl) rfl (G.I (G.E (G.region (G.v (ba rfl) rfl (G.v (bj 2 rfl rfl rfl) rfl (G.v (ba rfl) rfl ?_)))))); refine G.op (bq rfl (.cons rfl .nil) rfl rfl rfl rfl rfl rfl) rfl (fun vx _ => ?_); refine G.op (bh rfl rfl (fun w hh => (volumeOf_any (r := r) (us := [x]) w (Rd.stays h _ hh) (Rd.stays h2 _ hh) (Rd.stays h3 _ hh) (Rd.ba 0 rfl _ hh) (by simp)).mono (congrArg (Value.int .i64) (volUS_one r x)))) rfl (fun _ _ => ?_); refine G.op (bq rfl (.cons rfl .nil) rfl rfl rfl rfl rfl rfl) rfl (fun vy _ => ?_); refine G.op (cC rfl rfl rfl (by exact Rd.ba 0 rfl) rfl rfl (by (simp; omega)) (by (simp; omega))) rfl (fun va _ => ?_); refine G.v (bb rfl) rfl (G.I (G.bc (G.E (G.region ?_)))); refine G.v (bp rfl rfl (by omega)) rfl ?_; refine G.v (ba rfl) rfl (G.I ?_); refine G.be va rfl ?_; refine G.keep1 2 rfl ?_; refine G.V (k0 + 1, va) 0 (bV (congrArg (fun z => Ch.row va 3 1 z) (vkey_snoc hx))) (.cons rfl (.cons rfl (.cons rfl (.cons rfl (.nil))))) ?_ ?_ ?_
       exact ⟨rfl, rfl, trivial⟩
       dsimp only; omega
       dsimp only; omega
   · all_goals
      replace hc := of_decide_eq_false hc
      simp only [hTl2, hol] at hc
      try (exfalso; omega)
      all_goals
       refine G.exit (G.L (G.L (G.bn (G.E (G.seq (G.region ?_)))))); refine G.op (bq rfl .nil rfl rfl rfl rfl rfl rfl) rfl (fun vl _ => ?_); refine G.v (bb rfl) rfl (G.I (G.E (G.seq (G.seq (G.region (G.v (ba rfl) rfl ?_)))))); refine G.op (bH rfl rfl (fun w hh => cU (ks := T.map (vOf r)) w (by rw [← hkall]; exact Rd.ba 1 rfl _ hh) (by omega))) rfl ?_; rintro vo hvo; try dsimp only
       refine G.v (bz rfl (by exact Rd.ba 0 rfl)) rfl ?_; refine G.v (ba rfl) rfl (G.I (G.E (G.block ?_))); refine G.bm vl rfl ?_; refine G.heap (fun w hh => hh.nilGrp 3 1) ?_; refine G.Y (ι := Nat × List (List Int × Value) × Value) (ks := [2, 5, 34, 35]) (fun x => [(9, x.2.2), (36, .int .i64 (x.1 : Int))]) (fun x => [.grp 3 1 (x.2.1.map (sub id)), .row x.2.2 52 1 (x.2.1.map gcell)]) (fun x => x.1 ≤ T.length ∧ x.2.1.map Prod.fst = putAll (roomM r) ((ordU r T).take x.1)) (fun x => T.length - x.1) (0, [], vl) (.cons rfl (.cons rfl (.cons rfl (.cons rfl (.nil))))) rfl ?_ ?_ ?_
       exact ⟨Nat.zero_le _, rfl⟩
       exact ⟨rfl, rfl, trivial⟩
       rintro ⟨k, ts, v2⟩ ⟨hk, hM⟩
       dsimp only at hk hM ⊢
       have hl0 : (ts.map gcell).length = ts.length := (by simp)
       have htl : ts.length ≤ k := (by have := cQ (roomM r) ((ordU r T).take k); have e2 := congrArg List.length hM; rw [List.length_map] at e2; rw [List.length_take] at this; omega)
       have hblA : ∀ (j : Nat) (b : List Int × Value), ts[j]? = some b → b.1.length ≤ k := (by intro j b hb; have := (putAll_at (p := roomM r) (l := (ordU r T).take k) (q := j) (g := b.1) (by rw [← hM, List.getElem?_map, hb]; rfl)); rw [List.length_take] at this; omega)
       by_cases hlt : k < T.length
       case' pos => (obtain ⟨j, hj⟩ := bn (l := ordM (keyM (T.map (vOf r))) (T.map (vOf r)).length) (k := k) (by omega); have heo := bt hj ncell; have hjl : j < T.length := (by have := dJ.1 (List.mem_of_getElem? hj); omega); obtain ⟨u, hu⟩ := bn hjl; have het := bt hu icell; have hx := ordU_take hj hu)
       all_goals
        refine G.seq (G.region (G.v (br rfl rfl) rfl (G.I (G.E (G.seq ?_))))); refine G.cond rfl (fun hc => ?_) (fun hc => ?_)
        · all_goals
           replace hc := of_decide_eq_true hc
           simp only [hTl2, hol] at hc
           try (exfalso; omega)
           all_goals
            refine G.skip (G.E (G.seq (G.block (G.seq (G.region ?_))))); refine G.v (bg rfl rfl (by exact Rd.ba 2 rfl) rfl (by exact heo)) rfl ?_; refine G.v (bi rfl (by exact Rd.ba 2 rfl) (by exact heo) rfl) rfl ?_; refine G.v (bb rfl) rfl (G.I (G.E (G.seq (G.region (G.v (ba rfl) rfl (G.v (ba rfl) rfl ?_)))))); refine G.v (bg rfl rfl (by exact Rd.ba 4 rfl) rfl (by exact het)) rfl ?_; refine G.v (bi rfl (by exact Rd.ba 4 rfl) (by exact het) rfl) rfl ?_; refine G.op (bu) rfl (fun bk12 _ => ?_); refine G.bk (bL rfl rfl rfl rfl rfl rfl (.zero (.cons .nil))) (fun _ _ => ?_); refine G.I (G.E (G.seq (G.region (G.v (ba rfl) rfl (G.v (bY rfl rfl) rfl ?_))))); refine G.op (bh rfl rfl (fun w hh => indexTbl_any (l := ts) (p := fun g => roomM r g u) w (by exact Rd.ba 2 rfl _ hh) (fun w' j b hw hb => firstFit1_any (r := r) (g := b.1) w' (Rd.stays (Rd.stays h _ hh) w' hw) (Rd.stays (Rd.stays h2 _ hh) w' hw) (Rd.stays (Rd.stays h3 _ hh) w' hw) u (Rd.stays (Subs.at (by exact Subs.owned 1 rfl _ hh) hb) w' hw) (by have := hblA j b hb; omega) (Rd.stays (by exact Rd.bb 6 rfl hall w hh) w' hw) (Rd.stays (by exact Rd.bb 0 rfl rfl w hh) w' hw)))) rfl (fun _ _ => ?_); refine G.v (bb rfl) rfl (G.I (G.E ?_))
            refine G.seq (G.region (G.v (ba rfl) rfl (G.v (br rfl rfl) rfl (G.I (G.E ?_))))); refine G.cond rfl (fun hc => ?_) (fun hc => ?_)
            · all_goals
               replace hc := of_decide_eq_true hc
               all_goals
                have hno := idx_neg hc
                all_goals
                 refine G.region (G.v (ba rfl) rfl (G.v (bf 0 rfl rfl rfl) rfl ?_)); refine G.op (bq rfl (.cons rfl .nil) rfl rfl rfl rfl rfl rfl) rfl (fun vl _ => ?_); refine G.know (fun w hw => (Rd.ba 0 rfl w hw).one_) (fun hovl => ?_); refine G.op (bq rfl (.cons (bK (by assumption)) .nil) (by simp only [List.all_cons, List.all_nil, Bool.and_true, Bool.and_eq_true]; exact ⟨rfl, by assumption⟩) rfl rfl rfl rfl rfl) rfl (fun vm _ => ?_); refine G.op (cZ rfl rfl rfl (by exact Rd.ba 0 rfl) rfl rfl (by (simp; omega)) (by (simp; omega))) rfl (fun va _ => ?_); refine G.bE _ rfl ?_; refine G.be vl rfl ?_; refine G.bF _ d3 rfl ?_; refine G.v (bb rfl) rfl (G.I (G.bc (G.E (G.region ?_)))); refine G.v (bp rfl rfl (by omega)) rfl ?_; refine G.v (ba rfl) rfl (G.I ?_); refine G.bi va rfl ?_; refine G.bA _ rfl ?_; refine G.bt 2 rfl ?_; refine G.V (k + 1, ts ++ [([u], vl)], va) 0 (by exact cG (congrArg (fun z => Ch.grp 3 1 z) rfl) (congrArg (fun z => Ch.row va 52 1 z) push_g)) (.cons rfl (.cons rfl (.cons rfl (.cons rfl (.nil))))) ?_ ?_ ?_
                 exact ⟨rfl, rfl, trivial⟩
                 exact ⟨hlt, by rw [dd hx, ← hM]; exact (put_push (p := fun g => roomM r g u) hno).symm⟩
                 dsimp only; omega
            · all_goals
               replace hc := of_decide_eq_false hc
               all_goals
                obtain ⟨q, b, hq, hqb, hpb, hbt⟩ := idx_pos hc
                have heq := bt hqb gcell
                have hgi : (ts.map (sub id))[q]? = some (b.2, b.1.map icell) := cn hqb
                have hbl : b.1.length ≤ k := hblA q b hqb
                all_goals
                 refine G.bA _ rfl ?_; refine G.bG [9, 10] rfl ?_; refine GE.Y 0 rfl (by as_aux_lemma => kernel_rfl) rfl (bc (ba rfl)) (fun _ h => by exact h.drop 1) rfl ?_; refine GE.Y 1 rfl (by as_aux_lemma => kernel_rfl) rfl (bc (ba rfl)) (fun _ h => by exact h.drop 1) rfl ?_; refine GE.Y 2 rfl (by as_aux_lemma => kernel_rfl) rfl (bc (ba rfl)) (fun _ h => by exact h.drop 1) rfl ?_; refine GE.Y 3 rfl (by as_aux_lemma => kernel_rfl) rfl (bc (ba rfl)) (fun _ h => by exact h.drop 1) rfl ?_; refine GE.Y 4 rfl (by as_aux_lemma => kernel_rfl) rfl (bc (bg (k := q) rfl rfl (by exact Rd.ba 1 rfl) (by omega) heq)) (fun _ h => by exact h.drop 1) rfl ?_; refine GE.Y 5 rfl (by as_aux_lemma => kernel_rfl) rfl (bc (bi rfl (by exact Rd.ba 1 rfl) (by exact heq) rfl)) (fun _ h => by exact h.drop 1) rfl ?_; refine GE.V 6 (by as_aux_lemma => kernel_rfl) rfl rfl (bd (bf 1 rfl rfl rfl)) rfl (fun _ _ h => by exact h.drop 1) (fun _ _ => ?_); refine GE.V 7 (by as_aux_lemma => kernel_rfl) rfl rfl (bq rfl (.cons rfl .nil) rfl rfl rfl rfl rfl rfl) rfl (fun _ _ h => by exact h.drop 2) (fun vl _ => ?_); refine GE.V 8 (by as_aux_lemma => kernel_rfl) rfl rfl (dh rfl rfl rfl hgi (by exact Rd.ba 0 rfl) rfl rfl (by (simp; omega)) (by (simp; omega))) rfl (fun _ _ h => by exact h.drop 2) (fun vb _ => ?_)
                 skip; refine GE.know (fun w hw => (Rd.grp 1 rfl (List.mem_of_getElem? (bw hgi)) w hw).one_) (fun hova => ?_)
                 refine GE.t 9 (by as_aux_lemma => kernel_rfl) rfl rfl rfl (bd (bg (k := q) rfl rfl (by exact Rd.ba 3 rfl) (by omega) heq)) rfl (fun _ _ => ?_); refine GE.U 10 (by as_aux_lemma => kernel_rfl) rfl rfl rfl (cD rfl rfl rfl (by exact heq) (bK (by assumption)) rfl (by repeat (first | rfl | refine bB (by assumption) ?_)) rfl (.zero (.cons .nil))) (fun _ _ => ?_); refine GE.E (by as_aux_lemma => kernel_rfl) ?_; refine G.bc (G.E (G.region ?_)); refine G.v (bp rfl rfl (by omega)) rfl ?_; refine G.v (ba rfl) rfl (G.I ?_); refine G.bi v2 rfl ?_; refine G.br _ rfl ?_; refine G.bt 2 rfl ?_; refine G.V (k + 1, ts.set q (b.1 ++ [u], vb), v2) 0 (by exact cG (congrArg (fun z => Ch.grp 3 1 z) d4) (congrArg (fun z => Ch.row v2 52 1 z) into_g)) (.cons rfl (.cons rfl (.cons rfl (.cons rfl (.nil))))) ?_ ?_ ?_
                 exact ⟨rfl, rfl, trivial⟩
                 exact ⟨hlt, by rw [dd hx, ← hM]; exact (put_into (p := fun g => roomM r g u) hqb hpb hbt).symm⟩
                 dsimp only; omega
        · all_goals
           replace hc := of_decide_eq_false hc
           simp only [hTl2, hol] at hc
           try (exfalso; omega)
           all_goals
            refine G.exit (G.L (G.L (G.bn (G.E (G.seq (G.region (G.v (ba rfl) rfl (G.v (bb rfl) rfl (G.I (G.E (G.ret ?_))))))))))); refine G.know (fun w hw => (Rd.ba 1 rfl w hw).one_) (fun hone => G.bg (v2, ts) ⟨hone, by rw [bZ (l := ordU r T) (by omega), hT] at hM; exact hM⟩ rfl rfl rfl (fun w hw => hw.sublist (by repeat (first | exact List.Sublist.refl _ | refine List.Sublist.cons_cons _ ?_ | refine List.Sublist.cons _ ?_))))
end
end Go.Proofs.YtglpgohilfoecaaGreat
