/-
  Texts of this proof, one behind the other: Grp4, Grp5, Grp6, Grp7, ShelfP, FitM, DelF, RoomW, NextW, Sorts2, Sorts3, FirstW.
-/
import Derived.Test.YtglpgohilfoecaaGreatPkcC
import Derived.Test.YtglpgohilfoecaaGreatPkcA
import Derived.Test.YtglpgohilfoecaaGreatPkcB
set_option linter.unusedVariables false
set_option linter.unusedSimpArgs false

/-
  Kinds that are put into groups: the program's way.
-/
namespace Go.Proofs.YtglpgohilfoecaaGreat
open Go.RowKit
attribute [local irreducible] Go.wpList Go.Code.wp Go.Exit.then Go.Exit.inBlock Go.bodyPost Go.Calls pE pB G RunsV FnV Fn FnM
set_option maxRecDepth 100000
set_option maxHeartbeats 4000000
theorem idx_neg {α : Type} {p : α → Bool} {l : List α} (h : idxM p l < 0) : l.any p = false := by
  rcases idx_cases p l with ⟨_, e⟩ | ⟨k, b, e, _⟩
  · exact e
  · omega
theorem idx_pos {α : Type} {p : α → Bool} {l : List α} (h : ¬ idxM p l < 0) : ∃ (k : Nat) (b : α), idxM p l = (k : Int) ∧ l[k]? = some b ∧ p b = true ∧ (l.take k).any p = false := by
  rcases idx_cases p l with ⟨e, _⟩ | h2
  · omega
  · exact h2
theorem any_fst {p : List Int → Bool} {ts : List (List Int × Value)} : (ts.map Prod.fst).any p = ts.any (fun b => p b.1) := by rw [List.any_map]; rfl
theorem put_push {p : List Int → Bool} {ts : List (List Int × Value)} {x : Int} {v : Value} (h : ts.any (fun b => p b.1) = false) : putM p (ts.map Prod.fst) x = (ts ++ [([x], v)]).map Prod.fst := by
  rw [put_no (by rw [any_fst]; exact h), List.map_append]; rfl
theorem put_into {p : List Int → Bool} {ts : List (List Int × Value)} {x : Int} {q : Nat} {b : List Int × Value} {v : Value} (hb : ts[q]? = some b) (hp : p b.1 = true) (h : (ts.take q).any (fun b => p b.1) = false) : putM p (ts.map Prod.fst) x = (ts.set q (b.1 ++ [x], v)).map Prod.fst := by
  rw [put_at (k := q) (b := b.1) (by rw [← List.map_take, any_fst]; exact h) (by rw [List.getElem?_map, hb]; rfl) hp, List.map_set]
theorem push_sub {ts : List (List Int × Value)} {x : Int} {v : Value} : (ts.map (sub id)) ++ [(v, [[Value.int .i64 x]])] = (ts ++ [([x], v)]).map (sub id) := by
  rw [List.map_append]; rfl
theorem push_g {ts : List (List Int × Value)} {x : Int} {v : Value} : ts.map gcell ++ [[v]] = (ts ++ [([x], v)]).map gcell := by
  rw [List.map_append]; rfl
theorem into_sub {ts : List (List Int × Value)} {x : Int} {q : Nat} {b : List Int × Value} {v : Value} : (ts.map (sub id)).set q (v, b.1.map icell ++ [[Value.int .i64 x]]) = (ts.set q (b.1 ++ [x], v)).map (sub id) := by
  rw [List.map_set]; simp [sub, icell]
theorem into_g {ts : List (List Int × Value)} {x : Int} {q : Nat} {b : List Int × Value} {v : Value} : (ts.map gcell).set q [v] = (ts.set q (b.1 ++ [x], v)).map gcell := by
  rw [List.map_set]; rfl
theorem GE.know {P : Program} {ops : Array Oper} {Q : Exit → Act → World → Prop} {qs : List Nat} {n : Nat} {w0 : World} {HC : List Ch} {f : Nat} {listed : Array Bool} {fr : Fr} {H : List Ch} {p : Prop} (hp : ∀ w, HeapOk w0 w H → p) (h : p → GE P ops Q qs n w0 HC f listed fr H) : GE P ops Q qs n w0 HC f listed fr H := G.know hp h
theorem groups_any {ps : List PairM} {pv uv : Value} {l : List Int} (w : World) (h : Rd w pv 2 (ps.map PairM.cells)) (h2 : Rd w uv 1 (l.map icell)) (hasc : l.Pairwise (· < ·)) (hin : ∀ x ∈ l, 0 ≤ x ∧ x ≤ 3) (hn : l.length ≤ 4) :
    Fn Tryz.prog 98 [pv, uv] w (fun x : Value × List (List Int × Value) => x.1.oneCell' = true ∧ x.2.map Prod.fst = groupsM ps l) (fun x => x.1) (fun x => [.grp 3 1 (x.2.map (sub id)), .row x.1 52 1 (x.2.map gcell)]) := by
  have hln : (l.map icell).length = l.length := by simp
  have hov : pv.oneCell' = true := h.one_
  refine Fn.of (n := 42) Tryz.func98 rfl rfl ?_; refine zct ?_; refine G.op (og_box rfl (cells_one zc)) rfl (fun bk2 _ => ?_); refine zaL ?_; refine za6 (fun vl _ => ?_); refine zfb ?_; refine G.op (og_callF1 rfl rfl (fun w hh => by have q := kinds_any (l := l) w (Rd.stays h2 _ hh) zb; rw [dd_sorted hasc] at q; exact q)) rfl ?_; rintro vk hvk; try dsimp only
  refine zde ?_; refine zby ?_; refine G.frontR1 vl rfl ?_; refine zcf ?_; refine G.loopK (ι := Nat × List (List Int × Value) × Value) (ks := [2, 11, 12]) (fun x => [(5, x.2.2), (13, .int .i64 (x.1 : Int))]) (fun x => [.grp 3 1 (x.2.1.map (sub id)), .row x.2.2 52 1 (x.2.1.map gcell)]) (fun x => x.1 ≤ l.length ∧ x.2.1.map Prod.fst = groupsM ps (l.take x.1)) (fun x => l.length - x.1) (0, [], vl) (.cons rfl (.cons rfl (.cons rfl (.nil)))) rfl ?_ ?_ ?_
  exact ⟨Nat.zero_le _, rfl⟩
  exact ⟨rfl, rfl, trivial⟩
  rintro ⟨k, ts, v2⟩ ⟨hk, hM⟩
  dsimp only at hk hM ⊢
  have hl0 : (ts.map gcell).length = ts.length := zD
  have htl : ts.length ≤ k := (by have := putAll_len (fun g x => joinsM ps g x) (l.take k); have e2 := congrArg List.length hM; rw [List.length_map] at e2; rw [groupsM] at e2; rw [List.length_take] at this; omega)
  by_cases hlt : k < l.length
  case' pos => (obtain ⟨x, hx⟩ := get_of_lt hlt; have he := get_map hx icell; have hxr := hin x (List.mem_of_getElem? hx); have hxi : inB x 0 3 = true := zaE)
  all_goals
   refine zbs ?_; refine G.cond rfl (fun hc => ?_) (fun hc => ?_)
   · all_goals
      replace hc := of_decide_eq_true hc
      simp only [List.length_map] at hc
      try (exfalso; omega)
      all_goals
       refine zdx ?_; refine G.v (rv_indexH rfl rfl zm rfl zq) rfl ?_; refine G.v (rv_loadE rfl zm zq rfl) rfl ?_; refine zbu (fun bk7 _ => ?_); refine zei (fun _ _ => ?_); refine ze1 ?_; refine zct ?_; refine za0 ?_; refine za9 (fun _ _ => ?_); refine zcI ?_; refine G.cond rfl (fun hc => ?_) (fun hc => ?_)
       · all_goals
          all_goals
           exfalso; simp [hxi] at hc
       · all_goals
          all_goals
           refine zc1 ?_; refine zaN ?_; refine zdN ?_; refine G.op (og_callV rfl rfl (fun w hh => indexTbl_any (l := ts) (p := fun g => joinsM ps g x) w zan (fun w' j b hw hb => groups1_any (ps := ps) (pv := pv) x w' (Rd.stays (Rd.stays h _ hh) w' hw) (Rd.stays (Subs.at (by exact Subs.owned 1 rfl _ hh) hb) w' hw) (Rd.stays (by exact Rd.ofBlk 4 rfl (one_cons hov rfl) w hh) w' hw) (Rd.stays zaC w' hw)))) rfl (fun _ _ => ?_); refine zdS ?_; refine zaT ?_; refine G.cond rfl (fun hc => ?_) (fun hc => ?_)
           · all_goals
              replace hc := of_decide_eq_true hc
              all_goals
               have hno := idx_neg hc
               skip
               all_goals
                refine zbq ?_; refine za0 ?_; refine za2 (fun vl _ => ?_); refine zbW (fun hovl => ?_); refine zc4 (fun vm _ => ?_); refine G.op (og_app4 rfl rfl rfl zg rfl rfl zh zh) rfl (fun va _ => ?_); refine G.frontG3 _ rfl ?_; refine zdi ?_; refine zaX ?_; refine G.frontR3 va rfl ?_; refine G.frontG1 _ rfl ?_; refine G.keep2 2 rfl ?_; refine G.backK (k + 1, ts ++ [([x], vl)], va) 0 zK (.cons rfl (.cons rfl (.cons rfl (.nil)))) ?_ ?_ ?_
                exact ⟨rfl, rfl, trivial⟩
                exact ⟨hlt, by rw [groupsM, putAll_next hx, ← groupsM, ← hM]; exact (put_push (p := fun g => joinsM ps g x) hno).symm⟩
                dsimp only; omega
           · all_goals
              replace hc := of_decide_eq_false hc
              all_goals
               obtain ⟨q, b, hq, hqb, hpb, hbt⟩ := idx_pos hc
               have heq := get_map hqb gcell
               have hgi : (ts.map (sub id))[q]? = some (b.2, b.1.map icell) := get_mapS hqb
               have hbl : b.1.length ≤ k := (by have := (putAll_at (p := fun g x => joinsM ps g x) (l := l.take k) (q := q) (g := b.1) (by show (groupsM ps (l.take k))[q]? = _; rw [← hM, List.getElem?_map, hqb]; rfl)); rw [List.length_take] at this; omega)
               all_goals
                refine zb0 (fun _ _ => ?_); refine zfM (fun vl _ => ?_); refine GE.ol 8 za rfl rfl (og_appG1 rfl rfl rfl hgi zg rfl rfl zh zh) rfl zf (fun vb _ => ?_)
                skip; refine zfx (fun hova => ?_)
                refine GE.t 9 za rfl rfl rfl (og_runs (rv_indexH (k := q) rfl rfl zA zb heq)) rfl (fun _ _ => ?_); refine GE.t0 10 za rfl rfl rfl (og_stE3 rfl rfl rfl zay (cells_one zc) rfl (by repeat (first | rfl | refine one_cons zc ?_)) rfl (.zero (.cons .nil))) (fun _ _ => ?_); refine zb3 ?_; refine zaX ?_; refine G.frontR3 v2 rfl ?_; refine G.frontG2 _ rfl ?_; refine G.keep2 2 rfl ?_; refine G.backK (k + 1, ts.set q (b.1 ++ [x], vb), v2) 0 zI (.cons rfl (.cons rfl (.cons rfl (.nil)))) ?_ ?_ ?_
                exact ⟨rfl, rfl, trivial⟩
                exact ⟨hlt, by rw [groupsM, putAll_next hx, ← groupsM, ← hM]; exact (put_into (p := fun g => joinsM ps g x) hqb hpb hbt).symm⟩
                dsimp only; omega
   · all_goals
      replace hc := of_decide_eq_false hc
      simp only [List.length_map] at hc
      try (exfalso; omega)
      all_goals
       refine zcX ?_; refine G.know (fun w hw => (Rd.owned 1 rfl w hw).one_) (fun hone => G.retF (v2, ts) ⟨hone, by rw [take_all (l := l) zb] at hM; exact hM⟩ rfl rfl rfl (fun w hw => hw.sublist (by repeat (first | exact List.Sublist.refl _ | refine List.Sublist.cons_cons _ ?_ | refine List.Sublist.cons _ ?_))))
theorem below_yes {l : List Int} {n : Nat} (h : hasM l (n : Int) = true) : below l (n + 1) = below l n ++ [(n : Int)] := by rw [below_next, if_pos h]
theorem below_no {l : List Int} {n : Nat} (h : hasM l (n : Int) = false) : below l (n + 1) = below l n := by rw [below_next, if_neg (by rw [h]; decide), List.append_nil]
theorem sgroups_any {ps : List PairM} {pv uv : Value} {l : List Int} (w : World) (h : Rd w pv 2 (ps.map PairM.cells)) (h2 : Rd w uv 1 (l.map icell)) (hasc : l.Pairwise (· < ·)) (hin : ∀ x ∈ l, 0 ≤ x ∧ x ≤ 3) :
    Fn Tryz.prog 104 [pv, uv] w (fun x : Value × List (List Int × Value) => x.1.oneCell' = true ∧ x.2.map Prod.fst = groupsM ps l) (fun x => x.1) (fun x => [.grp 3 1 (x.2.map (sub id)), .row x.1 52 1 (x.2.map gcell)]) := by
  refine Fn.of (n := 51) Tryz.func104 rfl rfl ?_; refine zaR ?_; refine za6 (fun vl _ => ?_); refine zd8 ?_; refine zcf ?_; refine G.loopK (ι := Nat × List (List Int × Value) × Value) (ks := [0, 1]) (fun x => [(5, x.2.2), (6, .int .i64 (x.1 : Int))]) (fun x => [.grp 3 1 (x.2.1.map (sub id)), .row x.2.2 52 1 (x.2.1.map gcell)]) (fun x => x.1 ≤ 4 ∧ x.2.1.map Prod.fst = groupsM ps (below l x.1)) (fun x => 4 - x.1) (0, [], vl) (.cons rfl (.cons rfl (.nil))) rfl ?_ ?_ ?_
  exact ⟨Nat.zero_le _, rfl⟩
  exact ⟨rfl, rfl, trivial⟩
  rintro ⟨c, ts, v2⟩ ⟨hk, hM⟩
  dsimp only at hk hM ⊢
  have hl0 : (ts.map gcell).length = ts.length := zD
  have htl : ts.length ≤ 4 := (by have := putAll_len (fun g x => joinsM ps g x) (below l c); have e2 := congrArg List.length hM; rw [List.length_map] at e2; rw [groupsM] at e2; have := below_len l c; omega)
  refine zeA ?_; refine zaT ?_; refine G.condD rfl (fun hc => ?_) (fun hc => ?_); refine za3 ?_; refine zcu ?_; refine G.op (og_callV rfl rfl (fun w hh => l1Has_any _ w zH)) rfl (fun _ _ => ?_); refine zcI ?_; refine G.cond rfl (fun hc => ?_) (fun hc => ?_)
  have hh1 : hasM l (c : Int) = false := by simpa using hc
  refine G.exit (G.thenX (G.inX (G.thenN ?_))); refine zbX ?_; refine G.frontR1 v2 rfl ?_; refine G.frontG1 _ rfl ?_; refine G.keep2 0 rfl ?_; refine G.backK (c + 1, ts, v2) 0 zat (.cons rfl (.cons rfl (.nil))) ?_ ?_ ?_
  exact ⟨rfl, rfl, trivial⟩
  exact ⟨by omega, by rw [below_no hh1]; exact hM⟩
  dsimp only; omega
  · have hh1 : hasM l (c : Int) = true := by simpa using hc
    refine zc1 ?_; refine zcK ?_; refine zc0 ?_; refine zdf ?_; refine zaL ?_; refine G.block ?_; refine G.loopK (ι := Nat) (ks := [0, 1, 5, 6]) (fun k => [(7, .int .i64 (idxFrom (fun b => joinsM ps b.1 (c : Int)) ts k)), (8, .int .i64 ((k : Int) - 1))]) (fun _ => []) (fun k => k ≤ ts.length) (fun k => k) ts.length (.cons rfl (.cons rfl (.cons rfl (.cons rfl (.nil))))) rfl ?_ ?_ ?_
    exact Nat.le_refl _
    exact ⟨congrArg (fun z => some (Value.int .i64 z)) from_end.symm, congrArg (fun z : Nat => some (Value.int .i64 ((z : Int) - 1))) hl0, trivial⟩
    rintro k hk1
    rcases k with _ | k
    case' succ => (obtain ⟨b, hb⟩ := get_of_lt (l := ts) (k := k) zb; have heb := get_map hb gcell)
    all_goals
     refine zeA ?_; refine zdW ?_; refine zbe ?_; refine G.cond rfl (fun hc => ?_) (fun hc => ?_)
     · try exact Bool.noConfusion hc
       all_goals
        replace hc := of_decide_eq_true hc
        all_goals
         refine za3 ?_; refine zaZ ?_; refine zaM ?_; refine G.v (rv_indexH (k := k) rfl rfl zi zb heb) rfl ?_; refine G.v (rv_loadE rfl zi zX rfl) rfl ?_; refine zaM ?_; refine G.op (og_callV rfl rfl (fun w hh => l3Joins_any (ps := ps) (l := b.1) _ w (Rd.stays h _ hh) (Subs.at (by exact Subs.owned 0 rfl _ hh) hb))) rfl (fun _ _ => ?_); refine zbe ?_; refine G.cond rfl (fun hc => ?_) (fun hc => ?_)
         · all_goals
            all_goals
             refine zbq ?_; refine zbb ?_; refine G.inN (G.thenN ?_); refine zbq ?_; refine zdf ?_; refine zbb ?_; refine G.backK k 0 rfl (.cons rfl (.cons rfl (.cons rfl (.cons rfl (.nil))))) ?_ ?_ ?_
             exact ⟨congrArg (fun z => some (Value.int .i64 z)) ((show ((k + 1 : Nat) : Int) - 1 = (k : Int) by omega).trans (from_yes hb hc)), congrArg (fun z => some (Value.int .i64 z)) (show ((k + 1 : Nat) : Int) - 1 - 1 = (k : Int) - 1 by omega), trivial⟩
             omega
             omega
         · all_goals
            all_goals
             refine G.skip (G.inN (G.thenN ?_)); refine zbq ?_; refine zdf ?_; refine zbb ?_; refine G.backK k 0 rfl (.cons rfl (.cons rfl (.cons rfl (.cons rfl (.nil))))) ?_ ?_ ?_
             exact ⟨congrArg (fun z => some (Value.int .i64 z)) (from_no hb hc), congrArg (fun z => some (Value.int .i64 z)) (show ((k + 1 : Nat) : Int) - 1 - 1 = (k : Int) - 1 by omega), trivial⟩
             omega
             omega
     · all_goals
        replace hc := of_decide_eq_false hc
        try (exfalso; omega)
        all_goals
         refine zaW ?_; refine zaN ?_; refine zaT ?_; refine G.cond rfl (fun hc => ?_) (fun hc => ?_)
         · all_goals
            replace hc := of_decide_eq_true hc
            all_goals
             rw [from_zero] at hc
             have hno := idx_neg hc
             all_goals
              refine zdR ?_; refine za2 (fun vl _ => ?_); refine zbW (fun hovl => ?_); refine zc4 (fun vm _ => ?_); refine zcC (fun va _ => ?_); refine G.frontG2 _ rfl ?_; refine zdi ?_; refine zaO ?_; refine zeq ?_; refine G.backK (c + 1, ts ++ [([(c : Int)], vl)], va) 0 zK (.cons rfl (.cons rfl (.nil))) ?_ ?_ ?_
              exact ⟨rfl, rfl, trivial⟩
              exact ⟨by omega, by rw [below_yes hh1, groupsM, putAll_snoc, ← groupsM, ← hM]; exact (put_push (p := fun g => joinsM ps g (c : Int)) hno).symm⟩
              dsimp only; omega
         · all_goals
            replace hc := of_decide_eq_false hc
            all_goals
             rw [from_zero] at hc
             obtain ⟨q, b, hq, hqb, hpb, hbt⟩ := idx_pos hc
             have hq2 := (from_zero (p := fun b => joinsM ps b.1 (c : Int)) (l := ts)).trans hq
             have heq := get_map hqb gcell
             have hgi : (ts.map (sub id))[q]? = some (b.2, b.1.map icell) := get_mapS hqb
             have hbl : b.1.length ≤ 4 := (by have := (putAll_at (p := fun g x => joinsM ps g x) (l := below l c) (q := q) (g := b.1) (by show (groupsM ps (below l c))[q]? = _; rw [← hM, List.getElem?_map, hqb]; rfl)); have := below_len l c; omega)
             all_goals
              refine zdH ?_; refine zen ?_; refine za2 (fun vl _ => ?_); refine zdX (fun vb _ => ?_)
              skip; refine zcN (fun hova => ?_)
              refine G.v (rv_indexH (k := q) rfl rfl zm zb heq) rfl ?_; refine G.op0 (og_stE2 rfl rfl rfl zay (cells_one zc) rfl (by repeat (first | rfl | refine one_cons zc ?_)) rfl (.zero (.cons .nil))) (fun _ _ => ?_); refine G.done ?_; refine zaO ?_; refine zer ?_; refine G.backK (c + 1, ts.set q (b.1 ++ [(c : Int)], vb), v2) 0 zI (.cons rfl (.cons rfl (.nil))) ?_ ?_ ?_
              exact ⟨rfl, rfl, trivial⟩
              exact ⟨by omega, by rw [below_yes hh1, groupsM, putAll_snoc, ← groupsM, ← hM]; exact (put_into (p := fun g => joinsM ps g (c : Int)) hqb hpb hbt).symm⟩
              dsimp only; omega
  refine zcX ?_; refine G.know (fun w hw => (Rd.owned 1 rfl w hw).one_) (fun hone => G.retF (v2, ts) ⟨hone, by rw [show c = 4 by omega, below_all hasc hin] at hM; exact hM⟩ rfl rfl rfl (fun w hw => hw.sublist zaI))
def groupsOfM (r : ReqM) : List (List Int) := groupsM r.pairs (presI r)
theorem presI_no {r : ReqM} (h : ¬ classM r = 0) : presI r = [] := by rw [presI, presM, if_neg h]; rfl
theorem groupsOf_no {r : ReqM} (h : ¬ classM r = 0) : groupsOfM r = [] := by rw [groupsOfM, presI_no h]; rfl
section
variable {r : ReqM} {pv tv iv : Value} (w : World) (h : Rd w pv 2 (r.pairs.map PairM.cells)) (h2 : Rd w tv 7 (r.types.map TypeM.cells)) (h3 : Rd w iv 7 (r.items.map ItemM.cells))
include h h2 h3
theorem groupsOf_any : Fn Tryz.prog 42 [.agg (r.cells pv tv iv).toArray] w (fun x : Value × List (List Int × Value) => x.1.oneCell' = true ∧ x.2.map Prod.fst = groupsOfM r) (fun x => x.1) (fun x => [.grp 3 1 (x.2.map (sub id)), .row x.1 52 1 (x.2.map gcell)]) := by
  refine Fn.of (n := 11) Tryz.func42 rfl rfl ?_; refine zaU (fun bk1 _ => ?_); refine zbk ?_; refine za7 ?_; refine zbN (fun _ _ => ?_); refine zcI ?_; refine G.cond rfl (fun hc => ?_) (fun hc => ?_); refine zdM ?_
  exact G.retF (.slice none 0 0, []) ⟨rfl, (groupsOf_no (by exact of_decide_eq_false zB)).symm⟩ rfl rfl rfl (fun w hw => (hw.none.nilRow _ _).nilGrp _ _)
  refine zc1 ?_; refine G.seq (G.drawL [5] ?_); refine zbP ?_; refine GE.ol 2 za rfl rfl (og_runs (rv_loadW 0 rfl rfl rfl)) rfl zd (fun _ _ => ?_); refine GE.ol 3 za rfl rfl (og_callF1 rfl rfl (fun w hh => present_any (r := r) w (Rd.stays h _ hh) (Rd.stays h2 _ hh) (Rd.stays h3 _ hh))) rfl zj ?_; rintro vk hvk; try dsimp only
  refine GE.ol 4 za rfl rfl (og_callF2 rfl rfl (fun w hh => groups_any (ps := r.pairs) (l := presI r) w (Rd.stays h _ hh) (by rw [← presI_cells]; exact Rd.owned 0 rfl _ hh) (presI_asc r) (fun x hx => presI_in hx) (presI_len r))) rfl zk ?_; rintro ⟨vo, os⟩ ⟨hvo, hos⟩; try dsimp only
  refine GE.t 5 za rfl rfl rfl (og_runs (rv_assign rfl)) rfl (fun _ _ => ?_); refine zbm ?_; refine G.ret ?_
  exact G.retF (vo, os) ⟨hvo, hos⟩ rfl rfl rfl (fun w hw => hw.sublist (by repeat (first | exact List.Sublist.refl _ | refine List.Sublist.cons_cons _ ?_ | refine List.Sublist.cons _ ?_)))
theorem sgroupsOf_any : Fn Tryz.prog 48 [.agg (r.cells pv tv iv).toArray] w (fun x : Value × List (List Int × Value) => x.1.oneCell' = true ∧ x.2.map Prod.fst = groupsOfM r) (fun x => x.1) (fun x => [.grp 3 1 (x.2.map (sub id)), .row x.1 52 1 (x.2.map gcell)]) := by
  refine Fn.of (n := 8) Tryz.func48 rfl rfl ?_; refine zaU (fun bk1 _ => ?_); refine zbk ?_; refine G.drawL [5] ?_; refine zbP ?_; refine GE.ol 2 za rfl rfl (og_runs (rv_loadW 0 rfl rfl rfl)) rfl zd (fun _ _ => ?_); refine GE.ol 3 za rfl rfl (og_callF1 rfl rfl (fun w hh => spresent_any (r := r) w (Rd.stays h _ hh) (Rd.stays h2 _ hh) (Rd.stays h3 _ hh))) rfl zj ?_; rintro vk hvk; try dsimp only
  refine GE.ol 4 za rfl rfl (og_callF2 rfl rfl (fun w hh => sgroups_any (ps := r.pairs) (l := presI r) w (Rd.stays h _ hh) (by rw [← presI_cells]; exact Rd.owned 0 rfl _ hh) (presI_asc r) (fun x hx => presI_in hx))) rfl zk ?_; rintro ⟨vo, os⟩ ⟨hvo, hos⟩; try dsimp only
  refine GE.t 5 za rfl rfl rfl (og_runs (rv_assign rfl)) rfl (fun _ _ => ?_); refine zbm ?_; refine G.ret ?_
  exact G.retF (vo, os) ⟨hvo, hos⟩ rfl rfl rfl (fun w hw => hw.sublist (by repeat (first | exact List.Sublist.refl _ | refine List.Sublist.cons_cons _ ?_ | refine List.Sublist.cons _ ?_)))
end
def clsAt (r : ReqM) (i : Nat) : Int := ((r.items[i]?).getD itemZ).cls
/-- The places of those units that a group holds. -/
def unitsIn (r : ReqM) (g : List Int) (l : List Nat) : List Nat := (l.zipIdx.filter (fun p => hasM g (clsAt r p.1))).map Prod.snd
theorem in_next {r : ReqM} {g : List Int} {l : List Nat} {k i : Nat} (hb : l[k]? = some i) : unitsIn r g (l.take (k + 1)) = unitsIn r g (l.take k) ++ (if hasM g (clsAt r i) then [k] else []) := by
  have hk := (List.getElem?_eq_some_iff.1 hb).1
  simp only [unitsIn, List.take_add_one, hb, Option.toList_some, List.zipIdx_append, List.filter_append, List.map_append, List.length_take]
  rw [Nat.min_eq_left zb]
  cases h : hasM g (clsAt r i) <;> simp [h]
theorem in_yes {r : ReqM} {g : List Int} {l : List Nat} {k i : Nat} {x : ItemM} (hb : l[k]? = some i) (hx : r.items[i]? = some x) (h : hasM g x.cls = true) : (unitsIn r g (l.take k)).map ncell ++ [[.int .i64 (k : Int)]] = (unitsIn r g (l.take (k + 1))).map ncell := by
  rw [in_next hb, clsAt, hx, show (some x).getD itemZ = x from rfl, if_pos h, List.map_append]; rfl
theorem in_no {r : ReqM} {g : List Int} {l : List Nat} {k i : Nat} {x : ItemM} (hb : l[k]? = some i) (hx : r.items[i]? = some x) (h : hasM g x.cls = false) : (unitsIn r g (l.take k)).map ncell = (unitsIn r g (l.take (k + 1))).map ncell := by
  rw [in_next hb, clsAt, hx, if_neg (by rw [show (some x).getD itemZ = x from rfl, h]; decide), List.append_nil]
theorem in_len (r : ReqM) (g : List Int) (l : List Nat) : (unitsIn r g l).length ≤ l.length := by
  rw [unitsIn, List.length_map]
  have := List.length_filter_le (fun p : Nat × Nat => hasM g (clsAt r p.1)) l.zipIdx
  rwa [List.length_zipIdx] at this
/-- The units of a group of an order. -/
def unitsOfM (r : ReqM) (k : Int) : List Nat := if inB k 0 (((groupsOfM r).length : Int) - 1) then unitsIn r ((groupsOfM r).getD k.toNat []) (unitsM r) else []
theorem unitsOf_yes {r : ReqM} {ts : List (List Int × Value)} {m : Nat} {b : List Int × Value} (hM : ts.map Prod.fst = groupsOfM r) (hb : ts[m]? = some b) : unitsOfM r (m : Int) = unitsIn r b.1 (unitsM r) := by
  have hm := (List.getElem?_eq_some_iff.1 hb).1
  have e : (groupsOfM r)[m]? = some b.1 := by rw [← hM, List.getElem?_map, hb]; rfl
  have e2 : (groupsOfM r).length = ts.length := by rw [← hM, List.length_map]
  rw [unitsOfM, if_pos zaE, Int.toNat_natCast, List.getD_eq_getElem?_getD, e]; rfl
theorem unitsOf_no {r : ReqM} {ts : List (List Int × Value)} {k : Int} (hM : ts.map Prod.fst = groupsOfM r) (h : inB k 0 (((ts.map gcell).length : Int) - 1) = false) : unitsOfM r k = [] := by
  have e2 : (ts.map gcell).length = (groupsOfM r).length := by rw [← hM]; simp
  rw [unitsOfM, ← e2, h]; rfl
theorem group_in {ts : List (List Int × Value)} {k : Int} (h : inB k 0 (((ts.map gcell).length : Int) - 1) = true) : ∃ (m : Nat) (b : List Int × Value), k = m ∧ ts[m]? = some b := by
  simp only [inB, Bool.and_eq_true, decide_eq_true_eq, List.length_map] at h
  obtain ⟨m, rfl⟩ : ∃ m : Nat, k = m := ⟨k.toNat, by omega⟩
  obtain ⟨b, hb⟩ := get_of_lt (l := ts) (k := m) zb
  exact ⟨m, b, rfl, hb⟩
theorem group_sound {r : ReqM} {ts : List (List Int × Value)} {m : Nat} {b : List Int × Value} (hM : ts.map Prod.fst = groupsOfM r) (hb : ts[m]? = some b) : classM r = 0 := by
  rcases Classical.em (classM r = 0) with h | h
  · exact h
  · have e := congrArg List.length hM
    rw [groupsOf_no h, List.length_map] at e
    have hm := (List.getElem?_eq_some_iff.1 hb).1
    simp at e; simp [e] at hm
section
variable {r : ReqM} {pv tv iv : Value} (w : World) (h : Rd w pv 2 (r.pairs.map PairM.cells)) (h2 : Rd w tv 7 (r.types.map TypeM.cells)) (h3 : Rd w iv 7 (r.items.map ItemM.cells))
include h h2 h3
theorem unitsOf_any (z : Int) : Fn Tryz.prog 71 [.agg (r.cells pv tv iv).toArray, .int .i64 z] w (fun v : Value => v.oneCell' = true) (fun v => v) (fun v => [.row v 3 1 ((unitsOfM r z).map ncell)]) := by
  have hun := unitsM_len r
  have hun2 : ((unitsM r).map ncell).length = (unitsM r).length := by simp
  refine Fn.of (n := 43) Tryz.func71 rfl rfl ?_; refine zaU (fun bk2 _ => ?_); refine zf9 ?_; refine zeb ?_; rintro ⟨vo, ts⟩ ⟨hvo, hts⟩; try dsimp only
  have hgl : (ts.map gcell).length ≤ 4 := by (have e := congrArg List.length hts; have := putAll_len (fun g x => joinsM r.pairs g x) (presI r); have h4 := presI_len r; simp only [List.length_map, groupsOfM, groupsM] at e ⊢; omega)
  refine zbk ?_; refine zaZ ?_; refine zc0 ?_; refine zdf ?_; refine za9 (fun _ _ => ?_); refine zcI ?_; refine G.cond rfl (fun hc => ?_) (fun hc => ?_)
  have hno : inB z 0 (((ts.map gcell).length : Int) - 1) = false := by simpa using hc
  refine zdM ?_
  exact G.retF (.slice none 0 0) rfl rfl rfl rfl (fun w hw => by rw [unitsOf_no hts hno]; exact (hw.none).nilRow _ _)
  · obtain ⟨m, g, rfl, hmg⟩ := group_in (by simpa using hc : inB z 0 (((ts.map gcell).length : Int) - 1) = true)
    have heg := get_map hmg gcell
    refine zc1 ?_; refine za6 (fun vl _ => ?_); refine zbk ?_; refine zct ?_; refine zd6 ?_; refine zed ?_; rintro vu hvu; try dsimp only
    refine zde ?_; refine zby ?_; refine G.frontR1 vl rfl ?_; refine G.loopK (ι := Nat × Value) (ks := [1, 2, 5, 19, 20]) (fun x => [(6, x.2), (21, .int .i64 (x.1 : Int))]) (fun x => [.row x.2 3 1 ((unitsIn r g.1 ((unitsM r).take x.1)).map ncell)]) (fun x => x.1 ≤ (unitsM r).length) (fun x => (unitsM r).length - x.1) (0, vl) (.cons rfl (.cons rfl (.cons rfl (.cons rfl (.cons rfl (.nil)))))) rfl ?_ ?_ ?_
    exact Nat.zero_le _
    exact ⟨rfl, rfl, trivial⟩
    rintro ⟨k, v⟩ hk
    dsimp only at hk ⊢
    have hil := in_len r g.1 ((unitsM r).take k)
    have hil2 : ((unitsIn r g.1 ((unitsM r).take k)).map ncell).length = (unitsIn r g.1 ((unitsM r).take k)).length := by simp
    rw [List.length_take] at hil
    by_cases hlt : k < (unitsM r).length
    case' pos => (obtain ⟨i, hb⟩ := get_of_lt hlt; have e1 := get_map hb ncell; obtain ⟨x, hx⟩ := get_of_lt (unitsM_lt i (List.mem_of_getElem? hb)); have e3 := get_map hx ItemM.cells)
    all_goals
     refine zbs ?_; refine G.cond rfl (fun hc => ?_) (fun hc => ?_)
     · all_goals
        replace hc := of_decide_eq_true hc
        simp only [hun2] at hc
        try (exfalso; omega)
        all_goals
         refine zee ?_; refine G.v (rv_indexH rfl rfl zi rfl zE) rfl ?_; refine G.v (rv_loadE rfl zi zE rfl) rfl ?_; refine zcD ?_; refine zbk ?_; refine G.drawL [] ?_; refine za4 ?_; refine zdk ?_; refine GE.ol 6 za rfl rfl (og_runs (rv_move rfl)) rfl zd (fun _ _ => ?_); refine GE.ol 7 za rfl rfl (og_runs (rv_indexH rfl rfl ze rfl zal)) rfl zd (fun _ _ => ?_)
         refine GE.ol 8 za rfl rfl (og_runs (rv_fieldE rfl)) rfl zd (fun _ _ => ?_); refine GE.ol 9 za rfl rfl (og_runs (rv_loadE rfl ze zal rfl)) rfl zd (fun _ _ => ?_); refine GE.ol 10 za rfl rfl (og_callV rfl rfl (fun w hh => hasInt_any (l := g.1) x.cls w (Subs.at (by exact Subs.owned 2 rfl _ hh) hmg))) rfl zd (fun _ _ => ?_); refine zbm ?_; refine G.cond rfl (fun hc => ?_) (fun hc => ?_)
         · all_goals
            all_goals
             refine zdR ?_; refine za2 (fun vx _ => ?_); refine zbI (fun va _ => ?_); refine zbb ?_; refine zaX ?_; refine G.backK (k + 1, va) 1 (by exact one_eq (congrArg (fun z => Ch.row va 3 1 z) (in_yes hb hx hc))) (.cons rfl (.cons rfl (.cons rfl (.cons rfl (.cons rfl (.nil)))))) (⟨rfl, rfl, trivial⟩) ?_ ?_
             exact hlt
             dsimp only; omega
         · all_goals
            all_goals
             refine G.skip ?_; refine zaX ?_; refine G.backK (k + 1, v) 0 (by exact one_eq (congrArg (fun z => Ch.row v 3 1 z) (in_no hb hx hc))) (.cons rfl (.cons rfl (.cons rfl (.cons rfl (.cons rfl (.nil)))))) (⟨rfl, rfl, trivial⟩) ?_ ?_
             exact hlt
             dsimp only; omega
     · all_goals
        replace hc := of_decide_eq_false hc
        simp only [hun2] at hc
        try (exfalso; omega)
        all_goals
         refine zcX ?_; refine G.know (fun w hw => (Rd.owned 0 rfl w hw).one_) (fun hone => G.retF v hone rfl rfl rfl (fun w hw => by rw [take_all (l := unitsM r) zb, ← unitsOf_yes hts hmg] at hw; exact hw.sublist (by repeat (first | exact List.Sublist.refl _ | refine List.Sublist.cons_cons _ ?_ | refine List.Sublist.cons _ ?_)))); done
theorem sunitsOf_any (z : Int) : Fn Tryz.prog 74 [.agg (r.cells pv tv iv).toArray, .int .i64 z] w (fun v : Value => v.oneCell' = true) (fun v => v) (fun v => [.row v 3 1 ((unitsOfM r z).map ncell)]) := by
  have hun := unitsM_len r
  have hun2 : ((unitsM r).map ncell).length = (unitsM r).length := by simp
  refine Fn.of (n := 46) Tryz.func74 rfl rfl ?_; refine zaU (fun bk2 _ => ?_); refine zaL ?_; refine za6 (fun vl _ => ?_); refine zbk ?_; refine zbM ?_; refine zd7 ?_; rintro ⟨vo, ts⟩ ⟨hvo, hts⟩; try dsimp only
  have hgl : (ts.map gcell).length ≤ 4 := by (have e := congrArg List.length hts; have := putAll_len (fun g x => joinsM r.pairs g x) (presI r); have h4 := presI_len r; simp only [List.length_map, groupsOfM, groupsM] at e ⊢; omega)
  refine zbk ?_; refine zaZ ?_; refine zc0 ?_; refine zdf ?_; refine zbf (fun _ _ => ?_); refine zcI ?_; refine G.cond rfl (fun hc => ?_) (fun hc => ?_)
  have hno : inB z 0 (((ts.map gcell).length : Int) - 1) = false := by simpa using hc
  refine zbp ?_; refine G.thenR ?_
  (refine G.frontR2 vl rfl ?_); refine G.know (fun w hw => (Rd.owned 0 rfl w hw).one_) (fun hone => G.retF vl hone rfl rfl rfl (fun w hw => by rw [unitsOf_no hts hno]; exact hw.sublist (by repeat (first | exact List.Sublist.refl _ | refine List.Sublist.cons_cons _ ?_ | refine List.Sublist.cons _ ?_))))
  · obtain ⟨m, g, rfl, hmg⟩ := group_in (by simpa using hc : inB z 0 (((ts.map gcell).length : Int) - 1) = true)
    have heg := get_map hmg gcell
    have hyes := group_sound hts hmg
    refine zc1 ?_; refine zct ?_; refine zd6 ?_; refine zbR ?_; rintro vu hvu; try dsimp only
    refine zd8 ?_; refine G.frontR3 vl rfl ?_; refine G.loopK (ι := Nat × Value) (ks := [1, 2, 6, 7]) (fun x => [(5, x.2), (8, .int .i64 (x.1 : Int))]) (fun x => [.row x.2 3 1 ((unitsIn r g.1 ((unitsM r).take x.1)).map ncell)]) (fun x => x.1 ≤ (unitsM r).length) (fun x => (unitsM r).length - x.1) (0, vl) (.cons rfl (.cons rfl (.cons rfl (.cons rfl (.nil))))) rfl ?_ ?_ ?_
    exact Nat.zero_le _
    exact ⟨rfl, rfl, trivial⟩
    rintro ⟨k, v⟩ hk
    dsimp only at hk ⊢
    have hil := in_len r g.1 ((unitsM r).take k)
    have hil2 : ((unitsIn r g.1 ((unitsM r).take k)).map ncell).length = (unitsIn r g.1 ((unitsM r).take k)).length := by simp
    rw [List.length_take] at hil
    by_cases hlt : k < (unitsM r).length
    case' pos => (obtain ⟨i, hb⟩ := get_of_lt hlt; have e1 := get_map hb ncell; obtain ⟨x, hx⟩ := get_of_lt (unitsM_lt i (List.mem_of_getElem? hb)); have e3 := get_map hx ItemM.cells)
    all_goals
     refine zcu ?_; refine zc0 ?_; refine zaT ?_; refine G.cond rfl (fun hc => ?_) (fun hc => ?_)
     · all_goals
        replace hc := of_decide_eq_true hc
        simp only [hun2] at hc
        try (exfalso; omega)
        all_goals
         refine za3 ?_; refine zeS ?_; refine za4 ?_; refine zdk ?_; refine zdQ ?_; refine GE.ol 7 za rfl rfl (og_runs (rv_move rfl)) rfl zd (fun _ _ => ?_); refine GE.ol 8 za rfl rfl (og_runs (rv_indexH rfl rfl zi rfl zE)) rfl zd (fun _ _ => ?_); refine GE.ol 9 za rfl rfl (og_runs (rv_loadE rfl zi zE rfl)) rfl zd (fun _ _ => ?_); refine GE.ol 10 za rfl rfl (og_runs (rv_indexH rfl rfl ze rfl zal)) rfl zd (fun _ _ => ?_)
         refine GE.ol 11 za rfl rfl (og_runs (rv_fieldE rfl)) rfl zd (fun _ _ => ?_); refine GE.ol 12 za rfl rfl (og_runs (rv_loadE rfl ze zal rfl)) rfl zd (fun _ _ => ?_); refine GE.ol 13 za rfl rfl (og_callV rfl rfl (fun w hh => l1Has_any (l := g.1) x.cls w (Subs.at (by exact Subs.owned 2 rfl _ hh) hmg))) rfl zd (fun _ _ => ?_); refine zbm ?_; refine G.cond rfl (fun hc => ?_) (fun hc => ?_)
         · all_goals
            all_goals
             refine zdR ?_; refine za2 (fun vx _ => ?_); refine zbI (fun va _ => ?_); refine zbb ?_; refine zaO ?_; refine G.backK (k + 1, va) 1 (by exact one_eq (congrArg (fun z => Ch.row va 3 1 z) (in_yes hb hx hc))) (.cons rfl (.cons rfl (.cons rfl (.cons rfl (.nil))))) (⟨rfl, rfl, trivial⟩) ?_ ?_
             exact hlt
             dsimp only; omega
         · all_goals
            all_goals
             refine zfL ?_; refine G.backK (k + 1, v) 0 (by exact one_eq (congrArg (fun z => Ch.row v 3 1 z) (in_no hb hx hc))) (.cons rfl (.cons rfl (.cons rfl (.cons rfl (.nil))))) (⟨rfl, rfl, trivial⟩) ?_ ?_
             exact hlt
             dsimp only; omega
     · all_goals
        replace hc := of_decide_eq_false hc
        simp only [hun2] at hc
        try (exfalso; omega)
        all_goals
         refine zcX ?_; refine G.know (fun w hw => (Rd.owned 0 rfl w hw).one_) (fun hone => G.retF v hone rfl rfl rfl (fun w hw => by rw [take_all (l := unitsM r) zb, ← unitsOf_yes hts hmg] at hw; exact hw.sublist (by repeat (first | exact List.Sublist.refl _ | refine List.Sublist.cons_cons _ ?_ | refine List.Sublist.cons _ ?_)))); done
end
theorem unitsOf_len (r : ReqM) (z : Int) : (unitsOfM r z).length ≤ 48 := by
  rw [unitsOfM]
  split
  · have h1 := in_len r ((groupsOfM r).getD z.toNat []) (unitsM r)
    have h2 := unitsM_len r
    omega
  · simp
theorem ncell_eq (l : List Nat) : l.map ncell = (l.map (fun n : Nat => (n : Int))).map icell := by rw [List.map_map]; rfl
end Go.Proofs.YtglpgohilfoecaaGreat

/-
  Boxes that are put on shelves, the deepest first: no program is in sight here.
-/
namespace Go.Proofs.YtglpgohilfoecaaGreat
open Go.RowKit
def keyM (ks : List Int) (i : Nat) : Int := -(ks.getD i 0)
theorem keyM_get {ks : List Int} {i : Nat} {k : Int} (h : ks[i]? = some k) : keyM ks i = -k := by simp [keyM, List.getD_eq_getElem?_getD, h]
def shelfRoom (p : PalletM) (t : ShelfM) (b : BoxM) : Bool := decide (t.w + b.w ≤ p.w) && decide (t.g + b.g ≤ p.g)
def shelfAdd (t : ShelfM) (k : Nat) (b : BoxM) : ShelfM := ⟨t.l ++ [(k : Int)], t.w + b.w, max t.d b.d, max t.h b.h, t.g + b.g⟩
def shelfZ : ShelfM := ⟨[], 0, 0, 0, 0⟩
def boxAt (l : List BoxM) (i : Nat) : BoxM := l.getD i ⟨0, 0, 0, 0⟩
def shelfXs (l : List BoxM) : List (BoxM × Nat) := (ordM (keyM (l.map BoxM.d)) l.length).map fun i => (boxAt l i, i)
def shelvesM (p : PalletM) (l : List BoxM) : List ShelfM := if boxesOkM p l then pile (shelfRoom p) shelfAdd shelfZ (shelfXs l) else []
theorem boxAt_get {l : List BoxM} {i : Nat} {b : BoxM} (h : l[i]? = some b) : boxAt l i = b := by simp [boxAt, List.getD_eq_getElem?_getD, h]
theorem xs_len (l : List BoxM) : (shelfXs l).length = l.length := by simp [shelfXs, ordM_len]
theorem xs_get {l : List BoxM} {k x : Nat} {b : BoxM} (hx : (ordM (keyM (l.map BoxM.d)) l.length)[k]? = some x) (hb : l[x]? = some b) : (shelfXs l)[k]? = some (b, x) := by
  simp [shelfXs, hx, boxAt_get hb]
theorem xs_mem {l : List BoxM} {y : BoxM × Nat} (h : y ∈ shelfXs l) : l[y.2]? = some y.1 := by
  obtain ⟨i, hi, rfl⟩ := List.mem_map.1 h
  rw [ordM_mem] at hi
  simp [boxAt, List.getD_eq_getElem?_getD, hi]
theorem box_in {p : PalletM} {b : BoxM} (h : boxOkM p b = true) : 1 ≤ b.w ∧ b.w ≤ p.w ∧ 1 ≤ b.d ∧ b.d ≤ p.d ∧ 1 ≤ b.h ∧ b.h ≤ p.h ∧ 1 ≤ b.g ∧ b.g ≤ p.g := by
  simp only [boxOkM, inB, Bool.and_eq_true, decide_eq_true_eq] at h; omega
theorem shelf_bd {p : PalletM} {l : List BoxM} (hok : boxesOkM p l = true) (k : Nat) : ∀ t ∈ ((shelfXs l).take k).foldl (pileStep (shelfRoom p) shelfAdd shelfZ) [], 0 ≤ t.w ∧ t.w ≤ p.w ∧ 0 ≤ t.d ∧ t.d ≤ p.d ∧ 0 ≤ t.h ∧ t.h ≤ p.h ∧ 0 ≤ t.g ∧ t.g ≤ p.g := by
  refine pile_inv _ _ (fun x hx => ?_) zD
  have hx' : x.1 ∈ l := List.mem_of_getElem? (xs_mem (List.mem_of_mem_take hx))
  simp only [boxesOkM, Bool.and_eq_true, List.all_eq_true] at hok
  have hh := box_in (hok.2 x.1 hx')
  refine ⟨by simp only [shelfAdd, shelfZ]; omega, fun t ht hr => ?_⟩
  simp only [shelfRoom, Bool.and_eq_true, decide_eq_true_eq] at hr
  simp only [shelfAdd]; omega
theorem shelves_len (p : PalletM) (l : List BoxM) : (shelvesM p l).length ≤ l.length := by
  unfold shelvesM; split
  · have := pile_len (room := shelfRoom p) (add := shelfAdd) (z := shelfZ) (shelfXs l) []
    rw [xs_len] at this; simpa [pile] using this
  · simp
theorem shelf_end {p : PalletM} {l : List BoxM} {m : List ShelfM} {k : Nat} (hok : boxesOkM p l = true) (hM : m = ((shelfXs l).take k).foldl (pileStep (shelfRoom p) shelfAdd shelfZ) []) (hk : ¬ k < l.length) : m = shelvesM p l := by
  rw [hM, shelvesM, if_pos hok, List.take_of_length_le (by rw [xs_len]; omega)]; rfl
theorem shelf_no {p : PalletM} {l : List BoxM} (hok : boxesOkM p l = false) : shelvesM p l = [] := by rw [shelvesM, hok]; rfl
theorem dsnoc {l : List BoxM} {k : Nat} {b : BoxM} (h : l[k]? = some b) : ((l.take k).map BoxM.d).map icell ++ [[.int .i64 b.d]] = ((l.take (k + 1)).map BoxM.d).map icell := by
  rw [List.take_add_one, h]; simp [icell]
/-- Whether a unit is there. -/
def hereM (r : ReqM) (u : Int) : Bool := inB u 0 (((unitsM r).length : Int) - 1)
/-- The units that are there. -/
def thereM (r : ReqM) (us : List Int) : List Int := us.filter (hereM r)
theorem thereM_len (r : ReqM) (us : List Int) : (thereM r us).length ≤ us.length := List.length_filter_le _ _
theorem thereM_no {r : ReqM} (h : ¬ classM r = 0) (us : List Int) : thereM r us = [] := by
  refine List.filter_eq_nil_iff.2 (fun u _ => ?_)
  simp only [hereM, unitsM_no h, inB, List.length_nil, Bool.and_eq_true, decide_eq_true_eq]
  omega
/-- Whether units are at most what the master carton holds. -/
def holdsM (r : ReqM) (us : List Int) : Bool := decide (volUS r us ≤ volM (mst r).w (mst r).h (mst r).d) && decide (gramM r us ≤ (mst r).g)
/-- Whether there is room for a unit more. -/
def roomM (r : ReqM) (g : List Int) (u : Int) : Bool := decide (classM r = 0) && holdsM r (g ++ [u])
theorem room_yes {r : ReqM} (h : classM r = 0) (g : List Int) (u : Int) : roomM r g u = holdsM r (g ++ [u]) := by rw [roomM, decide_eq_true h, Bool.true_and]
/-- x is put into the last list if p holds of it, or into a list of its own. -/
def lastM (p : List Int → Bool) (l : List (List Int)) (x : Int) : List (List Int) := match l.getLast? with
  | some g => if p g then l.set (l.length - 1) (g ++ [x]) else l ++ [[x]]
  | none => l ++ [[x]]
theorem last_nil {p : List Int → Bool} {l : List (List Int)} {x : Int} (h : l.length = 0) : lastM p l x = l ++ [[x]] := by
  rw [List.length_eq_zero_iff.1 h]; rfl
theorem last_no {p : List Int → Bool} {l : List (List Int)} {k : Nat} {b : List Int} {x : Int} (hb : l[k]? = some b) (hk : l.length = k + 1) (h : p b = false) : lastM p l x = l ++ [[x]] := by
  have e : l.getLast? = some b := by rw [List.getLast?_eq_getElem?, hk, ← hb]; rfl
  rw [lastM, e]; simp only [h]; rfl
theorem last_yes {p : List Int → Bool} {l : List (List Int)} {k : Nat} {b : List Int} {x : Int} (hb : l[k]? = some b) (hk : l.length = k + 1) (h : p b = true) : lastM p l x = l.set k (b ++ [x]) := by
  have e : l.getLast? = some b := by rw [List.getLast?_eq_getElem?, hk, ← hb]; rfl
  rw [lastM, e]; simp only [h, if_true]; rw [hk]; rfl
def lastAll (p : List Int → Int → Bool) (l : List Int) : List (List Int) := l.foldl (fun out x => lastM (fun g => p g x) out x) []
theorem lastAll_next {p : List Int → Int → Bool} {l : List Int} {k : Nat} {x : Int} (h : l[k]? = some x) : lastAll p (l.take (k + 1)) = lastM (fun g => p g x) (lastAll p (l.take k)) x := foldl_take_succ h _ []
theorem sum_set : ∀ {l : List (List Int)} {k : Nat} {b : List Int} (x : Int), l[k]? = some b → ((l.set k (b ++ [x])).map List.length).sum = (l.map List.length).sum + 1
  | [], k, b, x, h => by simp at h
  | a :: r, 0, b, x, h => by
    simp at h; subst h
    simp only [List.set_cons_zero, List.map_cons, List.sum_cons, List.length_append, List.length_singleton]; omega
  | a :: r, k + 1, b, x, h => by
    simp only [List.getElem?_cons_succ] at h
    have := sum_set x h
    simp only [List.set_cons_succ, List.map_cons, List.sum_cons]; omega
theorem last_sum (p : List Int → Bool) (x : Int) (l : List (List Int)) : ((lastM p l x).map List.length).sum = (l.map List.length).sum + 1 := by
  unfold lastM
  split
  · rename_i g hg
    rw [List.getLast?_eq_getElem?] at hg
    split
    · exact sum_set x hg
    · simp
  · simp
theorem last_lenle (p : List Int → Bool) (x : Int) (l : List (List Int)) : (lastM p l x).length ≤ l.length + 1 := by
  unfold lastM
  split
  · split
    · simp
    · simp
  · simp
theorem lastAll_sumG (p : List Int → Int → Bool) : ∀ (l : List Int) (out : List (List Int)), ((l.foldl (fun out x => lastM (fun g => p g x) out x) out).map List.length).sum = (out.map List.length).sum + l.length
  | [], out => by simp
  | x :: r, out => by
    rw [List.foldl_cons, lastAll_sumG p r, last_sum, List.length_cons]; omega
theorem lastAll_lenG (p : List Int → Int → Bool) : ∀ (l : List Int) (out : List (List Int)), (l.foldl (fun out x => lastM (fun g => p g x) out x) out).length ≤ out.length + l.length
  | [], out => by simp
  | x :: r, out => by
    have h1 := lastAll_lenG p r (lastM (fun g => p g x) out x)
    have h2 := last_lenle (fun g => p g x) x out
    rw [List.foldl_cons, List.length_cons]; omega
theorem lastAll_sum (p : List Int → Int → Bool) (l : List Int) : ((lastAll p l).map List.length).sum = l.length := by rw [lastAll, lastAll_sumG]; simp
theorem lastAll_len (p : List Int → Int → Bool) (l : List Int) : (lastAll p l).length ≤ l.length := by have := lastAll_lenG p l []; simpa [lastAll] using this
theorem lastAll_at {p : List Int → Int → Bool} {l : List Int} {q : Nat} {g : List Int} (h : (lastAll p l)[q]? = some g) : g.length ≤ l.length := by
  have := len_le_sum (List.mem_of_getElem? h); rwa [lastAll_sum] at this
/-- The cartons of next fit. -/
def nextM (r : ReqM) (us : List Int) : List (List Int) := lastAll (roomM r) (thereM r us)
/-- Units by their volume, the greatest first. -/
def ordU (r : ReqM) (t : List Int) : List Int := (ordM (keyM (t.map (vOf r))) t.length).map (fun i => t.getD i 0)
theorem ordU_at {r : ReqM} {t : List Int} {k x : Nat} {u : Int} (hx : (ordM (keyM (t.map (vOf r))) t.length)[k]? = some x) (hu : t[x]? = some u) : (ordU r t)[k]? = some u := by
  rw [ordU, List.getElem?_map, hx, Option.map_some, List.getD_eq_getElem?_getD, hu]; rfl
theorem ordU_len (r : ReqM) (t : List Int) : (ordU r t).length = t.length := by rw [ordU, List.length_map, ordM_len]
/-- The cartons of first fit. -/
def firstM (r : ReqM) (us : List Int) : List (List Int) := putAll (roomM r) (ordU r (thereM r us))
end Go.Proofs.YtglpgohilfoecaaGreat

/-
  Numbers that are struck out of a list; the units that are there.
-/
namespace Go.Proofs.YtglpgohilfoecaaGreat
open Go.RowKit
attribute [local irreducible] Go.wpList Go.Code.wp Go.Exit.then Go.Exit.inBlock Go.bodyPost Go.Calls pE pB G RunsV FnV Fn FnM
set_option maxRecDepth 100000
set_option maxHeartbeats 4000000
def keptM (p : Int → Bool) (l : List Int) (j : Nat) : List Int := (l.take j).filter fun x => !p x
theorem kept_yes {p : Int → Bool} {l : List Int} {j : Nat} {b : Int} (hb : l[j]? = some b) (h : (!p b) = true) : keptM p l (j + 1) = keptM p l j ++ [b] := by
  simp only [keptM, List.take_add_one, hb, Option.toList_some, List.filter_append, List.filter_cons, h, List.filter_nil, if_true]
theorem kept_no {p : Int → Bool} {l : List Int} {j : Nat} {b : Int} (hb : l[j]? = some b) (h : (!p b) = false) : keptM p l (j + 1) = keptM p l j := by
  simp [keptM, List.take_add_one, hb, List.filter_append, List.filter_cons, h]
theorem kept_len (p : Int → Bool) (l : List Int) (j : Nat) : (keptM p l j).length ≤ j := by
  have h1 := List.length_filter_le (fun x => !p x) (l.take j)
  have h2 := List.length_take_le j l
  rw [keptM]; omega
theorem kept_all {p : Int → Bool} {l : List Int} {j : Nat} (h : l.length ≤ j) : keptM p l j = l.filter fun x => !p x := by rw [keptM, List.take_of_length_le h]
theorem kept_first {p : Int → Bool} {l : List Int} {k : Nat} {b : Int} (h : (l.take k).any p = false) (hb : l[k]? = some b) (hp : p b = true) : keptM p l (k + 1) = l.take k := by
  rw [kept_no hb (by rw [hp]; rfl), keptM, List.filter_eq_self.2 (fun x hx => by have := List.any_eq_false.1 h x hx; simpa using this)]
/-- The row while numbers are struck out of it. -/
def keptRow (p : Int → Bool) (l : List Int) (j : Nat) : List Int := keptM p l j ++ l.drop (keptM p l j).length
theorem keptRow_len {p : Int → Bool} {l : List Int} {j : Nat} (h : j ≤ l.length) : (keptRow p l j).length = l.length := by
  have := kept_len p l j
  rw [keptRow, List.length_append, List.length_drop]; omega
theorem keptRow_get {p : Int → Bool} {l : List Int} {j i : Nat} (h : (keptM p l j).length ≤ i) : (keptRow p l j)[i]? = l[i]? := by
  rw [keptRow, List.getElem?_append_right h, List.getElem?_drop]; congr 1; omega
theorem keptRow_set {p : Int → Bool} {l : List Int} {j : Nat} {b : Int} (hb : l[j]? = some b) (h : (!p b) = true) : (keptRow p l j).set (keptM p l j).length b = keptRow p l (j + 1) := by
  have hk := (List.getElem?_eq_some_iff.1 hb).1
  have hl := kept_len p l j
  rw [keptRow, keptRow, kept_yes hb h, List.set_append_right _ _ (Nat.le_refl _), Nat.sub_self, List.length_append, List.append_assoc]
  congr 1
  rw [List.drop_eq_getElem_cons (show (keptM p l j).length < l.length by omega), List.set_cons_zero]
  rfl
theorem kept_cut {p : Int → Bool} {l : List Int} {j q : Nat} {z : List Value} : ((((keptRow p l j).map icell).take (keptM p l j).length) ++ List.replicate q z).take (keptM p l j).length = (keptM p l j).map icell := by
  have e : ((keptRow p l j).map icell).take (keptM p l j).length = (keptM p l j).map icell := by
    rw [← List.map_take, keptRow, List.take_left']; rfl
  rw [e, List.take_left']; simp
theorem kept_begin {p : Int → Bool} {l : List Int} {k : Nat} {b : Int} (h : (l.take k).any p = false) (hb : l[k]? = some b) (hp : p b = true) : keptRow p l (k + 1) = l := by
  have hk := (List.getElem?_eq_some_iff.1 hb).1
  rw [keptRow, kept_first h hb hp, List.length_take, Nat.min_eq_left zb, List.take_append_drop]
section
variable {w0 : World} {F : List Ch} {v : Value}
theorem deleteFunc_any {g : Nat} [FnOk Tryz.prog g] {cap : List Value} {l : List Int} {p : Int → Bool} (hn : l.length ≤ 1048576) (hf : ∀ (w' : World) (x : Int), HeapOk w0 w' F → FnV Tryz.prog g ([.int .i64 x] ++ cap) w' (.bool (p x))) :
    FnMF Tryz.prog 199 [v, .func (.func g) #[] cap.toArray] w0 [.row v 3 1 (l.map icell)] F (fun x : Value => x.oneCell' = true) (fun x => x) (fun x => [.row x 3 1 ((l.filter fun x => !p x).map icell)]) := by
  have hln : (l.map icell).length = l.length := by simp
  refine FnMF.of (n := 42) Tryz.func199 rfl rfl ?_; refine zbW (fun hone => ?_); refine zfP ?_; refine G.op (og_callV rfl rfl (fun w hh => indexInt_any (l := l) (p := p) w (Rd.owned 0 rfl _ hh) (fun w' k b hw _ => hf w' b ((hh.call hw).sublist (List.sublist_cons_self _ _))))) rfl (fun _ _ => ?_); refine zfb ?_; refine zdy ?_; refine G.condD rfl (fun hc => ?_) (fun hc => ?_)
  have hall : l.filter (fun x => !p x) = l := (by rcases idx_cases p l with ⟨_, e⟩ | ⟨k, b, e, _⟩; (exact List.filter_eq_self.2 (fun x hx => by have := List.any_eq_false.1 e x hx; simpa using this)); (exfalso; omega))
  refine zbp ?_; refine G.thenR ?_
  exact G.retF v hone rfl rfl rfl (fun w hw => by rw [hall]; exact hw)
  · obtain ⟨k0, b0, hq, hb0, hp0, hbt⟩ : ∃ (k : Nat) (b : Int), idxM p l = (k : Int) ∧ l[k]? = some b ∧ p b = true ∧ (l.take k).any p = false := (by rcases idx_cases p l with ⟨e, _⟩ | e; (exfalso; omega); (exact e))
    have hk0 := (List.getElem?_eq_some_iff.1 hb0).1
    refine zc1 ?_; refine zeA ?_; refine zcd ?_; refine zaL ?_; refine G.block (G.rowEq ((keptRow p l (k0 + 1)).map icell) (by rw [kept_begin hbt hb0 hp0]) rfl ?_)
    have hD0 : (keptM p l (k0 + 1)).length = k0 := by rw [kept_first hbt hb0 hp0, List.length_take]; omega
    refine G.loopK (ι := Nat) (ks := [0, 1]) (fun j => [(5, .int .i64 ((keptM p l j).length : Int)), (6, .int .i64 (j : Int))]) (fun j => [.row v 3 1 ((keptRow p l j).map icell)]) (fun j => j ≤ l.length ∧ (keptM p l j).length + 1 ≤ j) (fun j => l.length - j) (k0 + 1) (.cons rfl (.cons rfl (.nil))) rfl ?_ ?_ ?_
    exact ⟨by omega, by rw [hD0]; omega⟩
    exact ⟨congrArg (fun z => some (Value.int .i64 z)) (by rw [hD0]; exact hq), congrArg (fun z => some (Value.int .i64 z)) (by rw [hq]; rfl), trivial⟩
    rintro j ⟨hj, hD⟩
    have hrl := keptRow_len (p := p) hj
    have hrl2 : ((keptRow p l j).map icell).length = l.length := by rw [List.length_map, hrl]
    by_cases hlt : j < l.length
    case' pos => (obtain ⟨b, hb⟩ := get_of_lt hlt; have e1 : ((keptRow p l j).map icell)[j]? = some (icell b) := get_map (by rw [keptRow_get zb]; exact hb) icell; obtain ⟨c3, hc3⟩ := get_of_lt (l := keptRow p l j) (k := (keptM p l j).length) zb; have e3 := get_map hc3 icell)
    all_goals
     refine zcu ?_; refine zde ?_; refine zaT ?_; refine G.cond rfl (fun hc => ?_) (fun hc => ?_)
     · all_goals
        replace hc := of_decide_eq_true hc
        simp only [List.length_map] at hc
        try (exfalso; omega)
        all_goals
         refine za3 ?_; refine zaZ ?_; refine G.v (rv_indexH rfl rfl zg rfl zE) rfl ?_; refine G.v (rv_loadE rfl zg zE rfl) rfl ?_; refine zcQ ?_; refine G.op (og_callV rfl rfl (fun w hh => hf w b (hh.drop 1))) rfl (fun _ _ => ?_); refine zcI ?_; refine G.cond rfl (fun hc => ?_) (fun hc => ?_)
         · all_goals
            all_goals
             refine zaZ ?_; refine zaM ?_; refine G.v (rv_indexH rfl rfl zg rfl zal) rfl ?_; refine G.op0 (og_stE0 rfl rfl rfl zal rfl rfl rfl rfl (.zero (.cons .nil))) (fun _ _ => ?_); refine zbe ?_; refine zbX ?_; refine zaO ?_; refine G.backK (j + 1) 0 (by exact one_eq (congrArg (fun z => Ch.row v 3 1 z) ((List.map_set (f := icell)).symm.trans (congrArg (List.map icell) (keptRow_set hb hc))))) (.cons rfl (.cons rfl (.nil))) ?_ ?_ ?_
             exact ⟨congrArg (fun z : Nat => some (Value.int .i64 (z : Int))) (by rw [kept_yes hb hc, List.length_append]; rfl), rfl, trivial⟩
             refine ⟨by omega, ?_⟩; (rw [kept_yes hb hc, List.length_append]; simp; omega)
             omega
         · all_goals
            all_goals
             refine zfL ?_; refine G.backK (j + 1) 0 (by (exact one_eq (congrArg (fun z : List Int => Ch.row v 3 1 (z.map icell)) (show keptRow p l j = keptRow p l (j + 1) by simp only [keptRow]; rw [kept_no hb hc])))) (.cons rfl (.cons rfl (.nil))) ?_ ?_ ?_
             exact ⟨congrArg (fun z : Nat => some (Value.int .i64 (z : Int))) (by rw [kept_no hb hc]), rfl, trivial⟩
             refine ⟨by omega, ?_⟩; (rw [kept_no hb hc]; omega)
             omega
     · all_goals
        replace hc := of_decide_eq_false hc
        simp only [List.length_map] at hc
        try (exfalso; omega)
        all_goals
         refine zaW ?_; refine zaZ ?_; refine G.v (rv_sliceL rfl rfl zg zb) rfl ?_; refine G.op0 (og_clear0 ((keptM p l j).length) rfl rfl rfl zb rfl) (fun _ _ => ?_); refine zbe ?_; refine zaZ ?_; refine G.v (rv_sliceH rfl rfl (Rd.owned 0 rfl) z8) rfl ?_; refine zco ?_; refine G.cutRow (keptM p l j).length z8 rfl ?_; refine zbW (fun hone2 => ?_); exact G.retF _ hone2 rfl rfl rfl (fun w hw => by rw [kept_cut] at hw; rw [← kept_all (p := p) (l := l) (j := j) zb]; exact hw)
end
theorem thereOf1_any (x : Int) (n : Nat) {q : Nat} (w : World) (h : Rd w (.slice (some ⟨q, 0, none⟩) 1 1) 1 [[.int .i64 (n : Int)]]) (hn : n ≤ 1048576) : FnV Tryz.prog 201 [.int .i64 x, pB q 0] w (.bool (!inB x 0 ((n : Int) - 1))) := by
  rw [pB_eq_pE q 1]
  refine FnV.of (n := 9) Tryz.func201 rfl rfl ?_; refine zaR ?_; refine zaN ?_; refine zbY ?_; refine zdf ?_; refine za9 (fun _ _ => ?_); refine zbB ?_; refine zco ?_
  exact G.retFV rfl rfl rfl
theorem req_all {r : ReqM} {pv tv iv : Value} (h : pv.oneCell' = true) (h2 : tv.oneCell' = true) (h3 : iv.oneCell' = true) : (r.cells pv tv iv).all Value.oneCell' = true := by
  simp only [ReqM.cells, List.all_cons, List.all_nil, Bool.and_true, h, h2, h3]; rfl
theorem there_eq {r : ReqM} {us : List Int} {n : Nat} (hn : n = (unitsM r).length) : us.filter (fun x => !(!inB x 0 ((n : Int) - 1))) = thereM r us := by
  subst hn
  rw [thereM]
  refine List.filter_congr (fun x _ => ?_)
  rw [Bool.not_not]; rfl
theorem thereOf_any {r : ReqM} {pv tv iv uv : Value} {us : List Int} (w : World) (h : Rd w pv 2 (r.pairs.map PairM.cells)) (h2 : Rd w tv 7 (r.types.map TypeM.cells)) (h3 : Rd w iv 7 (r.items.map ItemM.cells)) (h4 : Rd w uv 1 (us.map icell)) (hul : us.length ≤ 1048576) :
    Fn Tryz.prog 139 [.agg (r.cells pv tv iv).toArray, uv] w (fun v : Value => v.oneCell' = true) (fun v => v) (fun v => [.row v 3 1 ((thereM r us).map icell)]) := by
  have hun := unitsM_len r
  have hun2 : ((unitsM r).map ncell).length = (unitsM r).length := by simp
  refine Fn.of (n := 13) Tryz.func139 rfl rfl ?_; refine zaU (fun bk2 _ => ?_); refine zf9 ?_; refine zed ?_; rintro vu hvu; try dsimp only
  refine zde ?_; refine zbu (fun bk5 _ => ?_); refine zei (fun _ _ => ?_); refine zeC ?_; refine G.op (og_callF1 rfl rfl (fun w hh => clone_any w (Rd.stays h4 _ hh) hul)) rfl ?_; rintro v1 hv1; try dsimp only
  refine zdN ?_
  (refine G.frontR0 (v1) rfl ?_); refine G.op (og_callMM1 rfl rfl rfl (deleteFunc_any (l := us) (p := fun x => !inB x 0 ((((unitsM r).map ncell).length : Int) - 1)) hul (fun w' x hw => thereOf1_any x ((unitsM r).map ncell).length w' (by exact Rd.ofBlk 0 rfl rfl w' hw) zb))) rfl ?_; rintro v2 hv2; try dsimp only
  refine zco ?_
  exact G.retF v2 hv2 rfl rfl rfl (fun w hw => by rw [there_eq hun2] at hw; exact hw.sublist (by repeat (first | exact List.Sublist.refl _ | refine List.Sublist.cons_cons _ ?_ | refine List.Sublist.cons _ ?_)))
theorem known_yes {r : ReqM} {us : List Int} {k : Nat} {u : Int} (hb : us[k]? = some u) (h : hereM r u = true) : (thereM r (us.take k)).map icell ++ [[.int .i64 u]] = (thereM r (us.take (k + 1))).map icell := by
  simp [thereM, List.take_add_one, hb, List.filter_append, List.filter_cons, h, icell]
theorem known_no {r : ReqM} {us : List Int} {k : Nat} {u : Int} (hb : us[k]? = some u) (h : hereM r u = false) : (thereM r (us.take k)).map icell = (thereM r (us.take (k + 1))).map icell := by
  simp [thereM, List.take_add_one, hb, List.filter_append, List.filter_cons, h]
theorem l7Known_any {r : ReqM} {av uv : Value} {us : List Int} (w : World) (h5 : Rd w av 1 ((unitsM r).map ncell)) (h4 : Rd w uv 1 (us.map icell)) (hul : us.length ≤ 1048576) :
    Fn Tryz.prog 194 [av, uv] w (fun v : Value => v.oneCell' = true) (fun v => v) (fun v => [.row v 3 1 ((thereM r us).map icell)]) := by
  have hun := unitsM_len r
  have hun2 : ((unitsM r).map ncell).length = (unitsM r).length := by simp
  have hul2 : (us.map icell).length = us.length := by simp
  refine Fn.of (n := 30) Tryz.func194 rfl rfl ?_; refine zaR ?_; refine za6 (fun vl _ => ?_); refine zd8 ?_; refine G.loopK (ι := Nat × Value) (ks := [0, 1]) (fun x => [(5, x.2), (6, .int .i64 (x.1 : Int))]) (fun x => [.row x.2 3 1 ((thereM r (us.take x.1)).map icell)]) (fun x => x.1 ≤ us.length) (fun x => us.length - x.1) (0, vl) (.cons rfl (.cons rfl (.nil))) rfl ?_ ?_ ?_
  exact Nat.zero_le _
  exact ⟨rfl, rfl, trivial⟩
  rintro ⟨k, v⟩ hk
  dsimp only at hk ⊢
  have hil := thereM_len r (us.take k)
  have hil2 : ((thereM r (us.take k)).map icell).length = (thereM r (us.take k)).length := by simp
  rw [List.length_take] at hil
  by_cases hlt : k < us.length
  case' pos => (obtain ⟨u, hb⟩ := get_of_lt hlt; have e1 := get_map hb icell)
  all_goals
   refine zcu ?_; refine zcW ?_; refine G.cond rfl (fun hc => ?_) (fun hc => ?_)
   · all_goals
      replace hc := of_decide_eq_true hc
      simp only [hul2] at hc
      try (exfalso; omega)
      all_goals
       refine za3 ?_; refine zaZ ?_; refine zfp ?_; refine zaM ?_; refine zbg ?_; refine zdf ?_; refine zbf (fun _ _ => ?_); refine zbe ?_; refine G.cond rfl (fun hc => ?_) (fun hc => ?_)
       · all_goals
          all_goals
           have hhe : hereM r u = true := by rw [hereM, ← hun2]; exact hc
           all_goals
            refine zdH ?_; refine zfp ?_; refine za2 (fun vx _ => ?_); refine zbI (fun va _ => ?_); refine zbb ?_; refine zaO ?_; refine G.backK (k + 1, va) 1 (by exact one_eq (congrArg (fun z => Ch.row va 3 1 z) (known_yes hb hhe))) (.cons rfl (.cons rfl (.nil))) (⟨rfl, rfl, trivial⟩) ?_ ?_
            exact hlt
            dsimp only; omega
       · all_goals
          all_goals
           have hhe : hereM r u = false := by rw [hereM, ← hun2]; exact hc
           all_goals
            refine zfL ?_; refine G.backK (k + 1, v) 0 (by exact one_eq (congrArg (fun z => Ch.row v 3 1 z) (known_no hb hhe))) (.cons rfl (.cons rfl (.nil))) (⟨rfl, rfl, trivial⟩) ?_ ?_
            exact hlt
            dsimp only; omega
   · all_goals
      replace hc := of_decide_eq_false hc
      simp only [hul2] at hc
      try (exfalso; omega)
      all_goals
       refine zcX ?_; refine G.know (fun w hw => (Rd.owned 0 rfl w hw).one_) (fun hone => G.retF v hone rfl rfl rfl (fun w hw => by rw [take_all (l := us) zb] at hw; exact hw.sublist zaI))
def withinT (r : ReqM) (us : List Int) (t : TypeM) : Bool := decide (volUS r us ≤ volM t.w t.h t.d) && decide (gramM r us ≤ t.g)
theorem within_mst (r : ReqM) (us : List Int) : withinT r us (mst r) = holdsM r us := rfl
theorem snoc_cells (g : List Int) (u : Int) : g.map icell ++ [[Value.int .i64 u]] = (g ++ [u]).map icell := by simp [icell]
section
variable {r : ReqM} {pv tv iv uv : Value} {us : List Int} (w : World) (h : Rd w pv 2 (r.pairs.map PairM.cells)) (h2 : Rd w tv 7 (r.types.map TypeM.cells)) (h3 : Rd w iv 7 (r.items.map ItemM.cells)) (h4 : Rd w uv 1 (us.map icell))
include h h2 h3 h4
theorem within_any (hul : us.length ≤ 1048576) (t : TypeM) : FnV Tryz.prog 143 [.agg (r.cells pv tv iv).toArray, uv, t.val] w (.bool (withinT r us t)) := by
  refine FnV.of (n := 26) Tryz.func143 rfl rfl ?_; refine zaU (fun bk3 _ => ?_); refine zdc (fun bk5 _ => ?_); refine zbk ?_; refine G.drawL [19] ?_; refine GE.q 0 rfl za rfl (qg_runs (rv_loadW 1 rfl rfl rfl)) rfl ?_; refine zc7 ?_; refine GE.q 2 rfl za rfl (qg_call rfl rfl (fun w hh => volumeOf_any (r := r) (us := us) w (Rd.stays h _ hh) (Rd.stays h2 _ hh) (Rd.stays h3 _ hh) (Rd.stays h4 _ hh) hul)) rfl ?_; refine GE.q 3 rfl za rfl (qg_runs (rv_field rfl)) rfl ?_; refine GE.q 4 rfl za rfl (qg_runs (rv_load1 0 rfl rfl rfl)) rfl ?_; refine GE.q 5 rfl za rfl (qg_runs (rv_field rfl)) rfl ?_; refine GE.q 6 rfl za rfl (qg_runs (rv_load1 0 rfl rfl rfl)) rfl ?_; refine GE.ol 7 za rfl rfl (og_runs (rv_field rfl)) rfl zd (fun _ _ => ?_); refine GE.ol 8 za rfl rfl (og_runs (rv_load1 0 rfl rfl rfl)) rfl zd (fun _ _ => ?_); refine GE.ol 9 za rfl rfl (og_callV rfl rfl (fun w hh => volume_any t.w t.h t.d w)) rfl zd (fun _ _ => ?_)
  refine GE.ol 10 za rfl rfl (og_runs (rv_leq rfl rfl)) rfl zd (fun _ _ => ?_); refine GE.ol 11 za rfl rfl (og_runs (rv_move rfl)) rfl zd (fun _ _ => ?_)
  (with_reducible refine GE.part (t := 18) rfl (fun hg => ?_) (fun hg => ?_)) <;> (try exact Bool.noConfusion hg) <;> (first | (refine GE.q 12 rfl za rfl (qg_runs (rv_loadW 1 rfl rfl rfl)) rfl ?_) | refine zdq ?_)
  all_goals ((first | refine GE.q 13 rfl za rfl (qg_runs (rv_move rfl)) rfl ?_ | refine zdr ?_))
  all_goals ((first | refine GE.q 14 rfl za rfl (qg_call rfl rfl (fun w hh => gramOf_any (r := r) (us := us) w (Rd.stays h _ hh) (Rd.stays h2 _ hh) (Rd.stays h3 _ hh) (Rd.stays h4 _ hh) hul)) rfl ?_ | refine zey ?_))
  all_goals ((first | (refine GE.q 15 rfl za rfl (qg_runs (rv_field rfl)) rfl ?_) | refine GE.qn 15 rfl za rfl rfl ?_))
  all_goals ((first | (refine GE.q 16 rfl za rfl (qg_runs (rv_load1 0 rfl rfl rfl)) rfl ?_) | refine GE.qn 16 rfl za rfl rfl ?_))
  all_goals ((first | refine GE.q 17 rfl za rfl (qg_runs (rv_leq rfl rfl)) rfl ?_ | refine zeh ?_))
  all_goals ((first | refine GE.ol 18 za rfl rfl (og_runs (rv_pickT rfl rfl)) rfl zd (fun _ _ => ?_) | refine GE.ol 18 za rfl rfl (og_runs (rv_pickF rfl rfl)) rfl zd (fun _ _ => ?_)))
  all_goals (refine GE.t 19 za rfl rfl rfl (og_runs (rv_assign rfl)) rfl (fun _ _ => ?_))
  all_goals
   refine zbm ?_; refine G.ret ?_
   first | (refine G.retFV rfl rfl (congrArg Value.bool ?_); simp_all [withinT]; done) | (refine G.retFV rfl rfl (congrArg Value.bool ?_); simp_all [withinT]; intro hq9; omega)
theorem room_yesW (hul : us.length + 1 ≤ 1048576) (u : Int) (hyes : classM r = 0) : FnV Tryz.prog 178 [.agg (r.cells pv tv iv).toArray, uv, .int .i64 u] w (.bool (roomM r us u)) := by
  have hul2 : (us.map icell).length = us.length := by simp
  refine FnV.of (n := 26) Tryz.func178 rfl rfl ?_; refine zaU (fun bk3 _ => ?_); refine zf9 ?_; refine zfw (fun _ _ => ?_); refine zbi (fun bk7 _ => ?_); refine zaV (fun _ _ => ?_); refine zbk ?_; refine G.drawL [12] ?_; refine GE.ol 0 za rfl rfl (og_runs (rv_loadW 1 rfl rfl rfl)) rfl zd (fun _ _ => ?_); refine GE.ol 1 za rfl rfl (og_callV rfl rfl (fun w hh => (sound_any (r := r) w (Rd.stays h _ hh) (Rd.stays h2 _ hh) (Rd.stays h3 _ hh)).mono (show Value.bool (decide (classM r = 0)) = Value.bool true by rw [decide_eq_true hyes]))) rfl zd (fun _ _ => ?_); refine zcl (fun _ _ => ?_); refine GE.q 3 rfl za rfl (qg_runs (rv_loadW 1 rfl rfl rfl)) rfl ?_
  refine zbU ?_; refine zdQ ?_; refine GE.q 9 rfl za rfl (qg_runs (rv_loadW 0 rfl rfl rfl)) rfl ?_; refine GE.any (rs := [5, 7]) za zD ?_; refine List.forall_mem_cons.2 ⟨?_, List.forall_mem_cons.2 ⟨?_, fun _ h => absurd h List.not_mem_nil⟩⟩
  focus
   refine GE.pickOp rfl rfl rfl (og_callF1 rfl rfl (fun w hh => clone_any (l := us) w (Rd.stays h4 _ hh) zb)) rfl zj ?_; rintro v1 hv1; try dsimp only
   refine zfM (fun vl _ => ?_); refine GE.ol 8 za rfl rfl (og_app1 rfl rfl rfl zg rfl rfl zh zh) rfl zf (fun va _ => ?_); refine GE.ol 10 za rfl rfl (og_callF0 rfl rfl (fun w hh => (within_any (r := r) (us := us ++ [u]) w (Rd.stays h _ hh) (Rd.stays h2 _ hh) (Rd.stays h3 _ hh) zQ zw (mst r)).toFn)) rfl zf ?_; rintro ⟨⟩ _; try dsimp only
   refine GE.ol 11 za rfl rfl (og_runs (rv_pickT rfl rfl)) rfl zf (fun _ _ => ?_); refine zc3 (fun _ _ => ?_); refine zb3 ?_
  rotate_left
  focus
   refine zcv (fun vl _ => ?_); refine GE.ol 5 za rfl rfl (og_callF1 rfl rfl (fun w hh => clone_any (l := us) w (Rd.stays h4 _ hh) zb)) rfl zf ?_; rintro v1 hv1; try dsimp only
   refine GE.ol 8 za rfl rfl (og_app0 rfl rfl rfl zi rfl rfl zh zh) rfl zf (fun va _ => ?_); refine GE.ol 10 za rfl rfl (og_callF0 rfl rfl (fun w hh => (within_any (r := r) (us := us ++ [u]) w (Rd.stays h _ hh) (Rd.stays h2 _ hh) (Rd.stays h3 _ hh) zav zw (mst r)).toFn)) rfl zf ?_; rintro ⟨⟩ _; try dsimp only
   refine GE.ol 11 za rfl rfl (og_runs (rv_pickT rfl rfl)) rfl zf (fun _ _ => ?_); refine zc3 (fun _ _ => ?_); refine zb3 ?_
  rotate_left
  all_goals
   refine G.thenN (G.ret ?_); refine G.retFV rfl rfl (congrArg Value.bool ?_); rw [room_yes hyes]; rfl
omit h4 in
theorem room_noW (u : Int) (hno : ¬ classM r = 0) : FnV Tryz.prog 178 [.agg (r.cells pv tv iv).toArray, uv, .int .i64 u] w (.bool (roomM r us u)) := by
  refine FnV.of (n := 26) Tryz.func178 rfl rfl ?_; refine zaU (fun bk3 _ => ?_); refine zf9 ?_; refine zfw (fun _ _ => ?_); refine zbi (fun bk7 _ => ?_); refine zaV (fun _ _ => ?_); refine zbk ?_; refine G.drawL [12] ?_; refine GE.ol 0 za rfl rfl (og_runs (rv_loadW 1 rfl rfl rfl)) rfl zd (fun _ _ => ?_); refine GE.ol 1 za rfl rfl (og_callV rfl rfl (fun w hh => (sound_any (r := r) w (Rd.stays h _ hh) (Rd.stays h2 _ hh) (Rd.stays h3 _ hh)).mono (show Value.bool (decide (classM r = 0)) = Value.bool false by rw [decide_eq_false hno]))) rfl zd (fun _ _ => ?_); refine zcl (fun _ _ => ?_); refine zfD ?_; refine zeI ?_
  refine zeJ ?_; refine zeK ?_; refine zeL ?_; refine zd9 ?_; refine zea ?_; refine zdT ?_; refine GE.ol 11 za rfl rfl (og_runs (rv_pickF rfl rfl)) rfl zd (fun _ _ => ?_); refine zc3 (fun _ _ => ?_); refine zbm ?_; refine G.ret ?_; refine G.retFV rfl rfl (congrArg Value.bool ?_); rw [roomM, decide_eq_false hno, Bool.false_and]
theorem room_any (hul : us.length + 1 ≤ 1048576) (u : Int) : FnV Tryz.prog 178 [.agg (r.cells pv tv iv).toArray, uv, .int .i64 u] w (.bool (roomM r us u)) := by
  by_cases hc : classM r = 0
  · exact room_yesW w h h2 h3 h4 hul u hc
  · exact room_noW w h h2 h3 u hc
omit h h2 in
theorem l7Room_any (hul : us.length + 1 ≤ 1048576) (t : TypeM) (u : Int) {av : Value} (h5 : Rd w av 1 ((unitsM r).map ncell)) : FnV Tryz.prog 235 [.agg (r.cells pv tv iv).toArray, av, t.val, uv, .int .i64 u] w (.bool (withinT r (us ++ [u]) t)) := by
  have hul2 : (us.map icell).length = us.length := by simp
  refine FnV.of (n := 38) Tryz.func235 rfl rfl ?_; refine zaU (fun bk5 _ => ?_); refine zdc (fun bk7 _ => ?_); refine zbk ?_; refine G.drawL [10] ?_; refine GE.q 0 rfl za rfl (qg_runs (rv_loadW 1 rfl rfl rfl)) rfl ?_; refine zc7 ?_; refine zbO ?_; refine zet ?_; refine GE.any (rs := [2, 6, 9]) za zD ?_; refine List.forall_mem_cons.2 ⟨?_, List.forall_mem_cons.2 ⟨?_, List.forall_mem_cons.2 ⟨?_, fun _ h => absurd h List.not_mem_nil⟩⟩⟩
  focus
   refine zc9 (fun vz _ => ?_); refine GE.any (rs := [4, 6, 9]) za zD ?_; refine List.forall_mem_cons.2 ⟨?_, List.forall_mem_cons.2 ⟨?_, List.forall_mem_cons.2 ⟨?_, fun _ h => absurd h List.not_mem_nil⟩⟩⟩
   focus
    refine GE.pickOp rfl rfl rfl (og_app0 rfl rfl rfl ze rfl rfl zh zh) rfl zj (fun vy _ => ?_); refine GE.any (rs := [6, 9]) za zD ?_; refine List.forall_mem_cons.2 ⟨?_, List.forall_mem_cons.2 ⟨?_, fun _ h => absurd h List.not_mem_nil⟩⟩
    focus
     refine zca (fun vx _ => ?_); refine GE.any (rs := [7, 9]) za zD ?_; refine List.forall_mem_cons.2 ⟨?_, List.forall_mem_cons.2 ⟨?_, fun _ h => absurd h List.not_mem_nil⟩⟩
     focus
      refine GE.pickOp rfl rfl rfl (og_app1 rfl rfl rfl zg rfl rfl zh zh) rfl zf (fun va _ => ?_); refine GE.any (rs := [8, 9]) za zD ?_; refine List.forall_mem_cons.2 ⟨?_, List.forall_mem_cons.2 ⟨?_, fun _ h => absurd h List.not_mem_nil⟩⟩
      focus
       refine zfU ?_; rintro ⟨⟩ _; try dsimp only
       refine GE.ol 9 za rfl rfl (og_alloc) rfl zk (fun bk11 _ => ?_); refine zbC (fun _ _ => ?_); refine zb3 ?_
      rotate_left
      focus
       refine zdP (fun bk11 _ => ?_); refine zbv ?_; rintro ⟨⟩ _; try dsimp only
       refine zbC (fun _ _ => ?_); refine zb3 ?_
      rotate_left
     rotate_left 2
     focus
      refine zdP (fun bk11 _ => ?_); refine GE.ol 7 za rfl rfl (og_app2 rfl rfl rfl zi rfl rfl zh zh) rfl zk (fun va _ => ?_); refine zbv ?_; rintro ⟨⟩ _; try dsimp only
      refine zbC (fun _ _ => ?_); refine zb3 ?_
     rotate_left
    rotate_left 3
    focus
     refine zdp (fun bk11 _ => ?_); refine zfN (fun vx _ => ?_); refine GE.ol 7 za rfl rfl (og_app2 rfl rfl rfl zg rfl rfl zh zh) rfl zk (fun va _ => ?_); refine zbv ?_; rintro ⟨⟩ _; try dsimp only
     refine zd1 (fun _ _ => ?_); refine zb3 ?_
    rotate_left
   rotate_left 4
   focus
    refine zca (fun vx _ => ?_); refine GE.any (rs := [4, 9]) za zD ?_; refine List.forall_mem_cons.2 ⟨?_, List.forall_mem_cons.2 ⟨?_, fun _ h => absurd h List.not_mem_nil⟩⟩
    focus
     refine GE.pickOp rfl rfl rfl (og_app1 rfl rfl rfl ze rfl rfl zh zh) rfl zf (fun vy _ => ?_); refine GE.any (rs := [7, 9]) za zD ?_; refine List.forall_mem_cons.2 ⟨?_, List.forall_mem_cons.2 ⟨?_, fun _ h => absurd h List.not_mem_nil⟩⟩
     focus
      refine GE.pickOp rfl rfl rfl (og_app1 rfl rfl rfl zg rfl rfl zh zh) rfl zf (fun va _ => ?_); refine GE.any (rs := [8, 9]) za zD ?_; refine List.forall_mem_cons.2 ⟨?_, List.forall_mem_cons.2 ⟨?_, fun _ h => absurd h List.not_mem_nil⟩⟩
      focus
       refine zfU ?_; rintro ⟨⟩ _; try dsimp only
       refine GE.ol 9 za rfl rfl (og_alloc) rfl zk (fun bk11 _ => ?_); refine zbC (fun _ _ => ?_); refine zb3 ?_
      rotate_left
      focus
       refine zdP (fun bk11 _ => ?_); refine zbv ?_; rintro ⟨⟩ _; try dsimp only
       refine zbC (fun _ _ => ?_); refine zb3 ?_
      rotate_left
     rotate_left 2
     focus
      refine zdP (fun bk11 _ => ?_); refine GE.ol 7 za rfl rfl (og_app2 rfl rfl rfl zi rfl rfl zh zh) rfl zk (fun va _ => ?_); refine zbv ?_; rintro ⟨⟩ _; try dsimp only
      refine zbC (fun _ _ => ?_); refine zb3 ?_
     rotate_left
    rotate_left 3
    focus
     refine zdP (fun bk11 _ => ?_); refine GE.ol 4 za rfl rfl (og_app2 rfl rfl rfl ze rfl rfl zh zh) rfl zk (fun vy _ => ?_); refine GE.ol 7 za rfl rfl (og_app2 rfl rfl rfl zi rfl rfl zh zh) rfl zk (fun va _ => ?_); refine zbv ?_; rintro ⟨⟩ _; try dsimp only
     refine zbC (fun _ _ => ?_); refine zb3 ?_
    rotate_left
   rotate_left 4
   focus
    refine zdp (fun bk11 _ => ?_); refine GE.any (rs := [4, 6]) za zD ?_; refine List.forall_mem_cons.2 ⟨?_, List.forall_mem_cons.2 ⟨?_, fun _ h => absurd h List.not_mem_nil⟩⟩
    focus
     refine GE.pickOp rfl rfl rfl (og_app1 rfl rfl rfl ze rfl rfl zh zh) rfl zf (fun vy _ => ?_); refine zfN (fun vx _ => ?_); refine GE.ol 7 za rfl rfl (og_app2 rfl rfl rfl zg rfl rfl zh zh) rfl zk (fun va _ => ?_); refine zbv ?_; rintro ⟨⟩ _; try dsimp only
     refine zd1 (fun _ _ => ?_); refine zb3 ?_
    rotate_left
    focus
     refine GE.pickOp rfl rfl rfl (og_lit rfl (.cons rfl .nil) rfl rfl rfl rfl rfl rfl) rfl zk (fun vx _ => ?_); refine GE.ol 4 za rfl rfl (og_app2 rfl rfl rfl ze rfl rfl zh zh) rfl zk (fun vy _ => ?_); refine GE.ol 7 za rfl rfl (og_app2 rfl rfl rfl zg rfl rfl zh zh) rfl zk (fun va _ => ?_); refine zbv ?_; rintro ⟨⟩ _; try dsimp only
     refine zd1 (fun _ _ => ?_); refine zb3 ?_
    rotate_left
   rotate_left 2
  rotate_left 10
  focus
   refine zcv (fun vx _ => ?_); refine GE.any (rs := [2, 9]) za zD ?_; refine List.forall_mem_cons.2 ⟨?_, List.forall_mem_cons.2 ⟨?_, fun _ h => absurd h List.not_mem_nil⟩⟩
   focus
    refine GE.pickOp rfl rfl rfl (og_lit rfl .nil rfl rfl rfl rfl rfl rfl) rfl zf (fun vz _ => ?_); refine GE.any (rs := [4, 9]) za zD ?_; refine List.forall_mem_cons.2 ⟨?_, List.forall_mem_cons.2 ⟨?_, fun _ h => absurd h List.not_mem_nil⟩⟩
    focus
     refine GE.pickOp rfl rfl rfl (og_app0 rfl rfl rfl ze rfl rfl zh zh) rfl zf (fun vy _ => ?_); refine GE.any (rs := [7, 9]) za zD ?_; refine List.forall_mem_cons.2 ⟨?_, List.forall_mem_cons.2 ⟨?_, fun _ h => absurd h List.not_mem_nil⟩⟩
     focus
      refine GE.pickOp rfl rfl rfl (og_app0 rfl rfl rfl zi rfl rfl zh zh) rfl zf (fun va _ => ?_); refine GE.any (rs := [8, 9]) za zD ?_; refine List.forall_mem_cons.2 ⟨?_, List.forall_mem_cons.2 ⟨?_, fun _ h => absurd h List.not_mem_nil⟩⟩
      focus
       refine GE.pickOp rfl rfl rfl (og_callF0 rfl rfl (fun w hh => (l7Of_any (r := r) (us := us ++ [u]) w (Rd.stays h3 _ hh) zav zw (Rd.stays h5 _ hh)).toFn)) rfl zf ?_; rintro ⟨⟩ _; try dsimp only
       refine GE.ol 9 za rfl rfl (og_alloc) rfl zk (fun bk11 _ => ?_); refine zbC (fun _ _ => ?_); refine zb3 ?_
      rotate_left
      focus
       refine zdP (fun bk11 _ => ?_); refine zb4 ?_; rintro ⟨⟩ _; try dsimp only
       refine zbC (fun _ _ => ?_); refine zb3 ?_
      rotate_left
     rotate_left 2
     focus
      refine zdP (fun bk11 _ => ?_); refine GE.ol 7 za rfl rfl (og_app1 rfl rfl rfl zm rfl rfl zh zh) rfl zk (fun va _ => ?_); refine zb4 ?_; rintro ⟨⟩ _; try dsimp only
      refine zbC (fun _ _ => ?_); refine zb3 ?_
     rotate_left
    rotate_left 3
    focus
     refine zdP (fun bk11 _ => ?_); refine GE.ol 4 za rfl rfl (og_app1 rfl rfl rfl ze rfl rfl zh zh) rfl zk (fun vy _ => ?_); refine GE.ol 7 za rfl rfl (og_app1 rfl rfl rfl zm rfl rfl zh zh) rfl zk (fun va _ => ?_); refine zb4 ?_; rintro ⟨⟩ _; try dsimp only
     refine zbC (fun _ _ => ?_); refine zb3 ?_
    rotate_left
   rotate_left 4
   focus
    refine zdp (fun bk11 _ => ?_); refine GE.ol 2 za rfl rfl (og_lit rfl .nil rfl rfl rfl rfl rfl rfl) rfl zk (fun vz _ => ?_); refine GE.ol 4 za rfl rfl (og_app0 rfl rfl rfl ze rfl rfl zh zh) rfl zk (fun vy _ => ?_); refine GE.ol 7 za rfl rfl (og_app0 rfl rfl rfl zm rfl rfl zh zh) rfl zk (fun va _ => ?_); refine zfY ?_; rintro ⟨⟩ _; try dsimp only
    refine zd1 (fun _ _ => ?_); refine zb3 ?_
   rotate_left
  rotate_left 5
  focus
   refine GE.pickOp rfl rfl rfl (og_alloc) rfl zj (fun bk11 _ => ?_); refine GE.any (rs := [2, 6]) za zD ?_; refine List.forall_mem_cons.2 ⟨?_, List.forall_mem_cons.2 ⟨?_, fun _ h => absurd h List.not_mem_nil⟩⟩
   focus
    refine GE.pickOp rfl rfl rfl (og_lit rfl .nil rfl rfl rfl rfl rfl rfl) rfl zf (fun vz _ => ?_); refine GE.any (rs := [4, 6]) za zD ?_; refine List.forall_mem_cons.2 ⟨?_, List.forall_mem_cons.2 ⟨?_, fun _ h => absurd h List.not_mem_nil⟩⟩
    focus
     refine GE.pickOp rfl rfl rfl (og_app0 rfl rfl rfl ze rfl rfl zh zh) rfl zf (fun vy _ => ?_); refine zfN (fun vx _ => ?_); refine GE.ol 7 za rfl rfl (og_app1 rfl rfl rfl zg rfl rfl zh zh) rfl zk (fun va _ => ?_); refine zb4 ?_; rintro ⟨⟩ _; try dsimp only
     refine zfs (fun _ _ => ?_); refine zb3 ?_
    rotate_left
    focus
     refine GE.pickOp rfl rfl rfl (og_lit rfl (.cons rfl .nil) rfl rfl rfl rfl rfl rfl) rfl zk (fun vx _ => ?_); refine GE.ol 4 za rfl rfl (og_app1 rfl rfl rfl ze rfl rfl zh zh) rfl zk (fun vy _ => ?_); refine GE.ol 7 za rfl rfl (og_app1 rfl rfl rfl zg rfl rfl zh zh) rfl zk (fun va _ => ?_); refine zb4 ?_; rintro ⟨⟩ _; try dsimp only
     refine zfs (fun _ _ => ?_); refine zb3 ?_
    rotate_left
   rotate_left 2
   focus
    refine zca (fun vx _ => ?_); refine GE.ol 2 za rfl rfl (og_lit rfl .nil rfl rfl rfl rfl rfl rfl) rfl zk (fun vz _ => ?_); refine GE.ol 4 za rfl rfl (og_app0 rfl rfl rfl ze rfl rfl zh zh) rfl zk (fun vy _ => ?_); refine GE.ol 7 za rfl rfl (og_app0 rfl rfl rfl zi rfl rfl zh zh) rfl zk (fun va _ => ?_); refine zfY ?_; rintro ⟨⟩ _; try dsimp only
    refine zfs (fun _ _ => ?_); refine zb3 ?_
   rotate_left
  rotate_left 3
  all_goals
   refine G.thenN (G.seq (G.drawL [17] ?_)); refine GE.q 0 rfl za rfl (qg_runs (rv_field rfl)) rfl ?_
   first | refine GE.q 1 rfl za rfl (qg_runs (rv_load1 0 rfl rfl rfl)) rfl ?_ | refine GE.q 1 rfl za rfl (qg_runs (rv_load1 1 rfl rfl rfl)) rfl ?_ | refine GE.q 1 rfl za rfl (qg_runs (rv_load1 2 rfl rfl rfl)) rfl ?_
   refine zdL ?_; refine GE.q 3 rfl za rfl (qg_runs (rv_load1 3 rfl rfl rfl)) rfl ?_; refine GE.q 4 rfl za rfl (qg_runs (rv_field rfl)) rfl ?_; refine GE.q 5 rfl za rfl (qg_runs (rv_load1 3 rfl rfl rfl)) rfl ?_; refine zdv (fun _ _ => ?_); refine GE.ol 7 za rfl rfl (og_runs (rv_load1 3 rfl rfl rfl)) rfl zd (fun _ _ => ?_); refine GE.ol 8 za rfl rfl (og_callV rfl rfl (fun w hh => svolume_any t.w t.h t.d w)) rfl zd (fun _ _ => ?_); refine GE.ol 9 za rfl rfl (og_runs (rv_leq rfl rfl)) rfl zd (fun _ _ => ?_); refine GE.ol 10 za rfl rfl (og_runs (rv_move rfl)) rfl zd (fun _ _ => ?_)
   all_goals (((with_reducible refine GE.part (t := 31) rfl (fun hg => ?_) (fun hg => ?_)) <;> (try exact Bool.noConfusion hg) <;> (first | (refine zek ?_) | refine zdF ?_)))
   all_goals ((first | (first | refine GE.q 12 rfl za rfl (qg_runs (rv_load1 0 rfl rfl rfl)) rfl ?_ | refine GE.q 12 rfl za rfl (qg_runs (rv_load1 1 rfl rfl rfl)) rfl ?_ | refine GE.q 12 rfl za rfl (qg_runs (rv_load1 2 rfl rfl rfl)) rfl ?_) | refine zdq ?_))
   all_goals ((first | (refine GE.q 13 rfl za rfl (qg_runs (rv_field rfl)) rfl ?_) | refine zdr ?_))
   all_goals ((first | (refine GE.q 14 rfl za rfl (qg_runs (rv_load1 3 rfl rfl rfl)) rfl ?_) | refine zey ?_))
   all_goals ((first | refine GE.q 15 rfl za rfl (qg_runs (rv_leq rfl rfl)) rfl ?_ | refine GE.qn 15 rfl za rfl rfl ?_))
   all_goals ((first | refine zfG (fun _ _ => ?_) | refine zfH (fun _ _ => ?_)))
   all_goals (refine GE.t 17 za rfl rfl rfl (og_runs (rv_assign rfl)) rfl (fun _ _ => ?_))
   all_goals
    refine zbm ?_; refine G.ret ?_
    first | (refine G.retFV rfl rfl (congrArg Value.bool ?_); simp_all [withinT]; done) | (refine G.retFV rfl rfl (congrArg Value.bool ?_); simp_all [withinT]; intro hq9; omega)
end
theorem last_push {p : List Int → Bool} {ts : List (List Int × Value)} {x : Int} {v : Value} (h : lastM p (ts.map Prod.fst) x = ts.map Prod.fst ++ [[x]]) : lastM p (ts.map Prod.fst) x = (ts ++ [([x], v)]).map Prod.fst := by
  rw [h, List.map_append]; rfl
theorem last_into {p : List Int → Bool} {ts : List (List Int × Value)} {x : Int} {q : Nat} {b : List Int × Value} {v : Value} (hb : ts[q]? = some b) (hq : ts.length = q + 1) (hp : p b.1 = true) : lastM p (ts.map Prod.fst) x = (ts.set q (b.1 ++ [x], v)).map Prod.fst := by
  rw [last_yes (k := q) (b := b.1) (by rw [List.getElem?_map, hb]; rfl) (by rw [List.length_map]; exact hq) hp, List.map_set]
section
variable {r : ReqM} {pv tv iv uv : Value} {us : List Int} (w : World) (h : Rd w pv 2 (r.pairs.map PairM.cells)) (h2 : Rd w tv 7 (r.types.map TypeM.cells)) (h3 : Rd w iv 7 (r.items.map ItemM.cells)) (h4 : Rd w uv 1 (us.map icell)) (hul : us.length ≤ 1048576)
include h h2 h3 h4 hul
theorem nextFit_any : Fn Tryz.prog 127 [.agg (r.cells pv tv iv).toArray, uv] w (fun x : Value × List (List Int × Value) => x.1.oneCell' = true ∧ x.2.map Prod.fst = nextM r us) (fun x => x.1) (fun x => [.grp 3 1 (x.2.map (sub id)), .row x.1 52 1 (x.2.map gcell)]) := by
  obtain ⟨T, hT⟩ : ∃ T, T = thereM r us := ⟨_, rfl⟩
  have hTl : T.length ≤ 1048576 := by have := thereM_len r us; rw [hT]; omega
  have hTl2 : (T.map icell).length = T.length := by simp
  refine Fn.of (n := 49) Tryz.func127 rfl rfl ?_; refine zaU (fun bk2 _ => ?_); refine zaL ?_; refine za6 (fun vl _ => ?_); refine zbk ?_; refine G.seq ?_; refine zbM ?_; refine zeP ?_; rintro vt hvt; try dsimp only
  refine zde ?_; refine zby ?_; refine G.frontR1 vl rfl ?_; refine zcf ?_; refine G.loopK (ι := Nat × List (List Int × Value) × Value) (ks := [2, 12, 13]) (fun x => [(5, x.2.2), (14, .int .i64 (x.1 : Int))]) (fun x => [.grp 3 1 (x.2.1.map (sub id)), .row x.2.2 52 1 (x.2.1.map gcell)]) (fun x => x.1 ≤ T.length ∧ x.2.1.map Prod.fst = lastAll (roomM r) (T.take x.1)) (fun x => T.length - x.1) (0, [], vl) (.cons rfl (.cons rfl (.cons rfl (.nil)))) rfl ?_ ?_ ?_
  exact ⟨Nat.zero_le _, rfl⟩
  exact ⟨rfl, rfl, trivial⟩
  rintro ⟨k, ts, v2⟩ ⟨hk, hM⟩
  dsimp only at hk hM ⊢
  have hl0 : (ts.map gcell).length = ts.length := zD
  have htl : ts.length ≤ k := (by have := lastAll_len (roomM r) (T.take k); have e2 := congrArg List.length hM; rw [List.length_map] at e2; rw [List.length_take] at this; omega)
  by_cases hlt : k < T.length
  case' pos => (obtain ⟨x, hx⟩ := get_of_lt hlt; have he := get_map hx icell; rcases nil_or_snoc ts with hts | ⟨tp, t, hts⟩; have hn0 : ts.length = 0 := (by rw [hts]; rfl); rotate_left; have hn1 : ts.length = tp.length + 1 := zaB; obtain ⟨q, hq⟩ : ∃ y, y = tp.length := ⟨_, rfl⟩; rw [← hq] at hn1; have htq : ts[q]? = some t := zab; have heq := get_map htq gcell; have hgi : (ts.map (sub id))[q]? = some (t.2, t.1.map icell) := get_mapS htq; have hbl : t.1.length ≤ k := (by have := (lastAll_at (p := roomM r) (l := T.take k) (q := q) (g := t.1) (by rw [← hM, List.getElem?_map, htq]; rfl)); rw [List.length_take] at this; omega))
  all_goals
   refine zbs ?_; refine G.cond rfl (fun hc => ?_) (fun hc => ?_)
   · all_goals
      replace hc := of_decide_eq_true hc
      simp only [List.length_map] at hc
      try (exfalso; omega)
      all_goals
       refine zdx ?_; refine G.v (rv_indexH rfl rfl zm rfl zq) rfl ?_; refine G.v (rv_loadE rfl zm zq rfl) rfl ?_; refine zdS ?_; refine zc0 ?_; refine zdf ?_; refine zbk ?_; refine zcs (fun _ _ => ?_); refine GE.ol 1 za rfl rfl (og_runs (rv_geq rfl rfl)) rfl zd (fun _ _ => ?_); refine zcl (fun _ _ => ?_)
       all_goals (((with_reducible refine GE.part (t := 23) rfl (fun hg => ?_) (fun hg => ?_)) <;> (try exact Bool.noConfusion hg) <;> (try (exfalso; first | (have hq := of_decide_eq_false hg; omega) | (have hq := of_decide_eq_true hg; omega); done)) <;> (first | (refine GE.q 3 rfl za rfl (qg_runs (rv_loadW 3 rfl rfl rfl)) rfl ?_) | refine zfD ?_)))
       all_goals ((first | refine zbU ?_ | refine zeI ?_))
       all_goals ((first | refine zet ?_ | refine zeJ ?_))
       all_goals ((first | (refine GE.q 6 rfl za rfl (qg_runs (rv_indexH (k := q) rfl rfl zi zb heq)) rfl ?_) | refine zeK ?_))
       all_goals ((first | refine GE.q 7 rfl za rfl (qg_runs (rv_loadE rfl (by first | exact Rd.stays zc | exact Rd.owned 1 rfl) zay rfl)) rfl ?_ | refine zeL ?_))
       all_goals ((first | refine zfe ?_ | refine zd9 ?_))
       all_goals ((first | refine GE.q 9 rfl za rfl (qg_call rfl rfl (fun w hh => room_any (r := r) (us := t.1) w (Rd.stays h _ hh) (Rd.stays h2 _ hh) (Rd.stays h3 _ hh) (Subs.at (by exact Subs.owned 0 rfl _ hh) htq) zb x)) rfl ?_ | refine zea ?_))
       all_goals ((first | refine GE.ol 10 za rfl rfl (og_runs (rv_pickT rfl rfl)) rfl zd (fun _ _ => ?_) | refine GE.ol 10 za rfl rfl (og_runs (rv_pickF rfl rfl)) rfl zd (fun _ _ => ?_)))
       all_goals
        refine zbm ?_; refine G.cond rfl (fun hc => ?_) (fun hc => ?_)
        · try exact Bool.noConfusion hc
          all_goals
           all_goals
            have hstep := fun v : Value => last_into (p := fun g => roomM r g x) (x := x) (v := v) htq hn1 hc
            all_goals
             refine zdH ?_; refine zen ?_; refine za2 (fun vl _ => ?_); refine zdX (fun vb _ => ?_)
             skip; refine zcN (fun hova => ?_)
             refine G.v (rv_indexH (k := q) rfl rfl zm zb heq) rfl ?_; refine G.op0 (og_stE2 rfl rfl rfl zay (cells_one zc) rfl (by repeat (first | rfl | refine one_cons zc ?_)) rfl (.zero (.cons .nil))) (fun _ _ => ?_); refine G.done ?_; refine zaX ?_; refine zer ?_; refine G.backK (k + 1, ts.set q (t.1 ++ [x], vb), v2) 0 zI (.cons rfl (.cons rfl (.cons rfl (.nil)))) ?_ ?_ ?_
             exact ⟨rfl, rfl, trivial⟩
             exact ⟨hlt, by rw [lastAll_next hx, ← hM]; exact (hstep _).symm⟩
             dsimp only; omega
        · all_goals
           try simp only [List.length_map] at hc
           all_goals
            have hstep : ∀ v : Value, lastM (fun g => roomM r g x) (ts.map Prod.fst) x = (ts ++ [([x], v)]).map Prod.fst := (fun v => last_push zaA)
            all_goals
             refine zdR ?_; refine za2 (fun vl _ => ?_); refine zbW (fun hovl => ?_); refine zc4 (fun vm _ => ?_); refine zcC (fun va _ => ?_); refine G.frontG2 _ rfl ?_; refine zdi ?_; refine zaX ?_; refine zeq ?_; refine G.backK (k + 1, ts ++ [([x], vl)], va) 0 zK (.cons rfl (.cons rfl (.cons rfl (.nil)))) ?_ ?_ ?_
             exact ⟨rfl, rfl, trivial⟩
             exact ⟨hlt, by rw [lastAll_next hx, ← hM]; exact (hstep _).symm⟩
             dsimp only; omega
   · all_goals
      replace hc := of_decide_eq_false hc
      simp only [List.length_map] at hc
      try (exfalso; omega)
      all_goals
       refine zcX ?_; refine G.know (fun w hw => (Rd.owned 1 rfl w hw).one_) (fun hone => G.retF (v2, ts) ⟨hone, by rw [take_all (l := T) zb, hT] at hM; exact hM⟩ rfl rfl rfl (fun w hw => hw.sublist (by repeat (first | exact List.Sublist.refl _ | refine List.Sublist.cons_cons _ ?_ | refine List.Sublist.cons _ ?_))))
omit h in
theorem l7Next_any (hyes : classM r = 0) : Fn Tryz.prog 193 [.agg (r.cells pv tv iv).toArray, uv] w (fun x : Value × List (List Int × Value) => x.1.oneCell' = true ∧ x.2.map Prod.fst = lastAll (roomM r) us) (fun x => x.1) (fun x => [.grp 3 1 (x.2.map (sub id)), .row x.1 52 1 (x.2.map gcell)]) := by
  have hTl2 : (us.map icell).length = us.length := by simp
  refine Fn.of (n := 68) Tryz.func193 rfl rfl ?_; refine zaU (fun bk2 _ => ?_); refine zf9 ?_; refine zfr (fun _ _ => ?_); refine zbi (fun bk5 _ => ?_); refine zaV (fun _ _ => ?_); refine zbk ?_; refine zbM ?_; refine zbR ?_; rintro vu hvu; try dsimp only
  refine zaL ?_; refine za6 (fun vl _ => ?_); refine zd8 ?_; refine G.frontR0 vl rfl ?_; refine zcf ?_; refine G.loopK (ι := Nat × List (List Int × Value) × Value) (ks := [1, 2, 5, 7]) (fun x => [(8, x.2.2), (9, .int .i64 (x.1 : Int))]) (fun x => [.grp 3 1 (x.2.1.map (sub id)), .row x.2.2 52 1 (x.2.1.map gcell)]) (fun x => x.1 ≤ us.length ∧ x.2.1.map Prod.fst = lastAll (roomM r) (us.take x.1)) (fun x => us.length - x.1) (0, [], vl) (.cons rfl (.cons rfl (.cons rfl (.cons rfl (.nil))))) rfl ?_ ?_ ?_
  exact ⟨Nat.zero_le _, rfl⟩
  exact ⟨rfl, rfl, trivial⟩
  rintro ⟨k, ts, v2⟩ ⟨hk, hM⟩
  dsimp only at hk hM ⊢
  have hl0 : (ts.map gcell).length = ts.length := zD
  have htl : ts.length ≤ k := (by have := lastAll_len (roomM r) (us.take k); have e2 := congrArg List.length hM; rw [List.length_map] at e2; rw [List.length_take] at this; omega)
  by_cases hlt : k < us.length
  case' pos => (obtain ⟨x, hx⟩ := get_of_lt hlt; have he := get_map hx icell; rcases nil_or_snoc ts with hts | ⟨tp, t, hts⟩; have hn0 : ts.length = 0 := (by rw [hts]; rfl); rotate_left; have hn1 : ts.length = tp.length + 1 := zaB; obtain ⟨q, hq⟩ : ∃ y, y = tp.length := ⟨_, rfl⟩; rw [← hq] at hn1; have htq : ts[q]? = some t := zab; have heq := get_map htq gcell; have hgi : (ts.map (sub id))[q]? = some (t.2, t.1.map icell) := get_mapS htq; have hbl : t.1.length ≤ k := (by have := (lastAll_at (p := roomM r) (l := us.take k) (q := q) (g := t.1) (by rw [← hM, List.getElem?_map, htq]; rfl)); rw [List.length_take] at this; omega))
  all_goals
   refine zcu ?_; refine zcW ?_; refine G.cond rfl (fun hc => ?_) (fun hc => ?_)
   · all_goals
      replace hc := of_decide_eq_true hc
      simp only [List.length_map] at hc
      try (exfalso; omega)
      all_goals
       refine zee ?_; refine zc0 ?_; refine zbk ?_; refine zcs (fun _ _ => ?_); refine GE.ol 1 za rfl rfl (og_runs (rv_gtr rfl rfl)) rfl zd (fun _ _ => ?_); refine zcl (fun _ _ => ?_)
       all_goals (((with_reducible refine GE.part (t := 29) rfl (fun hg => ?_) (fun hg => ?_)) <;> (try exact Bool.noConfusion hg) <;> (try (exfalso; first | (have hq := of_decide_eq_false hg; omega) | (have hq := of_decide_eq_true hg; omega); done)) <;> (first | (refine GE.q 3 rfl za rfl (qg_runs (rv_loadW 4 rfl rfl rfl)) rfl ?_) | refine zfD ?_)))
       all_goals ((first | refine zbU ?_ | refine zeI ?_))
       all_goals ((first | (refine GE.q 5 rfl za rfl (qg_runs (rv_loadW 3 rfl rfl rfl)) rfl ?_) | refine zeJ ?_))
       all_goals ((first | refine zdQ ?_ | refine zeK ?_))
       all_goals ((first | refine GE.q 7 rfl za rfl (qg_runs (rv_move rfl)) rfl ?_ | refine zeL ?_))
       all_goals ((first | refine GE.q 8 rfl za rfl (qg_runs (rv_subB rfl rfl zb zb)) rfl ?_ | refine zd9 ?_))
       all_goals ((first | (refine GE.q 9 rfl za rfl (qg_runs (rv_indexH (k := q) rfl rfl zi zb heq)) rfl ?_) | refine zea ?_))
       all_goals ((first | refine GE.q 10 rfl za rfl (qg_runs (rv_loadE rfl (by first | exact Rd.stays zc | exact Rd.owned 1 rfl) (by first | exact he | exact heq) rfl)) rfl ?_ | refine zdT ?_))
       all_goals ((first | refine GE.q 11 rfl za rfl (qg_runs (rv_move rfl)) rfl ?_ | refine zdF ?_))
       all_goals ((first | refine GE.q 12 rfl za rfl (qg_runs (rv_move rfl)) rfl ?_ | refine zdq ?_))
       all_goals ((first | (refine GE.q 13 rfl za rfl (qg_runs (rv_indexH rfl rfl ze rfl zq)) rfl ?_) | refine zdr ?_))
       all_goals ((first | refine GE.q 14 rfl za rfl (qg_runs (rv_loadE rfl ze zq rfl)) rfl ?_ | refine zey ?_))
       all_goals ((first | refine GE.q 15 rfl za rfl (qg_call rfl rfl (fun w hh => (l7Room_any (r := r) (us := t.1) w (Rd.stays h3 _ hh) (Subs.at (by exact Subs.owned 0 rfl _ hh) htq) zb (mst r) x zan).mono (congrArg Value.bool (room_yes hyes t.1 x).symm))) rfl ?_ | refine GE.qn 15 rfl za rfl rfl ?_))
       all_goals ((first | refine zfG (fun _ _ => ?_) | refine zfH (fun _ _ => ?_)))
       all_goals
        refine zbm ?_; refine G.cond rfl (fun hc => ?_) (fun hc => ?_)
        · try exact Bool.noConfusion hc
          all_goals
           all_goals
            have hstep := fun v : Value => last_into (p := fun g => roomM r g x) (x := x) (v := v) htq hn1 hc
            all_goals
             refine G.frontG0 _ rfl ?_; refine G.drawD1 [14, 15] rfl ?_; refine zdA ?_; refine GE.q2 1 rfl za rfl (qg_runs (rv_move rfl)) zn rfl ?_; refine GE.q2 2 rfl za rfl (qg_runs (rv_subB rfl rfl zb zb)) zn rfl ?_; refine GE.q2 3 rfl za rfl (qg_runs (rv_move rfl)) zn rfl ?_; refine GE.q2 4 rfl za rfl (qg_runs (rv_move rfl)) zn rfl ?_; refine GE.q2 5 rfl za rfl (qg_runs (rv_subB rfl rfl zb zb)) zn rfl ?_; refine GE.q2 6 rfl za rfl (qg_runs (rv_indexH (k := q) rfl rfl zg zb heq)) zn rfl ?_; refine GE.q2 7 rfl za rfl (qg_runs (rv_loadE rfl zg zay rfl)) zn rfl ?_; refine GE.q2 8 rfl za rfl (qg_runs (rv_move rfl)) zn rfl ?_; refine GE.ol 9 za rfl rfl (og_runs (rv_move rfl)) rfl zj (fun _ _ => ?_)
             refine GE.ol 10 za rfl rfl (og_runs (rv_indexH rfl rfl ze rfl zq)) rfl zj (fun _ _ => ?_); refine GE.ol 11 za rfl rfl (og_runs (rv_loadE rfl ze zq rfl)) rfl zj (fun _ _ => ?_); refine GE.ol 12 za rfl rfl (og_lit rfl (.cons rfl .nil) rfl rfl rfl rfl rfl rfl) rfl zf (fun vl _ => ?_); refine GE.ol 13 za rfl rfl (og_appG1 rfl rfl rfl hgi zg rfl rfl zh zh) rfl zf (fun vb _ => ?_)
             skip; refine zfx (fun hova => ?_)
             refine GE.t 14 za rfl rfl rfl (og_runs (rv_indexH (k := q) rfl rfl zm zb heq)) rfl (fun _ _ => ?_); refine GE.t0 15 za rfl rfl rfl (og_stE2 rfl rfl rfl zay (cells_one zc) rfl (by repeat (first | rfl | refine one_cons zc ?_)) rfl (.zero (.cons .nil))) (fun _ _ => ?_); refine zb3 ?_; refine zaO ?_; refine zer ?_; refine G.backK (k + 1, ts.set q (t.1 ++ [x], vb), v2) 0 zI (.cons rfl (.cons rfl (.cons rfl (.cons rfl (.nil))))) ?_ ?_ ?_
             exact ⟨rfl, rfl, trivial⟩
             exact ⟨hlt, by rw [lastAll_next hx, ← hM]; exact (hstep _).symm⟩
             dsimp only; omega
        · all_goals
           try simp only [List.length_map] at hc
           all_goals
            have hstep : ∀ v : Value, lastM (fun g => roomM r g x) (ts.map Prod.fst) x = (ts ++ [([x], v)]).map Prod.fst := (fun v => last_push zaA)
            all_goals
             refine zdH ?_; refine G.v (rv_indexH rfl rfl ze rfl zq) rfl ?_; refine G.v (rv_loadE rfl ze zq rfl) rfl ?_; refine za2 (fun vl _ => ?_); refine zbW (fun hovl => ?_); refine zc4 (fun vm _ => ?_); refine zcC (fun va _ => ?_); refine G.frontG2 _ rfl ?_; refine zdi ?_; refine zaO ?_; refine zeq ?_; refine G.backK (k + 1, ts ++ [([x], vl)], va) 0 zK (.cons rfl (.cons rfl (.cons rfl (.cons rfl (.nil))))) ?_ ?_ ?_
             exact ⟨rfl, rfl, trivial⟩
             exact ⟨hlt, by rw [lastAll_next hx, ← hM]; exact (hstep _).symm⟩
             dsimp only; omega
   · all_goals
      replace hc := of_decide_eq_false hc
      simp only [List.length_map] at hc
      try (exfalso; omega)
      all_goals
       refine zcX ?_; refine G.know (fun w hw => (Rd.owned 1 rfl w hw).one_) (fun hone => G.retF (v2, ts) ⟨hone, by rw [take_all (l := us) zb] at hM; exact hM⟩ rfl rfl rfl (fun w hw => hw.sublist (by repeat (first | exact List.Sublist.refl _ | refine List.Sublist.cons_cons _ ?_ | refine List.Sublist.cons _ ?_))))
theorem snextFit_any : Fn Tryz.prog 132 [.agg (r.cells pv tv iv).toArray, uv] w (fun x : Value × List (List Int × Value) => x.1.oneCell' = true ∧ x.2.map Prod.fst = nextM r us) (fun x => x.1) (fun x => [.grp 3 1 (x.2.map (sub id)), .row x.1 52 1 (x.2.map gcell)]) := by
  have hTl : (thereM r us).length ≤ 1048576 := by have := thereM_len r us; omega
  refine Fn.of (n := 15) Tryz.func132 rfl rfl ?_; refine zaU (fun bk2 _ => ?_); refine zbk ?_; refine za7 ?_; refine zbD (fun _ _ => ?_); refine zeG ?_; refine G.condD rfl (fun hc => ?_) (fun hc => ?_)
  have hno : ¬ classM r = 0 := hc
  refine za6 (fun vl _ => ?_); refine zco ?_; refine G.thenR ?_; refine zcf ?_; refine G.know (fun w hw => (Rd.owned 1 rfl w hw).one_) (fun hone => G.retF (vl, []) ⟨hone, by rw [nextM, thereM_no hno]; rfl⟩ rfl rfl rfl (fun w hw => hw.sublist (by repeat (first | exact List.Sublist.refl _ | refine List.Sublist.cons_cons _ ?_ | refine List.Sublist.cons _ ?_))))
  have hyes : classM r = 0 := by omega
  refine zcH ?_; rintro vu hvu; try dsimp only
  refine GE.ol 4 za rfl rfl (og_callF1 rfl rfl (fun w hh => l7Known_any (r := r) (us := us) w zP (Rd.stays h4 _ hh) zb)) rfl zf ?_; rintro vt hvt; try dsimp only
  refine GE.ol 5 za rfl rfl (og_callF2 rfl rfl (fun w hh => l7Next_any (r := r) (us := thereM r us) w (Rd.stays h2 _ hh) (Rd.stays h3 _ hh) zP hTl hyes)) rfl zu ?_; rintro ⟨vo, os⟩ ⟨hvo, hos⟩; try dsimp only
  refine GE.t 6 za rfl rfl rfl (og_runs (rv_assign rfl)) rfl (fun _ _ => ?_); refine zbm ?_; refine G.ret ?_
  exact G.retF (vo, os) ⟨hvo, hos⟩ rfl rfl rfl (fun w hw => hw.sublist (by repeat (first | exact List.Sublist.refl _ | refine List.Sublist.cons_cons _ ?_ | refine List.Sublist.cons _ ?_)))
end
theorem Frm.lt {a b n : Nat} {f g : Nat → Nat} (h : Frm a b f g) (hf : ∀ j, a ≤ j → j < b → f j < n) {x : Nat} (h1 : a ≤ x) (h2 : x < b) : g x < n := by
  obtain ⟨i, i1, i2, i3⟩ := h.src x h1 h2
  rw [i3]; exact hf i i1 i2
theorem Frm.srt_hi {K : Nat → Int} {a b c d : Nat} {f g : Nat → Nat} (h : Frm a b f g) (hb : b ≤ c) (hs : Srt K c d f) : Srt K c d g := fun j k j1 j2 j3 => by
  rw [h.out j (.inr zb), h.out k (.inr zb)]; exact hs j k j1 j2 j3
theorem Frm.crs_hi {K : Nat → Int} {a b c d e : Nat} {f g : Nat → Nat} (h : Frm a b f g) (hb : b ≤ c) (hc : c ≤ d) (hs : Crs K c d e f) : Crs K c d e g := fun j k j1 j2 j3 j4 => by
  rw [h.out j (.inr zb), h.out k (.inr zb)]; exact hs j k j1 j2 j3 j4
section
variable {w0 : World} {F : List Ch} {v : Value} {n : Nat} {g : Nat} [FnOk Tryz.prog g] {caps : List Value} {K : Nat → Int}
theorem symMerge_any (hcmp : ∀ w, HeapOk w0 w F → ∀ i j : Nat, i < n → j < n → FnV Tryz.prog g ([.int .i64 (i : Int), .int .i64 (j : Int)] ++ caps) w (.int .i64 (cmpZ (K i) (K j)))) (hn : n ≤ 1048576) : ∀ (s : Nat) {f : Nat → Nat} {a m b : Nat}, b - a ≤ s → a < m → m < b → b ≤ n → Srt K a m f → Srt K m b f → Crs K a m b f → (∀ j, a ≤ j → j < b → f j < n) →
    FnMF Tryz.prog 243 [v, .int .i64 (a : Int), .int .i64 (m : Int), .int .i64 (b : Int), .func (.func g) #[] caps.toArray] w0 [.row v 3 1 (rowF n f)] F (fun f' : Nat → Nat => Frm a b f f' ∧ Srt K a b f') (fun _ => .tuple #[]) (fun f' => [.row v 3 1 (rowF n f')]) := by
  intro s
  induction s with
  | zero => intro f a m b h0 h1 h2; omega
  | succ s ih =>
  intro f a m b h0 h1 h2 h3 hs1 hs2 hcr hfn
  have hfa := hfn a (Nat.le_refl _) zb
  have hfm := hfn m zb h2
  have ea : (rowF n f)[a]? = some (icell (f a : Int)) := rowF_get zb
  have em : (rowF n f)[m]? = some (icell (f m : Int)) := rowF_get zb
  refine FnMF.of (n := 220) Tryz.func243 rfl rfl ?_; refine zcu ?_; refine zef ?_; refine zdy ?_; refine G.condD rfl (fun hc => ?_) (fun hc => ?_)
  · refine G.seq ?_
    refine zbq ?_; refine zdS ?_; refine zbk ?_; refine G.block ?_; refine G.loopK (ι := Nat × Nat) (ks := [0, 1, 4]) (fun x => [(10, .int .i64 (x.1 : Int)), (11, .int .i64 (x.2 : Int))]) (fun _ => [.row v 3 1 (rowF n f)]) (fun x => m ≤ x.1 ∧ x.1 ≤ x.2 ∧ x.2 ≤ b ∧ (x.1 = m ∨ K (f (x.1 - 1)) < K (f a)) ∧ (x.2 = b ∨ ¬ K (f x.2) < K (f a))) (fun x => x.2 - x.1) (m, b) (.cons rfl (.cons rfl (.cons rfl (.nil)))) rfl ?_ ?_ ?_
    exact ⟨Nat.le_refl _, by dsimp only; omega, Nat.le_refl _, .inl rfl, .inl rfl⟩
    exact ⟨rfl, rfl, trivial⟩
    rintro ⟨i, j⟩ ⟨hi, hij, hj, hl, hr⟩
    dsimp only at hi hij hj hl hr ⊢
    by_cases hlt : i < j
    case' pos => (have hfh := hfn ((i + j) / 2) zb zb; have eh : (rowF n f)[(i + j) / 2]? = some (icell (f ((i + j) / 2) : Int)) := rowF_get zb)
    all_goals
     refine zcu ?_; refine zaT ?_; refine G.cond rfl (fun hc => ?_) (fun hc => ?_)
     · all_goals
        replace hc := of_decide_eq_true hc
        try (exfalso; omega)
        all_goals
         refine zbS ?_; refine GE.q 3 rfl za rfl (qg_runs (rv_indexH rfl rfl zg rfl (by exact eh))) rfl ?_; refine GE.q 4 rfl za rfl (qg_runs (rv_loadE rfl zg (by exact eh) rfl)) rfl ?_; refine zet ?_; refine GE.ol 6 za rfl rfl (og_runs (rv_move rfl)) rfl zd (fun _ _ => ?_); refine GE.ol 7 za rfl rfl (og_runs (rv_indexH rfl rfl zg rfl (by exact ea))) rfl zd (fun _ _ => ?_)
         refine GE.ol 8 za rfl rfl (og_runs (rv_loadE rfl zg (by exact ea) rfl)) rfl zd (fun _ _ => ?_); refine GE.ol 9 za rfl rfl (og_callV rfl rfl (fun w hh => hcmp w hh.tail _ _ hfh hfa)) rfl zd (fun _ _ => ?_); refine GE.ol 10 za rfl rfl (og_runs (rv_lss rfl rfl)) rfl zd (fun _ _ => ?_); refine zbm ?_; refine G.cond rfl (fun hc => ?_) (fun hc => ?_)
         · all_goals
            replace hc := of_decide_eq_true hc
            simp only [cmpZ_neg, Bool.not_eq_true', Bool.not_eq_false', decide_eq_false_iff_not, decide_eq_true_eq] at hc
            all_goals
             refine zbX ?_; refine G.inN ?_; refine G.backK ((i + j) / 2 + 1, j) 0 rfl (.cons rfl (.cons rfl (.cons rfl (.nil)))) (⟨rfl, rfl, trivial⟩) ?_ ?_
             exact ⟨by dsimp only; omega, by dsimp only; omega, by dsimp only; omega, .inr hc, hr⟩
             dsimp only; omega
         · all_goals
            replace hc := of_decide_eq_false hc
            simp only [cmpZ_neg, Bool.not_eq_true', Bool.not_eq_false', decide_eq_false_iff_not, decide_eq_true_eq] at hc
            all_goals
             refine zbq ?_; refine zbb ?_; refine G.inN ?_; refine G.backK (i, (i + j) / 2) 0 rfl (.cons rfl (.cons rfl (.cons rfl (.nil)))) (⟨rfl, rfl, trivial⟩) ?_ ?_
             exact ⟨by dsimp only; omega, by dsimp only; omega, by dsimp only; omega, hl, .inr hc⟩
             dsimp only; omega
     · all_goals
        replace hc := of_decide_eq_false hc
        try (exfalso; omega)
        all_goals
         refine zaW ?_; refine zeA ?_; refine zaL ?_; refine G.block (G.rowEq (rowF n (rotF f a (a + 1) (a + 1))) (by rw [rot_id zb (Nat.le_refl _) (.inr rfl)]) rfl ?_); refine G.loopK (ι := Nat) (ks := [0, 10]) (fun k => [(13, .int .i64 (k : Int))]) (fun k => [.row v 3 1 (rowF n (rotF f a (a + 1) (k + 1)))]) (fun k => a ≤ k ∧ k + 1 ≤ i) (fun k => i - k) a (.cons rfl (.cons rfl (.nil))) rfl ?_ ?_ ?_
         exact ⟨Nat.le_refl _, by omega⟩
         exact ⟨rfl, trivial⟩
         rintro k ⟨hak, hki⟩
         by_cases hk2 : k + 1 < i
         case' pos => (have e1 : (rowF n (rotF f a (a + 1) (k + 1)))[k]? = some (icell (f a : Int)) := (by rw [rowF_get zb, rot_hi zb zb]; congr 4; omega); have e2 : (rowF n (rotF f a (a + 1) (k + 1)))[k + 1]? = some (icell (f (k + 1) : Int)) := (by rw [rowF_get zb, rot_out zb zb (.inr (Nat.le_refl _))]))
         all_goals
          refine zcu ?_; refine zeg ?_; refine zaT ?_; refine G.cond rfl (fun hc => ?_) (fun hc => ?_)
          · all_goals
             replace hc := of_decide_eq_true hc
             try (exfalso; omega)
             all_goals
              refine za3 ?_; refine G.drawS [15, 17] rfl ?_; refine zcG ?_; refine GS.p 3 rfl za (qg_runs (rv_move rfl)) (fun _ h => h.drop 1) rfl ?_; refine GS.p 4 rfl za (qg_runs (rv_incr rfl rfl zb)) (fun _ h => h.drop 1) rfl ?_; refine GS.p 5 rfl za (qg_runs (rv_move rfl)) (fun _ h => h.drop 1) rfl ?_; refine GS.p 6 rfl za (qg_runs (rv_move rfl)) (fun _ h => h.drop 1) rfl ?_; refine GS.p 7 rfl za (qg_runs (rv_incr rfl rfl zb)) (fun _ h => h.drop 1) rfl ?_; refine GS.q 8 [9, 14, 15, 16, 17] rfl za za (qg_runs (rv_indexH rfl rfl zg rfl zO)) rfl ?_; refine GS.q 9 [14, 15, 16, 17] rfl za za (qg_runs (rv_loadE rfl zg zO rfl)) rfl ?_; refine GS.p 10 rfl za (qg_runs (rv_move rfl)) (fun _ h => h.drop 1) rfl ?_
              refine zbj (fun _ _ => ?_); refine zcb (fun _ _ => ?_); refine GS.done za ?_; refine zaO ?_
              refine G.backK (k + 1) 0 (one_eq (congrArg (fun z => Ch.row v 3 1 z) (row_up hak))) (.cons rfl (.cons rfl (.nil))) ?_ ?_ ?_
              exact ⟨rfl, trivial⟩
              exact ⟨by omega, by omega⟩
              omega
          · all_goals
             replace hc := of_decide_eq_false hc
             try (exfalso; omega)
             all_goals
              refine zaW ?_; refine G.ret (G.thenR ?_)
              exact G.retF0 (rotF f a (a + 1) i) ⟨(rot_frm zb zb).mono (Nat.le_refl _) zb, by obtain rfl : m = a + 1 := zb; exact put_left hs2 hcr hi zb hl (by (have hq : j = i := zb); rw [hq] at hr; exact hr)⟩ rfl rfl (fun w hw => by obtain rfl : i = k + 1 := zb; exact hw)
  refine zc1 ?_; refine zcu ?_; refine zef ?_; refine zdy ?_; refine G.condD rfl (fun hc => ?_) (fun hc => ?_)
  · refine G.seq ?_
    refine zbq ?_; refine zdS ?_; refine zbk ?_; refine G.block ?_; refine G.loopK (ι := Nat × Nat) (ks := [0, 2, 4]) (fun x => [(14, .int .i64 (x.1 : Int)), (15, .int .i64 (x.2 : Int))]) (fun _ => [.row v 3 1 (rowF n f)]) (fun x => a ≤ x.1 ∧ x.1 ≤ x.2 ∧ x.2 ≤ m ∧ (x.1 = a ∨ ¬ K (f m) < K (f (x.1 - 1))) ∧ (x.2 = m ∨ K (f m) < K (f x.2))) (fun x => x.2 - x.1) (a, m) (.cons rfl (.cons rfl (.cons rfl (.nil)))) rfl ?_ ?_ ?_
    exact ⟨Nat.le_refl _, by dsimp only; omega, Nat.le_refl _, .inl rfl, .inl rfl⟩
    exact ⟨rfl, rfl, trivial⟩
    rintro ⟨i, j⟩ ⟨hi, hij, hj, hl, hr⟩
    dsimp only at hi hij hj hl hr ⊢
    by_cases hlt : i < j
    case' pos => (have hfh := hfn ((i + j) / 2) zb zb; have eh : (rowF n f)[(i + j) / 2]? = some (icell (f ((i + j) / 2) : Int)) := rowF_get zb)
    all_goals
     refine zcu ?_; refine zaT ?_; refine G.cond rfl (fun hc => ?_) (fun hc => ?_)
     · all_goals
        replace hc := of_decide_eq_true hc
        try (exfalso; omega)
        all_goals
         refine zbS ?_; refine GE.q 3 rfl za rfl (qg_runs (rv_indexH rfl rfl zg rfl (by exact em))) rfl ?_; refine GE.q 4 rfl za rfl (qg_runs (rv_loadE rfl zg (by exact em) rfl)) rfl ?_; refine zet ?_; refine GE.ol 6 za rfl rfl (og_runs (rv_move rfl)) rfl zd (fun _ _ => ?_); refine GE.ol 7 za rfl rfl (og_runs (rv_indexH rfl rfl zg rfl (by exact eh))) rfl zd (fun _ _ => ?_)
         refine GE.ol 8 za rfl rfl (og_runs (rv_loadE rfl zg (by exact eh) rfl)) rfl zd (fun _ _ => ?_); refine GE.ol 9 za rfl rfl (og_callV rfl rfl (fun w hh => hcmp w hh.tail _ _ hfm hfh)) rfl zd (fun _ _ => ?_); refine GE.ol 10 za rfl rfl (og_runs (rv_lss rfl rfl)) rfl zd (fun _ _ => ?_); refine GE.ol 11 za rfl rfl (og_runs (rv_not rfl)) rfl zd (fun _ _ => ?_); refine zbm ?_; refine G.cond rfl (fun hc => ?_) (fun hc => ?_)
         · all_goals
            simp only [cmpZ_neg, Bool.not_eq_true', Bool.not_eq_false', decide_eq_false_iff_not, decide_eq_true_eq] at hc
            all_goals
             refine zbX ?_; refine G.inN ?_; refine G.backK ((i + j) / 2 + 1, j) 0 rfl (.cons rfl (.cons rfl (.cons rfl (.nil)))) (⟨rfl, rfl, trivial⟩) ?_ ?_
             exact ⟨by dsimp only; omega, by dsimp only; omega, by dsimp only; omega, .inr hc, hr⟩
             dsimp only; omega
         · all_goals
            simp only [cmpZ_neg, Bool.not_eq_true', Bool.not_eq_false', decide_eq_false_iff_not, decide_eq_true_eq] at hc
            all_goals
             refine zbq ?_; refine zbb ?_; refine G.inN ?_; refine G.backK (i, (i + j) / 2) 0 rfl (.cons rfl (.cons rfl (.cons rfl (.nil)))) (⟨rfl, rfl, trivial⟩) ?_ ?_
             exact ⟨by dsimp only; omega, by dsimp only; omega, by dsimp only; omega, hl, .inr hc⟩
             dsimp only; omega
     · all_goals
        replace hc := of_decide_eq_false hc
        try (exfalso; omega)
        all_goals
         refine zaW ?_; refine zeA ?_; refine zaL ?_; refine G.block (G.rowEq (rowF n (rotF f m m (m + 1))) (by rw [rot_id (Nat.le_refl _) zb (.inl rfl)]) rfl ?_); refine G.loopK (ι := Nat) (ks := [0, 14]) (fun k => [(17, .int .i64 (k : Int))]) (fun k => [.row v 3 1 (rowF n (rotF f k m (m + 1)))]) (fun k => i ≤ k ∧ k ≤ m) (fun k => k) m (.cons rfl (.cons rfl (.nil))) rfl ?_ ?_ ?_
         exact ⟨by omega, Nat.le_refl _⟩
         exact ⟨rfl, trivial⟩
         rintro k ⟨hik, hkm⟩
         by_cases hk2 : i < k
         case' pos => (have e1 : (rowF n (rotF f k m (m + 1)))[k]? = some (icell (f m : Int)) := (by rw [rowF_get zb, rot_lo (Nat.le_refl _) zb]; congr 4; omega); have e2 : (rowF n (rotF f k m (m + 1)))[k - 1]? = some (icell (f (k - 1) : Int)) := (by rw [rowF_get zb, rot_out hkm zb (.inl zb)]))
         all_goals
          refine zcu ?_; refine zdK ?_; refine zbe ?_; refine G.cond rfl (fun hc => ?_) (fun hc => ?_)
          · all_goals
             replace hc := of_decide_eq_true hc
             try (exfalso; omega)
             all_goals
              refine za8 ?_
              refine zbj (fun _ _ => ?_); refine zcb (fun _ _ => ?_); refine GS.done za ?_; refine G.inN (G.thenN ?_); refine zbq ?_; refine zeg ?_; refine zbb ?_
              refine G.backK (k - 1) 0 (one_eq (congrArg (fun z => Ch.row v 3 1 z) (by obtain ⟨q, rfl⟩ : ∃ q, k = q + 1 := ⟨k - 1, by omega⟩; exact row_dn zb))) (.cons rfl (.cons rfl (.nil))) ?_ ?_ ?_
              exact ⟨rfl, trivial⟩
              exact ⟨by omega, by omega⟩
              omega
          · all_goals
             replace hc := of_decide_eq_false hc
             try (exfalso; omega)
             all_goals
              refine zaW ?_; refine G.ret (G.thenR ?_)
              exact G.retF0 (rotF f i m (m + 1)) ⟨(rot_frm zb zb).mono zb zb, by obtain rfl : b = m + 1 := zb; exact put_right hs1 hcr hi zb hl (by (have hq : j = i := zb); rw [hq] at hr; exact hr)⟩ rfl rfl (fun w hw => by obtain rfl : i = k := zb; exact hw)
  refine zc1 ?_; refine zaZ ?_; refine G.v (rv_addN rfl rfl zb) rfl (G.v (rv_conv rfl) rfl (G.v (rv_shr rfl rfl zb) rfl (G.v (rv_half (m := (a + b) / 2) rfl rfl zb zb) rfl ?_))); refine zcQ ?_; refine G.v (rv_addN rfl rfl zb) rfl ?_; refine zfC ?_; refine zcD ?_; refine zbk ?_; refine zaZ ?_; refine zdK ?_; refine zbe ?_; refine G.condD rfl (fun hc => ?_) (fun hc => ?_)
  · obtain ⟨s0, hs0⟩ : ∃ y, y = (a + b) / 2 + m - b := ⟨_, rfl⟩
    obtain ⟨r0, hr0⟩ : ∃ y, y = (a + b) / 2 := ⟨_, rfl⟩
    have hL : s0 = a ∨ (a + b) / 2 + m - s0 = b := by omega
    have hR : r0 = m ∨ (a + b) / 2 + m - r0 = m := by omega
    refine zaZ ?_; refine zef ?_; refine zaL ?_; refine zbq ?_; refine zdS ?_; refine zeg ?_; refine zbk ?_; refine G.block ?_; refine G.loopK (ι := Nat × Nat) (ks := [0, 1, 2, 3, 4, 18, 19, 22]) (fun x => [(20, .int .i64 (x.1 : Int)), (21, .int .i64 (x.2 : Int))]) (fun _ => [.row v 3 1 (rowF n f)]) (fun x => s0 ≤ x.1 ∧ x.1 ≤ x.2 ∧ x.2 ≤ r0 ∧ (x.1 = s0 ∨ ¬ K (f ((a + b) / 2 + m - 1 - (x.1 - 1))) < K (f (x.1 - 1))) ∧ (x.2 = r0 ∨ K (f ((a + b) / 2 + m - 1 - x.2)) < K (f x.2))) (fun x => x.2 - x.1) (s0, r0) (.cons rfl (.cons rfl (.cons rfl (.cons rfl (.cons rfl (.cons rfl (.cons rfl (.cons rfl (.nil))))))))) rfl ?_ ?_ ?_
    exact ⟨Nat.le_refl _, by dsimp only; omega, Nat.le_refl _, .inl rfl, .inl rfl⟩
    exact ⟨congrArg (fun z : Nat => some (Value.int .i64 (z : Int))) hs0.symm, congrArg (fun z : Nat => some (Value.int .i64 (z : Int))) hr0.symm, trivial⟩
    rintro ⟨i, j⟩ ⟨hi, hij, hj, hl, hr⟩
    dsimp only at hi hij hj hl hr ⊢
    have ham : a ≤ s0 ∧ r0 ≤ m ∧ r0 ≤ (a + b) / 2 ∧ (a + b) / 2 + m - s0 ≤ b := by omega
    by_cases hlt : i < j
    case' pos => (have hfh := hfn ((i + j) / 2) zb zb; have eh : (rowF n f)[(i + j) / 2]? = some (icell (f ((i + j) / 2) : Int)) := rowF_get zb; have hfp := hfn ((a + b) / 2 + m - 1 - (i + j) / 2) zb zb; have ep : (rowF n f)[(a + b) / 2 + m - 1 - (i + j) / 2]? = some (icell (f ((a + b) / 2 + m - 1 - (i + j) / 2) : Int)) := rowF_get zb)
    case' neg => (obtain rfl : j = i := zb; have hmid := mid_of (st := j) (en := (a + b) / 2 + m - j) (mid := (a + b) / 2) hs1 hs2 hcr zb zb zb zb zb zb zb z7 zah; have hfr : Frm a b f (rotF f j m ((a + b) / 2 + m - j)) := (rot_frm zb zb).mono zb zb)
    all_goals
     refine zcu ?_; refine zaT ?_; refine G.cond rfl (fun hc => ?_) (fun hc => ?_)
     · all_goals
        replace hc := of_decide_eq_true hc
        try (exfalso; omega)
        all_goals
         refine zbS ?_; refine zbO ?_; refine zcU (fun _ _ => ?_)
         refine GE.ol 9 za rfl rfl (og_runs (rv_indexH rfl rfl zg rfl (by exact eh))) rfl zd (fun _ _ => ?_); refine GE.ol 10 za rfl rfl (og_runs (rv_loadE rfl zg (by exact eh) rfl)) rfl zd (fun _ _ => ?_); refine GE.ol 11 za rfl rfl (og_callV rfl rfl (fun w hh => hcmp w hh.tail _ _ hfp hfh)) rfl zd (fun _ _ => ?_); refine GE.ol 12 za rfl rfl (og_runs (rv_lss rfl rfl)) rfl zd (fun _ _ => ?_); refine GE.ol 13 za rfl rfl (og_runs (rv_not rfl)) rfl zd (fun _ _ => ?_); refine zbm ?_; refine G.cond rfl (fun hc => ?_) (fun hc => ?_)
         · all_goals
            simp only [cmpZ_neg, Bool.not_eq_true', Bool.not_eq_false', decide_eq_false_iff_not, decide_eq_true_eq] at hc
            all_goals
             refine zbX ?_; refine G.inN ?_; refine G.backK ((i + j) / 2 + 1, j) 0 rfl (.cons rfl (.cons rfl (.cons rfl (.cons rfl (.cons rfl (.cons rfl (.cons rfl (.cons rfl (.nil))))))))) (⟨rfl, rfl, trivial⟩) ?_ ?_
             exact ⟨by dsimp only; omega, by dsimp only; omega, by dsimp only; omega, .inr hc, hr⟩
             dsimp only; omega
         · all_goals
            simp only [cmpZ_neg, Bool.not_eq_true', Bool.not_eq_false', decide_eq_false_iff_not, decide_eq_true_eq] at hc
            all_goals
             refine zbq ?_; refine zbb ?_; refine G.inN ?_; refine G.backK (i, (i + j) / 2) 0 rfl (.cons rfl (.cons rfl (.cons rfl (.cons rfl (.cons rfl (.cons rfl (.cons rfl (.cons rfl (.nil))))))))) (⟨rfl, rfl, trivial⟩) ?_ ?_
             exact ⟨by dsimp only; omega, by dsimp only; omega, by dsimp only; omega, hl, .inr hc⟩
             dsimp only; omega
     · all_goals
        replace hc := of_decide_eq_false hc
        try (exfalso; omega)
        all_goals
         refine zaW ?_; refine zaZ ?_; refine zef ?_; refine zbk ?_; refine zaZ ?_; refine zcP ?_
         all_goals (((with_reducible refine G.gP rfl rfl (fun hg => ?_) (fun hg => ?_)) <;> (try exact Bool.noConfusion hg) <;> (try (exfalso; (have hq := of_decide_eq_false hg; omega))) <;> ((refine zbr ?_))))
         all_goals (((refine zbr ?_)))
         all_goals (((refine zcj ?_)))
         all_goals ((refine zba ?_))
         all_goals
          refine zbe ?_; refine G.cond rfl (fun hc => ?_) (fun hc => ?_)
          · all_goals
             replace hc := of_decide_eq_true hc
             all_goals
              refine zdH ?_; refine zbH ?_
              (refine zdd ?_); refine G.op (og_callMM1 rfl rfl rfl (rotate_any zb zb zb hn)) rfl ?_; rintro ⟨⟩ _; try dsimp only
              refine zbe ?_; refine zcu ?_; refine zcP ?_
              all_goals (((with_reducible refine G.gP rfl rfl (fun hg => ?_) (fun hg => ?_)) <;> (try exact Bool.noConfusion hg) <;> (try (exfalso; (have hq := of_decide_eq_false hg; omega))) <;> (first | (refine zbr ?_) | refine zaP ?_)))
              all_goals ((first | (refine zbr ?_) | refine zaP ?_))
              all_goals ((first | (refine zcj ?_) | refine zaP ?_))
              all_goals ((first | refine zba ?_ | refine zbc ?_))
              all_goals
               refine zbe ?_; refine G.cond rfl (fun hc => ?_) (fun hc => ?_)
               · try exact Bool.noConfusion hc
                 all_goals
                  replace hc := of_decide_eq_true hc
                  all_goals
                   refine zdH ?_; refine zbH ?_
                   (refine zdd ?_); refine zdn ?_; rintro g1 ⟨hf1, hm1⟩; try dsimp only
                   refine zbe ?_; refine zaZ ?_; refine zcP ?_
                   all_goals (((with_reducible refine G.gP rfl rfl (fun hg => ?_) (fun hg => ?_)) <;> (try exact Bool.noConfusion hg) <;> (try (exfalso; (have hq := of_decide_eq_false hg; omega))) <;> ((refine zbr ?_))))
                   all_goals (((refine zbr ?_)))
                   all_goals (((refine zcj ?_)))
                   all_goals ((refine zba ?_))
                   all_goals
                    refine zbe ?_; refine G.cond rfl (fun hc => ?_) (fun hc => ?_)
                    · all_goals
                       replace hc := of_decide_eq_true hc
                       all_goals
                        have h3 := hf1.srt_hi (Nat.le_refl _) hmid.s3
                        have h4 := hf1.srt_hi zb hmid.s4
                        have h5 := hf1.crs_hi (Nat.le_refl _) zb hmid.c2
                        all_goals
                         refine zdH ?_; refine zbH ?_
                         (refine zdd ?_); refine zdU ?_; rintro g2 ⟨hf2, hm2⟩; try dsimp only
                         refine G.done ?_
                         exact G.endF0 g2 ⟨hfr.trans ((hf1.mono (Nat.le_refl _) zb).trans (hf2.mono zb (Nat.le_refl _))), srt_join hmid.lr hf1 hm1 hf2 hm2⟩ rfl rfl (fun w hw => hw)
                    · all_goals
                       replace hc := of_decide_eq_false hc
                       all_goals
                        have h3 := hf1.srt_hi (Nat.le_refl _) hmid.s3
                        have h4 := hf1.srt_hi zb hmid.s4
                        obtain ⟨g2, hg2⟩ : ∃ y, y = g1 := ⟨_, rfl⟩
                        have hf2 : Frm ((a + b) / 2) b g1 g2 := hg2 ▸ Frm.refl _ _ _
                        have hm2 : Srt K ((a + b) / 2) b g2 := hg2 ▸ srt_of h3 h4 zb zb zb
                        refine ze8 ?_
                        all_goals
                         refine G.skip ?_
                         exact G.endF0 g2 ⟨hfr.trans ((hf1.mono (Nat.le_refl _) zb).trans (hf2.mono zb (Nat.le_refl _))), srt_join hmid.lr hf1 hm1 hf2 hm2⟩ rfl rfl (fun w hw => hw)
               · all_goals
                  try replace hc := of_decide_eq_false hc
                  try simp only [cmpZ_neg, Bool.not_eq_true', Bool.not_eq_false', decide_eq_false_iff_not, decide_eq_true_eq] at hc
                  try (exfalso; omega)
                  all_goals
                   obtain ⟨g1, hg1⟩ : ∃ y, y = rotF f j m ((a + b) / 2 + m - j) := ⟨_, rfl⟩
                   have hf1 : Frm a ((a + b) / 2) (rotF f j m ((a + b) / 2 + m - j)) g1 := hg1 ▸ Frm.refl _ _ _
                   have hm1 : Srt K a ((a + b) / 2) g1 := hg1 ▸ srt_of hmid.s1 hmid.s2 (by (have hq := of_decide_eq_false hg; omega)) zb zb
                   refine G.rowEq (rowF n g1) (by rw [hg1]) rfl ?_
                   all_goals
                    refine zc1 ?_; refine zaZ ?_; refine zcP ?_
                    all_goals (((with_reducible refine G.gP rfl rfl (fun hg => ?_) (fun hg => ?_)) <;> (try exact Bool.noConfusion hg) <;> (try (exfalso; (have hq := of_decide_eq_false hg; omega))) <;> ((refine zbr ?_))))
                    all_goals (((refine zbr ?_)))
                    all_goals (((refine zcj ?_)))
                    all_goals ((refine zba ?_))
                    all_goals
                     refine zbe ?_; refine G.cond rfl (fun hc => ?_) (fun hc => ?_)
                     · all_goals
                        replace hc := of_decide_eq_true hc
                        all_goals
                         have h3 := hf1.srt_hi (Nat.le_refl _) hmid.s3
                         have h4 := hf1.srt_hi zb hmid.s4
                         have h5 := hf1.crs_hi (Nat.le_refl _) zb hmid.c2
                         all_goals
                          refine zdH ?_; refine zbH ?_
                          (refine zdd ?_); refine zdU ?_; rintro g2 ⟨hf2, hm2⟩; try dsimp only
                          refine G.done ?_
                          exact G.endF0 g2 ⟨hfr.trans ((hf1.mono (Nat.le_refl _) zb).trans (hf2.mono zb (Nat.le_refl _))), srt_join hmid.lr hf1 hm1 hf2 hm2⟩ rfl rfl (fun w hw => hw)
                     · all_goals
                        replace hc := of_decide_eq_false hc
                        all_goals
                         have h3 := hf1.srt_hi (Nat.le_refl _) hmid.s3
                         have h4 := hf1.srt_hi zb hmid.s4
                         obtain ⟨g2, hg2⟩ : ∃ y, y = g1 := ⟨_, rfl⟩
                         have hf2 : Frm ((a + b) / 2) b g1 g2 := hg2 ▸ Frm.refl _ _ _
                         have hm2 : Srt K ((a + b) / 2) b g2 := hg2 ▸ srt_of h3 h4 zb zb zb
                         refine ze8 ?_
                         all_goals
                          refine G.skip ?_
                          exact G.endF0 g2 ⟨hfr.trans ((hf1.mono (Nat.le_refl _) zb).trans (hf2.mono zb (Nat.le_refl _))), srt_join hmid.lr hf1 hm1 hf2 hm2⟩ rfl rfl (fun w hw => hw)
          · all_goals
             replace hc := of_decide_eq_false hc
             all_goals
              refine G.rowEq (rowF n (rotF f j m ((a + b) / 2 + m - j))) (by rw [rot_id zb zb zb]) rfl ?_
              all_goals
               refine zc1 ?_; refine zcu ?_; refine zcP ?_
               all_goals (((with_reducible refine G.gP rfl rfl (fun hg => ?_) (fun hg => ?_)) <;> (try exact Bool.noConfusion hg) <;> (try (exfalso; (have hq := of_decide_eq_false hg; omega))) <;> ((refine zbr ?_))))
               all_goals (((refine zbr ?_)))
               all_goals (((refine zcj ?_)))
               all_goals ((refine zba ?_))
               all_goals
                refine zbe ?_; refine G.cond rfl (fun hc => ?_) (fun hc => ?_)
                · all_goals
                   replace hc := of_decide_eq_true hc
                   exfalso; omega
                · all_goals
                   replace hc := of_decide_eq_false hc
                   all_goals
                    obtain ⟨g1, hg1⟩ : ∃ y, y = rotF f j m ((a + b) / 2 + m - j) := ⟨_, rfl⟩
                    have hf1 : Frm a ((a + b) / 2) (rotF f j m ((a + b) / 2 + m - j)) g1 := hg1 ▸ Frm.refl _ _ _
                    have hm1 : Srt K a ((a + b) / 2) g1 := hg1 ▸ srt_of hmid.s1 hmid.s2 zb zb zb
                    refine G.rowEq (rowF n g1) (by rw [hg1]) rfl ?_
                    all_goals
                     refine zc1 ?_; refine zaZ ?_; refine zcP ?_
                     all_goals (((with_reducible refine G.gP rfl rfl (fun hg => ?_) (fun hg => ?_)) <;> (try exact Bool.noConfusion hg) <;> (try (exfalso; (have hq := of_decide_eq_false hg; omega))) <;> ((refine zbr ?_))))
                     all_goals (((refine zbr ?_)))
                     all_goals (((refine zcj ?_)))
                     all_goals ((refine zba ?_))
                     all_goals
                      refine zbe ?_; refine G.cond rfl (fun hc => ?_) (fun hc => ?_)
                      · all_goals
                         replace hc := of_decide_eq_true hc
                         all_goals
                          have h3 := hf1.srt_hi (Nat.le_refl _) hmid.s3
                          have h4 := hf1.srt_hi zb hmid.s4
                          have h5 := hf1.crs_hi (Nat.le_refl _) zb hmid.c2
                          all_goals
                           refine zdH ?_; refine zbH ?_
                           (refine zdd ?_); refine zdU ?_; rintro g2 ⟨hf2, hm2⟩; try dsimp only
                           refine G.done ?_
                           exact G.endF0 g2 ⟨hfr.trans ((hf1.mono (Nat.le_refl _) zb).trans (hf2.mono zb (Nat.le_refl _))), srt_join hmid.lr hf1 hm1 hf2 hm2⟩ rfl rfl (fun w hw => hw)
                      · all_goals
                         replace hc := of_decide_eq_false hc
                         exfalso; omega
  · obtain ⟨s0, hs0⟩ : ∃ y, y = a := ⟨_, rfl⟩
    obtain ⟨r0, hr0⟩ : ∃ y, y = m := ⟨_, rfl⟩
    have hL : s0 = a ∨ (a + b) / 2 + m - s0 = b := by omega
    have hR : r0 = m ∨ (a + b) / 2 + m - r0 = m := by omega
    refine zaN ?_; refine zaL ?_; refine zbq ?_; refine zdS ?_; refine zeg ?_; refine zbk ?_; refine G.block ?_; refine G.loopK (ι := Nat × Nat) (ks := [0, 1, 2, 3, 4, 18, 19, 22]) (fun x => [(20, .int .i64 (x.1 : Int)), (21, .int .i64 (x.2 : Int))]) (fun _ => [.row v 3 1 (rowF n f)]) (fun x => s0 ≤ x.1 ∧ x.1 ≤ x.2 ∧ x.2 ≤ r0 ∧ (x.1 = s0 ∨ ¬ K (f ((a + b) / 2 + m - 1 - (x.1 - 1))) < K (f (x.1 - 1))) ∧ (x.2 = r0 ∨ K (f ((a + b) / 2 + m - 1 - x.2)) < K (f x.2))) (fun x => x.2 - x.1) (s0, r0) (.cons rfl (.cons rfl (.cons rfl (.cons rfl (.cons rfl (.cons rfl (.cons rfl (.cons rfl (.nil))))))))) rfl ?_ ?_ ?_
    exact ⟨Nat.le_refl _, by dsimp only; omega, Nat.le_refl _, .inl rfl, .inl rfl⟩
    exact ⟨congrArg (fun z : Nat => some (Value.int .i64 (z : Int))) hs0.symm, congrArg (fun z : Nat => some (Value.int .i64 (z : Int))) hr0.symm, trivial⟩
    rintro ⟨i, j⟩ ⟨hi, hij, hj, hl, hr⟩
    dsimp only at hi hij hj hl hr ⊢
    have ham : a ≤ s0 ∧ r0 ≤ m ∧ r0 ≤ (a + b) / 2 ∧ (a + b) / 2 + m - s0 ≤ b := by omega
    by_cases hlt : i < j
    case' pos => (have hfh := hfn ((i + j) / 2) zb zb; have eh : (rowF n f)[(i + j) / 2]? = some (icell (f ((i + j) / 2) : Int)) := rowF_get zb; have hfp := hfn ((a + b) / 2 + m - 1 - (i + j) / 2) zb zb; have ep : (rowF n f)[(a + b) / 2 + m - 1 - (i + j) / 2]? = some (icell (f ((a + b) / 2 + m - 1 - (i + j) / 2) : Int)) := rowF_get zb)
    case' neg => (obtain rfl : j = i := zb; have hmid := mid_of (st := j) (en := (a + b) / 2 + m - j) (mid := (a + b) / 2) hs1 hs2 hcr zb zb zb zb zb zb zb z7 zah; have hfr : Frm a b f (rotF f j m ((a + b) / 2 + m - j)) := (rot_frm zb zb).mono zb zb)
    all_goals
     refine zcu ?_; refine zaT ?_; refine G.cond rfl (fun hc => ?_) (fun hc => ?_)
     · all_goals
        replace hc := of_decide_eq_true hc
        try (exfalso; omega)
        all_goals
         refine zbS ?_; refine zbO ?_; refine zcU (fun _ _ => ?_)
         refine GE.ol 9 za rfl rfl (og_runs (rv_indexH rfl rfl zg rfl (by exact eh))) rfl zd (fun _ _ => ?_); refine GE.ol 10 za rfl rfl (og_runs (rv_loadE rfl zg (by exact eh) rfl)) rfl zd (fun _ _ => ?_); refine GE.ol 11 za rfl rfl (og_callV rfl rfl (fun w hh => hcmp w hh.tail _ _ hfp hfh)) rfl zd (fun _ _ => ?_); refine GE.ol 12 za rfl rfl (og_runs (rv_lss rfl rfl)) rfl zd (fun _ _ => ?_); refine GE.ol 13 za rfl rfl (og_runs (rv_not rfl)) rfl zd (fun _ _ => ?_); refine zbm ?_; refine G.cond rfl (fun hc => ?_) (fun hc => ?_)
         · all_goals
            simp only [cmpZ_neg, Bool.not_eq_true', Bool.not_eq_false', decide_eq_false_iff_not, decide_eq_true_eq] at hc
            all_goals
             refine zbX ?_; refine G.inN ?_; refine G.backK ((i + j) / 2 + 1, j) 0 rfl (.cons rfl (.cons rfl (.cons rfl (.cons rfl (.cons rfl (.cons rfl (.cons rfl (.cons rfl (.nil))))))))) (⟨rfl, rfl, trivial⟩) ?_ ?_
             exact ⟨by dsimp only; omega, by dsimp only; omega, by dsimp only; omega, .inr hc, hr⟩
             dsimp only; omega
         · all_goals
            simp only [cmpZ_neg, Bool.not_eq_true', Bool.not_eq_false', decide_eq_false_iff_not, decide_eq_true_eq] at hc
            all_goals
             refine zbq ?_; refine zbb ?_; refine G.inN ?_; refine G.backK (i, (i + j) / 2) 0 rfl (.cons rfl (.cons rfl (.cons rfl (.cons rfl (.cons rfl (.cons rfl (.cons rfl (.cons rfl (.nil))))))))) (⟨rfl, rfl, trivial⟩) ?_ ?_
             exact ⟨by dsimp only; omega, by dsimp only; omega, by dsimp only; omega, hl, .inr hc⟩
             dsimp only; omega
     · all_goals
        replace hc := of_decide_eq_false hc
        try (exfalso; omega)
        all_goals
         refine zaW ?_; refine zaZ ?_; refine zef ?_; refine zbk ?_; refine zaZ ?_; refine zcP ?_
         all_goals (((with_reducible refine G.gP rfl rfl (fun hg => ?_) (fun hg => ?_)) <;> (try exact Bool.noConfusion hg) <;> (try (exfalso; (have hq := of_decide_eq_false hg; omega))) <;> (first | (refine zbr ?_) | refine zaP ?_)))
         all_goals ((first | (refine zbr ?_) | refine zaP ?_))
         all_goals ((first | (refine zcj ?_) | refine zaP ?_))
         all_goals ((first | refine zba ?_ | refine zbc ?_))
         all_goals
          refine zbe ?_; refine G.cond rfl (fun hc => ?_) (fun hc => ?_)
          · try exact Bool.noConfusion hc
            all_goals
             replace hc := of_decide_eq_true hc
             all_goals
              refine zdH ?_; refine zbH ?_
              (refine zdd ?_); refine G.op (og_callMM1 rfl rfl rfl (rotate_any (by (have hq := of_decide_eq_true hg; omega)) zb zb hn)) rfl ?_; rintro ⟨⟩ _; try dsimp only
              refine zbe ?_; refine zcu ?_; refine zcP ?_
              all_goals (((with_reducible refine G.gP rfl rfl (fun hg => ?_) (fun hg => ?_)) <;> (try exact Bool.noConfusion hg) <;> (try (exfalso; (have hq := of_decide_eq_false hg; omega))) <;> (first | (refine zbr ?_) | refine zaP ?_)))
              all_goals ((first | (refine zbr ?_) | refine zaP ?_))
              all_goals ((first | (refine zcj ?_) | refine zaP ?_))
              all_goals ((first | refine zba ?_ | refine zbc ?_))
              all_goals
               refine zbe ?_; refine G.cond rfl (fun hc => ?_) (fun hc => ?_)
               · try exact Bool.noConfusion hc
                 all_goals
                  replace hc := of_decide_eq_true hc
                  all_goals
                   refine zdH ?_; refine zbH ?_
                   (refine zdd ?_); refine zdn ?_; rintro g1 ⟨hf1, hm1⟩; try dsimp only
                   refine zbe ?_; refine zaZ ?_; refine zcP ?_
                   all_goals (((with_reducible refine G.gP rfl rfl (fun hg => ?_) (fun hg => ?_)) <;> (try exact Bool.noConfusion hg) <;> (try (exfalso; (have hq := of_decide_eq_false hg; omega))) <;> (first | (refine zbr ?_) | refine zaP ?_)))
                   all_goals ((first | (refine zbr ?_) | refine zaP ?_))
                   all_goals ((first | (refine zcj ?_) | refine zaP ?_))
                   all_goals ((first | refine zba ?_ | refine zbc ?_))
                   all_goals
                    refine zbe ?_; refine G.cond rfl (fun hc => ?_) (fun hc => ?_)
                    · try exact Bool.noConfusion hc
                      all_goals
                       replace hc := of_decide_eq_true hc
                       all_goals
                        have h3 := hf1.srt_hi (Nat.le_refl _) hmid.s3
                        have h4 := hf1.srt_hi zb hmid.s4
                        have h5 := hf1.crs_hi (Nat.le_refl _) zb hmid.c2
                        all_goals
                         refine zdH ?_; refine zbH ?_
                         (refine zdd ?_); refine zcm ?_; rintro g2 ⟨hf2, hm2⟩; try dsimp only
                         refine G.done ?_
                         exact G.endF0 g2 ⟨hfr.trans ((hf1.mono (Nat.le_refl _) zb).trans (hf2.mono zb (Nat.le_refl _))), srt_join hmid.lr hf1 hm1 hf2 hm2⟩ rfl rfl (fun w hw => hw)
                    · all_goals
                       try replace hc := of_decide_eq_false hc
                       try simp only [cmpZ_neg, Bool.not_eq_true', Bool.not_eq_false', decide_eq_false_iff_not, decide_eq_true_eq] at hc
                       all_goals
                        have h3 := hf1.srt_hi (Nat.le_refl _) hmid.s3
                        have h4 := hf1.srt_hi zb hmid.s4
                        obtain ⟨g2, hg2⟩ : ∃ y, y = g1 := ⟨_, rfl⟩
                        have hf2 : Frm ((a + b) / 2) b g1 g2 := hg2 ▸ Frm.refl _ _ _
                        have hm2 : Srt K ((a + b) / 2) b g2 := hg2 ▸ srt_of h3 h4 (by first | omega | (have hq := of_decide_eq_false hg; omega)) zb zb
                        refine ze8 ?_
                        all_goals
                         refine G.skip ?_
                         exact G.endF0 g2 ⟨hfr.trans ((hf1.mono (Nat.le_refl _) zb).trans (hf2.mono zb (Nat.le_refl _))), srt_join hmid.lr hf1 hm1 hf2 hm2⟩ rfl rfl (fun w hw => hw)
               · all_goals
                  try replace hc := of_decide_eq_false hc
                  try simp only [cmpZ_neg, Bool.not_eq_true', Bool.not_eq_false', decide_eq_false_iff_not, decide_eq_true_eq] at hc
                  try (exfalso; omega)
                  all_goals
                   obtain ⟨g1, hg1⟩ : ∃ y, y = rotF f j m ((a + b) / 2 + m - j) := ⟨_, rfl⟩
                   have hf1 : Frm a ((a + b) / 2) (rotF f j m ((a + b) / 2 + m - j)) g1 := hg1 ▸ Frm.refl _ _ _
                   have hm1 : Srt K a ((a + b) / 2) g1 := hg1 ▸ srt_of hmid.s1 hmid.s2 (by (have hq := of_decide_eq_false hg; omega)) zb zb
                   refine G.rowEq (rowF n g1) (by rw [hg1]) rfl ?_
                   all_goals
                    refine zc1 ?_; refine zaZ ?_; refine zcP ?_
                    all_goals (((with_reducible refine G.gP rfl rfl (fun hg => ?_) (fun hg => ?_)) <;> (try exact Bool.noConfusion hg) <;> (try (exfalso; (have hq := of_decide_eq_false hg; omega))) <;> (first | (refine zbr ?_) | refine zaP ?_)))
                    all_goals ((first | (refine zbr ?_) | refine zaP ?_))
                    all_goals ((first | (refine zcj ?_) | refine zaP ?_))
                    all_goals ((first | refine zba ?_ | refine zbc ?_))
                    all_goals
                     refine zbe ?_; refine G.cond rfl (fun hc => ?_) (fun hc => ?_)
                     · try exact Bool.noConfusion hc
                       all_goals
                        replace hc := of_decide_eq_true hc
                        all_goals
                         have h3 := hf1.srt_hi (Nat.le_refl _) hmid.s3
                         have h4 := hf1.srt_hi zb hmid.s4
                         have h5 := hf1.crs_hi (Nat.le_refl _) zb hmid.c2
                         all_goals
                          refine zdH ?_; refine zbH ?_
                          (refine zdd ?_); refine zcm ?_; rintro g2 ⟨hf2, hm2⟩; try dsimp only
                          refine G.done ?_
                          exact G.endF0 g2 ⟨hfr.trans ((hf1.mono (Nat.le_refl _) zb).trans (hf2.mono zb (Nat.le_refl _))), srt_join hmid.lr hf1 hm1 hf2 hm2⟩ rfl rfl (fun w hw => hw)
                     · all_goals
                        try replace hc := of_decide_eq_false hc
                        try simp only [cmpZ_neg, Bool.not_eq_true', Bool.not_eq_false', decide_eq_false_iff_not, decide_eq_true_eq] at hc
                        all_goals
                         have h3 := hf1.srt_hi (Nat.le_refl _) hmid.s3
                         have h4 := hf1.srt_hi zb hmid.s4
                         obtain ⟨g2, hg2⟩ : ∃ y, y = g1 := ⟨_, rfl⟩
                         have hf2 : Frm ((a + b) / 2) b g1 g2 := hg2 ▸ Frm.refl _ _ _
                         have hm2 : Srt K ((a + b) / 2) b g2 := hg2 ▸ srt_of h3 h4 (by first | omega | (have hq := of_decide_eq_false hg; omega)) zb zb
                         refine ze8 ?_
                         all_goals
                          refine G.skip ?_
                          exact G.endF0 g2 ⟨hfr.trans ((hf1.mono (Nat.le_refl _) zb).trans (hf2.mono zb (Nat.le_refl _))), srt_join hmid.lr hf1 hm1 hf2 hm2⟩ rfl rfl (fun w hw => hw)
          · all_goals
             try replace hc := of_decide_eq_false hc
             try simp only [cmpZ_neg, Bool.not_eq_true', Bool.not_eq_false', decide_eq_false_iff_not, decide_eq_true_eq] at hc
             all_goals
              refine G.rowEq (rowF n (rotF f j m ((a + b) / 2 + m - j))) (by rw [rot_id zb zb (by first | omega | (have hq := of_decide_eq_false hg; omega))]) rfl ?_
              all_goals
               refine zc1 ?_; refine zcu ?_; refine zcP ?_
               all_goals (((with_reducible refine G.gP rfl rfl (fun hg => ?_) (fun hg => ?_)) <;> (try exact Bool.noConfusion hg) <;> (try (exfalso; (have hq := of_decide_eq_false hg; omega))) <;> (first | (refine zbr ?_) | refine zaP ?_)))
               all_goals ((first | (refine zbr ?_) | refine zaP ?_))
               all_goals ((first | (refine zcj ?_) | refine zaP ?_))
               all_goals ((first | refine zba ?_ | refine zbc ?_))
               all_goals
                refine zbe ?_; refine G.cond rfl (fun hc => ?_) (fun hc => ?_)
                · try exact Bool.noConfusion hc
                  all_goals
                   replace hc := of_decide_eq_true hc
                   try (exfalso; omega)
                   all_goals
                    refine zdH ?_; refine zbH ?_
                    (refine zdd ?_); refine zdn ?_; rintro g1 ⟨hf1, hm1⟩; try dsimp only
                    refine zbe ?_; refine zaZ ?_; refine zcP ?_
                    all_goals (((with_reducible refine G.gP rfl rfl (fun hg => ?_) (fun hg => ?_)) <;> (try exact Bool.noConfusion hg) <;> (try (exfalso; (have hq := of_decide_eq_false hg; omega))) <;> (first | (refine zbr ?_) | refine zaP ?_)))
                    all_goals ((first | (refine zbr ?_) | refine zaP ?_))
                    all_goals ((first | (refine zcj ?_) | refine zaP ?_))
                    all_goals ((first | refine zba ?_ | refine zbc ?_))
                    all_goals
                     refine zbe ?_; refine G.cond rfl (fun hc => ?_) (fun hc => ?_)
                     · try exact Bool.noConfusion hc
                       all_goals
                        replace hc := of_decide_eq_true hc
                        all_goals
                         have h3 := hf1.srt_hi (Nat.le_refl _) hmid.s3
                         have h4 := hf1.srt_hi zb hmid.s4
                         have h5 := hf1.crs_hi (Nat.le_refl _) zb hmid.c2
                         all_goals
                          refine zdH ?_; refine zbH ?_
                          (refine zdd ?_); refine zcm ?_; rintro g2 ⟨hf2, hm2⟩; try dsimp only
                          refine G.done ?_
                          exact G.endF0 g2 ⟨hfr.trans ((hf1.mono (Nat.le_refl _) zb).trans (hf2.mono zb (Nat.le_refl _))), srt_join hmid.lr hf1 hm1 hf2 hm2⟩ rfl rfl (fun w hw => hw)
                     · all_goals
                        try replace hc := of_decide_eq_false hc
                        try simp only [cmpZ_neg, Bool.not_eq_true', Bool.not_eq_false', decide_eq_false_iff_not, decide_eq_true_eq] at hc
                        all_goals
                         have h3 := hf1.srt_hi (Nat.le_refl _) hmid.s3
                         have h4 := hf1.srt_hi zb hmid.s4
                         obtain ⟨g2, hg2⟩ : ∃ y, y = g1 := ⟨_, rfl⟩
                         have hf2 : Frm ((a + b) / 2) b g1 g2 := hg2 ▸ Frm.refl _ _ _
                         have hm2 : Srt K ((a + b) / 2) b g2 := hg2 ▸ srt_of h3 h4 (by first | omega | (have hq := of_decide_eq_false hg; omega)) zb zb
                         refine ze8 ?_
                         all_goals
                          refine G.skip ?_
                          exact G.endF0 g2 ⟨hfr.trans ((hf1.mono (Nat.le_refl _) zb).trans (hf2.mono zb (Nat.le_refl _))), srt_join hmid.lr hf1 hm1 hf2 hm2⟩ rfl rfl (fun w hw => hw)
                · all_goals
                   try replace hc := of_decide_eq_false hc
                   try simp only [cmpZ_neg, Bool.not_eq_true', Bool.not_eq_false', decide_eq_false_iff_not, decide_eq_true_eq] at hc
                   all_goals
                    obtain ⟨g1, hg1⟩ : ∃ y, y = rotF f j m ((a + b) / 2 + m - j) := ⟨_, rfl⟩
                    have hf1 : Frm a ((a + b) / 2) (rotF f j m ((a + b) / 2 + m - j)) g1 := hg1 ▸ Frm.refl _ _ _
                    have hm1 : Srt K a ((a + b) / 2) g1 := hg1 ▸ srt_of hmid.s1 hmid.s2 (by first | omega | (have hq := of_decide_eq_false hg; omega)) zb zb
                    refine G.rowEq (rowF n g1) (by rw [hg1]) rfl ?_
                    all_goals
                     refine zc1 ?_; refine zaZ ?_; refine zcP ?_
                     all_goals (((with_reducible refine G.gP rfl rfl (fun hg => ?_) (fun hg => ?_)) <;> (try exact Bool.noConfusion hg) <;> (try (exfalso; (have hq := of_decide_eq_true hg; omega); done)) <;> (first | (refine zbr ?_) | refine zaP ?_)))
                     all_goals ((first | (refine zbr ?_) | refine zaP ?_))
                     all_goals ((first | (refine zcj ?_) | refine zaP ?_))
                     all_goals ((first | refine zba ?_ | refine zbc ?_))
                     all_goals
                      refine zbe ?_; refine G.cond rfl (fun hc => ?_) (fun hc => ?_)
                      · try exact Bool.noConfusion hc
                        all_goals
                         replace hc := of_decide_eq_true hc
                         all_goals
                          have h3 := hf1.srt_hi (Nat.le_refl _) hmid.s3
                          have h4 := hf1.srt_hi zb hmid.s4
                          have h5 := hf1.crs_hi (Nat.le_refl _) zb hmid.c2
                          all_goals
                           refine zdH ?_; refine zbH ?_
                           (refine zdd ?_); refine zcm ?_; rintro g2 ⟨hf2, hm2⟩; try dsimp only
                           refine G.done ?_
                           exact G.endF0 g2 ⟨hfr.trans ((hf1.mono (Nat.le_refl _) zb).trans (hf2.mono zb (Nat.le_refl _))), srt_join hmid.lr hf1 hm1 hf2 hm2⟩ rfl rfl (fun w hw => hw)
                      · all_goals
                         try replace hc := of_decide_eq_false hc
                         try simp only [cmpZ_neg, Bool.not_eq_true', Bool.not_eq_false', decide_eq_false_iff_not, decide_eq_true_eq] at hc
                         all_goals
                          have h3 := hf1.srt_hi (Nat.le_refl _) hmid.s3
                          have h4 := hf1.srt_hi zb hmid.s4
                          obtain ⟨g2, hg2⟩ : ∃ y, y = g1 := ⟨_, rfl⟩
                          have hf2 : Frm ((a + b) / 2) b g1 g2 := hg2 ▸ Frm.refl _ _ _
                          have hm2 : Srt K ((a + b) / 2) b g2 := hg2 ▸ srt_of h3 h4 (by first | omega | (have hq := of_decide_eq_false hg; omega)) zb zb
                          refine ze8 ?_
                          all_goals
                           refine G.skip ?_
                           exact G.endF0 g2 ⟨hfr.trans ((hf1.mono (Nat.le_refl _) zb).trans (hf2.mono zb (Nat.le_refl _))), srt_join hmid.lr hf1 hm1 hf2 hm2⟩ rfl rfl (fun w hw => hw)
end
section
variable {w0 : World} {F : List Ch} {v : Value} {n : Nat} {g : Nat} [FnOk Tryz.prog g] {caps : List Value} {K : Nat → Int}
theorem stable_any (hcmp : ∀ w, HeapOk w0 w F → ∀ i j : Nat, i < n → j < n → FnV Tryz.prog g ([.int .i64 (i : Int), .int .i64 (j : Int)] ++ caps) w (.int .i64 (cmpZ (K i) (K j)))) (hn : n ≤ 1048576) :
    FnMF Tryz.prog 236 [v, .int .i64 (n : Int), .func (.func g) #[] caps.toArray] w0 [.row v 3 1 (rowF n fun j => j)] F (fun f' : Nat → Nat => Seg K 0 n f') (fun _ => .tuple #[]) (fun f' => [.row v 3 1 (rowF n f')]) := by
  refine FnMF.of (n := 63) Tryz.func236 rfl rfl ?_; refine zaR ?_; refine zaN ?_; refine zcD ?_; refine zbk ?_; refine G.block ?_; refine G.loopK (ι := Nat × Nat × (Nat → Nat)) (ks := [0, 1, 2, 6]) (fun x => [(7, .int .i64 (x.2.1 : Int)), (8, .int .i64 ((x.2.1 + 20 : Nat) : Int))]) (fun x => [.row v 3 1 (rowF n x.2.2)]) (fun x => x.2.1 = x.1 * 20 ∧ Ins K n x.1 x.2.2) (fun x => n - x.2.1) (0, 0, fun j => j) (.cons rfl (.cons rfl (.cons rfl (.cons rfl (.nil))))) rfl ?_ ?_ ?_
  exact ⟨rfl, Ins.start K n⟩
  exact ⟨rfl, rfl, trivial⟩
  rintro ⟨q, a, f⟩ ⟨ha, hI⟩
  dsimp only at ha hI ⊢
  have hIl := hI.le
  by_cases hlt : a + 20 ≤ n
  all_goals
   refine zcu ?_; refine zfa ?_; refine G.cond rfl (fun hc => ?_) (fun hc => ?_)
   · all_goals
      replace hc := of_decide_eq_true hc
      try (exfalso; omega)
      all_goals
       refine zc1 ?_; refine G.block ?_; refine zaZ ?_; refine zbH ?_
       (refine zdd ?_); refine G.op (og_callMM1 rfl rfl rfl (insertion_any hcmp zb zb hn (fun j j1 j2 => hI.hi j zb))) rfl ?_; rintro h ⟨hho, hhs⟩; try dsimp only
       refine zeC ?_; refine zaL ?_; refine zdR ?_; refine zcd ?_; refine zbb ?_; refine G.inN ?_; refine G.backK (q + 1, a + 20, h) 0 rfl (.cons rfl (.cons rfl (.cons rfl (.cons rfl (.nil))))) ?_ ?_ ?_
       exact ⟨rfl, congrArg (fun z => some (Value.int .i64 z)) (by dsimp only; try omega), trivial⟩
       subst ha; exact ⟨by dsimp only; omega, hI.next hlt (fun j hj => hho j zb) hhs⟩
       dsimp only; omega
   · all_goals
      replace hc := of_decide_eq_false hc
      try (exfalso; omega)
      all_goals
       refine zaW ?_; refine zaZ ?_; refine zbH ?_
       (refine zdd ?_); refine G.op (og_callMM1 rfl rfl rfl (insertion_any hcmp zb (Nat.le_refl _) hn (fun j j1 j2 => hI.hi j zb))) rfl ?_; rintro h0 ⟨hho, hhs⟩; try dsimp only
       refine zbe ?_; refine G.block ?_
       have hB0 : Blk K 20 n h0 := (by subst ha; exact hI.last zb (fun j hj => hho j hj) hhs)
       refine G.loopK (ι := Nat × (Nat → Nat)) (ks := [0, 1, 2]) (fun x => [(6, .int .i64 (x.1 : Int))]) (fun x => [.row v 3 1 (rowF n x.2)]) (fun x => 20 ≤ x.1 ∧ x.1 ≤ 2097152 ∧ Blk K x.1 n x.2) (fun x => n - x.1) (20, h0) (.cons rfl (.cons rfl (.cons rfl (.nil)))) rfl ?_ ?_ ?_
       exact ⟨Nat.le_refl _, by dsimp only; omega, hB0⟩
       exact ⟨rfl, trivial⟩
       rintro ⟨s, f1⟩ ⟨hs20, hsm, hB⟩
       dsimp only at hs20 hsm hB ⊢
       by_cases hsn : s < n
       all_goals
        refine zcu ?_; refine zaT ?_; refine G.cond rfl (fun hc => ?_) (fun hc => ?_)
        · all_goals
           replace hc := of_decide_eq_true hc
           try (exfalso; omega)
           all_goals
            refine zc1 ?_; refine G.block ?_; refine zaN ?_; refine G.v (rv_dblN rfl rfl zb) rfl ?_; refine zcD ?_; refine zbk ?_; refine G.block ?_; refine G.loopK (ι := Nat × Nat × (Nat → Nat)) (ks := [0, 1, 2, 6]) (fun x => [(7, .int .i64 (x.2.1 : Int)), (8, .int .i64 ((x.2.1 + 2 * s : Nat) : Int))]) (fun x => [.row v 3 1 (rowF n x.2.2)]) (fun x => x.2.1 = x.1 * (2 * s) ∧ Pass K s n x.1 x.2.2) (fun x => n - x.2.1) (0, 0, f1) (.cons rfl (.cons rfl (.cons rfl (.cons rfl (.nil))))) rfl ?_ ?_ ?_
            exact ⟨by dsimp only; omega, Pass.start hB⟩
            exact ⟨rfl, congrArg (fun z => some (Value.int .i64 z)) (by dsimp only; try omega), trivial⟩
            rintro ⟨q, a, f2⟩ ⟨ha, hP⟩
            dsimp only at ha hP ⊢
            have hPl := hP.le
            rw [← ha] at hPl
            have hq2 : a + 2 * s ≤ n → Seg K a (a + s) f2 ∧ Seg K (a + s) (a + 2 * s) f2 := fun hz => by (have := hP.two (by rw [← ha]; omega); rw [← ha, Nat.min_eq_left hz] at this; exact this)
            have hq3 : n < a + 2 * s → a + s < n → Seg K a (a + s) f2 ∧ Seg K (a + s) n f2 := fun hz hy => by (have := hP.two (by rw [← ha]; omega); rw [← ha, Nat.min_eq_right zb] at this; exact this)
            have hlt2 : a + 2 * s ≤ n → ∀ j, a ≤ j → j < a + 2 * s → f2 j < n := fun hz j j1 j2 => by (obtain ⟨p1, p2⟩ := hq2 hz; by_cases c : j < a + s; (have := p1.2 j j1 c; omega); (have := p2.2 j zb j2; omega))
            have hlt3 : n < a + 2 * s → a + s < n → ∀ j, a ≤ j → j < n → f2 j < n := fun hz hy j j1 j2 => by (obtain ⟨p1, p2⟩ := hq3 hz hy; by_cases c : j < a + s; (have := p1.2 j j1 c; omega); (have := p2.2 j zb j2; omega))
            by_cases hlt : a + 2 * s ≤ n
            all_goals
             refine zcu ?_; refine zfa ?_; refine G.cond rfl (fun hc => ?_) (fun hc => ?_)
             · all_goals
                replace hc := of_decide_eq_true hc
                try (exfalso; omega)
                all_goals
                 refine zc1 ?_; refine G.block ?_; refine zaZ ?_; refine zbH ?_; refine G.v (rv_addN rfl rfl zb) rfl ?_; refine zbH ?_
                 (refine zdd ?_); refine G.op (og_callMM1 rfl rfl rfl (symMerge_any hcmp hn _ (Nat.le_refl _) zb zb zb (hq2 zb).1.1 (hq2 zb).2.1 ((hq2 zb).1.crs (hq2 zb).2) (fun j j1 j2 => hlt2 zb j j1 j2))) rfl ?_; rintro h ⟨hhf, hhs⟩; try dsimp only
                 refine zeC ?_; refine zaL ?_; refine zdR ?_; refine G.v (rv_dblN rfl rfl zb) rfl (G.v (rv_addN rfl rfl zb) rfl ?_); refine zbb ?_; refine G.inN ?_; refine G.backK (q + 1, a + 2 * s, h) 0 rfl (.cons rfl (.cons rfl (.cons rfl (.cons rfl (.nil))))) ?_ ?_ ?_
                 exact ⟨rfl, congrArg (fun z => some (Value.int .i64 z)) (by dsimp only; try omega), trivial⟩
                 exact ⟨by dsimp only; rw [ha]; exact (Nat.succ_mul _ _).symm, hP.next (by rw [← ha]; exact hlt) (fun j hj => hhf.out j (by rw [← ha] at hj; exact hj)) (by rw [← ha]; exact Seg.merged (hq2 hlt).1 (hq2 hlt).2 ⟨by omega, by omega⟩ hhf hhs)⟩
                 dsimp only; omega
             · all_goals
                replace hc := of_decide_eq_false hc
                try (exfalso; omega)
                all_goals
                 refine zaW ?_; refine zcu ?_; refine G.v (rv_addN rfl rfl zb) rfl ?_; refine zcQ ?_; refine zaT ?_; refine G.cond rfl (fun hc => ?_) (fun hc => ?_)
                 · all_goals
                    replace hc := of_decide_eq_true hc
                    all_goals
                     refine zdH ?_; refine zbH ?_
                     (refine zdd ?_); refine G.op (og_callMM1 rfl rfl rfl (symMerge_any hcmp hn _ (Nat.le_refl _) zb zb zb (hq3 zb zb).1.1 (hq3 zb zb).2.1 ((hq3 zb zb).1.crs (hq3 zb zb).2) (fun j j1 j2 => hlt3 zb zb j j1 j2))) rfl ?_; rintro h ⟨hhf, hhs⟩; try dsimp only
                     refine zbe ?_; refine zbq ?_; refine G.v (rv_dblM rfl rfl zb) rfl ?_; refine zbb ?_; refine G.inN ?_; refine G.backK (2 * s, h) 0 rfl (.cons rfl (.cons rfl (.cons rfl (.nil)))) (⟨rfl, trivial⟩) ?_ ?_
                     exact ⟨by dsimp only; omega, by dsimp only; omega, hP.last (by rw [← ha]; omega) (fun j hj => hhf.out j (by rw [← ha] at hj; exact hj)) (by rw [← ha]; exact Seg.merged (hq3 zb zb).1 (hq3 zb zb).2 ⟨by omega, by omega⟩ hhf hhs)⟩
                     dsimp only; omega
                 · all_goals
                    replace hc := of_decide_eq_false hc
                    all_goals
                     refine zc1 ?_; refine zbq ?_; refine G.v (rv_dblM rfl rfl zb) rfl ?_; refine zbb ?_; refine G.inN ?_; refine G.backK (2 * s, f2) 0 rfl (.cons rfl (.cons rfl (.cons rfl (.nil)))) (⟨rfl, trivial⟩) ?_ ?_
                     exact ⟨by dsimp only; omega, by dsimp only; omega, hP.end (by rw [← ha]; omega) (by rw [← ha]; omega)⟩
                     dsimp only; omega
        · all_goals
           replace hc := of_decide_eq_false hc
           try (exfalso; omega)
           all_goals
            refine zcZ ?_
            exact G.endF0 f1 (hB.all zb) rfl rfl (fun w hw => hw)
theorem sortStable_any (hcmp : ∀ w, HeapOk w0 w F → ∀ i j : Nat, i < n → j < n → FnV Tryz.prog g ([.int .i64 (i : Int), .int .i64 (j : Int)] ++ caps) w (.int .i64 (cmpZ (K i) (K j)))) (hn : n ≤ 1048576) :
    FnMF Tryz.prog 210 [v, .func (.func g) #[] caps.toArray] w0 [.row v 3 1 (rowF n fun j => j)] F (fun f' : Nat → Nat => Seg K 0 n f') (fun _ => .tuple #[]) (fun f' => [.row v 3 1 (rowF n f')]) := by
  have hln : (rowF n fun j => j).length = n := rowF_len _ _
  refine FnMF.of (n := 9) Tryz.func210 rfl rfl ?_; refine zdR ?_; refine zde ?_; refine zaM ?_
  (refine zdd ?_); refine G.op (og_callMM1 rfl rfl rfl (by rw [hln]; exact stable_any hcmp hn)) rfl ?_; rintro f1 hf1; try dsimp only
  refine G.done ?_
  exact G.endF0 f1 hf1 rfl rfl (fun w hw => hw)
end
theorem compare_any (a b : Int) (w : World) : FnV Tryz.prog 212 [.int .i64 a, .int .i64 b] w (.int .i64 (cmpZ a b)) := by
  refine FnV.of (n := 13) Tryz.func212 rfl rfl ?_; refine zaR ?_; refine G.seq (G.block ?_); refine zaZ ?_; refine G.v (rv_lss rfl rfl) rfl ?_; refine zaL ?_; refine G.condD rfl (fun hc => ?_) (fun hc => ?_); refine zb6 ?_; refine G.inR (G.thenR ?_)
  exact G.retFV rfl rfl (congrArg (Value.int .i64) (by unfold cmpZ; (rw [if_pos zb]; done)))
  refine zaZ ?_; refine zdK ?_; refine zaL ?_; refine G.condD rfl (fun hc => ?_) (fun hc => ?_); refine zb6 ?_; refine G.inR (G.thenR ?_)
  exact G.retFV rfl rfl (congrArg (Value.int .i64) (by unfold cmpZ; (rw [if_neg zb, if_pos zb]; done)))
  refine G.skip (G.inN (G.thenN ?_)); refine zb6 ?_
  exact G.retFV rfl rfl (congrArg (Value.int .i64) (by unfold cmpZ; rw [if_neg zb, if_neg zb]))
theorem rowF_snoc (k : Nat) : (rowF k fun j => j) ++ [[.int .i64 (k : Int)]] = rowF (k + 1) fun j => j := by
  simp [rowF, List.range_succ, icell]
theorem range_snoc (k : Nat) : (List.range k).map ncell ++ [[.int .i64 (k : Int)]] = (List.range (k + 1)).map ncell := by
  simp [List.range_succ, ncell, icell]
theorem short_srt {α : Type} {R : α → α → Prop} {l : List α} (h : l.length < 2) : l.Pairwise R := by
  match l, h with
  | [], _ => exact List.Pairwise.nil
  | [x], _ => exact List.pairwise_singleton _ _
theorem mrg_halves {K : Nat → Int} {us bs ps : List Nat} {h : Nat} (h1 : us.Perm (ps.take h)) (h2 : bs.Perm (ps.drop h)) : (mrgM K us bs).Perm ps := by
  have := (mrg_perm (K := K) us bs).trans (h1.append h2)
  rwa [List.take_append_drop] at this
theorem halves_lt {ps : List Nat} {h x y : Nat} (hp : ps.Pairwise (· < ·)) (hx : x ∈ ps.take h) (hy : y ∈ ps.drop h) : x < y := by
  rw [← List.take_append_drop h ps] at hp
  exact (List.pairwise_append.1 hp).2.2 x hx y hy
theorem cmpZ_down {ks : List Int} {i j : Nat} {a b : Int} (h1 : ks[i]? = some a) (h2 : ks[j]? = some b) : cmpZ b a = cmpZ (keyM ks i) (keyM ks j) := by
  rw [keyM_get h1, keyM_get h2]; unfold cmpZ
  by_cases c : b < a
  · rw [if_pos c, if_pos zb]
  · rw [if_neg c, if_neg (show ¬ -a < -b from by omega)]
    by_cases c2 : b > a
    · rw [if_pos c2, if_pos zb]
    · rw [if_neg c2, if_neg zb]
theorem sortDown1_any {kv : Value} {ks : List Int} {q i j : Nat} (w : World) (h : Rd w (.slice (some ⟨q, 0, none⟩) 1 1) 1 [[kv]]) (hk : Rd w kv 1 (ks.map icell)) (hi : i < ks.length) (hj : j < ks.length) : FnV Tryz.prog 211 [.int .i64 (i : Int), .int .i64 (j : Int), pB q 0] w (.int .i64 (cmpZ (keyM ks i) (keyM ks j))) := by
  rw [pB_eq_pE q 1]
  obtain ⟨a, ha⟩ := get_of_lt hi
  obtain ⟨b, hb⟩ := get_of_lt hj
  have e1 := get_map ha icell
  have e2 := get_map hb icell
  refine FnV.of (n := 15) Tryz.func211 rfl rfl ?_; refine zaR ?_; refine G.seq (G.drawL [9] ?_); refine GE.q 0 rfl za rfl (qg_runs (rv_loadE rfl ze zat rfl)) rfl ?_; refine zc7 ?_; refine GE.q 2 rfl za rfl (qg_runs (rv_indexH rfl rfl ze rfl zO)) rfl ?_; refine GE.q 3 rfl za rfl (qg_runs (rv_loadE rfl ze zO rfl)) rfl ?_; refine GE.q 4 rfl za rfl (qg_runs (rv_loadE rfl ze zat rfl)) rfl ?_; refine zeY (fun _ _ => ?_); refine GE.ol 6 za rfl rfl (og_runs (rv_indexH rfl rfl ze rfl zE)) rfl zd (fun _ _ => ?_); refine GE.ol 7 za rfl rfl (og_runs (rv_loadE rfl ze zE rfl)) rfl zd (fun _ _ => ?_); refine GE.ol 8 za rfl rfl (og_callV rfl rfl (fun w _ => compare_any _ _ w)) rfl zd (fun _ _ => ?_)
  refine zfX (fun _ _ => ?_); refine zbm ?_; refine G.ret ?_
  exact G.retFV rfl rfl (congrArg (Value.int .i64) (cmpZ_down ha hb))
theorem places_any {n : Nat} (w : World) (hn : n ≤ 1048576) : Fn Tryz.prog 209 [.int .i64 (n : Int)] w (fun v : Value => v.oneCell' = true) (fun v => v) (fun v => [.row v 3 1 (rowF n fun j => j)]) := by
  refine Fn.of (n := 16) Tryz.func209 rfl rfl ?_; refine zaR ?_; refine za6 (fun vl _ => ?_); refine zbk ?_; refine zaZ ?_; refine zbe ?_; refine G.block ?_; refine G.loopK (ι := Nat × Value) (ks := [6]) (fun x => [(3, x.2), (7, .int .i64 (x.1 : Int))]) (fun x => [.row x.2 3 1 (rowF x.1 fun j => j)]) (fun x => x.1 ≤ n) (fun x => n - x.1) (0, vl) (.cons rfl (.nil)) rfl ?_ ?_ ?_
  exact Nat.zero_le _
  exact ⟨rfl, rfl, trivial⟩
  rintro ⟨k, v⟩ hk
  dsimp only at hk ⊢
  have hln : (rowF k fun j => j).length = k := rowF_len _ _
  refine zbs ?_; refine G.condD rfl (fun hc => ?_) (fun hc => ?_); refine zee ?_; refine zaL ?_; refine zdR ?_; refine za2 (fun vl _ => ?_); refine zbI (fun va _ => ?_); refine zbb ?_; refine zaX ?_; refine G.backK (k + 1, va) 1 (one_eq (congrArg (fun z => Ch.row va 3 1 z) (rowF_snoc k))) (.cons rfl (.nil)) ?_ ?_ ?_
  exact ⟨rfl, rfl, trivial⟩
  dsimp only; omega
  dsimp only; omega
  refine zcX ?_; refine G.know (fun w hw => (Rd.owned 0 rfl w hw).one_) (fun hone => G.retF v hone rfl rfl rfl (fun w hw => by obtain rfl : k = n := zb; exact hw))
theorem sortDown_any {kv : Value} {ks : List Int} (w : World) (h : Rd w kv 1 (ks.map icell)) (hn : ks.length ≤ 1048576) : Fn Tryz.prog 156 [kv] w (fun v : Value => v.oneCell' = true) (fun v => v) (fun v => [.row v 3 1 ((ordM (keyM ks) ks.length).map ncell)]) := by
  have hln : (ks.map icell).length = ks.length := by simp
  have hone := h.one_
  refine Fn.of (n := 11) Tryz.func156 rfl rfl ?_; refine zct ?_; refine G.op (og_box rfl (cells_one zc)) rfl (fun bk1 _ => ?_); refine zfC ?_; refine za0 ?_; refine zbg ?_
  first | (refine G.op (og_callF1 rfl rfl (fun w hh => by rw [hln]; exact places_any w hn)) rfl ?_; rintro vp hvp; try dsimp only) | (refine G.op (og_callF2 rfl rfl (fun w hh => by rw [hln]; exact places_any w hn)) rfl ?_; rintro vp hvp; try dsimp only) | (refine G.op (og_callF3 rfl rfl (fun w hh => by rw [hln]; exact places_any w hn)) rfl ?_; rintro vp hvp; try dsimp only) | (refine G.op (og_callF0 rfl rfl (fun w hh => by rw [hln]; exact places_any w hn)) rfl ?_; rintro vp hvp; try dsimp only) | (refine G.op (og_callF rfl rfl (fun w hh => by rw [hln]; exact places_any w hn)) rfl ?_; rintro vp hvp; try dsimp only)
  refine zdS ?_; refine zdN ?_
  (refine G.frontR0 (vp) rfl ?_); refine G.op (og_callMM1 rfl rfl rfl (sortStable_any (fun w hh i j hi hj => sortDown1_any w (Rd.ofBlk 0 rfl (one_cons hone rfl) w hh) (Rd.stays h w hh.none) hi hj) hn)) rfl ?_; rintro f1 hf1; try dsimp only
  refine zbe ?_; refine zbp ?_
  exact G.retF vp hvp rfl rfl rfl (fun w hw => by rw [← ord_of_seg hf1]; exact hw.sublist (by repeat (first | exact List.Sublist.refl _ | refine List.Sublist.cons_cons _ ?_ | refine List.Sublist.cons _ ?_)))
theorem l1Places_any {n : Nat} (w : World) (hn : n ≤ 1048576) : Fn Tryz.prog 138 [.int .i64 (n : Int)] w (fun v : Value => v.oneCell' = true) (fun v => v) (fun v => [.row v 3 1 ((List.range n).map ncell)]) := by
  refine Fn.of (n := 16) Tryz.func138 rfl rfl ?_; refine zaR ?_; refine za6 (fun vl _ => ?_); refine zd8 ?_; refine G.loopK (ι := Nat × Value) (ks := [0]) (fun x => [(3, x.2), (4, .int .i64 (x.1 : Int))]) (fun x => [.row x.2 3 1 ((List.range x.1).map ncell)]) (fun x => x.1 ≤ n) (fun x => n - x.1) (0, vl) (.cons rfl (.nil)) rfl ?_ ?_ ?_
  exact Nat.zero_le _
  exact ⟨rfl, rfl, trivial⟩
  rintro ⟨k, v⟩ hk
  dsimp only at hk ⊢
  refine zcu ?_; refine zaT ?_; refine G.condD rfl (fun hc => ?_) (fun hc => ?_); refine za3 ?_; refine zdR ?_; refine za2 (fun vl _ => ?_); refine zbI (fun va _ => ?_); refine zbb ?_; refine zaO ?_; refine G.backK (k + 1, va) 1 (one_eq (congrArg (fun z => Ch.row va 3 1 z) (range_snoc k))) (.cons rfl (.nil)) ?_ ?_ ?_
  exact ⟨rfl, rfl, trivial⟩
  dsimp only; omega
  dsimp only; omega
  refine zcX ?_; refine G.know (fun w hw => (Rd.owned 0 rfl w hw).one_) (fun hone => G.retF v hone rfl rfl rfl (fun w hw => by obtain rfl : k = n := zb; exact hw))
theorem l1Merge_any {kv : Value} {ks : List Int} : ∀ (s : Nat) {pv : Value} {ps : List Nat} (w : World), ps.length < s → Rd w kv 1 (ks.map icell) → Rd w pv 1 (ps.map ncell) → (∀ x ∈ ps, x < ks.length) → ps.Pairwise (· < ·) → ps.length ≤ 1048576 →
    Fn Tryz.prog 137 [kv, pv, .bool true] w (fun x : Value × List Nat => x.1.oneCell' = true ∧ x.2.Perm ps ∧ x.2.Pairwise (bef (keyM ks))) (fun x => x.1) (fun x => [.row x.1 3 1 (x.2.map ncell)]) := by
  intro s
  induction s with
  | zero => intro pv ps w hs; omega
  | succ s ih =>
  intro pv ps w hs hk hp hlt hpw hn
  have hln : (ps.map ncell).length = ps.length := by simp
  refine Fn.of (n := 132) Tryz.func137 rfl rfl ?_; refine zcK ?_; refine zcW ?_; refine G.condD rfl (fun hc => ?_) (fun hc => ?_)
  · refine G.seq ?_
    refine G.region (G.op (og_lit rfl .nil rfl rfl rfl rfl rfl rfl) rfl (fun vl _ => ?_)); refine zaM ?_; refine G.op (og_app0 rfl rfl rfl ze rfl rfl zh zh) rfl (fun va _ => ?_); refine zco ?_; refine G.thenR ?_; refine G.know (fun w hw => (Rd.owned 0 rfl w hw).one_) (fun hone => G.retF (va, ps) ⟨hone, List.Perm.refl _, short_srt zao⟩ rfl rfl rfl (fun w hw => hw.sublist zaI)); done
  · refine G.skip ?_
    refine G.thenN ?_; refine zaN ?_; refine zbg ?_; refine G.v (rv_quoN rfl rfl zb) rfl ?_; refine zcQ ?_; refine zdZ ?_; rintro ⟨xa, us⟩ ⟨hxa, hpa, hsa⟩; try dsimp only
    refine zcQ ?_; refine zd0 ?_; rintro ⟨xb, bs⟩ ⟨hxb, hpb, hsb⟩; try dsimp only
    refine zaL ?_; refine za6 (fun vl _ => ?_); refine zaL ?_; refine zaR ?_; refine zaR ?_; refine G.seq (G.block ?_)
    have hla : us.length = (ps.map ncell).length / 2 := by (rw [hpa.length_eq, List.length_take]; omega)
    have hlb : bs.length = ps.length - (ps.map ncell).length / 2 := by rw [hpb.length_eq, List.length_drop]
    have hla2 : (us.map ncell).length = us.length := by simp
    have hlb2 : (bs.map ncell).length = bs.length := by simp
    refine G.loopK (ι := Nat × Nat × List Nat × Value) (ks := [0, 2, 8, 9]) (fun x => [(10, x.2.2.2), (11, .int .i64 (x.1 : Int)), (12, .int .i64 (x.2.1 : Int))]) (fun x => [.row x.2.2.2 3 1 (x.2.2.1.map ncell)]) (fun x => x.1 ≤ us.length ∧ x.2.1 ≤ bs.length ∧ x.2.2.1.length = x.1 + x.2.1 ∧ x.2.2.1 ++ mrgM (keyM ks) (us.drop x.1) (bs.drop x.2.1) = mrgM (keyM ks) us bs) (fun x => us.length + bs.length - x.1 - x.2.1) (0, 0, [], vl) (.cons rfl (.cons rfl (.cons rfl (.cons rfl (.nil))))) rfl ?_ ?_ ?_
    exact ⟨Nat.zero_le _, Nat.zero_le _, rfl, rfl⟩
    exact ⟨rfl, rfl, rfl, trivial⟩
    rintro ⟨i, j, out, v⟩ ⟨hi, hj, hol, hm⟩
    dsimp only at hi hj hol hm ⊢
    have hol2 : (out.map ncell).length = out.length := by simp
    by_cases hA : i < us.length
    case' pos => (obtain ⟨x, hx⟩ := get_of_lt hA; have e1 := get_map hx ncell; have hxl := hlt x (List.mem_of_mem_take (hpa.mem_iff.1 (List.mem_of_getElem? hx))); obtain ⟨kx, hkx⟩ := get_of_lt hxl; have e3 := get_map hkx icell; have hK1 := keyM_get hkx)
    all_goals by_cases hB : j < bs.length
    any_goals (obtain ⟨y, hy⟩ := get_of_lt hB; have e2 := get_map hy ncell; have hyl := hlt y (List.mem_of_mem_drop (hpb.mem_iff.1 (List.mem_of_getElem? hy))); obtain ⟨ky, hky⟩ := get_of_lt hyl; have e4 := get_map hky icell; have hK2 := keyM_get hky)
    all_goals
     refine zcu ?_; refine zdG ?_; refine zcP ?_
     all_goals (((with_reducible refine G.gP rfl rfl (fun hg => ?_) (fun hg => ?_)) <;> (try exact Bool.noConfusion hg) <;> (try (exfalso; first | (have hq := of_decide_eq_false hg; omega) | (have hq := of_decide_eq_true hg; omega); done)) <;> (first | (refine zbr ?_) | refine zaP ?_)))
     all_goals ((first | (refine zbr ?_) | refine zaP ?_))
     all_goals ((first | (refine zaQ ?_; refine zc0 ?_) | refine zaP ?_))
     all_goals ((first | (refine zcj ?_) | refine zaP ?_))
     all_goals ((first | refine zba ?_ | refine zbc ?_))
     all_goals
      refine zbe ?_; refine G.cond rfl (fun hc => ?_) (fun hc => ?_)
      · all_goals
         try replace hc := of_decide_eq_true hc
         try (exfalso; omega)
         all_goals
          refine zc1 ?_; refine G.block (G.block ?_); refine zaZ ?_; refine zc0 ?_; refine zcc ?_; refine G.cond rfl (fun hc => ?_) (fun hc => ?_)
          · all_goals
             replace hc := of_decide_eq_true hc
             try (exfalso; omega)
             all_goals
              refine zaZ ?_; refine zdC ?_; refine za2 (fun vl _ => ?_); refine zbI (fun va _ => ?_); refine zaL ?_; refine zbX ?_; refine G.inN (G.inN ?_); refine G.backK (i + 1, j, out ++ [x], va) 1 (one_eq (congrArg (fun z => Ch.row va 3 1 z) zL)) (.cons rfl (.cons rfl (.cons rfl (.cons rfl (.nil))))) (⟨rfl, rfl, rfl, trivial⟩) ?_ ?_
              · exact ⟨by dsimp only; omega, by dsimp only; omega, by simp; omega, by dsimp only; rw [mrg_left hx (fun y' hy' => by first | (rw [List.getElem?_eq_none zb] at hy'; cases hy'; done) | (rw [hy] at hy'; cases hy'; rw [hK1, hK2]; first | omega | (have hq := of_decide_eq_false hg; omega)))] at hm; rw [List.append_assoc]; exact hm⟩
              dsimp only; omega
          · all_goals
             replace hc := of_decide_eq_false hc
             try (exfalso; omega)
             all_goals
              refine zaZ ?_; refine zdG ?_; refine zcc ?_; refine G.cond rfl (fun hc => ?_) (fun hc => ?_)
              · all_goals
                 replace hc := of_decide_eq_true hc
                 try (exfalso; omega)
                 all_goals
                  refine zaZ ?_; refine zdD ?_; refine za2 (fun vl _ => ?_); refine zbI (fun va _ => ?_); refine zaL ?_; refine zbX ?_; refine G.inN (G.inN ?_); refine G.backK (i, j + 1, out ++ [y], va) 1 (one_eq (congrArg (fun z => Ch.row va 3 1 z) zL)) (.cons rfl (.cons rfl (.cons rfl (.cons rfl (.nil))))) (⟨rfl, rfl, rfl, trivial⟩) ?_ ?_
                  · exact ⟨by dsimp only; omega, by dsimp only; omega, by simp; omega, by dsimp only; rw [mrg_right hy (fun x' hx' => by first | (rw [List.getElem?_eq_none zb] at hx'; cases hx'; done) | (rw [hx] at hx'; cases hx'; rw [hK1, hK2]; first | omega | (have hq := of_decide_eq_true hg; omega)))] at hm; rw [List.append_assoc]; exact hm⟩
                  dsimp only; omega
              · all_goals
                 replace hc := of_decide_eq_false hc
                 try (exfalso; omega)
                 all_goals
                  refine zeS ?_; refine za4 ?_; refine zb1 (fun _ _ => ?_); refine GE.ol 10 za rfl rfl (og_runs (rv_indexH rfl rfl zm rfl zE)) rfl zd (fun _ _ => ?_)
                  refine GE.ol 11 za rfl rfl (og_runs (rv_loadE rfl zm zE rfl)) rfl zd (fun _ _ => ?_); refine GE.ol 12 za rfl rfl (og_runs (rv_indexH rfl rfl ze rfl zal)) rfl zd (fun _ _ => ?_); refine GE.ol 13 za rfl rfl (og_runs (rv_loadE rfl ze zal rfl)) rfl zd (fun _ _ => ?_); refine GE.ol 14 za rfl rfl (og_runs (rv_lss rfl rfl)) rfl zd (fun _ _ => ?_); refine zeT (fun _ _ => ?_)
                  all_goals (((with_reducible refine GE.part (t := 98) rfl (fun hg => ?_) (fun hg => ?_)) <;> (try exact Bool.noConfusion hg) <;> (try (exfalso; (have hq := of_decide_eq_false hg; omega))) <;> (first | refine ze7 ?_ | refine GE.qn 16 rfl za rfl rfl ?_)))
                  all_goals ((first | refine GE.q 17 rfl za rfl (qg_runs (rv_not rfl)) rfl ?_ | refine zeh ?_))
                  all_goals ((first | refine GE.ol 18 za rfl rfl (og_runs (rv_pickT rfl rfl)) rfl zd (fun _ _ => ?_) | refine GE.ol 18 za rfl rfl (og_runs (rv_pickF rfl rfl)) rfl zd (fun _ _ => ?_)))
                  all_goals (refine GE.ol 19 za rfl rfl (og_runs (rv_move rfl)) rfl zd (fun _ _ => ?_))
                  all_goals (((with_reducible refine GE.part (t := 102) rfl (fun hg => ?_) (fun hg => ?_)) <;> (try exact Bool.noConfusion hg) <;> (try (exfalso; (have hq := of_decide_eq_false hg; omega))) <;> (refine GE.q 20 rfl za rfl (qg_runs (rv_move rfl)) rfl ?_)))
                  all_goals ((refine GE.q 21 rfl za rfl (qg_runs (rv_move rfl)) rfl ?_))
                  all_goals ((refine GE.q 22 rfl za rfl (qg_runs (rv_move rfl)) rfl ?_))
                  all_goals (((refine GE.q 23 rfl za rfl (qg_runs (rv_indexH rfl rfl zi rfl zO)) rfl ?_)))
                  all_goals ((refine GE.q 24 rfl za rfl (qg_runs (rv_loadE rfl zi zO rfl)) rfl ?_))
                  all_goals (((refine GE.q 25 rfl za rfl (qg_runs (rv_indexH rfl rfl ze rfl (by exact e4))) rfl ?_)))
                  all_goals ((refine GE.q 26 rfl za rfl (qg_runs (rv_loadE rfl ze (by exact e4) rfl)) rfl ?_))
                  all_goals ((refine GE.q 27 rfl za rfl (qg_runs (rv_move rfl)) rfl ?_))
                  all_goals ((refine GE.q 28 rfl za rfl (qg_runs (rv_move rfl)) rfl ?_))
                  all_goals ((refine GE.q 29 rfl za rfl (qg_runs (rv_move rfl)) rfl ?_))
                  all_goals (((refine GE.q 30 rfl za rfl (qg_runs (rv_indexH rfl rfl zm rfl zE)) rfl ?_)))
                  all_goals ((refine GE.q 31 rfl za rfl (qg_runs (rv_loadE rfl zm zE rfl)) rfl ?_))
                  all_goals (((refine GE.q 32 rfl za rfl (qg_runs (rv_indexH rfl rfl ze rfl zal)) rfl ?_)))
                  all_goals ((refine GE.q 33 rfl za rfl (qg_runs (rv_loadE rfl ze zal rfl)) rfl ?_))
                  all_goals ((refine GE.q 34 rfl za rfl (qg_runs (rv_gtr rfl rfl)) rfl ?_))
                  all_goals ((refine GE.q 35 rfl za rfl (qg_runs (rv_move rfl)) rfl ?_))
                  all_goals ((((with_reducible refine GE.part (t := 118) rfl (fun hg => ?_) (fun hg => ?_)) <;> (try exact Bool.noConfusion hg) <;> (try (exfalso; (have hq := of_decide_eq_false hg; omega))) <;> (first | refine GE.q 36 rfl za rfl (qg_runs (rv_move rfl)) rfl ?_ | refine GE.qn 36 rfl za rfl rfl ?_))))
                  all_goals (((first | refine GE.q 37 rfl za rfl (qg_runs (rv_pickT rfl rfl)) rfl ?_ | refine GE.q 37 rfl za rfl (qg_runs (rv_pickF rfl rfl)) rfl ?_)))
                  all_goals ((refine GE.ol 38 za rfl rfl (og_runs (rv_pickF rfl rfl)) rfl zd (fun _ _ => ?_)))
                  all_goals (refine GE.ol 39 za rfl rfl (og_runs (rv_assign rfl)) rfl zd (fun _ _ => ?_))
                  all_goals
                   refine zbm ?_; refine G.cond rfl (fun hc => ?_) (fun hc => ?_)
                   · try exact Bool.noConfusion hc
                     all_goals
                      all_goals
                       refine zaZ ?_; refine zdD ?_; refine za2 (fun vl _ => ?_); refine zbI (fun va _ => ?_); refine zaL ?_; refine zbX ?_; refine G.inN (G.inN ?_); refine G.backK (i, j + 1, out ++ [y], va) 1 (one_eq (congrArg (fun z => Ch.row va 3 1 z) zL)) (.cons rfl (.cons rfl (.cons rfl (.cons rfl (.nil))))) (⟨rfl, rfl, rfl, trivial⟩) ?_ ?_
                       · exact ⟨by dsimp only; omega, by dsimp only; omega, by simp; omega, by dsimp only; rw [mrg_right hy (fun x' hx' => by first | (rw [List.getElem?_eq_none zb] at hx'; cases hx'; done) | (rw [hx] at hx'; cases hx'; rw [hK1, hK2]; first | omega | (have hq := of_decide_eq_true hg; omega)))] at hm; rw [List.append_assoc]; exact hm⟩
                       dsimp only; omega
                   · try exact Bool.noConfusion hc
                     all_goals
                      all_goals
                       refine zaZ ?_; refine zdC ?_; refine za2 (fun vl _ => ?_); refine zbI (fun va _ => ?_); refine zaL ?_; refine zbX ?_; refine G.inN (G.inN ?_); refine G.backK (i + 1, j, out ++ [x], va) 1 (one_eq (congrArg (fun z => Ch.row va 3 1 z) zL)) (.cons rfl (.cons rfl (.cons rfl (.cons rfl (.nil))))) (⟨rfl, rfl, rfl, trivial⟩) ?_ ?_
                       · exact ⟨by dsimp only; omega, by dsimp only; omega, by simp; omega, by dsimp only; rw [mrg_left hx (fun y' hy' => by first | (rw [List.getElem?_eq_none zb] at hy'; cases hy'; done) | (rw [hy] at hy'; cases hy'; rw [hK1, hK2]; first | omega | (have hq := of_decide_eq_false hg; omega)))] at hm; rw [List.append_assoc]; exact hm⟩
                       dsimp only; omega
      · try exact Bool.noConfusion hc
        all_goals
         replace hc := of_decide_eq_false hc
         try (exfalso; omega)
         all_goals
          refine zcX ?_
          have hout : out = mrgM (keyM ks) us bs := (by rw [List.drop_eq_nil_of_le zb, List.drop_eq_nil_of_le zb] at hm; simpa [mrgM] using hm); refine G.know (fun w hw => (Rd.owned 0 rfl w hw).one_) (fun hone => G.retF (v, out) ⟨hone, hout ▸ mrg_halves hpa hpb, hout ▸ mrg_srt us bs hsa hsb (fun x hx y hy _ => halves_lt hpw (hpa.mem_iff.1 hx) (hpb.mem_iff.1 hy))⟩ rfl rfl rfl (fun w hw => hw.sublist (by repeat (first | exact List.Sublist.refl _ | refine List.Sublist.cons_cons _ ?_ | refine List.Sublist.cons _ ?_))))
theorem ssortDown_any {kv : Value} {ks : List Int} (w : World) (h : Rd w kv 1 (ks.map icell)) (hn : ks.length ≤ 1048576) : Fn Tryz.prog 166 [kv] w (fun v : Value => v.oneCell' = true) (fun v => v) (fun v => [.row v 3 1 ((ordM (keyM ks) ks.length).map ncell)]) := by
  have hln : (ks.map icell).length = ks.length := by simp
  refine Fn.of (n := 8) Tryz.func166 rfl rfl ?_; refine zfP ?_; refine zbg ?_; refine G.op (og_callF1 rfl rfl (fun w hh => by rw [hln]; exact l1Places_any w hn)) rfl ?_; rintro vp hvp; try dsimp only
  refine G.op (og_callF1 rfl rfl (fun w hh => l1Merge_any (ks.length + 1) w zD (Rd.stays h _ hh) (Rd.owned 0 rfl _ hh) (fun x hx => List.mem_range.1 hx) List.pairwise_lt_range (by simpa using hn))) rfl ?_; rintro ⟨vo, os⟩ ⟨hvo, hpo, hso⟩; try dsimp only
  refine zco ?_
  exact G.retF vo hvo rfl rfl rfl (fun w hw => by rw [← ord_of_perm hso hpo]; exact hw.sublist (by repeat (first | exact List.Sublist.refl _ | refine List.Sublist.cons_cons _ ?_ | refine List.Sublist.cons _ ?_)))
theorem vkey_snoc {r : ReqM} {T : List Int} {k : Nat} {x : Int} (hx : T[k]? = some x) : ((T.take k).map (vOf r)).map icell ++ [[Value.int .i64 (vOf r x)]] = ((T.take (k + 1)).map (vOf r)).map icell := by
  simp [List.take_add_one, hx, icell]
theorem ordU_take {r : ReqM} {T : List Int} {k x : Nat} {u : Int} (hx : (ordM (keyM (T.map (vOf r))) (T.map (vOf r)).length)[k]? = some x) (hu : T[x]? = some u) : (ordU r T)[k]? = some u := ordU_at (by rw [← hx, List.length_map]) hu
section
variable {r : ReqM} {pv tv iv uv : Value} {us : List Int} (w : World) (h : Rd w pv 2 (r.pairs.map PairM.cells)) (h2 : Rd w tv 7 (r.types.map TypeM.cells)) (h3 : Rd w iv 7 (r.items.map ItemM.cells))
include h h2 h3
theorem firstFit1_any {g : List Int} {lv : Value} {q1 q2 : Nat} (u : Int) (h4 : Rd w lv 1 (g.map icell)) (hul : g.length + 1 ≤ 1048576) (h5 : Rd w (.slice (some ⟨q1, 0, none⟩) 1 1) 10 [r.cells pv tv iv]) (h6 : Rd w (.slice (some ⟨q2, 0, none⟩) 1 1) 1 [[.int .i64 u]]) : FnV Tryz.prog 180 [lv, pB q1 0, pB q2 0] w (.bool (roomM r g u)) := by
  rw [pB_eq_pE q1 10, pB_eq_pE q2 1]
  refine FnV.of (n := 9) Tryz.func180 rfl rfl ?_; refine zaR ?_; refine zct ?_; refine G.v (rv_loadEW rfl ze rfl rfl) rfl ?_; refine zaM ?_; refine zbY ?_; refine G.op (og_callV rfl rfl (fun w hh => room_any (r := r) (us := g) w (Rd.stays h _ hh) (Rd.stays h2 _ hh) (Rd.stays h3 _ hh) (Rd.stays h4 _ hh) hul u)) rfl (fun _ _ => ?_); refine zco ?_
  exact G.retFV rfl rfl rfl
variable (h4 : Rd w uv 1 (us.map icell)) (hul : us.length ≤ 1048576)
include h4 hul
theorem firstFit_any : Fn Tryz.prog 128 [.agg (r.cells pv tv iv).toArray, uv] w (fun x : Value × List (List Int × Value) => x.1.oneCell' = true ∧ x.2.map Prod.fst = firstM r us) (fun x => x.1) (fun x => [.grp 3 1 (x.2.map (sub id)), .row x.1 52 1 (x.2.map gcell)]) := by
  obtain ⟨T, hT⟩ : ∃ T, T = thereM r us := ⟨_, rfl⟩
  have hTl : T.length ≤ 1048576 := by have := thereM_len r us; rw [hT]; omega
  have hTl2 : (T.map icell).length = T.length := by simp
  have hTl3 : (T.map (vOf r)).length = T.length := by simp
  have hol : ((ordM (keyM (T.map (vOf r))) (T.map (vOf r)).length).map ncell).length = T.length := by rw [List.length_map, ordM_len, hTl3]
  have hol2 : (ordM (keyM (T.map (vOf r))) (T.map (vOf r)).length).length = T.length := by rw [ordM_len, hTl3]
  have hul9 := ordU_len r T
  have hall : (r.cells pv tv iv).all Value.oneCell' = true := req_all h.one_ h2.one_ h3.one_
  refine Fn.of (n := 66) Tryz.func128 rfl rfl ?_; refine zaU (fun bk2 _ => ?_); refine zf9 ?_; refine zeP ?_; rintro vt hvt; try dsimp only
  refine zaL ?_; refine za6 (fun vl _ => ?_); refine zfb ?_; refine zc0 ?_; refine zby ?_; refine G.loopK (ι := Nat × Value) (ks := [2, 5, 18, 19]) (fun x => [(6, x.2), (20, .int .i64 (x.1 : Int))]) (fun x => [.row x.2 3 1 (((T.take x.1).map (vOf r)).map icell)]) (fun x => x.1 ≤ T.length) (fun x => T.length - x.1) (0, vl) (.cons rfl (.cons rfl (.cons rfl (.cons rfl (.nil))))) rfl ?_ ?_ ?_
  exact Nat.zero_le _
  exact ⟨rfl, rfl, trivial⟩
  rintro ⟨k0, v0⟩ hk0
  dsimp only at hk0 ⊢
  have hl9 : (((T.take k0).map (vOf r)).map icell).length = k0 := by (simp; omega)
  by_cases hlt0 : k0 < T.length
  case' pos => (obtain ⟨x, hx⟩ := get_of_lt hlt0; have he := get_map hx icell)
  case' neg => (have hkall : ((T.take k0).map (vOf r)).map icell = (T.map (vOf r)).map icell := (by rw [List.take_of_length_le zb]))
  all_goals
   refine zbs ?_; refine G.cond rfl (fun hc => ?_) (fun hc => ?_)
   · all_goals
      replace hc := of_decide_eq_true hc
      simp only [hTl2, hol] at hc
      try (exfalso; omega)
      all_goals
       refine zdx ?_; refine G.v (rv_indexH rfl rfl zi rfl zq) rfl ?_; refine G.v (rv_loadE rfl zi zq rfl) rfl ?_; refine zaL ?_; refine zbq ?_; refine G.v (rv_loadW 2 rfl rfl rfl) rfl ?_; refine zaM ?_; refine za2 (fun vx _ => ?_); refine G.op (og_callV rfl rfl (fun w hh => (volumeOf_any (r := r) (us := [x]) w (Rd.stays h _ hh) (Rd.stays h2 _ hh) (Rd.stays h3 _ hh) (Rd.owned 0 rfl _ hh) zD).mono (congrArg (Value.int .i64) (volUS_one r x)))) rfl (fun _ _ => ?_); refine za2 (fun vy _ => ?_); refine zdI (fun va _ => ?_); refine zbb ?_; refine zaX ?_; refine G.frontR2 va rfl ?_; refine G.keep1 2 rfl ?_; refine G.backK (k0 + 1, va) 0 (one_eq (congrArg (fun z => Ch.row va 3 1 z) (vkey_snoc hx))) (.cons rfl (.cons rfl (.cons rfl (.cons rfl (.nil))))) ?_ ?_ ?_
       exact ⟨rfl, rfl, trivial⟩
       dsimp only; omega
       dsimp only; omega
   · all_goals
      replace hc := of_decide_eq_false hc
      simp only [hTl2, hol] at hc
      try (exfalso; omega)
      all_goals
       refine zaW ?_; refine za6 (fun vl _ => ?_); refine zfb ?_; refine G.op (og_callF1 rfl rfl (fun w hh => sortDown_any (ks := T.map (vOf r)) w (by rw [← hkall]; exact Rd.owned 1 rfl _ hh) zb)) rfl ?_; rintro vo hvo; try dsimp only
       refine zde ?_; refine zby ?_; refine G.frontR1 vl rfl ?_; refine zcf ?_; refine G.loopK (ι := Nat × List (List Int × Value) × Value) (ks := [2, 5, 34, 35]) (fun x => [(9, x.2.2), (36, .int .i64 (x.1 : Int))]) (fun x => [.grp 3 1 (x.2.1.map (sub id)), .row x.2.2 52 1 (x.2.1.map gcell)]) (fun x => x.1 ≤ T.length ∧ x.2.1.map Prod.fst = putAll (roomM r) ((ordU r T).take x.1)) (fun x => T.length - x.1) (0, [], vl) (.cons rfl (.cons rfl (.cons rfl (.cons rfl (.nil))))) rfl ?_ ?_ ?_
       exact ⟨Nat.zero_le _, rfl⟩
       exact ⟨rfl, rfl, trivial⟩
       rintro ⟨k, ts, v2⟩ ⟨hk, hM⟩
       dsimp only at hk hM ⊢
       have hl0 : (ts.map gcell).length = ts.length := zD
       have htl : ts.length ≤ k := (by have := putAll_len (roomM r) ((ordU r T).take k); have e2 := congrArg List.length hM; rw [List.length_map] at e2; rw [List.length_take] at this; omega)
       have hblA : ∀ (j : Nat) (b : List Int × Value), ts[j]? = some b → b.1.length ≤ k := (by intro j b hb; have := (putAll_at (p := roomM r) (l := (ordU r T).take k) (q := j) (g := b.1) (by rw [← hM, List.getElem?_map, hb]; rfl)); rw [List.length_take] at this; omega)
       by_cases hlt : k < T.length
       case' pos => (obtain ⟨j, hj⟩ := get_of_lt (l := ordM (keyM (T.map (vOf r))) (T.map (vOf r)).length) (k := k) zb; have heo := get_map hj ncell; have hjl : j < T.length := (by have := ordM_mem.1 (List.mem_of_getElem? hj); omega); obtain ⟨u, hu⟩ := get_of_lt hjl; have het := get_map hu icell; have hx := ordU_take hj hu)
       all_goals
        refine zbs ?_; refine G.cond rfl (fun hc => ?_) (fun hc => ?_)
        · all_goals
           replace hc := of_decide_eq_true hc
           simp only [hTl2, hol] at hc
           try (exfalso; omega)
           all_goals
            refine zdx ?_; refine zdV ?_; refine zcQ ?_; refine G.v (rv_indexH rfl rfl zT rfl (by exact het)) rfl ?_; refine G.v (rv_loadE rfl zT (by exact het) rfl) rfl ?_; refine zbu (fun bk12 _ => ?_); refine zei (fun _ _ => ?_); refine zeC ?_; refine zdN ?_; refine G.op (og_callV rfl rfl (fun w hh => indexTbl_any (l := ts) (p := fun g => roomM r g u) w zan (fun w' j b hw hb => firstFit1_any (r := r) (g := b.1) w' (Rd.stays (Rd.stays h _ hh) w' hw) (Rd.stays (Rd.stays h2 _ hh) w' hw) (Rd.stays (Rd.stays h3 _ hh) w' hw) u (Rd.stays (Subs.at (by exact Subs.owned 1 rfl _ hh) hb) w' hw) (by have := hblA j b hb; omega) (Rd.stays (by exact Rd.ofBlk 6 rfl hall w hh) w' hw) (Rd.stays zaC w' hw)))) rfl (fun _ _ => ?_); refine zaL ?_
            refine zaN ?_; refine zaT ?_; refine G.cond rfl (fun hc => ?_) (fun hc => ?_)
            · all_goals
               replace hc := of_decide_eq_true hc
               all_goals
                have hno := idx_neg hc
                all_goals
                 refine zbq ?_; refine za0 ?_; refine za2 (fun vl _ => ?_); refine zbW (fun hovl => ?_); refine zc4 (fun vm _ => ?_); refine G.op (og_app4 rfl rfl rfl zg rfl rfl zh zh) rfl (fun va _ => ?_); refine G.frontG3 _ rfl ?_; refine zdi ?_; refine zaX ?_; refine G.frontR3 va rfl ?_; refine G.frontG1 _ rfl ?_; refine G.keep2 2 rfl ?_; refine G.backK (k + 1, ts ++ [([u], vl)], va) 0 zK (.cons rfl (.cons rfl (.cons rfl (.cons rfl (.nil))))) ?_ ?_ ?_
                 exact ⟨rfl, rfl, trivial⟩
                 exact ⟨hlt, by rw [putAll_next hx, ← hM]; exact (put_push (p := fun g => roomM r g u) hno).symm⟩
                 dsimp only; omega
            · all_goals
               replace hc := of_decide_eq_false hc
               all_goals
                obtain ⟨q, b, hq, hqb, hpb, hbt⟩ := idx_pos hc
                have heq := get_map hqb gcell
                have hgi : (ts.map (sub id))[q]? = some (b.2, b.1.map icell) := get_mapS hqb
                have hbl : b.1.length ≤ k := hblA q b hqb
                all_goals
                 refine zb0 (fun _ _ => ?_); refine zfM (fun vl _ => ?_); refine GE.ol 8 za rfl rfl (og_appG1 rfl rfl rfl hgi zg rfl rfl zh zh) rfl zf (fun vb _ => ?_)
                 skip; refine zfx (fun hova => ?_)
                 refine GE.t 9 za rfl rfl rfl (og_runs (rv_indexH (k := q) rfl rfl zA zb heq)) rfl (fun _ _ => ?_); refine GE.t0 10 za rfl rfl rfl (og_stE3 rfl rfl rfl zay (cells_one zc) rfl (by repeat (first | rfl | refine one_cons zc ?_)) rfl (.zero (.cons .nil))) (fun _ _ => ?_); refine zb3 ?_; refine zaX ?_; refine G.frontR3 v2 rfl ?_; refine G.frontG2 _ rfl ?_; refine G.keep2 2 rfl ?_; refine G.backK (k + 1, ts.set q (b.1 ++ [u], vb), v2) 0 zI (.cons rfl (.cons rfl (.cons rfl (.cons rfl (.nil))))) ?_ ?_ ?_
                 exact ⟨rfl, rfl, trivial⟩
                 exact ⟨hlt, by rw [putAll_next hx, ← hM]; exact (put_into (p := fun g => roomM r g u) hqb hpb hbt).symm⟩
                 dsimp only; omega
        · all_goals
           replace hc := of_decide_eq_false hc
           simp only [hTl2, hol] at hc
           try (exfalso; omega)
           all_goals
            refine zcX ?_; refine G.know (fun w hw => (Rd.owned 1 rfl w hw).one_) (fun hone => G.retF (v2, ts) ⟨hone, by rw [take_all (l := ordU r T) zb, hT] at hM; exact hM⟩ rfl rfl rfl (fun w hw => hw.sublist (by repeat (first | exact List.Sublist.refl _ | refine List.Sublist.cons_cons _ ?_ | refine List.Sublist.cons _ ?_))))
end
end Go.Proofs.YtglpgohilfoecaaGreat
