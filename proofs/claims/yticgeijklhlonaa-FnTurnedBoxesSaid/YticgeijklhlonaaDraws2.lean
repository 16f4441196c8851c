/-
  What the draws hand out: a pallet and boxes, a pallet and shelves.
-/
import Derived.Test.YticgeijklhlonaaDraws
import Derived.Test.YticgeijklhlonaaShelv2
namespace Go.Proofs.Yticgeijklhlonaa
open Go.RowKit
attribute [local irreducible] Go.wpList Go.Code.wp Go.Exit.then Go.Exit.inBlock Go.bodyPost Go.Calls pE pB G RunsV FnV Fn FnM
set_option maxRecDepth 100000
set_option maxHeartbeats 4000000
theorem set_cells {bs : List BoxM} {i : Nat} {a b c d : Int} : (bs.map BoxM.cells).set i [.int .i64 a, .int .i64 b, .int .i64 c, .int .i64 d] = (bs.set i ⟨a, b, c, d⟩).map BoxM.cells := by rw [List.map_set]; rfl
theorem l10Boxes_any {w0 : World} {v : Value} {l : List Int} {cb i : Nat} {h : Int} (hv : Rd w0 v 1 (l.map bcell)) (hi : i ≤ l.length) :
    FnM Try.prog 108 [pB cb 0] w0 [.blk cb 146 [v, .int .i64 i, .int .i64 h]] (fun x : PalletM × Value × List BoxM × Nat × Int => (x.2.1.oneCell' = true ∧ x.2.2.1.length ≤ 11) ∧ x.2.2.2.1 ≤ l.length) (fun x => .tuple #[x.1.val, x.2.1]) (fun x => [.row x.2.1 26 4 (x.2.2.1.map BoxM.cells), .blk cb 146 [v, .int .i64 x.2.2.2.1, .int .i64 x.2.2.2.2]]) := by
  refine FnM.of (n := 70) Try.func108 rfl rfl (fun F => ?_)
  refine G.seq ?_
  refine G.region ?_
  refine G.op (og_alloc) rfl (fun bk2 _ => ?_)
  refine G.v (rv_assign rfl) rfl ?_
  refine G.done ?_
  refine G.thenN ?_
  refine G.seq ?_
  refine G.region ?_
  refine G.v (rv_move rfl) rfl ?_
  ((refine G.op (og_callM1 rfl rfl rfl (l1Below_any _ (by assumption) (by assumption)).toF) rfl ?_; rintro ⟨xr, xi, xh⟩ ⟨⟨hx0, hx1⟩, hxi⟩; try dsimp only))
  (refine G.v (rv_addB rfl rfl (by omega) (by omega)) rfl ?_)
  refine G.v (rv_move rfl) rfl ?_
  ((refine G.op (og_callM0 rfl rfl rfl (l1Below_any _ (by assumption) (by assumption)).toF) rfl ?_; rintro ⟨xr, xi, xh⟩ ⟨⟨hx0, hx1⟩, hxi⟩; try dsimp only))
  (refine G.v (rv_addB rfl rfl (by omega) (by omega)) rfl ?_)
  refine G.v (rv_move rfl) rfl ?_
  ((refine G.op (og_callM0 rfl rfl rfl (l1Below_any _ (by assumption) (by assumption)).toF) rfl ?_; rintro ⟨xr, xi, xh⟩ ⟨⟨hx0, hx1⟩, hxi⟩; try dsimp only))
  (refine G.v (rv_addB rfl rfl (by omega) (by omega)) rfl ?_)
  refine G.v (rv_move rfl) rfl ?_
  refine G.op (og_lit rfl (.cons rfl (.cons rfl (.cons rfl .nil))) rfl rfl rfl rfl rfl rfl) rfl (fun vl _ => ?_)
  ((refine G.op (og_callM1 rfl rfl rfl (l1PickInt_any (by exact Rd.owned 0 rfl) rfl rfl (by assumption) (by assumption))) rfl ?_; rintro ⟨xr, xi, xh⟩ ⟨hxm, hxi⟩; try dsimp only))
  refine G.v (rv_build2 rfl (.cons rfl (.cons rfl (.cons rfl (.cons rfl .nil)))) (.cons rfl rfl (.zero (.cons .nil)) (.cons rfl rfl (.succ (.zero (.cons .nil))) (.cons rfl rfl (.succ (.succ (.zero (.cons .nil)))) (.cons rfl rfl (.succ (.succ (.succ (.zero (.cons .nil))))) .nil))))) rfl ?_
  refine G.op (og_alloc) rfl (fun bk4 _ => ?_)
  (refine G.op0 (og_st0 rfl rfl rfl rfl rfl rfl (.zero (.cons (.cons (.cons (.cons .nil)))))) (fun _ _ => ?_))
  refine G.done ?_
  refine G.thenN ?_
  refine G.seq ?_
  refine G.region ?_
  refine G.op (og_lit rfl .nil rfl rfl rfl rfl rfl rfl) rfl (fun vl _ => ?_)
  refine G.v (rv_assign rfl) rfl ?_
  refine G.done ?_
  refine G.thenN ?_
  refine G.seq ?_
  refine G.region ?_
  refine G.v (rv_move rfl) rfl ?_
  ((refine G.op (og_callM2 rfl rfl rfl (l1Below_any _ (by assumption) (by assumption)).toF) rfl ?_; rintro ⟨xr, xi, xh⟩ ⟨⟨hx0, hx1⟩, hxi⟩; try dsimp only))
  obtain ⟨n, rfl⟩ := Int.eq_ofNat_of_zero_le hx0; have hn11 : n ≤ 11 := (by omega)
  refine G.v (rv_assign rfl) rfl ?_
  refine G.done ?_
  refine G.thenN ?_
  refine G.seq ?_
  refine G.seq ?_
  refine G.region ?_
  refine G.v (rv_assign rfl) rfl ?_
  refine G.done ?_
  refine G.thenN ?_
  refine G.block ?_
  -- loop 0: turned [5, 7], kept [0, 2, 4, 6]
  (refine G.frontB0 cb rfl ?_)
  (refine G.frontR1 vl rfl ?_)
  refine G.loopK (ι := Nat × Value × List BoxM × Nat × Int) (ks := [0, 2, 4, 6]) (fun x => [(5, x.2.1), (7, .int .i64 (x.1 : Int))]) (fun x => [.row x.2.1 26 4 (x.2.2.1.map BoxM.cells), .blk cb 146 [v, .int .i64 x.2.2.2.1, .int .i64 x.2.2.2.2]]) (fun x => x.1 ≤ n ∧ x.2.2.1.length = x.1 ∧ x.2.2.2.1 ≤ l.length) (fun x => n - x.1) (0, vl, [], xi, xh) (.cons rfl (.cons rfl (.cons rfl (.cons rfl (.nil))))) rfl ?_ ?_ ?_
  · exact ⟨Nat.zero_le _, rfl, hxi⟩
  · exact ⟨rfl, rfl, trivial⟩
  rintro ⟨k, v2, bs, xi, xh⟩ ⟨hk, hbl, hxi⟩
  dsimp only at hk hbl hxi ⊢
  have hbl2 : (bs.map BoxM.cells).length = bs.length := by simp
  have he0 : 0 < bs.length → ∃ b0, bs[0]? = some b0 := fun hz => get_of_lt hz
  all_goals
   refine G.seq ?_
   refine G.seq ?_
   refine G.region ?_
   refine G.v (rv_move rfl) rfl ?_
   refine G.v (rv_move rfl) rfl ?_
   refine G.v (rv_lss rfl rfl) rfl ?_
   refine G.done ?_
   refine G.thenN ?_
   refine G.cond rfl (fun hc => ?_) (fun hc => ?_)
   · try exact Bool.noConfusion hc
     all_goals
      try replace hc := of_decide_eq_true hc
      try (exfalso; contradiction)
      all_goals
       refine G.skip ?_
       refine G.thenN ?_
       refine G.seq ?_
       refine G.block ?_
       refine G.region ?_
       refine G.v (rv_move rfl) rfl ?_
       refine G.v (rv_move rfl) rfl ?_
       ((refine G.op (og_callM1 rfl rfl rfl (l1Below_any _ (by assumption) (by assumption)).toF) rfl ?_; rintro ⟨xr, xi, xh⟩ ⟨⟨hx0, hx1⟩, hxi⟩; try dsimp only))
       (refine G.v (rv_addB rfl rfl (by omega) (by omega)) rfl ?_)
       refine G.v (rv_move rfl) rfl ?_
       ((refine G.op (og_callM0 rfl rfl rfl (l1Below_any _ (by assumption) (by assumption)).toF) rfl ?_; rintro ⟨xr, xi, xh⟩ ⟨⟨hx0, hx1⟩, hxi⟩; try dsimp only))
       (refine G.v (rv_addB rfl rfl (by omega) (by omega)) rfl ?_)
       refine G.v (rv_move rfl) rfl ?_
       ((refine G.op (og_callM0 rfl rfl rfl (l1Below_any _ (by assumption) (by assumption)).toF) rfl ?_; rintro ⟨xr, xi, xh⟩ ⟨⟨hx0, hx1⟩, hxi⟩; try dsimp only))
       (refine G.v (rv_addB rfl rfl (by omega) (by omega)) rfl ?_)
       refine G.v (rv_move rfl) rfl ?_
       ((refine G.op (og_callM0 rfl rfl rfl (l1Below_any _ (by assumption) (by assumption)).toF) rfl ?_; rintro ⟨xr, xi, xh⟩ ⟨⟨hx0, hx1⟩, hxi⟩; try dsimp only))
       (refine G.v (rv_addB rfl rfl (by omega) (by omega)) rfl ?_)
       refine G.v (rv_build2 rfl (.cons rfl (.cons rfl (.cons rfl (.cons rfl .nil)))) (.cons rfl rfl (.zero (.cons .nil)) (.cons rfl rfl (.succ (.zero (.cons .nil))) (.cons rfl rfl (.succ (.succ (.zero (.cons .nil)))) (.cons rfl rfl (.succ (.succ (.succ (.zero (.cons .nil))))) .nil))))) rfl ?_
       refine G.op (og_lit rfl (.cons rfl .nil) rfl rfl rfl rfl rfl rfl) rfl (fun vl _ => ?_)
       ((refine G.op (og_app2 rfl rfl rfl (by exact Rd.owned 0 rfl) rfl rfl (by simp; omega) (by simp; omega)) rfl (fun va _ => ?_)))
       refine G.v (rv_assign rfl) rfl ?_
       refine G.done ?_
       refine G.inN ?_
       refine G.thenN ?_
       refine G.region ?_
       refine G.v (rv_move rfl) rfl ?_
       (refine G.v (rv_incr rfl rfl (by omega)) rfl ?_)
       refine G.v (rv_assign rfl) rfl ?_
       refine G.done ?_
       (refine G.frontB1 cb rfl ?_)
       (refine G.frontR2 va rfl ?_)
       (refine G.keep2 1 rfl ?_; refine G.backK (k + 1, va, bs ++ [⟨_, _, _, _⟩], xi, xh) 0 (two_eq (congrArg (fun z => Ch.row va 26 4 z) (by rw [List.map_append]; rfl)) rfl) (.cons rfl (.cons rfl (.cons rfl (.cons rfl (.nil))))) ?_ ?_ ?_)
       · exact ⟨rfl, rfl, trivial⟩
       · exact ⟨by dsimp only; omega, by simp; omega, hxi⟩
       · dsimp only; omega
   · try exact Bool.noConfusion hc
     all_goals
      try replace hc := of_decide_eq_false hc
      try (exfalso; contradiction)
      all_goals
       refine G.exit ?_
       refine G.thenX ?_
       refine G.thenX ?_
       refine G.inX ?_
       refine G.thenN ?_
       refine G.seq ?_
       refine G.seq ?_
       refine G.region ?_
       refine G.v (rv_move rfl) rfl ?_
       refine G.v (rv_gtr rfl rfl) rfl ?_
       refine G.v (rv_move rfl) rfl ?_
       all_goals (((with_reducible refine G.gP rfl rfl (fun hg => ?_) (fun hg => ?_)) <;> (try exact Bool.noConfusion hg) <;> (try (exfalso; (have hq := of_decide_eq_false hg; omega))) <;> (first | (refine G.gY rfl rfl ?_; refine G.v (rv_move rfl) rfl ?_) | refine G.gN rfl rfl rfl ?_)))
       all_goals ((first | (refine G.gY rfl rfl ?_; ((refine G.op (og_callM1 rfl rfl rfl (l1Once_any _ (by assumption) (by assumption)).toF) rfl ?_; rintro ⟨xr, xi, xh⟩ hxi; try dsimp only))) | refine G.gN rfl rfl rfl ?_))
       all_goals ((first | refine G.v (rv_pickT rfl rfl) rfl ?_ | refine G.v (rv_pickF rfl rfl) rfl ?_))
       all_goals
        refine G.done ?_
        refine G.thenN ?_
        refine G.cond rfl (fun hc => ?_) (fun hc => ?_)
        · try exact Bool.noConfusion hc
          all_goals
           try replace hc := of_decide_eq_true hc
           try (exfalso; contradiction)
           all_goals
            obtain ⟨b0, hb0⟩ := he0 (by (have hq := of_decide_eq_true hg; omega)); replace he0 := get_map hb0 BoxM.cells
            all_goals
             refine G.region ?_
             refine G.v (rv_move rfl) rfl ?_
             refine G.v (rv_move rfl) rfl ?_
             (refine G.v (rv_field rfl) rfl ?_)
             (refine G.v (rv_load1 2 rfl rfl rfl) rfl ?_)
             (refine G.v (rv_field rfl) rfl ?_)
             (refine G.v (rv_load1 2 rfl rfl rfl) rfl ?_)
             (refine G.v (rv_addB rfl rfl (by omega) (by omega)) rfl ?_)
             refine G.op (og_lit rfl (.cons rfl (.cons rfl (.cons rfl (.cons rfl .nil)))) rfl rfl rfl rfl rfl rfl) rfl (fun vl _ => ?_)
             ((refine G.op (og_callM1 rfl rfl rfl (l1PickInt_any (by exact Rd.owned 0 rfl) rfl rfl (by assumption) (by assumption))) rfl ?_; rintro ⟨xw, xi, xh⟩ ⟨hxm, hxi⟩; try dsimp only))
             (refine G.v (rv_indexH (k := 0) rfl rfl (by exact Rd.owned 2 rfl) rfl he0) rfl ?_)
             (refine G.v (rv_fieldE rfl) rfl ?_)
             (refine G.op0 (og_stE2 rfl rfl rfl (by exact he0) rfl rfl rfl rfl (.zero (.cons .nil))) (fun _ _ => ?_))
             refine G.done ?_
             refine G.thenN ?_
             refine G.seq ?_
             refine G.seq ?_
             refine G.region ?_
             refine G.v (rv_move rfl) rfl ?_
             ((refine G.op (og_callM0 rfl rfl rfl (l1Once_any _ (by assumption) (by assumption)).toF) rfl ?_; rintro ⟨xr, xi, xh⟩ hxi; try dsimp only))
             refine G.done ?_
             refine G.thenN ?_
             refine G.cond rfl (fun hc => ?_) (fun hc => ?_)
             · try exact Bool.noConfusion hc
               all_goals
                try replace hc := of_decide_eq_true hc
                try (exfalso; contradiction)
                all_goals
                 refine G.region ?_
                 refine G.v (rv_move rfl) rfl ?_
                 refine G.op (og_lit rfl (.cons rfl (.cons rfl .nil)) rfl rfl rfl rfl rfl rfl) rfl (fun vl _ => ?_)
                 ((refine G.op (og_callM1 rfl rfl rfl (l1PickInt_any (by exact Rd.owned 0 rfl) rfl rfl (by assumption) (by assumption))) rfl ?_; rintro ⟨xr, xi, xh⟩ ⟨hxm, hxi⟩; try dsimp only))
                 (refine G.v (rv_field rfl) rfl ?_)
                 (refine G.op0 (og_st4 rfl rfl rfl rfl rfl rfl (.succ (.zero (.cons .nil)))) (fun _ _ => ?_))
                 refine G.done ?_
                 refine G.thenN ?_
                 refine G.seq ?_
                 refine G.region ?_
                 (refine G.v (rv_loadW 4 rfl rfl rfl) rfl ?_)
                 refine G.v (rv_move rfl) rfl ?_
                 (refine G.op0 (og_st6 rfl rfl rfl rfl rfl rfl (.zero (.cons (.cons (.cons (.cons .nil)))))) (fun _ _ => ?_))
                 refine G.v (rv_assign rfl) rfl ?_
                 refine G.done ?_
                 refine G.thenN ?_
                 refine G.ret ?_
                 (refine G.frontB0 cb rfl ?_)
                 (refine G.frontR3 v2 rfl ?_)
                 refine G.know (fun w hw => (Rd.owned 0 rfl w hw).one_) (fun hone => ?_)
                 (refine G.rowEq ((bs.set 0 ⟨xw, b0.d, b0.h, b0.g⟩).map BoxM.cells) set_cells rfl ?_; exact G.retL (⟨_, _, _, _⟩, v2, bs.set 0 ⟨xw, b0.d, b0.h, b0.g⟩, _, _) ⟨⟨hone, by dsimp only; rw [List.length_set]; omega⟩, hxi⟩ rfl (.cons (by exact .cell 6 rfl rfl rfl) (.cons (.tmp rfl) .nil)) rfl (fun w hh => hh.sublist (by repeat (first | exact List.Sublist.refl _ | refine List.Sublist.cons_cons _ ?_ | refine List.Sublist.cons _ ?_))))
             · try exact Bool.noConfusion hc
               all_goals
                try replace hc := of_decide_eq_false hc
                try (exfalso; contradiction)
                all_goals
                 refine G.skip ?_
                 refine G.thenN ?_
                 refine G.seq ?_
                 refine G.region ?_
                 (refine G.v (rv_loadW 3 rfl rfl rfl) rfl ?_)
                 refine G.v (rv_move rfl) rfl ?_
                 (refine G.op0 (og_st5 rfl rfl rfl rfl rfl rfl (.zero (.cons (.cons (.cons (.cons .nil)))))) (fun _ _ => ?_))
                 refine G.v (rv_assign rfl) rfl ?_
                 refine G.done ?_
                 refine G.thenN ?_
                 refine G.ret ?_
                 (refine G.frontB0 cb rfl ?_)
                 (refine G.frontR2 v2 rfl ?_)
                 refine G.know (fun w hw => (Rd.owned 0 rfl w hw).one_) (fun hone => ?_)
                 (refine G.rowEq ((bs.set 0 ⟨xw, b0.d, b0.h, b0.g⟩).map BoxM.cells) set_cells rfl ?_; exact G.retL (⟨_, _, _, _⟩, v2, bs.set 0 ⟨xw, b0.d, b0.h, b0.g⟩, _, _) ⟨⟨hone, by dsimp only; rw [List.length_set]; omega⟩, hxi⟩ rfl (.cons (by exact .cell 5 rfl rfl rfl) (.cons (.tmp rfl) .nil)) rfl (fun w hh => hh.sublist (by repeat (first | exact List.Sublist.refl _ | refine List.Sublist.cons_cons _ ?_ | refine List.Sublist.cons _ ?_))))
        · try exact Bool.noConfusion hc
          all_goals
           try replace hc := of_decide_eq_false hc
           try (exfalso; contradiction)
           all_goals
            refine G.skip ?_
            refine G.thenN ?_
            refine G.seq ?_
            refine G.seq ?_
            refine G.region ?_
            refine G.v (rv_move rfl) rfl ?_
            (first | (refine G.op (og_callM0 rfl rfl rfl (l1Once_any _ (by assumption) (by assumption)).toF) rfl ?_; rintro ⟨xr, xi, xh⟩ hxi; try dsimp only) | (refine G.op (og_callM1 rfl rfl rfl (l1Once_any _ (by assumption) (by assumption)).toF) rfl ?_; rintro ⟨xr, xi, xh⟩ hxi; try dsimp only))
            refine G.done ?_
            refine G.thenN ?_
            refine G.cond rfl (fun hc => ?_) (fun hc => ?_)
            · try exact Bool.noConfusion hc
              all_goals
               try replace hc := of_decide_eq_true hc
               try (exfalso; contradiction)
               all_goals
                refine G.region ?_
                refine G.v (rv_move rfl) rfl ?_
                refine G.op (og_lit rfl (.cons rfl (.cons rfl .nil)) rfl rfl rfl rfl rfl rfl) rfl (fun vl _ => ?_)
                ((refine G.op (og_callM1 rfl rfl rfl (l1PickInt_any (by exact Rd.owned 0 rfl) rfl rfl (by assumption) (by assumption))) rfl ?_; rintro ⟨xr, xi, xh⟩ ⟨hxm, hxi⟩; try dsimp only))
                (refine G.v (rv_field rfl) rfl ?_)
                (refine G.op0 (og_st3 rfl rfl rfl rfl rfl rfl (.succ (.zero (.cons .nil)))) (fun _ _ => ?_))
                refine G.done ?_
                refine G.thenN ?_
                refine G.seq ?_
                refine G.region ?_
                (refine G.v (rv_loadW 3 rfl rfl rfl) rfl ?_)
                refine G.v (rv_move rfl) rfl ?_
                (refine G.op0 (og_st5 rfl rfl rfl rfl rfl rfl (.zero (.cons (.cons (.cons (.cons .nil)))))) (fun _ _ => ?_))
                refine G.v (rv_assign rfl) rfl ?_
                refine G.done ?_
                refine G.thenN ?_
                refine G.ret ?_
                (refine G.frontB0 cb rfl ?_)
                (refine G.frontR2 v2 rfl ?_)
                refine G.know (fun w hw => (Rd.owned 0 rfl w hw).one_) (fun hone => ?_)
                (exact G.retL (⟨_, _, _, _⟩, v2, bs, _, _) ⟨⟨hone, by dsimp only; omega⟩, hxi⟩ rfl (.cons (by exact .cell 5 rfl rfl rfl) (.cons (.tmp rfl) .nil)) rfl (fun w hh => hh.sublist (by repeat (first | exact List.Sublist.refl _ | refine List.Sublist.cons_cons _ ?_ | refine List.Sublist.cons _ ?_))))
            · try exact Bool.noConfusion hc
              all_goals
               try replace hc := of_decide_eq_false hc
               try (exfalso; contradiction)
               all_goals
                refine G.skip ?_
                refine G.thenN ?_
                refine G.seq ?_
                refine G.region ?_
                (refine G.v (rv_loadW 2 rfl rfl rfl) rfl ?_)
                refine G.v (rv_move rfl) rfl ?_
                (refine G.op0 (og_st4 rfl rfl rfl rfl rfl rfl (.zero (.cons (.cons (.cons (.cons .nil)))))) (fun _ _ => ?_))
                refine G.v (rv_assign rfl) rfl ?_
                refine G.done ?_
                refine G.thenN ?_
                refine G.ret ?_
                (refine G.frontB0 cb rfl ?_)
                (refine G.frontR1 v2 rfl ?_)
                refine G.know (fun w hw => (Rd.owned 0 rfl w hw).one_) (fun hone => ?_)
                (exact G.retL (⟨_, _, _, _⟩, v2, bs, _, _) ⟨⟨hone, by dsimp only; omega⟩, hxi⟩ rfl (.cons (by exact .cell 4 rfl rfl rfl) (.cons (.tmp rfl) .nil)) rfl (fun w hh => hh.sublist (by repeat (first | exact List.Sublist.refl _ | refine List.Sublist.cons_cons _ ?_ | refine List.Sublist.cons _ ?_))))
theorem drawShelves_any {v : Value} {l : List Int} (w : World) (h : Rd w v 1 (l.map bcell)) : Fn Try.prog 54 [v] w (fun x : PalletM × Value × List BoxM => x.2.1.oneCell' = true ∧ x.2.2.length ≤ 11) (fun x => .tuple #[x.1.val, x.2.1]) (fun x => [.row x.2.1 26 4 (x.2.2.map BoxM.cells)]) := by
  have h0 : 0 ≤ l.length := Nat.zero_le _
  refine Fn.of (n := 9) Try.func54 rfl rfl ?_
  refine G.seq ?_
  refine G.region ?_
  refine G.op (og_alloc) rfl (fun bk2 _ => ?_)
  refine G.v (rv_assign rfl) rfl ?_
  refine G.done ?_
  refine G.thenN ?_
  refine G.seq ?_
  refine G.region ?_
  refine G.v (rv_move rfl) rfl ?_
  ((refine G.op (og_callF1 rfl rfl (fun w hh => l1New_any w (by exact Rd.stays (by assumption) _ hh))) rfl ?_; rintro ⟨cb, ch⟩ _; try dsimp only))
  ((refine G.frontB0 cb rfl ?_); refine G.op (og_callN0 rfl rfl rfl (l10Boxes_any (by assumption) (by assumption)).toF) rfl ?_; rintro ⟨p, vb, bs, xi, xh⟩ ⟨⟨hvb, hbs⟩, hxi⟩; try dsimp only)
  refine G.v (rv_extract rfl rfl) rfl ?_
  refine G.v (rv_extract rfl rfl) rfl ?_
  (refine G.op0 (og_st2 rfl rfl rfl rfl rfl rfl (.zero (.cons (.cons (.cons (.cons .nil)))))) (fun _ _ => ?_))
  refine G.v (rv_assign rfl) rfl ?_
  refine G.done ?_
  refine G.thenN ?_
  refine G.ret ?_
  (refine G.frontR0 vb rfl ?_)
  exact G.retL (p, vb, bs) ⟨hvb, hbs⟩ rfl (.cons (by exact .cell 2 rfl rfl rfl) (.cons (.tmp rfl) .nil)) rfl (fun w hh => hh.sublist (by repeat (first | exact List.Sublist.refl _ | refine List.Sublist.cons_cons _ ?_ | refine List.Sublist.cons _ ?_)))
theorem drawSpotsOf_any {v : Value} {l : List Int} (w : World) (h : Rd w v 1 (l.map bcell)) : Fn Try.prog 66 [v] w (fun x : PalletM × Value × List BoxM => x.2.1.oneCell' = true ∧ x.2.2.length ≤ 11) (fun x => .tuple #[x.1.val, x.2.1]) (fun x => [.row x.2.1 26 4 (x.2.2.map BoxM.cells)]) := by
  have h0 : 0 ≤ l.length := Nat.zero_le _
  refine Fn.of (n := 9) Try.func66 rfl rfl ?_
  refine G.seq ?_
  refine G.region ?_
  refine G.op (og_alloc) rfl (fun bk2 _ => ?_)
  refine G.v (rv_assign rfl) rfl ?_
  refine G.done ?_
  refine G.thenN ?_
  refine G.seq ?_
  refine G.region ?_
  refine G.v (rv_move rfl) rfl ?_
  ((refine G.op (og_callF1 rfl rfl (fun w hh => l1New_any w (by exact Rd.stays (by assumption) _ hh))) rfl ?_; rintro ⟨cb, ch⟩ _; try dsimp only))
  ((refine G.frontB0 cb rfl ?_); refine G.op (og_callN0 rfl rfl rfl (l10Boxes_any (by assumption) (by assumption)).toF) rfl ?_; rintro ⟨p, vb, bs, xi, xh⟩ ⟨⟨hvb, hbs⟩, hxi⟩; try dsimp only)
  refine G.v (rv_extract rfl rfl) rfl ?_
  refine G.v (rv_extract rfl rfl) rfl ?_
  (refine G.op0 (og_st2 rfl rfl rfl rfl rfl rfl (.zero (.cons (.cons (.cons (.cons .nil)))))) (fun _ _ => ?_))
  refine G.v (rv_assign rfl) rfl ?_
  refine G.done ?_
  refine G.thenN ?_
  refine G.ret ?_
  (refine G.frontR0 vb rfl ?_)
  exact G.retL (p, vb, bs) ⟨hvb, hbs⟩ rfl (.cons (by exact .cell 2 rfl rfl rfl) (.cons (.tmp rfl) .nil)) rfl (fun w hh => hh.sublist (by repeat (first | exact List.Sublist.refl _ | refine List.Sublist.cons_cons _ ?_ | refine List.Sublist.cons _ ?_)))
theorem setS_cells {bs : List (ShelfM × Value)} {i : Nat} {u : Value} {a b c d : Int} {l : List Int} : (bs.map ShelfM.cells).set i [u, .int .i64 a, .int .i64 b, .int .i64 c, .int .i64 d] = (bs.set i (⟨l, a, b, c, d⟩, u)).map ShelfM.cells := by rw [List.map_set]; rfl
theorem setS_sub {bs : List (ShelfM × Value)} {s : ShelfM × Value} {d : Int} (h : bs[0]? = some s) : (bs.set 0 (⟨s.1.l, s.1.w, d, s.1.h, s.1.g⟩, s.2)).map (sub ShelfM.l) = bs.map (sub ShelfM.l) := by
  apply List.ext_getElem?
  intro j
  rw [List.getElem?_map, List.getElem?_set, List.getElem?_map]
  by_cases hj : 0 = j
  · subst hj
    rw [if_pos rfl, h]
    split
    · rfl
    · rename_i hz
      rw [List.getElem?_eq_none (by omega)] at h; cases h
  · rw [if_neg hj]
theorem l11Shelves_any {w0 : World} {v : Value} {l : List Int} {cb i : Nat} {h : Int} (hv : Rd w0 v 1 (l.map bcell)) (hi : i ≤ l.length) :
    FnM Try.prog 94 [pB cb 0] w0 [.blk cb 146 [v, .int .i64 i, .int .i64 h]] (fun x : PalletM × Value × List (ShelfM × Value) × Nat × Int => (x.2.1.oneCell' = true ∧ x.2.2.1.length ≤ 11) ∧ x.2.2.2.1 ≤ l.length) (fun x => .tuple #[x.1.val, x.2.1]) (fun x => [.grp 3 1 (x.2.2.1.map (sub ShelfM.l)), .row x.2.1 63 5 (x.2.2.1.map ShelfM.cells), .blk cb 146 [v, .int .i64 x.2.2.2.1, .int .i64 x.2.2.2.2]]) := by
  refine FnM.of (n := 33) Try.func94 rfl rfl (fun F => ?_)
  refine G.seq ?_
  refine G.region ?_
  refine G.op (og_alloc) rfl (fun bk2 _ => ?_)
  refine G.v (rv_assign rfl) rfl ?_
  refine G.done ?_
  refine G.thenN ?_
  refine G.seq ?_
  refine G.region ?_
  refine G.v (rv_move rfl) rfl ?_
  ((refine G.frontB1 cb rfl ?_); refine G.op (og_callN0 rfl rfl rfl (l10Boxes_any (by assumption) (by assumption)).toF) rfl ?_; rintro ⟨p, vb, bs, xi, xh⟩ ⟨⟨hvb, hbs⟩, hxi⟩; try dsimp only)
  dsimp only at hbs hxi hvb
  refine G.v (rv_move rfl) rfl ?_
  refine G.v (rv_extract rfl rfl) rfl ?_
  refine G.v (rv_extract rfl rfl) rfl ?_
  refine G.op (og_alloc) rfl (fun bk4 _ => ?_)
  (refine G.op0 (og_st0 rfl rfl rfl rfl rfl rfl (.zero (.cons (.cons (.cons (.cons .nil)))))) (fun _ _ => ?_))
  refine G.v (rv_assign rfl) rfl ?_
  refine G.done ?_
  refine G.thenN ?_
  refine G.seq ?_
  refine G.region ?_
  (refine G.v (rv_loadW 0 rfl rfl rfl) rfl ?_)
  refine G.v (rv_move rfl) rfl ?_
  (refine G.op (og_callF2 rfl rfl (fun w hh => specShelves_any p w (by exact Rd.owned 1 rfl _ hh) (by omega))) rfl ?_; rintro ⟨vo, os⟩ ⟨hvo, hos⟩; try dsimp only)
  dsimp only at hos hvo
  have hsl := shelves_len p bs; rw [← hos, List.length_map] at hsl
  have hol : (os.map ShelfM.cells).length = os.length := by simp
  have he0 : 0 < os.length → ∃ b0, os[0]? = some b0 := fun hz => get_of_lt hz
  refine G.v (rv_assign rfl) rfl ?_
  refine G.done ?_
  refine G.thenN ?_
  refine G.seq ?_
  refine G.seq ?_
  refine G.region ?_
  refine G.v (rv_move rfl) rfl ?_
  refine G.v (rv_len rfl (by exact Rd.owned 1 rfl)) rfl ?_
  refine G.v (rv_gtr rfl rfl) rfl ?_
  refine G.v (rv_move rfl) rfl ?_
  all_goals (((with_reducible refine G.gP rfl rfl (fun hg => ?_) (fun hg => ?_)) <;> (try exact Bool.noConfusion hg) <;> (try (exfalso; (have hq := of_decide_eq_false hg; omega))) <;> (first | (refine G.gY rfl rfl ?_; refine G.v (rv_move rfl) rfl ?_) | refine G.gN rfl rfl rfl ?_)))
  all_goals ((first | (refine G.gY rfl rfl ?_; ((refine G.op (og_callM4 rfl rfl rfl (l1Once_any _ (by assumption) (by assumption)).toF) rfl ?_; rintro ⟨xr, xi, xh⟩ hxi; try dsimp only))) | refine G.gN rfl rfl rfl ?_))
  all_goals ((first | refine G.v (rv_pickT rfl rfl) rfl ?_ | refine G.v (rv_pickF rfl rfl) rfl ?_))
  all_goals
   refine G.done ?_
   refine G.thenN ?_
   refine G.cond rfl (fun hc => ?_) (fun hc => ?_)
   · try exact Bool.noConfusion hc
     all_goals
      try replace hc := of_decide_eq_true hc
      try simp only [List.length_map] at hc
      try (exfalso; contradiction)
      all_goals
       obtain ⟨b0, hb0⟩ := he0 (by (have hq := of_decide_eq_true hg; simp only [List.length_map] at hq; omega)); replace he0 := get_map hb0 ShelfM.cells
       all_goals
        refine G.region ?_
        refine G.v (rv_move rfl) rfl ?_
        refine G.v (rv_move rfl) rfl ?_
        (refine G.v (rv_field rfl) rfl ?_)
        (refine G.v (rv_load1 3 rfl rfl rfl) rfl ?_)
        (refine G.v (rv_add rfl rfl) rfl ?_)
        refine G.op (og_lit rfl (.cons rfl (.cons rfl (.cons rfl .nil))) rfl rfl rfl rfl rfl rfl) rfl (fun vl _ => ?_)
        ((refine G.op (og_callM1 rfl rfl rfl (l1PickInt_any (by exact Rd.owned 0 rfl) rfl rfl (by assumption) (by assumption))) rfl ?_; rintro ⟨xw, xi, xh⟩ ⟨hxm, hxi⟩; try dsimp only))
        (refine G.v (rv_indexH (k := 0) rfl rfl (by exact Rd.owned 3 rfl) rfl he0) rfl ?_)
        (refine G.v (rv_fieldE rfl) rfl ?_)
        (refine G.op0 (og_stE3 rfl rfl rfl (by exact he0) rfl rfl rfl rfl (.succ (.succ (.zero (.cons .nil))))) (fun _ _ => ?_))
        refine G.done ?_
        refine G.thenN ?_
        refine G.seq ?_
        refine G.region ?_
        (refine G.v (rv_loadW 4 rfl rfl rfl) rfl ?_)
        refine G.v (rv_move rfl) rfl ?_
        (refine G.op0 (og_st6 rfl rfl rfl rfl rfl rfl (.zero (.cons (.cons (.cons (.cons .nil)))))) (fun _ _ => ?_))
        refine G.v (rv_assign rfl) rfl ?_
        refine G.done ?_
        refine G.thenN ?_
        refine G.ret ?_
        (refine G.frontB0 cb rfl ?_)
        (refine G.frontR3 vo rfl ?_)
        (refine G.frontG3 _ rfl ?_)
        ((refine G.frontR1 vo rfl ?_); refine G.rowEq ((os.set 0 (⟨b0.1.l, b0.1.w, xw, b0.1.h, b0.1.g⟩, b0.2)).map ShelfM.cells) setS_cells rfl ?_; (refine G.frontG1 _ rfl ?_); exact G.retL (p, vo, os.set 0 (⟨b0.1.l, b0.1.w, xw, b0.1.h, b0.1.g⟩, b0.2), _, _) ⟨⟨hvo, by dsimp only; rw [List.length_set]; omega⟩, hxi⟩ rfl (.cons (by exact .cell 6 rfl rfl rfl) (.cons (.tmp rfl) .nil)) rfl (fun w hh => by dsimp only; rw [setS_sub hb0]; exact hh.sublist (by repeat (first | exact List.Sublist.refl _ | refine List.Sublist.cons_cons _ ?_ | refine List.Sublist.cons _ ?_))))
   · try exact Bool.noConfusion hc
     all_goals
      try replace hc := of_decide_eq_false hc
      try simp only [List.length_map] at hc
      try (exfalso; contradiction)
      all_goals
       refine G.skip ?_
       refine G.thenN ?_
       refine G.seq ?_
       refine G.region ?_
       (first | refine G.v (rv_loadW 2 rfl rfl rfl) rfl ?_ | refine G.v (rv_loadW 3 rfl rfl rfl) rfl ?_)
       refine G.v (rv_move rfl) rfl ?_
       (refine G.op0 (og_st5 rfl rfl rfl rfl rfl rfl (.zero (.cons (.cons (.cons (.cons .nil)))))) (fun _ _ => ?_))
       refine G.v (rv_assign rfl) rfl ?_
       refine G.done ?_
       refine G.thenN ?_
       refine G.ret ?_
       (first | refine G.frontB0 cb rfl ?_ | refine G.frontB4 cb rfl ?_)
       (refine G.frontR2 vo rfl ?_)
       (refine G.frontG2 _ rfl ?_)
       (exact G.retL (p, vo, os, _, _) ⟨⟨hvo, by dsimp only; omega⟩, hxi⟩ rfl (.cons (by exact .cell 5 rfl rfl rfl) (.cons (.tmp rfl) .nil)) rfl (fun w hh => hh.sublist (by repeat (first | exact List.Sublist.refl _ | refine List.Sublist.cons_cons _ ?_ | refine List.Sublist.cons _ ?_))))
theorem drawLayersOf_any {v : Value} {l : List Int} (w : World) (h : Rd w v 1 (l.map bcell)) : Fn Try.prog 35 [v] w (fun x : PalletM × Value × List (ShelfM × Value) => x.2.1.oneCell' = true ∧ x.2.2.length ≤ 11) (fun x => .tuple #[x.1.val, x.2.1]) (fun x => [.grp 3 1 (x.2.2.map (sub ShelfM.l)), .row x.2.1 63 5 (x.2.2.map ShelfM.cells)]) := by
  have h0 : 0 ≤ l.length := Nat.zero_le _
  refine Fn.of (n := 9) Try.func35 rfl rfl ?_
  refine G.seq ?_
  refine G.region ?_
  refine G.op (og_alloc) rfl (fun bk2 _ => ?_)
  refine G.v (rv_assign rfl) rfl ?_
  refine G.done ?_
  refine G.thenN ?_
  refine G.seq ?_
  refine G.region ?_
  refine G.v (rv_move rfl) rfl ?_
  ((refine G.op (og_callF1 rfl rfl (fun w hh => l1New_any w (by exact Rd.stays (by assumption) _ hh))) rfl ?_; rintro ⟨cb, ch⟩ _; try dsimp only))
  ((refine G.frontB0 cb rfl ?_); refine G.op (og_callN0 rfl rfl rfl (l11Shelves_any (by assumption) (by assumption)).toF) rfl ?_; rintro ⟨p, vo, os, xi, xh⟩ ⟨⟨hvo, hos⟩, hxi⟩; try dsimp only)
  refine G.v (rv_extract rfl rfl) rfl ?_
  refine G.v (rv_extract rfl rfl) rfl ?_
  (refine G.op0 (og_st3 rfl rfl rfl rfl rfl rfl (.zero (.cons (.cons (.cons (.cons .nil)))))) (fun _ _ => ?_))
  refine G.v (rv_assign rfl) rfl ?_
  refine G.done ?_
  refine G.thenN ?_
  refine G.ret ?_
  (refine G.frontR1 vo rfl ?_)
  (refine G.frontG1 _ rfl ?_)
  exact G.retL (p, vo, os) ⟨hvo, hos⟩ rfl (.cons (by exact .cell 3 rfl rfl rfl) (.cons (.tmp rfl) .nil)) rfl (fun w hh => hh.sublist (by repeat (first | exact List.Sublist.refl _ | refine List.Sublist.cons_cons _ ?_ | refine List.Sublist.cons _ ?_)))
end Go.Proofs.Yticgeijklhlonaa
