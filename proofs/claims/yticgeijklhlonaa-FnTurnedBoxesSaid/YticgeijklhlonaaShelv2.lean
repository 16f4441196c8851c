/-
  Boxes that are put on shelves: the reference's way.
-/
import Derived.Test.YticgeijklhlonaaShelv
namespace Go.Proofs.Yticgeijklhlonaa
open Go.RowKit
attribute [local irreducible] Go.wpList Go.Code.wp Go.Exit.then Go.Exit.inBlock Go.bodyPost Go.Calls pE pB G RunsV FnV Fn FnM
set_option maxRecDepth 100000
set_option maxHeartbeats 1000000
theorem pile_new2 {M S : Type} {room : M → S → Bool} {add : M → Nat → S → M} {z : M} {out : List M} {s : S} {k : Nat} (h : ∀ t, out.getLast? = some t → room t s = false) : pileStep room add z out (s, k) = out ++ [add z k s] := by
  unfold pileStep
  split
  · rename_i t ht; rw [h t ht]; rfl
  · rfl
theorem G.pushRow {n : Nat} {w0 : World} {fr : Fr} {H F : List Ch} {t : TypeId} {s : Nat} {v : Value} {es : List (List Value)} {rs : List (Value × List (List Value))} (rs' : List (Value × List (List Value))) {K : Act → World → Prop} (e : rs ++ [(v, es)] = rs') (hH : H = .row v t s es :: .grp t s rs :: F) (h : G n w0 fr (.grp t s rs' :: F) K) : G n w0 fr H K :=
  G.heap (fun w hh => by subst e hH; exact hh.push) h
theorem add_row (t : ShelfM) (k : Nat) (b : BoxM) : [] ++ t.l.map icell ++ [[Value.int .i64 (k : Int)]] = (shelfAdd t k b).l.map icell := by simp [shelfAdd, icell]
theorem l10Add_any (t : ShelfM) {sv : Value} (k : Nat) (b : BoxM) (w : World) (hov : sv.oneCell' = true) (h : Rd w sv 1 (t.l.map icell)) (hl : t.l.length ≤ 1048576) (ht : 0 ≤ t.w ∧ t.w ≤ 2000 ∧ 0 ≤ t.g ∧ t.g ≤ 100000) (hb : 0 ≤ b.w ∧ b.w ≤ 2000 ∧ 0 ≤ b.g ∧ b.g ≤ 100000) :
    Fn Try.prog 112 [.agg [sv, .int .i64 t.w, .int .i64 t.d, .int .i64 t.h, .int .i64 t.g].toArray, .int .i64 (k : Int), b.val] w (fun v : Value => v.oneCell' = true) (fun v => .agg (ShelfM.cells (shelfAdd t k b, v)).toArray) (fun v => [.row v 3 1 ((shelfAdd t k b).l.map icell)]) := by
  have hln : (t.l.map icell).length = t.l.length := by simp
  refine Fn.of (n := 35) Try.func112 rfl rfl ?_
  refine G.seq ?_
  refine G.region ?_
  refine G.op (og_box rfl rfl) rfl (fun bk3 _ => ?_)
  refine G.op (og_box rfl rfl) rfl (fun bk5 _ => ?_)
  refine G.op (og_alloc) rfl (fun bk6 _ => ?_)
  refine G.done ?_
  refine G.thenN ?_
  refine G.seq ?_
  refine G.drawL [28] ?_
  (refine GE.q 1 rfl (by kernel_rfl) rfl (qg_runs (rv_field rfl)) rfl ?_)
  (refine GE.q 2 rfl (by kernel_rfl) rfl (qg_runs (rv_load1 2 rfl rfl rfl)) rfl ?_)
  refine GE.q 4 rfl (by kernel_rfl) rfl (qg_runs (rv_move rfl)) rfl ?_
  (refine GE.q 7 rfl (by kernel_rfl) rfl (qg_runs (rv_field rfl)) rfl ?_)
  (refine GE.q 8 rfl (by kernel_rfl) rfl (qg_runs (rv_load1 2 rfl rfl rfl)) rfl ?_)
  (refine GE.q 9 rfl (by kernel_rfl) rfl (qg_runs (rv_field rfl)) rfl ?_)
  (refine GE.q 10 rfl (by kernel_rfl) rfl (qg_runs (rv_load1 1 rfl rfl rfl)) rfl ?_)
  (refine GE.q 11 rfl (by kernel_rfl) rfl (qg_runs (rv_addB rfl rfl (by omega) (by omega))) rfl ?_)
  (refine GE.q 12 rfl (by kernel_rfl) rfl (qg_runs (rv_field rfl)) rfl ?_)
  (refine GE.q 13 rfl (by kernel_rfl) rfl (qg_runs (rv_load1 2 rfl rfl rfl)) rfl ?_)
  (refine GE.q 14 rfl (by kernel_rfl) rfl (qg_runs (rv_field rfl)) rfl ?_)
  (refine GE.q 15 rfl (by kernel_rfl) rfl (qg_runs (rv_load1 1 rfl rfl rfl)) rfl ?_)
  (refine GE.q 17 rfl (by kernel_rfl) rfl (qg_runs (rv_field rfl)) rfl ?_)
  (refine GE.q 18 rfl (by kernel_rfl) rfl (qg_runs (rv_load1 2 rfl rfl rfl)) rfl ?_)
  (refine GE.q 19 rfl (by kernel_rfl) rfl (qg_runs (rv_field rfl)) rfl ?_)
  (refine GE.q 20 rfl (by kernel_rfl) rfl (qg_runs (rv_load1 1 rfl rfl rfl)) rfl ?_)
  (refine GE.q 22 rfl (by kernel_rfl) rfl (qg_runs (rv_field rfl)) rfl ?_)
  (refine GE.q 23 rfl (by kernel_rfl) rfl (qg_runs (rv_load1 2 rfl rfl rfl)) rfl ?_)
  (refine GE.q 24 rfl (by kernel_rfl) rfl (qg_runs (rv_field rfl)) rfl ?_)
  (refine GE.q 25 rfl (by kernel_rfl) rfl (qg_runs (rv_load1 1 rfl rfl rfl)) rfl ?_)
  (refine GE.q 26 rfl (by kernel_rfl) rfl (qg_runs (rv_addB rfl rfl (by omega) (by omega))) rfl ?_)
  refine GE.any (rs := [0, 5]) (by kernel_rfl) (by simp) ?_
  refine List.forall_mem_cons.2 ⟨?_, List.forall_mem_cons.2 ⟨?_, fun _ h => absurd h List.not_mem_nil⟩⟩
  ·
    refine GE.pickOp rfl rfl rfl (og_lit rfl .nil rfl rfl rfl rfl rfl rfl) rfl (fun _ _ h => by exact h.drop 1) (fun vl _ => ?_)
    refine GE.any (rs := [3, 5]) (by kernel_rfl) (by simp) ?_
    refine List.forall_mem_cons.2 ⟨?_, List.forall_mem_cons.2 ⟨?_, fun _ h => absurd h List.not_mem_nil⟩⟩
    ·
      ((refine GE.pickOp rfl rfl rfl (og_app0 rfl rfl rfl (by exact Rd.stays (by assumption)) rfl rfl (by simp; omega) (by simp; omega)) rfl (fun _ _ h => by exact h.drop 1) (fun va _ => ?_)))
      refine GE.ol 5 (by kernel_rfl) rfl rfl (og_lit rfl (.cons rfl .nil) rfl rfl rfl rfl rfl rfl) rfl (fun _ _ h => by exact h.drop 2) (fun vl _ => ?_)
      ((refine GE.ol 6 (by kernel_rfl) rfl rfl (og_app1 rfl rfl rfl (by exact Rd.owned 0 rfl) rfl rfl (by simp; omega) (by simp; omega)) rfl (fun _ _ h => by exact h.drop 2) (fun va _ => ?_)))
      skip; refine G.know (fun w hw => (Rd.owned 1 rfl (v := va) w hw).one_) (fun hova => ?_)
      refine GE.ol 16 (by kernel_rfl) rfl rfl (og_callV rfl rfl (fun w _ => l1Max_any _ _ w)) rfl (fun _ _ h => by exact h.drop 2) (fun _ _ => ?_)
      refine GE.ol 21 (by kernel_rfl) rfl rfl (og_callV rfl rfl (fun w _ => l1Max_any _ _ w)) rfl (fun _ _ h => by exact h.drop 2) (fun _ _ => ?_)
      refine GE.ol 27 (by kernel_rfl) rfl rfl (og_runs (rv_build2 rfl (.cons (cells_one (by assumption)) (.cons rfl (.cons rfl (.cons rfl (.cons rfl .nil))))) (.cons rfl rfl (.zero (.cons .nil)) (.cons rfl rfl (.succ (.zero (.cons .nil))) (.cons rfl rfl (.succ (.succ (.zero (.cons .nil)))) (.cons rfl rfl (.succ (.succ (.succ (.zero (.cons .nil))))) (.cons rfl rfl (.succ (.succ (.succ (.succ (.zero (.cons .nil)))))) .nil))))))) rfl (fun _ _ h => by exact h.drop 2) (fun _ _ => ?_)
      (refine GE.t0 28 (by kernel_rfl) rfl rfl rfl (og_st2 rfl rfl rfl rfl rfl (by repeat (first | rfl | refine one_cons (by assumption) ?_)) (.zero (.cons (.cons (.cons (.cons (.cons .nil))))))) (fun _ _ => ?_))
      refine GE.done (by kernel_rfl) ?_
      refine G.thenN ?_
      refine G.ret ?_
      (exact G.retFc va hova 2 rfl rfl rfl rfl rfl (fun w hw => by rw [add_row t k b] at hw; exact hw.sublist (by repeat (first | exact List.Sublist.refl _ | refine List.Sublist.cons_cons _ ?_ | refine List.Sublist.cons _ ?_))))
    ·
      refine GE.pickOp rfl rfl rfl (og_lit rfl (.cons rfl .nil) rfl rfl rfl rfl rfl rfl) rfl (fun _ _ h => by exact h.drop 2) (fun vl _ => ?_)
      ((refine GE.ol 3 (by kernel_rfl) rfl rfl (og_app1 rfl rfl rfl (by exact Rd.stays (by assumption)) rfl rfl (by simp; omega) (by simp; omega)) rfl (fun _ _ h => by exact h.drop 2) (fun va _ => ?_)))
      ((refine GE.ol 6 (by kernel_rfl) rfl rfl (og_app1 rfl rfl rfl (by exact Rd.owned 0 rfl) rfl rfl (by simp; omega) (by simp; omega)) rfl (fun _ _ h => by exact h.drop 2) (fun va _ => ?_)))
      skip; refine G.know (fun w hw => (Rd.owned 1 rfl (v := va) w hw).one_) (fun hova => ?_)
      refine GE.ol 16 (by kernel_rfl) rfl rfl (og_callV rfl rfl (fun w _ => l1Max_any _ _ w)) rfl (fun _ _ h => by exact h.drop 2) (fun _ _ => ?_)
      refine GE.ol 21 (by kernel_rfl) rfl rfl (og_callV rfl rfl (fun w _ => l1Max_any _ _ w)) rfl (fun _ _ h => by exact h.drop 2) (fun _ _ => ?_)
      refine GE.ol 27 (by kernel_rfl) rfl rfl (og_runs (rv_build2 rfl (.cons (cells_one (by assumption)) (.cons rfl (.cons rfl (.cons rfl (.cons rfl .nil))))) (.cons rfl rfl (.zero (.cons .nil)) (.cons rfl rfl (.succ (.zero (.cons .nil))) (.cons rfl rfl (.succ (.succ (.zero (.cons .nil)))) (.cons rfl rfl (.succ (.succ (.succ (.zero (.cons .nil))))) (.cons rfl rfl (.succ (.succ (.succ (.succ (.zero (.cons .nil)))))) .nil))))))) rfl (fun _ _ h => by exact h.drop 2) (fun _ _ => ?_)
      (refine GE.t0 28 (by kernel_rfl) rfl rfl rfl (og_st2 rfl rfl rfl rfl rfl (by repeat (first | rfl | refine one_cons (by assumption) ?_)) (.zero (.cons (.cons (.cons (.cons (.cons .nil))))))) (fun _ _ => ?_))
      refine GE.done (by kernel_rfl) ?_
      refine G.thenN ?_
      refine G.ret ?_
      (exact G.retFc va hova 2 rfl rfl rfl rfl rfl (fun w hw => by rw [add_row t k b] at hw; exact hw.sublist (by repeat (first | exact List.Sublist.refl _ | refine List.Sublist.cons_cons _ ?_ | refine List.Sublist.cons _ ?_))))
  ·
    refine GE.pickOp rfl rfl rfl (og_lit rfl (.cons rfl .nil) rfl rfl rfl rfl rfl rfl) rfl (fun _ _ h => by exact h.drop 1) (fun vl _ => ?_)
    refine GE.ol 0 (by kernel_rfl) rfl rfl (og_lit rfl .nil rfl rfl rfl rfl rfl rfl) rfl (fun _ _ h => by exact h.drop 2) (fun vl _ => ?_)
    ((refine GE.ol 3 (by kernel_rfl) rfl rfl (og_app0 rfl rfl rfl (by exact Rd.stays (by assumption)) rfl rfl (by simp; omega) (by simp; omega)) rfl (fun _ _ h => by exact h.drop 2) (fun va _ => ?_)))
    ((refine GE.ol 6 (by kernel_rfl) rfl rfl (og_app0 rfl rfl rfl (by exact Rd.owned 1 rfl) rfl rfl (by simp; omega) (by simp; omega)) rfl (fun _ _ h => by exact h.drop 2) (fun va _ => ?_)))
    skip; refine G.know (fun w hw => (Rd.owned 0 rfl (v := va) w hw).one_) (fun hova => ?_)
    refine GE.ol 16 (by kernel_rfl) rfl rfl (og_callV rfl rfl (fun w _ => l1Max_any _ _ w)) rfl (fun _ _ h => by exact h.drop 2) (fun _ _ => ?_)
    refine GE.ol 21 (by kernel_rfl) rfl rfl (og_callV rfl rfl (fun w _ => l1Max_any _ _ w)) rfl (fun _ _ h => by exact h.drop 2) (fun _ _ => ?_)
    refine GE.ol 27 (by kernel_rfl) rfl rfl (og_runs (rv_build2 rfl (.cons (cells_one (by assumption)) (.cons rfl (.cons rfl (.cons rfl (.cons rfl .nil))))) (.cons rfl rfl (.zero (.cons .nil)) (.cons rfl rfl (.succ (.zero (.cons .nil))) (.cons rfl rfl (.succ (.succ (.zero (.cons .nil)))) (.cons rfl rfl (.succ (.succ (.succ (.zero (.cons .nil))))) (.cons rfl rfl (.succ (.succ (.succ (.succ (.zero (.cons .nil)))))) .nil))))))) rfl (fun _ _ h => by exact h.drop 2) (fun _ _ => ?_)
    (refine GE.t0 28 (by kernel_rfl) rfl rfl rfl (og_st2 rfl rfl rfl rfl rfl (by repeat (first | rfl | refine one_cons (by assumption) ?_)) (.zero (.cons (.cons (.cons (.cons (.cons .nil))))))) (fun _ _ => ?_))
    refine GE.done (by kernel_rfl) ?_
    refine G.thenN ?_
    refine G.ret ?_
    (exact G.retFc va hova 2 rfl rfl rfl rfl rfl (fun w hw => by rw [add_row t k b] at hw; exact hw.sublist (by repeat (first | exact List.Sublist.refl _ | refine List.Sublist.cons_cons _ ?_ | refine List.Sublist.cons _ ?_))))
theorem specShelves_any (p : PalletM) {v : Value} {l : List BoxM} (w : World) (h : Rd w v 4 (l.map BoxM.cells)) (hb : l.length ≤ 1048576) :
    Fn Try.prog 56 [p.val, v] w (fun x : Value × List (ShelfM × Value) => x.1.oneCell' = true ∧ x.2.map Prod.fst = shelvesM p l) (fun x => x.1) (fun x => [.grp 3 1 (x.2.map (sub ShelfM.l)), .row x.1 63 5 (x.2.map ShelfM.cells)]) := by
  have pile_lens : ∀ (xs : List (BoxM × Nat)) (k : Nat), ∀ t ∈ (xs.take k).foldl (pileStep (shelfRoom p) shelfAdd shelfZ) [], t.l.length ≤ k := fun xs k => shelf_lens xs k
  have hln : (l.map BoxM.cells).length = l.length := by simp
  have hlk0 : (l.map BoxM.d).length = l.length := by simp
  refine Fn.of (n := 106) Try.func56 rfl rfl ?_
  refine G.seq ?_
  refine G.region ?_
  refine G.op (og_box rfl rfl) rfl (fun bk2 _ => ?_)
  refine G.v (rv_assign rfl) rfl ?_
  refine G.done ?_
  refine G.thenN ?_
  refine G.seq ?_
  refine G.region ?_
  refine G.op (og_lit rfl .nil (by rfl) rfl rfl rfl rfl rfl) rfl (fun vl _ => ?_)
  obtain ⟨vs, hvs⟩ : ∃ y, y = vl := ⟨_, rfl⟩
  subst hvs
  refine G.v (rv_assign rfl) rfl ?_
  refine G.done ?_
  refine G.thenN ?_
  refine G.seq ?_
  refine G.seq ?_
  refine G.region ?_
  (refine G.v (rv_loadW 1 rfl rfl rfl) rfl ?_)
  refine G.v (rv_move rfl) rfl ?_
  refine G.op (og_callV rfl rfl (fun w hh => sboxesOk_any _ w (by exact Rd.stays (by assumption) _ hh))) rfl (fun _ _ => ?_)
  refine G.v (rv_not rfl) rfl ?_
  refine G.done ?_
  refine G.thenN ?_
  refine G.cond rfl (fun hc => ?_) (fun hc => ?_)
  · try exact Bool.noConfusion hc
    all_goals
     try replace hc := of_decide_eq_true hc
     try simp only [List.length_map] at hc
     try (exfalso; contradiction)
     all_goals
      refine G.seq ?_
      refine G.region ?_
      refine G.v (rv_move rfl) rfl ?_
      refine G.v (rv_assign rfl) rfl ?_
      refine G.done ?_
      refine G.thenN ?_
      refine G.ret ?_
      refine G.thenR ?_
      (refine G.know (fun w hw => (Rd.owned 0 rfl w hw).one_) (fun hovl => ?_); exact G.retF (vs, []) ⟨hovl, by rw [shelf_no (by simpa using hc)]; rfl⟩ rfl rfl rfl (fun w hw => (hw.sublist (by repeat (first | exact List.Sublist.refl _ | refine List.Sublist.cons_cons _ ?_ | refine List.Sublist.cons _ ?_)) : HeapOk _ w [.row vs 63 5 []]).nilGrp _ _))
  · try exact Bool.noConfusion hc
    all_goals
     try replace hc := of_decide_eq_false hc
     try simp only [List.length_map] at hc
     try (exfalso; contradiction)
     all_goals
      refine G.skip ?_
      refine G.thenN ?_
      refine G.seq ?_
      refine G.region ?_
      refine G.op (og_lit rfl .nil rfl rfl rfl rfl rfl rfl) rfl (fun vl _ => ?_)
      refine G.v (rv_assign rfl) rfl ?_
      refine G.done ?_
      refine G.thenN ?_
      refine G.seq ?_
      refine G.seq ?_
      refine G.region ?_
      refine G.v (rv_assign rfl) rfl ?_
      refine G.done ?_
      refine G.thenN ?_
      refine G.block ?_
      -- loop 0: turned [6, 7], kept [1, 2, 5]
      have hok := hc
      have hpp := pallet_in (palletOk_of hc)
      refine G.loopK (ι := Nat × Value) (ks := [1, 2, 5]) (fun x => [(6, x.2), (7, .int .i64 (x.1 : Int))]) (fun x => [.row x.2 3 1 (((l.take x.1).map BoxM.d).map icell)]) (fun x => x.1 ≤ l.length) (fun x => l.length - x.1) (0, vl) (.cons rfl (.cons rfl (.cons rfl (.nil)))) rfl ?_ ?_ ?_
      · exact Nat.zero_le _
      · exact ⟨rfl, rfl, trivial⟩
      rintro ⟨k0, v0⟩ hk0
      dsimp only at hk0 ⊢
      have hl9 : (((l.take k0).map BoxM.d).map icell).length = k0 := by (simp; omega)
      by_cases hlt0 : k0 < l.length
      case' pos => (obtain ⟨b, hb2⟩ := get_of_lt hlt0; have heb := get_map hb2 BoxM.cells)
      case' neg => (have hkall : ((l.take k0).map BoxM.d).map icell = (l.map BoxM.d).map icell := (by rw [List.take_of_length_le (by omega)]))
      all_goals
       refine G.seq ?_
       refine G.seq ?_
       refine G.region ?_
       refine G.v (rv_move rfl) rfl ?_
       refine G.v (rv_move rfl) rfl ?_
       refine G.v (rv_len rfl (by exact Rd.stays (by assumption))) rfl ?_
       refine G.v (rv_lss rfl rfl) rfl ?_
       refine G.done ?_
       refine G.thenN ?_
       refine G.cond rfl (fun hc => ?_) (fun hc => ?_)
       · try exact Bool.noConfusion hc
         all_goals
          try replace hc := of_decide_eq_true hc
          try simp only [List.length_map] at hc
          try (exfalso; omega)
          all_goals
           refine G.skip ?_
           refine G.thenN ?_
           refine G.seq ?_
           refine G.block ?_
           refine G.region ?_
           refine G.v (rv_move rfl) rfl ?_
           refine G.v (rv_move rfl) rfl ?_
           refine G.v (rv_move rfl) rfl ?_
           (refine G.v (rv_indexH rfl rfl (by exact Rd.stays (by assumption)) rfl (by exact heb)) rfl ?_)
           (refine G.v (rv_fieldE rfl) rfl ?_)
           refine G.v (rv_loadE rfl (by exact Rd.stays (by assumption)) (by exact heb) rfl) rfl ?_
           refine G.op (og_lit rfl (.cons rfl .nil) rfl rfl rfl rfl rfl rfl) rfl (fun vl _ => ?_)
           ((refine G.op (og_app1 rfl rfl rfl (by exact Rd.owned 0 rfl) rfl rfl (by simp; omega) (by simp; omega)) rfl (fun va _ => ?_)))
           refine G.v (rv_assign rfl) rfl ?_
           refine G.done ?_
           refine G.inN ?_
           refine G.thenN ?_
           refine G.region ?_
           refine G.v (rv_move rfl) rfl ?_
           (refine G.v (rv_incr rfl rfl (by omega)) rfl ?_)
           refine G.v (rv_assign rfl) rfl ?_
           refine G.done ?_
           refine G.backK (k0 + 1, va) 1 (one_eq (congrArg (fun z => Ch.row va 3 1 z) (dsnoc hb2))) (.cons rfl (.cons rfl (.cons rfl (.nil)))) ?_ ?_ ?_
           · exact ⟨rfl, rfl, trivial⟩
           · dsimp only; omega
           · dsimp only; omega
       · try exact Bool.noConfusion hc
         all_goals
          try replace hc := of_decide_eq_false hc
          try simp only [List.length_map] at hc
          try (exfalso; omega)
          all_goals
           refine G.exit ?_
           refine G.thenX ?_
           refine G.thenX ?_
           refine G.inX ?_
           refine G.thenN ?_
           refine G.seq ?_
           refine G.region ?_
           refine G.v (rv_move rfl) rfl ?_
           (first | (refine G.op (og_callF1 rfl rfl (fun w hh => ssortDown_any (ks := l.map BoxM.d) w (by rw [← hkall]; first | exact Rd.owned 0 rfl _ hh | exact Rd.owned 1 rfl _ hh | exact Rd.owned 2 rfl _ hh | exact Rd.owned 3 rfl _ hh) (by omega))) rfl ?_; rintro vo hvo; try dsimp only) | (refine G.op (og_callF2 rfl rfl (fun w hh => ssortDown_any (ks := l.map BoxM.d) w (by rw [← hkall]; first | exact Rd.owned 0 rfl _ hh | exact Rd.owned 1 rfl _ hh | exact Rd.owned 2 rfl _ hh | exact Rd.owned 3 rfl _ hh) (by omega))) rfl ?_; rintro vo hvo; try dsimp only) | (refine G.op (og_callF3 rfl rfl (fun w hh => ssortDown_any (ks := l.map BoxM.d) w (by rw [← hkall]; first | exact Rd.owned 0 rfl _ hh | exact Rd.owned 1 rfl _ hh | exact Rd.owned 2 rfl _ hh | exact Rd.owned 3 rfl _ hh) (by omega))) rfl ?_; rintro vo hvo; try dsimp only) | (refine G.op (og_callF0 rfl rfl (fun w hh => ssortDown_any (ks := l.map BoxM.d) w (by rw [← hkall]; first | exact Rd.owned 0 rfl _ hh | exact Rd.owned 1 rfl _ hh | exact Rd.owned 2 rfl _ hh | exact Rd.owned 3 rfl _ hh) (by omega))) rfl ?_; rintro vo hvo; try dsimp only) | (refine G.op (og_callF rfl rfl (fun w hh => ssortDown_any (ks := l.map BoxM.d) w (by rw [← hkall]; first | exact Rd.owned 0 rfl _ hh | exact Rd.owned 1 rfl _ hh | exact Rd.owned 2 rfl _ hh | exact Rd.owned 3 rfl _ hh) (by omega))) rfl ?_; rintro vo hvo; try dsimp only))
           refine G.v (rv_assign rfl) rfl ?_
           refine G.done ?_
           refine G.thenN ?_
           refine G.seq ?_
           refine G.seq ?_
           refine G.region ?_
           refine G.v (rv_assign rfl) rfl ?_
           refine G.done ?_
           refine G.thenN ?_
           refine G.block ?_
           -- loop 1: turned [5, 9], kept [1, 2, 8]
           (refine G.frontR2 vs rfl ?_)
           refine G.heap (fun w hh => hh.nilGrp 3 1) ?_
           have hoL := ordM_len (keyM (l.map BoxM.d)) l.length
           have hol2 : ((ordM (keyM (l.map BoxM.d)) (l.map BoxM.d).length).map ncell).length = l.length := by rw [List.length_map, ordM_len, hlk0]
           refine G.loopK (ι := Nat × List (ShelfM × Value) × Value) (ks := [1, 2, 8]) (fun x => [(5, x.2.2), (9, .int .i64 (x.1 : Int))]) (fun x => [.grp 3 1 (x.2.1.map (sub ShelfM.l)), .row x.2.2 63 5 (x.2.1.map ShelfM.cells)]) (fun x => x.1 ≤ l.length ∧ x.2.1.map Prod.fst = ((shelfXs l).take x.1).foldl (pileStep (shelfRoom p) shelfAdd shelfZ) []) (fun x => l.length - x.1) (0, [], vs) (.cons rfl (.cons rfl (.cons rfl (.nil)))) rfl ?_ ?_ ?_
           · exact ⟨Nat.zero_le _, rfl⟩
           · exact ⟨rfl, rfl, trivial⟩
           rintro ⟨k, ts, v2⟩ ⟨hk, hM⟩
           dsimp only at hk hM ⊢
           by_cases hlt : k < l.length
           case' pos => (obtain ⟨x, hx⟩ := get_of_lt (l := ordM (keyM (l.map BoxM.d)) l.length) (k := k) (by omega); have hxl : x < l.length := ordM_mem.1 (List.mem_of_getElem? hx); have heo : ((ordM (keyM (l.map BoxM.d)) (l.map BoxM.d).length).map ncell)[k]? = some (ncell x) := get_map (by rw [hlk0]; exact hx) ncell; obtain ⟨b, hb2⟩ := get_of_lt hxl; have heb := get_map hb2 BoxM.cells; have hobb := box_in (ok_at hok hb2).2; have hz := xs_get hx hb2; have hl0 : (ts.map ShelfM.cells).length = ts.length := (by simp); have hlk : ts.length ≤ k := (by (have := pile_len (room := shelfRoom p) (add := shelfAdd) (z := shelfZ) ((shelfXs l).take k) []; rw [← hM] at this; simp only [List.length_map, List.length_nil, List.length_take] at this; omega)); rcases nil_or_snoc ts with hts | ⟨tp, t, hts⟩; have hn0 : ts.length = 0 := (by rw [hts]; rfl); rotate_left; have hn1 : ts.length = tp.length + 1 := (by (rw [hts]; simp)); obtain ⟨q, hq⟩ : ∃ y, y = tp.length := ⟨_, rfl⟩; have htq : ts[q]? = some t := (by (rw [hq]; exact get_last hts)); have he := get_map htq ShelfM.cells; have hgi : (ts.map (sub ShelfM.l))[q]? = some (t.2, t.1.l.map icell) := get_mapS htq; have hbt : 0 ≤ t.1.w ∧ t.1.w ≤ p.w ∧ 0 ≤ t.1.d ∧ t.1.d ≤ p.d ∧ 0 ≤ t.1.h ∧ t.1.h ≤ p.h ∧ 0 ≤ t.1.g ∧ t.1.g ≤ p.g := (by (have := shelf_bd (p := p) (l := l) (bnot_no hok) k; rw [← hM] at this; exact this t.1 (List.mem_map.2 ⟨t, List.mem_of_getElem? htq, rfl⟩))); refine G.know (fun w hw => (Rd.grp 0 rfl (List.mem_of_getElem? hgi) w hw).one_) (fun hov2 => ?_); have hlb : t.1.l.length ≤ 1048576 := (by (have := pile_lens (shelfXs l) k; rw [← hM] at this; have := this t.1 (List.mem_map.2 ⟨t, List.mem_of_getElem? htq, rfl⟩); omega)))
           all_goals
            refine G.seq ?_
            refine G.seq ?_
            refine G.region ?_
            refine G.v (rv_move rfl) rfl ?_
            refine G.v (rv_move rfl) rfl ?_
            refine G.v (rv_len rfl (by exact Rd.owned 2 rfl)) rfl ?_
            refine G.v (rv_lss rfl rfl) rfl ?_
            refine G.done ?_
            refine G.thenN ?_
            refine G.cond rfl (fun hc => ?_) (fun hc => ?_)
            · try exact Bool.noConfusion hc
              all_goals
               try replace hc := of_decide_eq_true hc
               try simp only [List.length_map] at hc
               try (exfalso; omega)
               all_goals
                refine G.skip ?_
                refine G.thenN ?_
                refine G.seq ?_
                refine G.block ?_
                refine G.seq ?_
                refine G.region ?_
                refine G.v (rv_move rfl) rfl ?_
                refine G.v (rv_move rfl) rfl ?_
                refine G.v (rv_move rfl) rfl ?_
                (refine G.v (rv_indexH rfl rfl (by exact Rd.owned 2 rfl) rfl (by exact heo)) rfl ?_)
                refine G.v (rv_loadE rfl (by exact Rd.owned 2 rfl) (by exact heo) rfl) rfl ?_
                (refine G.v (rv_indexH rfl rfl (by exact Rd.stays (by assumption)) rfl (by exact heb)) rfl ?_)
                (refine G.v (rv_loadEW rfl (by exact Rd.stays (by assumption)) (by exact heb) rfl) rfl ?_)
                refine G.op (og_alloc) rfl (fun bk10 _ => ?_)
                (refine G.op0 (og_st0 rfl rfl rfl rfl rfl rfl (.zero (.cons (.cons (.cons (.cons .nil)))))) (fun _ _ => ?_))
                refine G.done ?_
                refine G.thenN ?_
                refine G.seq ?_
                refine G.region ?_
                refine G.v (rv_move rfl) rfl ?_
                refine G.v (rv_len rfl (by exact Rd.owned 2 rfl)) rfl ?_
                refine G.v (rv_assign rfl) rfl ?_
                refine G.done ?_
                refine G.thenN ?_
                refine G.seq ?_
                refine G.drawL [] ?_
                refine GE.ol 0 (by kernel_rfl) rfl rfl (og_runs (rv_move rfl)) rfl (fun _ _ h => by exact h) (fun _ _ => ?_)
                refine GE.ol 1 (by kernel_rfl) rfl rfl (og_runs (rv_gtr rfl rfl)) rfl (fun _ _ h => by exact h) (fun _ _ => ?_)
                refine GE.ol 2 (by kernel_rfl) rfl rfl (og_runs (rv_move rfl)) rfl (fun _ _ h => by exact h) (fun _ _ => ?_)
                all_goals (((with_reducible refine GE.part (t := 52) rfl (fun hg => ?_) (fun hg => ?_)) <;> (try exact Bool.noConfusion hg) <;> (try (exfalso; first | (have hq := of_decide_eq_false hg; omega) | (have hq := of_decide_eq_true hg; omega); done)) <;> (first | refine GE.q 3 rfl (by kernel_rfl) rfl (qg_runs (rv_move rfl)) rfl ?_ | refine GE.qn 3 rfl (by kernel_rfl) rfl rfl ?_)))
                all_goals ((first | refine GE.q 4 rfl (by kernel_rfl) rfl (qg_runs (rv_move rfl)) rfl ?_ | refine GE.qn 4 rfl (by kernel_rfl) rfl rfl ?_))
                all_goals ((first | (refine GE.q 5 rfl (by kernel_rfl) rfl (qg_runs (rv_decr rfl rfl (by omega) (by omega))) rfl ?_) | refine GE.qn 5 rfl (by kernel_rfl) rfl rfl ?_))
                all_goals ((first | (refine GE.q 6 rfl (by kernel_rfl) rfl (qg_runs (rv_indexH (k := q) rfl rfl (by exact Rd.owned 2 rfl) (by omega) (by exact he))) rfl ?_) | refine GE.qn 6 rfl (by kernel_rfl) rfl rfl ?_))
                all_goals ((first | (refine GE.q 7 rfl (by kernel_rfl) rfl (qg_runs (rv_fieldE rfl)) rfl ?_) | refine GE.qn 7 rfl (by kernel_rfl) rfl rfl ?_))
                all_goals ((first | refine GE.q 8 rfl (by kernel_rfl) rfl (qg_runs (rv_loadE rfl (by first | exact Rd.stays (by assumption) | exact Rd.owned 2 rfl) (by first | exact he | exact heb) rfl)) rfl ?_ | refine GE.qn 8 rfl (by kernel_rfl) rfl rfl ?_))
                all_goals ((first | (refine GE.q 9 rfl (by kernel_rfl) rfl (qg_runs (rv_field rfl)) rfl ?_) | refine GE.qn 9 rfl (by kernel_rfl) rfl rfl ?_))
                all_goals ((first | (refine GE.q 10 rfl (by kernel_rfl) rfl (qg_runs (rv_load1 0 rfl rfl rfl)) rfl ?_) | refine GE.qn 10 rfl (by kernel_rfl) rfl rfl ?_))
                all_goals ((first | (refine GE.q 11 rfl (by kernel_rfl) rfl (qg_runs (rv_addB rfl rfl (by omega) (by omega))) rfl ?_) | refine GE.qn 11 rfl (by kernel_rfl) rfl rfl ?_))
                all_goals ((first | (refine GE.q 12 rfl (by kernel_rfl) rfl (qg_runs (rv_field rfl)) rfl ?_) | refine GE.qn 12 rfl (by kernel_rfl) rfl rfl ?_))
                all_goals ((first | (refine GE.q 13 rfl (by kernel_rfl) rfl (qg_runs (rv_load1 5 rfl rfl rfl)) rfl ?_) | refine GE.qn 13 rfl (by kernel_rfl) rfl rfl ?_))
                all_goals ((first | refine GE.q 14 rfl (by kernel_rfl) rfl (qg_runs (rv_leq rfl rfl)) rfl ?_ | refine GE.qn 14 rfl (by kernel_rfl) rfl rfl ?_))
                all_goals ((first | refine GE.ol 15 (by kernel_rfl) rfl rfl (og_runs (rv_pickT rfl rfl)) rfl (fun _ _ h => by exact h) (fun _ _ => ?_) | refine GE.ol 15 (by kernel_rfl) rfl rfl (og_runs (rv_pickF rfl rfl)) rfl (fun _ _ h => by exact h) (fun _ _ => ?_)))
                all_goals (refine GE.ol 16 (by kernel_rfl) rfl rfl (og_runs (rv_move rfl)) rfl (fun _ _ h => by exact h) (fun _ _ => ?_))
                all_goals (((with_reducible refine GE.part (t := 66) rfl (fun hg => ?_) (fun hg => ?_)) <;> (try exact Bool.noConfusion hg) <;> (try (exfalso; (have hq := of_decide_eq_false hg; omega))) <;> (first | refine GE.q 17 rfl (by kernel_rfl) rfl (qg_runs (rv_move rfl)) rfl ?_ | refine GE.qn 17 rfl (by kernel_rfl) rfl rfl ?_)))
                all_goals ((first | refine GE.q 18 rfl (by kernel_rfl) rfl (qg_runs (rv_move rfl)) rfl ?_ | refine GE.qn 18 rfl (by kernel_rfl) rfl rfl ?_))
                all_goals ((first | (refine GE.q 19 rfl (by kernel_rfl) rfl (qg_runs (rv_decr rfl rfl (by omega) (by omega))) rfl ?_) | refine GE.qn 19 rfl (by kernel_rfl) rfl rfl ?_))
                all_goals ((first | (refine GE.q 20 rfl (by kernel_rfl) rfl (qg_runs (rv_indexH (k := q) rfl rfl (by exact Rd.owned 2 rfl) (by omega) (by exact he))) rfl ?_) | refine GE.qn 20 rfl (by kernel_rfl) rfl rfl ?_))
                all_goals ((first | (refine GE.q 21 rfl (by kernel_rfl) rfl (qg_runs (rv_fieldE rfl)) rfl ?_) | refine GE.qn 21 rfl (by kernel_rfl) rfl rfl ?_))
                all_goals ((first | refine GE.q 22 rfl (by kernel_rfl) rfl (qg_runs (rv_loadE rfl (by first | exact Rd.stays (by assumption) | exact Rd.owned 2 rfl) (by first | exact he | exact heb) rfl)) rfl ?_ | refine GE.qn 22 rfl (by kernel_rfl) rfl rfl ?_))
                all_goals ((first | (refine GE.q 23 rfl (by kernel_rfl) rfl (qg_runs (rv_field rfl)) rfl ?_) | refine GE.qn 23 rfl (by kernel_rfl) rfl rfl ?_))
                all_goals ((first | (refine GE.q 24 rfl (by kernel_rfl) rfl (qg_runs (rv_load1 0 rfl rfl rfl)) rfl ?_) | refine GE.qn 24 rfl (by kernel_rfl) rfl rfl ?_))
                all_goals ((first | (refine GE.q 25 rfl (by kernel_rfl) rfl (qg_runs (rv_addB rfl rfl (by omega) (by omega))) rfl ?_) | refine GE.qn 25 rfl (by kernel_rfl) rfl rfl ?_))
                all_goals ((first | (refine GE.q 26 rfl (by kernel_rfl) rfl (qg_runs (rv_field rfl)) rfl ?_) | refine GE.qn 26 rfl (by kernel_rfl) rfl rfl ?_))
                all_goals ((first | (refine GE.q 27 rfl (by kernel_rfl) rfl (qg_runs (rv_load1 5 rfl rfl rfl)) rfl ?_) | refine GE.qn 27 rfl (by kernel_rfl) rfl rfl ?_))
                all_goals ((first | refine GE.q 28 rfl (by kernel_rfl) rfl (qg_runs (rv_leq rfl rfl)) rfl ?_ | refine GE.qn 28 rfl (by kernel_rfl) rfl rfl ?_))
                all_goals ((first | refine GE.ol 29 (by kernel_rfl) rfl rfl (og_runs (rv_pickT rfl rfl)) rfl (fun _ _ h => by exact h) (fun _ _ => ?_) | refine GE.ol 29 (by kernel_rfl) rfl rfl (og_runs (rv_pickF rfl rfl)) rfl (fun _ _ h => by exact h) (fun _ _ => ?_)))
                all_goals
                 refine GE.done (by kernel_rfl) ?_
                 refine G.thenN ?_
                 refine G.cond rfl (fun hc => ?_) (fun hc => ?_)
                 · try exact Bool.noConfusion hc
                   all_goals
                    try replace hc := of_decide_eq_true hc
                    try simp only [List.length_map] at hc
                    try (exfalso; contradiction)
                    all_goals
                     obtain ⟨us, hus⟩ : ∃ y, y = ts := ⟨_, rfl⟩
                     obtain ⟨vr, hvr⟩ : ∃ y, y = v2 := ⟨_, rfl⟩
                     have hl1 : (us.map ShelfM.cells).length = q + 1 := by rw [hus]; omega
                     have hst : pileStep (shelfRoom p) shelfAdd shelfZ (ts.map Prod.fst) (b, x) = (us.map Prod.fst).set q (shelfAdd t.1 x b) := by
                       rw [hus]; exact pile_room (fst_at htq) (by rw [List.length_map]; omega) (by simp only [shelfRoom, Bool.and_eq_true, decide_eq_true_eq]; ((have hq9 := of_decide_eq_true hg; omega)))
                     subst hvr hus
                     all_goals
                      refine G.drawL [14, 15] ?_
                      refine GE.q 0 rfl (by kernel_rfl) rfl (qg_runs (rv_move rfl)) rfl ?_
                      refine GE.q 1 rfl (by kernel_rfl) rfl (qg_runs (rv_move rfl)) rfl ?_
                      (refine GE.q 2 rfl (by kernel_rfl) rfl (qg_runs (rv_decr rfl rfl (by omega) (by omega))) rfl ?_)
                      refine GE.q 3 rfl (by kernel_rfl) rfl (qg_runs (rv_move rfl)) rfl ?_
                      refine GE.q 4 rfl (by kernel_rfl) rfl (qg_runs (rv_move rfl)) rfl ?_
                      (refine GE.q 5 rfl (by kernel_rfl) rfl (qg_runs (rv_decr rfl rfl (by omega) (by omega))) rfl ?_)
                      (refine GE.q 6 rfl (by kernel_rfl) rfl (qg_runs (rv_indexH (k := q) rfl rfl (by exact Rd.owned 2 rfl) (by omega) (by exact he))) rfl ?_)
                      (refine GE.q 7 rfl (by kernel_rfl) rfl (qg_runs (rv_loadEW rfl (by exact Rd.owned 2 rfl) (by exact he) rfl)) rfl ?_)
                      refine GE.q 8 rfl (by kernel_rfl) rfl (qg_runs (rv_move rfl)) rfl ?_
                      refine GE.q 9 rfl (by kernel_rfl) rfl (qg_runs (rv_move rfl)) rfl ?_
                      (refine GE.q 10 rfl (by kernel_rfl) rfl (qg_runs (rv_indexH rfl rfl (by exact Rd.owned 3 rfl) rfl (by exact heo))) rfl ?_)
                      refine GE.q 11 rfl (by kernel_rfl) rfl (qg_runs (rv_loadE rfl (by exact Rd.owned 3 rfl) (by exact heo) rfl)) rfl ?_
                      (refine GE.ol 12 (by kernel_rfl) rfl rfl (og_runs (rv_loadW 0 rfl rfl rfl)) rfl (fun _ _ h => by exact h) (fun _ _ => ?_))
                      (refine GE.ol 13 (by kernel_rfl) rfl rfl (og_callF1 rfl rfl (fun w hh => l10Add_any t.1 x b w hov2 (by exact Rd.grp 1 rfl (List.mem_of_getElem? hgi) _ hh) hlb (by omega) (by omega))) rfl (fun _ _ h => by exact h.drop 1) ?_; rintro vn hvn; try dsimp only)
                      (refine GE.t 14 (by kernel_rfl) rfl rfl rfl (og_runs (rv_indexH (k := q) rfl rfl (by exact Rd.owned 3 rfl) (by omega) (by exact he))) rfl (fun _ _ => ?_))
                      (refine GE.t0 15 (by kernel_rfl) rfl rfl rfl (og_stE3 rfl rfl rfl (by exact he) rfl rfl (by repeat (first | rfl | refine one_cons (by assumption) ?_)) rfl (.zero (.cons (.cons (.cons (.cons (.cons .nil))))))) (fun _ _ => ?_))
                      refine GE.done (by kernel_rfl) ?_
                      refine G.inN ?_
                      refine G.thenN ?_
                      refine G.region ?_
                      refine G.v (rv_move rfl) rfl ?_
                      (refine G.v (rv_incr rfl rfl (by omega)) rfl ?_)
                      refine G.v (rv_assign rfl) rfl ?_
                      refine G.done ?_
                      ((refine G.frontR3 vr rfl ?_); (refine G.frontG3 _ rfl ?_); (refine G.frontR2 vn rfl ?_); refine G.swapRow ((us.set q (shelfAdd t.1 x b, vn)).map (sub ShelfM.l)) hgi (sub_set rfl) rfl ?_)
                      (refine G.keep2 1 rfl ?_; refine G.backK (k + 1, us.set q (shelfAdd t.1 x b, vn), vr) 0 (by exact two_eq rfl (congrArg (fun z => Ch.row vr 63 5 z) (cells_set rfl))) (.cons rfl (.cons rfl (.cons rfl (.nil)))) ?_ ?_ ?_)
                      · exact ⟨rfl, rfl, trivial⟩
                      · exact ⟨hlt, by rw [foldl_take_succ hz, ← hM, hst, List.map_set]⟩
                      · omega
                 · try exact Bool.noConfusion hc
                   all_goals
                    try replace hc := of_decide_eq_false hc
                    try simp only [List.length_map] at hc
                    try (exfalso; contradiction)
                    all_goals
                     have hst2 : pileStep (shelfRoom p) shelfAdd shelfZ (ts.map Prod.fst) (b, x) = ts.map Prod.fst ++ [shelfAdd shelfZ x b] := by
                       exact pile_new2 (room := shelfRoom p) (add := shelfAdd) (z := shelfZ) (out := ts.map Prod.fst) (s := b) (k := x) (by intro t2 ht2; first | (rw [hts] at ht2; simp at ht2; done) | (rw [last_of hts] at ht2; obtain rfl := Option.some.inj ht2; simp only [shelfRoom, Bool.and_eq_false_iff, decide_eq_false_iff_not]; (first | (have hq9 := of_decide_eq_false hg; omega) | omega)))
                     all_goals
                      refine G.frontR2 v2 rfl ?_
                      refine G.drawD1 [10] rfl ?_
                      refine GE.q2 0 rfl (by kernel_rfl) rfl (qg_runs (rv_move rfl)) (fun _ h => by exact h.drop 1) rfl ?_
                      refine GE.q2 1 rfl (by kernel_rfl) rfl (qg_runs (rv_build2 rfl .nil .nil)) (fun _ h => by exact h.drop 1) rfl ?_
                      refine GE.q2 2 rfl (by kernel_rfl) rfl (qg_runs (rv_move rfl)) (fun _ h => by exact h.drop 1) rfl ?_
                      refine GE.q2 3 rfl (by kernel_rfl) rfl (qg_runs (rv_move rfl)) (fun _ h => by exact h.drop 1) rfl ?_
                      (refine GE.q2 4 rfl (by kernel_rfl) rfl (qg_runs (rv_indexH rfl rfl (by exact Rd.owned 2 rfl) rfl (by exact heo))) (fun _ h => by exact h.drop 1) rfl ?_)
                      refine GE.q2 5 rfl (by kernel_rfl) rfl (qg_runs (rv_loadE rfl (by exact Rd.owned 2 rfl) (by exact heo) rfl)) (fun _ h => by exact h.drop 1) rfl ?_
                      (refine GE.ol 6 (by kernel_rfl) rfl rfl (og_runs (rv_loadW 1 rfl rfl rfl)) rfl (fun _ _ h => by exact h.drop 1) (fun _ _ => ?_))
                      (refine GE.ol 7 (by kernel_rfl) rfl rfl (og_callF1 rfl rfl (fun w hh => l10Add_any shelfZ x b w rfl (Rd.nil_ _ _) (Nat.zero_le _) (by dsimp only [shelfZ]; omega) (by omega))) rfl (fun _ _ h => by exact h.drop 2) ?_; rintro vn hvn; try dsimp only)
                      refine GE.ol 8 (by kernel_rfl) rfl rfl (og_lit rfl (.cons rfl .nil) (by (simp only [List.all_cons, List.all_nil, Bool.and_true, Bool.and_eq_true]; exact ⟨rfl, by repeat (first | rfl | refine one_cons (by assumption) ?_)⟩)) rfl rfl rfl rfl rfl) rfl (fun _ _ h => by exact h.drop 3) (fun vl _ => ?_)
                      ((refine GE.ol 9 (by kernel_rfl) rfl rfl (og_app2 rfl rfl rfl (by exact Rd.owned 0 rfl) rfl rfl (by simp; omega) (by simp; omega)) rfl (fun _ _ h => by exact h.drop 3) (fun va _ => ?_)))
                      refine GE.t 10 (by kernel_rfl) rfl rfl rfl (og_runs (rv_assign rfl)) rfl (fun _ _ => ?_)
                      refine GE.done (by kernel_rfl) ?_
                      refine G.inN ?_
                      refine G.thenN ?_
                      refine G.region ?_
                      refine G.v (rv_move rfl) rfl ?_
                      (refine G.v (rv_incr rfl rfl (by omega)) rfl ?_)
                      refine G.v (rv_assign rfl) rfl ?_
                      refine G.done ?_
                      ((refine G.frontR2 va rfl ?_); (refine G.frontG4 _ rfl ?_); (refine G.frontR3 vn rfl ?_); refine G.pushRow ((ts ++ [(shelfAdd shelfZ x b, vn)]).map (sub ShelfM.l)) (by rw [List.map_append]; rfl) rfl ?_)
                      (refine G.keep2 2 rfl ?_; refine G.backK (k + 1, ts ++ [(shelfAdd shelfZ x b, vn)], va) 0 (by (exact two_eq rfl (congrArg (fun z => Ch.row va 63 5 z) (by rw [List.map_append]; rfl)))) (.cons rfl (.cons rfl (.cons rfl (.nil)))) ?_ ?_ ?_)
                      · exact ⟨rfl, rfl, trivial⟩
                      · (exact ⟨hlt, by rw [foldl_take_succ hz, ← hM, hst2, List.map_append]; rfl⟩)
                      · omega
            · try exact Bool.noConfusion hc
              all_goals
               try replace hc := of_decide_eq_false hc
               try simp only [List.length_map] at hc
               try (exfalso; omega)
               all_goals
                refine G.exit ?_
                refine G.thenX ?_
                refine G.thenX ?_
                refine G.inX ?_
                refine G.thenN ?_
                refine G.seq ?_
                refine G.region ?_
                refine G.v (rv_move rfl) rfl ?_
                refine G.v (rv_assign rfl) rfl ?_
                refine G.done ?_
                refine G.thenN ?_
                refine G.ret ?_
                (refine G.know (fun w hw => (Rd.owned 1 rfl w hw).one_) (fun hone => G.retF (v2, ts) ⟨hone, shelf_end (bnot_no hok) hM hlt⟩ rfl rfl rfl (fun w hw => hw.sublist (by repeat (first | exact List.Sublist.refl _ | refine List.Sublist.cons_cons _ ?_ | refine List.Sublist.cons _ ?_)))); done)
end Go.Proofs.Yticgeijklhlonaa
