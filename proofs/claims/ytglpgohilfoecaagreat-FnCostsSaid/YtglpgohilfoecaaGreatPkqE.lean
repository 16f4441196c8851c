/-
  Texts of this proof, one behind the other: Sorts3, FirstW, FirstX, IsPackM, LaySort, SortG, BoxO, Plan, Plan2, OnP, PGram, HoldW, CartW, CartX, Oks, Piles, Shelv, Shelv2, ShelfLaw, StackLaw, SpotP, Spots, Spots2, PackLaw, LowLaw, CartLaw, CostW, PlanW, ApartLaw, ApartLaw2, NeedLaw.
-/
import Derived.Test.YtglpgohilfoecaaGreatPkqD
import Derived.Test.YtglpgohilfoecaaGreatPkqA
import Derived.Shelf.Sort.Plain
import Derived.Test.YtglpgohilfoecaaGreatProg
import Derived.Test.YtglpgohilfoecaaGreatPkqB
import Derived.Sort.OwnSortedInts
import Derived.Test.YtglpgohilfoecaaGreatPkqC

/-
  Sorting of keys: the program's by the library, the reference's by halves.
-/
namespace Go.Proofs.YtglpgohilfoecaaGreat
open Go.RowKit
attribute [local irreducible] Go.wpList Go.Code.wp Go.Exit.then Go.Exit.inBlock Go.bodyPost Go.Calls pE pB G RunsV FnV Fn FnM
set_option maxRecDepth 100000
set_option maxHeartbeats 4000000
section
variable {w0 : World} {F : List Ch} {v : Value} {n : Nat} {g : Nat} [FnOk Tryz.prog g] {caps : List Value} {K : Nat → Int}
theorem stable_any (hcmp : ∀ w, HeapOk w0 w F → ∀ i j : Nat, i < n → j < n → FnV Tryz.prog g ([.int .i64 (i : Int), .int .i64 (j : Int)] ++ caps) w (.int .i64 (cmpZ (K i) (K j)))) (hn : n ≤ 1048576) :
    FnMF Tryz.prog 236 [v, .int .i64 (n : Int), .func (.func g) #[] caps.toArray] w0 [.row v 3 1 (rowF n fun j => j)] F (fun f' : Nat → Nat => Seg K 0 n f') (fun _ => .tuple #[]) (fun f' => [.row v 3 1 (rowF n f')]) := by
  refine FnMF.of (n := 63) Tryz.func236 rfl rfl ?_; refine G.seq (G.region (G.v (rv_assign rfl) rfl (G.done (G.thenN (G.seq (G.region (G.v (rv_move rfl) rfl (G.v (rv_assign rfl) rfl (G.v (rv_assign rfl) rfl (G.done (G.thenN ?_))))))))))); refine G.seq (G.block ?_)
  -- loop 0: turned [7, 8], kept [0, 1, 2, 6]
  refine G.loopK (ι := Nat × Nat × (Nat → Nat)) (ks := [0, 1, 2, 6]) (fun x => [(7, .int .i64 (x.2.1 : Int)), (8, .int .i64 ((x.2.1 + 20 : Nat) : Int))]) (fun x => [.row v 3 1 (rowF n x.2.2)]) (fun x => x.2.1 = x.1 * 20 ∧ Ins K n x.1 x.2.2) (fun x => n - x.2.1) (0, 0, fun j => j) (.cons rfl (.cons rfl (.cons rfl (.cons rfl (.nil))))) rfl ?_ ?_ ?_
  · exact ⟨rfl, Ins.start K n⟩
  · exact ⟨rfl, rfl, trivial⟩
  rintro ⟨q, a, f⟩ ⟨ha, hI⟩
  dsimp only at ha hI ⊢
  have hIl := hI.le
  by_cases hlt : a + 20 ≤ n
  all_goals
   refine G.seq (G.seq (G.region (G.v (rv_move rfl) rfl (G.v (rv_move rfl) rfl (G.v (rv_leq rfl rfl) rfl (G.done (G.thenN ?_))))))); refine G.cond rfl (fun hc => ?_) (fun hc => ?_)
   · try exact Bool.noConfusion hc
     all_goals
      try replace hc := of_decide_eq_true hc
      try (exfalso; omega)
      all_goals
       refine G.skip (G.thenN (G.block (G.seq (G.region (G.v (rv_move rfl) rfl (G.v (rv_move rfl) rfl (G.v (rv_move rfl) rfl (G.v (rv_move rfl) rfl ?_))))))))
       (refine G.frontR0 (v) rfl ?_); refine G.op (og_callMM1 rfl rfl rfl (insertion_any hcmp (by omega) (by omega) hn (fun j j1 j2 => hI.hi j (by omega)))) rfl ?_; rintro h ⟨hho, hhs⟩; try dsimp only
       refine G.done (G.thenN (G.seq (G.region (G.v (rv_move rfl) rfl (G.v (rv_assign rfl) rfl (G.done (G.thenN (G.region (G.v (rv_move rfl) rfl (G.v (rv_move rfl) rfl ?_)))))))))); refine G.v (rv_addB rfl rfl (by omega) (by omega)) rfl ?_; refine G.v (rv_assign rfl) rfl (G.done (G.inN ?_)); refine G.backK (q + 1, a + 20, h) 0 rfl (.cons rfl (.cons rfl (.cons rfl (.cons rfl (.nil))))) ?_ ?_ ?_
       · exact ⟨rfl, congrArg (fun z => some (Value.int .i64 z)) (by dsimp only; try omega), trivial⟩
       · subst ha; exact ⟨by dsimp only; omega, hI.next hlt (fun j hj => hho j (by omega)) hhs⟩
       · dsimp only; omega
   · try exact Bool.noConfusion hc
     all_goals
      try replace hc := of_decide_eq_false hc
      try (exfalso; omega)
      all_goals
       refine G.exit (G.thenX (G.thenX (G.inX (G.thenN (G.seq (G.region (G.v (rv_move rfl) rfl (G.v (rv_move rfl) rfl (G.v (rv_move rfl) rfl (G.v (rv_move rfl) rfl ?_))))))))))
       (refine G.frontR0 (v) rfl ?_); refine G.op (og_callMM1 rfl rfl rfl (insertion_any hcmp (by omega) (Nat.le_refl _) hn (fun j j1 j2 => hI.hi j (by omega)))) rfl ?_; rintro h0 ⟨hho, hhs⟩; try dsimp only
       refine G.done (G.thenN (G.block ?_))
       -- loop 1: turned [6], kept [0, 1, 2]
       have hB0 : Blk K 20 n h0 := (by subst ha; exact hI.last (by omega) (fun j hj => hho j hj) hhs)
       refine G.loopK (ι := Nat × (Nat → Nat)) (ks := [0, 1, 2]) (fun x => [(6, .int .i64 (x.1 : Int))]) (fun x => [.row v 3 1 (rowF n x.2)]) (fun x => 20 ≤ x.1 ∧ x.1 ≤ 2097152 ∧ Blk K x.1 n x.2) (fun x => n - x.1) (20, h0) (.cons rfl (.cons rfl (.cons rfl (.nil)))) rfl ?_ ?_ ?_
       · exact ⟨Nat.le_refl _, by dsimp only; omega, hB0⟩
       · exact ⟨rfl, trivial⟩
       rintro ⟨s, f1⟩ ⟨hs20, hsm, hB⟩
       dsimp only at hs20 hsm hB ⊢
       by_cases hsn : s < n
       all_goals
        refine G.seq (G.seq (G.region (G.v (rv_move rfl) rfl (G.v (rv_move rfl) rfl (G.v (rv_lss rfl rfl) rfl (G.done (G.thenN ?_))))))); refine G.cond rfl (fun hc => ?_) (fun hc => ?_)
        · try exact Bool.noConfusion hc
          all_goals
           try replace hc := of_decide_eq_true hc
           try (exfalso; omega)
           all_goals
            refine G.skip (G.thenN (G.block (G.seq (G.region (G.v (rv_move rfl) rfl ?_))))); refine G.v (rv_dblN rfl rfl (by omega)) rfl ?_; refine G.v (rv_assign rfl) rfl (G.v (rv_assign rfl) rfl (G.done (G.thenN (G.seq (G.block ?_)))))
            -- loop 2: turned [7, 8], kept [0, 1, 2, 6]
            refine G.loopK (ι := Nat × Nat × (Nat → Nat)) (ks := [0, 1, 2, 6]) (fun x => [(7, .int .i64 (x.2.1 : Int)), (8, .int .i64 ((x.2.1 + 2 * s : Nat) : Int))]) (fun x => [.row v 3 1 (rowF n x.2.2)]) (fun x => x.2.1 = x.1 * (2 * s) ∧ Pass K s n x.1 x.2.2) (fun x => n - x.2.1) (0, 0, f1) (.cons rfl (.cons rfl (.cons rfl (.cons rfl (.nil))))) rfl ?_ ?_ ?_
            · exact ⟨by dsimp only; omega, Pass.start hB⟩
            · exact ⟨rfl, congrArg (fun z => some (Value.int .i64 z)) (by dsimp only; try omega), trivial⟩
            rintro ⟨q, a, f2⟩ ⟨ha, hP⟩
            dsimp only at ha hP ⊢
            have hPl := hP.le
            rw [← ha] at hPl
            have hq2 : a + 2 * s ≤ n → Seg K a (a + s) f2 ∧ Seg K (a + s) (a + 2 * s) f2 := fun hz => by (have := hP.two (by rw [← ha]; omega); rw [← ha, Nat.min_eq_left hz] at this; exact this)
            have hq3 : n < a + 2 * s → a + s < n → Seg K a (a + s) f2 ∧ Seg K (a + s) n f2 := fun hz hy => by (have := hP.two (by rw [← ha]; omega); rw [← ha, Nat.min_eq_right (by omega)] at this; exact this)
            have hlt2 : a + 2 * s ≤ n → ∀ j, a ≤ j → j < a + 2 * s → f2 j < n := fun hz j j1 j2 => by (obtain ⟨p1, p2⟩ := hq2 hz; by_cases c : j < a + s; (have := p1.2 j j1 c; omega); (have := p2.2 j (by omega) j2; omega))
            have hlt3 : n < a + 2 * s → a + s < n → ∀ j, a ≤ j → j < n → f2 j < n := fun hz hy j j1 j2 => by (obtain ⟨p1, p2⟩ := hq3 hz hy; by_cases c : j < a + s; (have := p1.2 j j1 c; omega); (have := p2.2 j (by omega) j2; omega))
            by_cases hlt : a + 2 * s ≤ n
            all_goals
             refine G.seq (G.seq (G.region (G.v (rv_move rfl) rfl (G.v (rv_move rfl) rfl (G.v (rv_leq rfl rfl) rfl (G.done (G.thenN ?_))))))); refine G.cond rfl (fun hc => ?_) (fun hc => ?_)
             · try exact Bool.noConfusion hc
               all_goals
                try replace hc := of_decide_eq_true hc
                try (exfalso; omega)
                all_goals
                 refine G.skip (G.thenN (G.block (G.seq (G.region (G.v (rv_move rfl) rfl (G.v (rv_move rfl) rfl (G.v (rv_move rfl) rfl (G.v (rv_move rfl) rfl ?_)))))))); refine G.v (rv_addN rfl rfl (by omega)) rfl ?_; refine G.v (rv_move rfl) rfl (G.v (rv_move rfl) rfl ?_)
                 (refine G.frontR0 (v) rfl ?_); refine G.op (og_callMM1 rfl rfl rfl (symMerge_any hcmp hn _ (Nat.le_refl _) (by omega) (by omega) (by omega) (hq2 (by omega)).1.1 (hq2 (by omega)).2.1 ((hq2 (by omega)).1.crs (hq2 (by omega)).2) (fun j j1 j2 => hlt2 (by omega) j j1 j2))) rfl ?_; rintro h ⟨hhf, hhs⟩; try dsimp only
                 refine G.done (G.thenN (G.seq (G.region (G.v (rv_move rfl) rfl (G.v (rv_assign rfl) rfl (G.done (G.thenN (G.region (G.v (rv_move rfl) rfl (G.v (rv_move rfl) rfl ?_)))))))))); refine G.v (rv_dblN rfl rfl (by omega)) rfl ?_; refine G.v (rv_addN rfl rfl (by omega)) rfl ?_; refine G.v (rv_assign rfl) rfl (G.done (G.inN ?_)); refine G.backK (q + 1, a + 2 * s, h) 0 rfl (.cons rfl (.cons rfl (.cons rfl (.cons rfl (.nil))))) ?_ ?_ ?_
                 · exact ⟨rfl, congrArg (fun z => some (Value.int .i64 z)) (by dsimp only; try omega), trivial⟩
                 · exact ⟨by dsimp only; rw [ha]; exact (Nat.succ_mul _ _).symm, hP.next (by rw [← ha]; exact hlt) (fun j hj => hhf.out j (by rw [← ha] at hj; exact hj)) (by rw [← ha]; exact Seg.merged (hq2 hlt).1 (hq2 hlt).2 ⟨by omega, by omega⟩ hhf hhs)⟩
                 · dsimp only; omega
             · try exact Bool.noConfusion hc
               all_goals
                try replace hc := of_decide_eq_false hc
                try (exfalso; omega)
                all_goals
                 refine G.exit (G.thenX (G.thenX (G.inX (G.thenN (G.seq (G.seq (G.region (G.v (rv_move rfl) rfl (G.v (rv_move rfl) rfl ?_))))))))); refine G.v (rv_addN rfl rfl (by omega)) rfl ?_; refine G.v (rv_assign rfl) rfl (G.done (G.thenN (G.seq (G.region (G.v (rv_move rfl) rfl (G.v (rv_move rfl) rfl (G.v (rv_lss rfl rfl) rfl (G.done (G.thenN ?_))))))))); refine G.cond rfl (fun hc => ?_) (fun hc => ?_)
                 · try exact Bool.noConfusion hc
                   all_goals
                    try replace hc := of_decide_eq_true hc
                    try (exfalso; contradiction)
                    all_goals
                     refine G.region (G.v (rv_move rfl) rfl (G.v (rv_move rfl) rfl (G.v (rv_move rfl) rfl (G.v (rv_move rfl) rfl (G.v (rv_move rfl) rfl ?_)))))
                     (refine G.frontR0 (v) rfl ?_); refine G.op (og_callMM1 rfl rfl rfl (symMerge_any hcmp hn _ (Nat.le_refl _) (by omega) (by omega) (by omega) (hq3 (by omega) (by omega)).1.1 (hq3 (by omega) (by omega)).2.1 ((hq3 (by omega) (by omega)).1.crs (hq3 (by omega) (by omega)).2) (fun j j1 j2 => hlt3 (by omega) (by omega) j j1 j2))) rfl ?_; rintro h ⟨hhf, hhs⟩; try dsimp only
                     refine G.done (G.thenN (G.region (G.v (rv_move rfl) rfl ?_))); refine G.v (rv_dblM rfl rfl (by omega)) rfl ?_; refine G.v (rv_assign rfl) rfl (G.done (G.inN ?_)); refine G.backK (2 * s, h) 0 rfl (.cons rfl (.cons rfl (.cons rfl (.nil)))) (⟨rfl, trivial⟩) ?_ ?_
                     · (exact ⟨by dsimp only; omega, by dsimp only; omega, hP.last (by rw [← ha]; omega) (fun j hj => hhf.out j (by rw [← ha] at hj; exact hj)) (by rw [← ha]; exact Seg.merged (hq3 (by omega) (by omega)).1 (hq3 (by omega) (by omega)).2 ⟨by omega, by omega⟩ hhf hhs)⟩)
                     · dsimp only; omega
                 · try exact Bool.noConfusion hc
                   all_goals
                    try replace hc := of_decide_eq_false hc
                    try (exfalso; contradiction)
                    all_goals
                     refine G.skip (G.thenN (G.region (G.v (rv_move rfl) rfl ?_))); refine G.v (rv_dblM rfl rfl (by omega)) rfl ?_; refine G.v (rv_assign rfl) rfl (G.done (G.inN ?_)); refine G.backK (2 * s, f2) 0 rfl (.cons rfl (.cons rfl (.cons rfl (.nil)))) (⟨rfl, trivial⟩) ?_ ?_
                     · (exact ⟨by dsimp only; omega, by dsimp only; omega, hP.end (by rw [← ha]; omega) (by rw [← ha]; omega)⟩)
                     · dsimp only; omega
        · try exact Bool.noConfusion hc
          all_goals
           try replace hc := of_decide_eq_false hc
           try (exfalso; omega)
           all_goals
            refine G.exit (G.thenX (G.thenX (G.inX ?_)))
            exact G.endF0 f1 (hB.all (by omega)) rfl rfl (fun w hw => hw)
theorem sortStable_any (hcmp : ∀ w, HeapOk w0 w F → ∀ i j : Nat, i < n → j < n → FnV Tryz.prog g ([.int .i64 (i : Int), .int .i64 (j : Int)] ++ caps) w (.int .i64 (cmpZ (K i) (K j)))) (hn : n ≤ 1048576) :
    FnMF Tryz.prog 210 [v, .func (.func g) #[] caps.toArray] w0 [.row v 3 1 (rowF n fun j => j)] F (fun f' : Nat → Nat => Seg K 0 n f') (fun _ => .tuple #[]) (fun f' => [.row v 3 1 (rowF n f')]) := by
  have hln : (rowF n fun j => j).length = n := rowF_len _ _
  refine FnMF.of (n := 9) Tryz.func210 rfl rfl ?_; refine G.region (G.v (rv_move rfl) rfl (G.v (rv_move rfl) rfl ?_)); refine G.v (rv_len rfl (by exact Rd.owned 0 rfl)) rfl ?_; refine G.v (rv_move rfl) rfl ?_
  (refine G.frontR0 (v) rfl ?_); refine G.op (og_callMM1 rfl rfl rfl (by rw [hln]; exact stable_any hcmp hn)) rfl ?_; rintro f1 hf1; try dsimp only
  refine G.done ?_
  exact G.endF0 f1 hf1 rfl rfl (fun w hw => hw)
end
theorem compare_any (a b : Int) (w : World) : FnV Tryz.prog 212 [.int .i64 a, .int .i64 b] w (.int .i64 (cmpZ a b)) := by
  refine FnV.of (n := 13) Tryz.func212 rfl rfl ?_; refine G.seq (G.region (G.v (rv_assign rfl) rfl (G.done (G.thenN (G.seq (G.block (G.seq (G.region (G.v (rv_move rfl) rfl (G.v (rv_move rfl) rfl (G.v (rv_lss rfl rfl) rfl ?_))))))))))); refine G.v (rv_assign rfl) rfl (G.done (G.thenN ?_)); refine G.cond rfl (fun hc => ?_) (fun hc => ?_)
  · try exact Bool.noConfusion hc
    all_goals
     try replace hc := of_decide_eq_true hc
     try (exfalso; contradiction)
     all_goals
      refine G.seq (G.region (G.v (rv_assign rfl) rfl (G.done (G.thenN (G.ret (G.inR (G.thenR ?_)))))))
      exact G.retFV rfl rfl (congrArg (Value.int .i64) (by unfold cmpZ; (rw [if_pos (by omega)]; done)))
  · try exact Bool.noConfusion hc
    all_goals
     try replace hc := of_decide_eq_false hc
     try (exfalso; contradiction)
     all_goals
      refine G.seq (G.region (G.v (rv_move rfl) rfl (G.v (rv_move rfl) rfl (G.v (rv_gtr rfl rfl) rfl (G.v (rv_assign rfl) rfl (G.done (G.thenN ?_))))))); refine G.cond rfl (fun hc => ?_) (fun hc => ?_)
      · try exact Bool.noConfusion hc
        all_goals
         try replace hc := of_decide_eq_true hc
         try (exfalso; contradiction)
         all_goals
          refine G.seq (G.region (G.v (rv_assign rfl) rfl (G.done (G.thenN (G.ret (G.inR (G.thenR ?_)))))))
          exact G.retFV rfl rfl (congrArg (Value.int .i64) (by unfold cmpZ; (rw [if_neg (by omega), if_pos (by omega)]; done)))
      · try exact Bool.noConfusion hc
        all_goals
         try replace hc := of_decide_eq_false hc
         try (exfalso; contradiction)
         all_goals
          refine G.skip (G.inN (G.thenN (G.seq (G.region (G.v (rv_assign rfl) rfl (G.done (G.thenN (G.ret ?_))))))))
          exact G.retFV rfl rfl (congrArg (Value.int .i64) (by unfold cmpZ; rw [if_neg (by omega), if_neg (by omega)]))
theorem rowF_snoc (k : Nat) : (rowF k fun j => j) ++ [[.int .i64 (k : Int)]] = rowF (k + 1) fun j => j := by
  simp [rowF, List.range_succ, icell]
theorem range_snoc (k : Nat) : (List.range k).map ncell ++ [[.int .i64 (k : Int)]] = (List.range (k + 1)).map ncell := by
  simp [List.range_succ, ncell, icell]
theorem short_srt {α : Type} {R : α → α → Prop} {l : List α} (h : l.length < 2) : l.Pairwise R := by
  match l, h with
  | [], _ => exact List.Pairwise.nil
  | [x], _ => exact List.pairwise_singleton _ _
theorem mrg_halves {K : Nat → Int} {us bs ps : List Nat} {h : Nat} (h1 : us.Perm (ps.take h)) (h2 : bs.Perm (ps.drop h)) : (mrgM K us bs).Perm ps := by
  have := (mrg_perm (K := K) us bs).trans (h1.append h2)
  rwa [List.take_append_drop] at this
theorem halves_lt {ps : List Nat} {h x y : Nat} (hp : ps.Pairwise (· < ·)) (hx : x ∈ ps.take h) (hy : y ∈ ps.drop h) : x < y := by
  rw [← List.take_append_drop h ps] at hp
  exact (List.pairwise_append.1 hp).2.2 x hx y hy
theorem cmpZ_down {ks : List Int} {i j : Nat} {a b : Int} (h1 : ks[i]? = some a) (h2 : ks[j]? = some b) : cmpZ b a = cmpZ (keyM ks i) (keyM ks j) := by
  rw [keyM_get h1, keyM_get h2]; unfold cmpZ
  by_cases c : b < a
  · rw [if_pos c, if_pos (by omega)]
  · rw [if_neg c, if_neg (show ¬ -a < -b from by omega)]
    by_cases c2 : b > a
    · rw [if_pos c2, if_pos (by omega)]
    · rw [if_neg c2, if_neg (by omega)]
theorem sortDown1_any {kv : Value} {ks : List Int} {q i j : Nat} (w : World) (h : Rd w (.slice (some ⟨q, 0, none⟩) 1 1) 1 [[kv]]) (hk : Rd w kv 1 (ks.map icell)) (hi : i < ks.length) (hj : j < ks.length) : FnV Tryz.prog 211 [.int .i64 (i : Int), .int .i64 (j : Int), pB q 0] w (.int .i64 (cmpZ (keyM ks i) (keyM ks j))) := by
  rw [pB_eq_pE q 1]
  obtain ⟨a, ha⟩ := get_of_lt hi
  obtain ⟨b, hb⟩ := get_of_lt hj
  have e1 := get_map ha icell
  have e2 := get_map hb icell
  refine FnV.of (n := 15) Tryz.func211 rfl rfl ?_; refine G.seq (G.region (G.v (rv_assign rfl) rfl (G.done (G.thenN (G.seq ?_))))); refine G.drawL [9] ?_; refine GE.q 0 rfl (by as_aux_lemma => kernel_rfl) rfl (qg_runs (rv_loadE rfl (by exact Rd.stays (by assumption)) (by rfl) rfl)) rfl ?_; refine GE.q 1 rfl (by as_aux_lemma => kernel_rfl) rfl (qg_runs (rv_move rfl)) rfl ?_; refine GE.q 2 rfl (by as_aux_lemma => kernel_rfl) rfl (qg_runs (rv_indexH rfl rfl (by exact Rd.stays (by assumption)) rfl (by exact e2))) rfl ?_; refine GE.q 3 rfl (by as_aux_lemma => kernel_rfl) rfl (qg_runs (rv_loadE rfl (by exact Rd.stays (by assumption)) (by exact e2) rfl)) rfl ?_; refine GE.q 4 rfl (by as_aux_lemma => kernel_rfl) rfl (qg_runs (rv_loadE rfl (by exact Rd.stays (by assumption)) (by rfl) rfl)) rfl ?_; refine GE.ol 5 (by as_aux_lemma => kernel_rfl) rfl rfl (og_runs (rv_move rfl)) rfl (fun _ _ h => by exact h) (fun _ _ => ?_); refine GE.ol 6 (by as_aux_lemma => kernel_rfl) rfl rfl (og_runs (rv_indexH rfl rfl (by exact Rd.stays (by assumption)) rfl (by exact e1))) rfl (fun _ _ h => by exact h) (fun _ _ => ?_); refine GE.ol 7 (by as_aux_lemma => kernel_rfl) rfl rfl (og_runs (rv_loadE rfl (by exact Rd.stays (by assumption)) (by exact e1) rfl)) rfl (fun _ _ h => by exact h) (fun _ _ => ?_); refine GE.ol 8 (by as_aux_lemma => kernel_rfl) rfl rfl (og_callV rfl rfl (fun w _ => compare_any _ _ w)) rfl (fun _ _ h => by exact h) (fun _ _ => ?_)
  refine GE.t 9 (by as_aux_lemma => kernel_rfl) rfl rfl rfl (og_runs (rv_assign rfl)) rfl (fun _ _ => ?_); refine GE.done (by as_aux_lemma => kernel_rfl) ?_; refine G.thenN (G.ret ?_)
  exact G.retFV rfl rfl (congrArg (Value.int .i64) (cmpZ_down ha hb))
theorem places_any {n : Nat} (w : World) (hn : n ≤ 1048576) : Fn Tryz.prog 209 [.int .i64 (n : Int)] w (fun v : Value => v.oneCell' = true) (fun v => v) (fun v => [.row v 3 1 (rowF n fun j => j)]) := by
  refine Fn.of (n := 16) Tryz.func209 rfl rfl ?_; refine G.seq (G.region (G.v (rv_assign rfl) rfl (G.done (G.thenN (G.seq (G.region ?_)))))); refine G.op (og_lit rfl .nil rfl rfl rfl rfl rfl rfl) rfl (fun vl _ => ?_); refine G.v (rv_assign rfl) rfl (G.done (G.thenN (G.seq (G.seq (G.region (G.v (rv_move rfl) rfl (G.v (rv_move rfl) rfl (G.done (G.thenN (G.block ?_))))))))))
  -- loop 0: turned [3, 7], kept [6]
  refine G.loopK (ι := Nat × Value) (ks := [6]) (fun x => [(3, x.2), (7, .int .i64 (x.1 : Int))]) (fun x => [.row x.2 3 1 (rowF x.1 fun j => j)]) (fun x => x.1 ≤ n) (fun x => n - x.1) (0, vl) (.cons rfl (.nil)) rfl ?_ ?_ ?_
  · exact Nat.zero_le _
  · exact ⟨rfl, rfl, trivial⟩
  rintro ⟨k, v⟩ hk
  dsimp only at hk ⊢
  have hln : (rowF k fun j => j).length = k := rowF_len _ _
  all_goals
   refine G.seq (G.region (G.v (rv_lss rfl rfl) rfl (G.done (G.thenN (G.seq ?_))))); refine G.cond rfl (fun hc => ?_) (fun hc => ?_)
   · try exact Bool.noConfusion hc
     all_goals
      try replace hc := of_decide_eq_true hc
      try (exfalso; contradiction)
      all_goals
       refine G.skip (G.thenN (G.seq (G.block (G.seq (G.region (G.v (rv_move rfl) rfl (G.v (rv_assign rfl) rfl (G.done (G.thenN (G.region (G.v (rv_move rfl) rfl ?_))))))))))); refine G.v (rv_move rfl) rfl ?_; refine G.op (og_lit rfl (.cons rfl .nil) rfl rfl rfl rfl rfl rfl) rfl (fun vl _ => ?_); refine G.op (og_app1 rfl rfl rfl (by exact Rd.owned 0 rfl) rfl rfl (by (simp; omega)) (by (simp; omega))) rfl (fun va _ => ?_); refine G.v (rv_assign rfl) rfl (G.done (G.inN (G.thenN (G.region ?_)))); refine G.v (rv_incr rfl rfl (by omega)) rfl ?_; refine G.v (rv_move rfl) rfl (G.done ?_); refine G.backK (k + 1, va) 1 (one_eq (congrArg (fun z => Ch.row va 3 1 z) (rowF_snoc k))) (.cons rfl (.nil)) ?_ ?_ ?_
       · exact ⟨rfl, rfl, trivial⟩
       · dsimp only; omega
       · dsimp only; omega
   · try exact Bool.noConfusion hc
     all_goals
      try replace hc := of_decide_eq_false hc
      try (exfalso; contradiction)
      all_goals
       refine G.exit (G.thenX (G.thenX (G.inX (G.thenN (G.seq (G.region (G.v (rv_move rfl) rfl (G.v (rv_assign rfl) rfl (G.done (G.thenN (G.ret ?_))))))))))); refine G.know (fun w hw => (Rd.owned 0 rfl w hw).one_) (fun hone => G.retF v hone rfl rfl rfl (fun w hw => by obtain rfl : k = n := (by omega); exact hw))
theorem sortDown_any {kv : Value} {ks : List Int} (w : World) (h : Rd w kv 1 (ks.map icell)) (hn : ks.length ≤ 1048576) : Fn Tryz.prog 156 [kv] w (fun v : Value => v.oneCell' = true) (fun v => v) (fun v => [.row v 3 1 ((ordM (keyM ks) ks.length).map ncell)]) := by
  have hln : (ks.map icell).length = ks.length := by simp
  have hone := h.one_
  refine Fn.of (n := 11) Tryz.func156 rfl rfl ?_; refine G.seq (G.region ?_); refine G.op (og_box rfl (cells_one (by assumption))) rfl (fun bk1 _ => ?_); refine G.v (rv_assign rfl) rfl (G.done (G.thenN (G.seq (G.region (G.v (rv_load1 0 rfl rfl rfl) rfl ?_))))); refine G.v (rv_len rfl (by exact Rd.stays (by assumption))) rfl ?_
  (first | (refine G.op (og_callF1 rfl rfl (fun w hh => by rw [hln]; exact places_any w hn)) rfl ?_; rintro vp hvp; try dsimp only) | (refine G.op (og_callF2 rfl rfl (fun w hh => by rw [hln]; exact places_any w hn)) rfl ?_; rintro vp hvp; try dsimp only) | (refine G.op (og_callF3 rfl rfl (fun w hh => by rw [hln]; exact places_any w hn)) rfl ?_; rintro vp hvp; try dsimp only) | (refine G.op (og_callF0 rfl rfl (fun w hh => by rw [hln]; exact places_any w hn)) rfl ?_; rintro vp hvp; try dsimp only) | (refine G.op (og_callF rfl rfl (fun w hh => by rw [hln]; exact places_any w hn)) rfl ?_; rintro vp hvp; try dsimp only))
  refine G.v (rv_assign rfl) rfl (G.done (G.thenN (G.seq (G.region (G.v (rv_move rfl) rfl (G.v (rv_makeFunc rfl rfl) rfl ?_))))))
  (refine G.frontR0 (vp) rfl ?_); refine G.op (og_callMM1 rfl rfl rfl (sortStable_any (fun w hh i j hi hj => sortDown1_any w (Rd.ofBlk 0 rfl (one_cons hone rfl) w hh) (Rd.stays h w hh.none) hi hj) hn)) rfl ?_; rintro f1 hf1; try dsimp only
  refine G.done (G.thenN (G.seq (G.region (G.v (rv_move rfl) rfl (G.v (rv_assign rfl) rfl (G.done (G.thenN (G.ret ?_))))))))
  exact G.retF vp hvp rfl rfl rfl (fun w hw => by rw [← ord_of_seg hf1]; exact hw.sublist (by repeat (first | exact List.Sublist.refl _ | refine List.Sublist.cons_cons _ ?_ | refine List.Sublist.cons _ ?_)))
theorem l1Places_any {n : Nat} (w : World) (hn : n ≤ 1048576) : Fn Tryz.prog 138 [.int .i64 (n : Int)] w (fun v : Value => v.oneCell' = true) (fun v => v) (fun v => [.row v 3 1 ((List.range n).map ncell)]) := by
  refine Fn.of (n := 16) Tryz.func138 rfl rfl ?_; refine G.seq (G.region (G.v (rv_assign rfl) rfl (G.done (G.thenN (G.seq (G.region ?_)))))); refine G.op (og_lit rfl .nil rfl rfl rfl rfl rfl rfl) rfl (fun vl _ => ?_); refine G.v (rv_assign rfl) rfl (G.done (G.thenN (G.seq (G.seq (G.region (G.v (rv_assign rfl) rfl (G.done (G.thenN (G.block ?_)))))))))
  -- loop 0: turned [3, 4], kept [0]
  refine G.loopK (ι := Nat × Value) (ks := [0]) (fun x => [(3, x.2), (4, .int .i64 (x.1 : Int))]) (fun x => [.row x.2 3 1 ((List.range x.1).map ncell)]) (fun x => x.1 ≤ n) (fun x => n - x.1) (0, vl) (.cons rfl (.nil)) rfl ?_ ?_ ?_
  · exact Nat.zero_le _
  · exact ⟨rfl, rfl, trivial⟩
  rintro ⟨k, v⟩ hk
  dsimp only at hk ⊢
  all_goals
   refine G.seq (G.seq (G.region (G.v (rv_move rfl) rfl (G.v (rv_move rfl) rfl (G.v (rv_lss rfl rfl) rfl (G.done (G.thenN ?_))))))); refine G.cond rfl (fun hc => ?_) (fun hc => ?_)
   · try exact Bool.noConfusion hc
     all_goals
      try replace hc := of_decide_eq_true hc
      try (exfalso; contradiction)
      all_goals
       refine G.skip (G.thenN (G.seq (G.block (G.region (G.v (rv_move rfl) rfl (G.v (rv_move rfl) rfl ?_)))))); refine G.op (og_lit rfl (.cons rfl .nil) rfl rfl rfl rfl rfl rfl) rfl (fun vl _ => ?_); refine G.op (og_app1 rfl rfl rfl (by exact Rd.owned 0 rfl) rfl rfl (by (simp; omega)) (by (simp; omega))) rfl (fun va _ => ?_); refine G.v (rv_assign rfl) rfl (G.done (G.inN (G.thenN (G.region (G.v (rv_move rfl) rfl ?_))))); refine G.v (rv_incr rfl rfl (by omega)) rfl ?_; refine G.v (rv_assign rfl) rfl (G.done ?_); refine G.backK (k + 1, va) 1 (one_eq (congrArg (fun z => Ch.row va 3 1 z) (range_snoc k))) (.cons rfl (.nil)) ?_ ?_ ?_
       · exact ⟨rfl, rfl, trivial⟩
       · dsimp only; omega
       · dsimp only; omega
   · try exact Bool.noConfusion hc
     all_goals
      try replace hc := of_decide_eq_false hc
      try (exfalso; contradiction)
      all_goals
       refine G.exit (G.thenX (G.thenX (G.inX (G.thenN (G.seq (G.region (G.v (rv_move rfl) rfl (G.v (rv_assign rfl) rfl (G.done (G.thenN (G.ret ?_))))))))))); refine G.know (fun w hw => (Rd.owned 0 rfl w hw).one_) (fun hone => G.retF v hone rfl rfl rfl (fun w hw => by obtain rfl : k = n := (by omega); exact hw))
theorem l1Merge_any {kv : Value} {ks : List Int} : ∀ (s : Nat) {pv : Value} {ps : List Nat} (w : World), ps.length < s → Rd w kv 1 (ks.map icell) → Rd w pv 1 (ps.map ncell) → (∀ x ∈ ps, x < ks.length) → ps.Pairwise (· < ·) → ps.length ≤ 1048576 →
    Fn Tryz.prog 137 [kv, pv, .bool true] w (fun x : Value × List Nat => x.1.oneCell' = true ∧ x.2.Perm ps ∧ x.2.Pairwise (bef (keyM ks))) (fun x => x.1) (fun x => [.row x.1 3 1 (x.2.map ncell)]) := by
  intro s
  induction s with
  | zero => intro pv ps w hs; omega
  | succ s ih =>
  intro pv ps w hs hk hp hlt hpw hn
  have hln : (ps.map ncell).length = ps.length := by simp
  refine Fn.of (n := 132) Tryz.func137 rfl rfl ?_; refine G.seq (G.region (G.v (rv_assign rfl) rfl (G.done (G.thenN (G.seq (G.seq (G.region (G.v (rv_move rfl) rfl ?_)))))))); refine G.v (rv_len rfl (by exact Rd.stays (by assumption))) rfl ?_; refine G.v (rv_lss rfl rfl) rfl (G.done (G.thenN ?_)); refine G.cond rfl (fun hc => ?_) (fun hc => ?_)
  · try exact Bool.noConfusion hc
    all_goals
     try replace hc := of_decide_eq_true hc
     try (exfalso; contradiction)
     all_goals
      refine G.seq (G.region ?_); refine G.op (og_lit rfl .nil rfl rfl rfl rfl rfl rfl) rfl (fun vl _ => ?_); refine G.v (rv_move rfl) rfl ?_; refine G.op (og_app0 rfl rfl rfl (by exact Rd.stays (by assumption)) rfl rfl (by (simp; omega)) (by (simp; omega))) rfl (fun va _ => ?_); refine G.v (rv_assign rfl) rfl (G.done (G.thenN (G.ret (G.thenR ?_))))
      (refine G.know (fun w hw => (Rd.owned 0 rfl w hw).one_) (fun hone => G.retF (va, ps) ⟨hone, List.Perm.refl _, short_srt (by dsimp only; omega)⟩ rfl rfl rfl (fun w hw => hw.sublist (by repeat (exact List.Sublist.refl _)))); done)
  · try exact Bool.noConfusion hc
    all_goals
     try replace hc := of_decide_eq_false hc
     try (exfalso; contradiction)
     all_goals
      refine G.skip (G.thenN (G.seq (G.region (G.v (rv_move rfl) rfl ?_)))); refine G.v (rv_len rfl (by exact Rd.stays (by assumption))) rfl ?_; refine G.v (rv_quoN rfl rfl (by omega)) rfl ?_; refine G.v (rv_assign rfl) rfl (G.done (G.thenN (G.seq (G.region (G.v (rv_move rfl) rfl (G.v (rv_move rfl) rfl (G.v (rv_move rfl) rfl ?_))))))); refine G.v (rv_sliceH rfl rfl (by exact Rd.stays (by assumption)) (by omega)) rfl ?_; refine G.v (rv_move rfl) rfl ?_
      (refine G.op (og_callF1 rfl rfl (fun w hh => ih w (by rw [List.length_take]; omega) (Rd.stays hk _ hh) (Rd.subH (Rd.stays hp _ hh) (by omega)) (fun x hx => hlt x (List.mem_of_mem_take hx)) (hpw.sublist (List.take_sublist _ _)) (by rw [List.length_take]; omega))) rfl ?_; rintro ⟨xa, us⟩ ⟨hxa, hpa, hsa⟩; try dsimp only)
      refine G.v (rv_assign rfl) rfl (G.done (G.thenN (G.seq (G.region (G.v (rv_move rfl) rfl (G.v (rv_move rfl) rfl (G.v (rv_move rfl) rfl ?_))))))); refine G.v (rv_sliceL rfl rfl (by exact Rd.stays (by assumption)) (by omega)) rfl ?_; refine G.v (rv_move rfl) rfl ?_
      (refine G.op (og_callF1 rfl rfl (fun w hh => ih w (by rw [List.length_drop]; omega) (Rd.stays hk _ hh) (Rd.subL (Rd.stays hp _ hh) (by omega)) (fun x hx => hlt x (List.mem_of_mem_drop hx)) (hpw.sublist (List.drop_sublist _ _)) (by rw [List.length_drop]; omega))) rfl ?_; rintro ⟨xb, bs⟩ ⟨hxb, hpb, hsb⟩; try dsimp only)
      refine G.v (rv_assign rfl) rfl (G.done (G.thenN (G.seq (G.region ?_)))); refine G.op (og_lit rfl .nil rfl rfl rfl rfl rfl rfl) rfl (fun vl _ => ?_); refine G.v (rv_assign rfl) rfl (G.done (G.thenN (G.seq (G.region (G.v (rv_assign rfl) rfl (G.done (G.thenN (G.seq (G.region (G.v (rv_assign rfl) rfl (G.done ?_))))))))))); refine G.thenN (G.seq (G.block ?_))
      -- loop 0: turned [10, 11, 12], kept [0, 2, 8, 9]
      have hla : us.length = (ps.map ncell).length / 2 := by (rw [hpa.length_eq, List.length_take]; omega)
      have hlb : bs.length = ps.length - (ps.map ncell).length / 2 := by rw [hpb.length_eq, List.length_drop]
      have hla2 : (us.map ncell).length = us.length := by simp
      have hlb2 : (bs.map ncell).length = bs.length := by simp
      refine G.loopK (ι := Nat × Nat × List Nat × Value) (ks := [0, 2, 8, 9]) (fun x => [(10, x.2.2.2), (11, .int .i64 (x.1 : Int)), (12, .int .i64 (x.2.1 : Int))]) (fun x => [.row x.2.2.2 3 1 (x.2.2.1.map ncell)]) (fun x => x.1 ≤ us.length ∧ x.2.1 ≤ bs.length ∧ x.2.2.1.length = x.1 + x.2.1 ∧ x.2.2.1 ++ mrgM (keyM ks) (us.drop x.1) (bs.drop x.2.1) = mrgM (keyM ks) us bs) (fun x => us.length + bs.length - x.1 - x.2.1) (0, 0, [], vl) (.cons rfl (.cons rfl (.cons rfl (.cons rfl (.nil))))) rfl ?_ ?_ ?_
      · exact ⟨Nat.zero_le _, Nat.zero_le _, rfl, rfl⟩
      · exact ⟨rfl, rfl, rfl, trivial⟩
      rintro ⟨i, j, out, v⟩ ⟨hi, hj, hol, hm⟩
      dsimp only at hi hj hol hm ⊢
      have hol2 : (out.map ncell).length = out.length := by simp
      by_cases hA : i < us.length
      case' pos => (obtain ⟨x, hx⟩ := get_of_lt hA; have e1 := get_map hx ncell; have hxl := hlt x (List.mem_of_mem_take (hpa.mem_iff.1 (List.mem_of_getElem? hx))); obtain ⟨kx, hkx⟩ := get_of_lt hxl; have e3 := get_map hkx icell; have hK1 := keyM_get hkx)
      all_goals by_cases hB : j < bs.length
      any_goals (obtain ⟨y, hy⟩ := get_of_lt hB; have e2 := get_map hy ncell; have hyl := hlt y (List.mem_of_mem_drop (hpb.mem_iff.1 (List.mem_of_getElem? hy))); obtain ⟨ky, hky⟩ := get_of_lt hyl; have e4 := get_map hky icell; have hK2 := keyM_get hky)
      all_goals
       refine G.seq (G.seq (G.region (G.v (rv_move rfl) rfl (G.v (rv_move rfl) rfl ?_)))); refine G.v (rv_len rfl (by exact Rd.owned 2 rfl)) rfl ?_; refine G.v (rv_lss rfl rfl) rfl (G.v (rv_move rfl) rfl ?_)
       all_goals (((with_reducible refine G.gP rfl rfl (fun hg => ?_) (fun hg => ?_)) <;> (try exact Bool.noConfusion hg) <;> (try (exfalso; first | (have hq := of_decide_eq_false hg; omega) | (have hq := of_decide_eq_true hg; omega); done)) <;> (first | (refine G.gY rfl rfl ?_; refine G.v (rv_move rfl) rfl ?_) | refine G.gN rfl rfl rfl ?_)))
       all_goals ((first | (refine G.gY rfl rfl ?_; refine G.v (rv_move rfl) rfl ?_) | refine G.gN rfl rfl rfl ?_))
       all_goals ((first | (refine G.gY rfl rfl ?_; refine G.v (rv_len rfl (by exact Rd.owned 1 rfl)) rfl ?_) | refine G.gN rfl rfl rfl ?_))
       all_goals ((first | (refine G.gY rfl rfl ?_; refine G.v (rv_lss rfl rfl) rfl ?_) | refine G.gN rfl rfl rfl ?_))
       all_goals ((first | refine G.v (rv_pickT rfl rfl) rfl ?_ | refine G.v (rv_pickF rfl rfl) rfl ?_))
       all_goals
        refine G.done (G.thenN ?_); refine G.cond rfl (fun hc => ?_) (fun hc => ?_)
        · try exact Bool.noConfusion hc
          all_goals
           try replace hc := of_decide_eq_true hc
           try (exfalso; omega)
           all_goals
            refine G.skip (G.thenN (G.block (G.block (G.seq (G.region (G.v (rv_move rfl) rfl (G.v (rv_move rfl) rfl ?_))))))); refine G.v (rv_len rfl (by exact Rd.owned 1 rfl)) rfl ?_; refine G.v (rv_eql rfl rfl) rfl (G.v (rv_assign rfl) rfl (G.done (G.thenN ?_))); refine G.cond rfl (fun hc => ?_) (fun hc => ?_)
            · try exact Bool.noConfusion hc
              all_goals
               try replace hc := of_decide_eq_true hc
               try (exfalso; omega)
               all_goals
                refine G.seq (G.region (G.v (rv_move rfl) rfl (G.v (rv_move rfl) rfl (G.v (rv_move rfl) rfl ?_)))); refine G.v (rv_indexH rfl rfl (by exact Rd.owned 2 rfl) rfl (by exact e1)) rfl ?_; refine G.v (rv_loadE rfl (by exact Rd.owned 2 rfl) (by exact e1) rfl) rfl ?_; refine G.op (og_lit rfl (.cons rfl .nil) rfl rfl rfl rfl rfl rfl) rfl (fun vl _ => ?_); refine G.op (og_app1 rfl rfl rfl (by exact Rd.owned 0 rfl) rfl rfl (by (simp; omega)) (by (simp; omega))) rfl (fun va _ => ?_); refine G.v (rv_assign rfl) rfl (G.done (G.thenN (G.region (G.v (rv_move rfl) rfl ?_)))); refine G.v (rv_incr rfl rfl (by omega)) rfl ?_; refine G.v (rv_assign rfl) rfl (G.done (G.inN (G.inN ?_))); refine G.backK (i + 1, j, out ++ [x], va) 1 (one_eq (congrArg (fun z => Ch.row va 3 1 z) (by rw [List.map_append]; rfl))) (.cons rfl (.cons rfl (.cons rfl (.cons rfl (.nil))))) (⟨rfl, rfl, rfl, trivial⟩) ?_ ?_
                · (exact ⟨by dsimp only; omega, by dsimp only; omega, by simp; omega, by dsimp only; rw [mrg_left hx (fun y' hy' => by first | (rw [List.getElem?_eq_none (by omega)] at hy'; cases hy'; done) | (rw [hy] at hy'; cases hy'; rw [hK1, hK2]; first | omega | (have hq := of_decide_eq_false hg; omega)))] at hm; rw [List.append_assoc]; exact hm⟩)
                · dsimp only; omega
            · try exact Bool.noConfusion hc
              all_goals
               try replace hc := of_decide_eq_false hc
               try (exfalso; omega)
               all_goals
                refine G.seq (G.region (G.v (rv_move rfl) rfl (G.v (rv_move rfl) rfl ?_))); refine G.v (rv_len rfl (by exact Rd.owned 2 rfl)) rfl ?_; refine G.v (rv_eql rfl rfl) rfl (G.v (rv_assign rfl) rfl (G.done (G.thenN ?_))); refine G.cond rfl (fun hc => ?_) (fun hc => ?_)
                · try exact Bool.noConfusion hc
                  all_goals
                   try replace hc := of_decide_eq_true hc
                   try (exfalso; omega)
                   all_goals
                    refine G.seq (G.region (G.v (rv_move rfl) rfl (G.v (rv_move rfl) rfl (G.v (rv_move rfl) rfl ?_)))); refine G.v (rv_indexH rfl rfl (by exact Rd.owned 1 rfl) rfl (by exact e2)) rfl ?_; refine G.v (rv_loadE rfl (by exact Rd.owned 1 rfl) (by exact e2) rfl) rfl ?_; refine G.op (og_lit rfl (.cons rfl .nil) rfl rfl rfl rfl rfl rfl) rfl (fun vl _ => ?_); refine G.op (og_app1 rfl rfl rfl (by exact Rd.owned 0 rfl) rfl rfl (by (simp; omega)) (by (simp; omega))) rfl (fun va _ => ?_); refine G.v (rv_assign rfl) rfl (G.done (G.thenN (G.region (G.v (rv_move rfl) rfl ?_)))); refine G.v (rv_incr rfl rfl (by omega)) rfl ?_; refine G.v (rv_assign rfl) rfl (G.done (G.inN (G.inN ?_))); refine G.backK (i, j + 1, out ++ [y], va) 1 (one_eq (congrArg (fun z => Ch.row va 3 1 z) (by rw [List.map_append]; rfl))) (.cons rfl (.cons rfl (.cons rfl (.cons rfl (.nil))))) (⟨rfl, rfl, rfl, trivial⟩) ?_ ?_
                    · (exact ⟨by dsimp only; omega, by dsimp only; omega, by simp; omega, by dsimp only; rw [mrg_right hy (fun x' hx' => by first | (rw [List.getElem?_eq_none (by omega)] at hx'; cases hx'; done) | (rw [hx] at hx'; cases hx'; rw [hK1, hK2]; first | omega | (have hq := of_decide_eq_true hg; omega)))] at hm; rw [List.append_assoc]; exact hm⟩)
                    · dsimp only; omega
                · try exact Bool.noConfusion hc
                  all_goals
                   try replace hc := of_decide_eq_false hc
                   try (exfalso; omega)
                   all_goals
                    refine G.seq ?_; refine G.drawL [] ?_; refine GE.q 0 rfl (by as_aux_lemma => kernel_rfl) rfl (qg_runs (rv_move rfl)) rfl ?_; refine GE.q 1 rfl (by as_aux_lemma => kernel_rfl) rfl (qg_runs (rv_move rfl)) rfl ?_; refine GE.q 2 rfl (by as_aux_lemma => kernel_rfl) rfl (qg_runs (rv_move rfl)) rfl ?_; refine GE.q 3 rfl (by as_aux_lemma => kernel_rfl) rfl (qg_runs (rv_indexH rfl rfl (by exact Rd.owned 1 rfl) rfl (by exact e2))) rfl ?_; refine GE.q 4 rfl (by as_aux_lemma => kernel_rfl) rfl (qg_runs (rv_loadE rfl (by exact Rd.owned 1 rfl) (by exact e2) rfl)) rfl ?_; refine GE.q 5 rfl (by as_aux_lemma => kernel_rfl) rfl (qg_runs (rv_indexH rfl rfl (by exact Rd.stays (by assumption)) rfl (by exact e4))) rfl ?_; refine GE.q 6 rfl (by as_aux_lemma => kernel_rfl) rfl (qg_runs (rv_loadE rfl (by exact Rd.stays (by assumption)) (by exact e4) rfl)) rfl ?_; refine GE.q 7 rfl (by as_aux_lemma => kernel_rfl) rfl (qg_runs (rv_move rfl)) rfl ?_; refine GE.q 8 rfl (by as_aux_lemma => kernel_rfl) rfl (qg_runs (rv_move rfl)) rfl ?_; refine GE.ol 9 (by as_aux_lemma => kernel_rfl) rfl rfl (og_runs (rv_move rfl)) rfl (fun _ _ h => by exact h) (fun _ _ => ?_); refine GE.ol 10 (by as_aux_lemma => kernel_rfl) rfl rfl (og_runs (rv_indexH rfl rfl (by exact Rd.owned 2 rfl) rfl (by exact e1))) rfl (fun _ _ h => by exact h) (fun _ _ => ?_)
                    refine GE.ol 11 (by as_aux_lemma => kernel_rfl) rfl rfl (og_runs (rv_loadE rfl (by exact Rd.owned 2 rfl) (by exact e1) rfl)) rfl (fun _ _ h => by exact h) (fun _ _ => ?_); refine GE.ol 12 (by as_aux_lemma => kernel_rfl) rfl rfl (og_runs (rv_indexH rfl rfl (by exact Rd.stays (by assumption)) rfl (by exact e3))) rfl (fun _ _ h => by exact h) (fun _ _ => ?_); refine GE.ol 13 (by as_aux_lemma => kernel_rfl) rfl rfl (og_runs (rv_loadE rfl (by exact Rd.stays (by assumption)) (by exact e3) rfl)) rfl (fun _ _ h => by exact h) (fun _ _ => ?_); refine GE.ol 14 (by as_aux_lemma => kernel_rfl) rfl rfl (og_runs (rv_lss rfl rfl)) rfl (fun _ _ h => by exact h) (fun _ _ => ?_); refine GE.ol 15 (by as_aux_lemma => kernel_rfl) rfl rfl (og_runs (rv_move rfl)) rfl (fun _ _ h => by exact h) (fun _ _ => ?_)
                    all_goals (((with_reducible refine GE.part (t := 98) rfl (fun hg => ?_) (fun hg => ?_)) <;> (try exact Bool.noConfusion hg) <;> (try (exfalso; (have hq := of_decide_eq_false hg; omega))) <;> (first | refine GE.q 16 rfl (by as_aux_lemma => kernel_rfl) rfl (qg_runs (rv_move rfl)) rfl ?_ | refine GE.qn 16 rfl (by as_aux_lemma => kernel_rfl) rfl rfl ?_)))
                    all_goals ((first | refine GE.q 17 rfl (by as_aux_lemma => kernel_rfl) rfl (qg_runs (rv_not rfl)) rfl ?_ | refine GE.qn 17 rfl (by as_aux_lemma => kernel_rfl) rfl rfl ?_))
                    all_goals ((first | refine GE.ol 18 (by as_aux_lemma => kernel_rfl) rfl rfl (og_runs (rv_pickT rfl rfl)) rfl (fun _ _ h => by exact h) (fun _ _ => ?_) | refine GE.ol 18 (by as_aux_lemma => kernel_rfl) rfl rfl (og_runs (rv_pickF rfl rfl)) rfl (fun _ _ h => by exact h) (fun _ _ => ?_)))
                    all_goals (refine GE.ol 19 (by as_aux_lemma => kernel_rfl) rfl rfl (og_runs (rv_move rfl)) rfl (fun _ _ h => by exact h) (fun _ _ => ?_))
                    all_goals (((with_reducible refine GE.part (t := 102) rfl (fun hg => ?_) (fun hg => ?_)) <;> (try exact Bool.noConfusion hg) <;> (try (exfalso; (have hq := of_decide_eq_false hg; omega))) <;> (refine GE.q 20 rfl (by as_aux_lemma => kernel_rfl) rfl (qg_runs (rv_move rfl)) rfl ?_)))
                    all_goals ((refine GE.q 21 rfl (by as_aux_lemma => kernel_rfl) rfl (qg_runs (rv_move rfl)) rfl ?_))
                    all_goals ((refine GE.q 22 rfl (by as_aux_lemma => kernel_rfl) rfl (qg_runs (rv_move rfl)) rfl ?_))
                    all_goals (((refine GE.q 23 rfl (by as_aux_lemma => kernel_rfl) rfl (qg_runs (rv_indexH rfl rfl (by exact Rd.owned 1 rfl) rfl (by exact e2))) rfl ?_)))
                    all_goals ((refine GE.q 24 rfl (by as_aux_lemma => kernel_rfl) rfl (qg_runs (rv_loadE rfl (by exact Rd.owned 1 rfl) (by exact e2) rfl)) rfl ?_))
                    all_goals (((refine GE.q 25 rfl (by as_aux_lemma => kernel_rfl) rfl (qg_runs (rv_indexH rfl rfl (by exact Rd.stays (by assumption)) rfl (by exact e4))) rfl ?_)))
                    all_goals ((refine GE.q 26 rfl (by as_aux_lemma => kernel_rfl) rfl (qg_runs (rv_loadE rfl (by exact Rd.stays (by assumption)) (by exact e4) rfl)) rfl ?_))
                    all_goals ((refine GE.q 27 rfl (by as_aux_lemma => kernel_rfl) rfl (qg_runs (rv_move rfl)) rfl ?_))
                    all_goals ((refine GE.q 28 rfl (by as_aux_lemma => kernel_rfl) rfl (qg_runs (rv_move rfl)) rfl ?_))
                    all_goals ((refine GE.q 29 rfl (by as_aux_lemma => kernel_rfl) rfl (qg_runs (rv_move rfl)) rfl ?_))
                    all_goals (((refine GE.q 30 rfl (by as_aux_lemma => kernel_rfl) rfl (qg_runs (rv_indexH rfl rfl (by exact Rd.owned 2 rfl) rfl (by exact e1))) rfl ?_)))
                    all_goals ((refine GE.q 31 rfl (by as_aux_lemma => kernel_rfl) rfl (qg_runs (rv_loadE rfl (by exact Rd.owned 2 rfl) (by exact e1) rfl)) rfl ?_))
                    all_goals (((refine GE.q 32 rfl (by as_aux_lemma => kernel_rfl) rfl (qg_runs (rv_indexH rfl rfl (by exact Rd.stays (by assumption)) rfl (by exact e3))) rfl ?_)))
                    all_goals ((refine GE.q 33 rfl (by as_aux_lemma => kernel_rfl) rfl (qg_runs (rv_loadE rfl (by exact Rd.stays (by assumption)) (by exact e3) rfl)) rfl ?_))
                    all_goals ((refine GE.q 34 rfl (by as_aux_lemma => kernel_rfl) rfl (qg_runs (rv_gtr rfl rfl)) rfl ?_))
                    all_goals ((refine GE.q 35 rfl (by as_aux_lemma => kernel_rfl) rfl (qg_runs (rv_move rfl)) rfl ?_))
                    all_goals ((((with_reducible refine GE.part (t := 118) rfl (fun hg => ?_) (fun hg => ?_)) <;> (try exact Bool.noConfusion hg) <;> (try (exfalso; (have hq := of_decide_eq_false hg; omega))) <;> (first | refine GE.q 36 rfl (by as_aux_lemma => kernel_rfl) rfl (qg_runs (rv_move rfl)) rfl ?_ | refine GE.qn 36 rfl (by as_aux_lemma => kernel_rfl) rfl rfl ?_))))
                    all_goals (((first | refine GE.q 37 rfl (by as_aux_lemma => kernel_rfl) rfl (qg_runs (rv_pickT rfl rfl)) rfl ?_ | refine GE.q 37 rfl (by as_aux_lemma => kernel_rfl) rfl (qg_runs (rv_pickF rfl rfl)) rfl ?_)))
                    all_goals ((refine GE.ol 38 (by as_aux_lemma => kernel_rfl) rfl rfl (og_runs (rv_pickF rfl rfl)) rfl (fun _ _ h => by exact h) (fun _ _ => ?_)))
                    all_goals (refine GE.ol 39 (by as_aux_lemma => kernel_rfl) rfl rfl (og_runs (rv_assign rfl)) rfl (fun _ _ h => by exact h) (fun _ _ => ?_))
                    all_goals
                     refine GE.done (by as_aux_lemma => kernel_rfl) ?_; refine G.thenN ?_; refine G.cond rfl (fun hc => ?_) (fun hc => ?_)
                     · try exact Bool.noConfusion hc
                       all_goals
                        try replace hc := of_decide_eq_true hc
                        try (exfalso; contradiction)
                        all_goals
                         refine G.seq (G.region (G.v (rv_move rfl) rfl (G.v (rv_move rfl) rfl (G.v (rv_move rfl) rfl ?_)))); refine G.v (rv_indexH rfl rfl (by exact Rd.owned 1 rfl) rfl (by exact e2)) rfl ?_; refine G.v (rv_loadE rfl (by exact Rd.owned 1 rfl) (by exact e2) rfl) rfl ?_; refine G.op (og_lit rfl (.cons rfl .nil) rfl rfl rfl rfl rfl rfl) rfl (fun vl _ => ?_); refine G.op (og_app1 rfl rfl rfl (by exact Rd.owned 0 rfl) rfl rfl (by (simp; omega)) (by (simp; omega))) rfl (fun va _ => ?_); refine G.v (rv_assign rfl) rfl (G.done (G.thenN (G.region (G.v (rv_move rfl) rfl ?_)))); refine G.v (rv_incr rfl rfl (by omega)) rfl ?_; refine G.v (rv_assign rfl) rfl (G.done (G.inN (G.inN ?_))); refine G.backK (i, j + 1, out ++ [y], va) 1 (one_eq (congrArg (fun z => Ch.row va 3 1 z) (by rw [List.map_append]; rfl))) (.cons rfl (.cons rfl (.cons rfl (.cons rfl (.nil))))) (⟨rfl, rfl, rfl, trivial⟩) ?_ ?_
                         · (exact ⟨by dsimp only; omega, by dsimp only; omega, by simp; omega, by dsimp only; rw [mrg_right hy (fun x' hx' => by first | (rw [List.getElem?_eq_none (by omega)] at hx'; cases hx'; done) | (rw [hx] at hx'; cases hx'; rw [hK1, hK2]; first | omega | (have hq := of_decide_eq_true hg; omega)))] at hm; rw [List.append_assoc]; exact hm⟩)
                         · dsimp only; omega
                     · try exact Bool.noConfusion hc
                       all_goals
                        try replace hc := of_decide_eq_false hc
                        try (exfalso; contradiction)
                        all_goals
                         refine G.seq (G.region (G.v (rv_move rfl) rfl (G.v (rv_move rfl) rfl (G.v (rv_move rfl) rfl ?_)))); refine G.v (rv_indexH rfl rfl (by exact Rd.owned 2 rfl) rfl (by exact e1)) rfl ?_; refine G.v (rv_loadE rfl (by exact Rd.owned 2 rfl) (by exact e1) rfl) rfl ?_; refine G.op (og_lit rfl (.cons rfl .nil) rfl rfl rfl rfl rfl rfl) rfl (fun vl _ => ?_); refine G.op (og_app1 rfl rfl rfl (by exact Rd.owned 0 rfl) rfl rfl (by (simp; omega)) (by (simp; omega))) rfl (fun va _ => ?_); refine G.v (rv_assign rfl) rfl (G.done (G.thenN (G.region (G.v (rv_move rfl) rfl ?_)))); refine G.v (rv_incr rfl rfl (by omega)) rfl ?_; refine G.v (rv_assign rfl) rfl (G.done (G.inN (G.inN ?_))); refine G.backK (i + 1, j, out ++ [x], va) 1 (one_eq (congrArg (fun z => Ch.row va 3 1 z) (by rw [List.map_append]; rfl))) (.cons rfl (.cons rfl (.cons rfl (.cons rfl (.nil))))) (⟨rfl, rfl, rfl, trivial⟩) ?_ ?_
                         · (exact ⟨by dsimp only; omega, by dsimp only; omega, by simp; omega, by dsimp only; rw [mrg_left hx (fun y' hy' => by first | (rw [List.getElem?_eq_none (by omega)] at hy'; cases hy'; done) | (rw [hy] at hy'; cases hy'; rw [hK1, hK2]; first | omega | (have hq := of_decide_eq_false hg; omega)))] at hm; rw [List.append_assoc]; exact hm⟩)
                         · dsimp only; omega
        · try exact Bool.noConfusion hc
          all_goals
           try replace hc := of_decide_eq_false hc
           try (exfalso; omega)
           all_goals
            refine G.exit (G.thenX (G.thenX (G.inX (G.thenN (G.seq (G.region (G.v (rv_move rfl) rfl (G.v (rv_assign rfl) rfl (G.done (G.thenN (G.ret ?_)))))))))))
            (have hout : out = mrgM (keyM ks) us bs := (by rw [List.drop_eq_nil_of_le (by omega), List.drop_eq_nil_of_le (by omega)] at hm; simpa [mrgM] using hm); refine G.know (fun w hw => (Rd.owned 0 rfl w hw).one_) (fun hone => G.retF (v, out) ⟨hone, hout ▸ mrg_halves hpa hpb, hout ▸ mrg_srt us bs hsa hsb (fun x hx y hy _ => halves_lt hpw (hpa.mem_iff.1 hx) (hpb.mem_iff.1 hy))⟩ rfl rfl rfl (fun w hw => hw.sublist (by repeat (first | exact List.Sublist.refl _ | refine List.Sublist.cons_cons _ ?_ | refine List.Sublist.cons _ ?_)))))
theorem ssortDown_any {kv : Value} {ks : List Int} (w : World) (h : Rd w kv 1 (ks.map icell)) (hn : ks.length ≤ 1048576) : Fn Tryz.prog 166 [kv] w (fun v : Value => v.oneCell' = true) (fun v => v) (fun v => [.row v 3 1 ((ordM (keyM ks) ks.length).map ncell)]) := by
  have hln : (ks.map icell).length = ks.length := by simp
  refine Fn.of (n := 8) Tryz.func166 rfl rfl ?_; refine G.seq (G.region (G.v (rv_assign rfl) rfl (G.done (G.thenN (G.seq (G.region (G.v (rv_move rfl) rfl (G.v (rv_move rfl) rfl ?_)))))))); refine G.v (rv_len rfl (by exact Rd.stays (by assumption))) rfl ?_
  (refine G.op (og_callF1 rfl rfl (fun w hh => by rw [hln]; exact l1Places_any w hn)) rfl ?_; rintro vp hvp; try dsimp only)
  (refine G.op (og_callF1 rfl rfl (fun w hh => l1Merge_any (ks.length + 1) w (by simp) (Rd.stays h _ hh) (Rd.owned 0 rfl _ hh) (fun x hx => List.mem_range.1 hx) List.pairwise_lt_range (by simpa using hn))) rfl ?_; rintro ⟨vo, os⟩ ⟨hvo, hpo, hso⟩; try dsimp only)
  refine G.v (rv_assign rfl) rfl (G.done (G.thenN (G.ret ?_)))
  exact G.retF vo hvo rfl rfl rfl (fun w hw => by rw [← ord_of_perm hso hpo]; exact hw.sublist (by repeat (first | exact List.Sublist.refl _ | refine List.Sublist.cons_cons _ ?_ | refine List.Sublist.cons _ ?_)))
end Go.Proofs.YtglpgohilfoecaaGreat

/-
  First fit: both ways.
-/
namespace Go.Proofs.YtglpgohilfoecaaGreat
open Go.RowKit
attribute [local irreducible] Go.wpList Go.Code.wp Go.Exit.then Go.Exit.inBlock Go.bodyPost Go.Calls pE pB G RunsV FnV Fn FnM
set_option maxRecDepth 100000
set_option maxHeartbeats 4000000
theorem vkey_snoc {r : ReqM} {T : List Int} {k : Nat} {x : Int} (hx : T[k]? = some x) : ((T.take k).map (vOf r)).map icell ++ [[Value.int .i64 (vOf r x)]] = ((T.take (k + 1)).map (vOf r)).map icell := by
  simp [List.take_add_one, hx, icell]
theorem ordU_take {r : ReqM} {T : List Int} {k x : Nat} {u : Int} (hx : (ordM (keyM (T.map (vOf r))) (T.map (vOf r)).length)[k]? = some x) (hu : T[x]? = some u) : (ordU r T)[k]? = some u := ordU_at (by rw [← hx, List.length_map]) hu
section
variable {r : ReqM} {pv tv iv uv : Value} {us : List Int} (w : World) (h : Rd w pv 2 (r.pairs.map PairM.cells)) (h2 : Rd w tv 7 (r.types.map TypeM.cells)) (h3 : Rd w iv 7 (r.items.map ItemM.cells))
include h h2 h3
theorem firstFit1_any {g : List Int} {lv : Value} {q1 q2 : Nat} (u : Int) (h4 : Rd w lv 1 (g.map icell)) (hul : g.length + 1 ≤ 1048576) (h5 : Rd w (.slice (some ⟨q1, 0, none⟩) 1 1) 10 [r.cells pv tv iv]) (h6 : Rd w (.slice (some ⟨q2, 0, none⟩) 1 1) 1 [[.int .i64 u]]) : FnV Tryz.prog 180 [lv, pB q1 0, pB q2 0] w (.bool (roomM r g u)) := by
  rw [pB_eq_pE q1 10, pB_eq_pE q2 1]
  refine FnV.of (n := 9) Tryz.func180 rfl rfl ?_; refine G.seq (G.region (G.v (rv_assign rfl) rfl (G.done (G.thenN (G.seq (G.region ?_)))))); refine G.v (rv_loadEW rfl (by exact Rd.stays (by assumption)) rfl rfl) rfl ?_; refine G.v (rv_move rfl) rfl ?_; refine G.v (rv_loadE rfl (by exact Rd.stays (by assumption)) rfl rfl) rfl ?_; refine G.op (og_callV rfl rfl (fun w hh => room_any (r := r) (us := g) w (Rd.stays h _ hh) (Rd.stays h2 _ hh) (Rd.stays h3 _ hh) (Rd.stays h4 _ hh) hul u)) rfl (fun _ _ => ?_); refine G.v (rv_assign rfl) rfl (G.done (G.thenN (G.ret ?_)))
  exact G.retFV rfl rfl rfl
variable (h4 : Rd w uv 1 (us.map icell)) (hul : us.length ≤ 1048576)
include h4 hul
theorem firstFit_any : Fn Tryz.prog 128 [.agg (r.cells pv tv iv).toArray, uv] w (fun x : Value × List (List Int × Value) => x.1.oneCell' = true ∧ x.2.map Prod.fst = firstM r us) (fun x => x.1) (fun x => [.grp 3 1 (x.2.map (sub id)), .row x.1 52 1 (x.2.map gcell)]) := by
  obtain ⟨T, hT⟩ : ∃ T, T = thereM r us := ⟨_, rfl⟩
  have hTl : T.length ≤ 1048576 := by have := thereM_len r us; rw [hT]; omega
  have hTl2 : (T.map icell).length = T.length := by simp
  have hTl3 : (T.map (vOf r)).length = T.length := by simp
  have hol : ((ordM (keyM (T.map (vOf r))) (T.map (vOf r)).length).map ncell).length = T.length := by rw [List.length_map, ordM_len, hTl3]
  have hol2 : (ordM (keyM (T.map (vOf r))) (T.map (vOf r)).length).length = T.length := by rw [ordM_len, hTl3]
  have hul9 := ordU_len r T
  have hall : (r.cells pv tv iv).all Value.oneCell' = true := req_all h.one_ h2.one_ h3.one_
  refine Fn.of (n := 66) Tryz.func128 rfl rfl ?_; refine G.seq (G.region ?_); refine G.op (og_box rfl rfl) rfl (fun bk2 _ => ?_); refine G.v (rv_assign rfl) rfl (G.done (G.thenN (G.seq (G.region (G.v (rv_loadW 0 rfl rfl rfl) rfl (G.v (rv_move rfl) rfl ?_))))))
  (refine G.op (og_callF1 rfl rfl (fun w hh => by have q := thereOf_any (r := r) (us := us) w (Rd.stays h _ hh) (Rd.stays h2 _ hh) (Rd.stays h3 _ hh) (Rd.stays h4 _ hh) (by omega); rw [← hT] at q; exact q)) rfl ?_; rintro vt hvt; try dsimp only)
  refine G.v (rv_assign rfl) rfl (G.done (G.thenN (G.seq (G.region ?_)))); refine G.op (og_lit rfl .nil rfl rfl rfl rfl rfl rfl) rfl (fun vl _ => ?_); refine G.v (rv_assign rfl) rfl (G.done (G.thenN (G.seq (G.seq (G.region (G.v (rv_move rfl) rfl ?_)))))); refine G.v (rv_len rfl (by exact Rd.owned 1 rfl)) rfl ?_; refine G.v (rv_move rfl) rfl (G.done (G.thenN (G.block ?_)))
  -- loop 0: turned [6, 20], kept [2, 5, 18, 19]
  refine G.loopK (ι := Nat × Value) (ks := [2, 5, 18, 19]) (fun x => [(6, x.2), (20, .int .i64 (x.1 : Int))]) (fun x => [.row x.2 3 1 (((T.take x.1).map (vOf r)).map icell)]) (fun x => x.1 ≤ T.length) (fun x => T.length - x.1) (0, vl) (.cons rfl (.cons rfl (.cons rfl (.cons rfl (.nil))))) rfl ?_ ?_ ?_
  · exact Nat.zero_le _
  · exact ⟨rfl, rfl, trivial⟩
  rintro ⟨k0, v0⟩ hk0
  dsimp only at hk0 ⊢
  have hl9 : (((T.take k0).map (vOf r)).map icell).length = k0 := by (simp; omega)
  by_cases hlt0 : k0 < T.length
  case' pos => (obtain ⟨x, hx⟩ := get_of_lt hlt0; have he := get_map hx icell)
  case' neg => (have hkall : ((T.take k0).map (vOf r)).map icell = (T.map (vOf r)).map icell := (by rw [List.take_of_length_le (by omega)]))
  all_goals
   refine G.seq (G.region (G.v (rv_lss rfl rfl) rfl (G.done (G.thenN (G.seq ?_))))); refine G.cond rfl (fun hc => ?_) (fun hc => ?_)
   · try exact Bool.noConfusion hc
     all_goals
      try replace hc := of_decide_eq_true hc
      try simp only [hTl2, hol] at hc
      try (exfalso; omega)
      all_goals
       refine G.skip (G.thenN (G.seq (G.block (G.seq (G.region ?_))))); refine G.v (rv_indexH rfl rfl (by exact Rd.owned 1 rfl) rfl (by exact he)) rfl ?_; refine G.v (rv_loadE rfl (by exact Rd.owned 1 rfl) (by exact he) rfl) rfl ?_; refine G.v (rv_assign rfl) rfl (G.done (G.thenN (G.region (G.v (rv_move rfl) rfl (G.v (rv_loadW 2 rfl rfl rfl) rfl (G.v (rv_move rfl) rfl ?_)))))); refine G.op (og_lit rfl (.cons rfl .nil) rfl rfl rfl rfl rfl rfl) rfl (fun vx _ => ?_); refine G.op (og_callV rfl rfl (fun w hh => (volumeOf_any (r := r) (us := [x]) w (Rd.stays h _ hh) (Rd.stays h2 _ hh) (Rd.stays h3 _ hh) (Rd.owned 0 rfl _ hh) (by simp)).mono (congrArg (Value.int .i64) (volUS_one r x)))) rfl (fun _ _ => ?_); refine G.op (og_lit rfl (.cons rfl .nil) rfl rfl rfl rfl rfl rfl) rfl (fun vy _ => ?_); refine G.op (og_app2 rfl rfl rfl (by exact Rd.owned 0 rfl) rfl rfl (by (simp; omega)) (by (simp; omega))) rfl (fun va _ => ?_); refine G.v (rv_assign rfl) rfl (G.done (G.inN (G.thenN (G.region ?_)))); refine G.v (rv_incr rfl rfl (by omega)) rfl ?_; refine G.v (rv_move rfl) rfl (G.done ?_); refine G.frontR2 va rfl ?_
       (refine G.keep1 2 rfl ?_; refine G.backK (k0 + 1, va) 0 (one_eq (congrArg (fun z => Ch.row va 3 1 z) (vkey_snoc hx))) (.cons rfl (.cons rfl (.cons rfl (.cons rfl (.nil))))) ?_ ?_ ?_)
       · exact ⟨rfl, rfl, trivial⟩
       · dsimp only; omega
       · dsimp only; omega
   · try exact Bool.noConfusion hc
     all_goals
      try replace hc := of_decide_eq_false hc
      try simp only [hTl2, hol] at hc
      try (exfalso; omega)
      all_goals
       refine G.exit (G.thenX (G.thenX (G.inX (G.thenN (G.seq (G.region ?_)))))); refine G.op (og_lit rfl .nil rfl rfl rfl rfl rfl rfl) rfl (fun vl _ => ?_); refine G.v (rv_assign rfl) rfl (G.done (G.thenN (G.seq (G.seq (G.region (G.v (rv_move rfl) rfl ?_))))))
       (refine G.op (og_callF1 rfl rfl (fun w hh => sortDown_any (ks := T.map (vOf r)) w (by rw [← hkall]; exact Rd.owned 1 rfl _ hh) (by omega))) rfl ?_; rintro vo hvo; try dsimp only)
       refine G.v (rv_len rfl (by exact Rd.owned 0 rfl)) rfl ?_; refine G.v (rv_move rfl) rfl (G.done (G.thenN (G.block ?_)))
       -- loop 1: turned [9, 36], kept [2, 5, 34, 35]
       refine G.frontR1 vl rfl ?_; refine G.heap (fun w hh => hh.nilGrp 3 1) ?_; refine G.loopK (ι := Nat × List (List Int × Value) × Value) (ks := [2, 5, 34, 35]) (fun x => [(9, x.2.2), (36, .int .i64 (x.1 : Int))]) (fun x => [.grp 3 1 (x.2.1.map (sub id)), .row x.2.2 52 1 (x.2.1.map gcell)]) (fun x => x.1 ≤ T.length ∧ x.2.1.map Prod.fst = putAll (roomM r) ((ordU r T).take x.1)) (fun x => T.length - x.1) (0, [], vl) (.cons rfl (.cons rfl (.cons rfl (.cons rfl (.nil))))) rfl ?_ ?_ ?_
       · exact ⟨Nat.zero_le _, rfl⟩
       · exact ⟨rfl, rfl, trivial⟩
       rintro ⟨k, ts, v2⟩ ⟨hk, hM⟩
       dsimp only at hk hM ⊢
       have hl0 : (ts.map gcell).length = ts.length := (by simp)
       have htl : ts.length ≤ k := (by have := putAll_len (roomM r) ((ordU r T).take k); have e2 := congrArg List.length hM; rw [List.length_map] at e2; rw [List.length_take] at this; omega)
       have hblA : ∀ (j : Nat) (b : List Int × Value), ts[j]? = some b → b.1.length ≤ k := (by intro j b hb; have := (putAll_at (p := roomM r) (l := (ordU r T).take k) (q := j) (g := b.1) (by rw [← hM, List.getElem?_map, hb]; rfl)); rw [List.length_take] at this; omega)
       by_cases hlt : k < T.length
       case' pos => (obtain ⟨j, hj⟩ := get_of_lt (l := ordM (keyM (T.map (vOf r))) (T.map (vOf r)).length) (k := k) (by omega); have heo := get_map hj ncell; have hjl : j < T.length := (by have := ordM_mem.1 (List.mem_of_getElem? hj); omega); obtain ⟨u, hu⟩ := get_of_lt hjl; have het := get_map hu icell; have hx := ordU_take hj hu)
       all_goals
        refine G.seq (G.region (G.v (rv_lss rfl rfl) rfl (G.done (G.thenN (G.seq ?_))))); refine G.cond rfl (fun hc => ?_) (fun hc => ?_)
        · try exact Bool.noConfusion hc
          all_goals
           try replace hc := of_decide_eq_true hc
           try simp only [hTl2, hol] at hc
           try (exfalso; omega)
           all_goals
            refine G.skip (G.thenN (G.seq (G.block (G.seq (G.region ?_))))); refine G.v (rv_indexH rfl rfl (by exact Rd.owned 2 rfl) rfl (by exact heo)) rfl ?_; refine G.v (rv_loadE rfl (by exact Rd.owned 2 rfl) (by exact heo) rfl) rfl ?_; refine G.v (rv_assign rfl) rfl (G.done (G.thenN (G.seq (G.region (G.v (rv_move rfl) rfl (G.v (rv_move rfl) rfl ?_)))))); refine G.v (rv_indexH rfl rfl (by exact Rd.owned 4 rfl) rfl (by exact het)) rfl ?_; refine G.v (rv_loadE rfl (by exact Rd.owned 4 rfl) (by exact het) rfl) rfl ?_; refine G.op (og_alloc) rfl (fun bk12 _ => ?_); refine G.op0 (og_st0 rfl rfl rfl rfl rfl rfl (.zero (.cons .nil))) (fun _ _ => ?_); refine G.done (G.thenN (G.seq (G.region (G.v (rv_move rfl) rfl (G.v (rv_makeFunc rfl rfl) rfl ?_))))); refine G.op (og_callV rfl rfl (fun w hh => indexTbl_any (l := ts) (p := fun g => roomM r g u) w (by exact Rd.owned 2 rfl _ hh) (fun w' j b hw hb => firstFit1_any (r := r) (g := b.1) w' (Rd.stays (Rd.stays h _ hh) w' hw) (Rd.stays (Rd.stays h2 _ hh) w' hw) (Rd.stays (Rd.stays h3 _ hh) w' hw) u (Rd.stays (Subs.at (by exact Subs.owned 1 rfl _ hh) hb) w' hw) (by have := hblA j b hb; omega) (Rd.stays (by exact Rd.ofBlk 6 rfl hall w hh) w' hw) (Rd.stays (by exact Rd.ofBlk 0 rfl rfl w hh) w' hw)))) rfl (fun _ _ => ?_); refine G.v (rv_assign rfl) rfl (G.done (G.thenN ?_))
            refine G.seq (G.region (G.v (rv_move rfl) rfl (G.v (rv_lss rfl rfl) rfl (G.done (G.thenN ?_))))); refine G.cond rfl (fun hc => ?_) (fun hc => ?_)
            · try exact Bool.noConfusion hc
              all_goals
               try replace hc := of_decide_eq_true hc
               try simp only [hTl2, hol] at hc
               try (exfalso; contradiction)
               all_goals
                have hno := idx_neg hc
                all_goals
                 refine G.region (G.v (rv_move rfl) rfl (G.v (rv_load1 0 rfl rfl rfl) rfl ?_)); refine G.op (og_lit rfl (.cons rfl .nil) rfl rfl rfl rfl rfl rfl) rfl (fun vl _ => ?_); refine G.know (fun w hw => (Rd.owned 0 rfl w hw).one_) (fun hovl => ?_); refine G.op (og_lit rfl (.cons (cells_one (by assumption)) .nil) (by simp only [List.all_cons, List.all_nil, Bool.and_true, Bool.and_eq_true]; exact ⟨rfl, by assumption⟩) rfl rfl rfl rfl rfl) rfl (fun vm _ => ?_); refine G.op (og_app4 rfl rfl rfl (by exact Rd.owned 0 rfl) rfl rfl (by (simp; omega)) (by (simp; omega))) rfl (fun va _ => ?_); refine G.frontG3 _ rfl ?_; refine G.frontR2 vl rfl ?_; refine G.pushRow _ push_sub rfl ?_; refine G.v (rv_assign rfl) rfl (G.done (G.inN (G.thenN (G.region ?_)))); refine G.v (rv_incr rfl rfl (by omega)) rfl ?_; refine G.v (rv_move rfl) rfl (G.done ?_); refine G.frontR3 va rfl ?_; refine G.frontG1 _ rfl ?_
                 (refine G.keep2 2 rfl ?_; refine G.backK (k + 1, ts ++ [([u], vl)], va) 0 (by exact two_eq (congrArg (fun z => Ch.grp 3 1 z) rfl) (congrArg (fun z => Ch.row va 52 1 z) push_g)) (.cons rfl (.cons rfl (.cons rfl (.cons rfl (.nil))))) ?_ ?_ ?_)
                 · exact ⟨rfl, rfl, trivial⟩
                 · (exact ⟨hlt, by rw [putAll_next hx, ← hM]; exact (put_push (p := fun g => roomM r g u) hno).symm⟩)
                 · dsimp only; omega
            · try exact Bool.noConfusion hc
              all_goals
               try replace hc := of_decide_eq_false hc
               try simp only [hTl2, hol] at hc
               try (exfalso; contradiction)
               all_goals
                obtain ⟨q, b, hq, hqb, hpb, hbt⟩ := idx_pos hc
                have heq := get_map hqb gcell
                have hgi : (ts.map (sub id))[q]? = some (b.2, b.1.map icell) := get_mapS hqb
                have hbl : b.1.length ≤ k := hblA q b hqb
                all_goals
                 refine G.frontG1 _ rfl ?_; refine G.drawD1 [9, 10] rfl ?_; refine GE.q2 0 rfl (by as_aux_lemma => kernel_rfl) rfl (qg_runs (rv_move rfl)) (fun _ h => by exact h.drop 1) rfl ?_; refine GE.q2 1 rfl (by as_aux_lemma => kernel_rfl) rfl (qg_runs (rv_move rfl)) (fun _ h => by exact h.drop 1) rfl ?_; refine GE.q2 2 rfl (by as_aux_lemma => kernel_rfl) rfl (qg_runs (rv_move rfl)) (fun _ h => by exact h.drop 1) rfl ?_; refine GE.q2 3 rfl (by as_aux_lemma => kernel_rfl) rfl (qg_runs (rv_move rfl)) (fun _ h => by exact h.drop 1) rfl ?_; refine GE.q2 4 rfl (by as_aux_lemma => kernel_rfl) rfl (qg_runs (rv_indexH (k := q) rfl rfl (by exact Rd.owned 1 rfl) (by omega) heq)) (fun _ h => by exact h.drop 1) rfl ?_; refine GE.q2 5 rfl (by as_aux_lemma => kernel_rfl) rfl (qg_runs (rv_loadE rfl (by exact Rd.owned 1 rfl) (by exact heq) rfl)) (fun _ h => by exact h.drop 1) rfl ?_; refine GE.ol 6 (by as_aux_lemma => kernel_rfl) rfl rfl (og_runs (rv_load1 1 rfl rfl rfl)) rfl (fun _ _ h => by exact h.drop 1) (fun _ _ => ?_); refine GE.ol 7 (by as_aux_lemma => kernel_rfl) rfl rfl (og_lit rfl (.cons rfl .nil) rfl rfl rfl rfl rfl rfl) rfl (fun _ _ h => by exact h.drop 2) (fun vl _ => ?_); refine GE.ol 8 (by as_aux_lemma => kernel_rfl) rfl rfl (og_appG1 rfl rfl rfl hgi (by exact Rd.owned 0 rfl) rfl rfl (by (simp; omega)) (by (simp; omega))) rfl (fun _ _ h => by exact h.drop 2) (fun vb _ => ?_)
                 skip; refine GE.know (fun w hw => (Rd.grp 1 rfl (List.mem_of_getElem? (get_set1 hgi)) w hw).one_) (fun hova => ?_)
                 refine GE.t 9 (by as_aux_lemma => kernel_rfl) rfl rfl rfl (og_runs (rv_indexH (k := q) rfl rfl (by exact Rd.owned 3 rfl) (by omega) heq)) rfl (fun _ _ => ?_); refine GE.t0 10 (by as_aux_lemma => kernel_rfl) rfl rfl rfl (og_stE3 rfl rfl rfl (by exact heq) (cells_one (by assumption)) rfl (by repeat (first | rfl | refine one_cons (by assumption) ?_)) rfl (.zero (.cons .nil))) (fun _ _ => ?_); refine GE.done (by as_aux_lemma => kernel_rfl) ?_; refine G.inN (G.thenN (G.region ?_)); refine G.v (rv_incr rfl rfl (by omega)) rfl ?_; refine G.v (rv_move rfl) rfl (G.done ?_); refine G.frontR3 v2 rfl ?_; refine G.frontG2 _ rfl ?_
                 (refine G.keep2 2 rfl ?_; refine G.backK (k + 1, ts.set q (b.1 ++ [u], vb), v2) 0 (by exact two_eq (congrArg (fun z => Ch.grp 3 1 z) into_sub) (congrArg (fun z => Ch.row v2 52 1 z) into_g)) (.cons rfl (.cons rfl (.cons rfl (.cons rfl (.nil))))) ?_ ?_ ?_)
                 · exact ⟨rfl, rfl, trivial⟩
                 · (exact ⟨hlt, by rw [putAll_next hx, ← hM]; exact (put_into (p := fun g => roomM r g u) hqb hpb hbt).symm⟩)
                 · dsimp only; omega
        · try exact Bool.noConfusion hc
          all_goals
           try replace hc := of_decide_eq_false hc
           try simp only [hTl2, hol] at hc
           try (exfalso; omega)
           all_goals
            refine G.exit (G.thenX (G.thenX (G.inX (G.thenN (G.seq (G.region (G.v (rv_move rfl) rfl (G.v (rv_assign rfl) rfl (G.done (G.thenN (G.ret ?_))))))))))); refine G.know (fun w hw => (Rd.owned 1 rfl w hw).one_) (fun hone => G.retF (v2, ts) ⟨hone, by rw [take_all (l := ordU r T) (by omega), hT] at hM; exact hM⟩ rfl rfl rfl (fun w hw => hw.sublist (by repeat (first | exact List.Sublist.refl _ | refine List.Sublist.cons_cons _ ?_ | refine List.Sublist.cons _ ?_))))
end
end Go.Proofs.YtglpgohilfoecaaGreat

/-
  First fit, the reference's way; the way that an order asks for.
-/
namespace Go.Proofs.YtglpgohilfoecaaGreat
open Go.RowKit
attribute [local irreducible] Go.wpList Go.Code.wp Go.Exit.then Go.Exit.inBlock Go.bodyPost Go.Calls pE pB G RunsV FnV Fn FnM
set_option maxRecDepth 100000
set_option maxHeartbeats 4000000
section
variable {r : ReqM} {pv tv iv uv : Value} {us : List Int} (w : World) (h : Rd w pv 2 (r.pairs.map PairM.cells)) (h2 : Rd w tv 7 (r.types.map TypeM.cells)) (h3 : Rd w iv 7 (r.items.map ItemM.cells)) (h4 : Rd w uv 1 (us.map icell)) (hul : us.length ≤ 1048576)
include h h2 h3 h4 hul
omit h in
theorem l7First_any (hyes : classM r = 0) : Fn Tryz.prog 195 [.agg (r.cells pv tv iv).toArray, uv] w (fun x : Value × List (List Int × Value) => x.1.oneCell' = true ∧ x.2.map Prod.fst = putAll (roomM r) (ordU r us)) (fun x => x.1) (fun x => [.grp 3 1 (x.2.map (sub id)), .row x.1 52 1 (x.2.map gcell)]) := by
  have hTl2 : (us.map icell).length = us.length := by simp
  have hTl3 : (us.map (vOf r)).length = us.length := by simp
  have hol : ((ordM (keyM (us.map (vOf r))) (us.map (vOf r)).length).map ncell).length = us.length := by rw [List.length_map, ordM_len, hTl3]
  have hol2 : (ordM (keyM (us.map (vOf r))) (us.map (vOf r)).length).length = us.length := by rw [ordM_len, hTl3]
  have hul9 := ordU_len r us
  refine Fn.of (n := 93) Tryz.func195 rfl rfl ?_; refine G.seq (G.region ?_); refine G.op (og_box rfl rfl) rfl (fun bk2 _ => ?_); refine G.v (rv_assign rfl) rfl (G.done (G.thenN (G.seq (G.region (G.v (rv_loadW 0 rfl rfl rfl) rfl ?_))))); refine G.op (og_callV rfl rfl (fun w hh => smasterOf_any (r := r) w (Rd.stays h2 _ hh))) rfl (fun _ _ => ?_); refine G.v (rv_move rfl) rfl (G.v (rv_extract rfl rfl) rfl (G.v (rv_extract rfl rfl) rfl ?_)); refine G.op (og_alloc) rfl (fun bk5 _ => ?_); refine G.op0 (og_st0 rfl rfl rfl rfl rfl rfl (.zero (.cons (.cons (.cons (.cons (.cons (.cons (.cons .nil))))))))) (fun _ _ => ?_); refine G.v (rv_assign rfl) rfl (G.done (G.thenN (G.seq (G.region (G.v (rv_loadW 1 rfl rfl rfl) rfl ?_)))))
  (refine G.op (og_callF1 rfl rfl (fun w hh => by have q := sl6Units_any (r := r) (pv := pv) (tv := tv) w (bounds_items (cls_sound hyes)) (bounds_lens (cls_sound hyes)).1 (Rd.stays h3 _ hh); rw [← unitsM_yes hyes] at q; exact q)) rfl ?_; rintro vu hvu; try dsimp only)
  refine G.v (rv_assign rfl) rfl (G.done (G.thenN (G.seq (G.region ?_)))); refine G.op (og_lit rfl .nil rfl rfl rfl rfl rfl rfl) rfl (fun vl _ => ?_); refine G.v (rv_assign rfl) rfl (G.done (G.thenN (G.seq (G.seq (G.region (G.v (rv_assign rfl) rfl (G.done (G.thenN (G.block ?_)))))))))
  -- loop 0: turned [8, 9], kept [1, 2, 5, 7]
  refine G.frontR0 vl rfl ?_; refine G.loopK (ι := Nat × Value) (ks := [1, 2, 5, 7]) (fun x => [(8, x.2), (9, .int .i64 (x.1 : Int))]) (fun x => [.row x.2 3 1 (((us.take x.1).map (vOf r)).map icell)]) (fun x => x.1 ≤ us.length) (fun x => us.length - x.1) (0, vl) (.cons rfl (.cons rfl (.cons rfl (.cons rfl (.nil))))) rfl ?_ ?_ ?_
  · exact Nat.zero_le _
  · exact ⟨rfl, rfl, trivial⟩
  rintro ⟨k0, v0⟩ hk0
  dsimp only at hk0 ⊢
  have hl9 : (((us.take k0).map (vOf r)).map icell).length = k0 := (by simp; omega)
  by_cases hlt0 : k0 < us.length
  case' pos => (obtain ⟨x, hx⟩ := get_of_lt hlt0; have he := get_map hx icell; have hv1 := volUS_one r x)
  case' neg => (have hkall : ((us.take k0).map (vOf r)).map icell = (us.map (vOf r)).map icell := (by rw [List.take_of_length_le (by omega)]))
  all_goals
   refine G.seq (G.seq (G.region (G.v (rv_move rfl) rfl (G.v (rv_move rfl) rfl ?_)))); refine G.v (rv_len rfl (by exact Rd.stays (by assumption))) rfl ?_; refine G.v (rv_lss rfl rfl) rfl (G.done (G.thenN ?_)); refine G.cond rfl (fun hc => ?_) (fun hc => ?_)
   · try exact Bool.noConfusion hc
     all_goals
      try replace hc := of_decide_eq_true hc
      try simp only [hTl2, hol] at hc
      try (exfalso; omega)
      all_goals
       refine G.skip (G.thenN (G.seq (G.block ?_))); refine G.frontR0 v0 rfl ?_; refine G.drawD1 [12] rfl ?_; refine GE.q2 0 rfl (by as_aux_lemma => kernel_rfl) rfl (qg_runs (rv_move rfl)) (fun _ h => by exact h.drop 1) rfl ?_; refine GE.q2 1 rfl (by as_aux_lemma => kernel_rfl) rfl (qg_runs (rv_loadW 2 rfl rfl rfl)) (fun _ h => by exact h.drop 1) rfl ?_; refine GE.q2 2 rfl (by as_aux_lemma => kernel_rfl) rfl (qg_runs (rv_move rfl)) (fun _ h => by exact h.drop 1) rfl ?_; refine GE.q2 3 rfl (by as_aux_lemma => kernel_rfl) rfl (qg_runs (rv_move rfl)) (fun _ h => by exact h.drop 1) rfl ?_; refine GE.q2 4 rfl (by as_aux_lemma => kernel_rfl) rfl (qg_runs (rv_move rfl)) (fun _ h => by exact h.drop 1) rfl ?_; refine GE.ol 5 (by as_aux_lemma => kernel_rfl) rfl rfl (og_runs (rv_move rfl)) rfl (fun _ _ h => by exact h.drop 1) (fun _ _ => ?_); refine GE.ol 6 (by as_aux_lemma => kernel_rfl) rfl rfl (og_runs (rv_incr rfl rfl (by omega))) rfl (fun _ _ h => by exact h.drop 1) (fun _ _ => ?_); refine GE.ol 7 (by as_aux_lemma => kernel_rfl) rfl rfl (og_runs (rv_sliceLH (l := k0) (h := k0 + 1) rfl rfl rfl (by omega) (Rd.stays h4) (by omega) (by simp; omega))) rfl (fun _ _ h => by exact h.drop 1) (fun _ _ => ?_)
       refine GE.ol 8 (by as_aux_lemma => kernel_rfl) rfl rfl (og_callV rfl rfl (fun w hh => l7Of_any (r := r) (us := [x]) w (Rd.stays h3 _ hh) (by have q := (Rd.stays h4 _ hh).sub (l := k0) (k := k0 + 1) (by omega) (by simp; omega); rw [one_sub hx] at q; exact q) (by simp) (by exact Rd.owned 1 rfl _ hh))) rfl (fun _ _ h => by exact h.drop 1) (fun _ _ => ?_); refine GE.ol 9 (by as_aux_lemma => kernel_rfl) rfl rfl (og_runs (rv_fieldV 0 rfl (by kernel_rfl) rfl)) rfl (fun _ _ h => by exact h.drop 1) (fun _ _ => ?_); refine GE.ol 10 (by as_aux_lemma => kernel_rfl) rfl rfl (og_lit rfl (.cons rfl .nil) rfl rfl rfl rfl rfl rfl) rfl (fun _ _ h => by exact h.drop 2) (fun vy _ => ?_); refine GE.ol 11 (by as_aux_lemma => kernel_rfl) rfl rfl (og_app1 rfl rfl rfl (by exact Rd.owned 0 rfl) rfl rfl (by (simp; omega)) (by (simp; omega))) rfl (fun _ _ h => by exact h.drop 2) (fun va _ => ?_); refine GE.t 12 (by as_aux_lemma => kernel_rfl) rfl rfl rfl (og_runs (rv_assign rfl)) rfl (fun _ _ => ?_); refine GE.done (by as_aux_lemma => kernel_rfl) ?_; refine G.inN (G.thenN (G.region (G.v (rv_move rfl) rfl ?_))); refine G.v (rv_incr rfl rfl (by omega)) rfl ?_; refine G.v (rv_assign rfl) rfl (G.done ?_); refine G.frontR1 va rfl ?_
       (refine G.keep1 1 rfl ?_; refine G.backK (k0 + 1, va) 0 (one_eq (congrArg (fun z => Ch.row va 3 1 z) ((congrArg (fun z => ((us.take k0).map (vOf r)).map icell ++ [[Value.int .i64 z]]) hv1).trans (vkey_snoc hx)))) (.cons rfl (.cons rfl (.cons rfl (.cons rfl (.nil))))) ?_ ?_ ?_)
       · exact ⟨rfl, rfl, trivial⟩
       · dsimp only; omega
       · dsimp only; omega
   · try exact Bool.noConfusion hc
     all_goals
      try replace hc := of_decide_eq_false hc
      try simp only [hTl2, hol] at hc
      try (exfalso; omega)
      all_goals
       refine G.exit (G.thenX (G.thenX (G.inX (G.thenN (G.seq (G.region (G.v (rv_move rfl) rfl ?_)))))))
       (refine G.op (og_callF1 rfl rfl (fun w hh => ssortDown_any (ks := us.map (vOf r)) w (by rw [← hkall]; exact Rd.owned 0 rfl _ hh) (by omega))) rfl ?_; rintro vo hvo; try dsimp only)
       refine G.v (rv_assign rfl) rfl (G.done (G.thenN (G.seq (G.region ?_)))); refine G.op (og_lit rfl .nil rfl rfl rfl rfl rfl rfl) rfl (fun vl _ => ?_); refine G.v (rv_assign rfl) rfl (G.done (G.thenN (G.seq (G.seq (G.region (G.v (rv_assign rfl) rfl (G.done (G.thenN (G.block ?_)))))))))
       -- loop 1: turned [11, 12], kept [1, 2, 5, 7, 10]
       refine G.frontR0 vl rfl ?_; refine G.heap (fun w hh => hh.nilGrp 3 1) ?_; refine G.loopK (ι := Nat × List (List Int × Value) × Value) (ks := [1, 2, 5, 7, 10]) (fun x => [(11, x.2.2), (12, .int .i64 (x.1 : Int))]) (fun x => [.grp 3 1 (x.2.1.map (sub id)), .row x.2.2 52 1 (x.2.1.map gcell)]) (fun x => x.1 ≤ us.length ∧ x.2.1.map Prod.fst = putAll (roomM r) ((ordU r us).take x.1)) (fun x => us.length - x.1) (0, [], vl) (.cons rfl (.cons rfl (.cons rfl (.cons rfl (.cons rfl (.nil)))))) rfl ?_ ?_ ?_
       · exact ⟨Nat.zero_le _, rfl⟩
       · exact ⟨rfl, rfl, trivial⟩
       rintro ⟨k, ts, v2⟩ ⟨hk, hM⟩
       dsimp only at hk hM ⊢
       have hl0 : (ts.map gcell).length = ts.length := (by simp)
       have htl : ts.length ≤ k := (by have := putAll_len (roomM r) ((ordU r us).take k); have e2 := congrArg List.length hM; rw [List.length_map] at e2; rw [List.length_take] at this; omega)
       have hblA : ∀ (j : Nat) (b : List Int × Value), ts[j]? = some b → b.1.length ≤ k := (by intro j b hb; have := (putAll_at (p := roomM r) (l := (ordU r us).take k) (q := j) (g := b.1) (by rw [← hM, List.getElem?_map, hb]; rfl)); rw [List.length_take] at this; omega)
       by_cases hlt : k < us.length
       case' pos => (obtain ⟨j0, hj⟩ := get_of_lt (l := ordM (keyM (us.map (vOf r))) (us.map (vOf r)).length) (k := k) (by omega); have heo := get_map hj ncell; have hjl : j0 < us.length := (by have := ordM_mem.1 (List.mem_of_getElem? hj); omega); obtain ⟨u, hu⟩ := get_of_lt hjl; have het := get_map hu icell; have hx := ordU_take hj hu)
       all_goals
        refine G.seq (G.seq (G.region (G.v (rv_move rfl) rfl (G.v (rv_move rfl) rfl ?_)))); refine G.v (rv_len rfl (by exact Rd.owned 2 rfl)) rfl ?_; refine G.v (rv_lss rfl rfl) rfl (G.done (G.thenN ?_)); refine G.cond rfl (fun hc => ?_) (fun hc => ?_)
        · try exact Bool.noConfusion hc
          all_goals
           try replace hc := of_decide_eq_true hc
           try simp only [hTl2, hol] at hc
           try (exfalso; omega)
           all_goals
            refine G.skip (G.thenN (G.seq (G.block (G.seq (G.region (G.v (rv_move rfl) rfl (G.v (rv_move rfl) rfl (G.v (rv_move rfl) rfl ?_)))))))); refine G.v (rv_indexH rfl rfl (by exact Rd.owned 2 rfl) rfl (by exact heo)) rfl ?_; refine G.v (rv_loadE rfl (by exact Rd.owned 2 rfl) (by exact heo) rfl) rfl ?_; refine G.v (rv_indexH rfl rfl (by exact Rd.stays (by assumption)) rfl (by exact het)) rfl ?_; refine G.v (rv_loadE rfl (by exact Rd.stays (by assumption)) (by exact het) rfl) rfl ?_; refine G.v (rv_assign rfl) rfl (G.done (G.thenN (G.seq (G.region (G.v (rv_assign rfl) rfl (G.done (G.thenN (G.seq (G.seq (G.region (G.v (rv_move rfl) rfl ?_))))))))))); refine G.v (rv_len rfl (by exact Rd.owned 1 rfl)) rfl ?_; refine G.v (rv_subB rfl rfl (by omega) (by omega)) rfl ?_; refine G.v (rv_assign rfl) rfl (G.done (G.thenN (G.block ?_)))
            -- loop 2: turned [14, 15], kept [1, 2, 5, 7, 10, 11, 12, 13]
            refine G.loopK (ι := Nat) (ks := [1, 2, 5, 7, 10, 11, 12, 13]) (fun j => [(14, .int .i64 (idxFrom (fun b => roomM r b.1 u) ts j)), (15, .int .i64 ((j : Int) - 1))]) (fun _ => []) (fun j => j ≤ ts.length) (fun j => j) ts.length (.cons rfl (.cons rfl (.cons rfl (.cons rfl (.cons rfl (.cons rfl (.cons rfl (.cons rfl (.nil))))))))) rfl ?_ ?_ ?_
            · exact Nat.le_refl _
            · exact ⟨congrArg (fun z => some (Value.int .i64 z)) from_end.symm, congrArg (fun z : Nat => some (Value.int .i64 ((z : Int) - 1))) hl0, trivial⟩
            rintro j hk1
            rcases j with _ | j
            case' succ => (obtain ⟨b, hb⟩ := get_of_lt (l := ts) (k := j) (by omega); have heb := get_map hb gcell)
            all_goals
             refine G.seq (G.seq (G.region (G.v (rv_move rfl) rfl (G.v (rv_geq rfl rfl) rfl (G.done (G.thenN ?_)))))); refine G.cond rfl (fun hc => ?_) (fun hc => ?_)
             · try exact Bool.noConfusion hc
               all_goals
                try replace hc := of_decide_eq_true hc
                try simp only [hTl2, hol] at hc
                try (exfalso; contradiction)
                all_goals
                 refine G.skip (G.thenN (G.seq (G.block (G.seq ?_)))); refine G.drawL [] ?_; refine GE.q 0 rfl (by as_aux_lemma => kernel_rfl) rfl (qg_runs (rv_loadW 6 rfl rfl rfl)) rfl ?_; refine GE.q 1 rfl (by as_aux_lemma => kernel_rfl) rfl (qg_runs (rv_move rfl)) rfl ?_; refine GE.q 2 rfl (by as_aux_lemma => kernel_rfl) rfl (qg_runs (rv_loadW 5 rfl rfl rfl)) rfl ?_; refine GE.q 3 rfl (by as_aux_lemma => kernel_rfl) rfl (qg_runs (rv_move rfl)) rfl ?_; refine GE.q 4 rfl (by as_aux_lemma => kernel_rfl) rfl (qg_runs (rv_move rfl)) rfl ?_; refine GE.q 5 rfl (by as_aux_lemma => kernel_rfl) rfl (qg_runs (rv_indexH (k := j) rfl rfl (by exact Rd.owned 1 rfl) (by omega) heb)) rfl ?_; refine GE.q 6 rfl (by as_aux_lemma => kernel_rfl) rfl (qg_runs (rv_loadE rfl (by exact Rd.owned 1 rfl) (by exact heb) rfl)) rfl ?_; refine GE.ol 7 (by as_aux_lemma => kernel_rfl) rfl rfl (og_runs (rv_move rfl)) rfl (fun _ _ h => by exact h) (fun _ _ => ?_); refine GE.ol 8 (by as_aux_lemma => kernel_rfl) rfl rfl (og_callV rfl rfl (fun w hh => (l7Room_any (r := r) (us := b.1) w (Rd.stays h3 _ hh) (Subs.at (by exact Subs.owned 0 rfl _ hh) hb) (by have := hblA _ b hb; omega) (mst r) u (by exact Rd.owned 4 rfl _ hh)).mono (congrArg Value.bool (room_yes hyes b.1 u).symm))) rfl (fun _ _ h => by exact h) (fun _ _ => ?_); refine GE.done (by as_aux_lemma => kernel_rfl) ?_; refine G.thenN ?_; refine G.cond rfl (fun hc => ?_) (fun hc => ?_)
                 · try exact Bool.noConfusion hc
                   all_goals
                    try replace hc := of_decide_eq_true hc
                    try simp only [hTl2, hol] at hc
                    try (exfalso; contradiction)
                    all_goals
                     refine G.region (G.v (rv_move rfl) rfl (G.v (rv_assign rfl) rfl (G.done (G.inN (G.thenN (G.region (G.v (rv_move rfl) rfl ?_))))))); refine G.v (rv_subB rfl rfl (by omega) (by omega)) rfl ?_; refine G.v (rv_assign rfl) rfl (G.done ?_); refine G.backK j 0 rfl (.cons rfl (.cons rfl (.cons rfl (.cons rfl (.cons rfl (.cons rfl (.cons rfl (.cons rfl (.nil))))))))) ?_ ?_ ?_
                     · exact ⟨congrArg (fun z => some (Value.int .i64 z)) ((show ((j + 1 : Nat) : Int) - 1 = (j : Int) by omega).trans (from_yes hb hc)), congrArg (fun z => some (Value.int .i64 z)) (show ((j + 1 : Nat) : Int) - 1 - 1 = (j : Int) - 1 by omega), trivial⟩
                     · omega
                     · omega
                 · try exact Bool.noConfusion hc
                   all_goals
                    try replace hc := of_decide_eq_false hc
                    try simp only [hTl2, hol] at hc
                    try (exfalso; contradiction)
                    all_goals
                     refine G.skip (G.inN (G.thenN (G.region (G.v (rv_move rfl) rfl ?_)))); refine G.v (rv_subB rfl rfl (by omega) (by omega)) rfl ?_; refine G.v (rv_assign rfl) rfl (G.done ?_); refine G.backK j 0 rfl (.cons rfl (.cons rfl (.cons rfl (.cons rfl (.cons rfl (.cons rfl (.cons rfl (.cons rfl (.nil))))))))) ?_ ?_ ?_
                     · exact ⟨congrArg (fun z => some (Value.int .i64 z)) (from_no hb hc), congrArg (fun z => some (Value.int .i64 z)) (show ((j + 1 : Nat) : Int) - 1 - 1 = (j : Int) - 1 by omega), trivial⟩
                     · omega
                     · omega
             · try exact Bool.noConfusion hc
               all_goals
                try replace hc := of_decide_eq_false hc
                try simp only [hTl2, hol] at hc
                try (exfalso; omega)
                all_goals
                 refine G.exit (G.thenX (G.thenX (G.inX (G.thenN (G.seq (G.region (G.v (rv_move rfl) rfl (G.v (rv_lss rfl rfl) rfl (G.done (G.thenN ?_)))))))))); refine G.cond rfl (fun hc => ?_) (fun hc => ?_)
                 · try exact Bool.noConfusion hc
                   all_goals
                    try replace hc := of_decide_eq_true hc
                    try simp only [hTl2, hol] at hc
                    try (exfalso; contradiction)
                    all_goals
                     rw [from_zero] at hc
                     have hno := idx_neg hc
                     all_goals
                      refine G.region (G.v (rv_move rfl) rfl (G.v (rv_move rfl) rfl ?_)); refine G.op (og_lit rfl (.cons rfl .nil) rfl rfl rfl rfl rfl rfl) rfl (fun vl _ => ?_); refine G.know (fun w hw => (Rd.owned 0 rfl w hw).one_) (fun hovl => ?_); refine G.op (og_lit rfl (.cons (cells_one (by assumption)) .nil) (by simp only [List.all_cons, List.all_nil, Bool.and_true, Bool.and_eq_true]; exact ⟨rfl, by assumption⟩) rfl rfl rfl rfl rfl) rfl (fun vm _ => ?_); refine G.op (og_app3 rfl rfl rfl (by exact Rd.owned 0 rfl) rfl rfl (by (simp; omega)) (by (simp; omega))) rfl (fun va _ => ?_); refine G.frontG2 _ rfl ?_; refine G.frontR2 vl rfl ?_; refine G.pushRow _ push_sub rfl ?_; refine G.v (rv_assign rfl) rfl (G.done (G.inN (G.thenN (G.region (G.v (rv_move rfl) rfl ?_))))); refine G.v (rv_incr rfl rfl (by omega)) rfl ?_; refine G.v (rv_assign rfl) rfl (G.done ?_); refine G.frontR2 va rfl ?_; refine G.frontG1 _ rfl ?_
                      (refine G.keep2 1 rfl ?_; refine G.backK (k + 1, ts ++ [([u], vl)], va) 0 (by exact two_eq (congrArg (fun z => Ch.grp 3 1 z) rfl) (congrArg (fun z => Ch.row va 52 1 z) push_g)) (.cons rfl (.cons rfl (.cons rfl (.cons rfl (.cons rfl (.nil)))))) ?_ ?_ ?_)
                      · exact ⟨rfl, rfl, trivial⟩
                      · (exact ⟨hlt, by rw [putAll_next hx, ← hM]; exact (put_push (p := fun g => roomM r g u) hno).symm⟩)
                      · dsimp only; omega
                 · try exact Bool.noConfusion hc
                   all_goals
                    try replace hc := of_decide_eq_false hc
                    try simp only [hTl2, hol] at hc
                    try (exfalso; contradiction)
                    all_goals
                     rw [from_zero] at hc
                     obtain ⟨q, b, hq, hqb, hpb, hbt⟩ := idx_pos hc
                     have hq2 := (from_zero (p := fun b => roomM r b.1 u) (l := ts)).trans hq
                     have heq := get_map hqb gcell
                     have hgi : (ts.map (sub id))[q]? = some (b.2, b.1.map icell) := get_mapS hqb
                     have hbl : b.1.length ≤ k := hblA q b hqb
                     all_goals
                      refine G.region (G.v (rv_move rfl) rfl (G.v (rv_move rfl) rfl (G.v (rv_move rfl) rfl (G.v (rv_move rfl) rfl ?_)))); refine G.v (rv_indexH (k := q) rfl rfl (by exact Rd.owned 1 rfl) (by omega) heq) rfl ?_; refine G.v (rv_loadE rfl (by exact Rd.owned 1 rfl) (by exact heq) rfl) rfl ?_; refine G.v (rv_move rfl) rfl ?_; refine G.op (og_lit rfl (.cons rfl .nil) rfl rfl rfl rfl rfl rfl) rfl (fun vl _ => ?_); refine G.op (og_appG1 rfl rfl rfl hgi (by exact Rd.owned 0 rfl) rfl rfl (by (simp; omega)) (by (simp; omega))) rfl (fun vb _ => ?_)
                      skip; refine G.know (fun w hw => (Rd.grp 1 rfl (List.mem_of_getElem? (get_set1 hgi)) w hw).one_) (fun hova => ?_)
                      refine G.v (rv_indexH (k := q) rfl rfl (by exact Rd.owned 2 rfl) (by omega) heq) rfl ?_; refine G.op0 (og_stE2 rfl rfl rfl (by exact heq) (cells_one (by assumption)) rfl (by repeat (first | rfl | refine one_cons (by assumption) ?_)) rfl (.zero (.cons .nil))) (fun _ _ => ?_); refine G.done (G.inN (G.thenN (G.region (G.v (rv_move rfl) rfl ?_)))); refine G.v (rv_incr rfl rfl (by omega)) rfl ?_; refine G.v (rv_assign rfl) rfl (G.done ?_); refine G.frontR2 v2 rfl ?_; refine G.frontG2 _ rfl ?_
                      (refine G.keep2 1 rfl ?_; refine G.backK (k + 1, ts.set q (b.1 ++ [u], vb), v2) 0 (by exact two_eq (congrArg (fun z => Ch.grp 3 1 z) into_sub) (congrArg (fun z => Ch.row v2 52 1 z) into_g)) (.cons rfl (.cons rfl (.cons rfl (.cons rfl (.cons rfl (.nil)))))) ?_ ?_ ?_)
                      · exact ⟨rfl, rfl, trivial⟩
                      · (exact ⟨hlt, by rw [putAll_next hx, ← hM]; exact (put_into (p := fun g => roomM r g u) hqb hpb hbt).symm⟩)
                      · dsimp only; omega
        · try exact Bool.noConfusion hc
          all_goals
           try replace hc := of_decide_eq_false hc
           try simp only [hTl2, hol] at hc
           try (exfalso; omega)
           all_goals
            refine G.exit (G.thenX (G.thenX (G.inX (G.thenN (G.seq (G.region (G.v (rv_move rfl) rfl (G.v (rv_assign rfl) rfl (G.done (G.thenN (G.ret ?_))))))))))); refine G.know (fun w hw => (Rd.owned 1 rfl w hw).one_) (fun hone => G.retF (v2, ts) ⟨hone, by rw [take_all (l := ordU r us) (by omega)] at hM; exact hM⟩ rfl rfl rfl (fun w hw => hw.sublist (by repeat (first | exact List.Sublist.refl _ | refine List.Sublist.cons_cons _ ?_ | refine List.Sublist.cons _ ?_))))
theorem sfirstFit_any : Fn Tryz.prog 133 [.agg (r.cells pv tv iv).toArray, uv] w (fun x : Value × List (List Int × Value) => x.1.oneCell' = true ∧ x.2.map Prod.fst = firstM r us) (fun x => x.1) (fun x => [.grp 3 1 (x.2.map (sub id)), .row x.1 52 1 (x.2.map gcell)]) := by
  have hTl : (thereM r us).length ≤ 1048576 := by have := thereM_len r us; omega
  refine Fn.of (n := 15) Tryz.func133 rfl rfl ?_; refine G.seq (G.region ?_); refine G.op (og_box rfl rfl) rfl (fun bk2 _ => ?_); refine G.v (rv_assign rfl) rfl (G.done (G.thenN (G.seq (G.seq (G.region (G.v (rv_loadW 0 rfl rfl rfl) rfl ?_)))))); refine G.op (og_callV rfl rfl (fun w hh => sclass_any (r := r) w (Rd.stays h _ hh) (Rd.stays h2 _ hh) (Rd.stays h3 _ hh))) rfl (fun _ _ => ?_); refine G.v (rv_neq rfl rfl) rfl (G.done (G.thenN ?_)); refine G.cond rfl (fun hc => ?_) (fun hc => ?_)
  · try exact Bool.noConfusion hc
    all_goals
     try replace hc := of_decide_eq_true hc
     try (exfalso; contradiction)
     all_goals
      have hno : ¬ classM r = 0 := hc
      all_goals
       refine G.seq (G.region ?_); refine G.op (og_lit rfl .nil rfl rfl rfl rfl rfl rfl) rfl (fun vl _ => ?_); refine G.v (rv_assign rfl) rfl (G.done (G.thenN (G.ret (G.thenR ?_))))
       (refine G.heap (fun w hh => hh.nilGrp 3 1) ?_; refine G.know (fun w hw => (Rd.owned 1 rfl w hw).one_) (fun hone => G.retF (vl, []) ⟨hone, by rw [firstM, thereM_no hno, show ordU r [] = [] from List.eq_nil_of_length_eq_zero (ordU_len r [])]; rfl⟩ rfl rfl rfl (fun w hw => hw.sublist (by repeat (first | exact List.Sublist.refl _ | refine List.Sublist.cons_cons _ ?_ | refine List.Sublist.cons _ ?_)))))
  · try exact Bool.noConfusion hc
    all_goals
     try replace hc := of_decide_eq_false hc
     try (exfalso; contradiction)
     all_goals
      have hyes : classM r = 0 := by omega
      all_goals
       refine G.skip (G.thenN (G.seq ?_)); refine G.drawL [6] ?_; refine GE.q 0 rfl (by as_aux_lemma => kernel_rfl) rfl (qg_runs (rv_loadW 0 rfl rfl rfl)) rfl ?_; refine GE.q 1 rfl (by as_aux_lemma => kernel_rfl) rfl (qg_runs (rv_loadW 0 rfl rfl rfl)) rfl ?_; refine GE.q 3 rfl (by as_aux_lemma => kernel_rfl) rfl (qg_runs (rv_move rfl)) rfl ?_
       (refine GE.ol 2 (by as_aux_lemma => kernel_rfl) rfl rfl (og_callF1 rfl rfl (fun w hh => by have q := sl6Units_any (r := r) (pv := pv) (tv := tv) w (bounds_items (cls_sound hyes)) (bounds_lens (cls_sound hyes)).1 (Rd.stays h3 _ hh); rw [← unitsM_yes hyes] at q; exact q)) rfl (fun _ _ h => by exact h.drop 1) ?_; rintro vu hvu; try dsimp only)
       (refine GE.ol 4 (by as_aux_lemma => kernel_rfl) rfl rfl (og_callF1 rfl rfl (fun w hh => l7Known_any (r := r) (us := us) w (by exact Rd.owned 0 rfl _ hh) (Rd.stays h4 _ hh) (by omega))) rfl (fun _ _ h => by exact h.drop 2) ?_; rintro vt hvt; try dsimp only)
       (refine GE.ol 5 (by as_aux_lemma => kernel_rfl) rfl rfl (og_callF2 rfl rfl (fun w hh => l7First_any (r := r) (us := thereM r us) w (Rd.stays h2 _ hh) (Rd.stays h3 _ hh) (by exact Rd.owned 0 rfl _ hh) hTl hyes)) rfl (fun _ _ h => by exact h.drop 4) ?_; rintro ⟨vo, os⟩ ⟨hvo, hos⟩; try dsimp only)
       refine GE.t 6 (by as_aux_lemma => kernel_rfl) rfl rfl rfl (og_runs (rv_assign rfl)) rfl (fun _ _ => ?_); refine GE.done (by as_aux_lemma => kernel_rfl) ?_; refine G.thenN (G.ret ?_)
       exact G.retF (vo, os) ⟨hvo, hos⟩ rfl rfl rfl (fun w hw => hw.sublist (by repeat (first | exact List.Sublist.refl _ | refine List.Sublist.cons_cons _ ?_ | refine List.Sublist.cons _ ?_)))
/-- The cartons of the way that is asked for. -/
def wayM (r : ReqM) (us : List Int) : List (List Int) := if r.way = 1 then nextM r us else firstM r us
theorem packWay_any : Fn Tryz.prog 70 [.agg (r.cells pv tv iv).toArray, uv] w (fun x : Value × List (List Int × Value) => x.1.oneCell' = true ∧ x.2.map Prod.fst = wayM r us) (fun x => x.1) (fun x => [.grp 3 1 (x.2.map (sub id)), .row x.1 52 1 (x.2.map gcell)]) := by
  refine Fn.of (n := 14) Tryz.func70 rfl rfl ?_; refine G.seq (G.region ?_); refine G.op (og_box rfl rfl) rfl (fun bk2 _ => ?_); refine G.v (rv_assign rfl) rfl (G.done (G.thenN (G.seq (G.seq (G.region (G.v (rv_field rfl) rfl (G.v (rv_load1 0 rfl rfl rfl) rfl (G.v (rv_eql rfl rfl) rfl (G.done (G.thenN ?_)))))))))); refine G.cond rfl (fun hc => ?_) (fun hc => ?_)
  · try exact Bool.noConfusion hc
    all_goals
     try replace hc := of_decide_eq_true hc
     try (exfalso; contradiction)
     all_goals
      refine G.seq (G.region (G.v (rv_loadW 0 rfl rfl rfl) rfl (G.v (rv_move rfl) rfl ?_)))
      (refine G.op (og_callF2 rfl rfl (fun w hh => nextFit_any (r := r) (us := us) w (Rd.stays h _ hh) (Rd.stays h2 _ hh) (Rd.stays h3 _ hh) (Rd.stays h4 _ hh) hul)) rfl ?_; rintro ⟨vo, os⟩ ⟨hvo, hos⟩; try dsimp only)
      refine G.v (rv_assign rfl) rfl (G.done (G.thenN (G.ret (G.thenR ?_))))
      (exact G.retF (vo, os) ⟨hvo, by rw [wayM, if_pos hc]; exact hos⟩ rfl rfl rfl (fun w hw => hw.sublist (by repeat (first | exact List.Sublist.refl _ | refine List.Sublist.cons_cons _ ?_ | refine List.Sublist.cons _ ?_))))
  · try exact Bool.noConfusion hc
    all_goals
     try replace hc := of_decide_eq_false hc
     try (exfalso; contradiction)
     all_goals
      refine G.skip (G.thenN (G.seq (G.region (G.v (rv_loadW 0 rfl rfl rfl) rfl (G.v (rv_move rfl) rfl ?_)))))
      (refine G.op (og_callF2 rfl rfl (fun w hh => firstFit_any (r := r) (us := us) w (Rd.stays h _ hh) (Rd.stays h2 _ hh) (Rd.stays h3 _ hh) (Rd.stays h4 _ hh) hul)) rfl ?_; rintro ⟨vo, os⟩ ⟨hvo, hos⟩; try dsimp only)
      refine G.v (rv_assign rfl) rfl (G.done (G.thenN (G.ret ?_)))
      (exact G.retF (vo, os) ⟨hvo, by rw [wayM, if_neg hc]; exact hos⟩ rfl rfl rfl (fun w hw => hw.sublist (by repeat (first | exact List.Sublist.refl _ | refine List.Sublist.cons_cons _ ?_ | refine List.Sublist.cons _ ?_))))
theorem spackWay_any : Fn Tryz.prog 73 [.agg (r.cells pv tv iv).toArray, uv] w (fun x : Value × List (List Int × Value) => x.1.oneCell' = true ∧ x.2.map Prod.fst = wayM r us) (fun x => x.1) (fun x => [.grp 3 1 (x.2.map (sub id)), .row x.1 52 1 (x.2.map gcell)]) := by
  refine Fn.of (n := 14) Tryz.func73 rfl rfl ?_; refine G.seq (G.region ?_); refine G.op (og_box rfl rfl) rfl (fun bk2 _ => ?_); refine G.v (rv_assign rfl) rfl (G.done (G.thenN (G.seq (G.seq (G.region (G.v (rv_field rfl) rfl (G.v (rv_load1 0 rfl rfl rfl) rfl (G.v (rv_eql rfl rfl) rfl (G.done (G.thenN ?_)))))))))); refine G.cond rfl (fun hc => ?_) (fun hc => ?_)
  · try exact Bool.noConfusion hc
    all_goals
     try replace hc := of_decide_eq_true hc
     try (exfalso; contradiction)
     all_goals
      refine G.seq (G.region (G.v (rv_loadW 0 rfl rfl rfl) rfl (G.v (rv_move rfl) rfl ?_)))
      (refine G.op (og_callF2 rfl rfl (fun w hh => snextFit_any (r := r) (us := us) w (Rd.stays h _ hh) (Rd.stays h2 _ hh) (Rd.stays h3 _ hh) (Rd.stays h4 _ hh) hul)) rfl ?_; rintro ⟨vo, os⟩ ⟨hvo, hos⟩; try dsimp only)
      refine G.v (rv_assign rfl) rfl (G.done (G.thenN (G.ret (G.thenR ?_))))
      (exact G.retF (vo, os) ⟨hvo, by rw [wayM, if_pos hc]; exact hos⟩ rfl rfl rfl (fun w hw => hw.sublist (by repeat (first | exact List.Sublist.refl _ | refine List.Sublist.cons_cons _ ?_ | refine List.Sublist.cons _ ?_))))
  · try exact Bool.noConfusion hc
    all_goals
     try replace hc := of_decide_eq_false hc
     try (exfalso; contradiction)
     all_goals
      refine G.skip (G.thenN (G.seq (G.region (G.v (rv_loadW 0 rfl rfl rfl) rfl (G.v (rv_move rfl) rfl ?_)))))
      (refine G.op (og_callF2 rfl rfl (fun w hh => sfirstFit_any (r := r) (us := us) w (Rd.stays h _ hh) (Rd.stays h2 _ hh) (Rd.stays h3 _ hh) (Rd.stays h4 _ hh) hul)) rfl ?_; rintro ⟨vo, os⟩ ⟨hvo, hos⟩; try dsimp only)
      refine G.v (rv_assign rfl) rfl (G.done (G.thenN (G.ret ?_)))
      (exact G.retF (vo, os) ⟨hvo, by rw [wayM, if_neg hc]; exact hos⟩ rfl rfl rfl (fun w hw => hw.sublist (by repeat (first | exact List.Sublist.refl _ | refine List.Sublist.cons_cons _ ?_ | refine List.Sublist.cons _ ?_))))
end
end Go.Proofs.YtglpgohilfoecaaGreat

/-
  Packings: what is asked of one. No program is in sight here.
-/
namespace Go.Proofs.YtglpgohilfoecaaGreat
open Go.RowKit
theorem srt_perm_eq : ∀ {xs ys : List Int}, xs.Pairwise (· ≤ ·) → ys.Pairwise (· ≤ ·) → xs.Perm ys → xs = ys
  | [], ys, _, _, h => (List.Perm.nil_eq h)
  | x :: xs, [], _, _, h => by have := h.length_eq; simp at this
  | x :: xs, y :: ys, h1, h2, h => by
    have p1 := List.pairwise_cons.1 h1
    have p2 := List.pairwise_cons.1 h2
    have e : x = y := by
      rcases List.mem_cons.1 (h.mem_iff.1 (List.mem_cons_self)) with e | e
      · exact e
      · rcases List.mem_cons.1 (h.mem_iff.2 (List.mem_cons_self)) with e2 | e2
        · exact e2.symm
        · have := p2.1 x e; have := p1.1 y e2; omega
    subst e
    rw [srt_perm_eq p1.2 p2.2 (List.Perm.cons_inv h)]
theorem sortM_eq {a b : List Int} : sortM a = sortM b ↔ a.Perm b :=
  ⟨fun h => (sortM_perm a).symm.trans (h ▸ sortM_perm b), fun h => srt_perm_eq (sortM_srt a) (sortM_srt b) ((sortM_perm a).trans (h.trans (sortM_perm b).symm))⟩
/-- How often x is there. -/
def timesM (l : List Int) (x : Int) : Nat := l.countP (fun y => decide (y = x))
/-- Whether no carton is empty, or over. -/
def okCs (r : ReqM) (cs : List (List Int)) : Bool := cs.all fun l => decide (l.length ≠ 0) && holdsM r l
/-- Whether cartons are a packing of units. -/
def packM (r : ReqM) (us : List Int) (cs : List (List Int)) : Bool := decide (classM r = 0) && (okCs r cs && decide (sortM cs.flatten = sortM (thereM r us)))
theorem packM_ok {r : ReqM} {us : List Int} {cs : List (List Int)} (hc : classM r = 0) (h : okCs r cs = true) : packM r us cs = decide (sortM cs.flatten = sortM (thereM r us)) := by rw [packM, h, decide_eq_true hc, Bool.true_and, Bool.true_and]
end Go.Proofs.YtglpgohilfoecaaGreat

/-
  The contract of the library's sort at this program: written by the kit's tools lay-shelf and lay-plain.
-/
namespace Go.Proofs
open Go.Shelf
def Tryz.lays189_ren : Go.Shelf.Ren := ⟨fun | 189 => 72 | 125 => 131 | 257 => 130 | 128 => 191 | 129 => 192 | 294 => 182 | 295 => 183 | 296 => 184 | 297 => 185 | 298 => 186 | 299 => 187 | 216 => 188 | 300 => 189 | 301 => 190 | 328 => 229 | 329 => 230 | 330 => 231 | 331 => 232 | 332 => 233 | 215 => 234 | 343 => 241 | n => n, fun | 28 => 52 | 3 => 3 | 46 => 156 | 0 => 0 | 51 => 194 | 53 => 196 | 4 => 4 | 183 => 186 | 182 => 185 | 131 => 191 | 5 => 5 | 9 => 9 | 218 => 220 | 222 => 224 | 228 => 232 | 229 => 233 | n => n, fun | n => n⟩
theorem Tryz.lays189 : Go.Proofs.Lays.n189 Tryz.prog Tryz.lays189_ren := {
  mixed := by kernel_rfl
  f125 := Tryz.func131.trans (congrArg some (by kernel_rfl))
  f128 := Tryz.func191.trans (congrArg some (by kernel_rfl))
  f129 := Tryz.func192.trans (congrArg some (by kernel_rfl))
  f189 := Tryz.func72.trans (congrArg some (by kernel_rfl))
  f215 := Tryz.func234.trans (congrArg some (by kernel_rfl))
  f216 := Tryz.func188.trans (congrArg some (by kernel_rfl))
  f257 := Tryz.func130.trans (congrArg some (by kernel_rfl))
  f294 := Tryz.func182.trans (congrArg some (by kernel_rfl))
  f295 := Tryz.func183.trans (congrArg some (by kernel_rfl))
  f296 := Tryz.func184.trans (congrArg some (by kernel_rfl))
  f297 := Tryz.func185.trans (congrArg some (by kernel_rfl))
  f298 := Tryz.func186.trans (congrArg some (by kernel_rfl))
  f299 := Tryz.func187.trans (congrArg some (by kernel_rfl))
  f300 := Tryz.func189.trans (congrArg some (by kernel_rfl))
  f301 := Tryz.func190.trans (congrArg some (by kernel_rfl))
  f328 := Tryz.func229.trans (congrArg some (by kernel_rfl))
  f329 := Tryz.func230.trans (congrArg some (by kernel_rfl))
  f330 := Tryz.func231.trans (congrArg some (by kernel_rfl))
  f331 := Tryz.func232.trans (congrArg some (by kernel_rfl))
  f332 := Tryz.func233.trans (congrArg some (by kernel_rfl))
  f343 := Tryz.func241.trans (congrArg some (by kernel_rfl))
  t0 := Tryz.underlying0
  a0 := Tryz.isAgg0
  z0 := Tryz.sizeOf0
  v0 := Tryz.zeroValue0
  t3 := Tryz.underlying3
  a3 := Tryz.isAgg3
  z3 := Tryz.sizeOf3
  v3 := Tryz.zeroValue3
  t4 := Tryz.underlying4
  a4 := Tryz.isAgg4
  z4 := Tryz.sizeOf4
  v4 := Tryz.zeroValue4
  t5 := Tryz.underlying5
  a5 := Tryz.isAgg5
  z5 := Tryz.sizeOf5
  v5 := Tryz.zeroValue5
  t9 := Tryz.underlying9
  a9 := Tryz.isAgg9
  z9 := Tryz.sizeOf9
  v9 := Tryz.zeroValue9
  t28 := Tryz.underlying52
  a28 := Tryz.isAgg52
  z28 := Tryz.sizeOf52
  v28 := Tryz.zeroValue52
  t46 := Tryz.underlying156
  a46 := Tryz.isAgg156
  z46 := Tryz.sizeOf156
  v46 := Tryz.zeroValue156
  t51 := Tryz.underlying194
  a51 := Tryz.isAgg194
  z51 := Tryz.sizeOf194
  v51 := Tryz.zeroValue194
  t53 := Tryz.underlying196
  a53 := Tryz.isAgg196
  z53 := Tryz.sizeOf196
  v53 := Tryz.zeroValue196
  t131 := Tryz.underlying191
  a131 := Tryz.isAgg191
  z131 := Tryz.sizeOf191
  v131 := Tryz.zeroValue191
  t182 := Tryz.underlying185
  a182 := Tryz.isAgg185
  z182 := Tryz.sizeOf185
  v182 := Tryz.zeroValue185
  t183 := Tryz.underlying186
  a183 := Tryz.isAgg186
  z183 := Tryz.sizeOf186
  v183 := Tryz.zeroValue186
  t218 := Tryz.underlying220
  a218 := Tryz.isAgg220
  z218 := Tryz.sizeOf220
  v218 := Tryz.zeroValue220
  t222 := Tryz.underlying224
  a222 := Tryz.isAgg224
  z222 := Tryz.sizeOf224
  v222 := Tryz.zeroValue224
  t228 := Tryz.underlying232
  a228 := Tryz.isAgg232
  z228 := Tryz.sizeOf232
  v228 := Tryz.zeroValue232
  t229 := Tryz.underlying233
  a229 := Tryz.isAgg233
  z229 := Tryz.sizeOf233
  v229 := Tryz.zeroValue233 }
open Go.Sort Go.RowKit in
theorem Tryz.slices_Sort_int (blk off cap : Nat) (zs : List Int) (w : World) (hH : Holds (Value.int .i64) w blk off zs.toArray) (hblk : blk < w.heap.size) (hsz : zs.length < 4611686018427387904) :
    Calls Tryz.prog 72 #[.slice (some ⟨blk, off, none⟩) zs.length cap] w fun e w' =>
      e = .returned (.tuple #[]) ∧ ∃ n os, w' = grow (putRow (Value.int .i64) (Sort.ahead w n) blk off (zs.mergeSort fun x y => decide (x ≤ y)).toArray) os := Any.slices_Sort_int Tryz.lays189 blk off cap zs w hH hblk hsz
end Go.Proofs

/-
  A list of numbers, sorted by the library, however long it is.
-/
namespace Go.Proofs.YtglpgohilfoecaaGreat
open Go.RowKit Go.Sort
theorem icell_flat (l : List Int) : (l.map icell).flatten = l.map (Value.int .i64) := by
  induction l with
  | nil => rfl
  | cons x r ih => rw [List.map_cons, List.flatten_cons, ih]; rfl
theorem sortM_merge (ks : List Int) : ks.mergeSort (fun x y => decide (x ≤ y)) = sortM ks := by
  refine srt_perm_eq ?_ (sortM_srt ks) ((List.mergeSort_perm _ _).trans (sortM_perm ks).symm)
  have h := List.pairwise_mergeSort (le := fun x y : Int => decide (x ≤ y)) (fun a b c h1 h2 => by simp only [decide_eq_true_eq] at *; omega) (fun a b => by simp only [Bool.or_eq_true, decide_eq_true_eq]; omega) ks
  exact h.imp (fun h => of_decide_eq_true h)
section
variable {w0 : World} {F : List Ch} {v : Value}
theorem sortG_any {ks : List Int} (hn : ks.length ≤ 1048576) :
    FnMF Tryz.prog 72 [v] w0 [.row v 3 1 (ks.map icell)] F (fun _ : Unit => True) (fun _ => .tuple #[]) (fun _ => [.row v 3 1 ((sortM ks).map icell)]) := by
  by_cases h12 : ks.length ≤ 12
  · exact sort_any h12
  · intro w hh
    have hln : (ks.map icell).length = ks.length := by simp
    obtain ⟨hrow, hgood⟩ := hh.ok _ (List.mem_cons_self)
    rcases hrow.2 with ⟨_, hz⟩ | ⟨g, cap, cur, hv, hB, hg, hle, hcm, hsz, htk⟩
    · omega
    · rw [Nat.mul_one, hln, icell_flat] at htk
      rw [hln] at hv hle
      subst hv
      have hlt : g < w.heap.size := (Array.getElem?_eq_some_iff.1 hg).1
      refine Calls.mono (Go.Proofs.Tryz.slices_Sort_int g 0 cap ks w (holds_of_blockI hg htk) hlt (by omega)) ?_
      rintro e w' ⟨rfl, n, os, rfl⟩
      have hgr := grownBy_sortedI (w := w) (g := g) (n := n) (os := os) (ks.mergeSort fun x y => decide (x ≤ y)).toArray
      have hml : (ks.mergeSort fun x y => decide (x ≤ y)).length = ks.length := by simp
      refine ⟨(), trivial, rfl, hh.below.grown hgr hh.below.size (fun k hk => by cases hk; exact hB), fun c hc => ?_, ?_⟩
      · rcases List.mem_cons.1 hc with rfl | hc
        · refine ⟨?_, fun e he => ?_⟩
          · have := ownsRow_sortedI (w := w) (base := w0.heap.size) (n := n) (os := os) (ss := ks) (ts := ks.mergeSort fun x y => decide (x ≤ y)) hml hB hg hle hcm hsz
            rw [sortM_merge] at this ⊢
            rw [icell_flat, List.length_map, sortM_len]
            exact this
          · obtain ⟨x, _, rfl⟩ := List.mem_map.1 he
            exact ⟨rfl, fun u hu => by rw [List.mem_singleton.1 hu]; rfl⟩
        · have hd := hh.ok c (List.mem_cons_of_mem _ hc)
          refine Ch.ok_of hd fun k hk => hgr.block k (Ch.lt hd hk).2 ?_
          intro e
          have hap := (List.pairwise_cons.1 hh.ap).1 c hc g rfl
          have : k = g := Option.some.inj e
          subst this
          exact hap hk
      · have hp := List.pairwise_cons.1 hh.ap
        exact List.pairwise_cons.2 ⟨fun d hd k hk => hp.1 d hd k hk, hp.2⟩
end
end Go.Proofs.YtglpgohilfoecaaGreat

/-
  A carton's box.
-/
namespace Go.Proofs.YtglpgohilfoecaaGreat
open Go.RowKit
attribute [local irreducible] Go.wpList Go.Code.wp Go.Exit.then Go.Exit.inBlock Go.bodyPost Go.Calls pE pB G RunsV FnV Fn FnM
set_option maxRecDepth 100000
set_option maxHeartbeats 4000000
def grossM (r : ReqM) (x : CartonM) : Int := if (typeAt r x.t).2 = true ∧ classM r = 0 then (typeAt r x.t).1.tare + gramM r x.l else 0
def boxOfM (r : ReqM) (x : CartonM) : BoxM := if (typeAt r x.t).2 = true ∧ classM r = 0 then ⟨(typeAt r x.t).1.w, (typeAt r x.t).1.d, (typeAt r x.t).1.h, grossM r x⟩ else ⟨0, 0, 0, 0⟩
theorem type_at_in {r : ReqM} {id : Int} (h : (typeAt r id).2 = true ∧ classM r = 0) : 0 ≤ (typeAt r id).1.tare ∧ (typeAt r id).1.tare ≤ 100000 := by
  rw [typeAt] at h ⊢
  cases hf : typeByM r id with
  | none => rw [hf] at h; exact absurd h.1 (by decide)
  | some t =>
    have := type_in (bounds_types (cls_sound h.2) t (List.mem_of_find?_eq_some hf))
    dsimp only
    omega
theorem gross_any {r : ReqM} {pv tv iv : Value} (x : CartonM × Value) (w : World) (h : Rd w pv 2 (r.pairs.map PairM.cells)) (h2 : Rd w tv 7 (r.types.map TypeM.cells)) (h3 : Rd w iv 7 (r.items.map ItemM.cells)) (h4 : Rd w x.2 1 (x.1.l.map icell)) (hul : x.1.l.length ≤ 1048576) :
    FnV Tryz.prog 24 [.agg (r.cells pv tv iv).toArray, .agg (CartonM.cells x).toArray] w (.int .i64 (grossM r x.1)) := by
  have hgi := gram_in r x.1.l
  refine FnV.of (n := 28) Tryz.func24 rfl rfl ?_; refine G.seq (G.region ?_); refine G.op (og_box rfl rfl) rfl (fun bk2 _ => ?_); refine G.op (og_box rfl rfl) rfl (fun bk3 _ => ?_); refine G.v (rv_assign rfl) rfl (G.done (G.thenN (G.seq (G.region (G.v (rv_loadW 1 rfl rfl rfl) rfl (G.v (rv_field rfl) rfl (G.v (rv_load1 0 rfl rfl rfl) rfl ?_))))))); refine G.op (og_callV rfl rfl (fun w hh => typeById_any (r := r) x.1.t w (Rd.stays h2 _ hh))) rfl (fun _ _ => ?_); refine G.v (rv_move rfl) rfl (G.v (rv_extract rfl rfl) rfl (G.v (rv_extract rfl rfl) rfl ?_)); refine G.op (og_alloc) rfl (fun bk5 _ => ?_); refine G.op0 (og_st0 rfl rfl rfl rfl rfl rfl (.zero (.cons (.cons (.cons (.cons (.cons (.cons (.cons .nil))))))))) (fun _ _ => ?_); refine G.v (rv_assign rfl) rfl (G.done (G.thenN (G.seq (G.seq (G.region (G.v (rv_move rfl) rfl (G.v (rv_not rfl) rfl (G.v (rv_move rfl) rfl ?_))))))))
  all_goals (((with_reducible refine G.gP rfl rfl (fun hg => ?_) (fun hg => ?_)) <;> (try exact Bool.noConfusion hg) <;> (first | (refine G.gY rfl rfl ?_; (refine G.v (rv_loadW 2 rfl rfl rfl) rfl ?_)) | refine G.gN rfl rfl rfl ?_)))
  all_goals ((first | (refine G.gY rfl rfl ?_; refine G.op (og_callV rfl rfl (fun w hh => sound_any (r := r) w (Rd.stays h _ hh) (Rd.stays h2 _ hh) (Rd.stays h3 _ hh))) rfl (fun _ _ => ?_)) | refine G.gN rfl rfl rfl ?_))
  all_goals ((first | (refine G.gY rfl rfl ?_; refine G.v (rv_not rfl) rfl ?_) | refine G.gN rfl rfl rfl ?_))
  all_goals ((first | refine G.v (rv_pickT rfl rfl) rfl ?_ | refine G.v (rv_pickF rfl rfl) rfl ?_))
  all_goals
   refine G.done (G.thenN ?_); refine G.cond rfl (fun hc => ?_) (fun hc => ?_)
   · try exact Bool.noConfusion hc
     all_goals
      try replace hc := of_decide_eq_true hc
      try (exfalso; contradiction)
      all_goals
       have hno : ¬ ((typeAt r x.1.t).2 = true ∧ classM r = 0) := by (clear h h2 h3 h4; simp_all)
       all_goals
        refine G.seq (G.region (G.v (rv_assign rfl) rfl (G.done (G.thenN (G.ret (G.thenR ?_))))))
        exact G.retFV rfl rfl (congrArg (Value.int .i64) (by rw [grossM, if_neg hno]))
   · try exact Bool.noConfusion hc
     all_goals
      try replace hc := of_decide_eq_false hc
      try (exfalso; contradiction)
      all_goals
       have hyes : (typeAt r x.1.t).2 = true ∧ classM r = 0 := by (clear h h2 h3 h4; simp_all)
       have htb := type_at_in hyes
       all_goals
        refine G.skip (G.thenN (G.seq ?_)); refine G.drawL [7] ?_; refine GE.q 0 rfl (by as_aux_lemma => kernel_rfl) rfl (qg_runs (rv_field rfl)) rfl ?_; refine GE.q 1 rfl (by as_aux_lemma => kernel_rfl) rfl (qg_runs (rv_load1 0 rfl rfl rfl)) rfl ?_; refine GE.q 2 rfl (by as_aux_lemma => kernel_rfl) rfl (qg_runs (rv_loadW 2 rfl rfl rfl)) rfl ?_; refine GE.ol 3 (by as_aux_lemma => kernel_rfl) rfl rfl (og_runs (rv_field rfl)) rfl (fun _ _ h => by exact h) (fun _ _ => ?_); refine GE.ol 4 (by as_aux_lemma => kernel_rfl) rfl rfl (og_runs (rv_load1 1 rfl rfl rfl)) rfl (fun _ _ h => by exact h) (fun _ _ => ?_); refine GE.ol 5 (by as_aux_lemma => kernel_rfl) rfl rfl (og_callV rfl rfl (fun w hh => gramOf_any (r := r) w (Rd.stays h _ hh) (Rd.stays h2 _ hh) (Rd.stays h3 _ hh) (Rd.stays h4 _ hh) hul)) rfl (fun _ _ h => by exact h) (fun _ _ => ?_); refine GE.ol 6 (by as_aux_lemma => kernel_rfl) rfl rfl (og_runs (rv_addB rfl rfl (by omega) (by omega))) rfl (fun _ _ h => by exact h) (fun _ _ => ?_); refine GE.t 7 (by as_aux_lemma => kernel_rfl) rfl rfl rfl (og_runs (rv_assign rfl)) rfl (fun _ _ => ?_); refine GE.done (by as_aux_lemma => kernel_rfl) ?_; refine G.thenN (G.ret ?_)
        exact G.retFV rfl rfl (congrArg (Value.int .i64) (by rw [grossM, if_pos hyes]))
end Go.Proofs.YtglpgohilfoecaaGreat

/-
  Plans that are right.
-/
namespace Go.Proofs.YtglpgohilfoecaaGreat
open Go.RowKit
attribute [local irreducible] Go.wpList Go.Code.wp Go.Exit.then Go.Exit.inBlock Go.bodyPost Go.Calls pE pB G RunsV FnV Fn FnM
set_option maxRecDepth 100000

/-- The numbers of a list go up, and are in bounds: at one place. -/
def upAt (l : List Int) (i : Nat) : Bool := match l[i]? with
  | none => true
  | some u => inB u 0 999 && (match i with | 0 => true | j + 1 => match l[j]? with | none => true | some v => decide (v < u))
def upM (l : List Int) : Bool := decide (l.length ≤ 100) && (List.range l.length).all (upAt l)
def planAt (cs : List CartonM) (ss : List SpotM) (i : Nat) : Bool := match cs[i]?, ss[i]? with
  | some c, some s => (inB c.t 0 999 && inB c.g 0 3 && upM c.l) && inB s.p 0 2000 && inB s.x 0 2000 && inB s.y 0 2000 && inB s.z 0 2000
  | _, _ => true
def planOkM (cs : List CartonM) (ss : List SpotM) : Bool := decide (ss.length = cs.length) && decide (cs.length ≤ 100) && (List.range cs.length).all (planAt cs ss)
end Go.Proofs.YtglpgohilfoecaaGreat

/-
  Plans that are alike, and what lies on a pallet.
-/
namespace Go.Proofs.YtglpgohilfoecaaGreat
open Go.RowKit
attribute [local irreducible] Go.wpList Go.Code.wp Go.Exit.then Go.Exit.inBlock Go.bodyPost Go.Calls pE pB G RunsV FnV Fn FnM
set_option maxRecDepth 100000
set_option maxHeartbeats 1000000
end Go.Proofs.YtglpgohilfoecaaGreat

/-
  What lies on a pallet.
-/
namespace Go.Proofs.YtglpgohilfoecaaGreat
open Go.RowKit
attribute [local irreducible] Go.wpList Go.Code.wp Go.Exit.then Go.Exit.inBlock Go.bodyPost Go.Calls pE pB G RunsV FnV Fn FnM
set_option maxRecDepth 100000
set_option maxHeartbeats 1000000
def onP (k : Int) (s : SpotM) : Bool := decide (s.p = k)
def onPalletM (n : Nat) (ss : List SpotM) (k : Int) : List Int := if ss.length = n then whereG (onP k) ss else []
end Go.Proofs.YtglpgohilfoecaaGreat

/-
  What a pallet weighs: both ways, and the law.
-/
namespace Go.Proofs.YtglpgohilfoecaaGreat
open Go.RowKit
attribute [local irreducible] Go.wpList Go.Code.wp Go.Exit.then Go.Exit.inBlock Go.bodyPost Go.Calls pE pB G RunsV FnV Fn FnM
set_option maxRecDepth 100000
set_option maxHeartbeats 4000000
def grossAt (r : ReqM) (cs : List CartonM) (i : Int) : Int := match cs[i.toNat]? with | some c => grossM r c | none => 0
def palletGramM (r : ReqM) (cs : List CartonM) (ss : List SpotM) (z : Int) : Int := ((onPalletM cs.length ss z).map (grossAt r cs)).sum
theorem gross_in {r : ReqM} {x : CartonM} (hl : x.l.length ≤ 1048576) : 0 ≤ grossM r x ∧ grossM r x ≤ 104857700000 := by
  have h1 := gram_in r x.l
  rw [grossM]
  split
  · rename_i h
    have := type_at_in h
    omega
  · omega
section
variable {r : ReqM} {pv tv iv cv sv : Value} {cs : List (CartonM × Value)} {ss : List SpotM} {z : Int} (w : World) (h : Rd w pv 2 (r.pairs.map PairM.cells)) (h2 : Rd w tv 7 (r.types.map TypeM.cells)) (h3 : Rd w iv 7 (r.items.map ItemM.cells)) (h4 : Rd w cv 3 (cs.map CartonM.cells)) (hs : Subs w CartonM.l cs) (h5 : Rd w sv 4 (ss.map SpotM.cells)) (hb : ss.length ≤ 1048576) (hcs : ∀ c ∈ cs.map Prod.fst, c.l.length ≤ 1048576)
include h h2 h3 h4 hs h5 hb hcs
end
end Go.Proofs.YtglpgohilfoecaaGreat

/-
  Whether a carton's type holds units; the cheapest that does: both ways.
-/
namespace Go.Proofs.YtglpgohilfoecaaGreat
open Go.RowKit
attribute [local irreducible] Go.wpList Go.Code.wp Go.Exit.then Go.Exit.inBlock Go.bodyPost Go.Calls pE pB G RunsV FnV Fn FnM
set_option maxRecDepth 100000
set_option maxHeartbeats 4000000
def unitFits (r : ReqM) (t : TypeM) (u : Int) : Bool := match itemAt r u with | some x => fitsM x t | none => false
def holdM (r : ReqM) (c : List Int) (t : TypeM) : Bool := decide (classM r = 0) && (c.all (unitFits r t) && withinT r c t)
theorem here_item (r : ReqM) (u : Int) : hereM r u = (itemAt r u).isSome := by
  by_cases h : hereM r u = true
  · obtain ⟨_, _, x, _, _, _, hx⟩ := item_in (r := r) (u := u) (by rw [List.length_map]; exact h)
    rw [h, hx]; rfl
  · have hx := item_out (r := r) (u := u) (by rw [List.length_map]; exact h)
    rw [hx]; simpa using h
theorem unitFits_eq (r : ReqM) (t : TypeM) (u : Int) : unitFits r t u = ((itemAt r u).isSome && fitsM (itemOr r u) t) := by
  rw [unitFits, itemOr]; cases itemAt r u <;> rfl
theorem all_fit (r : ReqM) (t : TypeM) : ∀ c : List Int, c.all (unitFits r t) = (decide ((thereM r c).length = c.length) && (itemsM r c).all fun x => fitsM x t)
  | [] => rfl
  | u :: c => by
    have ih := all_fit r t c
    have hl := thereM_len r c
    have hh := here_item r u
    cases hx : itemAt r u with
    | none =>
      rw [hx] at hh
      have e1 : unitFits r t u = false := by rw [unitFits, hx]
      have e2 : thereM r (u :: c) = thereM r c := by rw [thereM, List.filter_cons, hh]; rfl
      have e3 : ¬ (thereM r (u :: c)).length = (u :: c).length := by rw [e2, List.length_cons]; omega
      rw [List.all_cons, e1, decide_eq_false e3]; rfl
    | some x =>
      rw [hx] at hh
      have e1 : unitFits r t u = fitsM x t := by rw [unitFits, hx]
      have e2 : thereM r (u :: c) = u :: thereM r c := by rw [thereM, List.filter_cons, hh]; rfl
      have e3 : itemsM r (u :: c) = x :: itemsM r c := by simp only [itemsM, List.filterMap_cons, hx]
      have e4 : decide ((thereM r (u :: c)).length = (u :: c).length) = decide ((thereM r c).length = c.length) := by rw [e2]; simp
      rw [List.all_cons, e1, ih, e4, e3, List.all_cons]
      cases fitsM x t <;> cases decide ((thereM r c).length = c.length) <;> rfl
theorem hold_no {r : ReqM} {c : List Int} {t : TypeM} (h : ¬ classM r = 0) : holdM r c t = false := by rw [holdM, decide_eq_false h, Bool.false_and]
theorem hold_short {r : ReqM} {c : List Int} {t : TypeM} (h : ¬ (thereM r c).length = c.length) : holdM r c t = false := by rw [holdM, all_fit, decide_eq_false h, Bool.false_and, Bool.false_and, Bool.and_false]
theorem hold_long {r : ReqM} {c : List Int} {t : TypeM} (hc : classM r = 0) (h : (thereM r c).length = c.length) : holdM r c t = (((itemsM r c).all fun x => fitsM x t) && withinT r c t) := by rw [holdM, all_fit, decide_eq_true h, decide_eq_true hc, Bool.true_and, Bool.true_and]
theorem hold_at {r : ReqM} {c : List Int} {t : TypeM} {k : Nat} {u : Int} (hb : c[k]? = some u) (h : unitFits r t u = false) : holdM r c t = false := by
  rw [holdM, all_no hb h, Bool.false_and, Bool.and_false]
theorem hold_all {r : ReqM} {c : List Int} {t : TypeM} (hc : classM r = 0) (h : c.all (unitFits r t) = true) : holdM r c t = withinT r c t := by rw [holdM, decide_eq_true hc, h, Bool.true_and, Bool.true_and]
theorem holds1_any (t : TypeM) (x : ItemM) {q : Nat} (w : World) (h : Rd w (.slice (some ⟨q, 0, none⟩) 1 1) 7 [t.cells]) : FnV Tryz.prog 141 [.agg (ItemM.cells x).toArray, pB q 0] w (.bool (!fitsM x t)) := by
  rw [pB_eq_pE q 7]
  refine FnV.of (n := 8) Tryz.func141 rfl rfl ?_; refine G.seq (G.region ?_); refine G.op (og_box rfl rfl) rfl (fun bk2 _ => ?_); refine G.v (rv_assign rfl) rfl (G.done (G.thenN (G.seq (G.region (G.v (rv_loadW 0 rfl rfl rfl) rfl ?_))))); refine G.v (rv_loadEW rfl (by exact Rd.stays (by assumption)) rfl rfl) rfl ?_; refine G.op (og_callV rfl rfl (fun w _ => fits_any x t w)) rfl (fun _ _ => ?_); refine G.v (rv_not rfl) rfl (G.v (rv_assign rfl) rfl (G.done (G.thenN (G.ret ?_))))
  exact G.retFV rfl rfl rfl
section
variable {r : ReqM} {pv tv iv uv : Value} {us : List Int} (w : World) (h : Rd w pv 2 (r.pairs.map PairM.cells)) (h2 : Rd w tv 7 (r.types.map TypeM.cells)) (h3 : Rd w iv 7 (r.items.map ItemM.cells)) (h4 : Rd w uv 1 (us.map icell)) (hul : us.length ≤ 1048576)
include h h2 h3 h4 hul
theorem holds_any (t : TypeM) : FnV Tryz.prog 79 [.agg (r.cells pv tv iv).toArray, uv, t.val] w (.bool (holdM r us t)) := by
  have hul2 : (us.map icell).length = us.length := by simp
  have htl2 : ((thereM r us).map icell).length = (thereM r us).length := by simp
  obtain ⟨B, hB⟩ : ∃ B, B = (itemsM r us).all fun x => fitsM x t := ⟨_, rfl⟩
  refine FnV.of (n := 31) Tryz.func79 rfl rfl ?_; refine G.seq (G.region ?_); refine G.op (og_box rfl rfl) rfl (fun bk3 _ => ?_); refine G.op (og_box rfl rfl) rfl (fun bk5 _ => ?_); refine G.v (rv_assign rfl) rfl (G.done (G.thenN (G.seq (G.seq (G.region (G.v (rv_loadW 1 rfl rfl rfl) rfl ?_)))))); refine G.op (og_callV rfl rfl (fun w hh => sound_any (r := r) w (Rd.stays h _ hh) (Rd.stays h2 _ hh) (Rd.stays h3 _ hh))) rfl (fun _ _ => ?_); refine G.v (rv_not rfl) rfl (G.v (rv_move rfl) rfl ?_)
  all_goals (((with_reducible refine G.gP rfl rfl (fun hg => ?_) (fun hg => ?_)) <;> (try exact Bool.noConfusion hg) <;> (first | (refine G.gY rfl rfl ?_; (refine G.v (rv_loadW 1 rfl rfl rfl) rfl ?_)) | refine G.gN rfl rfl rfl ?_)))
  all_goals ((first | (refine G.gY rfl rfl ?_; refine G.v (rv_move rfl) rfl ?_) | refine G.gN rfl rfl rfl ?_))
  all_goals ((first | (refine G.gY rfl rfl ?_; (refine G.op (og_callF1 rfl rfl (fun w hh => thereOf_any (r := r) (us := us) w (Rd.stays h _ hh) (Rd.stays h2 _ hh) (Rd.stays h3 _ hh) (Rd.stays h4 _ hh) hul)) rfl ?_; rintro vt hvt; try dsimp only)) | refine G.gN rfl rfl rfl ?_ | refine G.gU rfl rfl rfl ?_))
  all_goals ((first | (refine G.gY rfl rfl ?_; refine G.v (rv_len rfl (by exact Rd.owned 0 rfl)) rfl ?_) | refine G.gN rfl rfl rfl ?_))
  all_goals ((first | (refine G.gY rfl rfl ?_; refine G.v (rv_move rfl) rfl ?_) | refine G.gN rfl rfl rfl ?_))
  all_goals ((first | (refine G.gY rfl rfl ?_; refine G.v (rv_len rfl (by exact Rd.stays (by assumption))) rfl ?_) | refine G.gN rfl rfl rfl ?_))
  all_goals ((first | (refine G.gY rfl rfl ?_; refine G.v (rv_neq rfl rfl) rfl ?_) | refine G.gN rfl rfl rfl ?_))
  all_goals ((first | refine G.v (rv_pickT rfl rfl) rfl ?_ | refine G.v (rv_pickF rfl rfl) rfl ?_))
  all_goals
   refine G.done (G.thenN ?_); refine G.cond rfl (fun hc => ?_) (fun hc => ?_)
   · try exact Bool.noConfusion hc
     all_goals
      try replace hc := of_decide_eq_true hc
      try (exfalso; contradiction)
      all_goals
       have hbad : holdM r us t = false := (by first | exact hold_no (by simpa using hg) | exact hold_short (by simp only [hul2, htl2] at hc; omega))
       all_goals
        refine G.seq (G.region (G.v (rv_assign rfl) rfl (G.done (G.thenN (G.ret (G.thenR ?_))))))
        first | exact G.retFV rfl rfl (congrArg Value.bool hbad.symm) | (refine G.retFV rfl rfl (congrArg Value.bool ?_); rw [hgood]; cases B <;> simp_all; done)
   · try exact Bool.noConfusion hc
     all_goals
      try replace hc := of_decide_eq_false hc
      try (exfalso; contradiction)
      all_goals
       have hyes : classM r = 0 := by simpa using hg
       have hsame : (thereM r us).length = us.length := (by simp only [hul2, htl2] at hc; omega)
       have hgood := hold_long (t := t) hyes hsame
       rw [← hB] at hgood
       all_goals
        refine G.skip (G.thenN (G.seq (G.region (G.v (rv_loadW 2 rfl rfl rfl) rfl (G.v (rv_move rfl) rfl ?_)))))
        (refine G.op (og_callF1 rfl rfl (fun w hh => itemsOf_any (r := r) (us := us) w (Rd.stays h _ hh) (Rd.stays h2 _ hh) (Rd.stays h3 _ hh) (Rd.stays h4 _ hh) hul)) rfl ?_; rintro vs hvs; try dsimp only)
        refine G.v (rv_makeFunc rfl rfl) rfl ?_; refine G.op (og_callV rfl rfl (fun w hh => (containsItem_any (l := itemsM r us) (p := fun x => !fitsM x t) w (by exact Rd.owned 0 rfl _ hh) (fun w' j c hw hb => holds1_any t c w' (Rd.stays (by exact Rd.ofBlk 2 rfl rfl w hh) w' hw))).mono (congrArg Value.bool (any_not.trans (by rw [← hB]))))) rfl (fun _ _ => ?_); refine G.v (rv_not rfl) rfl (G.v (rv_move rfl) rfl ?_)
        all_goals (((with_reducible refine G.gP rfl rfl (fun hg => ?_) (fun hg => ?_)) <;> (try exact Bool.noConfusion hg) <;> (first | (refine G.gY rfl rfl ?_; (refine G.v (rv_loadW 3 rfl rfl rfl) rfl ?_)) | refine G.gN rfl rfl rfl ?_)))
        all_goals ((first | (refine G.gY rfl rfl ?_; refine G.v (rv_move rfl) rfl ?_) | refine G.gN rfl rfl rfl ?_))
        all_goals ((first | (refine G.gY rfl rfl ?_; (refine G.v (rv_loadW 2 rfl rfl rfl) rfl ?_)) | refine G.gN rfl rfl rfl ?_))
        all_goals ((first | (refine G.gY rfl rfl ?_; refine G.op (og_callV rfl rfl (fun w hh => within_any (r := r) (us := us) w (Rd.stays h _ hh) (Rd.stays h2 _ hh) (Rd.stays h3 _ hh) (Rd.stays h4 _ hh) hul t)) rfl (fun _ _ => ?_)) | refine G.gN rfl rfl rfl ?_))
        all_goals ((first | refine G.v (rv_pickT rfl rfl) rfl ?_ | refine G.v (rv_pickF rfl rfl) rfl ?_))
        all_goals (refine G.v (rv_assign rfl) rfl ?_)
        all_goals
         refine G.done (G.thenN (G.ret ?_))
         first | exact G.retFV rfl rfl (congrArg Value.bool hbad.symm) | (refine G.retFV rfl rfl (congrArg Value.bool ?_); rw [hgood]; cases B <;> simp_all; done)
theorem sholds_any (t : TypeM) : FnV Tryz.prog 136 [.agg (r.cells pv tv iv).toArray, uv, t.val] w (.bool (holdM r us t)) := by
  have hul2 : (us.map icell).length = us.length := by simp
  refine FnV.of (n := 62) Tryz.func136 rfl rfl ?_; refine G.seq (G.region ?_); refine G.op (og_box rfl rfl) rfl (fun bk3 _ => ?_); refine G.op (og_box rfl rfl) rfl (fun bk5 _ => ?_); refine G.v (rv_assign rfl) rfl (G.done (G.thenN (G.seq (G.seq (G.region (G.v (rv_loadW 1 rfl rfl rfl) rfl ?_)))))); refine G.op (og_callV rfl rfl (fun w hh => sclass_any (r := r) w (Rd.stays h _ hh) (Rd.stays h2 _ hh) (Rd.stays h3 _ hh))) rfl (fun _ _ => ?_); refine G.v (rv_neq rfl rfl) rfl (G.done (G.thenN ?_)); refine G.cond rfl (fun hc => ?_) (fun hc => ?_)
  · try exact Bool.noConfusion hc
    all_goals
     try replace hc := of_decide_eq_true hc
     try simp only [hul2] at hc
     try (exfalso; contradiction)
     all_goals
      have hbad := hold_no (r := r) (c := us) (t := t) hc
      all_goals
       refine G.seq (G.region (G.v (rv_assign rfl) rfl (G.done (G.thenN (G.ret (G.thenR ?_))))))
       exact G.retFV rfl rfl (congrArg Value.bool hbad.symm)
  · try exact Bool.noConfusion hc
    all_goals
     try replace hc := of_decide_eq_false hc
     try simp only [hul2] at hc
     try (exfalso; contradiction)
     all_goals
      have hyes : classM r = 0 := by omega
      all_goals
       refine G.skip (G.thenN (G.seq (G.region (G.v (rv_loadW 1 rfl rfl rfl) rfl ?_))))
       (refine G.op (og_callF1 rfl rfl (fun w hh => by have q := sl6Units_any (r := r) (pv := pv) (tv := tv) w (bounds_items (cls_sound hyes)) (bounds_lens (cls_sound hyes)).1 (Rd.stays h3 _ hh); rw [← unitsM_yes hyes] at q; exact q)) rfl ?_; rintro vu hvu; try dsimp only)
       refine G.v (rv_assign rfl) rfl (G.done (G.thenN (G.seq (G.seq (G.region (G.v (rv_assign rfl) rfl (G.done (G.thenN (G.block ?_)))))))))
       -- loop 0: turned [8], kept [1, 3, 5, 7]
       refine G.loopK (ι := Nat) (ks := [1, 3, 5, 7]) (fun k => [(8, .int .i64 k)]) (fun _ => []) (fun k => k ≤ us.length ∧ (us.take k).all (unitFits r t) = true) (fun k => us.length - k) 0 (.cons rfl (.cons rfl (.cons rfl (.cons rfl (.nil))))) rfl ?_ ?_ ?_
       · exact ⟨Nat.zero_le _, rfl⟩
       · exact ⟨rfl, trivial⟩
       rintro k ⟨hk, ht⟩
       by_cases hlt : k < us.length
       case' pos => (obtain ⟨u, hb⟩ := get_of_lt hlt; have e1 := get_map hb icell; obtain ⟨A, hA⟩ : ∃ A, A = (itemAt r u).isSome := ⟨_, rfl⟩; obtain ⟨B, hB⟩ : ∃ B, B = fitsM (itemOr r u) t := ⟨_, rfl⟩; have hAB : unitFits r t u = (A && B) := (by rw [unitFits_eq, hA, hB]))
       case' neg => (have hgood := hold_all (t := t) hyes (all_end ht hlt))
       all_goals
        refine G.seq (G.seq (G.region (G.v (rv_move rfl) rfl (G.v (rv_move rfl) rfl ?_)))); refine G.v (rv_len rfl (by exact Rd.stays (by assumption))) rfl ?_; refine G.v (rv_lss rfl rfl) rfl (G.done (G.thenN ?_)); refine G.cond rfl (fun hc => ?_) (fun hc => ?_)
        · try exact Bool.noConfusion hc
          all_goals
           try replace hc := of_decide_eq_true hc
           try simp only [hul2] at hc
           try (exfalso; omega)
           all_goals
            refine G.skip (G.thenN (G.seq (G.block (G.seq ?_)))); refine G.drawL [12] ?_; refine GE.q 0 rfl (by as_aux_lemma => kernel_rfl) rfl (qg_runs (rv_loadW 2 rfl rfl rfl)) rfl ?_; refine GE.q 1 rfl (by as_aux_lemma => kernel_rfl) rfl (qg_runs (rv_move rfl)) rfl ?_; refine GE.q 2 rfl (by as_aux_lemma => kernel_rfl) rfl (qg_runs (rv_move rfl)) rfl ?_; refine GE.q 3 rfl (by as_aux_lemma => kernel_rfl) rfl (qg_runs (rv_move rfl)) rfl ?_; refine GE.q 4 rfl (by as_aux_lemma => kernel_rfl) rfl (qg_runs (rv_indexH rfl rfl (by exact Rd.stays (by assumption)) rfl (by exact e1))) rfl ?_; refine GE.q 5 rfl (by as_aux_lemma => kernel_rfl) rfl (qg_runs (rv_loadE rfl (by exact Rd.stays (by assumption)) (by exact e1) rfl)) rfl ?_; refine GE.q 6 rfl (by as_aux_lemma => kernel_rfl) rfl (qg_call rfl rfl (fun w hh => (l6Item_any (r := r) u w (Rd.stays h3 _ hh) (by exact Rd.owned 0 rfl _ hh)).mono (show _ = Value.tuple #[(itemOr r u).val, .bool A] by rw [hA]))) rfl ?_; refine GE.q 7 rfl (by as_aux_lemma => kernel_rfl) rfl (qg_runs (rv_move rfl)) rfl ?_; refine GE.q 8 rfl (by as_aux_lemma => kernel_rfl) rfl (qg_runs (rv_extract rfl rfl)) rfl ?_; refine GE.q 9 rfl (by as_aux_lemma => kernel_rfl) rfl (qg_runs (rv_extract rfl rfl)) rfl ?_; refine GE.ol 10 (by as_aux_lemma => kernel_rfl) rfl rfl (og_alloc) rfl (fun _ _ h => by exact h.drop 1) (fun bk9 _ => ?_)
            refine GE.ol0 11 (by as_aux_lemma => kernel_rfl) rfl rfl (og_st0 rfl rfl rfl rfl rfl rfl (.zero (.cons (.cons (.cons (.cons (.cons (.cons (.cons .nil))))))))) (fun _ _ h => by exact h.drop 1) (fun _ _ => ?_); refine GE.t 12 (by as_aux_lemma => kernel_rfl) rfl rfl rfl (og_runs (rv_assign rfl)) rfl (fun _ _ => ?_); refine GE.done (by as_aux_lemma => kernel_rfl) ?_; refine G.thenN (G.seq (G.region (G.v (rv_move rfl) rfl (G.v (rv_not rfl) rfl (G.v (rv_move rfl) rfl ?_)))))
            all_goals (((with_reducible refine G.gP rfl rfl (fun hg => ?_) (fun hg => ?_)) <;> (try exact Bool.noConfusion hg) <;> (first | (refine G.gY rfl rfl ?_; (refine G.v (rv_loadW 0 rfl rfl rfl) rfl ?_)) | refine G.gN rfl rfl rfl ?_)))
            all_goals ((first | (refine G.gY rfl rfl ?_; (refine G.v (rv_loadW 2 rfl rfl rfl) rfl ?_)) | refine G.gN rfl rfl rfl ?_))
            all_goals ((first | (refine G.gY rfl rfl ?_; refine G.op (og_callV rfl rfl (fun w _ => (sfits_any (itemOr r u) t w).mono (congrArg Value.bool hB.symm))) rfl (fun _ _ => ?_)) | refine G.gN rfl rfl rfl ?_))
            all_goals ((first | (refine G.gY rfl rfl ?_; refine G.v (rv_not rfl) rfl ?_) | refine G.gN rfl rfl rfl ?_))
            all_goals ((first | refine G.v (rv_pickT rfl rfl) rfl ?_ | refine G.v (rv_pickF rfl rfl) rfl ?_))
            all_goals
             refine G.done (G.thenN ?_); refine G.cond rfl (fun hc => ?_) (fun hc => ?_)
             · try exact Bool.noConfusion hc
               all_goals
                try replace hc := of_decide_eq_true hc
                try simp only [hul2] at hc
                try (exfalso; contradiction)
                all_goals
                 have hbad := hold_at (t := t) hb (by rw [hAB]; cases A <;> cases B <;> simp_all)
                 all_goals
                  refine G.seq (G.region (G.v (rv_assign rfl) rfl (G.done (G.thenN (G.ret (G.inR (G.thenR (G.thenR (G.inR (G.thenR ?_))))))))))
                  exact G.retFV rfl rfl (congrArg Value.bool hbad.symm)
             · try exact Bool.noConfusion hc
               all_goals
                try replace hc := of_decide_eq_false hc
                try simp only [hul2] at hc
                try (exfalso; contradiction)
                all_goals
                 have hfit : unitFits r t u = true := (by rw [hAB]; cases A <;> cases B <;> simp_all)
                 all_goals
                  refine G.skip (G.inN (G.thenN (G.region (G.v (rv_move rfl) rfl ?_)))); refine G.v (rv_incr rfl rfl (by omega)) rfl ?_; refine G.v (rv_assign rfl) rfl (G.done ?_); refine G.backK (k + 1) 1 rfl (.cons rfl (.cons rfl (.cons rfl (.cons rfl (.nil))))) ?_ ?_ ?_
                  · exact ⟨rfl, trivial⟩
                  · exact ⟨hlt, all_next ht hb hfit⟩
                  · omega
        · try exact Bool.noConfusion hc
          all_goals
           try replace hc := of_decide_eq_false hc
           try simp only [hul2] at hc
           try (exfalso; omega)
           all_goals
            refine G.exit (G.thenX (G.thenX (G.inX (G.thenN (G.seq (G.region (G.v (rv_loadW 2 rfl rfl rfl) rfl (G.v (rv_move rfl) rfl (G.v (rv_move rfl) rfl ?_)))))))))
            (refine G.op (og_callF0 rfl rfl (fun w hh => (l7Of_any (r := r) (us := us) w (Rd.stays h3 _ hh) (Rd.stays h4 _ hh) hul (by exact Rd.owned 0 rfl _ hh)).toFn)) rfl ?_; rintro ⟨⟩ _; try dsimp only)
            refine G.op (og_alloc) rfl (fun bk11 _ => ?_); refine G.op0 (og_st0 rfl rfl rfl rfl rfl rfl (.zero (.cons (.cons .nil)))) (fun _ _ => ?_); refine G.done (G.thenN (G.seq ?_)); refine G.drawL [17] ?_; refine GE.q 0 rfl (by as_aux_lemma => kernel_rfl) rfl (qg_runs (rv_field rfl)) rfl ?_; refine GE.q 1 rfl (by as_aux_lemma => kernel_rfl) rfl (qg_runs (rv_load1 0 rfl rfl rfl)) rfl ?_; refine GE.q 2 rfl (by as_aux_lemma => kernel_rfl) rfl (qg_runs (rv_field rfl)) rfl ?_; refine GE.q 3 rfl (by as_aux_lemma => kernel_rfl) rfl (qg_runs (rv_load1 2 rfl rfl rfl)) rfl ?_; refine GE.q 4 rfl (by as_aux_lemma => kernel_rfl) rfl (qg_runs (rv_field rfl)) rfl ?_; refine GE.q 5 rfl (by as_aux_lemma => kernel_rfl) rfl (qg_runs (rv_load1 2 rfl rfl rfl)) rfl ?_; refine GE.ol 6 (by as_aux_lemma => kernel_rfl) rfl rfl (og_runs (rv_field rfl)) rfl (fun _ _ h => by exact h) (fun _ _ => ?_); refine GE.ol 7 (by as_aux_lemma => kernel_rfl) rfl rfl (og_runs (rv_load1 2 rfl rfl rfl)) rfl (fun _ _ h => by exact h) (fun _ _ => ?_); refine GE.ol 8 (by as_aux_lemma => kernel_rfl) rfl rfl (og_callV rfl rfl (fun w hh => svolume_any t.w t.h t.d w)) rfl (fun _ _ h => by exact h) (fun _ _ => ?_); refine GE.ol 9 (by as_aux_lemma => kernel_rfl) rfl rfl (og_runs (rv_leq rfl rfl)) rfl (fun _ _ h => by exact h) (fun _ _ => ?_); refine GE.ol 10 (by as_aux_lemma => kernel_rfl) rfl rfl (og_runs (rv_move rfl)) rfl (fun _ _ h => by exact h) (fun _ _ => ?_)
            all_goals (((with_reducible refine GE.part (t := 55) rfl (fun hg => ?_) (fun hg => ?_)) <;> (try exact Bool.noConfusion hg) <;> (first | (refine GE.q 11 rfl (by as_aux_lemma => kernel_rfl) rfl (qg_runs (rv_field rfl)) rfl ?_) | refine GE.qn 11 rfl (by as_aux_lemma => kernel_rfl) rfl rfl ?_)))
            all_goals ((first | (refine GE.q 12 rfl (by as_aux_lemma => kernel_rfl) rfl (qg_runs (rv_load1 0 rfl rfl rfl)) rfl ?_) | refine GE.qn 12 rfl (by as_aux_lemma => kernel_rfl) rfl rfl ?_))
            all_goals ((first | (refine GE.q 13 rfl (by as_aux_lemma => kernel_rfl) rfl (qg_runs (rv_field rfl)) rfl ?_) | refine GE.qn 13 rfl (by as_aux_lemma => kernel_rfl) rfl rfl ?_))
            all_goals ((first | (refine GE.q 14 rfl (by as_aux_lemma => kernel_rfl) rfl (qg_runs (rv_load1 2 rfl rfl rfl)) rfl ?_) | refine GE.qn 14 rfl (by as_aux_lemma => kernel_rfl) rfl rfl ?_))
            all_goals ((first | refine GE.q 15 rfl (by as_aux_lemma => kernel_rfl) rfl (qg_runs (rv_leq rfl rfl)) rfl ?_ | refine GE.qn 15 rfl (by as_aux_lemma => kernel_rfl) rfl rfl ?_))
            all_goals ((first | refine GE.ol 16 (by as_aux_lemma => kernel_rfl) rfl rfl (og_runs (rv_pickT rfl rfl)) rfl (fun _ _ h => by exact h) (fun _ _ => ?_) | refine GE.ol 16 (by as_aux_lemma => kernel_rfl) rfl rfl (og_runs (rv_pickF rfl rfl)) rfl (fun _ _ h => by exact h) (fun _ _ => ?_)))
            all_goals (refine GE.t 17 (by as_aux_lemma => kernel_rfl) rfl rfl rfl (og_runs (rv_assign rfl)) rfl (fun _ _ => ?_))
            all_goals
             refine GE.done (by as_aux_lemma => kernel_rfl) ?_; refine G.thenN (G.ret ?_)
             first | (refine G.retFV rfl rfl (congrArg Value.bool ?_); rw [hgood]; simp_all [withinT]; done) | (refine G.retFV rfl rfl (congrArg Value.bool ?_); rw [hgood]; simp_all [withinT]; intro hq9; omega)
end
def betterM (a : TypeM × Bool) (t : TypeM) : Bool := !a.2 || decide (t.cost < a.1.cost) || (decide (t.cost = a.1.cost) && decide (t.id < a.1.id))
def cheapStep (r : ReqM) (c : List Int) (a : TypeM × Bool) (t : TypeM) : TypeM × Bool := if holdM r c t && betterM a t then (t, true) else a
/-- The cheapest type that holds units. -/
def cheapM (r : ReqM) (c : List Int) : TypeM × Bool := r.types.foldl (cheapStep r c) (typeZ, false)
theorem cheap_yes {r : ReqM} {c : List Int} {k : Nat} {t : TypeM} {a : TypeM × Bool} (hb : r.types[k]? = some t) (ha : (r.types.take k).foldl (cheapStep r c) (typeZ, false) = a) (h : holdM r c t = true) (h2 : betterM a t = true) : (r.types.take (k + 1)).foldl (cheapStep r c) (typeZ, false) = (t, true) := by
  rw [foldl_take_succ hb, ha, cheapStep, h, h2]; rfl
theorem cheap_no {r : ReqM} {c : List Int} {k : Nat} {t : TypeM} {a : TypeM × Bool} (hb : r.types[k]? = some t) (ha : (r.types.take k).foldl (cheapStep r c) (typeZ, false) = a) (h : (holdM r c t && betterM a t) = false) : (r.types.take (k + 1)).foldl (cheapStep r c) (typeZ, false) = a := by
  rw [foldl_take_succ hb, ha, cheapStep, h]; rfl
section
variable {r : ReqM} {pv tv iv uv : Value} {us : List Int} (w : World) (h : Rd w pv 2 (r.pairs.map PairM.cells)) (h2 : Rd w tv 7 (r.types.map TypeM.cells)) (h3 : Rd w iv 7 (r.items.map ItemM.cells)) (h4 : Rd w uv 1 (us.map icell)) (hul : us.length ≤ 1048576)
include h h2 h3 h4 hul
theorem cheapest_any : FnV Tryz.prog 23 [.agg (r.cells pv tv iv).toArray, uv] w (.tuple #[(cheapM r us).1.val, .bool (cheapM r us).2]) := by
  have hle := h2.le_map
  have hln : (r.types.map TypeM.cells).length = r.types.length := by simp
  refine FnV.of (n := 50) Tryz.func23 rfl rfl ?_; refine G.seq (G.region ?_); refine G.op (og_box rfl rfl) rfl (fun bk2 _ => ?_); refine G.op (og_alloc) rfl (fun bk4 _ => ?_); refine G.v (rv_assign rfl) rfl (G.done (G.thenN (G.seq (G.region ?_)))); refine G.v (rv_build2 rfl .nil .nil) rfl ?_; refine G.op (og_alloc) rfl (fun bk6 _ => ?_); refine G.op0 (og_st0 rfl rfl rfl rfl rfl rfl (.zero (.cons (.cons (.cons (.cons (.cons (.cons (.cons .nil))))))))) (fun _ _ => ?_); refine G.v (rv_assign rfl) rfl (G.done (G.thenN (G.seq (G.seq (G.region (G.v (rv_field rfl) rfl (G.v (rv_load1 2 rfl rfl rfl) rfl ?_))))))); refine G.v (rv_len rfl (by exact Rd.stays (by assumption))) rfl ?_; refine G.v (rv_move rfl) rfl (G.done (G.thenN (G.block ?_)))
  -- loop 0: turned [7, 14], kept [1, 2, 4, 6, 12, 13]
  refine G.loopK (ι := Nat × (TypeM × Bool)) (ks := [1, 2, 4, 6, 12, 13]) (fun x => [(7, .bool x.2.2), (14, .int .i64 (x.1 : Int))]) (fun x => [.blk bk6 56 x.2.1.cells]) (fun x => x.1 ≤ r.types.length ∧ (r.types.take x.1).foldl (cheapStep r us) (typeZ, false) = x.2) (fun x => r.types.length - x.1) (0, (typeZ, false)) (.cons rfl (.cons rfl (.cons rfl (.cons rfl (.cons rfl (.cons rfl (.nil))))))) rfl ?_ ?_ ?_
  · exact ⟨Nat.zero_le _, rfl⟩
  · exact ⟨rfl, rfl, trivial⟩
  rintro ⟨k, a⟩ ⟨hk, hM⟩
  dsimp only at hk hM ⊢
  by_cases hlt : k < r.types.length
  case' pos => (obtain ⟨b, hb⟩ := get_of_lt hlt; have he := get_map hb TypeM.cells)
  all_goals
   refine G.seq (G.region (G.v (rv_lss rfl rfl) rfl (G.done (G.thenN (G.seq ?_))))); refine G.cond rfl (fun hc => ?_) (fun hc => ?_)
   · try exact Bool.noConfusion hc
     all_goals
      try replace hc := of_decide_eq_true hc
      try simp only [hln] at hc
      try (exfalso; omega)
      all_goals
       refine G.skip (G.thenN (G.seq (G.block (G.seq (G.region ?_))))); refine G.v (rv_indexH rfl rfl (by exact Rd.stays (by assumption)) rfl (by exact he)) rfl ?_; refine G.v (rv_loadEW rfl (by exact Rd.stays (by assumption)) (by exact he) rfl) rfl ?_; refine G.op (og_alloc) rfl (fun bk9 _ => ?_); refine G.op0 (og_st0 rfl rfl rfl rfl rfl rfl (.zero (.cons (.cons (.cons (.cons (.cons (.cons (.cons .nil))))))))) (fun _ _ => ?_); refine G.done (G.thenN (G.seq (G.seq (G.region (G.v (rv_loadW 3 rfl rfl rfl) rfl (G.v (rv_move rfl) rfl (G.v (rv_loadW 0 rfl rfl rfl) rfl ?_))))))); refine G.op (og_callV rfl rfl (fun w hh => holds_any (r := r) (us := us) w (Rd.stays h _ hh) (Rd.stays h2 _ hh) (Rd.stays h3 _ hh) (Rd.stays h4 _ hh) hul b)) rfl (fun _ _ => ?_); refine G.v (rv_not rfl) rfl (G.done (G.thenN ?_)); refine G.cond rfl (fun hc => ?_) (fun hc => ?_)
       · try exact Bool.noConfusion hc
         all_goals
          try replace hc := of_decide_eq_true hc
          try simp only [hln] at hc
          try (exfalso; contradiction)
          all_goals
           have hst : (r.types.take (k + 1)).foldl (cheapStep r us) (typeZ, false) = a := cheap_no hb hM (by simp_all)
           all_goals
            refine G.exit (G.thenX (G.inX (G.thenN (G.region ?_)))); refine G.v (rv_incr rfl rfl (by omega)) rfl ?_; refine G.v (rv_move rfl) rfl (G.done ?_); refine G.frontB1 bk6 rfl ?_
            (refine G.keep1 1 rfl ?_; refine G.backK (k + 1, a) 0 rfl (.cons rfl (.cons rfl (.cons rfl (.cons rfl (.cons rfl (.cons rfl (.nil))))))) ?_ ?_ ?_)
            · exact ⟨rfl, rfl, trivial⟩
            · exact ⟨hlt, hst⟩
            · dsimp only; omega
       · try exact Bool.noConfusion hc
         all_goals
          try replace hc := of_decide_eq_false hc
          try simp only [hln] at hc
          try (exfalso; contradiction)
          all_goals
           have hho : holdM r us b = true := by simpa using hc
           all_goals
            refine G.skip (G.thenN (G.seq (G.region (G.v (rv_move rfl) rfl (G.v (rv_not rfl) rfl (G.v (rv_move rfl) rfl ?_))))))
            all_goals (((with_reducible refine G.gP rfl rfl (fun hg => ?_) (fun hg => ?_)) <;> (try exact Bool.noConfusion hg) <;> (first | (refine G.gY rfl rfl ?_; (refine G.v (rv_field rfl) rfl ?_)) | refine G.gN rfl rfl rfl ?_)))
            all_goals ((first | (refine G.gY rfl rfl ?_; (refine G.v (rv_load1 0 rfl rfl rfl) rfl ?_)) | refine G.gN rfl rfl rfl ?_))
            all_goals ((first | (refine G.gY rfl rfl ?_; (refine G.v (rv_field rfl) rfl ?_)) | refine G.gN rfl rfl rfl ?_))
            all_goals ((first | (refine G.gY rfl rfl ?_; (refine G.v (rv_load1 1 rfl rfl rfl) rfl ?_)) | refine G.gN rfl rfl rfl ?_))
            all_goals ((first | (refine G.gY rfl rfl ?_; refine G.v (rv_lss rfl rfl) rfl ?_) | refine G.gN rfl rfl rfl ?_))
            all_goals ((first | refine G.v (rv_pickT rfl rfl) rfl ?_ | refine G.v (rv_pickF rfl rfl) rfl ?_))
            all_goals (refine G.v (rv_move rfl) rfl ?_)
            all_goals (((with_reducible refine G.gP rfl rfl (fun hg => ?_) (fun hg => ?_)) <;> (try exact Bool.noConfusion hg) <;> (first | (refine G.gY rfl rfl ?_; (refine G.v (rv_field rfl) rfl ?_)) | refine G.gN rfl rfl rfl ?_)))
            all_goals ((first | (refine G.gY rfl rfl ?_; (refine G.v (rv_load1 0 rfl rfl rfl) rfl ?_)) | refine G.gN rfl rfl rfl ?_))
            all_goals ((first | (refine G.gY rfl rfl ?_; (refine G.v (rv_field rfl) rfl ?_)) | refine G.gN rfl rfl rfl ?_))
            all_goals ((first | (refine G.gY rfl rfl ?_; (refine G.v (rv_load1 1 rfl rfl rfl) rfl ?_)) | refine G.gN rfl rfl rfl ?_))
            all_goals ((first | (refine G.gY rfl rfl ?_; refine G.v (rv_eql rfl rfl) rfl ?_) | refine G.gN rfl rfl rfl ?_))
            all_goals ((first | (refine G.gY rfl rfl ?_; refine G.v (rv_move rfl) rfl ?_) | refine G.gN rfl rfl rfl ?_))
            all_goals ((first | refine G.gU rfl rfl rfl ?_ | ((with_reducible refine G.gP rfl rfl (fun hg => ?_) (fun hg => ?_)) <;> (try exact Bool.noConfusion hg) <;> (first | (refine G.gY rfl rfl ?_; (refine G.v (rv_field rfl) rfl ?_)) | refine G.gN rfl rfl rfl ?_))))
            all_goals ((first | (refine G.gY rfl rfl ?_; (refine G.v (rv_load1 0 rfl rfl rfl) rfl ?_)) | refine G.gN rfl rfl rfl ?_ | refine G.gU rfl rfl rfl ?_))
            all_goals ((first | (refine G.gY rfl rfl ?_; (refine G.v (rv_field rfl) rfl ?_)) | refine G.gN rfl rfl rfl ?_ | refine G.gU rfl rfl rfl ?_))
            all_goals ((first | (refine G.gY rfl rfl ?_; (refine G.v (rv_load1 1 rfl rfl rfl) rfl ?_)) | refine G.gN rfl rfl rfl ?_ | refine G.gU rfl rfl rfl ?_))
            all_goals ((first | (refine G.gY rfl rfl ?_; refine G.v (rv_lss rfl rfl) rfl ?_) | refine G.gN rfl rfl rfl ?_ | refine G.gU rfl rfl rfl ?_))
            all_goals ((first | (refine G.gY rfl rfl ?_; (first | refine G.v (rv_pickT rfl rfl) rfl ?_ | refine G.v (rv_pickF rfl rfl) rfl ?_)) | refine G.gN rfl rfl rfl ?_))
            all_goals ((first | refine G.v (rv_pickT rfl rfl) rfl ?_ | refine G.v (rv_pickF rfl rfl) rfl ?_))
            all_goals
             refine G.done (G.thenN ?_); refine G.cond rfl (fun hc => ?_) (fun hc => ?_)
             · try exact Bool.noConfusion hc
               all_goals
                try replace hc := of_decide_eq_true hc
                try simp only [hln] at hc
                try (exfalso; contradiction)
                all_goals
                 have hbe : betterM a b = true := (by simp only [betterM]; (try simp only [decide_eq_true_eq, decide_eq_false_iff_not] at *); simp_all <;> omega)
                 have hst := cheap_yes hb hM hho hbe
                 all_goals
                  refine G.region (G.v (rv_loadW 0 rfl rfl rfl) rfl ?_); refine G.op0 (og_st1 rfl rfl rfl rfl rfl rfl (.zero (.cons (.cons (.cons (.cons (.cons (.cons (.cons .nil))))))))) (fun _ _ => ?_); refine G.v (rv_assign rfl) rfl (G.done (G.inN (G.thenN (G.region ?_)))); refine G.v (rv_incr rfl rfl (by omega)) rfl ?_; refine G.v (rv_move rfl) rfl (G.done ?_); refine G.frontB1 bk6 rfl ?_
                  (refine G.keep1 1 rfl ?_; refine G.backK (k + 1, (b, true)) 0 rfl (.cons rfl (.cons rfl (.cons rfl (.cons rfl (.cons rfl (.cons rfl (.nil))))))) ?_ ?_ ?_)
                  · exact ⟨rfl, rfl, trivial⟩
                  · exact ⟨hlt, hst⟩
                  · dsimp only; omega
             · try exact Bool.noConfusion hc
               all_goals
                try replace hc := of_decide_eq_false hc
                try simp only [hln] at hc
                try (exfalso; contradiction)
                all_goals
                 have hbe : betterM a b = false := (by simp only [betterM]; (try simp only [decide_eq_true_eq, decide_eq_false_iff_not] at *); simp_all <;> omega)
                 have hst : (r.types.take (k + 1)).foldl (cheapStep r us) (typeZ, false) = a := cheap_no hb hM (by rw [hbe, Bool.and_false])
                 all_goals
                  refine G.skip (G.inN (G.thenN (G.region ?_))); refine G.v (rv_incr rfl rfl (by omega)) rfl ?_; refine G.v (rv_move rfl) rfl (G.done ?_); refine G.frontB1 bk6 rfl ?_
                  (refine G.keep1 1 rfl ?_; refine G.backK (k + 1, a) 0 rfl (.cons rfl (.cons rfl (.cons rfl (.cons rfl (.cons rfl (.cons rfl (.nil))))))) ?_ ?_ ?_)
                  · exact ⟨rfl, rfl, trivial⟩
                  · exact ⟨hlt, hst⟩
                  · dsimp only; omega
   · try exact Bool.noConfusion hc
     all_goals
      try replace hc := of_decide_eq_false hc
      try simp only [hln] at hc
      try (exfalso; omega)
      all_goals
       refine G.exit (G.thenX (G.thenX (G.inX (G.thenN (G.seq (G.region (G.v (rv_loadW 0 rfl rfl rfl) rfl (G.v (rv_move rfl) rfl ?_)))))))); refine G.op0 (og_st1 rfl rfl rfl rfl rfl rfl (.zero (.cons (.cons (.cons (.cons (.cons (.cons (.cons .nil))))))))) (fun _ _ => ?_); refine G.v (rv_assign rfl) rfl (G.done (G.thenN (G.ret ?_)))
       have hfin : cheapM r us = a := (by rw [cheapM, ← hM, take_all (by omega)]); rw [hfin]; exact G.retVL rfl (.cons (by exact .cell 1 rfl rfl rfl) (.cons (.tmp rfl) .nil)) rfl
theorem scheapest_any : FnV Tryz.prog 75 [.agg (r.cells pv tv iv).toArray, uv] w (.tuple #[(cheapM r us).1.val, .bool (cheapM r us).2]) := by
  have hle := h2.le_map
  have hln : (r.types.map TypeM.cells).length = r.types.length := by simp
  refine FnV.of (n := 54) Tryz.func75 rfl rfl ?_; refine G.seq (G.region ?_); refine G.op (og_box rfl rfl) rfl (fun bk2 _ => ?_); refine G.op (og_alloc) rfl (fun bk4 _ => ?_); refine G.v (rv_assign rfl) rfl (G.done (G.thenN (G.seq (G.region ?_)))); refine G.v (rv_build2 rfl .nil .nil) rfl ?_; refine G.op (og_alloc) rfl (fun bk6 _ => ?_); refine G.op0 (og_st0 rfl rfl rfl rfl rfl rfl (.zero (.cons (.cons (.cons (.cons (.cons (.cons (.cons .nil))))))))) (fun _ _ => ?_); refine G.done (G.thenN (G.seq (G.region (G.v (rv_assign rfl) rfl (G.done (G.thenN (G.seq (G.seq (G.region (G.v (rv_assign rfl) rfl (G.done ?_))))))))))); refine G.thenN (G.block ?_)
  -- loop 0: turned [7, 8], kept [1, 2, 4, 6]
  refine G.loopK (ι := Nat × (TypeM × Bool)) (ks := [1, 2, 4, 6]) (fun x => [(7, .bool x.2.2), (8, .int .i64 (x.1 : Int))]) (fun x => [.blk bk6 56 x.2.1.cells]) (fun x => x.1 ≤ r.types.length ∧ (r.types.take x.1).foldl (cheapStep r us) (typeZ, false) = x.2) (fun x => r.types.length - x.1) (0, (typeZ, false)) (.cons rfl (.cons rfl (.cons rfl (.cons rfl (.nil))))) rfl ?_ ?_ ?_
  · exact ⟨Nat.zero_le _, rfl⟩
  · exact ⟨rfl, rfl, trivial⟩
  rintro ⟨k, a⟩ ⟨hk, hM⟩
  dsimp only at hk hM ⊢
  by_cases hlt : k < r.types.length
  case' pos => (obtain ⟨b, hb⟩ := get_of_lt hlt; have he := get_map hb TypeM.cells)
  all_goals
   refine G.seq (G.seq (G.region (G.v (rv_move rfl) rfl (G.v (rv_field rfl) rfl (G.v (rv_load1 2 rfl rfl rfl) rfl ?_))))); refine G.v (rv_len rfl (by exact Rd.stays (by assumption))) rfl ?_; refine G.v (rv_lss rfl rfl) rfl (G.done (G.thenN ?_)); refine G.cond rfl (fun hc => ?_) (fun hc => ?_)
   · try exact Bool.noConfusion hc
     all_goals
      try replace hc := of_decide_eq_true hc
      try simp only [hln] at hc
      try (exfalso; omega)
      all_goals
       refine G.skip (G.thenN (G.seq (G.block (G.seq (G.region (G.v (rv_field rfl) rfl (G.v (rv_load1 2 rfl rfl rfl) rfl (G.v (rv_move rfl) rfl ?_)))))))); refine G.v (rv_indexH rfl rfl (by exact Rd.stays (by assumption)) rfl (by exact he)) rfl ?_; refine G.v (rv_loadEW rfl (by exact Rd.stays (by assumption)) (by exact he) rfl) rfl ?_; refine G.op (og_alloc) rfl (fun bk9 _ => ?_); refine G.op0 (og_st0 rfl rfl rfl rfl rfl rfl (.zero (.cons (.cons (.cons (.cons (.cons (.cons (.cons .nil))))))))) (fun _ _ => ?_); refine G.done (G.thenN (G.seq (G.seq (G.region (G.v (rv_loadW 3 rfl rfl rfl) rfl (G.v (rv_move rfl) rfl (G.v (rv_loadW 0 rfl rfl rfl) rfl ?_))))))); refine G.op (og_callV rfl rfl (fun w hh => sholds_any (r := r) (us := us) w (Rd.stays h _ hh) (Rd.stays h2 _ hh) (Rd.stays h3 _ hh) (Rd.stays h4 _ hh) hul b)) rfl (fun _ _ => ?_); refine G.v (rv_not rfl) rfl (G.done (G.thenN ?_)); refine G.cond rfl (fun hc => ?_) (fun hc => ?_)
       · try exact Bool.noConfusion hc
         all_goals
          try replace hc := of_decide_eq_true hc
          try simp only [hln] at hc
          try (exfalso; contradiction)
          all_goals
           have hst : (r.types.take (k + 1)).foldl (cheapStep r us) (typeZ, false) = a := cheap_no hb hM (by simp_all)
           all_goals
            refine G.exit (G.thenX (G.inX (G.thenN (G.region (G.v (rv_move rfl) rfl ?_))))); refine G.v (rv_incr rfl rfl (by omega)) rfl ?_; refine G.v (rv_assign rfl) rfl (G.done ?_); refine G.frontB1 bk6 rfl ?_
            (refine G.keep1 1 rfl ?_; refine G.backK (k + 1, a) 0 rfl (.cons rfl (.cons rfl (.cons rfl (.cons rfl (.nil))))) ?_ ?_ ?_)
            · exact ⟨rfl, rfl, trivial⟩
            · exact ⟨hlt, hst⟩
            · dsimp only; omega
       · try exact Bool.noConfusion hc
         all_goals
          try replace hc := of_decide_eq_false hc
          try simp only [hln] at hc
          try (exfalso; contradiction)
          all_goals
           have hho : holdM r us b = true := by simpa using hc
           all_goals
            refine G.skip (G.thenN (G.seq (G.region (G.v (rv_move rfl) rfl (G.v (rv_not rfl) rfl (G.v (rv_move rfl) rfl ?_))))))
            all_goals (((with_reducible refine G.gP rfl rfl (fun hg => ?_) (fun hg => ?_)) <;> (try exact Bool.noConfusion hg) <;> (first | (refine G.gY rfl rfl ?_; (refine G.v (rv_field rfl) rfl ?_)) | refine G.gN rfl rfl rfl ?_)))
            all_goals ((first | (refine G.gY rfl rfl ?_; (refine G.v (rv_load1 0 rfl rfl rfl) rfl ?_)) | refine G.gN rfl rfl rfl ?_))
            all_goals ((first | (refine G.gY rfl rfl ?_; (refine G.v (rv_field rfl) rfl ?_)) | refine G.gN rfl rfl rfl ?_))
            all_goals ((first | (refine G.gY rfl rfl ?_; (refine G.v (rv_load1 1 rfl rfl rfl) rfl ?_)) | refine G.gN rfl rfl rfl ?_))
            all_goals ((first | (refine G.gY rfl rfl ?_; refine G.v (rv_lss rfl rfl) rfl ?_) | refine G.gN rfl rfl rfl ?_))
            all_goals ((first | refine G.v (rv_pickT rfl rfl) rfl ?_ | refine G.v (rv_pickF rfl rfl) rfl ?_))
            all_goals (refine G.v (rv_move rfl) rfl ?_)
            all_goals (((with_reducible refine G.gP rfl rfl (fun hg => ?_) (fun hg => ?_)) <;> (try exact Bool.noConfusion hg) <;> (first | (refine G.gY rfl rfl ?_; (refine G.v (rv_field rfl) rfl ?_)) | refine G.gN rfl rfl rfl ?_)))
            all_goals ((first | (refine G.gY rfl rfl ?_; (refine G.v (rv_load1 0 rfl rfl rfl) rfl ?_)) | refine G.gN rfl rfl rfl ?_))
            all_goals ((first | (refine G.gY rfl rfl ?_; (refine G.v (rv_field rfl) rfl ?_)) | refine G.gN rfl rfl rfl ?_))
            all_goals ((first | (refine G.gY rfl rfl ?_; (refine G.v (rv_load1 1 rfl rfl rfl) rfl ?_)) | refine G.gN rfl rfl rfl ?_))
            all_goals ((first | (refine G.gY rfl rfl ?_; refine G.v (rv_eql rfl rfl) rfl ?_) | refine G.gN rfl rfl rfl ?_))
            all_goals ((first | (refine G.gY rfl rfl ?_; refine G.v (rv_move rfl) rfl ?_) | refine G.gN rfl rfl rfl ?_))
            all_goals ((first | refine G.gU rfl rfl rfl ?_ | ((with_reducible refine G.gP rfl rfl (fun hg => ?_) (fun hg => ?_)) <;> (try exact Bool.noConfusion hg) <;> (first | (refine G.gY rfl rfl ?_; (refine G.v (rv_field rfl) rfl ?_)) | refine G.gN rfl rfl rfl ?_))))
            all_goals ((first | (refine G.gY rfl rfl ?_; (refine G.v (rv_load1 0 rfl rfl rfl) rfl ?_)) | refine G.gN rfl rfl rfl ?_ | refine G.gU rfl rfl rfl ?_))
            all_goals ((first | (refine G.gY rfl rfl ?_; (refine G.v (rv_field rfl) rfl ?_)) | refine G.gN rfl rfl rfl ?_ | refine G.gU rfl rfl rfl ?_))
            all_goals ((first | (refine G.gY rfl rfl ?_; (refine G.v (rv_load1 1 rfl rfl rfl) rfl ?_)) | refine G.gN rfl rfl rfl ?_ | refine G.gU rfl rfl rfl ?_))
            all_goals ((first | (refine G.gY rfl rfl ?_; refine G.v (rv_lss rfl rfl) rfl ?_) | refine G.gN rfl rfl rfl ?_ | refine G.gU rfl rfl rfl ?_))
            all_goals ((first | (refine G.gY rfl rfl ?_; (first | refine G.v (rv_pickT rfl rfl) rfl ?_ | refine G.v (rv_pickF rfl rfl) rfl ?_)) | refine G.gN rfl rfl rfl ?_))
            all_goals ((first | refine G.v (rv_pickT rfl rfl) rfl ?_ | refine G.v (rv_pickF rfl rfl) rfl ?_))
            all_goals
             refine G.done (G.thenN ?_); refine G.cond rfl (fun hc => ?_) (fun hc => ?_)
             · try exact Bool.noConfusion hc
               all_goals
                try replace hc := of_decide_eq_true hc
                try simp only [hln] at hc
                try (exfalso; contradiction)
                all_goals
                 have hbe : betterM a b = true := (by simp only [betterM]; (try simp only [decide_eq_true_eq, decide_eq_false_iff_not] at *); simp_all <;> omega)
                 have hst := cheap_yes hb hM hho hbe
                 all_goals
                  refine G.seq (G.region (G.v (rv_loadW 0 rfl rfl rfl) rfl ?_)); refine G.op0 (og_st1 rfl rfl rfl rfl rfl rfl (.zero (.cons (.cons (.cons (.cons (.cons (.cons (.cons .nil))))))))) (fun _ _ => ?_); refine G.done (G.thenN (G.region (G.v (rv_assign rfl) rfl (G.done (G.inN (G.thenN (G.region (G.v (rv_move rfl) rfl ?_)))))))); refine G.v (rv_incr rfl rfl (by omega)) rfl ?_; refine G.v (rv_assign rfl) rfl (G.done ?_); refine G.frontB1 bk6 rfl ?_
                  (refine G.keep1 1 rfl ?_; refine G.backK (k + 1, (b, true)) 0 rfl (.cons rfl (.cons rfl (.cons rfl (.cons rfl (.nil))))) ?_ ?_ ?_)
                  · exact ⟨rfl, rfl, trivial⟩
                  · exact ⟨hlt, hst⟩
                  · dsimp only; omega
             · try exact Bool.noConfusion hc
               all_goals
                try replace hc := of_decide_eq_false hc
                try simp only [hln] at hc
                try (exfalso; contradiction)
                all_goals
                 have hbe : betterM a b = false := (by simp only [betterM]; (try simp only [decide_eq_true_eq, decide_eq_false_iff_not] at *); simp_all <;> omega)
                 have hst : (r.types.take (k + 1)).foldl (cheapStep r us) (typeZ, false) = a := cheap_no hb hM (by rw [hbe, Bool.and_false])
                 all_goals
                  refine G.skip (G.inN (G.thenN (G.region (G.v (rv_move rfl) rfl ?_)))); refine G.v (rv_incr rfl rfl (by omega)) rfl ?_; refine G.v (rv_assign rfl) rfl (G.done ?_); refine G.frontB1 bk6 rfl ?_
                  (refine G.keep1 1 rfl ?_; refine G.backK (k + 1, a) 0 rfl (.cons rfl (.cons rfl (.cons rfl (.cons rfl (.nil))))) ?_ ?_ ?_)
                  · exact ⟨rfl, rfl, trivial⟩
                  · exact ⟨hlt, hst⟩
                  · dsimp only; omega
   · try exact Bool.noConfusion hc
     all_goals
      try replace hc := of_decide_eq_false hc
      try simp only [hln] at hc
      try (exfalso; omega)
      all_goals
       refine G.exit (G.thenX (G.thenX (G.inX (G.thenN (G.seq (G.region (G.v (rv_loadW 0 rfl rfl rfl) rfl (G.v (rv_move rfl) rfl ?_)))))))); refine G.op0 (og_st1 rfl rfl rfl rfl rfl rfl (.zero (.cons (.cons (.cons (.cons (.cons (.cons (.cons .nil))))))))) (fun _ _ => ?_); refine G.v (rv_assign rfl) rfl (G.done (G.thenN (G.ret ?_)))
       have hfin : cheapM r us = a := (by rw [cheapM, ← hM, take_all (by omega)]); rw [hfin]; exact G.retVL rfl (.cons (by exact .cell 1 rfl rfl rfl) (.cons (.tmp rfl) .nil)) rfl
end
end Go.Proofs.YtglpgohilfoecaaGreat

/-
  The cartons of an order: the program's way.
-/
namespace Go.Proofs.YtglpgohilfoecaaGreat
open Go.RowKit
attribute [local irreducible] Go.wpList Go.Code.wp Go.Exit.then Go.Exit.inBlock Go.bodyPost Go.Calls pE pB G RunsV FnV Fn FnM
set_option maxRecDepth 100000
set_option maxHeartbeats 4000000
theorem G.partG {n : Nat} {w0 : World} {fr : Fr} {H F : List Ch} {t : TypeId} {s : Nat} {v : Value} {es : List (List Value)} {rs0 rs : List (Value × List (List Value))} {K : Act → World → Prop} (e : rs0 = (v, es) :: rs) (hH : H = .grp t s rs0 :: F) (h : G n w0 fr (.row v t s es :: .grp t s rs :: F) K) : G n w0 fr H K :=
  G.heap (fun w hh => by subst e hH; exact hh.part) h
theorem G.keep3 {n : Nat} {w0 : World} {fr : Fr} {H : List Ch} (m : Nat) {c1 c2 c3 : Ch} {J : List Ch} {K : Act → World → Prop} (hH : H = c1 :: c2 :: c3 :: J) (h : G n w0 fr (c1 :: c2 :: c3 :: J.drop m) K) : G n w0 fr H K := G.heap (fun w hh => by subst hH; exact hh.sublist (List.Sublist.cons_cons _ (List.Sublist.cons_cons _ (List.Sublist.cons_cons _ (List.drop_sublist m J))))) h
theorem three_eq {a a' b b' c c' : Ch} {F : List Ch} (h1 : a = a') (h2 : b = b') (h3 : c = c') : a :: b :: c :: F = [a', b', c'] ++ F := by subst h1 h2 h3; rfl
def unitsI (r : ReqM) (k : Nat) : List Int := (unitsOfM r (k : Int)).map fun n : Nat => (n : Int)
theorem unitsI_len (r : ReqM) (k : Nat) : (unitsI r k).length ≤ 48 := by rw [unitsI, List.length_map]; exact unitsOf_len r _
def cartonM (r : ReqM) (k : Nat) (l : List Int) : CartonM := ⟨(cheapM r l).1.id, (k : Int), sortM l⟩
/-- The cartons of a group. -/
def cartonsAt (r : ReqM) (k : Nat) : List CartonM := (wayM r (unitsI r k)).map (cartonM r k)
/-- The cartons of an order. -/
def cartonsM (r : ReqM) : List CartonM := (List.range (groupsOfM r).length).flatMap (cartonsAt r)
theorem cartons_next (r : ReqM) (k : Nat) : (List.range (k + 1)).flatMap (cartonsAt r) = (List.range k).flatMap (cartonsAt r) ++ cartonsAt r k := by
  rw [List.range_succ, List.flatMap_append]; simp
theorem wayM_len (r : ReqM) (us : List Int) : (wayM r us).length ≤ us.length := by
  have h1 := thereM_len r us
  rw [wayM]; split
  · have := lastAll_len (roomM r) (thereM r us); rw [nextM]; omega
  · have := putAll_len (roomM r) (ordU r (thereM r us)); rw [ordU_len] at this; rw [firstM]; omega
theorem wayM_elt {r : ReqM} {us : List Int} {k : Nat} {l : List Int} (h : (wayM r us)[k]? = some l) : l.length ≤ us.length := by
  have h1 := len_le_sum (List.mem_of_getElem? h)
  have h2 : ((wayM r us).map List.length).sum ≤ us.length := by
    rw [wayM]; split
    · rw [nextM, lastAll_sum]; exact thereM_len r us
    · rw [firstM, putAll_sum, ordU_len]; exact thereM_len r us
  omega
theorem groups_len4 (r : ReqM) : (groupsOfM r).length ≤ 4 := by
  have := putAll_len (fun g x => joinsM r.pairs g x) (presI r)
  have h4 := presI_len r
  simp only [groupsOfM, groupsM]; omega
theorem cart_next {r : ReqM} {k i : Nat} {cs : List (CartonM × Value)} {ts : List (List Int × Value)} {b : List Int × Value} {v : Value} (hc : cs.map Prod.fst = (List.range k).flatMap (cartonsAt r) ++ ((ts.map Prod.fst).take i).map (cartonM r k)) (hb : ts[i]? = some b) : (cs ++ [(cartonM r k b.1, v)]).map Prod.fst = (List.range k).flatMap (cartonsAt r) ++ ((ts.map Prod.fst).take (i + 1)).map (cartonM r k) := by
  have e : (ts.map Prod.fst)[i]? = some b.1 := by rw [List.getElem?_map, hb]; rfl
  rw [List.map_append, hc, List.take_add_one, e, List.map_append, List.append_assoc]; rfl
theorem drop_part {ts : List (List Int × Value)} {i : Nat} {b : List Int × Value} (hb : ts[i]? = some b) : (ts.drop i).map (sub id) = (b.2, b.1.map icell) :: (ts.drop (i + 1)).map (sub id) := by
  obtain ⟨h1, rfl⟩ := List.getElem?_eq_some_iff.1 hb
  rw [List.drop_eq_getElem_cons h1]; rfl
theorem cart_cells {cs : List (CartonM × Value)} {r : ReqM} {k : Nat} {l : List Int} {v : Value} : cs.map CartonM.cells ++ [[Value.int .i64 (cheapM r l).1.id, Value.int .i64 (k : Int), v]] = (cs ++ [(cartonM r k l, v)]).map CartonM.cells := by rw [List.map_append]; rfl
theorem cart_sub {cs : List (CartonM × Value)} {r : ReqM} {k : Nat} {l : List Int} {v : Value} : cs.map (sub CartonM.l) ++ [(v, (sortM l).map icell)] = (cs ++ [(cartonM r k l, v)]).map (sub CartonM.l) := by rw [List.map_append]; rfl
section
variable {r : ReqM} {pv tv iv : Value} (w : World) (h : Rd w pv 2 (r.pairs.map PairM.cells)) (h2 : Rd w tv 7 (r.types.map TypeM.cells)) (h3 : Rd w iv 7 (r.items.map ItemM.cells))
include h h2 h3
theorem cartonsOf_any : Fn Tryz.prog 20 [.agg (r.cells pv tv iv).toArray] w (fun x : Value × List (CartonM × Value) => x.1.oneCell' = true ∧ x.2.map Prod.fst = cartonsM r) (fun x => x.1) (fun x => [.grp 3 1 (x.2.map (sub CartonM.l)), .row x.1 54 3 (x.2.map CartonM.cells)]) := by
  have hg4 := groups_len4 r
  refine Fn.of (n := 45) Tryz.func20 rfl rfl ?_; refine G.seq (G.region ?_); refine G.op (og_box rfl rfl) rfl (fun bk1 _ => ?_); refine G.v (rv_assign rfl) rfl (G.done (G.thenN (G.seq (G.region ?_)))); refine G.op (og_lit rfl .nil (by rfl) rfl rfl rfl rfl rfl) rfl (fun vl _ => ?_); refine G.v (rv_assign rfl) rfl (G.done (G.thenN (G.seq (G.seq (G.region (G.v (rv_loadW 1 rfl rfl rfl) rfl ?_))))))
  (refine G.op (og_callF2 rfl rfl (fun w hh => groupsOf_any (r := r) w (Rd.stays h _ hh) (Rd.stays h2 _ hh) (Rd.stays h3 _ hh))) rfl ?_; rintro ⟨vg, gs⟩ ⟨hvg, hgs⟩; try dsimp only)
  have hgl : (gs.map gcell).length = (groupsOfM r).length := by rw [← hgs]; simp
  refine G.v (rv_len rfl (by exact Rd.owned 1 rfl)) rfl ?_; refine G.v (rv_move rfl) rfl (G.done (G.thenN (G.block ?_)))
  -- loop 0: turned [3, 13], kept [1, 12]
  refine G.frontR2 vl rfl ?_; refine G.heap (fun w hh => hh.nilGrp 3 1) ?_; refine G.loopK (ι := Nat × List (CartonM × Value) × Value) (ks := [1, 12]) (fun x => [(3, x.2.2), (13, .int .i64 (x.1 : Int))]) (fun x => [.grp 3 1 (x.2.1.map (sub CartonM.l)), .row x.2.2 54 3 (x.2.1.map CartonM.cells)]) (fun x => x.1 ≤ (groupsOfM r).length ∧ x.2.1.map Prod.fst = (List.range x.1).flatMap (cartonsAt r) ∧ x.2.1.length ≤ 48 * x.1) (fun x => (groupsOfM r).length - x.1) (0, [], vl) (.cons rfl (.cons rfl (.nil))) rfl ?_ ?_ ?_
  · exact ⟨Nat.zero_le _, rfl, Nat.zero_le _⟩
  · exact ⟨rfl, rfl, trivial⟩
  rintro ⟨k, cs, v2⟩ ⟨hk, hM, hcl⟩
  dsimp only at hk hM hcl ⊢
  all_goals
   refine G.seq (G.region (G.v (rv_lss rfl rfl) rfl (G.done (G.thenN (G.seq ?_))))); refine G.cond rfl (fun hc => ?_) (fun hc => ?_)
   · try exact Bool.noConfusion hc
     all_goals
      try replace hc := of_decide_eq_true hc
      try simp only [hgl] at hc
      try (exfalso; contradiction)
      all_goals
       refine G.skip (G.thenN (G.seq (G.block (G.seq (G.region (G.v (rv_move rfl) rfl (G.v (rv_assign rfl) rfl (G.done (G.thenN (G.seq ?_)))))))))); refine G.drawL [] ?_; refine GE.q 0 rfl (by as_aux_lemma => kernel_rfl) rfl (qg_runs (rv_loadW 4 rfl rfl rfl)) rfl ?_; refine GE.q 1 rfl (by as_aux_lemma => kernel_rfl) rfl (qg_runs (rv_loadW 4 rfl rfl rfl)) rfl ?_; refine GE.q 2 rfl (by as_aux_lemma => kernel_rfl) rfl (qg_runs (rv_move rfl)) rfl ?_; refine GE.q 6 rfl (by as_aux_lemma => kernel_rfl) rfl (qg_runs (rv_move rfl)) rfl ?_
       (refine GE.ol 3 (by as_aux_lemma => kernel_rfl) rfl rfl (og_callF1 rfl rfl (fun w hh => by have q := unitsOf_any (r := r) (pv := pv) (tv := tv) (iv := iv) w (Rd.stays h _ hh) (Rd.stays h2 _ hh) (Rd.stays h3 _ hh) (k : Int); rw [ncell_eq] at q; exact q)) rfl (fun _ _ h => by exact h.drop 1) ?_; rintro vu hvu; try dsimp only)
       (refine GE.ol 4 (by as_aux_lemma => kernel_rfl) rfl rfl (og_callF2 rfl rfl (fun w hh => packWay_any (r := r) (us := unitsI r k) w (Rd.stays h _ hh) (Rd.stays h2 _ hh) (Rd.stays h3 _ hh) (by exact Rd.owned 0 rfl _ hh) (by have := unitsI_len r k; omega))) rfl (fun _ _ h => by exact h.drop 3) ?_; rintro ⟨vt, ts⟩ ⟨hvt, hts⟩; try dsimp only)
       refine GE.ol 5 (by as_aux_lemma => kernel_rfl) rfl rfl (og_runs (rv_len rfl (by exact Rd.owned 1 rfl))) rfl (fun _ _ h => by exact h.drop 3) (fun _ _ => ?_); refine GE.done (by as_aux_lemma => kernel_rfl) ?_; refine G.thenN (G.block ?_)
       -- loop 1: turned [3, 22], kept [1, 4, 12, 13, 20, 21]
       have htl : ts.length ≤ 48 := (by have e : ts.length = (wayM r (unitsI r k)).length := (by rw [← hts, List.length_map]); have := wayM_len r (unitsI r k); have := unitsI_len r k; omega)
       have htl2 : (ts.map gcell).length = ts.length := List.length_map _
       refine G.frontG0 (ts.map (sub id)) rfl ?_; refine G.frontR4 v2 rfl ?_; refine G.frontG4 (cs.map (sub CartonM.l)) rfl ?_; refine G.loopK (ι := Nat × List (CartonM × Value) × Value) (ks := [1, 4, 12, 13, 20, 21]) (fun x => [(3, x.2.2), (22, .int .i64 (x.1 : Int))]) (fun x => [.grp 3 1 (x.2.1.map (sub CartonM.l)), .row x.2.2 54 3 (x.2.1.map CartonM.cells), .grp 3 1 ((ts.drop x.1).map (sub id))]) (fun x => x.1 ≤ ts.length ∧ x.2.1.map Prod.fst = (List.range k).flatMap (cartonsAt r) ++ ((ts.map Prod.fst).take x.1).map (cartonM r k) ∧ x.2.1.length ≤ 48 * k + x.1) (fun x => ts.length - x.1) (0, cs, v2) (.cons rfl (.cons rfl (.cons rfl (.cons rfl (.cons rfl (.cons rfl (.nil))))))) rfl ?_ ?_ ?_
       · exact ⟨Nat.zero_le _, by rw [hM]; simp, by omega⟩
       · exact ⟨rfl, rfl, trivial⟩
       rintro ⟨i, cs2, v3⟩ ⟨hi, hM2, hcl2⟩
       dsimp only at hi hM2 hcl2 ⊢
       have hl0 : (cs2.map CartonM.cells).length = cs2.length := (by simp)
       by_cases hlt : i < ts.length
       case' pos => (obtain ⟨b, hb⟩ := get_of_lt hlt; have heb := get_map hb gcell; have hbl : b.1.length ≤ 48 := (by have e : (wayM r (unitsI r k))[i]? = some b.1 := (by rw [← hts, List.getElem?_map, hb]; rfl); have := wayM_elt e; have := unitsI_len r k; omega); (refine G.frontG2 ((ts.drop i).map (sub id)) rfl ?_); refine G.partG (drop_part hb) rfl ?_)
       all_goals
        refine G.seq (G.region (G.v (rv_lss rfl rfl) rfl (G.done (G.thenN (G.seq ?_))))); refine G.cond rfl (fun hc => ?_) (fun hc => ?_)
        · try exact Bool.noConfusion hc
          all_goals
           try replace hc := of_decide_eq_true hc
           try simp only [hgl] at hc
           try (exfalso; omega)
           all_goals
            refine G.skip (G.thenN (G.seq (G.block (G.seq (G.region ?_))))); refine G.v (rv_indexH rfl rfl (by exact Rd.owned 4 rfl) rfl (by exact heb)) rfl ?_; refine G.v (rv_loadE rfl (by exact Rd.owned 4 rfl) (by exact heb) rfl) rfl ?_; refine G.v (rv_assign rfl) rfl (G.done (G.thenN (G.seq (G.region (G.v (rv_loadW 8 rfl rfl rfl) rfl (G.v (rv_move rfl) rfl ?_)))))); refine G.op (og_callV rfl rfl (fun w hh => cheapest_any (r := r) (us := b.1) w (Rd.stays h _ hh) (Rd.stays h2 _ hh) (Rd.stays h3 _ hh) (by exact Rd.owned 0 rfl _ hh) (by omega))) rfl (fun _ _ => ?_); refine G.v (rv_move rfl) rfl (G.v (rv_extract rfl rfl) rfl (G.v (rv_extract rfl rfl) rfl ?_)); refine G.op (og_alloc) rfl (fun bk7 _ => ?_); refine G.op0 (og_st0 rfl rfl rfl rfl rfl rfl (.zero (.cons (.cons (.cons (.cons (.cons (.cons (.cons .nil))))))))) (fun _ _ => ?_); refine G.v (rv_assign rfl) rfl (G.done (G.thenN (G.seq (G.region (G.v (rv_move rfl) rfl ?_)))))
            (refine G.frontR1 (b.2) rfl ?_); refine G.op (og_callMM1 rfl rfl rfl (sortG_any (ks := b.1) (by omega))) rfl ?_; rintro ⟨⟩ _; try dsimp only
            refine G.know (fun w hw => (Rd.owned 0 rfl w hw).one_) (fun hob => ?_); refine G.done (G.thenN (G.region (G.v (rv_move rfl) rfl (G.v (rv_field rfl) rfl (G.v (rv_load1 1 rfl rfl rfl) rfl (G.v (rv_move rfl) rfl (G.v (rv_move rfl) rfl ?_))))))); refine G.v (rv_build2 rfl (.cons rfl (.cons rfl (.cons (cells_one (by assumption)) .nil))) (.cons rfl rfl (.zero (.cons .nil)) (.cons rfl rfl (.succ (.zero (.cons .nil))) (.cons rfl rfl (.succ (.succ (.zero (.cons .nil)))) .nil)))) rfl ?_; refine G.op (og_lit rfl (.cons rfl .nil) (by (simp only [List.all_cons, List.all_nil, Bool.and_true, Bool.and_eq_true]; refine ⟨rfl, ?_⟩; (repeat (first | assumption | refine ⟨rfl, ?_⟩)))) rfl rfl rfl rfl rfl) rfl (fun vx _ => ?_); refine G.op (og_app5 rfl rfl rfl (by exact Rd.owned 0 rfl) rfl rfl (by (simp; omega)) (by (simp; omega))) rfl (fun va _ => ?_); refine G.frontG4 (cs2.map (sub CartonM.l)) rfl ?_; refine G.frontR2 b.2 rfl ?_; refine G.pushRow _ (cart_sub (r := r) (k := k) (l := b.1)) rfl ?_; refine G.v (rv_assign rfl) rfl (G.done (G.inN (G.thenN (G.region ?_)))); refine G.v (rv_incr rfl rfl (by omega)) rfl ?_; refine G.v (rv_move rfl) rfl (G.done ?_); refine G.frontG3 ((ts.drop (i + 1)).map (sub id)) rfl ?_; refine G.frontR4 va rfl ?_; refine G.frontG2 ((cs2 ++ [(cartonM r k b.1, b.2)]).map (sub CartonM.l)) rfl ?_
            (refine G.keep3 2 rfl ?_; refine G.backK (i + 1, cs2 ++ [(cartonM r k b.1, b.2)], va) 0 (three_eq rfl (congrArg (fun z => Ch.row va 54 3 z) cart_cells) rfl) (.cons rfl (.cons rfl (.cons rfl (.cons rfl (.cons rfl (.cons rfl (.nil))))))) ?_ ?_ ?_)
            · exact ⟨rfl, rfl, trivial⟩
            · exact ⟨hlt, cart_next hM2 hb, by rw [List.length_append, List.length_singleton]; omega⟩
            · dsimp only; omega
        · try exact Bool.noConfusion hc
          all_goals
           try replace hc := of_decide_eq_false hc
           try simp only [hgl] at hc
           try (exfalso; omega)
           all_goals
            refine G.exit (G.thenX (G.thenX (G.inX (G.inN (G.thenN (G.region ?_)))))); refine G.v (rv_incr rfl rfl (by omega)) rfl ?_; refine G.v (rv_move rfl) rfl (G.done ?_); refine G.frontR1 v3 rfl ?_; refine G.frontG1 (cs2.map (sub CartonM.l)) rfl ?_
            (refine G.keep2 3 rfl ?_; refine G.backK (k + 1, cs2, v3) 0 rfl (.cons rfl (.cons rfl (.nil))) ?_ ?_ ?_)
            · exact ⟨rfl, rfl, trivial⟩
            · exact ⟨by (dsimp only; omega), by rw [cartons_next, hM2, take_all (by rw [List.length_map]; omega), hts]; rfl, by (dsimp only; omega)⟩
            · dsimp only; omega
   · try exact Bool.noConfusion hc
     all_goals
      try replace hc := of_decide_eq_false hc
      try simp only [hgl] at hc
      try (exfalso; contradiction)
      all_goals
       refine G.exit (G.thenX (G.thenX (G.inX (G.thenN (G.seq (G.region (G.v (rv_move rfl) rfl (G.v (rv_assign rfl) rfl (G.done (G.thenN (G.ret ?_))))))))))); refine G.know (fun w hw => (Rd.owned 1 rfl w hw).one_) (fun hone => G.retF (v2, cs) ⟨hone, by rw [hM, cartonsM, show k = (groupsOfM r).length by omega]⟩ rfl rfl rfl (fun w hw => hw.sublist (by repeat (first | exact List.Sublist.refl _ | refine List.Sublist.cons_cons _ ?_ | refine List.Sublist.cons _ ?_))))
end
end Go.Proofs.YtglpgohilfoecaaGreat

/-
  The cartons of an order: the reference's way.
-/
namespace Go.Proofs.YtglpgohilfoecaaGreat
open Go.RowKit
attribute [local irreducible] Go.wpList Go.Code.wp Go.Exit.then Go.Exit.inBlock Go.bodyPost Go.Calls pE pB G RunsV FnV Fn FnM
set_option maxRecDepth 100000
set_option maxHeartbeats 4000000
theorem srt_take {ks : List Int} {j x : Nat} (hx : (ordM (keyU ks) ks.length)[j]? = some x) : (((ordM (keyU ks) ks.length).take j).map (keyU ks)).map icell ++ [[Value.int .i64 (keyU ks x)]] = (((ordM (keyU ks) ks.length).take (j + 1)).map (keyU ks)).map icell := by
  simp [List.take_add_one, hx, icell]
section
variable {r : ReqM} {pv tv iv : Value} (w : World) (h : Rd w pv 2 (r.pairs.map PairM.cells)) (h2 : Rd w tv 7 (r.types.map TypeM.cells)) (h3 : Rd w iv 7 (r.items.map ItemM.cells))
include h h2 h3
theorem scartonsOf_any : Fn Tryz.prog 21 [.agg (r.cells pv tv iv).toArray] w (fun x : Value × List (CartonM × Value) => x.1.oneCell' = true ∧ x.2.map Prod.fst = cartonsM r) (fun x => x.1) (fun x => [.grp 3 1 (x.2.map (sub CartonM.l)), .row x.1 54 3 (x.2.map CartonM.cells)]) := by
  have hg4 := groups_len4 r
  refine Fn.of (n := 76) Tryz.func21 rfl rfl ?_; refine G.seq (G.region ?_); refine G.op (og_box rfl rfl) rfl (fun bk1 _ => ?_); refine G.v (rv_assign rfl) rfl (G.done (G.thenN (G.seq (G.region ?_)))); refine G.op (og_lit rfl .nil (by rfl) rfl rfl rfl rfl rfl) rfl (fun vl _ => ?_); refine G.v (rv_assign rfl) rfl (G.done (G.thenN (G.seq (G.region (G.v (rv_loadW 1 rfl rfl rfl) rfl ?_)))))
  (refine G.op (og_callF2 rfl rfl (fun w hh => sgroupsOf_any (r := r) w (Rd.stays h _ hh) (Rd.stays h2 _ hh) (Rd.stays h3 _ hh))) rfl ?_; rintro ⟨vg, gs⟩ ⟨hvg, hgs⟩; try dsimp only)
  have hgl : (gs.map gcell).length = (groupsOfM r).length := by rw [← hgs]; simp
  refine G.v (rv_assign rfl) rfl (G.done (G.thenN (G.seq (G.seq (G.region (G.v (rv_assign rfl) rfl (G.done (G.thenN (G.block ?_)))))))))
  -- loop 0: turned [3, 5], kept [1, 4]
  refine G.frontR2 vl rfl ?_; refine G.heap (fun w hh => hh.nilGrp 3 1) ?_; refine G.loopK (ι := Nat × List (CartonM × Value) × Value) (ks := [1, 4]) (fun x => [(3, x.2.2), (5, .int .i64 (x.1 : Int))]) (fun x => [.grp 3 1 (x.2.1.map (sub CartonM.l)), .row x.2.2 54 3 (x.2.1.map CartonM.cells)]) (fun x => x.1 ≤ (groupsOfM r).length ∧ x.2.1.map Prod.fst = (List.range x.1).flatMap (cartonsAt r) ∧ x.2.1.length ≤ 48 * x.1) (fun x => (groupsOfM r).length - x.1) (0, [], vl) (.cons rfl (.cons rfl (.nil))) rfl ?_ ?_ ?_
  · exact ⟨Nat.zero_le _, rfl, Nat.zero_le _⟩
  · exact ⟨rfl, rfl, trivial⟩
  rintro ⟨k, cs, v2⟩ ⟨hk, hM, hcl⟩
  dsimp only at hk hM hcl ⊢
  all_goals
   refine G.seq (G.seq (G.region (G.v (rv_move rfl) rfl (G.v (rv_move rfl) rfl ?_)))); refine G.v (rv_len rfl (by exact Rd.owned 3 rfl)) rfl ?_; refine G.v (rv_lss rfl rfl) rfl (G.done (G.thenN ?_)); refine G.cond rfl (fun hc => ?_) (fun hc => ?_)
   · try exact Bool.noConfusion hc
     all_goals
      try replace hc := of_decide_eq_true hc
      try simp only [hgl] at hc
      try (exfalso; contradiction)
      all_goals
       refine G.skip (G.thenN (G.seq (G.block (G.seq ?_)))); refine G.drawL [5] ?_; refine GE.q 0 rfl (by as_aux_lemma => kernel_rfl) rfl (qg_runs (rv_loadW 4 rfl rfl rfl)) rfl ?_; refine GE.q 1 rfl (by as_aux_lemma => kernel_rfl) rfl (qg_runs (rv_loadW 4 rfl rfl rfl)) rfl ?_; refine GE.ol 2 (by as_aux_lemma => kernel_rfl) rfl rfl (og_runs (rv_move rfl)) rfl (fun _ _ h => by exact h) (fun _ _ => ?_)
       (refine GE.ol 3 (by as_aux_lemma => kernel_rfl) rfl rfl (og_callF1 rfl rfl (fun w hh => by have q := sunitsOf_any (r := r) (pv := pv) (tv := tv) (iv := iv) w (Rd.stays h _ hh) (Rd.stays h2 _ hh) (Rd.stays h3 _ hh) (k : Int); rw [ncell_eq] at q; exact q)) rfl (fun _ _ h => by exact h.drop 1) ?_; rintro vu hvu; try dsimp only)
       (refine GE.ol 4 (by as_aux_lemma => kernel_rfl) rfl rfl (og_callF2 rfl rfl (fun w hh => spackWay_any (r := r) (us := unitsI r k) w (Rd.stays h _ hh) (Rd.stays h2 _ hh) (Rd.stays h3 _ hh) (by exact Rd.owned 0 rfl _ hh) (by have := unitsI_len r k; omega))) rfl (fun _ _ h => by exact h.drop 3) ?_; rintro ⟨vt, ts⟩ ⟨hvt, hts⟩; try dsimp only)
       refine GE.t 5 (by as_aux_lemma => kernel_rfl) rfl rfl rfl (og_runs (rv_assign rfl)) rfl (fun _ _ => ?_); refine GE.done (by as_aux_lemma => kernel_rfl) ?_; refine G.thenN (G.seq (G.region (G.v (rv_assign rfl) rfl (G.done (G.thenN (G.block ?_))))))
       -- loop 1: turned [3, 7], kept [1, 4, 5, 6]
       have htl : ts.length ≤ 48 := (by have e : ts.length = (wayM r (unitsI r k)).length := (by rw [← hts, List.length_map]); have := wayM_len r (unitsI r k); have := unitsI_len r k; omega)
       have htl2 : (ts.map gcell).length = ts.length := List.length_map _
       refine G.frontR4 v2 rfl ?_; refine G.frontG4 (cs.map (sub CartonM.l)) rfl ?_; refine G.loopK (ι := Nat × List (CartonM × Value) × Value) (ks := [1, 4, 5, 6]) (fun x => [(3, x.2.2), (7, .int .i64 (x.1 : Int))]) (fun x => [.grp 3 1 (x.2.1.map (sub CartonM.l)), .row x.2.2 54 3 (x.2.1.map CartonM.cells)]) (fun x => x.1 ≤ ts.length ∧ x.2.1.map Prod.fst = (List.range k).flatMap (cartonsAt r) ++ ((ts.map Prod.fst).take x.1).map (cartonM r k) ∧ x.2.1.length ≤ 48 * k + x.1) (fun x => ts.length - x.1) (0, cs, v2) (.cons rfl (.cons rfl (.cons rfl (.cons rfl (.nil))))) rfl ?_ ?_ ?_
       · exact ⟨Nat.zero_le _, by rw [hM]; simp, by omega⟩
       · exact ⟨rfl, rfl, trivial⟩
       rintro ⟨i, cs2, v3⟩ ⟨hi, hM2, hcl2⟩
       dsimp only at hi hM2 hcl2 ⊢
       have hl0 : (cs2.map CartonM.cells).length = cs2.length := (by simp)
       by_cases hlt : i < ts.length
       case' pos => (obtain ⟨b, hb⟩ := get_of_lt hlt; have heb := get_map hb gcell; have hgi : (ts.map (sub id))[i]? = some (b.2, b.1.map icell) := get_mapS hb; have hbl : b.1.length ≤ 48 := (by have e : (wayM r (unitsI r k))[i]? = some b.1 := (by rw [← hts, List.getElem?_map, hb]; rfl); have := wayM_elt e; have := unitsI_len r k; omega); have hol := ordM_len (keyU b.1) b.1.length; have hol2 : ((ordM (keyU b.1) b.1.length).map ncell).length = b.1.length := (by rw [List.length_map, hol]))
       all_goals
        refine G.seq (G.seq (G.region (G.v (rv_move rfl) rfl (G.v (rv_move rfl) rfl ?_)))); refine G.v (rv_len rfl (by exact Rd.owned 3 rfl)) rfl ?_; refine G.v (rv_lss rfl rfl) rfl (G.done (G.thenN ?_)); refine G.cond rfl (fun hc => ?_) (fun hc => ?_)
        · try exact Bool.noConfusion hc
          all_goals
           try replace hc := of_decide_eq_true hc
           try simp only [hgl] at hc
           try (exfalso; omega)
           all_goals
            refine G.skip (G.thenN (G.seq (G.block (G.seq ?_)))); refine G.drawL [11] ?_; refine GE.q 0 rfl (by as_aux_lemma => kernel_rfl) rfl (qg_runs (rv_loadW 7 rfl rfl rfl)) rfl ?_; refine GE.q 1 rfl (by as_aux_lemma => kernel_rfl) rfl (qg_runs (rv_move rfl)) rfl ?_; refine GE.q 2 rfl (by as_aux_lemma => kernel_rfl) rfl (qg_runs (rv_move rfl)) rfl ?_; refine GE.q 3 rfl (by as_aux_lemma => kernel_rfl) rfl (qg_runs (rv_indexH rfl rfl (by exact Rd.owned 3 rfl) rfl (by exact heb))) rfl ?_; refine GE.q 4 rfl (by as_aux_lemma => kernel_rfl) rfl (qg_runs (rv_loadE rfl (by exact Rd.owned 3 rfl) (by exact heb) rfl)) rfl ?_; refine GE.q 5 rfl (by as_aux_lemma => kernel_rfl) rfl (qg_call rfl rfl (fun w hh => scheapest_any (r := r) (us := b.1) w (Rd.stays h _ hh) (Rd.stays h2 _ hh) (Rd.stays h3 _ hh) (Subs.at (by exact Subs.owned 2 rfl _ hh) hb) (by omega))) rfl ?_; refine GE.q 6 rfl (by as_aux_lemma => kernel_rfl) rfl (qg_runs (rv_move rfl)) rfl ?_; refine GE.q 7 rfl (by as_aux_lemma => kernel_rfl) rfl (qg_runs (rv_extract rfl rfl)) rfl ?_; refine GE.q 8 rfl (by as_aux_lemma => kernel_rfl) rfl (qg_runs (rv_extract rfl rfl)) rfl ?_; refine GE.ol 9 (by as_aux_lemma => kernel_rfl) rfl rfl (og_alloc) rfl (fun _ _ h => by exact h.drop 1) (fun bk8 _ => ?_)
            refine GE.ol0 10 (by as_aux_lemma => kernel_rfl) rfl rfl (og_st0 rfl rfl rfl rfl rfl rfl (.zero (.cons (.cons (.cons (.cons (.cons (.cons (.cons .nil))))))))) (fun _ _ h => by exact h.drop 1) (fun _ _ => ?_); refine GE.t 11 (by as_aux_lemma => kernel_rfl) rfl rfl rfl (og_runs (rv_assign rfl)) rfl (fun _ _ => ?_); refine GE.done (by as_aux_lemma => kernel_rfl) ?_; refine G.thenN (G.seq (G.region (G.v (rv_move rfl) rfl (G.v (rv_move rfl) rfl ?_)))); refine G.v (rv_indexH rfl rfl (by exact Rd.owned 4 rfl) rfl (by exact heb)) rfl ?_; refine G.v (rv_loadE rfl (by exact Rd.owned 4 rfl) (by exact heb) rfl) rfl ?_
            (refine G.op (og_callF1 rfl rfl (fun w hh => ssortUp_any (ks := b.1) w (Subs.at (by exact Subs.owned 3 rfl _ hh) hb) (by omega))) rfl ?_; rintro vs hvs; try dsimp only)
            refine G.v (rv_assign rfl) rfl (G.done (G.thenN (G.seq (G.region ?_)))); refine G.op (og_lit rfl .nil rfl rfl rfl rfl rfl rfl) rfl (fun vz _ => ?_); refine G.v (rv_assign rfl) rfl (G.done (G.thenN (G.seq (G.seq (G.region (G.v (rv_assign rfl) rfl (G.done (G.thenN (G.block ?_)))))))))
            -- loop 2: turned [11, 12], kept [1, 3, 4, 5, 6, 7, 8, 10]
            refine G.frontR0 vz rfl ?_; refine G.loopK (ι := Nat × Value) (ks := [1, 3, 4, 5, 6, 7, 8, 10]) (fun x => [(11, x.2), (12, .int .i64 (x.1 : Int))]) (fun x => [.row x.2 3 1 ((((ordM (keyU b.1) b.1.length).take x.1).map (keyU b.1)).map icell)]) (fun x => x.1 ≤ b.1.length) (fun x => b.1.length - x.1) (0, vz) (.cons rfl (.cons rfl (.cons rfl (.cons rfl (.cons rfl (.cons rfl (.cons rfl (.cons rfl (.nil))))))))) rfl ?_ ?_ ?_
            · exact Nat.zero_le _
            · exact ⟨rfl, rfl, trivial⟩
            rintro ⟨j, v11⟩ hj
            dsimp only at hj ⊢
            have hl11 : ((((ordM (keyU b.1) b.1.length).take j).map (keyU b.1)).map icell).length = j := (by rw [List.length_map, List.length_map, List.length_take, hol]; omega)
            by_cases hlt2 : j < b.1.length
            case' pos => (obtain ⟨x, hx⟩ := get_of_lt (l := ordM (keyU b.1) b.1.length) (k := j) (by omega); have hex := get_map hx ncell; have hxl : x < b.1.length := ordM_mem.1 (List.mem_of_getElem? hx); obtain ⟨y, hy⟩ := get_of_lt hxl; have hyk : keyU b.1 x = y := (by rw [keyU, hy]; rfl); have hey := get_map hy icell)
            case' neg => (refine G.rowEq ((sortM b.1).map icell) (by rw [List.take_of_length_le (by omega)]; rfl) rfl ?_; refine G.know (fun w hw => (Rd.owned 0 rfl w hw).one_) (fun hov11 => ?_))
            all_goals
             refine G.seq (G.seq (G.region (G.v (rv_move rfl) rfl (G.v (rv_move rfl) rfl ?_)))); refine G.v (rv_len rfl (by exact Rd.owned 1 rfl)) rfl ?_; refine G.v (rv_lss rfl rfl) rfl (G.done (G.thenN ?_)); refine G.cond rfl (fun hc => ?_) (fun hc => ?_)
             · try exact Bool.noConfusion hc
               all_goals
                try replace hc := of_decide_eq_true hc
                try simp only [hgl] at hc
                try (exfalso; omega)
                all_goals
                 refine G.skip (G.thenN (G.seq (G.block ?_))); refine G.frontR0 v11 rfl ?_; refine G.drawD1 [13] rfl ?_; refine GE.q2 0 rfl (by as_aux_lemma => kernel_rfl) rfl (qg_runs (rv_move rfl)) (fun _ h => by exact h.drop 1) rfl ?_; refine GE.q2 1 rfl (by as_aux_lemma => kernel_rfl) rfl (qg_runs (rv_move rfl)) (fun _ h => by exact h.drop 1) rfl ?_; refine GE.q2 2 rfl (by as_aux_lemma => kernel_rfl) rfl (qg_runs (rv_move rfl)) (fun _ h => by exact h.drop 1) rfl ?_; refine GE.q2 3 rfl (by as_aux_lemma => kernel_rfl) rfl (qg_runs (rv_indexH rfl rfl (by exact Rd.owned 5 rfl) rfl (by exact heb))) (fun _ h => by exact h.drop 1) rfl ?_; refine GE.q2 4 rfl (by as_aux_lemma => kernel_rfl) rfl (qg_runs (rv_loadE rfl (by exact Rd.owned 5 rfl) (by exact heb) rfl)) (fun _ h => by exact h.drop 1) rfl ?_; refine GE.q2 5 rfl (by as_aux_lemma => kernel_rfl) rfl (qg_runs (rv_move rfl)) (fun _ h => by exact h.drop 1) rfl ?_; refine GE.ol 6 (by as_aux_lemma => kernel_rfl) rfl rfl (og_runs (rv_move rfl)) rfl (fun _ _ h => by exact h.drop 1) (fun _ _ => ?_); refine GE.ol 7 (by as_aux_lemma => kernel_rfl) rfl rfl (og_runs (rv_indexH rfl rfl (by exact Rd.owned 1 rfl) rfl (by exact hex))) rfl (fun _ _ h => by exact h.drop 1) (fun _ _ => ?_); refine GE.ol 8 (by as_aux_lemma => kernel_rfl) rfl rfl (og_runs (rv_loadE rfl (by exact Rd.owned 1 rfl) (by exact hex) rfl)) rfl (fun _ _ h => by exact h.drop 1) (fun _ _ => ?_)
                 refine GE.ol 9 (by as_aux_lemma => kernel_rfl) rfl rfl (og_runs (rv_indexH rfl rfl (by exact Rd.grp 5 rfl (List.mem_of_getElem? hgi)) rfl (by exact hey))) rfl (fun _ _ h => by exact h.drop 1) (fun _ _ => ?_); refine GE.ol 10 (by as_aux_lemma => kernel_rfl) rfl rfl (og_runs (rv_loadE rfl (by exact Rd.grp 5 rfl (List.mem_of_getElem? hgi)) (by exact hey) rfl)) rfl (fun _ _ h => by exact h.drop 1) (fun _ _ => ?_); refine GE.ol 11 (by as_aux_lemma => kernel_rfl) rfl rfl (og_lit rfl (.cons rfl .nil) rfl rfl rfl rfl rfl rfl) rfl (fun _ _ h => by exact h.drop 2) (fun vy _ => ?_); refine GE.ol 12 (by as_aux_lemma => kernel_rfl) rfl rfl (og_app1 rfl rfl rfl (by exact Rd.owned 0 rfl) rfl rfl (by (simp; omega)) (by (simp; omega))) rfl (fun _ _ h => by exact h.drop 2) (fun vb _ => ?_); refine GE.t 13 (by as_aux_lemma => kernel_rfl) rfl rfl rfl (og_runs (rv_assign rfl)) rfl (fun _ _ => ?_); refine GE.done (by as_aux_lemma => kernel_rfl) ?_; refine G.inN (G.thenN (G.region (G.v (rv_move rfl) rfl ?_))); refine G.v (rv_incr rfl rfl (by omega)) rfl ?_; refine G.v (rv_assign rfl) rfl (G.done ?_); refine G.frontR1 vb rfl ?_
                 (refine G.keep1 1 rfl ?_; refine G.backK (j + 1, vb) 0 (one_eq (congrArg (fun z => Ch.row vb 3 1 z) ((congrArg (fun z => (((ordM (keyU b.1) b.1.length).take j).map (keyU b.1)).map icell ++ [[Value.int .i64 z]]) hyk.symm).trans (srt_take hx)))) (.cons rfl (.cons rfl (.cons rfl (.cons rfl (.cons rfl (.cons rfl (.cons rfl (.cons rfl (.nil))))))))) ?_ ?_ ?_)
                 · exact ⟨rfl, rfl, trivial⟩
                 · exact hlt2
                 · dsimp only; omega
             · try exact Bool.noConfusion hc
               all_goals
                try replace hc := of_decide_eq_false hc
                try simp only [hgl] at hc
                try (exfalso; omega)
                all_goals
                 refine G.exit (G.thenX (G.thenX (G.inX (G.thenN (G.region (G.v (rv_move rfl) rfl (G.v (rv_field rfl) rfl (G.v (rv_load1 2 rfl rfl rfl) rfl (G.v (rv_move rfl) rfl (G.v (rv_move rfl) rfl ?_)))))))))); refine G.v (rv_build2 rfl (.cons rfl (.cons rfl (.cons (cells_one (by assumption)) .nil))) (.cons rfl rfl (.zero (.cons .nil)) (.cons rfl rfl (.succ (.zero (.cons .nil))) (.cons rfl rfl (.succ (.succ (.zero (.cons .nil)))) .nil)))) rfl ?_; refine G.op (og_lit rfl (.cons rfl .nil) (by (simp only [List.all_cons, List.all_nil, Bool.and_true, Bool.and_eq_true]; refine ⟨rfl, ?_⟩; (repeat (first | assumption | refine ⟨rfl, ?_⟩)))) rfl rfl rfl rfl rfl) rfl (fun vx _ => ?_); refine G.op (og_app5 rfl rfl rfl (by exact Rd.owned 0 rfl) rfl rfl (by (simp; omega)) (by (simp; omega))) rfl (fun va _ => ?_); refine G.frontG4 (cs2.map (sub CartonM.l)) rfl ?_; refine G.frontR2 v11 rfl ?_; refine G.pushRow _ (cart_sub (r := r) (k := k) (l := b.1)) rfl ?_; refine G.v (rv_assign rfl) rfl (G.done (G.inN (G.thenN (G.region (G.v (rv_move rfl) rfl ?_))))); refine G.v (rv_incr rfl rfl (by omega)) rfl ?_; refine G.v (rv_assign rfl) rfl (G.done ?_); refine G.frontR4 va rfl ?_; refine G.frontG1 ((cs2 ++ [(cartonM r k b.1, v11)]).map (sub CartonM.l)) rfl ?_
                 (refine G.keep2 3 rfl ?_; refine G.backK (i + 1, cs2 ++ [(cartonM r k b.1, v11)], va) 0 (two_eq rfl (congrArg (fun z => Ch.row va 54 3 z) cart_cells)) (.cons rfl (.cons rfl (.cons rfl (.cons rfl (.nil))))) ?_ ?_ ?_)
                 · exact ⟨rfl, rfl, trivial⟩
                 · exact ⟨hlt, cart_next hM2 hb, by rw [List.length_append, List.length_singleton]; omega⟩
                 · dsimp only; omega
        · try exact Bool.noConfusion hc
          all_goals
           try replace hc := of_decide_eq_false hc
           try simp only [hgl] at hc
           try (exfalso; omega)
           all_goals
            refine G.exit (G.thenX (G.thenX (G.inX (G.inN (G.thenN (G.region (G.v (rv_move rfl) rfl ?_))))))); refine G.v (rv_incr rfl rfl (by omega)) rfl ?_; refine G.v (rv_assign rfl) rfl (G.done ?_); refine G.frontR1 v3 rfl ?_; refine G.frontG1 (cs2.map (sub CartonM.l)) rfl ?_
            (refine G.keep2 3 rfl ?_; refine G.backK (k + 1, cs2, v3) 0 rfl (.cons rfl (.cons rfl (.nil))) ?_ ?_ ?_)
            · exact ⟨rfl, rfl, trivial⟩
            · exact ⟨by (dsimp only; omega), by rw [cartons_next, hM2, take_all (by rw [List.length_map]; omega), hts]; rfl, by (dsimp only; omega)⟩
            · dsimp only; omega
   · try exact Bool.noConfusion hc
     all_goals
      try replace hc := of_decide_eq_false hc
      try simp only [hgl] at hc
      try (exfalso; contradiction)
      all_goals
       refine G.exit (G.thenX (G.thenX (G.inX (G.thenN (G.seq (G.region (G.v (rv_move rfl) rfl (G.v (rv_assign rfl) rfl (G.done (G.thenN (G.ret ?_))))))))))); refine G.know (fun w hw => (Rd.owned 1 rfl w hw).one_) (fun hone => G.retF (v2, cs) ⟨hone, by rw [hM, cartonsM, show k = (groupsOfM r).length by omega]⟩ rfl rfl rfl (fun w hw => hw.sublist (by repeat (first | exact List.Sublist.refl _ | refine List.Sublist.cons_cons _ ?_ | refine List.Sublist.cons _ ?_))))
end
theorem cartons_len (r : ReqM) : ∀ n, ((List.range n).flatMap (cartonsAt r)).length ≤ 48 * n
  | 0 => by simp
  | n + 1 => by
    have h1 := cartons_len r n
    have h2 := wayM_len r (unitsI r n)
    have h3 := unitsI_len r n
    rw [cartons_next, List.length_append, cartonsAt, List.length_map]; omega
theorem cartons_elt {r : ReqM} {c : CartonM} (h : c ∈ cartonsM r) : c.l.length ≤ 48 := by
  obtain ⟨k, _, h2⟩ := List.mem_flatMap.1 h
  obtain ⟨l, hl, rfl⟩ := List.mem_map.1 h2
  obtain ⟨i, hi⟩ := List.mem_iff_getElem?.1 hl
  have h3 := wayM_elt hi
  have h4 := unitsI_len r k
  show (sortM l).length ≤ 48
  rw [sortM_len]; omega
end Go.Proofs.YtglpgohilfoecaaGreat

/-
  Boxes, shelves and layers that are right for a pallet; the depth of shelves.
-/
namespace Go.Proofs.YtglpgohilfoecaaGreat
open Go.RowKit
attribute [local irreducible] Go.wpList Go.Code.wp Go.Exit.then Go.Exit.inBlock Go.bodyPost Go.Calls pE pB G RunsV FnV Fn FnM
set_option maxRecDepth 100000

end Go.Proofs.YtglpgohilfoecaaGreat

/-
  Shelves that are put into layers, and layers into loads.
-/
namespace Go.Proofs.YtglpgohilfoecaaGreat
open Go.RowKit
attribute [local irreducible] Go.wpList Go.Code.wp Go.Exit.then Go.Exit.inBlock Go.bodyPost Go.Calls pE pB G RunsV FnV Fn FnM
set_option maxRecDepth 100000
set_option maxHeartbeats 1000000
end Go.Proofs.YtglpgohilfoecaaGreat

/-
  Boxes that are put on shelves: the program's way.
-/
namespace Go.Proofs.YtglpgohilfoecaaGreat
open Go.RowKit
attribute [local irreducible] Go.wpList Go.Code.wp Go.Exit.then Go.Exit.inBlock Go.bodyPost Go.Calls pE pB G RunsV FnV Fn FnM
set_option maxRecDepth 100000
set_option maxHeartbeats 1000000
end Go.Proofs.YtglpgohilfoecaaGreat

/-
  Boxes that are put on shelves: the reference's way.
-/
namespace Go.Proofs.YtglpgohilfoecaaGreat
open Go.RowKit
attribute [local irreducible] Go.wpList Go.Code.wp Go.Exit.then Go.Exit.inBlock Go.bodyPost Go.Calls pE pB G RunsV FnV Fn FnM
set_option maxRecDepth 100000
set_option maxHeartbeats 1000000
end Go.Proofs.YtglpgohilfoecaaGreat

/-
  What piles keep: their order, their need, their sums. No program is in sight here.
-/
namespace Go.Proofs.YtglpgohilfoecaaGreat
open Go.RowKit
section
variable {M S : Type} {room : M → S → Bool} {add : M → Nat → S → M} {z : M} (f : M → List Int) (hz : f z = []) (ha : ∀ t k s, f (add t k s) = f t ++ [(k : Int)])
include hz ha
end
/-! ### Shelves -/
def wAt (l : List BoxM) (n : Int) : Int := (boxAt l n.toNat).w
def gAt (l : List BoxM) (n : Int) : Int := (boxAt l n.toNat).g
structure ShOk (p : PalletM) (l : List BoxM) (t : ShelfM) : Prop where
  at_ : ∀ n ∈ t.l, ∃ j : Nat, n = (j : Int) ∧ j < l.length ∧ (boxAt l j).d ≤ t.d ∧ (boxAt l j).h ≤ t.h
  ws : (t.l.map (wAt l)).sum = t.w
  gs : (t.l.map (gAt l)).sum = t.g
  wb : t.w ≤ p.w
  gb : t.g ≤ p.g
structure Dsc (l : List BoxM) (out : List ShelfM) (xs : List (BoxM × Nat)) : Prop where
  pw : out.Pairwise fun s t => t.d ≤ s.d
  nx : ∀ t ∈ out, ∀ x ∈ xs, x.1.d ≤ t.d
  hd : ∀ t ∈ out, ∃ j : Nat, t.l[0]? = some (j : Int) ∧ t.d = (boxAt l j).d
end Go.Proofs.YtglpgohilfoecaaGreat

/-
  What layers and loads keep. No program is in sight here.
-/
namespace Go.Proofs.YtglpgohilfoecaaGreat
open Go.RowKit
section
variable {M : Type} {f : M → List Int} {m : List M} {i k N : Nat} {t : M} {x : Int}
def offM (f : M → List Int) (m : List M) (i : Nat) : Nat := ((m.take i).map f).flatten.length
end
end Go.Proofs.YtglpgohilfoecaaGreat

/-
  Where boxes stand: no program is in sight here.
-/
namespace Go.Proofs.YtglpgohilfoecaaGreat
open Go.RowKit
def shAt (ss : List ShelfM) (n : Int) : ShelfM := ss.getD n.toNat shelfZ
def lyAt (ls : List LayerM) (n : Int) : LayerM := ls.getD n.toNat layZ
def boxStep (l : List BoxM) (o y z : Int) (st : List SpotM × Int) (b : Int) : List SpotM × Int := (st.1.set b.toNat ⟨o, st.2, y, z⟩, IntKind.i64.wrap (st.2 + (boxAt l b.toNat).w))
def shelfStep (l : List BoxM) (ss : List ShelfM) (o z : Int) (st : List SpotM × Int) (s : Int) : List SpotM × Int := (((shAt ss s).l.foldl (boxStep l o st.2 z) (st.1, 0)).1, IntKind.i64.wrap (st.2 + (shAt ss s).d))
def layerStep (l : List BoxM) (ss : List ShelfM) (ls : List LayerM) (o : Int) (st : List SpotM × Int) (i : Int) : List SpotM × Int := (((lyAt ls i).l.foldl (shelfStep l ss o st.2) (st.1, 0)).1, IntKind.i64.wrap (st.2 + (lyAt ls i).h))
def loadStep (l : List BoxM) (ss : List ShelfM) (ls : List LayerM) (out : List SpotM) (x : LoadM × Nat) : List SpotM := (x.1.l.foldl (layerStep l ss ls (x.2 : Int)) (out, 0)).1
def spotsM (p : PalletM) (l : List BoxM) : List SpotM :=
  if boxesOkM p l then (loadsM p (layersM p (shelvesM p l))).zipIdx.foldl (loadStep l (shelvesM p l) (layersM p (shelvesM p l))) (List.replicate l.length ⟨0, 0, 0, 0⟩) else []
section
variable {l : List BoxM} {ss : List ShelfM} {ls : List LayerM} {o y z : Int}
end
end Go.Proofs.YtglpgohilfoecaaGreat

/-
  Where boxes stand: the program's way.
-/
namespace Go.Proofs.YtglpgohilfoecaaGreat
open Go.RowKit
attribute [local irreducible] Go.wpList Go.Code.wp Go.Exit.then Go.Exit.inBlock Go.bodyPost Go.Calls pE pB G RunsV FnV Fn FnM
set_option maxRecDepth 100000
set_option maxHeartbeats 4000000
end Go.Proofs.YtglpgohilfoecaaGreat

/-
  Where boxes stand: the reference's way.
-/
namespace Go.Proofs.YtglpgohilfoecaaGreat
open Go.RowKit
attribute [local irreducible] Go.wpList Go.Code.wp Go.Exit.then Go.Exit.inBlock Go.bodyPost Go.Calls pE pB G RunsV FnV Fn FnM
set_option maxRecDepth 100000
set_option maxHeartbeats 4000000
end Go.Proofs.YtglpgohilfoecaaGreat

/-
  The cartons of both ways are a packing.
-/
namespace Go.Proofs.YtglpgohilfoecaaGreat
theorem last_perm (p : List Int → Bool) (x : Int) (l : List (List Int)) : (lastM p l x).flatten.Perm (l.flatten ++ [x]) := by
  rw [lastM]
  cases hl : l.getLast? with
  | none => simp only [List.flatten_append, List.flatten_cons, List.flatten_nil, List.append_nil]; exact List.Perm.refl _
  | some g =>
    obtain ⟨ys, rfl⟩ := List.getLast?_eq_some_iff.1 hl
    by_cases hp : p g = true
    · simp only [hp, if_true]
      have e : (ys ++ [g]).set ((ys ++ [g]).length - 1) (g ++ [x]) = ys ++ [g ++ [x]] := by simp
      rw [e]; simp
    · simp only [hp]; simp
theorem lastAll_perm (p : List Int → Int → Bool) (l : List Int) : (lastAll p l).flatten.Perm l := by
  have : ∀ (l : List Int) (out : List (List Int)), (l.foldl (fun out x => lastM (fun g => p g x) out x) out).flatten.Perm (out.flatten ++ l) := by
    intro l
    induction l with
    | nil => intro out; simp
    | cons x r ih =>
      intro out
      rw [List.foldl_cons]
      refine (ih _).trans ?_; refine ((last_perm _ x out).append_right r).trans ?_
      simp
  have h := this l []
  rw [lastAll]; simpa using h
theorem put_perm (p : List Int → Bool) (x : Int) : ∀ l : List (List Int), (putM p l x).flatten.Perm (l.flatten ++ [x])
  | [] => by simp [putM]
  | g :: r => by
    have ih := put_perm p x r
    rw [putM]
    split
    · simp only [List.flatten_cons, List.append_assoc]
      exact List.Perm.append_left g (List.perm_append_comm)
    · simp only [List.flatten_cons, List.append_assoc]
      exact List.Perm.append_left g ih
theorem putAll_perm (p : List Int → Int → Bool) (l : List Int) : (putAll p l).flatten.Perm l := by
  have : ∀ (l : List Int) (out : List (List Int)), (l.foldl (fun out x => putM (fun g => p g x) out x) out).flatten.Perm (out.flatten ++ l) := by
    intro l
    induction l with
    | nil => intro out; simp
    | cons x r ih =>
      intro out
      rw [List.foldl_cons]
      refine (ih _).trans ?_; refine ((put_perm _ x out).append_right r).trans ?_
      simp
  have h := this l []
  rw [putAll]; simpa using h
theorem ordU_perm (r : ReqM) (t : List Int) : (ordU r t).Perm t := by
  have h := (ordM_perm (keyM (t.map (vOf r))) t.length).map (fun i => t.getD i 0)
  refine h.trans (List.Perm.of_eq ?_); refine List.ext_getElem (by simp) (fun i h1 h2 => ?_)
  simp only [List.getElem_map, List.getElem_range]
  rw [List.getD_eq_getElem?_getD, List.getElem?_eq_getElem h2]; rfl
theorem last_all {Q : List Int → Prop} {p : List Int → Bool} {x : Int} {l : List (List Int)} (h1 : Q [x]) (h2 : ∀ g, p g = true → Q (g ++ [x])) (hl : ∀ g ∈ l, Q g) : ∀ g ∈ lastM p l x, Q g := by
  intro g hg
  rw [lastM] at hg
  cases h : l.getLast? with
  | none =>
    rw [h] at hg
    rcases List.mem_append.1 hg with hg | hg
    · exact hl g hg
    · rw [List.mem_singleton.1 hg]; exact h1
  | some b =>
    rw [h] at hg
    dsimp only at hg
    split at hg
    · rename_i hp
      rcases List.mem_or_eq_of_mem_set hg with hg | rfl
      · exact hl g hg
      · exact h2 b hp
    · rcases List.mem_append.1 hg with hg | hg
      · exact hl g hg
      · rw [List.mem_singleton.1 hg]; exact h1
theorem put_all {Q : List Int → Prop} {p : List Int → Bool} {x : Int} (h1 : Q [x]) (h2 : ∀ g, p g = true → Q (g ++ [x])) : ∀ {l : List (List Int)}, (∀ g ∈ l, Q g) → ∀ g ∈ putM p l x, Q g
  | [], _, g, hg => by rw [putM, List.mem_singleton] at hg; rw [hg]; exact h1
  | b :: r, hl, g, hg => by
    rw [putM] at hg
    split at hg
    · rename_i hp
      rcases List.mem_cons.1 hg with rfl | hg
      · exact h2 b hp
      · exact hl g (List.mem_cons_of_mem _ hg)
    · rcases List.mem_cons.1 hg with rfl | hg
      · exact hl g List.mem_cons_self
      · exact put_all h1 h2 (fun c hc => hl c (List.mem_cons_of_mem _ hc)) g hg
theorem fold_all {Q : List Int → Prop} {f : List (List Int) → Int → List (List Int)} : ∀ {l : List Int} {out : List (List Int)}, (∀ x ∈ l, ∀ o : List (List Int), (∀ g ∈ o, Q g) → ∀ g ∈ f o x, Q g) → (∀ g ∈ out, Q g) → ∀ g ∈ l.foldl f out, Q g
  | [], _, _, ho => ho
  | x :: r, out, hs, ho => by
    rw [List.foldl_cons]
    exact fold_all (fun y hy => hs y (List.mem_cons_of_mem _ hy)) (hs x List.mem_cons_self out ho)
theorem itemAt_mem {r : ReqM} {u : Int} {x : ItemM} (h : itemAt r u = some x) : x ∈ r.items := by
  rw [itemAt] at h
  split at h
  · obtain ⟨i, _, h2⟩ := Option.bind_eq_some_iff.1 h; exact List.mem_of_getElem? h2
  · cases h
theorem cls_fits {r : ReqM} (h : classM r = 0) : ∀ x ∈ r.items, fitsM x (mst r) = true := by
  intro x hx
  cases hb : r.items.any (fun x => !fitsM x (typeAt r r.master).1) with
  | false => have := List.any_eq_false.1 hb x hx; rw [mst]; simpa using this
  | true =>
    exfalso
    rw [classM] at h
    split at h
    · omega
    · split at h
      · omega
      · split at h
        · omega
        · first | omega | (rw [if_pos hb] at h; omega)
theorem perm_prod {xs ys : List Int} (h : xs.Perm ys) : xs.foldr (· * ·) 1 = ys.foldr (· * ·) 1 := by
  induction h with
  | nil => rfl
  | cons x _ ih => simp only [List.foldr_cons, ih]
  | swap x y l => simp only [List.foldr_cons]; exact Int.mul_left_comm _ _ _
  | trans _ _ ih1 ih2 => rw [ih1, ih2]
theorem prod3_le {a b c a' b' c' : Int} (ha : 1 ≤ a ∧ a ≤ a') (hb : 1 ≤ b ∧ b ≤ b') (hc : 1 ≤ c ∧ c ≤ c') : a * (b * (c * 1)) ≤ a' * (b' * (c' * 1)) := by
  rw [Int.mul_one, Int.mul_one]
  have h1 : b * c ≤ b' * c' := Int.mul_le_mul hb.2 hc.2 (by omega) (by omega)
  have h2 : 0 ≤ b * c := Int.mul_nonneg (by omega) (by omega)
  exact Int.mul_le_mul ha.2 h1 h2 (by omega)
theorem volM_val {w h d : Int} (hw : 1 ≤ w ∧ w ≤ 2000) (hh : 1 ≤ h ∧ h ≤ 2000) (hd : 1 ≤ d ∧ d ≤ 2000) : volM w h d = w * (h * (d * 1)) := by
  have e : (inB w 0 2000 && inB h 0 2000 && inB d 0 2000) = true := by simp only [inB, Bool.and_eq_true, decide_eq_true_eq]; omega
  have a1 : 1 ≤ w * h := by have := Int.mul_le_mul hw.1 hh.1 (by omega) (by omega); omega
  have a2 : w * h ≤ 4000000 := by have := Int.mul_le_mul hw.2 hh.2 (by omega) (by omega); omega
  have a3 : 1 ≤ w * h * d := by have := Int.mul_le_mul a1 hd.1 (by omega) (by omega); omega
  have a4 : w * h * d ≤ 8000000000 := by have := Int.mul_le_mul a2 hd.2 (by omega) (by omega); omega
  have e1 : IntKind.i64.wrap (w * h) = w * h := wrap64_id (by omega) (by omega)
  have e2 : IntKind.i64.wrap (w * h * d) = w * h * d := wrap64_id (by omega) (by omega)
  rw [volM, if_pos e, e1, e2, Int.mul_one, Int.mul_assoc]
theorem fits_vol {x : ItemM} {t : TypeM} (h : fitsM x t = true) (hx : itemOkM x = true) (ht : typeOkM t = true) : vI x ≤ volM t.w t.h t.d ∧ x.g ≤ t.g := by
  simp only [itemOkM, typeOkM, inB, Bool.and_eq_true, decide_eq_true_eq] at hx ht
  obtain ⟨a0, a1, a2, ha⟩ := three (sortM_len [x.w, x.h, x.d])
  obtain ⟨b0, b1, b2, hb⟩ := three (sortM_len [t.w, t.h, t.d])
  simp only [fitsM, ha, hb, le3, Bool.and_eq_true, decide_eq_true_eq] at h
  have pa := perm_prod (sortM_perm [x.w, x.h, x.d])
  have pb := perm_prod (sortM_perm [t.w, t.h, t.d])
  rw [ha] at pa
  rw [hb] at pb
  have hm : ∀ y ∈ [a0, a1, a2], 1 ≤ y := fun y hy => by
    have := (sortM_perm [x.w, x.h, x.d]).mem_iff.1 (ha ▸ hy)
    simp only [List.mem_cons, List.not_mem_nil, or_false] at this
    omega
  have q0 := hm a0 (by simp)
  have q1 := hm a1 (by simp)
  have q2 := hm a2 (by simp)
  refine ⟨?_, h.2⟩
  rw [vI, volM_val (by omega) (by omega) (by omega), volM_val (by omega) (by omega) (by omega)]
  simp only [List.foldr_cons, List.foldr_nil] at pa pb
  rw [← pa, ← pb]
  exact prod3_le ⟨q0, h.1.1.1⟩ ⟨q1, h.1.1.2⟩ ⟨q2, h.1.2⟩
/-- A unit alone is held by the master carton. -/
theorem one_holds {r : ReqM} {u : Int} (hc : classM r = 0) (hu : hereM r u = true) : holdsM r [u] = true := by
  obtain ⟨m, i, x, _, _, _, hx⟩ := item_in (r := r) (u := u) (by rw [List.length_map]; exact hu)
  have hf := fits_vol (cls_fits hc x (itemAt_mem hx)) (List.all_eq_true.1 (bounds_items (cls_sound hc)) x (itemAt_mem hx)) (mst_ok hc)
  rw [holdsM]
  simp only [volUS, gramM, List.map_cons, List.map_nil, List.sum_cons, List.sum_nil, vOf, gOf, hx, Bool.and_eq_true, decide_eq_true_eq]
  omega
theorem okCs_of {r : ReqM} {cs : List (List Int)} (h : ∀ g ∈ cs, g.length ≠ 0 ∧ holdsM r g = true) : okCs r cs = true := by
  rw [okCs, List.all_eq_true]
  intro g hg
  rw [Bool.and_eq_true, decide_eq_true_eq]
  exact h g hg
theorem next_pack {r : ReqM} (hc : classM r = 0) (us : List Int) : packM r us (nextM r us) = true := by
  have h1 : okCs r (nextM r us) = true := okCs_of (fold_all (Q := fun g => g.length ≠ 0 ∧ holdsM r g = true) (fun x hx o ho => last_all ⟨by simp, one_holds hc (List.mem_filter.1 hx).2⟩ (fun g hp => ⟨by simp, by rw [← room_yes hc]; exact hp⟩) ho) (fun g hg => absurd hg List.not_mem_nil))
  rw [packM_ok hc h1, decide_eq_true_eq, sortM_eq]
  exact lastAll_perm _ _
theorem first_pack {r : ReqM} (hc : classM r = 0) (us : List Int) : packM r us (firstM r us) = true := by
  have h1 : okCs r (firstM r us) = true := okCs_of (fold_all (Q := fun g => g.length ≠ 0 ∧ holdsM r g = true) (fun x hx o ho => put_all ⟨by simp, one_holds hc (List.mem_filter.1 ((ordU_perm r (thereM r us)).mem_iff.1 hx)).2⟩ (fun g hp => ⟨by simp, by rw [← room_yes hc]; exact hp⟩) ho) (fun g hg => absurd hg List.not_mem_nil))
  rw [packM_ok hc h1, decide_eq_true_eq, sortM_eq]
  exact (putAll_perm _ _).trans (ordU_perm r _)
end Go.Proofs.YtglpgohilfoecaaGreat

/-
  No packing has fewer cartons than the lower bounds say.
-/
namespace Go.Proofs.YtglpgohilfoecaaGreat
theorem perm_sumL {xs ys : List Int} (h : xs.Perm ys) : xs.sum = ys.sum := by
  induction h with
  | nil => rfl
  | cons x _ ih => simp only [List.sum_cons, ih]
  | swap x y l => simp only [List.sum_cons]; omega
  | trans _ _ ih1 ih2 => rw [ih1, ih2]
end Go.Proofs.YtglpgohilfoecaaGreat

/-
  What the cartons of an order are: each of the cheapest type, all of them together all units.
-/
namespace Go.Proofs.YtglpgohilfoecaaGreat
theorem way_pack {r : ReqM} (hc : classM r = 0) (us : List Int) : packM r us (wayM r us) = true := by
  rw [wayM]; split
  · exact next_pack hc us
  · exact first_pack hc us
theorem pack_parts {r : ReqM} {us : List Int} {cs : List (List Int)} (h : packM r us cs = true) : (∀ c ∈ cs, c ≠ [] ∧ holdsM r c = true) ∧ cs.flatten.Perm (thereM r us) := by
  rw [packM] at h
  simp only [Bool.and_eq_true, decide_eq_true_eq] at h
  obtain ⟨_, ho, hs⟩ := h
  rw [okCs, List.all_eq_true] at ho
  refine ⟨fun c hcm => ?_, sortM_eq.1 hs⟩
  have := ho c hcm
  rw [Bool.and_eq_true, decide_eq_true_eq] at this
  exact ⟨fun e => this.1 (by rw [e]; rfl), this.2⟩
theorem withinT_perm {r : ReqM} {a b : List Int} (h : a.Perm b) (t : TypeM) : withinT r a t = withinT r b t := by
  rw [withinT, withinT, volUS, volUS, gramM, gramM, perm_sumL (h.map (vOf r)), perm_sumL (h.map (gOf r))]
theorem all_permB {f : Int → Bool} {a b : List Int} (h : a.Perm b) : a.all f = b.all f := by
  rw [Bool.eq_iff_iff, List.all_eq_true, List.all_eq_true]
  exact ⟨fun k x hx => k x (h.mem_iff.2 hx), fun k x hx => k x (h.mem_iff.1 hx)⟩
theorem hold_permT {r : ReqM} {a b : List Int} (h : a.Perm b) (t : TypeM) : holdM r a t = holdM r b t := by
  rw [holdM, holdM, all_permB h, withinT_perm h]
theorem cheap_perm {r : ReqM} {a b : List Int} (h : a.Perm b) : cheapM r a = cheapM r b := by
  rw [cheapM, cheapM]
  have : cheapStep r a = cheapStep r b := by funext x t; rw [cheapStep, cheapStep, hold_permT h]
  rw [this]
theorem cheap_inv {r : ReqM} {c : List Int} : ∀ (ts : List TypeM) (a : TypeM × Bool), (a.2 = true → a.1 ∈ r.types ∧ holdM r c a.1 = true) → (∀ t ∈ ts, t ∈ r.types) →
    ((ts.foldl (cheapStep r c) a).2 = true → (ts.foldl (cheapStep r c) a).1 ∈ r.types ∧ holdM r c (ts.foldl (cheapStep r c) a).1 = true) ∧ (a.2 = true → (ts.foldl (cheapStep r c) a).2 = true ∧ (ts.foldl (cheapStep r c) a).1.cost ≤ a.1.cost) ∧ (∀ t ∈ ts, holdM r c t = true → (ts.foldl (cheapStep r c) a).2 = true ∧ (ts.foldl (cheapStep r c) a).1.cost ≤ t.cost)
  | [], a, h, _ => ⟨h, fun k => ⟨k, Int.le_refl _⟩, fun t ht => absurd ht List.not_mem_nil⟩
  | t :: ts, a, h, hts => by
    rw [List.foldl_cons]
    by_cases hb : (holdM r c t && betterM a t) = true
    · have e : cheapStep r c a t = (t, true) := by rw [cheapStep, if_pos hb]
      rw [e]
      rw [Bool.and_eq_true] at hb
      obtain ⟨i1, i2, i3⟩ := cheap_inv (r := r) (c := c) ts (t, true) (fun _ => ⟨hts t List.mem_cons_self, hb.1⟩) (fun s hs => hts s (List.mem_cons_of_mem _ hs))
      obtain ⟨j1, j2⟩ := i2 rfl
      refine ⟨i1, fun ha => ⟨j1, ?_⟩, fun s hs hh => ?_⟩
      · have h2 := hb.2
        rw [betterM, ha] at h2
        simp only [Bool.not_true, Bool.false_or, Bool.or_eq_true, Bool.and_eq_true, decide_eq_true_eq] at h2
        dsimp only at j2
        omega
      · rcases List.mem_cons.1 hs with rfl | hs
        · exact ⟨j1, j2⟩
        · exact i3 s hs hh
    · have e : cheapStep r c a t = a := by rw [cheapStep, if_neg hb]
      rw [e]
      obtain ⟨i1, i2, i3⟩ := cheap_inv (r := r) (c := c) ts a h (fun s hs => hts s (List.mem_cons_of_mem _ hs))
      refine ⟨i1, i2, fun s hs hh => ?_⟩
      rcases List.mem_cons.1 hs with rfl | hs
      · rw [hh, Bool.true_and, betterM] at hb
        simp only [Bool.or_eq_true, Bool.not_eq_true', Bool.and_eq_true, decide_eq_true_eq, not_or] at hb
        have ha : a.2 = true := by
          cases h2 : a.2 with
          | true => rfl
          | false => exact absurd h2 hb.1.1
        obtain ⟨j1, j2⟩ := i2 ha
        exact ⟨j1, by omega⟩
      · exact i3 s hs hh
theorem cheap_is {r : ReqM} {c : List Int} {t : TypeM} (ht : t ∈ r.types) (h : holdM r c t = true) : (cheapM r c).2 = true ∧ (cheapM r c).1 ∈ r.types ∧ holdM r c (cheapM r c).1 = true ∧ (cheapM r c).1.cost ≤ t.cost := by
  obtain ⟨i1, _, i3⟩ := cheap_inv (r := r) (c := c) r.types (typeZ, false) (fun h => by cases h) (fun t ht => ht)
  obtain ⟨j1, j2⟩ := i3 t ht h
  obtain ⟨k1, k2⟩ := i1 j1
  exact ⟨j1, k1, k2, j2⟩
theorem names_of {r : ReqM} (h : classM r = 0) : namesM r = true := by
  have hb := cls_sound h
  cases hn : namesM r with
  | true => rfl
  | false => rw [classM, if_neg (by simp [hb]), if_pos hn] at h; omega
theorem type_uniq {r : ReqM} (hc : classM r = 0) {t : TypeM} (ht : t ∈ r.types) : typeAt r t.id = (t, true) := by
  have hn := names_of hc
  simp only [namesM, Bool.and_eq_true, List.all_eq_true, List.mem_range] at hn
  obtain ⟨i, hi, rfl⟩ := List.getElem_of_mem ht
  have hd := hn.1.1.1 i hi
  rw [dup_at (List.getElem?_eq_getElem hi)] at hd
  refine typeAt_yes (List.find?_eq_some_iff_append.2 ⟨by simp, r.types.take i, r.types.drop (i + 1), ?_, fun s hs => ?_⟩)
  · rw [← List.drop_eq_getElem_cons hi, List.take_append_drop]
  · cases he : decide (s.id = r.types[i].id) with
    | false => rfl
    | true =>
      exfalso
      have : (r.types.take i).any (fun q => decide (q.id = r.types[i].id)) = true := List.any_eq_true.2 ⟨s, hs, he⟩
      rw [this] at hd
      cases hd
theorem mst_is {r : ReqM} (hc : classM r = 0) : mst r ∈ r.types ∧ (mst r).id = r.master ∧ (typeAt r r.master).2 = true := by
  have hn := names_of hc
  simp only [namesM, Bool.and_eq_true] at hn
  have h2 := hn.2
  rw [mst]
  rw [typeAt] at h2 ⊢
  cases hf : typeByM r r.master with
  | none => rw [hf] at h2; cases h2
  | some t =>
    refine ⟨List.mem_of_find?_eq_some hf, ?_, rfl⟩
    have := List.find?_some hf
    simpa using this
theorem mst_holds {r : ReqM} (hc : classM r = 0) {l : List Int} (hh : ∀ u ∈ l, hereM r u = true) (hl : holdsM r l = true) : holdM r l (mst r) = true := by
  rw [holdM, within_mst, hl, decide_eq_true hc, Bool.true_and, Bool.and_true, List.all_eq_true]
  intro u hu
  have h1 := hh u hu
  rw [here_item] at h1
  rw [unitFits]
  cases hx : itemAt r u with
  | none => rw [hx] at h1; cases h1
  | some x => exact cls_fits hc x (itemAt_mem hx)
theorem cart_mem {r : ReqM} (hc : classM r = 0) {x : CartonM} (hx : x ∈ cartonsM r) : ∃ (k : Nat) (l : List Int), k < (groupsOfM r).length ∧ x = cartonM r k l ∧ l ∈ wayM r (unitsI r k) ∧ l ≠ [] ∧ holdsM r l = true ∧ (∀ u ∈ l, hereM r u = true) := by
  rw [cartonsM, List.mem_flatMap] at hx
  obtain ⟨k, hk, hx⟩ := hx
  rw [cartonsAt, List.mem_map] at hx
  obtain ⟨l, hl, rfl⟩ := hx
  obtain ⟨p1, p2⟩ := pack_parts (way_pack hc (unitsI r k))
  obtain ⟨q1, q2⟩ := p1 l hl
  refine ⟨k, l, List.mem_range.1 hk, rfl, hl, q1, q2, fun u hu => ?_⟩
  have : u ∈ thereM r (unitsI r k) := p2.mem_iff.1 (List.mem_flatten.2 ⟨l, hl, hu⟩)
  exact (List.mem_filter.1 this).2
/-- What is so of each carton. -/
theorem cart_ok {r : ReqM} (hc : classM r = 0) {x : CartonM} (hx : x ∈ cartonsM r) : x.l ≠ [] ∧ (cheapM r x.l).2 = true ∧ (cheapM r x.l).1.id = x.t ∧ typeAt r x.t = ((cheapM r x.l).1, true) ∧ (cheapM r x.l).1 ∈ r.types ∧ holdM r x.l (cheapM r x.l).1 = true ∧ grossM r x = (cheapM r x.l).1.tare + gramM r x.l ∧ grossM r x ≤ (cheapM r x.l).1.tare + (cheapM r x.l).1.g ∧ (cheapM r x.l).1.cost ≤ (mst r).cost := by
  obtain ⟨k, l, hk, rfl, hl, hne, hh, hu⟩ := cart_mem hc hx
  have hp : (sortM l).Perm l := sortM_perm l
  have ec : cheapM r (sortM l) = cheapM r l := cheap_perm hp
  obtain ⟨c1, c2, c3, c4⟩ := cheap_is (mst_is hc).1 (mst_holds hc hu hh)
  have et := type_uniq hc c2
  have eg : grossM r (cartonM r k l) = (cheapM r l).1.tare + gramM r (sortM l) := by
    rw [grossM, cartonM, et]
    dsimp only
    rw [if_pos ⟨rfl, hc⟩]
  refine ⟨?_, ?_, ?_, ?_, ?_, ?_, ?_, ?_, ?_⟩
  · intro e
    have e2 : sortM l = [] := e
    exact hne (List.length_eq_zero_iff.1 (by rw [← sortM_len l, e2]; rfl))
  · show (cheapM r (sortM l)).2 = true
    rw [ec]; exact c1
  · show (cheapM r (sortM l)).1.id = (cheapM r l).1.id
    rw [ec]
  · show typeAt r (cheapM r l).1.id = ((cheapM r (sortM l)).1, true)
    rw [ec]; exact et
  · show (cheapM r (sortM l)).1 ∈ r.types
    rw [ec]; exact c2
  · show holdM r (sortM l) (cheapM r (sortM l)).1 = true
    rw [ec, hold_permT hp]; exact c3
  · show grossM r (cartonM r k l) = (cheapM r (sortM l)).1.tare + gramM r (sortM l)
    rw [ec]; exact eg
  · show grossM r (cartonM r k l) ≤ (cheapM r (sortM l)).1.tare + (cheapM r (sortM l)).1.g
    rw [ec, eg, gramM, perm_sumL (hp.map (gOf r))]
    rw [holdM] at c3
    simp only [Bool.and_eq_true, withinT, decide_eq_true_eq] at c3
    have := c3.2.2.2
    rw [gramM] at this
    omega
  · show (cheapM r (sortM l)).1.cost ≤ (mst r).cost
    rw [ec]; exact c4
/-- All units of an order. -/
def allU (r : ReqM) : List Int := (List.range (unitsM r).length).map (fun n : Nat => (n : Int))
end Go.Proofs.YtglpgohilfoecaaGreat

/-
  What cartons cost; how often a number is in a list.
-/
namespace Go.Proofs.YtglpgohilfoecaaGreat
open Go.RowKit
def costAt (r : ReqM) (c : CartonM) : Int := (typeAt r c.t).1.cost
def costM (r : ReqM) (cs : List CartonM) : Int := if classM r = 0 then (cs.map (costAt r)).sum else 0
theorem costAt_in {r : ReqM} (hc : classM r = 0) (c : CartonM) : 0 ≤ costAt r c ∧ costAt r c ≤ 100000 := by
  rw [costAt, typeAt]
  cases hf : typeByM r c.t with
  | none => exact ⟨Int.le_refl _, by decide⟩
  | some t =>
    have := bounds_types (cls_sound hc) t (List.mem_of_find?_eq_some hf)
    simp only [typeOkM, inB, Bool.and_eq_true, decide_eq_true_eq] at this
    exact this.2
theorem cost_next {r : ReqM} {cs : List CartonM} {k : Nat} {c : CartonM} (h : cs[k]? = some c) : ((cs.take (k + 1)).map (costAt r)).sum = ((cs.take k).map (costAt r)).sum + costAt r c := by
  rw [List.take_add_one, h, List.map_append, List.sum_append]; simp
theorem cost_in {r : ReqM} (hc : classM r = 0) : ∀ cs : List CartonM, 0 ≤ (cs.map (costAt r)).sum ∧ (cs.map (costAt r)).sum ≤ 100000 * cs.length
  | [] => by simp
  | c :: cs => by
    have h1 := costAt_in hc c
    have h2 := cost_in hc cs
    rw [List.map_cons, List.sum_cons, List.length_cons]; omega
theorem costM_yes {r : ReqM} (hc : classM r = 0) (cs : List CartonM) : costM r cs = (cs.map (costAt r)).sum := by rw [costM, if_pos hc]
theorem costM_no {r : ReqM} (hc : ¬ classM r = 0) (cs : List CartonM) : costM r cs = 0 := by rw [costM, if_neg hc]
attribute [local irreducible] Go.wpList Go.Code.wp Go.Exit.then Go.Exit.inBlock Go.bodyPost Go.Calls pE pB G RunsV FnV Fn FnM
set_option maxRecDepth 100000
set_option maxHeartbeats 4000000
section
variable {r : ReqM} {pv tv iv lv : Value} {cs : List (CartonM × Value)} (w : World) (h : Rd w pv 2 (r.pairs.map PairM.cells)) (h2 : Rd w tv 7 (r.types.map TypeM.cells)) (h3 : Rd w iv 7 (r.items.map ItemM.cells)) (h4 : Rd w lv 3 (cs.map CartonM.cells)) (hl : cs.length ≤ 1048576)
include h h2 h3 h4 hl
theorem costOf_any : FnV Tryz.prog 27 [.agg (r.cells pv tv iv).toArray, lv] w (.int .i64 (costM r (cs.map Prod.fst))) := by
  have hln : (cs.map CartonM.cells).length = cs.length := by simp
  refine FnV.of (n := 32) Tryz.func27 rfl rfl ?_; refine G.seq (G.region ?_); refine G.op (og_box rfl rfl) rfl (fun bk2 _ => ?_); refine G.v (rv_assign rfl) rfl (G.done (G.thenN (G.seq (G.seq (G.region ?_)))))
  (first | refine G.v (rv_loadW 0 rfl rfl rfl) rfl ?_ | refine G.v (rv_loadW 1 rfl rfl rfl) rfl ?_ | refine G.v (rv_loadW 2 rfl rfl rfl) rfl ?_ | refine G.v (rv_loadW 3 rfl rfl rfl) rfl ?_ | refine G.v (rv_loadW 4 rfl rfl rfl) rfl ?_ | refine G.v (rv_loadP 0 rfl rfl (.one (.one (.one (.one (.one (.one (.one (.one (.one (.one .nil))))))))))) rfl ?_ | refine G.v (rv_loadP 1 rfl rfl (.one (.one (.one (.one (.one (.one (.one (.one (.one (.one .nil))))))))))) rfl ?_ | refine G.v (rv_loadP 2 rfl rfl (.one (.one (.one (.one (.one (.one (.one (.one (.one (.one .nil))))))))))) rfl ?_ | refine G.v (rv_loadP 3 rfl rfl (.one (.one (.one (.one (.one (.one (.one (.one (.one (.one .nil))))))))))) rfl ?_ | refine G.v (rv_loadP 4 rfl rfl (.one (.one (.one (.one (.one (.one (.one (.one (.one (.one .nil))))))))))) rfl ?_)
  refine G.op (og_callV rfl rfl (fun w hh => sound_any (r := r) w (Rd.stays h _ hh) (Rd.stays h2 _ hh) (Rd.stays h3 _ hh))) rfl (fun _ _ => ?_); refine G.v (rv_not rfl) rfl (G.done (G.thenN ?_)); refine G.cond rfl (fun hc => ?_) (fun hc => ?_)
  · try exact Bool.noConfusion hc
    all_goals
     try replace hc := of_decide_eq_true hc
     try simp only [List.length_map] at hc
     try (exfalso; first | contradiction | omega)
     all_goals
      have hno : ¬ classM r = 0 := (by clear h h2 h3 h4; simp_all)
      all_goals
       refine G.seq (G.region (G.v (rv_assign rfl) rfl (G.done (G.thenN (G.ret (G.thenR ?_))))))
       first | exact G.retFV rfl rfl (congrArg (Value.int .i64) (costM_no hno _).symm) | exact G.retFV rfl rfl (congrArg (Value.int .i64) (by rw [costM_yes hyes, List.take_of_length_le (by rw [List.length_map]; omega)]))
  · try exact Bool.noConfusion hc
    all_goals
     try replace hc := of_decide_eq_false hc
     try simp only [List.length_map] at hc
     try (exfalso; first | contradiction | omega)
     all_goals
      have hyes : classM r = 0 := (by clear h h2 h3 h4; simp_all)
      all_goals
       refine G.skip (G.thenN (G.seq (G.region (G.v (rv_assign rfl) rfl (G.done (G.thenN (G.seq (G.seq (G.region (G.v (rv_move rfl) rfl ?_)))))))))); refine G.v (rv_len rfl (by first | exact Rd.stays (by assumption) | exact Rd.owned 0 rfl | exact Rd.owned 1 rfl | exact Rd.owned 2 rfl | exact Rd.owned 3 rfl | exact Rd.owned 4 rfl)) rfl ?_; refine G.v (rv_move rfl) rfl (G.done (G.thenN (G.block ?_)))
       -- loop 0: turned [5, 15], kept [2, 13, 14]
       refine G.loopK (ι := Nat) (ks := [2, 13, 14]) (fun k => [(5, .int .i64 (((cs.map Prod.fst).take k).map (costAt r)).sum), (15, .int .i64 (k : Int))]) (fun _ => []) (fun k => k ≤ cs.length) (fun k => cs.length - k) 0 (.cons rfl (.cons rfl (.cons rfl (.nil)))) rfl ?_ ?_ ?_
       · exact Nat.zero_le _
       · exact ⟨rfl, rfl, trivial⟩
       rintro k hk
       have hci := cost_in hyes ((cs.map Prod.fst).take k)
       have hcl : ((cs.map Prod.fst).take k).length = k := (by rw [List.length_take, List.length_map]; omega)
       by_cases hlt : k < cs.length
       case' pos => (obtain ⟨b, hb⟩ := get_of_lt hlt; have he := get_map hb CartonM.cells; have hov : b.2.oneCell' = true := (h4.good _ (List.mem_of_getElem? he)).2 b.2 (by simp [CartonM.cells]); have hb1 : (cs.map Prod.fst)[k]? = some b.1 := (by rw [List.getElem?_map, hb]; rfl); have hn := cost_next (r := r) hb1; have hca := costAt_in hyes b.1; rw [show costAt r b.1 = (typeAt r b.1.t).1.cost from rfl] at hn hca)
       all_goals
        refine G.seq (G.region (G.v (rv_lss rfl rfl) rfl (G.done (G.thenN (G.seq ?_))))); refine G.cond rfl (fun hc => ?_) (fun hc => ?_)
        · try exact Bool.noConfusion hc
          all_goals
           try replace hc := of_decide_eq_true hc
           try simp only [List.length_map] at hc
           try (exfalso; first | contradiction | omega)
           all_goals
            refine G.skip (G.thenN (G.seq (G.block (G.seq (G.region ?_)))))
            (first | refine G.v (rv_indexH rfl rfl (by first | exact Rd.stays (by assumption) | exact Rd.owned 0 rfl | exact Rd.owned 1 rfl | exact Rd.owned 2 rfl | exact Rd.owned 3 rfl | exact Rd.owned 4 rfl) rfl (by assumption)) rfl ?_ | refine G.v (rv_index rfl rfl (by first | exact Rd.stays (by assumption) | exact Rd.owned 0 rfl | exact Rd.owned 1 rfl | exact Rd.owned 2 rfl | exact Rd.owned 3 rfl | exact Rd.owned 4 rfl) rfl (by assumption)) rfl ?_)
            (first | refine G.v (rv_loadEW rfl (by first | exact Rd.stays (by assumption) | exact Rd.owned 0 rfl | exact Rd.owned 1 rfl | exact Rd.owned 2 rfl | exact Rd.owned 3 rfl | exact Rd.owned 4 rfl) (by assumption) rfl) rfl ?_ | refine G.v (rv_loadEP rfl (by first | exact Rd.stays (by assumption) | exact Rd.owned 0 rfl | exact Rd.owned 1 rfl | exact Rd.owned 2 rfl | exact Rd.owned 3 rfl | exact Rd.owned 4 rfl) (by assumption) (.one (.one (.one .nil)))) rfl ?_)
            refine G.op (og_alloc) rfl (fun bk7 _ => ?_)
            (first | refine G.op0 (og_st0 rfl rfl rfl rfl rfl (by repeat (first | rfl | refine one_cons (by first | rfl | assumption) ?_)) (.zero (.cons (.cons (.cons .nil))))) (fun _ _ => ?_) | refine G.op0 (og_st1 rfl rfl rfl rfl rfl (by repeat (first | rfl | refine one_cons (by first | rfl | assumption) ?_)) (.zero (.cons (.cons (.cons .nil))))) (fun _ _ => ?_) | refine G.op0 (og_st2 rfl rfl rfl rfl rfl (by repeat (first | rfl | refine one_cons (by first | rfl | assumption) ?_)) (.zero (.cons (.cons (.cons .nil))))) (fun _ _ => ?_) | refine G.op0 (og_st3 rfl rfl rfl rfl rfl (by repeat (first | rfl | refine one_cons (by first | rfl | assumption) ?_)) (.zero (.cons (.cons (.cons .nil))))) (fun _ _ => ?_) | refine G.op0 (og_st4 rfl rfl rfl rfl rfl (by repeat (first | rfl | refine one_cons (by first | rfl | assumption) ?_)) (.zero (.cons (.cons (.cons .nil))))) (fun _ _ => ?_))
            refine G.done (G.thenN (G.seq (G.region ?_)))
            (first | refine G.v (rv_loadW 0 rfl rfl rfl) rfl ?_ | refine G.v (rv_loadW 1 rfl rfl rfl) rfl ?_ | refine G.v (rv_loadW 2 rfl rfl rfl) rfl ?_ | refine G.v (rv_loadW 3 rfl rfl rfl) rfl ?_ | refine G.v (rv_loadW 4 rfl rfl rfl) rfl ?_ | refine G.v (rv_loadP 0 rfl rfl (.one (.one (.one (.one (.one (.one (.one (.one (.one (.one .nil))))))))))) rfl ?_ | refine G.v (rv_loadP 1 rfl rfl (.one (.one (.one (.one (.one (.one (.one (.one (.one (.one .nil))))))))))) rfl ?_ | refine G.v (rv_loadP 2 rfl rfl (.one (.one (.one (.one (.one (.one (.one (.one (.one (.one .nil))))))))))) rfl ?_ | refine G.v (rv_loadP 3 rfl rfl (.one (.one (.one (.one (.one (.one (.one (.one (.one (.one .nil))))))))))) rfl ?_ | refine G.v (rv_loadP 4 rfl rfl (.one (.one (.one (.one (.one (.one (.one (.one (.one (.one .nil))))))))))) rfl ?_)
            (first | refine G.v (rv_field rfl) rfl ?_ | refine G.v (rv_fieldE rfl) rfl ?_)
            (first | refine G.v (rv_load1 0 rfl rfl rfl) rfl ?_ | refine G.v (rv_load1 1 rfl rfl rfl) rfl ?_ | refine G.v (rv_load1 2 rfl rfl rfl) rfl ?_ | refine G.v (rv_load1 3 rfl rfl rfl) rfl ?_ | refine G.v (rv_load1 4 rfl rfl rfl) rfl ?_)
            refine G.op (og_callV rfl rfl (fun w hh => typeById_any (r := r) b.1.t w (Rd.stays h2 _ hh))) rfl (fun _ _ => ?_); refine G.v (rv_move rfl) rfl (G.v (rv_extract rfl rfl) rfl (G.v (rv_extract rfl rfl) rfl ?_)); refine G.op (og_alloc) rfl (fun bk8 _ => ?_)
            (first | refine G.op0 (og_st0 rfl rfl rfl rfl rfl rfl (.zero (.cons (.cons (.cons (.cons (.cons (.cons (.cons .nil))))))))) (fun _ _ => ?_) | refine G.op0 (og_st1 rfl rfl rfl rfl rfl rfl (.zero (.cons (.cons (.cons (.cons (.cons (.cons (.cons .nil))))))))) (fun _ _ => ?_) | refine G.op0 (og_st2 rfl rfl rfl rfl rfl rfl (.zero (.cons (.cons (.cons (.cons (.cons (.cons (.cons .nil))))))))) (fun _ _ => ?_) | refine G.op0 (og_st3 rfl rfl rfl rfl rfl rfl (.zero (.cons (.cons (.cons (.cons (.cons (.cons (.cons .nil))))))))) (fun _ _ => ?_) | refine G.op0 (og_st4 rfl rfl rfl rfl rfl rfl (.zero (.cons (.cons (.cons (.cons (.cons (.cons (.cons .nil))))))))) (fun _ _ => ?_))
            refine G.v (rv_assign rfl) rfl (G.done (G.thenN (G.region (G.v (rv_move rfl) rfl ?_))))
            (first | refine G.v (rv_field rfl) rfl ?_ | refine G.v (rv_fieldE rfl) rfl ?_)
            (first | refine G.v (rv_load1 0 rfl rfl rfl) rfl ?_ | refine G.v (rv_load1 1 rfl rfl rfl) rfl ?_ | refine G.v (rv_load1 2 rfl rfl rfl) rfl ?_ | refine G.v (rv_load1 3 rfl rfl rfl) rfl ?_ | refine G.v (rv_load1 4 rfl rfl rfl) rfl ?_)
            (first | refine G.v (rv_incr rfl rfl (by omega)) rfl ?_ | refine G.v (rv_addB rfl rfl (by omega) (by omega)) rfl ?_)
            refine G.v (rv_assign rfl) rfl (G.done (G.inN (G.thenN (G.region ?_))))
            (first | refine G.v (rv_incr rfl rfl (by omega)) rfl ?_ | refine G.v (rv_addB rfl rfl (by omega) (by omega)) rfl ?_)
            refine G.v (rv_move rfl) rfl (G.done ?_)
            first | refine G.backK (k + 1) 0 rfl (.cons rfl (.cons rfl (.cons rfl (.nil)))) ?_ ?_ ?_ | refine G.backK (k + 1) 1 rfl (.cons rfl (.cons rfl (.cons rfl (.nil)))) ?_ ?_ ?_ | refine G.backK (k + 1) 2 rfl (.cons rfl (.cons rfl (.cons rfl (.nil)))) ?_ ?_ ?_
            · exact ⟨congrArg (fun z => some (Value.int .i64 z)) hn.symm, rfl, trivial⟩
            · exact hlt
            · omega
        · try exact Bool.noConfusion hc
          all_goals
           try replace hc := of_decide_eq_false hc
           try simp only [List.length_map] at hc
           try (exfalso; first | contradiction | omega)
           all_goals
            refine G.exit (G.thenX (G.thenX (G.inX (G.thenN (G.seq (G.region (G.v (rv_move rfl) rfl (G.v (rv_assign rfl) rfl (G.done (G.thenN (G.ret ?_)))))))))))
            first | exact G.retFV rfl rfl (congrArg (Value.int .i64) (costM_no hno _).symm) | exact G.retFV rfl rfl (congrArg (Value.int .i64) (by rw [costM_yes hyes, List.take_of_length_le (by rw [List.length_map]; omega)]))
theorem scostOf_any : FnV Tryz.prog 28 [.agg (r.cells pv tv iv).toArray, lv] w (.int .i64 (costM r (cs.map Prod.fst))) := by
  have hln : (cs.map CartonM.cells).length = cs.length := by simp
  refine FnV.of (n := 34) Tryz.func28 rfl rfl ?_; refine G.seq (G.region ?_); refine G.op (og_box rfl rfl) rfl (fun bk2 _ => ?_); refine G.v (rv_assign rfl) rfl (G.done (G.thenN (G.seq (G.region (G.v (rv_assign rfl) rfl (G.done (G.thenN (G.seq (G.seq (G.region ?_))))))))))
  (first | refine G.v (rv_loadW 0 rfl rfl rfl) rfl ?_ | refine G.v (rv_loadW 1 rfl rfl rfl) rfl ?_ | refine G.v (rv_loadW 2 rfl rfl rfl) rfl ?_ | refine G.v (rv_loadW 3 rfl rfl rfl) rfl ?_ | refine G.v (rv_loadW 4 rfl rfl rfl) rfl ?_ | refine G.v (rv_loadP 0 rfl rfl (.one (.one (.one (.one (.one (.one (.one (.one (.one (.one .nil))))))))))) rfl ?_ | refine G.v (rv_loadP 1 rfl rfl (.one (.one (.one (.one (.one (.one (.one (.one (.one (.one .nil))))))))))) rfl ?_ | refine G.v (rv_loadP 2 rfl rfl (.one (.one (.one (.one (.one (.one (.one (.one (.one (.one .nil))))))))))) rfl ?_ | refine G.v (rv_loadP 3 rfl rfl (.one (.one (.one (.one (.one (.one (.one (.one (.one (.one .nil))))))))))) rfl ?_ | refine G.v (rv_loadP 4 rfl rfl (.one (.one (.one (.one (.one (.one (.one (.one (.one (.one .nil))))))))))) rfl ?_)
  refine G.op (og_callV rfl rfl (fun w hh => sclass_any (r := r) w (Rd.stays h _ hh) (Rd.stays h2 _ hh) (Rd.stays h3 _ hh))) rfl (fun _ _ => ?_); refine G.v (rv_neq rfl rfl) rfl (G.done (G.thenN ?_)); refine G.cond rfl (fun hc => ?_) (fun hc => ?_)
  · try exact Bool.noConfusion hc
    all_goals
     try replace hc := of_decide_eq_true hc
     try simp only [List.length_map] at hc
     try (exfalso; first | contradiction | omega)
     all_goals
      have hno : ¬ classM r = 0 := (by clear h h2 h3 h4; simp_all)
      all_goals
       refine G.seq (G.region (G.v (rv_move rfl) rfl (G.v (rv_assign rfl) rfl (G.done (G.thenN (G.ret (G.thenR ?_)))))))
       first | exact G.retFV rfl rfl (congrArg (Value.int .i64) (costM_no hno _).symm) | exact G.retFV rfl rfl (congrArg (Value.int .i64) (by rw [costM_yes hyes, List.take_of_length_le (by rw [List.length_map]; omega)]))
  · try exact Bool.noConfusion hc
    all_goals
     try replace hc := of_decide_eq_false hc
     try simp only [List.length_map] at hc
     try (exfalso; first | contradiction | omega)
     all_goals
      have hyes : classM r = 0 := (by clear h h2 h3 h4; simp_all)
      all_goals
       refine G.skip (G.thenN (G.seq (G.seq (G.region (G.v (rv_assign rfl) rfl (G.done (G.thenN (G.block ?_))))))))
       -- loop 0: turned [5, 6], kept [1, 2]
       refine G.loopK (ι := Nat) (ks := [1, 2]) (fun k => [(5, .int .i64 (((cs.map Prod.fst).take k).map (costAt r)).sum), (6, .int .i64 (k : Int))]) (fun _ => []) (fun k => k ≤ cs.length) (fun k => cs.length - k) 0 (.cons rfl (.cons rfl (.nil))) rfl ?_ ?_ ?_
       · exact Nat.zero_le _
       · exact ⟨rfl, rfl, trivial⟩
       rintro k hk
       have hci := cost_in hyes ((cs.map Prod.fst).take k)
       have hcl : ((cs.map Prod.fst).take k).length = k := (by rw [List.length_take, List.length_map]; omega)
       by_cases hlt : k < cs.length
       case' pos => (obtain ⟨b, hb⟩ := get_of_lt hlt; have he := get_map hb CartonM.cells; have hov : b.2.oneCell' = true := (h4.good _ (List.mem_of_getElem? he)).2 b.2 (by simp [CartonM.cells]); have hb1 : (cs.map Prod.fst)[k]? = some b.1 := (by rw [List.getElem?_map, hb]; rfl); have hn := cost_next (r := r) hb1; have hca := costAt_in hyes b.1; rw [show costAt r b.1 = (typeAt r b.1.t).1.cost from rfl] at hn hca)
       all_goals
        refine G.seq (G.seq (G.region (G.v (rv_move rfl) rfl (G.v (rv_move rfl) rfl ?_)))); refine G.v (rv_len rfl (by first | exact Rd.stays (by assumption) | exact Rd.owned 0 rfl | exact Rd.owned 1 rfl | exact Rd.owned 2 rfl | exact Rd.owned 3 rfl | exact Rd.owned 4 rfl)) rfl ?_; refine G.v (rv_lss rfl rfl) rfl (G.done (G.thenN ?_)); refine G.cond rfl (fun hc => ?_) (fun hc => ?_)
        · try exact Bool.noConfusion hc
          all_goals
           try replace hc := of_decide_eq_true hc
           try simp only [List.length_map] at hc
           try (exfalso; first | contradiction | omega)
           all_goals
            refine G.skip (G.thenN (G.seq (G.block (G.seq ?_)))); refine G.drawL [12] ?_
            (first | refine GE.q 0 rfl (by as_aux_lemma => kernel_rfl) rfl (qg_runs (rv_loadW 0 rfl rfl rfl)) rfl ?_ | refine GE.q 0 rfl (by as_aux_lemma => kernel_rfl) rfl (qg_runs (rv_loadW 1 rfl rfl rfl)) rfl ?_ | refine GE.q 0 rfl (by as_aux_lemma => kernel_rfl) rfl (qg_runs (rv_loadW 2 rfl rfl rfl)) rfl ?_ | refine GE.q 0 rfl (by as_aux_lemma => kernel_rfl) rfl (qg_runs (rv_loadW 3 rfl rfl rfl)) rfl ?_ | refine GE.q 0 rfl (by as_aux_lemma => kernel_rfl) rfl (qg_runs (rv_loadW 4 rfl rfl rfl)) rfl ?_ | refine GE.q 0 rfl (by as_aux_lemma => kernel_rfl) rfl (qg_runs (rv_loadP 0 rfl rfl (.one (.one (.one (.one (.one (.one (.one (.one (.one (.one .nil)))))))))))) rfl ?_ | refine GE.q 0 rfl (by as_aux_lemma => kernel_rfl) rfl (qg_runs (rv_loadP 1 rfl rfl (.one (.one (.one (.one (.one (.one (.one (.one (.one (.one .nil)))))))))))) rfl ?_ | refine GE.q 0 rfl (by as_aux_lemma => kernel_rfl) rfl (qg_runs (rv_loadP 2 rfl rfl (.one (.one (.one (.one (.one (.one (.one (.one (.one (.one .nil)))))))))))) rfl ?_ | refine GE.q 0 rfl (by as_aux_lemma => kernel_rfl) rfl (qg_runs (rv_loadP 3 rfl rfl (.one (.one (.one (.one (.one (.one (.one (.one (.one (.one .nil)))))))))))) rfl ?_ | refine GE.q 0 rfl (by as_aux_lemma => kernel_rfl) rfl (qg_runs (rv_loadP 4 rfl rfl (.one (.one (.one (.one (.one (.one (.one (.one (.one (.one .nil)))))))))))) rfl ?_)
            refine GE.q 1 rfl (by as_aux_lemma => kernel_rfl) rfl (qg_runs (rv_move rfl)) rfl ?_; refine GE.q 2 rfl (by as_aux_lemma => kernel_rfl) rfl (qg_runs (rv_move rfl)) rfl ?_
            (first | refine GE.q 3 rfl (by as_aux_lemma => kernel_rfl) rfl (qg_runs (rv_indexH rfl rfl (by first | exact Rd.stays (by assumption) | exact Rd.owned 0 rfl | exact Rd.owned 1 rfl | exact Rd.owned 2 rfl | exact Rd.owned 3 rfl | exact Rd.owned 4 rfl) rfl (by assumption))) rfl ?_ | refine GE.q 3 rfl (by as_aux_lemma => kernel_rfl) rfl (qg_runs (rv_index rfl rfl (by first | exact Rd.stays (by assumption) | exact Rd.owned 0 rfl | exact Rd.owned 1 rfl | exact Rd.owned 2 rfl | exact Rd.owned 3 rfl | exact Rd.owned 4 rfl) rfl (by assumption))) rfl ?_)
            (first | refine GE.q 4 rfl (by as_aux_lemma => kernel_rfl) rfl (qg_runs (rv_field rfl)) rfl ?_ | refine GE.q 4 rfl (by as_aux_lemma => kernel_rfl) rfl (qg_runs (rv_fieldE rfl)) rfl ?_)
            refine GE.q 5 rfl (by as_aux_lemma => kernel_rfl) rfl (qg_runs (rv_loadE rfl (by first | exact Rd.stays (by assumption) | exact Rd.owned 0 rfl | exact Rd.owned 1 rfl | exact Rd.owned 2 rfl | exact Rd.owned 3 rfl | exact Rd.owned 4 rfl) (by assumption) rfl)) rfl ?_; refine GE.q 6 rfl (by as_aux_lemma => kernel_rfl) rfl (qg_call rfl rfl (fun w hh => stypeById_any (r := r) b.1.t w (Rd.stays h2 _ hh))) rfl ?_; refine GE.q 7 rfl (by as_aux_lemma => kernel_rfl) rfl (qg_runs (rv_move rfl)) rfl ?_; refine GE.q 8 rfl (by as_aux_lemma => kernel_rfl) rfl (qg_runs (rv_extract rfl rfl)) rfl ?_; refine GE.q 9 rfl (by as_aux_lemma => kernel_rfl) rfl (qg_runs (rv_extract rfl rfl)) rfl ?_; refine GE.ol 10 (by as_aux_lemma => kernel_rfl) rfl rfl (og_alloc) rfl (fun _ _ h => by first | exact h | exact h.drop 1 | exact h.drop 2 | exact h.drop 3 | exact h.drop 4 | exact h.drop 5 | exact h.drop 6 | exact h.drop 7 | exact h.drop 8 | exact h.drop 9 | exact h.drop 10 | exact h.drop 11 | exact h.drop 12 | exact h.drop 13) (fun bk7 _ => ?_)
            (first | refine GE.ol0 11 (by as_aux_lemma => kernel_rfl) rfl rfl (og_st0 rfl rfl rfl rfl rfl rfl (.zero (.cons (.cons (.cons (.cons (.cons (.cons (.cons .nil))))))))) (fun _ _ h => by first | exact h | exact h.drop 1 | exact h.drop 2 | exact h.drop 3 | exact h.drop 4 | exact h.drop 5 | exact h.drop 6 | exact h.drop 7 | exact h.drop 8 | exact h.drop 9 | exact h.drop 10 | exact h.drop 11 | exact h.drop 12 | exact h.drop 13) (fun _ _ => ?_) | refine GE.ol0 11 (by as_aux_lemma => kernel_rfl) rfl rfl (og_st1 rfl rfl rfl rfl rfl rfl (.zero (.cons (.cons (.cons (.cons (.cons (.cons (.cons .nil))))))))) (fun _ _ h => by first | exact h | exact h.drop 1 | exact h.drop 2 | exact h.drop 3 | exact h.drop 4 | exact h.drop 5 | exact h.drop 6 | exact h.drop 7 | exact h.drop 8 | exact h.drop 9 | exact h.drop 10 | exact h.drop 11 | exact h.drop 12 | exact h.drop 13) (fun _ _ => ?_) | refine GE.ol0 11 (by as_aux_lemma => kernel_rfl) rfl rfl (og_st2 rfl rfl rfl rfl rfl rfl (.zero (.cons (.cons (.cons (.cons (.cons (.cons (.cons .nil))))))))) (fun _ _ h => by first | exact h | exact h.drop 1 | exact h.drop 2 | exact h.drop 3 | exact h.drop 4 | exact h.drop 5 | exact h.drop 6 | exact h.drop 7 | exact h.drop 8 | exact h.drop 9 | exact h.drop 10 | exact h.drop 11 | exact h.drop 12 | exact h.drop 13) (fun _ _ => ?_) | refine GE.ol0 11 (by as_aux_lemma => kernel_rfl) rfl rfl (og_st3 rfl rfl rfl rfl rfl rfl (.zero (.cons (.cons (.cons (.cons (.cons (.cons (.cons .nil))))))))) (fun _ _ h => by first | exact h | exact h.drop 1 | exact h.drop 2 | exact h.drop 3 | exact h.drop 4 | exact h.drop 5 | exact h.drop 6 | exact h.drop 7 | exact h.drop 8 | exact h.drop 9 | exact h.drop 10 | exact h.drop 11 | exact h.drop 12 | exact h.drop 13) (fun _ _ => ?_) | refine GE.ol0 11 (by as_aux_lemma => kernel_rfl) rfl rfl (og_st4 rfl rfl rfl rfl rfl rfl (.zero (.cons (.cons (.cons (.cons (.cons (.cons (.cons .nil))))))))) (fun _ _ h => by first | exact h | exact h.drop 1 | exact h.drop 2 | exact h.drop 3 | exact h.drop 4 | exact h.drop 5 | exact h.drop 6 | exact h.drop 7 | exact h.drop 8 | exact h.drop 9 | exact h.drop 10 | exact h.drop 11 | exact h.drop 12 | exact h.drop 13) (fun _ _ => ?_))
            refine GE.t 12 (by as_aux_lemma => kernel_rfl) rfl rfl rfl (og_runs (rv_assign rfl)) rfl (fun _ _ => ?_); refine GE.done (by as_aux_lemma => kernel_rfl) ?_; refine G.thenN (G.region (G.v (rv_move rfl) rfl ?_))
            (first | refine G.v (rv_field rfl) rfl ?_ | refine G.v (rv_fieldE rfl) rfl ?_)
            (first | refine G.v (rv_load1 0 rfl rfl rfl) rfl ?_ | refine G.v (rv_load1 1 rfl rfl rfl) rfl ?_ | refine G.v (rv_load1 2 rfl rfl rfl) rfl ?_ | refine G.v (rv_load1 3 rfl rfl rfl) rfl ?_ | refine G.v (rv_load1 4 rfl rfl rfl) rfl ?_)
            (first | refine G.v (rv_incr rfl rfl (by omega)) rfl ?_ | refine G.v (rv_addB rfl rfl (by omega) (by omega)) rfl ?_)
            refine G.v (rv_assign rfl) rfl (G.done (G.inN (G.thenN (G.region (G.v (rv_move rfl) rfl ?_)))))
            (first | refine G.v (rv_incr rfl rfl (by omega)) rfl ?_ | refine G.v (rv_addB rfl rfl (by omega) (by omega)) rfl ?_)
            refine G.v (rv_assign rfl) rfl (G.done ?_)
            first | refine G.backK (k + 1) 0 rfl (.cons rfl (.cons rfl (.nil))) ?_ ?_ ?_ | refine G.backK (k + 1) 1 rfl (.cons rfl (.cons rfl (.nil))) ?_ ?_ ?_ | refine G.backK (k + 1) 2 rfl (.cons rfl (.cons rfl (.nil))) ?_ ?_ ?_
            · exact ⟨congrArg (fun z => some (Value.int .i64 z)) hn.symm, rfl, trivial⟩
            · exact hlt
            · omega
        · try exact Bool.noConfusion hc
          all_goals
           try replace hc := of_decide_eq_false hc
           try simp only [List.length_map] at hc
           try (exfalso; first | contradiction | omega)
           all_goals
            refine G.exit (G.thenX (G.thenX (G.inX (G.thenN (G.seq (G.region (G.v (rv_move rfl) rfl (G.v (rv_assign rfl) rfl (G.done (G.thenN (G.ret ?_)))))))))))
            first | exact G.retFV rfl rfl (congrArg (Value.int .i64) (costM_no hno _).symm) | exact G.retFV rfl rfl (congrArg (Value.int .i64) (by rw [costM_yes hyes, List.take_of_length_le (by rw [List.length_map]; omega)]))
end
def timesL (l : List Int) (x : Int) : Nat := l.countP fun y => decide (y = x)
end Go.Proofs.YtglpgohilfoecaaGreat

/-
  The plan of an order: both ways.
-/
namespace Go.Proofs.YtglpgohilfoecaaGreat
open Go.RowKit
/-- A place, some pallets on. -/
def movedM (a : Int) (s : SpotM) : SpotM := ⟨IntKind.i64.wrap (s.p + a), s.x, s.y, s.z⟩
/-- The boxes of a group's cartons. -/
def boxesAt (r : ReqM) (cs : List CartonM) (k : Nat) : List BoxM := (cs.filter fun c => decide (c.g = (k : Int))).map (boxOfM r)
def planStep (r : ReqM) (st : List SpotM × Int) (k : Nat) : List SpotM × Int :=
  (st.1 ++ (spotsM r.pal (boxesAt r (cartonsM r) k)).map (movedM st.2), IntKind.i64.wrap (st.2 + palletsM (spotsM r.pal (boxesAt r (cartonsM r) k))))
def spotsAt (r : ReqM) (n : Nat) : List SpotM × Int := (List.range n).foldl (planStep r) ([], 0)
/-- The places of an order's plan. -/
def planSpotsM (r : ReqM) : List SpotM := (spotsAt r (groupsOfM r).length).1
attribute [local irreducible] Go.wpList Go.Code.wp Go.Exit.then Go.Exit.inBlock Go.bodyPost Go.Calls pE pB G RunsV FnV Fn FnM
set_option maxRecDepth 100000
set_option maxHeartbeats 4000000
section
variable {r : ReqM} {pv tv iv : Value} (w : World) (h : Rd w pv 2 (r.pairs.map PairM.cells)) (h2 : Rd w tv 7 (r.types.map TypeM.cells)) (h3 : Rd w iv 7 (r.items.map ItemM.cells))
include h h2 h3
end
end Go.Proofs.YtglpgohilfoecaaGreat

/-
  No two boxes are in one place, and none is outside. No program is in sight here.
-/
namespace Go.Proofs.YtglpgohilfoecaaGreat
open Go.RowKit
def Sep (a : BoxM) (s : SpotM) (b : BoxM) (t : SpotM) : Prop := s.p ≠ t.p ∨ s.x + a.w ≤ t.x ∨ t.x + b.w ≤ s.x ∨ s.y + a.d ≤ t.y ∨ t.y + b.d ≤ s.y ∨ s.z + a.h ≤ t.z ∨ t.z + b.h ≤ s.z
theorem Sep.symm {a b : BoxM} {s t : SpotM} (h : Sep a s b t) : Sep b t a s := by unfold Sep at *; omega
def Inn (p : PalletM) (a : BoxM) (s : SpotM) : Prop := 0 ≤ s.p ∧ 0 ≤ s.x ∧ s.x + a.w ≤ p.w ∧ 0 ≤ s.y ∧ s.y + a.d ≤ p.d ∧ 0 ≤ s.z ∧ s.z + a.h ≤ p.h
structure Inv (p : PalletM) (l : List BoxM) (out : List SpotM) (dn : List (Int × Int)) (F : BoxM → SpotM → Prop) : Prop where
  len : out.length = l.length
  at_ : ∀ e ∈ dn, ∃ (j : Nat) (s : SpotM), e.1 = (j : Int) ∧ j < l.length ∧ out[j]? = some s ∧ s.p = e.2 ∧ Inn p (boxAt l j) s ∧ F (boxAt l j) s
  ap : ∀ e ∈ dn, ∀ e' ∈ dn, e.1 ≠ e'.1 → ∀ s t, out[e.1.toNat]? = some s → out[e'.1.toNat]? = some t → Sep (boxAt l e.1.toNat) s (boxAt l e'.1.toNat) t
section
variable {p : PalletM} {l : List BoxM} {out : List SpotM} {dn : List (Int × Int)} {F F' : BoxM → SpotM → Prop}
theorem Inv.weak (h : Inv p l out dn F) (hw : ∀ a s, F a s → F' a s) : Inv p l out dn F' :=
  ⟨h.len, fun e he => by obtain ⟨j, s, h1, h2, h3, h4, h5, h6⟩ := h.at_ e he; exact ⟨j, s, h1, h2, h3, h4, h5, hw _ _ h6⟩, h.ap⟩
theorem Inv.place {j : Nat} {s : SpotM} (h : Inv p l out dn F) (hj : j < l.length) (hnew : ∀ e ∈ dn, e.1 ≠ (j : Int)) (hin : Inn p (boxAt l j) s) (hF : F' (boxAt l j) s) (hw : ∀ a t, F a t → F' a t) (hsep : ∀ a t, F a t → Sep a t (boxAt l j) s) :
    Inv p l (out.set j s) (dn ++ [((j : Int), s.p)]) F' := by
  have hjo : j < out.length := by rw [h.len]; exact hj
  have hself : (out.set j s)[j]? = some s := by rw [List.getElem?_set_self hjo]
  have hoth : ∀ i : Nat, i ≠ j → (out.set j s)[i]? = out[i]? := fun i hi => List.getElem?_set_ne (Ne.symm hi)
  have old : ∀ e ∈ dn, ∃ (i : Nat) (u : SpotM), e.1 = (i : Int) ∧ i < l.length ∧ i ≠ j ∧ out[i]? = some u ∧ u.p = e.2 ∧ Inn p (boxAt l i) u ∧ F (boxAt l i) u := fun e he => by
    obtain ⟨i, u, h1, h2, h3, h4, h5, h6⟩ := h.at_ e he
    exact ⟨i, u, h1, h2, fun hij => hnew e he (by rw [h1, hij]), h3, h4, h5, h6⟩
  refine ⟨by rw [List.length_set]; exact h.len, fun e he => ?_, fun e he e' he' hne a b ha hb => ?_⟩
  · rcases List.mem_append.1 he with he | he
    · obtain ⟨i, u, h1, h2, h3, h4, h5, h6, h7⟩ := old e he
      exact ⟨i, u, h1, h2, by rw [hoth i h3]; exact h4, h5, h6, hw _ _ h7⟩
    · rw [List.mem_singleton.1 he]; exact ⟨j, s, rfl, hj, hself, rfl, hin, hF⟩
  · rcases List.mem_append.1 he with he | he
    · obtain ⟨i, u, h1, h2, h3, h4, h5, h6, h7⟩ := old e he
      have e1 : e.1.toNat = i := by rw [h1]; rfl
      rw [e1, hoth i h3] at ha
      rcases List.mem_append.1 he' with he' | he'
      · obtain ⟨i', u', g1, g2, g3, g4, g5, g6, g7⟩ := old e' he'
        have e2 : e'.1.toNat = i' := by rw [g1]; rfl
        rw [e2, hoth i' g3] at hb
        exact h.ap e he e' he' hne a b (by rw [e1]; exact ha) (by rw [e2]; exact hb)
      · rw [List.mem_singleton.1 he'] at hb ⊢
        simp only [Int.toNat_natCast] at hb ⊢
        rw [hself] at hb; cases hb
        rw [h4] at ha; cases ha
        rw [e1]; exact hsep _ _ h7
    · rw [List.mem_singleton.1 he] at ha hne ⊢
      simp only [Int.toNat_natCast] at ha ⊢
      rw [hself] at ha; cases ha
      rcases List.mem_append.1 he' with he' | he'
      · obtain ⟨i', u', g1, g2, g3, g4, g5, g6, g7⟩ := old e' he'
        have e2 : e'.1.toNat = i' := by rw [g1]; rfl
        rw [e2, hoth i' g3] at hb
        rw [g4] at hb; cases hb
        rw [e2]; exact (hsep _ _ g7).symm
      · rw [List.mem_singleton.1 he'] at hne; exact absurd rfl hne
end
def F0 (o : Int) (_ : BoxM) (s : SpotM) : Prop := s.p < o
def F1 (o z : Int) (a : BoxM) (s : SpotM) : Prop := s.p < o ∨ (s.p = o ∧ s.z + a.h ≤ z)
def F2 (o z y H : Int) (a : BoxM) (s : SpotM) : Prop := s.p < o ∨ (s.p = o ∧ (s.z + a.h ≤ z ∨ (s.z = z ∧ a.h ≤ H ∧ s.y + a.d ≤ y)))
def F3 (o z y x H D : Int) (a : BoxM) (s : SpotM) : Prop := s.p < o ∨ (s.p = o ∧ (s.z + a.h ≤ z ∨ (s.z = z ∧ a.h ≤ H ∧ (s.y + a.d ≤ y ∨ (s.y = y ∧ a.d ≤ D ∧ s.x + a.w ≤ x)))))
section
variable {p : PalletM} {l : List BoxM} {ss : List ShelfM} {ls : List LayerM}
def BB (ss : List ShelfM) (k : Int) : List Int := (shAt ss k).l
def CC (ss : List ShelfM) (ls : List LayerM) (i : Int) : List Int := (lyAt ls i).l.flatMap (BB ss)
structure LyOk (p : PalletM) (l : List BoxM) (ss : List ShelfM) (t : LayerM) : Prop where
  at_ : ∀ k ∈ t.l, ShOk p l (shAt ss k) ∧ (shAt ss k).h ≤ t.h ∧ 1 ≤ (shAt ss k).d
  ds : (t.l.map fun k => (shAt ss k).d).sum = t.d
  gs : (t.l.map fun k => (shAt ss k).g).sum = t.g
  db : t.d ≤ p.d
  h1 : 1 ≤ t.h
structure LdOk (p : PalletM) (l : List BoxM) (ss : List ShelfM) (ls : List LayerM) (t : LoadM) : Prop where
  at_ : ∀ k ∈ t.l, LyOk p l ss (lyAt ls k)
  hs : (t.l.map fun k => (lyAt ls k).h).sum = t.h
  gs : (t.l.map fun k => (lyAt ls k).g).sum = t.g
  hb : t.h ≤ p.h
def TT (ss : List ShelfM) (ls : List LayerM) (xs : List (LoadM × Nat)) : List (Int × Int) := xs.flatMap fun x => (x.1.l.flatMap (CC ss ls)).map fun b => (b, (x.2 : Int))
end
end Go.Proofs.YtglpgohilfoecaaGreat

/-
  Where boxes stand: all of them, once each; what lies on a pallet. No program is in sight here.
-/
namespace Go.Proofs.YtglpgohilfoecaaGreat
open Go.RowKit
section
variable {p : PalletM} {l : List BoxM}
def TM (p : PalletM) (l : List BoxM) : List (Int × Int) := TT (shelvesM p l) (layersM p (shelvesM p l)) (loadsM p (layersM p (shelvesM p l))).zipIdx
/-! ### Weights -/
def spAt (out : List SpotM) (j : Nat) : SpotM := out.getD j ⟨0, 0, 0, 0⟩
def gsumM (l : List BoxM) (out : List SpotM) (i k : Nat) : Int := ((List.range i).map fun j => if (spAt out j).p = (k : Int) then (boxAt l j).g else 0).sum
def wk (l : List BoxM) (k : Nat) (e : Int × Int) : Int := if e.2 = (k : Int) then gAt l e.1 else 0
end
end Go.Proofs.YtglpgohilfoecaaGreat

/-
  How many pallets a plan has, and what lies on each.
-/
namespace Go.Proofs.YtglpgohilfoecaaGreat
/-- The pallets of one group. -/
structure SegOk (p : PalletM) (l : List BoxM) : Prop where
  len : (spotsM p l).length = l.length
  p0 : ∀ s ∈ spotsM p l, 0 ≤ s.p ∧ s.p < palletsM (spotsM p l) ∧ s.p ≤ 999999
  n0 : 0 ≤ palletsM (spotsM p l)
  nb : palletsM (spotsM p l) ≤ l.length
  gs : ∀ q : Nat, gsumM l (spotsM p l) l.length q ≤ p.g
/-- The sum over those places that are on a pallet. -/
def onSum (f : CartonM → Int) (Z : List (CartonM × SpotM)) (q : Int) : Int := (Z.map fun x => if x.2.p = q then f x.1 else 0).sum
/-- The cartons and places of the first groups. -/
structure PlanOkS (r : ReqM) (n : Nat) (Z : List (CartonM × SpotM)) : Prop where
  fst : Z.map Prod.fst = (List.range n).flatMap (cartonsAt r)
  snd : Z.map Prod.snd = (spotsAt r n).1
  base : (spotsAt r n).2 = palletsM (spotsAt r n).1
  b0 : 0 ≤ (spotsAt r n).2
  bl : (spotsAt r n).2 ≤ Z.length
  ge : (n : Int) ≤ (spotsAt r n).2
  rng : ∀ x ∈ Z, 0 ≤ x.2.p ∧ x.2.p < (spotsAt r n).2
  grp : ∀ x ∈ Z, ∀ y ∈ Z, x.2.p = y.2.p → x.1.g = y.1.g
  gl : ∀ x ∈ Z, x.1.g < (n : Int)
  gs : ∀ q, onSum (grossM r) Z q ≤ r.pal.g
/-- A group's cartons with their places. -/
def segZ (r : ReqM) (k : Nat) : List (CartonM × SpotM) := (cartonsAt r k).zip ((spotsM r.pal (boxesAt r (cartonsM r) k)).map (movedM (spotsAt r k).2))
/-- What is so of an order's plan. -/
structure NeedOk (r : ReqM) (n : Nat) : Prop where
  pal : palletsM (planSpotsM r) = (n : Int)
  ge : (groupsOfM r).length ≤ n
  le : n ≤ (cartonsM r).length
  len : (planSpotsM r).length = (cartonsM r).length
  gs : ∀ q, 0 ≤ palletGramM r (cartonsM r) (planSpotsM r) q ∧ palletGramM r (cartonsM r) (planSpotsM r) q ≤ r.pal.g
  sum : ((List.range n).map fun q : Nat => palletGramM r (cartonsM r) (planSpotsM r) (q : Int)).sum = ((cartonsM r).map (grossM r)).sum
  same : ∀ (q a b : Int), a ∈ onPalletM (cartonsM r).length (planSpotsM r) q → b ∈ onPalletM (cartonsM r).length (planSpotsM r) q → ∃ (i j : Nat) (x y : CartonM), a = (i : Int) ∧ b = (j : Int) ∧ (cartonsM r)[i]? = some x ∧ (cartonsM r)[j]? = some y ∧ x.g = y.g
end Go.Proofs.YtglpgohilfoecaaGreat
