/-
  Texts of this proof, one behind the other: Sorts3, FirstW, FirstX, FitLaw, IsPackM, LaySort, SortG.
-/
import Derived.Test.YtibkggjbkgdnkaaGreatPknD
import Derived.Test.YtibkggjbkgdnkaaGreatPknA
import Derived.Shelf.Sort.Plain
import Derived.Test.YtibkggjbkgdnkaaGreatProg
import Derived.Test.YtibkggjbkgdnkaaGreatPknB
import Derived.Sort.OwnSortedInts
set_option linter.unusedVariables false
set_option linter.unusedSimpArgs false

/-
  Sorting of keys: the program's by the library, the reference's by halves.
-/
namespace Go.Proofs.YtibkggjbkgdnkaaGreat
open Go.RowKit
attribute [local irreducible] Go.wpList Go.Code.wp Go.Exit.then Go.Exit.inBlock Go.bodyPost Go.Calls pE pB G RunsV FnV Fn FnM
set_option maxRecDepth 100000
set_option maxHeartbeats 4000000
section
variable {w0 : World} {F : List Ch} {v : Value} {n : Nat} {g : Nat} [FnOk Tryz.prog g] {caps : List Value} {K : Nat → Int}
theorem stable_any (hcmp : ∀ w, HeapOk w0 w F → ∀ i j : Nat, i < n → j < n → FnV Tryz.prog g ([.int .i64 (i : Int), .int .i64 (j : Int)] ++ caps) w (.int .i64 (cmpZ (K i) (K j)))) (hn : n ≤ 1048576) :
    FnMF Tryz.prog 205 [v, .int .i64 (n : Int), .func (.func g) #[] caps.toArray] w0 [.row v 3 1 (rowF n fun j => j)] F (fun f' : Nat → Nat => Seg K 0 n f') (fun _ => .tuple #[]) (fun f' => [.row v 3 1 (rowF n f')]) := by
  refine FnMF.of (n := 63) Tryz.func205 rfl rfl ?_; refine G.seq (G.region (G.v (rv_assign rfl) rfl (G.done (G.thenN (G.seq (G.region (G.v (rv_move rfl) rfl (G.v (rv_assign rfl) rfl (G.v (rv_assign rfl) rfl (G.done (G.thenN ?_))))))))))); refine G.seq (G.block ?_)
  -- loop 0: turned [7, 8], kept [0, 1, 2, 6]
  refine G.loopK (ι := Nat × Nat × (Nat → Nat)) (ks := [0, 1, 2, 6]) (fun x => [(7, .int .i64 (x.2.1 : Int)), (8, .int .i64 ((x.2.1 + 20 : Nat) : Int))]) (fun x => [.row v 3 1 (rowF n x.2.2)]) (fun x => x.2.1 = x.1 * 20 ∧ Ins K n x.1 x.2.2) (fun x => n - x.2.1) (0, 0, fun j => j) (.cons rfl (.cons rfl (.cons rfl (.cons rfl (.nil))))) rfl ?_ ?_ ?_
  · exact ⟨rfl, Ins.start K n⟩
  · exact ⟨rfl, rfl, trivial⟩
  rintro ⟨q, a, f⟩ ⟨ha, hI⟩
  dsimp only at ha hI ⊢
  have hIl := hI.le
  by_cases hlt : a + 20 ≤ n
  all_goals
   refine G.seq (G.seq (G.region (G.v (rv_move rfl) rfl (G.v (rv_move rfl) rfl (G.v (rv_leq rfl rfl) rfl (G.done (G.thenN ?_))))))); refine G.cond rfl (fun hc => ?_) (fun hc => ?_)
   · try exact Bool.noConfusion hc
     all_goals
      try replace hc := of_decide_eq_true hc
      try (exfalso; omega)
      all_goals
       refine G.skip (G.thenN (G.block (G.seq (G.region (G.v (rv_move rfl) rfl (G.v (rv_move rfl) rfl (G.v (rv_move rfl) rfl (G.v (rv_move rfl) rfl ?_))))))))
       (refine G.frontR0 (v) rfl ?_); refine G.op (og_callMM1 rfl rfl rfl (insertion_any hcmp (by omega) (by omega) hn (fun j j1 j2 => hI.hi j (by omega)))) rfl ?_; rintro h ⟨hho, hhs⟩; try dsimp only
       refine G.done (G.thenN (G.seq (G.region (G.v (rv_move rfl) rfl (G.v (rv_assign rfl) rfl (G.done (G.thenN (G.region (G.v (rv_move rfl) rfl (G.v (rv_move rfl) rfl ?_)))))))))); refine G.v (rv_addB rfl rfl (by omega) (by omega)) rfl ?_; refine G.v (rv_assign rfl) rfl (G.done (G.inN ?_)); refine G.backK (q + 1, a + 20, h) 0 rfl (.cons rfl (.cons rfl (.cons rfl (.cons rfl (.nil))))) ?_ ?_ ?_
       · exact ⟨rfl, congrArg (fun z => some (Value.int .i64 z)) (by dsimp only; try omega), trivial⟩
       · subst ha; exact ⟨by dsimp only; omega, hI.next hlt (fun j hj => hho j (by omega)) hhs⟩
       · dsimp only; omega
   · try exact Bool.noConfusion hc
     all_goals
      try replace hc := of_decide_eq_false hc
      try (exfalso; omega)
      all_goals
       refine G.exit (G.thenX (G.thenX (G.inX (G.thenN (G.seq (G.region (G.v (rv_move rfl) rfl (G.v (rv_move rfl) rfl (G.v (rv_move rfl) rfl (G.v (rv_move rfl) rfl ?_))))))))))
       (refine G.frontR0 (v) rfl ?_); refine G.op (og_callMM1 rfl rfl rfl (insertion_any hcmp (by omega) (Nat.le_refl _) hn (fun j j1 j2 => hI.hi j (by omega)))) rfl ?_; rintro h0 ⟨hho, hhs⟩; try dsimp only
       refine G.done (G.thenN (G.block ?_))
       -- loop 1: turned [6], kept [0, 1, 2]
       have hB0 : Blk K 20 n h0 := (by subst ha; exact hI.last (by omega) (fun j hj => hho j hj) hhs)
       refine G.loopK (ι := Nat × (Nat → Nat)) (ks := [0, 1, 2]) (fun x => [(6, .int .i64 (x.1 : Int))]) (fun x => [.row v 3 1 (rowF n x.2)]) (fun x => 20 ≤ x.1 ∧ x.1 ≤ 2097152 ∧ Blk K x.1 n x.2) (fun x => n - x.1) (20, h0) (.cons rfl (.cons rfl (.cons rfl (.nil)))) rfl ?_ ?_ ?_
       · exact ⟨Nat.le_refl _, by dsimp only; omega, hB0⟩
       · exact ⟨rfl, trivial⟩
       rintro ⟨s, f1⟩ ⟨hs20, hsm, hB⟩
       dsimp only at hs20 hsm hB ⊢
       by_cases hsn : s < n
       all_goals
        refine G.seq (G.seq (G.region (G.v (rv_move rfl) rfl (G.v (rv_move rfl) rfl (G.v (rv_lss rfl rfl) rfl (G.done (G.thenN ?_))))))); refine G.cond rfl (fun hc => ?_) (fun hc => ?_)
        · try exact Bool.noConfusion hc
          all_goals
           try replace hc := of_decide_eq_true hc
           try (exfalso; omega)
           all_goals
            refine G.skip (G.thenN (G.block (G.seq (G.region (G.v (rv_move rfl) rfl ?_))))); refine G.v (rv_dblN rfl rfl (by omega)) rfl ?_; refine G.v (rv_assign rfl) rfl (G.v (rv_assign rfl) rfl (G.done (G.thenN (G.seq (G.block ?_)))))
            -- loop 2: turned [7, 8], kept [0, 1, 2, 6]
            refine G.loopK (ι := Nat × Nat × (Nat → Nat)) (ks := [0, 1, 2, 6]) (fun x => [(7, .int .i64 (x.2.1 : Int)), (8, .int .i64 ((x.2.1 + 2 * s : Nat) : Int))]) (fun x => [.row v 3 1 (rowF n x.2.2)]) (fun x => x.2.1 = x.1 * (2 * s) ∧ Pass K s n x.1 x.2.2) (fun x => n - x.2.1) (0, 0, f1) (.cons rfl (.cons rfl (.cons rfl (.cons rfl (.nil))))) rfl ?_ ?_ ?_
            · exact ⟨by dsimp only; omega, Pass.start hB⟩
            · exact ⟨rfl, congrArg (fun z => some (Value.int .i64 z)) (by dsimp only; try omega), trivial⟩
            rintro ⟨q, a, f2⟩ ⟨ha, hP⟩
            dsimp only at ha hP ⊢
            have hPl := hP.le
            rw [← ha] at hPl
            have hq2 : a + 2 * s ≤ n → Seg K a (a + s) f2 ∧ Seg K (a + s) (a + 2 * s) f2 := fun hz => by (have := hP.two (by rw [← ha]; omega); rw [← ha, Nat.min_eq_left hz] at this; exact this)
            have hq3 : n < a + 2 * s → a + s < n → Seg K a (a + s) f2 ∧ Seg K (a + s) n f2 := fun hz hy => by (have := hP.two (by rw [← ha]; omega); rw [← ha, Nat.min_eq_right (by omega)] at this; exact this)
            have hlt2 : a + 2 * s ≤ n → ∀ j, a ≤ j → j < a + 2 * s → f2 j < n := fun hz j j1 j2 => by (obtain ⟨p1, p2⟩ := hq2 hz; by_cases c : j < a + s; (have := p1.2 j j1 c; omega); (have := p2.2 j (by omega) j2; omega))
            have hlt3 : n < a + 2 * s → a + s < n → ∀ j, a ≤ j → j < n → f2 j < n := fun hz hy j j1 j2 => by (obtain ⟨p1, p2⟩ := hq3 hz hy; by_cases c : j < a + s; (have := p1.2 j j1 c; omega); (have := p2.2 j (by omega) j2; omega))
            by_cases hlt : a + 2 * s ≤ n
            all_goals
             refine G.seq (G.seq (G.region (G.v (rv_move rfl) rfl (G.v (rv_move rfl) rfl (G.v (rv_leq rfl rfl) rfl (G.done (G.thenN ?_))))))); refine G.cond rfl (fun hc => ?_) (fun hc => ?_)
             · try exact Bool.noConfusion hc
               all_goals
                try replace hc := of_decide_eq_true hc
                try (exfalso; omega)
                all_goals
                 refine G.skip (G.thenN (G.block (G.seq (G.region (G.v (rv_move rfl) rfl (G.v (rv_move rfl) rfl (G.v (rv_move rfl) rfl (G.v (rv_move rfl) rfl ?_)))))))); refine G.v (rv_addN rfl rfl (by omega)) rfl ?_; refine G.v (rv_move rfl) rfl (G.v (rv_move rfl) rfl ?_)
                 (refine G.frontR0 (v) rfl ?_); refine G.op (og_callMM1 rfl rfl rfl (symMerge_any hcmp hn _ (Nat.le_refl _) (by omega) (by omega) (by omega) (hq2 (by omega)).1.1 (hq2 (by omega)).2.1 ((hq2 (by omega)).1.crs (hq2 (by omega)).2) (fun j j1 j2 => hlt2 (by omega) j j1 j2))) rfl ?_; rintro h ⟨hhf, hhs⟩; try dsimp only
                 refine G.done (G.thenN (G.seq (G.region (G.v (rv_move rfl) rfl (G.v (rv_assign rfl) rfl (G.done (G.thenN (G.region (G.v (rv_move rfl) rfl (G.v (rv_move rfl) rfl ?_)))))))))); refine G.v (rv_dblN rfl rfl (by omega)) rfl ?_; refine G.v (rv_addN rfl rfl (by omega)) rfl ?_; refine G.v (rv_assign rfl) rfl (G.done (G.inN ?_)); refine G.backK (q + 1, a + 2 * s, h) 0 rfl (.cons rfl (.cons rfl (.cons rfl (.cons rfl (.nil))))) ?_ ?_ ?_
                 · exact ⟨rfl, congrArg (fun z => some (Value.int .i64 z)) (by dsimp only; try omega), trivial⟩
                 · exact ⟨by dsimp only; rw [ha]; exact (Nat.succ_mul _ _).symm, hP.next (by rw [← ha]; exact hlt) (fun j hj => hhf.out j (by rw [← ha] at hj; exact hj)) (by rw [← ha]; exact Seg.merged (hq2 hlt).1 (hq2 hlt).2 ⟨by omega, by omega⟩ hhf hhs)⟩
                 · dsimp only; omega
             · try exact Bool.noConfusion hc
               all_goals
                try replace hc := of_decide_eq_false hc
                try (exfalso; omega)
                all_goals
                 refine G.exit (G.thenX (G.thenX (G.inX (G.thenN (G.seq (G.seq (G.region (G.v (rv_move rfl) rfl (G.v (rv_move rfl) rfl ?_))))))))); refine G.v (rv_addN rfl rfl (by omega)) rfl ?_; refine G.v (rv_assign rfl) rfl (G.done (G.thenN (G.seq (G.region (G.v (rv_move rfl) rfl (G.v (rv_move rfl) rfl (G.v (rv_lss rfl rfl) rfl (G.done (G.thenN ?_))))))))); refine G.cond rfl (fun hc => ?_) (fun hc => ?_)
                 · try exact Bool.noConfusion hc
                   all_goals
                    try replace hc := of_decide_eq_true hc
                    try (exfalso; contradiction)
                    all_goals
                     refine G.region (G.v (rv_move rfl) rfl (G.v (rv_move rfl) rfl (G.v (rv_move rfl) rfl (G.v (rv_move rfl) rfl (G.v (rv_move rfl) rfl ?_)))))
                     (refine G.frontR0 (v) rfl ?_); refine G.op (og_callMM1 rfl rfl rfl (symMerge_any hcmp hn _ (Nat.le_refl _) (by omega) (by omega) (by omega) (hq3 (by omega) (by omega)).1.1 (hq3 (by omega) (by omega)).2.1 ((hq3 (by omega) (by omega)).1.crs (hq3 (by omega) (by omega)).2) (fun j j1 j2 => hlt3 (by omega) (by omega) j j1 j2))) rfl ?_; rintro h ⟨hhf, hhs⟩; try dsimp only
                     refine G.done (G.thenN (G.region (G.v (rv_move rfl) rfl ?_))); refine G.v (rv_dblM rfl rfl (by omega)) rfl ?_; refine G.v (rv_assign rfl) rfl (G.done (G.inN ?_)); refine G.backK (2 * s, h) 0 rfl (.cons rfl (.cons rfl (.cons rfl (.nil)))) (⟨rfl, trivial⟩) ?_ ?_
                     · (exact ⟨by dsimp only; omega, by dsimp only; omega, hP.last (by rw [← ha]; omega) (fun j hj => hhf.out j (by rw [← ha] at hj; exact hj)) (by rw [← ha]; exact Seg.merged (hq3 (by omega) (by omega)).1 (hq3 (by omega) (by omega)).2 ⟨by omega, by omega⟩ hhf hhs)⟩)
                     · dsimp only; omega
                 · try exact Bool.noConfusion hc
                   all_goals
                    try replace hc := of_decide_eq_false hc
                    try (exfalso; contradiction)
                    all_goals
                     refine G.skip (G.thenN (G.region (G.v (rv_move rfl) rfl ?_))); refine G.v (rv_dblM rfl rfl (by omega)) rfl ?_; refine G.v (rv_assign rfl) rfl (G.done (G.inN ?_)); refine G.backK (2 * s, f2) 0 rfl (.cons rfl (.cons rfl (.cons rfl (.nil)))) (⟨rfl, trivial⟩) ?_ ?_
                     · (exact ⟨by dsimp only; omega, by dsimp only; omega, hP.end (by rw [← ha]; omega) (by rw [← ha]; omega)⟩)
                     · dsimp only; omega
        · try exact Bool.noConfusion hc
          all_goals
           try replace hc := of_decide_eq_false hc
           try (exfalso; omega)
           all_goals
            refine G.exit (G.thenX (G.thenX (G.inX ?_)))
            exact G.endF0 f1 (hB.all (by omega)) rfl rfl (fun w hw => hw)
theorem sortStable_any (hcmp : ∀ w, HeapOk w0 w F → ∀ i j : Nat, i < n → j < n → FnV Tryz.prog g ([.int .i64 (i : Int), .int .i64 (j : Int)] ++ caps) w (.int .i64 (cmpZ (K i) (K j)))) (hn : n ≤ 1048576) :
    FnMF Tryz.prog 164 [v, .func (.func g) #[] caps.toArray] w0 [.row v 3 1 (rowF n fun j => j)] F (fun f' : Nat → Nat => Seg K 0 n f') (fun _ => .tuple #[]) (fun f' => [.row v 3 1 (rowF n f')]) := by
  have hln : (rowF n fun j => j).length = n := rowF_len _ _
  refine FnMF.of (n := 9) Tryz.func164 rfl rfl ?_; refine G.region (G.v (rv_move rfl) rfl (G.v (rv_move rfl) rfl ?_)); refine G.v (rv_len rfl (by exact Rd.owned 0 rfl)) rfl ?_; refine G.v (rv_move rfl) rfl ?_
  (refine G.frontR0 (v) rfl ?_); refine G.op (og_callMM1 rfl rfl rfl (by rw [hln]; exact stable_any hcmp hn)) rfl ?_; rintro f1 hf1; try dsimp only
  refine G.done ?_
  exact G.endF0 f1 hf1 rfl rfl (fun w hw => hw)
end
theorem compare_any (a b : Int) (w : World) : FnV Tryz.prog 166 [.int .i64 a, .int .i64 b] w (.int .i64 (cmpZ a b)) := by
  refine FnV.of (n := 13) Tryz.func166 rfl rfl ?_; refine G.seq (G.region (G.v (rv_assign rfl) rfl (G.done (G.thenN (G.seq (G.block (G.seq (G.region (G.v (rv_move rfl) rfl (G.v (rv_move rfl) rfl (G.v (rv_lss rfl rfl) rfl ?_))))))))))); refine G.v (rv_assign rfl) rfl (G.done (G.thenN ?_)); refine G.cond rfl (fun hc => ?_) (fun hc => ?_)
  · try exact Bool.noConfusion hc
    all_goals
     try replace hc := of_decide_eq_true hc
     try (exfalso; contradiction)
     all_goals
      refine G.seq (G.region (G.v (rv_assign rfl) rfl (G.done (G.thenN (G.ret (G.inR (G.thenR ?_)))))))
      exact G.retFV rfl rfl (congrArg (Value.int .i64) (by unfold cmpZ; (rw [if_pos (by omega)]; done)))
  · try exact Bool.noConfusion hc
    all_goals
     try replace hc := of_decide_eq_false hc
     try (exfalso; contradiction)
     all_goals
      refine G.seq (G.region (G.v (rv_move rfl) rfl (G.v (rv_move rfl) rfl (G.v (rv_gtr rfl rfl) rfl (G.v (rv_assign rfl) rfl (G.done (G.thenN ?_))))))); refine G.cond rfl (fun hc => ?_) (fun hc => ?_)
      · try exact Bool.noConfusion hc
        all_goals
         try replace hc := of_decide_eq_true hc
         try (exfalso; contradiction)
         all_goals
          refine G.seq (G.region (G.v (rv_assign rfl) rfl (G.done (G.thenN (G.ret (G.inR (G.thenR ?_)))))))
          exact G.retFV rfl rfl (congrArg (Value.int .i64) (by unfold cmpZ; (rw [if_neg (by omega), if_pos (by omega)]; done)))
      · try exact Bool.noConfusion hc
        all_goals
         try replace hc := of_decide_eq_false hc
         try (exfalso; contradiction)
         all_goals
          refine G.skip (G.inN (G.thenN (G.seq (G.region (G.v (rv_assign rfl) rfl (G.done (G.thenN (G.ret ?_))))))))
          exact G.retFV rfl rfl (congrArg (Value.int .i64) (by unfold cmpZ; rw [if_neg (by omega), if_neg (by omega)]))
theorem rowF_snoc (k : Nat) : (rowF k fun j => j) ++ [[.int .i64 (k : Int)]] = rowF (k + 1) fun j => j := by
  simp [rowF, List.range_succ, icell]
theorem range_snoc (k : Nat) : (List.range k).map ncell ++ [[.int .i64 (k : Int)]] = (List.range (k + 1)).map ncell := by
  simp [List.range_succ, ncell, icell]
theorem short_srt {α : Type} {R : α → α → Prop} {l : List α} (h : l.length < 2) : l.Pairwise R := by
  match l, h with
  | [], _ => exact List.Pairwise.nil
  | [x], _ => exact List.pairwise_singleton _ _
theorem mrg_halves {K : Nat → Int} {us bs ps : List Nat} {h : Nat} (h1 : us.Perm (ps.take h)) (h2 : bs.Perm (ps.drop h)) : (mrgM K us bs).Perm ps := by
  have := (mrg_perm (K := K) us bs).trans (h1.append h2)
  rwa [List.take_append_drop] at this
theorem halves_lt {ps : List Nat} {h x y : Nat} (hp : ps.Pairwise (· < ·)) (hx : x ∈ ps.take h) (hy : y ∈ ps.drop h) : x < y := by
  rw [← List.take_append_drop h ps] at hp
  exact (List.pairwise_append.1 hp).2.2 x hx y hy
theorem cmpZ_down {ks : List Int} {i j : Nat} {a b : Int} (h1 : ks[i]? = some a) (h2 : ks[j]? = some b) : cmpZ b a = cmpZ (keyM ks i) (keyM ks j) := by
  rw [keyM_get h1, keyM_get h2]; unfold cmpZ
  by_cases c : b < a
  · rw [if_pos c, if_pos (by omega)]
  · rw [if_neg c, if_neg (show ¬ -a < -b from by omega)]
    by_cases c2 : b > a
    · rw [if_pos c2, if_pos (by omega)]
    · rw [if_neg c2, if_neg (by omega)]
theorem sortDown1_any {kv : Value} {ks : List Int} {q i j : Nat} (w : World) (h : Rd w (.slice (some ⟨q, 0, none⟩) 1 1) 1 [[kv]]) (hk : Rd w kv 1 (ks.map icell)) (hi : i < ks.length) (hj : j < ks.length) : FnV Tryz.prog 165 [.int .i64 (i : Int), .int .i64 (j : Int), pB q 0] w (.int .i64 (cmpZ (keyM ks i) (keyM ks j))) := by
  rw [pB_eq_pE q 1]
  obtain ⟨a, ha⟩ := get_of_lt hi
  obtain ⟨b, hb⟩ := get_of_lt hj
  have e1 := get_map ha icell
  have e2 := get_map hb icell
  refine FnV.of (n := 15) Tryz.func165 rfl rfl ?_; refine G.seq (G.region (G.v (rv_assign rfl) rfl (G.done (G.thenN (G.seq ?_))))); refine G.drawL [9] ?_; refine GE.q 0 rfl (by as_aux_lemma => kernel_rfl) rfl (qg_runs (rv_loadE rfl (by exact Rd.stays (by assumption)) (by rfl) rfl)) rfl ?_; refine GE.q 1 rfl (by as_aux_lemma => kernel_rfl) rfl (qg_runs (rv_move rfl)) rfl ?_; refine GE.q 2 rfl (by as_aux_lemma => kernel_rfl) rfl (qg_runs (rv_indexH rfl rfl (by exact Rd.stays (by assumption)) rfl (by exact e2))) rfl ?_; refine GE.q 3 rfl (by as_aux_lemma => kernel_rfl) rfl (qg_runs (rv_loadE rfl (by exact Rd.stays (by assumption)) (by exact e2) rfl)) rfl ?_; refine GE.q 4 rfl (by as_aux_lemma => kernel_rfl) rfl (qg_runs (rv_loadE rfl (by exact Rd.stays (by assumption)) (by rfl) rfl)) rfl ?_; refine GE.ol 5 (by as_aux_lemma => kernel_rfl) rfl rfl (og_runs (rv_move rfl)) rfl (fun _ _ h => by exact h) (fun _ _ => ?_); refine GE.ol 6 (by as_aux_lemma => kernel_rfl) rfl rfl (og_runs (rv_indexH rfl rfl (by exact Rd.stays (by assumption)) rfl (by exact e1))) rfl (fun _ _ h => by exact h) (fun _ _ => ?_); refine GE.ol 7 (by as_aux_lemma => kernel_rfl) rfl rfl (og_runs (rv_loadE rfl (by exact Rd.stays (by assumption)) (by exact e1) rfl)) rfl (fun _ _ h => by exact h) (fun _ _ => ?_); refine GE.ol 8 (by as_aux_lemma => kernel_rfl) rfl rfl (og_callV rfl rfl (fun w _ => compare_any _ _ w)) rfl (fun _ _ h => by exact h) (fun _ _ => ?_)
  refine GE.t 9 (by as_aux_lemma => kernel_rfl) rfl rfl rfl (og_runs (rv_assign rfl)) rfl (fun _ _ => ?_); refine GE.done (by as_aux_lemma => kernel_rfl) ?_; refine G.thenN (G.ret ?_)
  exact G.retFV rfl rfl (congrArg (Value.int .i64) (cmpZ_down ha hb))
theorem places_any {n : Nat} (w : World) (hn : n ≤ 1048576) : Fn Tryz.prog 163 [.int .i64 (n : Int)] w (fun v : Value => v.oneCell' = true) (fun v => v) (fun v => [.row v 3 1 (rowF n fun j => j)]) := by
  refine Fn.of (n := 16) Tryz.func163 rfl rfl ?_; refine G.seq (G.region (G.v (rv_assign rfl) rfl (G.done (G.thenN (G.seq (G.region ?_)))))); refine G.op (og_lit rfl .nil rfl rfl rfl rfl rfl rfl) rfl (fun vl _ => ?_); refine G.v (rv_assign rfl) rfl (G.done (G.thenN (G.seq (G.seq (G.region (G.v (rv_move rfl) rfl (G.v (rv_move rfl) rfl (G.done (G.thenN (G.block ?_))))))))))
  -- loop 0: turned [3, 7], kept [6]
  refine G.loopK (ι := Nat × Value) (ks := [6]) (fun x => [(3, x.2), (7, .int .i64 (x.1 : Int))]) (fun x => [.row x.2 3 1 (rowF x.1 fun j => j)]) (fun x => x.1 ≤ n) (fun x => n - x.1) (0, vl) (.cons rfl (.nil)) rfl ?_ ?_ ?_
  · exact Nat.zero_le _
  · exact ⟨rfl, rfl, trivial⟩
  rintro ⟨k, v⟩ hk
  dsimp only at hk ⊢
  have hln : (rowF k fun j => j).length = k := rowF_len _ _
  all_goals
   refine G.seq (G.region (G.v (rv_lss rfl rfl) rfl (G.done (G.thenN (G.seq ?_))))); refine G.cond rfl (fun hc => ?_) (fun hc => ?_)
   · try exact Bool.noConfusion hc
     all_goals
      try replace hc := of_decide_eq_true hc
      try (exfalso; contradiction)
      all_goals
       refine G.skip (G.thenN (G.seq (G.block (G.seq (G.region (G.v (rv_move rfl) rfl (G.v (rv_assign rfl) rfl (G.done (G.thenN (G.region (G.v (rv_move rfl) rfl ?_))))))))))); refine G.v (rv_move rfl) rfl ?_; refine G.op (og_lit rfl (.cons rfl .nil) rfl rfl rfl rfl rfl rfl) rfl (fun vl _ => ?_); refine G.op (og_app1 rfl rfl rfl (by exact Rd.owned 0 rfl) rfl rfl (by (simp; omega)) (by (simp; omega))) rfl (fun va _ => ?_); refine G.v (rv_assign rfl) rfl (G.done (G.inN (G.thenN (G.region ?_)))); refine G.v (rv_incr rfl rfl (by omega)) rfl ?_; refine G.v (rv_move rfl) rfl (G.done ?_); refine G.backK (k + 1, va) 1 (one_eq (congrArg (fun z => Ch.row va 3 1 z) (rowF_snoc k))) (.cons rfl (.nil)) ?_ ?_ ?_
       · exact ⟨rfl, rfl, trivial⟩
       · dsimp only; omega
       · dsimp only; omega
   · try exact Bool.noConfusion hc
     all_goals
      try replace hc := of_decide_eq_false hc
      try (exfalso; contradiction)
      all_goals
       refine G.exit (G.thenX (G.thenX (G.inX (G.thenN (G.seq (G.region (G.v (rv_move rfl) rfl (G.v (rv_assign rfl) rfl (G.done (G.thenN (G.ret ?_))))))))))); refine G.know (fun w hw => (Rd.owned 0 rfl w hw).one_) (fun hone => G.retF v hone rfl rfl rfl (fun w hw => by obtain rfl : k = n := (by omega); exact hw))
theorem sortDown_any {kv : Value} {ks : List Int} (w : World) (h : Rd w kv 1 (ks.map icell)) (hn : ks.length ≤ 1048576) : Fn Tryz.prog 102 [kv] w (fun v : Value => v.oneCell' = true) (fun v => v) (fun v => [.row v 3 1 ((ordM (keyM ks) ks.length).map ncell)]) := by
  have hln : (ks.map icell).length = ks.length := by simp
  have hone := h.one_
  refine Fn.of (n := 11) Tryz.func102 rfl rfl ?_; refine G.seq (G.region ?_); refine G.op (og_box rfl (cells_one (by assumption))) rfl (fun bk1 _ => ?_); refine G.v (rv_assign rfl) rfl (G.done (G.thenN (G.seq (G.region (G.v (rv_load1 0 rfl rfl rfl) rfl ?_))))); refine G.v (rv_len rfl (by exact Rd.stays (by assumption))) rfl ?_
  (first | (refine G.op (og_callF1 rfl rfl (fun w hh => by rw [hln]; exact places_any w hn)) rfl ?_; rintro vp hvp; try dsimp only) | (refine G.op (og_callF2 rfl rfl (fun w hh => by rw [hln]; exact places_any w hn)) rfl ?_; rintro vp hvp; try dsimp only) | (refine G.op (og_callF3 rfl rfl (fun w hh => by rw [hln]; exact places_any w hn)) rfl ?_; rintro vp hvp; try dsimp only) | (refine G.op (og_callF0 rfl rfl (fun w hh => by rw [hln]; exact places_any w hn)) rfl ?_; rintro vp hvp; try dsimp only) | (refine G.op (og_callF rfl rfl (fun w hh => by rw [hln]; exact places_any w hn)) rfl ?_; rintro vp hvp; try dsimp only))
  refine G.v (rv_assign rfl) rfl (G.done (G.thenN (G.seq (G.region (G.v (rv_move rfl) rfl (G.v (rv_makeFunc rfl rfl) rfl ?_))))))
  (refine G.frontR0 (vp) rfl ?_); refine G.op (og_callMM1 rfl rfl rfl (sortStable_any (fun w hh i j hi hj => sortDown1_any w (Rd.ofBlk 0 rfl (one_cons hone rfl) w hh) (Rd.stays h w hh.none) hi hj) hn)) rfl ?_; rintro f1 hf1; try dsimp only
  refine G.done (G.thenN (G.seq (G.region (G.v (rv_move rfl) rfl (G.v (rv_assign rfl) rfl (G.done (G.thenN (G.ret ?_))))))))
  exact G.retF vp hvp rfl rfl rfl (fun w hw => by rw [← ord_of_seg hf1]; exact hw.sublist (by repeat (first | exact List.Sublist.refl _ | refine List.Sublist.cons_cons _ ?_ | refine List.Sublist.cons _ ?_)))
theorem l1Places_any {n : Nat} (w : World) (hn : n ≤ 1048576) : Fn Tryz.prog 179 [.int .i64 (n : Int)] w (fun v : Value => v.oneCell' = true) (fun v => v) (fun v => [.row v 3 1 ((List.range n).map ncell)]) := by
  refine Fn.of (n := 16) Tryz.func179 rfl rfl ?_; refine G.seq (G.region (G.v (rv_assign rfl) rfl (G.done (G.thenN (G.seq (G.region ?_)))))); refine G.op (og_lit rfl .nil rfl rfl rfl rfl rfl rfl) rfl (fun vl _ => ?_); refine G.v (rv_assign rfl) rfl (G.done (G.thenN (G.seq (G.seq (G.region (G.v (rv_assign rfl) rfl (G.done (G.thenN (G.block ?_)))))))))
  -- loop 0: turned [3, 4], kept [0]
  refine G.loopK (ι := Nat × Value) (ks := [0]) (fun x => [(3, x.2), (4, .int .i64 (x.1 : Int))]) (fun x => [.row x.2 3 1 ((List.range x.1).map ncell)]) (fun x => x.1 ≤ n) (fun x => n - x.1) (0, vl) (.cons rfl (.nil)) rfl ?_ ?_ ?_
  · exact Nat.zero_le _
  · exact ⟨rfl, rfl, trivial⟩
  rintro ⟨k, v⟩ hk
  dsimp only at hk ⊢
  all_goals
   refine G.seq (G.seq (G.region (G.v (rv_move rfl) rfl (G.v (rv_move rfl) rfl (G.v (rv_lss rfl rfl) rfl (G.done (G.thenN ?_))))))); refine G.cond rfl (fun hc => ?_) (fun hc => ?_)
   · try exact Bool.noConfusion hc
     all_goals
      try replace hc := of_decide_eq_true hc
      try (exfalso; contradiction)
      all_goals
       refine G.skip (G.thenN (G.seq (G.block (G.region (G.v (rv_move rfl) rfl (G.v (rv_move rfl) rfl ?_)))))); refine G.op (og_lit rfl (.cons rfl .nil) rfl rfl rfl rfl rfl rfl) rfl (fun vl _ => ?_); refine G.op (og_app1 rfl rfl rfl (by exact Rd.owned 0 rfl) rfl rfl (by (simp; omega)) (by (simp; omega))) rfl (fun va _ => ?_); refine G.v (rv_assign rfl) rfl (G.done (G.inN (G.thenN (G.region (G.v (rv_move rfl) rfl ?_))))); refine G.v (rv_incr rfl rfl (by omega)) rfl ?_; refine G.v (rv_assign rfl) rfl (G.done ?_); refine G.backK (k + 1, va) 1 (one_eq (congrArg (fun z => Ch.row va 3 1 z) (range_snoc k))) (.cons rfl (.nil)) ?_ ?_ ?_
       · exact ⟨rfl, rfl, trivial⟩
       · dsimp only; omega
       · dsimp only; omega
   · try exact Bool.noConfusion hc
     all_goals
      try replace hc := of_decide_eq_false hc
      try (exfalso; contradiction)
      all_goals
       refine G.exit (G.thenX (G.thenX (G.inX (G.thenN (G.seq (G.region (G.v (rv_move rfl) rfl (G.v (rv_assign rfl) rfl (G.done (G.thenN (G.ret ?_))))))))))); refine G.know (fun w hw => (Rd.owned 0 rfl w hw).one_) (fun hone => G.retF v hone rfl rfl rfl (fun w hw => by obtain rfl : k = n := (by omega); exact hw))
theorem l1Merge_any {kv : Value} {ks : List Int} : ∀ (s : Nat) {pv : Value} {ps : List Nat} (w : World), ps.length < s → Rd w kv 1 (ks.map icell) → Rd w pv 1 (ps.map ncell) → (∀ x ∈ ps, x < ks.length) → ps.Pairwise (· < ·) → ps.length ≤ 1048576 →
    Fn Tryz.prog 178 [kv, pv, .bool true] w (fun x : Value × List Nat => x.1.oneCell' = true ∧ x.2.Perm ps ∧ x.2.Pairwise (bef (keyM ks))) (fun x => x.1) (fun x => [.row x.1 3 1 (x.2.map ncell)]) := by
  intro s
  induction s with
  | zero => intro pv ps w hs; omega
  | succ s ih =>
  intro pv ps w hs hk hp hlt hpw hn
  have hln : (ps.map ncell).length = ps.length := by simp
  refine Fn.of (n := 132) Tryz.func178 rfl rfl ?_; refine G.seq (G.region (G.v (rv_assign rfl) rfl (G.done (G.thenN (G.seq (G.seq (G.region (G.v (rv_move rfl) rfl ?_)))))))); refine G.v (rv_len rfl (by exact Rd.stays (by assumption))) rfl ?_; refine G.v (rv_lss rfl rfl) rfl (G.done (G.thenN ?_)); refine G.cond rfl (fun hc => ?_) (fun hc => ?_)
  · try exact Bool.noConfusion hc
    all_goals
     try replace hc := of_decide_eq_true hc
     try (exfalso; contradiction)
     all_goals
      refine G.seq (G.region ?_); refine G.op (og_lit rfl .nil rfl rfl rfl rfl rfl rfl) rfl (fun vl _ => ?_); refine G.v (rv_move rfl) rfl ?_; refine G.op (og_app0 rfl rfl rfl (by exact Rd.stays (by assumption)) rfl rfl (by (simp; omega)) (by (simp; omega))) rfl (fun va _ => ?_); refine G.v (rv_assign rfl) rfl (G.done (G.thenN (G.ret (G.thenR ?_))))
      (refine G.know (fun w hw => (Rd.owned 0 rfl w hw).one_) (fun hone => G.retF (va, ps) ⟨hone, List.Perm.refl _, short_srt (by dsimp only; omega)⟩ rfl rfl rfl (fun w hw => hw.sublist (by repeat (exact List.Sublist.refl _)))); done)
  · try exact Bool.noConfusion hc
    all_goals
     try replace hc := of_decide_eq_false hc
     try (exfalso; contradiction)
     all_goals
      refine G.skip (G.thenN (G.seq (G.region (G.v (rv_move rfl) rfl ?_)))); refine G.v (rv_len rfl (by exact Rd.stays (by assumption))) rfl ?_; refine G.v (rv_quoN rfl rfl (by omega)) rfl ?_; refine G.v (rv_assign rfl) rfl (G.done (G.thenN (G.seq (G.region (G.v (rv_move rfl) rfl (G.v (rv_move rfl) rfl (G.v (rv_move rfl) rfl ?_))))))); refine G.v (rv_sliceH rfl rfl (by exact Rd.stays (by assumption)) (by omega)) rfl ?_; refine G.v (rv_move rfl) rfl ?_
      (refine G.op (og_callF1 rfl rfl (fun w hh => ih w (by rw [List.length_take]; omega) (Rd.stays hk _ hh) (Rd.subH (Rd.stays hp _ hh) (by omega)) (fun x hx => hlt x (List.mem_of_mem_take hx)) (hpw.sublist (List.take_sublist _ _)) (by rw [List.length_take]; omega))) rfl ?_; rintro ⟨xa, us⟩ ⟨hxa, hpa, hsa⟩; try dsimp only)
      refine G.v (rv_assign rfl) rfl (G.done (G.thenN (G.seq (G.region (G.v (rv_move rfl) rfl (G.v (rv_move rfl) rfl (G.v (rv_move rfl) rfl ?_))))))); refine G.v (rv_sliceL rfl rfl (by exact Rd.stays (by assumption)) (by omega)) rfl ?_; refine G.v (rv_move rfl) rfl ?_
      (refine G.op (og_callF1 rfl rfl (fun w hh => ih w (by rw [List.length_drop]; omega) (Rd.stays hk _ hh) (Rd.subL (Rd.stays hp _ hh) (by omega)) (fun x hx => hlt x (List.mem_of_mem_drop hx)) (hpw.sublist (List.drop_sublist _ _)) (by rw [List.length_drop]; omega))) rfl ?_; rintro ⟨xb, bs⟩ ⟨hxb, hpb, hsb⟩; try dsimp only)
      refine G.v (rv_assign rfl) rfl (G.done (G.thenN (G.seq (G.region ?_)))); refine G.op (og_lit rfl .nil rfl rfl rfl rfl rfl rfl) rfl (fun vl _ => ?_); refine G.v (rv_assign rfl) rfl (G.done (G.thenN (G.seq (G.region (G.v (rv_assign rfl) rfl (G.done (G.thenN (G.seq (G.region (G.v (rv_assign rfl) rfl (G.done ?_))))))))))); refine G.thenN (G.seq (G.block ?_))
      -- loop 0: turned [10, 11, 12], kept [0, 2, 8, 9]
      have hla : us.length = (ps.map ncell).length / 2 := by (rw [hpa.length_eq, List.length_take]; omega)
      have hlb : bs.length = ps.length - (ps.map ncell).length / 2 := by rw [hpb.length_eq, List.length_drop]
      have hla2 : (us.map ncell).length = us.length := by simp
      have hlb2 : (bs.map ncell).length = bs.length := by simp
      refine G.loopK (ι := Nat × Nat × List Nat × Value) (ks := [0, 2, 8, 9]) (fun x => [(10, x.2.2.2), (11, .int .i64 (x.1 : Int)), (12, .int .i64 (x.2.1 : Int))]) (fun x => [.row x.2.2.2 3 1 (x.2.2.1.map ncell)]) (fun x => x.1 ≤ us.length ∧ x.2.1 ≤ bs.length ∧ x.2.2.1.length = x.1 + x.2.1 ∧ x.2.2.1 ++ mrgM (keyM ks) (us.drop x.1) (bs.drop x.2.1) = mrgM (keyM ks) us bs) (fun x => us.length + bs.length - x.1 - x.2.1) (0, 0, [], vl) (.cons rfl (.cons rfl (.cons rfl (.cons rfl (.nil))))) rfl ?_ ?_ ?_
      · exact ⟨Nat.zero_le _, Nat.zero_le _, rfl, rfl⟩
      · exact ⟨rfl, rfl, rfl, trivial⟩
      rintro ⟨i, j, out, v⟩ ⟨hi, hj, hol, hm⟩
      dsimp only at hi hj hol hm ⊢
      have hol2 : (out.map ncell).length = out.length := by simp
      by_cases hA : i < us.length
      case' pos => (obtain ⟨x, hx⟩ := get_of_lt hA; have e1 := get_map hx ncell; have hxl := hlt x (List.mem_of_mem_take (hpa.mem_iff.1 (List.mem_of_getElem? hx))); obtain ⟨kx, hkx⟩ := get_of_lt hxl; have e3 := get_map hkx icell; have hK1 := keyM_get hkx)
      all_goals by_cases hB : j < bs.length
      any_goals (obtain ⟨y, hy⟩ := get_of_lt hB; have e2 := get_map hy ncell; have hyl := hlt y (List.mem_of_mem_drop (hpb.mem_iff.1 (List.mem_of_getElem? hy))); obtain ⟨ky, hky⟩ := get_of_lt hyl; have e4 := get_map hky icell; have hK2 := keyM_get hky)
      all_goals
       refine G.seq (G.seq (G.region (G.v (rv_move rfl) rfl (G.v (rv_move rfl) rfl ?_)))); refine G.v (rv_len rfl (by exact Rd.owned 2 rfl)) rfl ?_; refine G.v (rv_lss rfl rfl) rfl (G.v (rv_move rfl) rfl ?_)
       all_goals (((with_reducible refine G.gP rfl rfl (fun hg => ?_) (fun hg => ?_)) <;> (try exact Bool.noConfusion hg) <;> (try (exfalso; first | (have hq := of_decide_eq_false hg; omega) | (have hq := of_decide_eq_true hg; omega); done)) <;> (first | (refine G.gY rfl rfl ?_; refine G.v (rv_move rfl) rfl ?_) | refine G.gN rfl rfl rfl ?_)))
       all_goals ((first | (refine G.gY rfl rfl ?_; refine G.v (rv_move rfl) rfl ?_) | refine G.gN rfl rfl rfl ?_))
       all_goals ((first | (refine G.gY rfl rfl ?_; refine G.v (rv_len rfl (by exact Rd.owned 1 rfl)) rfl ?_) | refine G.gN rfl rfl rfl ?_))
       all_goals ((first | (refine G.gY rfl rfl ?_; refine G.v (rv_lss rfl rfl) rfl ?_) | refine G.gN rfl rfl rfl ?_))
       all_goals ((first | refine G.v (rv_pickT rfl rfl) rfl ?_ | refine G.v (rv_pickF rfl rfl) rfl ?_))
       all_goals
        refine G.done (G.thenN ?_); refine G.cond rfl (fun hc => ?_) (fun hc => ?_)
        · try exact Bool.noConfusion hc
          all_goals
           try replace hc := of_decide_eq_true hc
           try (exfalso; omega)
           all_goals
            refine G.skip (G.thenN (G.block (G.block (G.seq (G.region (G.v (rv_move rfl) rfl (G.v (rv_move rfl) rfl ?_))))))); refine G.v (rv_len rfl (by exact Rd.owned 1 rfl)) rfl ?_; refine G.v (rv_eql rfl rfl) rfl (G.v (rv_assign rfl) rfl (G.done (G.thenN ?_))); refine G.cond rfl (fun hc => ?_) (fun hc => ?_)
            · try exact Bool.noConfusion hc
              all_goals
               try replace hc := of_decide_eq_true hc
               try (exfalso; omega)
               all_goals
                refine G.seq (G.region (G.v (rv_move rfl) rfl (G.v (rv_move rfl) rfl (G.v (rv_move rfl) rfl ?_)))); refine G.v (rv_indexH rfl rfl (by exact Rd.owned 2 rfl) rfl (by exact e1)) rfl ?_; refine G.v (rv_loadE rfl (by exact Rd.owned 2 rfl) (by exact e1) rfl) rfl ?_; refine G.op (og_lit rfl (.cons rfl .nil) rfl rfl rfl rfl rfl rfl) rfl (fun vl _ => ?_); refine G.op (og_app1 rfl rfl rfl (by exact Rd.owned 0 rfl) rfl rfl (by (simp; omega)) (by (simp; omega))) rfl (fun va _ => ?_); refine G.v (rv_assign rfl) rfl (G.done (G.thenN (G.region (G.v (rv_move rfl) rfl ?_)))); refine G.v (rv_incr rfl rfl (by omega)) rfl ?_; refine G.v (rv_assign rfl) rfl (G.done (G.inN (G.inN ?_))); refine G.backK (i + 1, j, out ++ [x], va) 1 (one_eq (congrArg (fun z => Ch.row va 3 1 z) (by rw [List.map_append]; rfl))) (.cons rfl (.cons rfl (.cons rfl (.cons rfl (.nil))))) (⟨rfl, rfl, rfl, trivial⟩) ?_ ?_
                · (exact ⟨by dsimp only; omega, by dsimp only; omega, by simp; omega, by dsimp only; rw [mrg_left hx (fun y' hy' => by first | (rw [List.getElem?_eq_none (by omega)] at hy'; cases hy'; done) | (rw [hy] at hy'; cases hy'; rw [hK1, hK2]; first | omega | (have hq := of_decide_eq_false hg; omega)))] at hm; rw [List.append_assoc]; exact hm⟩)
                · dsimp only; omega
            · try exact Bool.noConfusion hc
              all_goals
               try replace hc := of_decide_eq_false hc
               try (exfalso; omega)
               all_goals
                refine G.seq (G.region (G.v (rv_move rfl) rfl (G.v (rv_move rfl) rfl ?_))); refine G.v (rv_len rfl (by exact Rd.owned 2 rfl)) rfl ?_; refine G.v (rv_eql rfl rfl) rfl (G.v (rv_assign rfl) rfl (G.done (G.thenN ?_))); refine G.cond rfl (fun hc => ?_) (fun hc => ?_)
                · try exact Bool.noConfusion hc
                  all_goals
                   try replace hc := of_decide_eq_true hc
                   try (exfalso; omega)
                   all_goals
                    refine G.seq (G.region (G.v (rv_move rfl) rfl (G.v (rv_move rfl) rfl (G.v (rv_move rfl) rfl ?_)))); refine G.v (rv_indexH rfl rfl (by exact Rd.owned 1 rfl) rfl (by exact e2)) rfl ?_; refine G.v (rv_loadE rfl (by exact Rd.owned 1 rfl) (by exact e2) rfl) rfl ?_; refine G.op (og_lit rfl (.cons rfl .nil) rfl rfl rfl rfl rfl rfl) rfl (fun vl _ => ?_); refine G.op (og_app1 rfl rfl rfl (by exact Rd.owned 0 rfl) rfl rfl (by (simp; omega)) (by (simp; omega))) rfl (fun va _ => ?_); refine G.v (rv_assign rfl) rfl (G.done (G.thenN (G.region (G.v (rv_move rfl) rfl ?_)))); refine G.v (rv_incr rfl rfl (by omega)) rfl ?_; refine G.v (rv_assign rfl) rfl (G.done (G.inN (G.inN ?_))); refine G.backK (i, j + 1, out ++ [y], va) 1 (one_eq (congrArg (fun z => Ch.row va 3 1 z) (by rw [List.map_append]; rfl))) (.cons rfl (.cons rfl (.cons rfl (.cons rfl (.nil))))) (⟨rfl, rfl, rfl, trivial⟩) ?_ ?_
                    · (exact ⟨by dsimp only; omega, by dsimp only; omega, by simp; omega, by dsimp only; rw [mrg_right hy (fun x' hx' => by first | (rw [List.getElem?_eq_none (by omega)] at hx'; cases hx'; done) | (rw [hx] at hx'; cases hx'; rw [hK1, hK2]; first | omega | (have hq := of_decide_eq_true hg; omega)))] at hm; rw [List.append_assoc]; exact hm⟩)
                    · dsimp only; omega
                · try exact Bool.noConfusion hc
                  all_goals
                   try replace hc := of_decide_eq_false hc
                   try (exfalso; omega)
                   all_goals
                    refine G.seq ?_; refine G.drawL [] ?_; refine GE.q 0 rfl (by as_aux_lemma => kernel_rfl) rfl (qg_runs (rv_move rfl)) rfl ?_; refine GE.q 1 rfl (by as_aux_lemma => kernel_rfl) rfl (qg_runs (rv_move rfl)) rfl ?_; refine GE.q 2 rfl (by as_aux_lemma => kernel_rfl) rfl (qg_runs (rv_move rfl)) rfl ?_; refine GE.q 3 rfl (by as_aux_lemma => kernel_rfl) rfl (qg_runs (rv_indexH rfl rfl (by exact Rd.owned 1 rfl) rfl (by exact e2))) rfl ?_; refine GE.q 4 rfl (by as_aux_lemma => kernel_rfl) rfl (qg_runs (rv_loadE rfl (by exact Rd.owned 1 rfl) (by exact e2) rfl)) rfl ?_; refine GE.q 5 rfl (by as_aux_lemma => kernel_rfl) rfl (qg_runs (rv_indexH rfl rfl (by exact Rd.stays (by assumption)) rfl (by exact e4))) rfl ?_; refine GE.q 6 rfl (by as_aux_lemma => kernel_rfl) rfl (qg_runs (rv_loadE rfl (by exact Rd.stays (by assumption)) (by exact e4) rfl)) rfl ?_; refine GE.q 7 rfl (by as_aux_lemma => kernel_rfl) rfl (qg_runs (rv_move rfl)) rfl ?_; refine GE.q 8 rfl (by as_aux_lemma => kernel_rfl) rfl (qg_runs (rv_move rfl)) rfl ?_; refine GE.ol 9 (by as_aux_lemma => kernel_rfl) rfl rfl (og_runs (rv_move rfl)) rfl (fun _ _ h => by exact h) (fun _ _ => ?_); refine GE.ol 10 (by as_aux_lemma => kernel_rfl) rfl rfl (og_runs (rv_indexH rfl rfl (by exact Rd.owned 2 rfl) rfl (by exact e1))) rfl (fun _ _ h => by exact h) (fun _ _ => ?_)
                    refine GE.ol 11 (by as_aux_lemma => kernel_rfl) rfl rfl (og_runs (rv_loadE rfl (by exact Rd.owned 2 rfl) (by exact e1) rfl)) rfl (fun _ _ h => by exact h) (fun _ _ => ?_); refine GE.ol 12 (by as_aux_lemma => kernel_rfl) rfl rfl (og_runs (rv_indexH rfl rfl (by exact Rd.stays (by assumption)) rfl (by exact e3))) rfl (fun _ _ h => by exact h) (fun _ _ => ?_); refine GE.ol 13 (by as_aux_lemma => kernel_rfl) rfl rfl (og_runs (rv_loadE rfl (by exact Rd.stays (by assumption)) (by exact e3) rfl)) rfl (fun _ _ h => by exact h) (fun _ _ => ?_); refine GE.ol 14 (by as_aux_lemma => kernel_rfl) rfl rfl (og_runs (rv_lss rfl rfl)) rfl (fun _ _ h => by exact h) (fun _ _ => ?_); refine GE.ol 15 (by as_aux_lemma => kernel_rfl) rfl rfl (og_runs (rv_move rfl)) rfl (fun _ _ h => by exact h) (fun _ _ => ?_)
                    all_goals (((with_reducible refine GE.part (t := 98) rfl (fun hg => ?_) (fun hg => ?_)) <;> (try exact Bool.noConfusion hg) <;> (try (exfalso; (have hq := of_decide_eq_false hg; omega))) <;> (first | refine GE.q 16 rfl (by as_aux_lemma => kernel_rfl) rfl (qg_runs (rv_move rfl)) rfl ?_ | refine GE.qn 16 rfl (by as_aux_lemma => kernel_rfl) rfl rfl ?_)))
                    all_goals ((first | refine GE.q 17 rfl (by as_aux_lemma => kernel_rfl) rfl (qg_runs (rv_not rfl)) rfl ?_ | refine GE.qn 17 rfl (by as_aux_lemma => kernel_rfl) rfl rfl ?_))
                    all_goals ((first | refine GE.ol 18 (by as_aux_lemma => kernel_rfl) rfl rfl (og_runs (rv_pickT rfl rfl)) rfl (fun _ _ h => by exact h) (fun _ _ => ?_) | refine GE.ol 18 (by as_aux_lemma => kernel_rfl) rfl rfl (og_runs (rv_pickF rfl rfl)) rfl (fun _ _ h => by exact h) (fun _ _ => ?_)))
                    all_goals (refine GE.ol 19 (by as_aux_lemma => kernel_rfl) rfl rfl (og_runs (rv_move rfl)) rfl (fun _ _ h => by exact h) (fun _ _ => ?_))
                    all_goals (((with_reducible refine GE.part (t := 102) rfl (fun hg => ?_) (fun hg => ?_)) <;> (try exact Bool.noConfusion hg) <;> (try (exfalso; (have hq := of_decide_eq_false hg; omega))) <;> (refine GE.q 20 rfl (by as_aux_lemma => kernel_rfl) rfl (qg_runs (rv_move rfl)) rfl ?_)))
                    all_goals ((refine GE.q 21 rfl (by as_aux_lemma => kernel_rfl) rfl (qg_runs (rv_move rfl)) rfl ?_))
                    all_goals ((refine GE.q 22 rfl (by as_aux_lemma => kernel_rfl) rfl (qg_runs (rv_move rfl)) rfl ?_))
                    all_goals (((refine GE.q 23 rfl (by as_aux_lemma => kernel_rfl) rfl (qg_runs (rv_indexH rfl rfl (by exact Rd.owned 1 rfl) rfl (by exact e2))) rfl ?_)))
                    all_goals ((refine GE.q 24 rfl (by as_aux_lemma => kernel_rfl) rfl (qg_runs (rv_loadE rfl (by exact Rd.owned 1 rfl) (by exact e2) rfl)) rfl ?_))
                    all_goals (((refine GE.q 25 rfl (by as_aux_lemma => kernel_rfl) rfl (qg_runs (rv_indexH rfl rfl (by exact Rd.stays (by assumption)) rfl (by exact e4))) rfl ?_)))
                    all_goals ((refine GE.q 26 rfl (by as_aux_lemma => kernel_rfl) rfl (qg_runs (rv_loadE rfl (by exact Rd.stays (by assumption)) (by exact e4) rfl)) rfl ?_))
                    all_goals ((refine GE.q 27 rfl (by as_aux_lemma => kernel_rfl) rfl (qg_runs (rv_move rfl)) rfl ?_))
                    all_goals ((refine GE.q 28 rfl (by as_aux_lemma => kernel_rfl) rfl (qg_runs (rv_move rfl)) rfl ?_))
                    all_goals ((refine GE.q 29 rfl (by as_aux_lemma => kernel_rfl) rfl (qg_runs (rv_move rfl)) rfl ?_))
                    all_goals (((refine GE.q 30 rfl (by as_aux_lemma => kernel_rfl) rfl (qg_runs (rv_indexH rfl rfl (by exact Rd.owned 2 rfl) rfl (by exact e1))) rfl ?_)))
                    all_goals ((refine GE.q 31 rfl (by as_aux_lemma => kernel_rfl) rfl (qg_runs (rv_loadE rfl (by exact Rd.owned 2 rfl) (by exact e1) rfl)) rfl ?_))
                    all_goals (((refine GE.q 32 rfl (by as_aux_lemma => kernel_rfl) rfl (qg_runs (rv_indexH rfl rfl (by exact Rd.stays (by assumption)) rfl (by exact e3))) rfl ?_)))
                    all_goals ((refine GE.q 33 rfl (by as_aux_lemma => kernel_rfl) rfl (qg_runs (rv_loadE rfl (by exact Rd.stays (by assumption)) (by exact e3) rfl)) rfl ?_))
                    all_goals ((refine GE.q 34 rfl (by as_aux_lemma => kernel_rfl) rfl (qg_runs (rv_gtr rfl rfl)) rfl ?_))
                    all_goals ((refine GE.q 35 rfl (by as_aux_lemma => kernel_rfl) rfl (qg_runs (rv_move rfl)) rfl ?_))
                    all_goals ((((with_reducible refine GE.part (t := 118) rfl (fun hg => ?_) (fun hg => ?_)) <;> (try exact Bool.noConfusion hg) <;> (try (exfalso; (have hq := of_decide_eq_false hg; omega))) <;> (first | refine GE.q 36 rfl (by as_aux_lemma => kernel_rfl) rfl (qg_runs (rv_move rfl)) rfl ?_ | refine GE.qn 36 rfl (by as_aux_lemma => kernel_rfl) rfl rfl ?_))))
                    all_goals (((first | refine GE.q 37 rfl (by as_aux_lemma => kernel_rfl) rfl (qg_runs (rv_pickT rfl rfl)) rfl ?_ | refine GE.q 37 rfl (by as_aux_lemma => kernel_rfl) rfl (qg_runs (rv_pickF rfl rfl)) rfl ?_)))
                    all_goals ((refine GE.ol 38 (by as_aux_lemma => kernel_rfl) rfl rfl (og_runs (rv_pickF rfl rfl)) rfl (fun _ _ h => by exact h) (fun _ _ => ?_)))
                    all_goals (refine GE.ol 39 (by as_aux_lemma => kernel_rfl) rfl rfl (og_runs (rv_assign rfl)) rfl (fun _ _ h => by exact h) (fun _ _ => ?_))
                    all_goals
                     refine GE.done (by as_aux_lemma => kernel_rfl) ?_; refine G.thenN ?_; refine G.cond rfl (fun hc => ?_) (fun hc => ?_)
                     · try exact Bool.noConfusion hc
                       all_goals
                        try replace hc := of_decide_eq_true hc
                        try (exfalso; contradiction)
                        all_goals
                         refine G.seq (G.region (G.v (rv_move rfl) rfl (G.v (rv_move rfl) rfl (G.v (rv_move rfl) rfl ?_)))); refine G.v (rv_indexH rfl rfl (by exact Rd.owned 1 rfl) rfl (by exact e2)) rfl ?_; refine G.v (rv_loadE rfl (by exact Rd.owned 1 rfl) (by exact e2) rfl) rfl ?_; refine G.op (og_lit rfl (.cons rfl .nil) rfl rfl rfl rfl rfl rfl) rfl (fun vl _ => ?_); refine G.op (og_app1 rfl rfl rfl (by exact Rd.owned 0 rfl) rfl rfl (by (simp; omega)) (by (simp; omega))) rfl (fun va _ => ?_); refine G.v (rv_assign rfl) rfl (G.done (G.thenN (G.region (G.v (rv_move rfl) rfl ?_)))); refine G.v (rv_incr rfl rfl (by omega)) rfl ?_; refine G.v (rv_assign rfl) rfl (G.done (G.inN (G.inN ?_))); refine G.backK (i, j + 1, out ++ [y], va) 1 (one_eq (congrArg (fun z => Ch.row va 3 1 z) (by rw [List.map_append]; rfl))) (.cons rfl (.cons rfl (.cons rfl (.cons rfl (.nil))))) (⟨rfl, rfl, rfl, trivial⟩) ?_ ?_
                         · (exact ⟨by dsimp only; omega, by dsimp only; omega, by simp; omega, by dsimp only; rw [mrg_right hy (fun x' hx' => by first | (rw [List.getElem?_eq_none (by omega)] at hx'; cases hx'; done) | (rw [hx] at hx'; cases hx'; rw [hK1, hK2]; first | omega | (have hq := of_decide_eq_true hg; omega)))] at hm; rw [List.append_assoc]; exact hm⟩)
                         · dsimp only; omega
                     · try exact Bool.noConfusion hc
                       all_goals
                        try replace hc := of_decide_eq_false hc
                        try (exfalso; contradiction)
                        all_goals
                         refine G.seq (G.region (G.v (rv_move rfl) rfl (G.v (rv_move rfl) rfl (G.v (rv_move rfl) rfl ?_)))); refine G.v (rv_indexH rfl rfl (by exact Rd.owned 2 rfl) rfl (by exact e1)) rfl ?_; refine G.v (rv_loadE rfl (by exact Rd.owned 2 rfl) (by exact e1) rfl) rfl ?_; refine G.op (og_lit rfl (.cons rfl .nil) rfl rfl rfl rfl rfl rfl) rfl (fun vl _ => ?_); refine G.op (og_app1 rfl rfl rfl (by exact Rd.owned 0 rfl) rfl rfl (by (simp; omega)) (by (simp; omega))) rfl (fun va _ => ?_); refine G.v (rv_assign rfl) rfl (G.done (G.thenN (G.region (G.v (rv_move rfl) rfl ?_)))); refine G.v (rv_incr rfl rfl (by omega)) rfl ?_; refine G.v (rv_assign rfl) rfl (G.done (G.inN (G.inN ?_))); refine G.backK (i + 1, j, out ++ [x], va) 1 (one_eq (congrArg (fun z => Ch.row va 3 1 z) (by rw [List.map_append]; rfl))) (.cons rfl (.cons rfl (.cons rfl (.cons rfl (.nil))))) (⟨rfl, rfl, rfl, trivial⟩) ?_ ?_
                         · (exact ⟨by dsimp only; omega, by dsimp only; omega, by simp; omega, by dsimp only; rw [mrg_left hx (fun y' hy' => by first | (rw [List.getElem?_eq_none (by omega)] at hy'; cases hy'; done) | (rw [hy] at hy'; cases hy'; rw [hK1, hK2]; first | omega | (have hq := of_decide_eq_false hg; omega)))] at hm; rw [List.append_assoc]; exact hm⟩)
                         · dsimp only; omega
        · try exact Bool.noConfusion hc
          all_goals
           try replace hc := of_decide_eq_false hc
           try (exfalso; omega)
           all_goals
            refine G.exit (G.thenX (G.thenX (G.inX (G.thenN (G.seq (G.region (G.v (rv_move rfl) rfl (G.v (rv_assign rfl) rfl (G.done (G.thenN (G.ret ?_)))))))))))
            (have hout : out = mrgM (keyM ks) us bs := (by rw [List.drop_eq_nil_of_le (by omega), List.drop_eq_nil_of_le (by omega)] at hm; simpa [mrgM] using hm); refine G.know (fun w hw => (Rd.owned 0 rfl w hw).one_) (fun hone => G.retF (v, out) ⟨hone, hout ▸ mrg_halves hpa hpb, hout ▸ mrg_srt us bs hsa hsb (fun x hx y hy _ => halves_lt hpw (hpa.mem_iff.1 hx) (hpb.mem_iff.1 hy))⟩ rfl rfl rfl (fun w hw => hw.sublist (by repeat (first | exact List.Sublist.refl _ | refine List.Sublist.cons_cons _ ?_ | refine List.Sublist.cons _ ?_)))))
theorem ssortDown_any {kv : Value} {ks : List Int} (w : World) (h : Rd w kv 1 (ks.map icell)) (hn : ks.length ≤ 1048576) : Fn Tryz.prog 162 [kv] w (fun v : Value => v.oneCell' = true) (fun v => v) (fun v => [.row v 3 1 ((ordM (keyM ks) ks.length).map ncell)]) := by
  have hln : (ks.map icell).length = ks.length := by simp
  refine Fn.of (n := 8) Tryz.func162 rfl rfl ?_; refine G.seq (G.region (G.v (rv_assign rfl) rfl (G.done (G.thenN (G.seq (G.region (G.v (rv_move rfl) rfl (G.v (rv_move rfl) rfl ?_)))))))); refine G.v (rv_len rfl (by exact Rd.stays (by assumption))) rfl ?_
  (refine G.op (og_callF1 rfl rfl (fun w hh => by rw [hln]; exact l1Places_any w hn)) rfl ?_; rintro vp hvp; try dsimp only)
  (refine G.op (og_callF1 rfl rfl (fun w hh => l1Merge_any (ks.length + 1) w (by simp) (Rd.stays h _ hh) (Rd.owned 0 rfl _ hh) (fun x hx => List.mem_range.1 hx) List.pairwise_lt_range (by simpa using hn))) rfl ?_; rintro ⟨vo, os⟩ ⟨hvo, hpo, hso⟩; try dsimp only)
  refine G.v (rv_assign rfl) rfl (G.done (G.thenN (G.ret ?_)))
  exact G.retF vo hvo rfl rfl rfl (fun w hw => by rw [← ord_of_perm hso hpo]; exact hw.sublist (by repeat (first | exact List.Sublist.refl _ | refine List.Sublist.cons_cons _ ?_ | refine List.Sublist.cons _ ?_)))
theorem vkey_snoc {r : ReqM} {T : List Int} {k : Nat} {x : Int} (hx : T[k]? = some x) : ((T.take k).map (vOf r)).map icell ++ [[Value.int .i64 (vOf r x)]] = ((T.take (k + 1)).map (vOf r)).map icell := by
  simp [List.take_add_one, hx, icell]
theorem ordU_take {r : ReqM} {T : List Int} {k x : Nat} {u : Int} (hx : (ordM (keyM (T.map (vOf r))) (T.map (vOf r)).length)[k]? = some x) (hu : T[x]? = some u) : (ordU r T)[k]? = some u := ordU_at (by rw [← hx, List.length_map]) hu
section
variable {r : ReqM} {pv tv iv uv : Value} {us : List Int} (w : World) (h : Rd w pv 2 (r.pairs.map PairM.cells)) (h2 : Rd w tv 7 (r.types.map TypeM.cells)) (h3 : Rd w iv 7 (r.items.map ItemM.cells))
include h h2 h3
theorem firstFit1_any {g : List Int} {lv : Value} {q1 q2 : Nat} (u : Int) (h4 : Rd w lv 1 (g.map icell)) (hul : g.length + 1 ≤ 1048576) (h5 : Rd w (.slice (some ⟨q1, 0, none⟩) 1 1) 10 [r.cells pv tv iv]) (h6 : Rd w (.slice (some ⟨q2, 0, none⟩) 1 1) 1 [[.int .i64 u]]) : FnV Tryz.prog 104 [lv, pB q1 0, pB q2 0] w (.bool (roomM r g u)) := by
  rw [pB_eq_pE q1 10, pB_eq_pE q2 1]
  refine FnV.of (n := 9) Tryz.func104 rfl rfl ?_; refine G.seq (G.region (G.v (rv_assign rfl) rfl (G.done (G.thenN (G.seq (G.region ?_)))))); refine G.v (rv_loadEW rfl (by exact Rd.stays (by assumption)) rfl rfl) rfl ?_; refine G.v (rv_move rfl) rfl ?_; refine G.v (rv_loadE rfl (by exact Rd.stays (by assumption)) rfl rfl) rfl ?_; refine G.op (og_callV rfl rfl (fun w hh => room_any (r := r) (us := g) w (Rd.stays h _ hh) (Rd.stays h2 _ hh) (Rd.stays h3 _ hh) (Rd.stays h4 _ hh) hul u)) rfl (fun _ _ => ?_); refine G.v (rv_assign rfl) rfl (G.done (G.thenN (G.ret ?_)))
  exact G.retFV rfl rfl rfl
variable (h4 : Rd w uv 1 (us.map icell)) (hul : us.length ≤ 1048576)
include h4 hul
theorem firstFit_any : Fn Tryz.prog 36 [.agg (r.cells pv tv iv).toArray, uv] w (fun x : Value × List (List Int × Value) => x.1.oneCell' = true ∧ x.2.map Prod.fst = firstM r us) (fun x => x.1) (fun x => [.grp 3 1 (x.2.map (sub id)), .row x.1 44 1 (x.2.map gcell)]) := by
  obtain ⟨T, hT⟩ : ∃ T, T = thereM r us := ⟨_, rfl⟩
  have hTl : T.length ≤ 1048576 := by have := thereM_len r us; rw [hT]; omega
  have hTl2 : (T.map icell).length = T.length := by simp
  have hTl3 : (T.map (vOf r)).length = T.length := by simp
  have hol : ((ordM (keyM (T.map (vOf r))) (T.map (vOf r)).length).map ncell).length = T.length := by rw [List.length_map, ordM_len, hTl3]
  have hol2 : (ordM (keyM (T.map (vOf r))) (T.map (vOf r)).length).length = T.length := by rw [ordM_len, hTl3]
  have hul9 := ordU_len r T
  have hall : (r.cells pv tv iv).all Value.oneCell' = true := req_all h.one_ h2.one_ h3.one_
  refine Fn.of (n := 66) Tryz.func36 rfl rfl ?_; refine G.seq (G.region ?_); refine G.op (og_box rfl rfl) rfl (fun bk2 _ => ?_); refine G.v (rv_assign rfl) rfl (G.done (G.thenN (G.seq (G.region (G.v (rv_loadW 0 rfl rfl rfl) rfl (G.v (rv_move rfl) rfl ?_))))))
  (refine G.op (og_callF1 rfl rfl (fun w hh => by have q := thereOf_any (r := r) (us := us) w (Rd.stays h _ hh) (Rd.stays h2 _ hh) (Rd.stays h3 _ hh) (Rd.stays h4 _ hh) (by omega); rw [← hT] at q; exact q)) rfl ?_; rintro vt hvt; try dsimp only)
  refine G.v (rv_assign rfl) rfl (G.done (G.thenN (G.seq (G.region ?_)))); refine G.op (og_lit rfl .nil rfl rfl rfl rfl rfl rfl) rfl (fun vl _ => ?_); refine G.v (rv_assign rfl) rfl (G.done (G.thenN (G.seq (G.seq (G.region (G.v (rv_move rfl) rfl ?_)))))); refine G.v (rv_len rfl (by exact Rd.owned 1 rfl)) rfl ?_; refine G.v (rv_move rfl) rfl (G.done (G.thenN (G.block ?_)))
  -- loop 0: turned [6, 20], kept [2, 5, 18, 19]
  refine G.loopK (ι := Nat × Value) (ks := [2, 5, 18, 19]) (fun x => [(6, x.2), (20, .int .i64 (x.1 : Int))]) (fun x => [.row x.2 3 1 (((T.take x.1).map (vOf r)).map icell)]) (fun x => x.1 ≤ T.length) (fun x => T.length - x.1) (0, vl) (.cons rfl (.cons rfl (.cons rfl (.cons rfl (.nil))))) rfl ?_ ?_ ?_
  · exact Nat.zero_le _
  · exact ⟨rfl, rfl, trivial⟩
  rintro ⟨k0, v0⟩ hk0
  dsimp only at hk0 ⊢
  have hl9 : (((T.take k0).map (vOf r)).map icell).length = k0 := by (simp; omega)
  by_cases hlt0 : k0 < T.length
  case' pos => (obtain ⟨x, hx⟩ := get_of_lt hlt0; have he := get_map hx icell)
  case' neg => (have hkall : ((T.take k0).map (vOf r)).map icell = (T.map (vOf r)).map icell := (by rw [List.take_of_length_le (by omega)]))
  all_goals
   refine G.seq (G.region (G.v (rv_lss rfl rfl) rfl (G.done (G.thenN (G.seq ?_))))); refine G.cond rfl (fun hc => ?_) (fun hc => ?_)
   · try exact Bool.noConfusion hc
     all_goals
      try replace hc := of_decide_eq_true hc
      try simp only [hTl2, hol] at hc
      try (exfalso; omega)
      all_goals
       refine G.skip (G.thenN (G.seq (G.block (G.seq (G.region ?_))))); refine G.v (rv_indexH rfl rfl (by exact Rd.owned 1 rfl) rfl (by exact he)) rfl ?_; refine G.v (rv_loadE rfl (by exact Rd.owned 1 rfl) (by exact he) rfl) rfl ?_; refine G.v (rv_assign rfl) rfl (G.done (G.thenN (G.region (G.v (rv_move rfl) rfl (G.v (rv_loadW 2 rfl rfl rfl) rfl (G.v (rv_move rfl) rfl ?_)))))); refine G.op (og_lit rfl (.cons rfl .nil) rfl rfl rfl rfl rfl rfl) rfl (fun vx _ => ?_); refine G.op (og_callV rfl rfl (fun w hh => (volumeOf_any (r := r) (us := [x]) w (Rd.stays h _ hh) (Rd.stays h2 _ hh) (Rd.stays h3 _ hh) (Rd.owned 0 rfl _ hh) (by simp)).mono (congrArg (Value.int .i64) (volUS_one r x)))) rfl (fun _ _ => ?_); refine G.op (og_lit rfl (.cons rfl .nil) rfl rfl rfl rfl rfl rfl) rfl (fun vy _ => ?_); refine G.op (og_app2 rfl rfl rfl (by exact Rd.owned 0 rfl) rfl rfl (by (simp; omega)) (by (simp; omega))) rfl (fun va _ => ?_); refine G.v (rv_assign rfl) rfl (G.done (G.inN (G.thenN (G.region ?_)))); refine G.v (rv_incr rfl rfl (by omega)) rfl ?_; refine G.v (rv_move rfl) rfl (G.done ?_); refine G.frontR2 va rfl ?_
       (refine G.keep1 2 rfl ?_; refine G.backK (k0 + 1, va) 0 (one_eq (congrArg (fun z => Ch.row va 3 1 z) (vkey_snoc hx))) (.cons rfl (.cons rfl (.cons rfl (.cons rfl (.nil))))) ?_ ?_ ?_)
       · exact ⟨rfl, rfl, trivial⟩
       · dsimp only; omega
       · dsimp only; omega
   · try exact Bool.noConfusion hc
     all_goals
      try replace hc := of_decide_eq_false hc
      try simp only [hTl2, hol] at hc
      try (exfalso; omega)
      all_goals
       refine G.exit (G.thenX (G.thenX (G.inX (G.thenN (G.seq (G.region ?_)))))); refine G.op (og_lit rfl .nil rfl rfl rfl rfl rfl rfl) rfl (fun vl _ => ?_); refine G.v (rv_assign rfl) rfl (G.done (G.thenN (G.seq (G.seq (G.region (G.v (rv_move rfl) rfl ?_))))))
       (refine G.op (og_callF1 rfl rfl (fun w hh => sortDown_any (ks := T.map (vOf r)) w (by rw [← hkall]; exact Rd.owned 1 rfl _ hh) (by omega))) rfl ?_; rintro vo hvo; try dsimp only)
       refine G.v (rv_len rfl (by exact Rd.owned 0 rfl)) rfl ?_; refine G.v (rv_move rfl) rfl (G.done (G.thenN (G.block ?_)))
       -- loop 1: turned [9, 36], kept [2, 5, 34, 35]
       refine G.frontR1 vl rfl ?_; refine G.heap (fun w hh => hh.nilGrp 3 1) ?_; refine G.loopK (ι := Nat × List (List Int × Value) × Value) (ks := [2, 5, 34, 35]) (fun x => [(9, x.2.2), (36, .int .i64 (x.1 : Int))]) (fun x => [.grp 3 1 (x.2.1.map (sub id)), .row x.2.2 44 1 (x.2.1.map gcell)]) (fun x => x.1 ≤ T.length ∧ x.2.1.map Prod.fst = putAll (roomM r) ((ordU r T).take x.1)) (fun x => T.length - x.1) (0, [], vl) (.cons rfl (.cons rfl (.cons rfl (.cons rfl (.nil))))) rfl ?_ ?_ ?_
       · exact ⟨Nat.zero_le _, rfl⟩
       · exact ⟨rfl, rfl, trivial⟩
       rintro ⟨k, ts, v2⟩ ⟨hk, hM⟩
       dsimp only at hk hM ⊢
       have hl0 : (ts.map gcell).length = ts.length := (by simp)
       have htl : ts.length ≤ k := (by have := putAll_len (roomM r) ((ordU r T).take k); have e2 := congrArg List.length hM; rw [List.length_map] at e2; rw [List.length_take] at this; omega)
       have hblA : ∀ (j : Nat) (b : List Int × Value), ts[j]? = some b → b.1.length ≤ k := (by intro j b hb; have := (putAll_at (p := roomM r) (l := (ordU r T).take k) (q := j) (g := b.1) (by rw [← hM, List.getElem?_map, hb]; rfl)); rw [List.length_take] at this; omega)
       by_cases hlt : k < T.length
       case' pos => (obtain ⟨j, hj⟩ := get_of_lt (l := ordM (keyM (T.map (vOf r))) (T.map (vOf r)).length) (k := k) (by omega); have heo := get_map hj ncell; have hjl : j < T.length := (by have := ordM_mem.1 (List.mem_of_getElem? hj); omega); obtain ⟨u, hu⟩ := get_of_lt hjl; have het := get_map hu icell; have hx := ordU_take hj hu)
       all_goals
        refine G.seq (G.region (G.v (rv_lss rfl rfl) rfl (G.done (G.thenN (G.seq ?_))))); refine G.cond rfl (fun hc => ?_) (fun hc => ?_)
        · try exact Bool.noConfusion hc
          all_goals
           try replace hc := of_decide_eq_true hc
           try simp only [hTl2, hol] at hc
           try (exfalso; omega)
           all_goals
            refine G.skip (G.thenN (G.seq (G.block (G.seq (G.region ?_))))); refine G.v (rv_indexH rfl rfl (by exact Rd.owned 2 rfl) rfl (by exact heo)) rfl ?_; refine G.v (rv_loadE rfl (by exact Rd.owned 2 rfl) (by exact heo) rfl) rfl ?_; refine G.v (rv_assign rfl) rfl (G.done (G.thenN (G.seq (G.region (G.v (rv_move rfl) rfl (G.v (rv_move rfl) rfl ?_)))))); refine G.v (rv_indexH rfl rfl (by exact Rd.owned 4 rfl) rfl (by exact het)) rfl ?_; refine G.v (rv_loadE rfl (by exact Rd.owned 4 rfl) (by exact het) rfl) rfl ?_; refine G.op (og_alloc) rfl (fun bk12 _ => ?_); refine G.op0 (og_st0 rfl rfl rfl rfl rfl rfl (.zero (.cons .nil))) (fun _ _ => ?_); refine G.done (G.thenN (G.seq (G.region (G.v (rv_move rfl) rfl (G.v (rv_makeFunc rfl rfl) rfl ?_))))); refine G.op (og_callV rfl rfl (fun w hh => indexTbl_any (l := ts) (p := fun g => roomM r g u) w (by exact Rd.owned 2 rfl _ hh) (fun w' j b hw hb => firstFit1_any (r := r) (g := b.1) w' (Rd.stays (Rd.stays h _ hh) w' hw) (Rd.stays (Rd.stays h2 _ hh) w' hw) (Rd.stays (Rd.stays h3 _ hh) w' hw) u (Rd.stays (Subs.at (by exact Subs.owned 1 rfl _ hh) hb) w' hw) (by have := hblA j b hb; omega) (Rd.stays (by exact Rd.ofBlk 6 rfl hall w hh) w' hw) (Rd.stays (by exact Rd.ofBlk 0 rfl rfl w hh) w' hw)))) rfl (fun _ _ => ?_); refine G.v (rv_assign rfl) rfl (G.done (G.thenN ?_))
            refine G.seq (G.region (G.v (rv_move rfl) rfl (G.v (rv_lss rfl rfl) rfl (G.done (G.thenN ?_))))); refine G.cond rfl (fun hc => ?_) (fun hc => ?_)
            · try exact Bool.noConfusion hc
              all_goals
               try replace hc := of_decide_eq_true hc
               try simp only [hTl2, hol] at hc
               try (exfalso; contradiction)
               all_goals
                have hno := idx_neg hc
                all_goals
                 refine G.region (G.v (rv_move rfl) rfl (G.v (rv_load1 0 rfl rfl rfl) rfl ?_)); refine G.op (og_lit rfl (.cons rfl .nil) rfl rfl rfl rfl rfl rfl) rfl (fun vl _ => ?_); refine G.know (fun w hw => (Rd.owned 0 rfl w hw).one_) (fun hovl => ?_); refine G.op (og_lit rfl (.cons (cells_one (by assumption)) .nil) (by simp only [List.all_cons, List.all_nil, Bool.and_true, Bool.and_eq_true]; exact ⟨rfl, by assumption⟩) rfl rfl rfl rfl rfl) rfl (fun vm _ => ?_); refine G.op (og_app4 rfl rfl rfl (by exact Rd.owned 0 rfl) rfl rfl (by (simp; omega)) (by (simp; omega))) rfl (fun va _ => ?_); refine G.frontG3 _ rfl ?_; refine G.frontR2 vl rfl ?_; refine G.pushRow _ push_sub rfl ?_; refine G.v (rv_assign rfl) rfl (G.done (G.inN (G.thenN (G.region ?_)))); refine G.v (rv_incr rfl rfl (by omega)) rfl ?_; refine G.v (rv_move rfl) rfl (G.done ?_); refine G.frontR3 va rfl ?_; refine G.frontG1 _ rfl ?_
                 (refine G.keep2 2 rfl ?_; refine G.backK (k + 1, ts ++ [([u], vl)], va) 0 (by exact two_eq (congrArg (fun z => Ch.grp 3 1 z) rfl) (congrArg (fun z => Ch.row va 44 1 z) push_g)) (.cons rfl (.cons rfl (.cons rfl (.cons rfl (.nil))))) ?_ ?_ ?_)
                 · exact ⟨rfl, rfl, trivial⟩
                 · (exact ⟨hlt, by rw [putAll_next hx, ← hM]; exact (put_push (p := fun g => roomM r g u) hno).symm⟩)
                 · dsimp only; omega
            · try exact Bool.noConfusion hc
              all_goals
               try replace hc := of_decide_eq_false hc
               try simp only [hTl2, hol] at hc
               try (exfalso; contradiction)
               all_goals
                obtain ⟨q, b, hq, hqb, hpb, hbt⟩ := idx_pos hc
                have heq := get_map hqb gcell
                have hgi : (ts.map (sub id))[q]? = some (b.2, b.1.map icell) := get_mapS hqb
                have hbl : b.1.length ≤ k := hblA q b hqb
                all_goals
                 refine G.frontG1 _ rfl ?_; refine G.drawD1 [9, 10] rfl ?_; refine GE.q2 0 rfl (by as_aux_lemma => kernel_rfl) rfl (qg_runs (rv_move rfl)) (fun _ h => by exact h.drop 1) rfl ?_; refine GE.q2 1 rfl (by as_aux_lemma => kernel_rfl) rfl (qg_runs (rv_move rfl)) (fun _ h => by exact h.drop 1) rfl ?_; refine GE.q2 2 rfl (by as_aux_lemma => kernel_rfl) rfl (qg_runs (rv_move rfl)) (fun _ h => by exact h.drop 1) rfl ?_; refine GE.q2 3 rfl (by as_aux_lemma => kernel_rfl) rfl (qg_runs (rv_move rfl)) (fun _ h => by exact h.drop 1) rfl ?_; refine GE.q2 4 rfl (by as_aux_lemma => kernel_rfl) rfl (qg_runs (rv_indexH (k := q) rfl rfl (by exact Rd.owned 1 rfl) (by omega) heq)) (fun _ h => by exact h.drop 1) rfl ?_; refine GE.q2 5 rfl (by as_aux_lemma => kernel_rfl) rfl (qg_runs (rv_loadE rfl (by exact Rd.owned 1 rfl) (by exact heq) rfl)) (fun _ h => by exact h.drop 1) rfl ?_; refine GE.ol 6 (by as_aux_lemma => kernel_rfl) rfl rfl (og_runs (rv_load1 1 rfl rfl rfl)) rfl (fun _ _ h => by exact h.drop 1) (fun _ _ => ?_); refine GE.ol 7 (by as_aux_lemma => kernel_rfl) rfl rfl (og_lit rfl (.cons rfl .nil) rfl rfl rfl rfl rfl rfl) rfl (fun _ _ h => by exact h.drop 2) (fun vl _ => ?_); refine GE.ol 8 (by as_aux_lemma => kernel_rfl) rfl rfl (og_appG1 rfl rfl rfl hgi (by exact Rd.owned 0 rfl) rfl rfl (by (simp; omega)) (by (simp; omega))) rfl (fun _ _ h => by exact h.drop 2) (fun vb _ => ?_)
                 skip; refine GE.know (fun w hw => (Rd.grp 1 rfl (List.mem_of_getElem? (get_set1 hgi)) w hw).one_) (fun hova => ?_)
                 refine GE.t 9 (by as_aux_lemma => kernel_rfl) rfl rfl rfl (og_runs (rv_indexH (k := q) rfl rfl (by exact Rd.owned 3 rfl) (by omega) heq)) rfl (fun _ _ => ?_); refine GE.t0 10 (by as_aux_lemma => kernel_rfl) rfl rfl rfl (og_stE3 rfl rfl rfl (by exact heq) (cells_one (by assumption)) rfl (by repeat (first | rfl | refine one_cons (by assumption) ?_)) rfl (.zero (.cons .nil))) (fun _ _ => ?_); refine GE.done (by as_aux_lemma => kernel_rfl) ?_; refine G.inN (G.thenN (G.region ?_)); refine G.v (rv_incr rfl rfl (by omega)) rfl ?_; refine G.v (rv_move rfl) rfl (G.done ?_); refine G.frontR3 v2 rfl ?_; refine G.frontG2 _ rfl ?_
                 (refine G.keep2 2 rfl ?_; refine G.backK (k + 1, ts.set q (b.1 ++ [u], vb), v2) 0 (by exact two_eq (congrArg (fun z => Ch.grp 3 1 z) into_sub) (congrArg (fun z => Ch.row v2 44 1 z) into_g)) (.cons rfl (.cons rfl (.cons rfl (.cons rfl (.nil))))) ?_ ?_ ?_)
                 · exact ⟨rfl, rfl, trivial⟩
                 · (exact ⟨hlt, by rw [putAll_next hx, ← hM]; exact (put_into (p := fun g => roomM r g u) hqb hpb hbt).symm⟩)
                 · dsimp only; omega
        · try exact Bool.noConfusion hc
          all_goals
           try replace hc := of_decide_eq_false hc
           try simp only [hTl2, hol] at hc
           try (exfalso; omega)
           all_goals
            refine G.exit (G.thenX (G.thenX (G.inX (G.thenN (G.seq (G.region (G.v (rv_move rfl) rfl (G.v (rv_assign rfl) rfl (G.done (G.thenN (G.ret ?_))))))))))); refine G.know (fun w hw => (Rd.owned 1 rfl w hw).one_) (fun hone => G.retF (v2, ts) ⟨hone, by rw [take_all (l := ordU r T) (by omega), hT] at hM; exact hM⟩ rfl rfl rfl (fun w hw => hw.sublist (by repeat (first | exact List.Sublist.refl _ | refine List.Sublist.cons_cons _ ?_ | refine List.Sublist.cons _ ?_))))
end
section
variable {r : ReqM} {pv tv iv uv : Value} {us : List Int} (w : World) (h : Rd w pv 2 (r.pairs.map PairM.cells)) (h2 : Rd w tv 7 (r.types.map TypeM.cells)) (h3 : Rd w iv 7 (r.items.map ItemM.cells)) (h4 : Rd w uv 1 (us.map icell)) (hul : us.length ≤ 1048576)
include h h2 h3 h4 hul
omit h in
theorem l7First_any (hyes : classM r = 0) : Fn Tryz.prog 101 [.agg (r.cells pv tv iv).toArray, uv] w (fun x : Value × List (List Int × Value) => x.1.oneCell' = true ∧ x.2.map Prod.fst = putAll (roomM r) (ordU r us)) (fun x => x.1) (fun x => [.grp 3 1 (x.2.map (sub id)), .row x.1 44 1 (x.2.map gcell)]) := by
  have hTl2 : (us.map icell).length = us.length := by simp
  have hTl3 : (us.map (vOf r)).length = us.length := by simp
  have hol : ((ordM (keyM (us.map (vOf r))) (us.map (vOf r)).length).map ncell).length = us.length := by rw [List.length_map, ordM_len, hTl3]
  have hol2 : (ordM (keyM (us.map (vOf r))) (us.map (vOf r)).length).length = us.length := by rw [ordM_len, hTl3]
  have hul9 := ordU_len r us
  refine Fn.of (n := 93) Tryz.func101 rfl rfl ?_; refine G.seq (G.region ?_); refine G.op (og_box rfl rfl) rfl (fun bk2 _ => ?_); refine G.v (rv_assign rfl) rfl (G.done (G.thenN (G.seq (G.region (G.v (rv_loadW 0 rfl rfl rfl) rfl ?_))))); refine G.op (og_callV rfl rfl (fun w hh => smasterOf_any (r := r) w (Rd.stays h2 _ hh))) rfl (fun _ _ => ?_); refine G.v (rv_move rfl) rfl (G.v (rv_extract rfl rfl) rfl (G.v (rv_extract rfl rfl) rfl ?_)); refine G.op (og_alloc) rfl (fun bk5 _ => ?_); refine G.op0 (og_st0 rfl rfl rfl rfl rfl rfl (.zero (.cons (.cons (.cons (.cons (.cons (.cons (.cons .nil))))))))) (fun _ _ => ?_); refine G.v (rv_assign rfl) rfl (G.done (G.thenN (G.seq (G.region (G.v (rv_loadW 1 rfl rfl rfl) rfl ?_)))))
  (refine G.op (og_callF1 rfl rfl (fun w hh => by have q := sl6Units_any (r := r) (pv := pv) (tv := tv) w (bounds_items (cls_sound hyes)) (bounds_lens (cls_sound hyes)).1 (Rd.stays h3 _ hh); rw [← unitsM_yes hyes] at q; exact q)) rfl ?_; rintro vu hvu; try dsimp only)
  refine G.v (rv_assign rfl) rfl (G.done (G.thenN (G.seq (G.region ?_)))); refine G.op (og_lit rfl .nil rfl rfl rfl rfl rfl rfl) rfl (fun vl _ => ?_); refine G.v (rv_assign rfl) rfl (G.done (G.thenN (G.seq (G.seq (G.region (G.v (rv_assign rfl) rfl (G.done (G.thenN (G.block ?_)))))))))
  -- loop 0: turned [8, 9], kept [1, 2, 5, 7]
  refine G.frontR0 vl rfl ?_; refine G.loopK (ι := Nat × Value) (ks := [1, 2, 5, 7]) (fun x => [(8, x.2), (9, .int .i64 (x.1 : Int))]) (fun x => [.row x.2 3 1 (((us.take x.1).map (vOf r)).map icell)]) (fun x => x.1 ≤ us.length) (fun x => us.length - x.1) (0, vl) (.cons rfl (.cons rfl (.cons rfl (.cons rfl (.nil))))) rfl ?_ ?_ ?_
  · exact Nat.zero_le _
  · exact ⟨rfl, rfl, trivial⟩
  rintro ⟨k0, v0⟩ hk0
  dsimp only at hk0 ⊢
  have hl9 : (((us.take k0).map (vOf r)).map icell).length = k0 := (by simp; omega)
  by_cases hlt0 : k0 < us.length
  case' pos => (obtain ⟨x, hx⟩ := get_of_lt hlt0; have he := get_map hx icell; have hv1 := volUS_one r x)
  case' neg => (have hkall : ((us.take k0).map (vOf r)).map icell = (us.map (vOf r)).map icell := (by rw [List.take_of_length_le (by omega)]))
  all_goals
   refine G.seq (G.seq (G.region (G.v (rv_move rfl) rfl (G.v (rv_move rfl) rfl ?_)))); refine G.v (rv_len rfl (by exact Rd.stays (by assumption))) rfl ?_; refine G.v (rv_lss rfl rfl) rfl (G.done (G.thenN ?_)); refine G.cond rfl (fun hc => ?_) (fun hc => ?_)
   · try exact Bool.noConfusion hc
     all_goals
      try replace hc := of_decide_eq_true hc
      try simp only [hTl2, hol] at hc
      try (exfalso; omega)
      all_goals
       refine G.skip (G.thenN (G.seq (G.block ?_))); refine G.frontR0 v0 rfl ?_; refine G.drawD1 [12] rfl ?_; refine GE.q2 0 rfl (by as_aux_lemma => kernel_rfl) rfl (qg_runs (rv_move rfl)) (fun _ h => by exact h.drop 1) rfl ?_; refine GE.q2 1 rfl (by as_aux_lemma => kernel_rfl) rfl (qg_runs (rv_loadW 2 rfl rfl rfl)) (fun _ h => by exact h.drop 1) rfl ?_; refine GE.q2 2 rfl (by as_aux_lemma => kernel_rfl) rfl (qg_runs (rv_move rfl)) (fun _ h => by exact h.drop 1) rfl ?_; refine GE.q2 3 rfl (by as_aux_lemma => kernel_rfl) rfl (qg_runs (rv_move rfl)) (fun _ h => by exact h.drop 1) rfl ?_; refine GE.q2 4 rfl (by as_aux_lemma => kernel_rfl) rfl (qg_runs (rv_move rfl)) (fun _ h => by exact h.drop 1) rfl ?_; refine GE.ol 5 (by as_aux_lemma => kernel_rfl) rfl rfl (og_runs (rv_move rfl)) rfl (fun _ _ h => by exact h.drop 1) (fun _ _ => ?_); refine GE.ol 6 (by as_aux_lemma => kernel_rfl) rfl rfl (og_runs (rv_incr rfl rfl (by omega))) rfl (fun _ _ h => by exact h.drop 1) (fun _ _ => ?_); refine GE.ol 7 (by as_aux_lemma => kernel_rfl) rfl rfl (og_runs (rv_sliceLH (l := k0) (h := k0 + 1) rfl rfl rfl (by omega) (Rd.stays h4) (by omega) (by simp; omega))) rfl (fun _ _ h => by exact h.drop 1) (fun _ _ => ?_)
       refine GE.ol 8 (by as_aux_lemma => kernel_rfl) rfl rfl (og_callV rfl rfl (fun w hh => l7Of_any (r := r) (us := [x]) w (Rd.stays h3 _ hh) (by have q := (Rd.stays h4 _ hh).sub (l := k0) (k := k0 + 1) (by omega) (by simp; omega); rw [one_sub hx] at q; exact q) (by simp) (by exact Rd.owned 1 rfl _ hh))) rfl (fun _ _ h => by exact h.drop 1) (fun _ _ => ?_); refine GE.ol 9 (by as_aux_lemma => kernel_rfl) rfl rfl (og_runs (rv_fieldV 0 rfl (by kernel_rfl) rfl)) rfl (fun _ _ h => by exact h.drop 1) (fun _ _ => ?_); refine GE.ol 10 (by as_aux_lemma => kernel_rfl) rfl rfl (og_lit rfl (.cons rfl .nil) rfl rfl rfl rfl rfl rfl) rfl (fun _ _ h => by exact h.drop 2) (fun vy _ => ?_); refine GE.ol 11 (by as_aux_lemma => kernel_rfl) rfl rfl (og_app1 rfl rfl rfl (by exact Rd.owned 0 rfl) rfl rfl (by (simp; omega)) (by (simp; omega))) rfl (fun _ _ h => by exact h.drop 2) (fun va _ => ?_); refine GE.t 12 (by as_aux_lemma => kernel_rfl) rfl rfl rfl (og_runs (rv_assign rfl)) rfl (fun _ _ => ?_); refine GE.done (by as_aux_lemma => kernel_rfl) ?_; refine G.inN (G.thenN (G.region (G.v (rv_move rfl) rfl ?_))); refine G.v (rv_incr rfl rfl (by omega)) rfl ?_; refine G.v (rv_assign rfl) rfl (G.done ?_); refine G.frontR1 va rfl ?_
       (refine G.keep1 1 rfl ?_; refine G.backK (k0 + 1, va) 0 (one_eq (congrArg (fun z => Ch.row va 3 1 z) ((congrArg (fun z => ((us.take k0).map (vOf r)).map icell ++ [[Value.int .i64 z]]) hv1).trans (vkey_snoc hx)))) (.cons rfl (.cons rfl (.cons rfl (.cons rfl (.nil))))) ?_ ?_ ?_)
       · exact ⟨rfl, rfl, trivial⟩
       · dsimp only; omega
       · dsimp only; omega
   · try exact Bool.noConfusion hc
     all_goals
      try replace hc := of_decide_eq_false hc
      try simp only [hTl2, hol] at hc
      try (exfalso; omega)
      all_goals
       refine G.exit (G.thenX (G.thenX (G.inX (G.thenN (G.seq (G.region (G.v (rv_move rfl) rfl ?_)))))))
       (refine G.op (og_callF1 rfl rfl (fun w hh => ssortDown_any (ks := us.map (vOf r)) w (by rw [← hkall]; exact Rd.owned 0 rfl _ hh) (by omega))) rfl ?_; rintro vo hvo; try dsimp only)
       refine G.v (rv_assign rfl) rfl (G.done (G.thenN (G.seq (G.region ?_)))); refine G.op (og_lit rfl .nil rfl rfl rfl rfl rfl rfl) rfl (fun vl _ => ?_); refine G.v (rv_assign rfl) rfl (G.done (G.thenN (G.seq (G.seq (G.region (G.v (rv_assign rfl) rfl (G.done (G.thenN (G.block ?_)))))))))
       -- loop 1: turned [11, 12], kept [1, 2, 5, 7, 10]
       refine G.frontR0 vl rfl ?_; refine G.heap (fun w hh => hh.nilGrp 3 1) ?_; refine G.loopK (ι := Nat × List (List Int × Value) × Value) (ks := [1, 2, 5, 7, 10]) (fun x => [(11, x.2.2), (12, .int .i64 (x.1 : Int))]) (fun x => [.grp 3 1 (x.2.1.map (sub id)), .row x.2.2 44 1 (x.2.1.map gcell)]) (fun x => x.1 ≤ us.length ∧ x.2.1.map Prod.fst = putAll (roomM r) ((ordU r us).take x.1)) (fun x => us.length - x.1) (0, [], vl) (.cons rfl (.cons rfl (.cons rfl (.cons rfl (.cons rfl (.nil)))))) rfl ?_ ?_ ?_
       · exact ⟨Nat.zero_le _, rfl⟩
       · exact ⟨rfl, rfl, trivial⟩
       rintro ⟨k, ts, v2⟩ ⟨hk, hM⟩
       dsimp only at hk hM ⊢
       have hl0 : (ts.map gcell).length = ts.length := (by simp)
       have htl : ts.length ≤ k := (by have := putAll_len (roomM r) ((ordU r us).take k); have e2 := congrArg List.length hM; rw [List.length_map] at e2; rw [List.length_take] at this; omega)
       have hblA : ∀ (j : Nat) (b : List Int × Value), ts[j]? = some b → b.1.length ≤ k := (by intro j b hb; have := (putAll_at (p := roomM r) (l := (ordU r us).take k) (q := j) (g := b.1) (by rw [← hM, List.getElem?_map, hb]; rfl)); rw [List.length_take] at this; omega)
       by_cases hlt : k < us.length
       case' pos => (obtain ⟨j0, hj⟩ := get_of_lt (l := ordM (keyM (us.map (vOf r))) (us.map (vOf r)).length) (k := k) (by omega); have heo := get_map hj ncell; have hjl : j0 < us.length := (by have := ordM_mem.1 (List.mem_of_getElem? hj); omega); obtain ⟨u, hu⟩ := get_of_lt hjl; have het := get_map hu icell; have hx := ordU_take hj hu)
       all_goals
        refine G.seq (G.seq (G.region (G.v (rv_move rfl) rfl (G.v (rv_move rfl) rfl ?_)))); refine G.v (rv_len rfl (by exact Rd.owned 2 rfl)) rfl ?_; refine G.v (rv_lss rfl rfl) rfl (G.done (G.thenN ?_)); refine G.cond rfl (fun hc => ?_) (fun hc => ?_)
        · try exact Bool.noConfusion hc
          all_goals
           try replace hc := of_decide_eq_true hc
           try simp only [hTl2, hol] at hc
           try (exfalso; omega)
           all_goals
            refine G.skip (G.thenN (G.seq (G.block (G.seq (G.region (G.v (rv_move rfl) rfl (G.v (rv_move rfl) rfl (G.v (rv_move rfl) rfl ?_)))))))); refine G.v (rv_indexH rfl rfl (by exact Rd.owned 2 rfl) rfl (by exact heo)) rfl ?_; refine G.v (rv_loadE rfl (by exact Rd.owned 2 rfl) (by exact heo) rfl) rfl ?_; refine G.v (rv_indexH rfl rfl (by exact Rd.stays (by assumption)) rfl (by exact het)) rfl ?_; refine G.v (rv_loadE rfl (by exact Rd.stays (by assumption)) (by exact het) rfl) rfl ?_; refine G.v (rv_assign rfl) rfl (G.done (G.thenN (G.seq (G.region (G.v (rv_assign rfl) rfl (G.done (G.thenN (G.seq (G.seq (G.region (G.v (rv_move rfl) rfl ?_))))))))))); refine G.v (rv_len rfl (by exact Rd.owned 1 rfl)) rfl ?_; refine G.v (rv_subB rfl rfl (by omega) (by omega)) rfl ?_; refine G.v (rv_assign rfl) rfl (G.done (G.thenN (G.block ?_)))
            -- loop 2: turned [14, 15], kept [1, 2, 5, 7, 10, 11, 12, 13]
            refine G.loopK (ι := Nat) (ks := [1, 2, 5, 7, 10, 11, 12, 13]) (fun j => [(14, .int .i64 (idxFrom (fun b => roomM r b.1 u) ts j)), (15, .int .i64 ((j : Int) - 1))]) (fun _ => []) (fun j => j ≤ ts.length) (fun j => j) ts.length (.cons rfl (.cons rfl (.cons rfl (.cons rfl (.cons rfl (.cons rfl (.cons rfl (.cons rfl (.nil))))))))) rfl ?_ ?_ ?_
            · exact Nat.le_refl _
            · exact ⟨congrArg (fun z => some (Value.int .i64 z)) from_end.symm, congrArg (fun z : Nat => some (Value.int .i64 ((z : Int) - 1))) hl0, trivial⟩
            rintro j hk1
            rcases j with _ | j
            case' succ => (obtain ⟨b, hb⟩ := get_of_lt (l := ts) (k := j) (by omega); have heb := get_map hb gcell)
            all_goals
             refine G.seq (G.seq (G.region (G.v (rv_move rfl) rfl (G.v (rv_geq rfl rfl) rfl (G.done (G.thenN ?_)))))); refine G.cond rfl (fun hc => ?_) (fun hc => ?_)
             · try exact Bool.noConfusion hc
               all_goals
                try replace hc := of_decide_eq_true hc
                try simp only [hTl2, hol] at hc
                try (exfalso; contradiction)
                all_goals
                 refine G.skip (G.thenN (G.seq (G.block (G.seq ?_)))); refine G.drawL [] ?_; refine GE.q 0 rfl (by as_aux_lemma => kernel_rfl) rfl (qg_runs (rv_loadW 6 rfl rfl rfl)) rfl ?_; refine GE.q 1 rfl (by as_aux_lemma => kernel_rfl) rfl (qg_runs (rv_move rfl)) rfl ?_; refine GE.q 2 rfl (by as_aux_lemma => kernel_rfl) rfl (qg_runs (rv_loadW 5 rfl rfl rfl)) rfl ?_; refine GE.q 3 rfl (by as_aux_lemma => kernel_rfl) rfl (qg_runs (rv_move rfl)) rfl ?_; refine GE.q 4 rfl (by as_aux_lemma => kernel_rfl) rfl (qg_runs (rv_move rfl)) rfl ?_; refine GE.q 5 rfl (by as_aux_lemma => kernel_rfl) rfl (qg_runs (rv_indexH (k := j) rfl rfl (by exact Rd.owned 1 rfl) (by omega) heb)) rfl ?_; refine GE.q 6 rfl (by as_aux_lemma => kernel_rfl) rfl (qg_runs (rv_loadE rfl (by exact Rd.owned 1 rfl) (by exact heb) rfl)) rfl ?_; refine GE.ol 7 (by as_aux_lemma => kernel_rfl) rfl rfl (og_runs (rv_move rfl)) rfl (fun _ _ h => by exact h) (fun _ _ => ?_); refine GE.ol 8 (by as_aux_lemma => kernel_rfl) rfl rfl (og_callV rfl rfl (fun w hh => (l7Room_any (r := r) (us := b.1) w (Rd.stays h3 _ hh) (Subs.at (by exact Subs.owned 0 rfl _ hh) hb) (by have := hblA _ b hb; omega) (mst r) u (by exact Rd.owned 4 rfl _ hh)).mono (congrArg Value.bool (room_yes hyes b.1 u).symm))) rfl (fun _ _ h => by exact h) (fun _ _ => ?_); refine GE.done (by as_aux_lemma => kernel_rfl) ?_; refine G.thenN ?_; refine G.cond rfl (fun hc => ?_) (fun hc => ?_)
                 · try exact Bool.noConfusion hc
                   all_goals
                    try replace hc := of_decide_eq_true hc
                    try simp only [hTl2, hol] at hc
                    try (exfalso; contradiction)
                    all_goals
                     refine G.region (G.v (rv_move rfl) rfl (G.v (rv_assign rfl) rfl (G.done (G.inN (G.thenN (G.region (G.v (rv_move rfl) rfl ?_))))))); refine G.v (rv_subB rfl rfl (by omega) (by omega)) rfl ?_; refine G.v (rv_assign rfl) rfl (G.done ?_); refine G.backK j 0 rfl (.cons rfl (.cons rfl (.cons rfl (.cons rfl (.cons rfl (.cons rfl (.cons rfl (.cons rfl (.nil))))))))) ?_ ?_ ?_
                     · exact ⟨congrArg (fun z => some (Value.int .i64 z)) ((show ((j + 1 : Nat) : Int) - 1 = (j : Int) by omega).trans (from_yes hb hc)), congrArg (fun z => some (Value.int .i64 z)) (show ((j + 1 : Nat) : Int) - 1 - 1 = (j : Int) - 1 by omega), trivial⟩
                     · omega
                     · omega
                 · try exact Bool.noConfusion hc
                   all_goals
                    try replace hc := of_decide_eq_false hc
                    try simp only [hTl2, hol] at hc
                    try (exfalso; contradiction)
                    all_goals
                     refine G.skip (G.inN (G.thenN (G.region (G.v (rv_move rfl) rfl ?_)))); refine G.v (rv_subB rfl rfl (by omega) (by omega)) rfl ?_; refine G.v (rv_assign rfl) rfl (G.done ?_); refine G.backK j 0 rfl (.cons rfl (.cons rfl (.cons rfl (.cons rfl (.cons rfl (.cons rfl (.cons rfl (.cons rfl (.nil))))))))) ?_ ?_ ?_
                     · exact ⟨congrArg (fun z => some (Value.int .i64 z)) (from_no hb hc), congrArg (fun z => some (Value.int .i64 z)) (show ((j + 1 : Nat) : Int) - 1 - 1 = (j : Int) - 1 by omega), trivial⟩
                     · omega
                     · omega
             · try exact Bool.noConfusion hc
               all_goals
                try replace hc := of_decide_eq_false hc
                try simp only [hTl2, hol] at hc
                try (exfalso; omega)
                all_goals
                 refine G.exit (G.thenX (G.thenX (G.inX (G.thenN (G.seq (G.region (G.v (rv_move rfl) rfl (G.v (rv_lss rfl rfl) rfl (G.done (G.thenN ?_)))))))))); refine G.cond rfl (fun hc => ?_) (fun hc => ?_)
                 · try exact Bool.noConfusion hc
                   all_goals
                    try replace hc := of_decide_eq_true hc
                    try simp only [hTl2, hol] at hc
                    try (exfalso; contradiction)
                    all_goals
                     rw [from_zero] at hc
                     have hno := idx_neg hc
                     all_goals
                      refine G.region (G.v (rv_move rfl) rfl (G.v (rv_move rfl) rfl ?_)); refine G.op (og_lit rfl (.cons rfl .nil) rfl rfl rfl rfl rfl rfl) rfl (fun vl _ => ?_); refine G.know (fun w hw => (Rd.owned 0 rfl w hw).one_) (fun hovl => ?_); refine G.op (og_lit rfl (.cons (cells_one (by assumption)) .nil) (by simp only [List.all_cons, List.all_nil, Bool.and_true, Bool.and_eq_true]; exact ⟨rfl, by assumption⟩) rfl rfl rfl rfl rfl) rfl (fun vm _ => ?_); refine G.op (og_app3 rfl rfl rfl (by exact Rd.owned 0 rfl) rfl rfl (by (simp; omega)) (by (simp; omega))) rfl (fun va _ => ?_); refine G.frontG2 _ rfl ?_; refine G.frontR2 vl rfl ?_; refine G.pushRow _ push_sub rfl ?_; refine G.v (rv_assign rfl) rfl (G.done (G.inN (G.thenN (G.region (G.v (rv_move rfl) rfl ?_))))); refine G.v (rv_incr rfl rfl (by omega)) rfl ?_; refine G.v (rv_assign rfl) rfl (G.done ?_); refine G.frontR2 va rfl ?_; refine G.frontG1 _ rfl ?_
                      (refine G.keep2 1 rfl ?_; refine G.backK (k + 1, ts ++ [([u], vl)], va) 0 (by exact two_eq (congrArg (fun z => Ch.grp 3 1 z) rfl) (congrArg (fun z => Ch.row va 44 1 z) push_g)) (.cons rfl (.cons rfl (.cons rfl (.cons rfl (.cons rfl (.nil)))))) ?_ ?_ ?_)
                      · exact ⟨rfl, rfl, trivial⟩
                      · (exact ⟨hlt, by rw [putAll_next hx, ← hM]; exact (put_push (p := fun g => roomM r g u) hno).symm⟩)
                      · dsimp only; omega
                 · try exact Bool.noConfusion hc
                   all_goals
                    try replace hc := of_decide_eq_false hc
                    try simp only [hTl2, hol] at hc
                    try (exfalso; contradiction)
                    all_goals
                     rw [from_zero] at hc
                     obtain ⟨q, b, hq, hqb, hpb, hbt⟩ := idx_pos hc
                     have hq2 := (from_zero (p := fun b => roomM r b.1 u) (l := ts)).trans hq
                     have heq := get_map hqb gcell
                     have hgi : (ts.map (sub id))[q]? = some (b.2, b.1.map icell) := get_mapS hqb
                     have hbl : b.1.length ≤ k := hblA q b hqb
                     all_goals
                      refine G.region (G.v (rv_move rfl) rfl (G.v (rv_move rfl) rfl (G.v (rv_move rfl) rfl (G.v (rv_move rfl) rfl ?_)))); refine G.v (rv_indexH (k := q) rfl rfl (by exact Rd.owned 1 rfl) (by omega) heq) rfl ?_; refine G.v (rv_loadE rfl (by exact Rd.owned 1 rfl) (by exact heq) rfl) rfl ?_; refine G.v (rv_move rfl) rfl ?_; refine G.op (og_lit rfl (.cons rfl .nil) rfl rfl rfl rfl rfl rfl) rfl (fun vl _ => ?_); refine G.op (og_appG1 rfl rfl rfl hgi (by exact Rd.owned 0 rfl) rfl rfl (by (simp; omega)) (by (simp; omega))) rfl (fun vb _ => ?_)
                      skip; refine G.know (fun w hw => (Rd.grp 1 rfl (List.mem_of_getElem? (get_set1 hgi)) w hw).one_) (fun hova => ?_)
                      refine G.v (rv_indexH (k := q) rfl rfl (by exact Rd.owned 2 rfl) (by omega) heq) rfl ?_; refine G.op0 (og_stE2 rfl rfl rfl (by exact heq) (cells_one (by assumption)) rfl (by repeat (first | rfl | refine one_cons (by assumption) ?_)) rfl (.zero (.cons .nil))) (fun _ _ => ?_); refine G.done (G.inN (G.thenN (G.region (G.v (rv_move rfl) rfl ?_)))); refine G.v (rv_incr rfl rfl (by omega)) rfl ?_; refine G.v (rv_assign rfl) rfl (G.done ?_); refine G.frontR2 v2 rfl ?_; refine G.frontG2 _ rfl ?_
                      (refine G.keep2 1 rfl ?_; refine G.backK (k + 1, ts.set q (b.1 ++ [u], vb), v2) 0 (by exact two_eq (congrArg (fun z => Ch.grp 3 1 z) into_sub) (congrArg (fun z => Ch.row v2 44 1 z) into_g)) (.cons rfl (.cons rfl (.cons rfl (.cons rfl (.cons rfl (.nil)))))) ?_ ?_ ?_)
                      · exact ⟨rfl, rfl, trivial⟩
                      · (exact ⟨hlt, by rw [putAll_next hx, ← hM]; exact (put_into (p := fun g => roomM r g u) hqb hpb hbt).symm⟩)
                      · dsimp only; omega
        · try exact Bool.noConfusion hc
          all_goals
           try replace hc := of_decide_eq_false hc
           try simp only [hTl2, hol] at hc
           try (exfalso; omega)
           all_goals
            refine G.exit (G.thenX (G.thenX (G.inX (G.thenN (G.seq (G.region (G.v (rv_move rfl) rfl (G.v (rv_assign rfl) rfl (G.done (G.thenN (G.ret ?_))))))))))); refine G.know (fun w hw => (Rd.owned 1 rfl w hw).one_) (fun hone => G.retF (v2, ts) ⟨hone, by rw [take_all (l := ordU r us) (by omega)] at hM; exact hM⟩ rfl rfl rfl (fun w hw => hw.sublist (by repeat (first | exact List.Sublist.refl _ | refine List.Sublist.cons_cons _ ?_ | refine List.Sublist.cons _ ?_))))
theorem sfirstFit_any : Fn Tryz.prog 35 [.agg (r.cells pv tv iv).toArray, uv] w (fun x : Value × List (List Int × Value) => x.1.oneCell' = true ∧ x.2.map Prod.fst = firstM r us) (fun x => x.1) (fun x => [.grp 3 1 (x.2.map (sub id)), .row x.1 44 1 (x.2.map gcell)]) := by
  have hTl : (thereM r us).length ≤ 1048576 := by have := thereM_len r us; omega
  refine Fn.of (n := 15) Tryz.func35 rfl rfl ?_; refine G.seq (G.region ?_); refine G.op (og_box rfl rfl) rfl (fun bk2 _ => ?_); refine G.v (rv_assign rfl) rfl (G.done (G.thenN (G.seq (G.seq (G.region (G.v (rv_loadW 0 rfl rfl rfl) rfl ?_)))))); refine G.op (og_callV rfl rfl (fun w hh => sclass_any (r := r) w (Rd.stays h _ hh) (Rd.stays h2 _ hh) (Rd.stays h3 _ hh))) rfl (fun _ _ => ?_); refine G.v (rv_neq rfl rfl) rfl (G.done (G.thenN ?_)); refine G.cond rfl (fun hc => ?_) (fun hc => ?_)
  · try exact Bool.noConfusion hc
    all_goals
     try replace hc := of_decide_eq_true hc
     try (exfalso; contradiction)
     all_goals
      have hno : ¬ classM r = 0 := hc
      all_goals
       refine G.seq (G.region ?_); refine G.op (og_lit rfl .nil rfl rfl rfl rfl rfl rfl) rfl (fun vl _ => ?_); refine G.v (rv_assign rfl) rfl (G.done (G.thenN (G.ret (G.thenR ?_))))
       (refine G.heap (fun w hh => hh.nilGrp 3 1) ?_; refine G.know (fun w hw => (Rd.owned 1 rfl w hw).one_) (fun hone => G.retF (vl, []) ⟨hone, by rw [firstM, thereM_no hno, show ordU r [] = [] from List.eq_nil_of_length_eq_zero (ordU_len r [])]; rfl⟩ rfl rfl rfl (fun w hw => hw.sublist (by repeat (first | exact List.Sublist.refl _ | refine List.Sublist.cons_cons _ ?_ | refine List.Sublist.cons _ ?_)))))
  · try exact Bool.noConfusion hc
    all_goals
     try replace hc := of_decide_eq_false hc
     try (exfalso; contradiction)
     all_goals
      have hyes : classM r = 0 := by omega
      all_goals
       refine G.skip (G.thenN (G.seq ?_)); refine G.drawL [6] ?_; refine GE.q 0 rfl (by as_aux_lemma => kernel_rfl) rfl (qg_runs (rv_loadW 0 rfl rfl rfl)) rfl ?_; refine GE.q 1 rfl (by as_aux_lemma => kernel_rfl) rfl (qg_runs (rv_loadW 0 rfl rfl rfl)) rfl ?_; refine GE.q 3 rfl (by as_aux_lemma => kernel_rfl) rfl (qg_runs (rv_move rfl)) rfl ?_
       (refine GE.ol 2 (by as_aux_lemma => kernel_rfl) rfl rfl (og_callF1 rfl rfl (fun w hh => by have q := sl6Units_any (r := r) (pv := pv) (tv := tv) w (bounds_items (cls_sound hyes)) (bounds_lens (cls_sound hyes)).1 (Rd.stays h3 _ hh); rw [← unitsM_yes hyes] at q; exact q)) rfl (fun _ _ h => by exact h.drop 1) ?_; rintro vu hvu; try dsimp only)
       (refine GE.ol 4 (by as_aux_lemma => kernel_rfl) rfl rfl (og_callF1 rfl rfl (fun w hh => l7Known_any (r := r) (us := us) w (by exact Rd.owned 0 rfl _ hh) (Rd.stays h4 _ hh) (by omega))) rfl (fun _ _ h => by exact h.drop 2) ?_; rintro vt hvt; try dsimp only)
       (refine GE.ol 5 (by as_aux_lemma => kernel_rfl) rfl rfl (og_callF2 rfl rfl (fun w hh => l7First_any (r := r) (us := thereM r us) w (Rd.stays h2 _ hh) (Rd.stays h3 _ hh) (by exact Rd.owned 0 rfl _ hh) hTl hyes)) rfl (fun _ _ h => by exact h.drop 4) ?_; rintro ⟨vo, os⟩ ⟨hvo, hos⟩; try dsimp only)
       refine GE.t 6 (by as_aux_lemma => kernel_rfl) rfl rfl rfl (og_runs (rv_assign rfl)) rfl (fun _ _ => ?_); refine GE.done (by as_aux_lemma => kernel_rfl) ?_; refine G.thenN (G.ret ?_)
       exact G.retF (vo, os) ⟨hvo, hos⟩ rfl rfl rfl (fun w hw => hw.sublist (by repeat (first | exact List.Sublist.refl _ | refine List.Sublist.cons_cons _ ?_ | refine List.Sublist.cons _ ?_)))
/-- The cartons of the way that is asked for. -/
def wayM (r : ReqM) (us : List Int) : List (List Int) := if r.way = 1 then nextM r us else firstM r us
end
theorem nextM_sum (r : ReqM) (us : List Int) : ((nextM r us).map List.length).sum ≤ us.length := by rw [nextM, lastAll_sum]; exact thereM_len r us
theorem firstM_sum (r : ReqM) (us : List Int) : ((firstM r us).map List.length).sum ≤ us.length := by rw [firstM, putAll_sum, ordU_len]; exact thereM_len r us
end Go.Proofs.YtibkggjbkgdnkaaGreat

/-
  Packings: what is asked of one. No program is in sight here.
-/
namespace Go.Proofs.YtibkggjbkgdnkaaGreat
open Go.RowKit
/-- How often x is there. -/
def timesM (l : List Int) (x : Int) : Nat := l.countP (fun y => decide (y = x))
/-- Whether no carton is empty, or over. -/
def okCs (r : ReqM) (cs : List (List Int)) : Bool := cs.all fun l => decide (l.length ≠ 0) && holdsM r l
/-- Whether cartons are a packing of units. -/
def packM (r : ReqM) (us : List Int) (cs : List (List Int)) : Bool := decide (classM r = 0) && (okCs r cs && decide (sortM cs.flatten = sortM (thereM r us)))
end Go.Proofs.YtibkggjbkgdnkaaGreat

/-
  The contract of the library's sort at this program: written by the kit's tools lay-shelf and lay-plain.
-/
namespace Go.Proofs
open Go.Shelf
def Tryz.lays189_ren : Go.Shelf.Ren := ⟨fun | 189 => 111 | 125 => 170 | 257 => 169 | 128 => 215 | 129 => 216 | 294 => 206 | 295 => 207 | 296 => 208 | 297 => 209 | 298 => 210 | 299 => 211 | 216 => 212 | 300 => 213 | 301 => 214 | 328 => 236 | 329 => 237 | 330 => 238 | 331 => 239 | 332 => 240 | 215 => 241 | 343 => 248 | n => n, fun | 28 => 44 | 3 => 3 | 46 => 168 | 0 => 0 | 51 => 203 | 53 => 205 | 4 => 4 | 183 => 195 | 182 => 194 | 131 => 200 | 5 => 5 | 9 => 9 | 218 => 217 | 222 => 221 | 228 => 226 | 229 => 139 | n => n, fun | n => n⟩
end Go.Proofs

/-
  A list of numbers, sorted by the library, however long it is.
-/
namespace Go.Proofs.YtibkggjbkgdnkaaGreat
open Go.RowKit Go.Sort
section
variable {w0 : World} {F : List Ch} {v : Value}
end
end Go.Proofs.YtibkggjbkgdnkaaGreat
