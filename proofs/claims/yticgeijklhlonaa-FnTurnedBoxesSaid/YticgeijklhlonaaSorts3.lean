/-
  Sorting of keys: the program's by the library, the reference's by halves.
-/
import Derived.Test.YticgeijklhlonaaSorts2
import Derived.Test.YticgeijklhlonaaSlc
import Derived.Test.YticgeijklhlonaaShelfP
namespace Go.Proofs.Yticgeijklhlonaa
open Go.RowKit
attribute [local irreducible] Go.wpList Go.Code.wp Go.Exit.then Go.Exit.inBlock Go.bodyPost Go.Calls pE pB G RunsV FnV Fn FnM
set_option maxRecDepth 100000
set_option maxHeartbeats 4000000
section
variable {w0 : World} {F : List Ch} {v : Value} {n : Nat} {g : Nat} [FnOk Try.prog g] {caps : List Value} {K : Nat → Int}
theorem stable_any (hcmp : ∀ w, HeapOk w0 w F → ∀ i j : Nat, i < n → j < n → FnV Try.prog g ([.int .i64 (i : Int), .int .i64 (j : Int)] ++ caps) w (.int .i64 (cmpZ (K i) (K j)))) (hn : n ≤ 1048576) :
    FnMF Try.prog 144 [v, .int .i64 (n : Int), .func (.func g) #[] caps.toArray] w0 [.row v 3 1 (rowF n fun j => j)] F (fun f' : Nat → Nat => Seg K 0 n f') (fun _ => .tuple #[]) (fun f' => [.row v 3 1 (rowF n f')]) := by
  refine FnMF.of (n := 63) Try.func144 rfl rfl ?_
  refine G.seq ?_
  refine G.region ?_
  refine G.v (rv_assign rfl) rfl ?_
  refine G.done ?_
  refine G.thenN ?_
  refine G.seq ?_
  refine G.region ?_
  refine G.v (rv_move rfl) rfl ?_
  refine G.v (rv_assign rfl) rfl ?_
  refine G.v (rv_assign rfl) rfl ?_
  refine G.done ?_
  refine G.thenN ?_
  refine G.seq ?_
  refine G.block ?_
  -- loop 0: turned [7, 8], kept [0, 1, 2, 6]
  refine G.loopK (ι := Nat × Nat × (Nat → Nat)) (ks := [0, 1, 2, 6]) (fun x => [(7, .int .i64 (x.2.1 : Int)), (8, .int .i64 ((x.2.1 + 20 : Nat) : Int))]) (fun x => [.row v 3 1 (rowF n x.2.2)]) (fun x => x.2.1 = x.1 * 20 ∧ Ins K n x.1 x.2.2) (fun x => n - x.2.1) (0, 0, fun j => j) (.cons rfl (.cons rfl (.cons rfl (.cons rfl (.nil))))) rfl ?_ ?_ ?_
  · exact ⟨rfl, Ins.start K n⟩
  · exact ⟨rfl, rfl, trivial⟩
  rintro ⟨q, a, f⟩ ⟨ha, hI⟩
  dsimp only at ha hI ⊢
  have hIl := hI.le
  by_cases hlt : a + 20 ≤ n
  all_goals
   refine G.seq ?_
   refine G.seq ?_
   refine G.region ?_
   refine G.v (rv_move rfl) rfl ?_
   refine G.v (rv_move rfl) rfl ?_
   refine G.v (rv_leq rfl rfl) rfl ?_
   refine G.done ?_
   refine G.thenN ?_
   refine G.cond rfl (fun hc => ?_) (fun hc => ?_)
   · try exact Bool.noConfusion hc
     all_goals
      try replace hc := of_decide_eq_true hc
      try (exfalso; omega)
      all_goals
       refine G.skip ?_
       refine G.thenN ?_
       refine G.block ?_
       refine G.seq ?_
       refine G.region ?_
       refine G.v (rv_move rfl) rfl ?_
       refine G.v (rv_move rfl) rfl ?_
       refine G.v (rv_move rfl) rfl ?_
       refine G.v (rv_move rfl) rfl ?_
       ((refine G.frontR0 (v) rfl ?_); refine G.op (og_callMM1 rfl rfl rfl (insertion_any hcmp (by omega) (by omega) hn (fun j j1 j2 => hI.hi j (by omega)))) rfl ?_; rintro h ⟨hho, hhs⟩; try dsimp only)
       refine G.done ?_
       refine G.thenN ?_
       refine G.seq ?_
       refine G.region ?_
       refine G.v (rv_move rfl) rfl ?_
       refine G.v (rv_assign rfl) rfl ?_
       refine G.done ?_
       refine G.thenN ?_
       refine G.region ?_
       refine G.v (rv_move rfl) rfl ?_
       refine G.v (rv_move rfl) rfl ?_
       refine G.v (rv_addB rfl rfl (by omega) (by omega)) rfl ?_
       refine G.v (rv_assign rfl) rfl ?_
       refine G.done ?_
       refine G.inN ?_
       refine G.backK (q + 1, a + 20, h) 0 rfl (.cons rfl (.cons rfl (.cons rfl (.cons rfl (.nil))))) ?_ ?_ ?_
       · exact ⟨rfl, congrArg (fun z => some (Value.int .i64 z)) (by dsimp only; try omega), trivial⟩
       · subst ha; exact ⟨by dsimp only; omega, hI.next hlt (fun j hj => hho j (by omega)) hhs⟩
       · dsimp only; omega
   · try exact Bool.noConfusion hc
     all_goals
      try replace hc := of_decide_eq_false hc
      try (exfalso; omega)
      all_goals
       refine G.exit ?_
       refine G.thenX ?_
       refine G.thenX ?_
       refine G.inX ?_
       refine G.thenN ?_
       refine G.seq ?_
       refine G.region ?_
       refine G.v (rv_move rfl) rfl ?_
       refine G.v (rv_move rfl) rfl ?_
       refine G.v (rv_move rfl) rfl ?_
       refine G.v (rv_move rfl) rfl ?_
       ((refine G.frontR0 (v) rfl ?_); refine G.op (og_callMM1 rfl rfl rfl (insertion_any hcmp (by omega) (Nat.le_refl _) hn (fun j j1 j2 => hI.hi j (by omega)))) rfl ?_; rintro h0 ⟨hho, hhs⟩; try dsimp only)
       refine G.done ?_
       refine G.thenN ?_
       refine G.block ?_
       -- loop 1: turned [6], kept [0, 1, 2]
       have hB0 : Blk K 20 n h0 := (by subst ha; exact hI.last (by omega) (fun j hj => hho j hj) hhs)
       refine G.loopK (ι := Nat × (Nat → Nat)) (ks := [0, 1, 2]) (fun x => [(6, .int .i64 (x.1 : Int))]) (fun x => [.row v 3 1 (rowF n x.2)]) (fun x => 20 ≤ x.1 ∧ x.1 ≤ 2097152 ∧ Blk K x.1 n x.2) (fun x => n - x.1) (20, h0) (.cons rfl (.cons rfl (.cons rfl (.nil)))) rfl ?_ ?_ ?_
       · exact ⟨Nat.le_refl _, by dsimp only; omega, hB0⟩
       · exact ⟨rfl, trivial⟩
       rintro ⟨s, f1⟩ ⟨hs20, hsm, hB⟩
       dsimp only at hs20 hsm hB ⊢
       by_cases hsn : s < n
       all_goals
        refine G.seq ?_
        refine G.seq ?_
        refine G.region ?_
        refine G.v (rv_move rfl) rfl ?_
        refine G.v (rv_move rfl) rfl ?_
        refine G.v (rv_lss rfl rfl) rfl ?_
        refine G.done ?_
        refine G.thenN ?_
        refine G.cond rfl (fun hc => ?_) (fun hc => ?_)
        · try exact Bool.noConfusion hc
          all_goals
           try replace hc := of_decide_eq_true hc
           try (exfalso; omega)
           all_goals
            refine G.skip ?_
            refine G.thenN ?_
            refine G.block ?_
            refine G.seq ?_
            refine G.region ?_
            refine G.v (rv_move rfl) rfl ?_
            (refine G.v (rv_dblN rfl rfl (by omega)) rfl ?_)
            refine G.v (rv_assign rfl) rfl ?_
            refine G.v (rv_assign rfl) rfl ?_
            refine G.done ?_
            refine G.thenN ?_
            refine G.seq ?_
            refine G.block ?_
            -- loop 2: turned [7, 8], kept [0, 1, 2, 6]
            refine G.loopK (ι := Nat × Nat × (Nat → Nat)) (ks := [0, 1, 2, 6]) (fun x => [(7, .int .i64 (x.2.1 : Int)), (8, .int .i64 ((x.2.1 + 2 * s : Nat) : Int))]) (fun x => [.row v 3 1 (rowF n x.2.2)]) (fun x => x.2.1 = x.1 * (2 * s) ∧ Pass K s n x.1 x.2.2) (fun x => n - x.2.1) (0, 0, f1) (.cons rfl (.cons rfl (.cons rfl (.cons rfl (.nil))))) rfl ?_ ?_ ?_
            · exact ⟨by dsimp only; omega, Pass.start hB⟩
            · exact ⟨rfl, congrArg (fun z => some (Value.int .i64 z)) (by dsimp only; try omega), trivial⟩
            rintro ⟨q, a, f2⟩ ⟨ha, hP⟩
            dsimp only at ha hP ⊢
            have hPl := hP.le
            rw [← ha] at hPl
            have hq2 : a + 2 * s ≤ n → Seg K a (a + s) f2 ∧ Seg K (a + s) (a + 2 * s) f2 := fun hz => by (have := hP.two (by rw [← ha]; omega); rw [← ha, Nat.min_eq_left hz] at this; exact this)
            have hq3 : n < a + 2 * s → a + s < n → Seg K a (a + s) f2 ∧ Seg K (a + s) n f2 := fun hz hy => by (have := hP.two (by rw [← ha]; omega); rw [← ha, Nat.min_eq_right (by omega)] at this; exact this)
            have hlt2 : a + 2 * s ≤ n → ∀ j, a ≤ j → j < a + 2 * s → f2 j < n := fun hz j j1 j2 => by (obtain ⟨p1, p2⟩ := hq2 hz; by_cases c : j < a + s; (have := p1.2 j j1 c; omega); (have := p2.2 j (by omega) j2; omega))
            have hlt3 : n < a + 2 * s → a + s < n → ∀ j, a ≤ j → j < n → f2 j < n := fun hz hy j j1 j2 => by (obtain ⟨p1, p2⟩ := hq3 hz hy; by_cases c : j < a + s; (have := p1.2 j j1 c; omega); (have := p2.2 j (by omega) j2; omega))
            by_cases hlt : a + 2 * s ≤ n
            all_goals
             refine G.seq ?_
             refine G.seq ?_
             refine G.region ?_
             refine G.v (rv_move rfl) rfl ?_
             refine G.v (rv_move rfl) rfl ?_
             refine G.v (rv_leq rfl rfl) rfl ?_
             refine G.done ?_
             refine G.thenN ?_
             refine G.cond rfl (fun hc => ?_) (fun hc => ?_)
             · try exact Bool.noConfusion hc
               all_goals
                try replace hc := of_decide_eq_true hc
                try (exfalso; omega)
                all_goals
                 refine G.skip ?_
                 refine G.thenN ?_
                 refine G.block ?_
                 refine G.seq ?_
                 refine G.region ?_
                 refine G.v (rv_move rfl) rfl ?_
                 refine G.v (rv_move rfl) rfl ?_
                 refine G.v (rv_move rfl) rfl ?_
                 refine G.v (rv_move rfl) rfl ?_
                 (refine G.v (rv_addN rfl rfl (by omega)) rfl ?_)
                 refine G.v (rv_move rfl) rfl ?_
                 refine G.v (rv_move rfl) rfl ?_
                 ((refine G.frontR0 (v) rfl ?_); refine G.op (og_callMM1 rfl rfl rfl (symMerge_any hcmp hn _ (Nat.le_refl _) (by omega) (by omega) (by omega) (hq2 (by omega)).1.1 (hq2 (by omega)).2.1 ((hq2 (by omega)).1.crs (hq2 (by omega)).2) (fun j j1 j2 => hlt2 (by omega) j j1 j2))) rfl ?_; rintro h ⟨hhf, hhs⟩; try dsimp only)
                 refine G.done ?_
                 refine G.thenN ?_
                 refine G.seq ?_
                 refine G.region ?_
                 refine G.v (rv_move rfl) rfl ?_
                 refine G.v (rv_assign rfl) rfl ?_
                 refine G.done ?_
                 refine G.thenN ?_
                 refine G.region ?_
                 refine G.v (rv_move rfl) rfl ?_
                 refine G.v (rv_move rfl) rfl ?_
                 (refine G.v (rv_dblN rfl rfl (by omega)) rfl ?_)
                 (refine G.v (rv_addN rfl rfl (by omega)) rfl ?_)
                 refine G.v (rv_assign rfl) rfl ?_
                 refine G.done ?_
                 refine G.inN ?_
                 refine G.backK (q + 1, a + 2 * s, h) 0 rfl (.cons rfl (.cons rfl (.cons rfl (.cons rfl (.nil))))) ?_ ?_ ?_
                 · exact ⟨rfl, congrArg (fun z => some (Value.int .i64 z)) (by dsimp only; try omega), trivial⟩
                 · exact ⟨by dsimp only; rw [ha]; exact (Nat.succ_mul _ _).symm, hP.next (by rw [← ha]; exact hlt) (fun j hj => hhf.out j (by rw [← ha] at hj; exact hj)) (by rw [← ha]; exact Seg.merged (hq2 hlt).1 (hq2 hlt).2 ⟨by omega, by omega⟩ hhf hhs)⟩
                 · dsimp only; omega
             · try exact Bool.noConfusion hc
               all_goals
                try replace hc := of_decide_eq_false hc
                try (exfalso; omega)
                all_goals
                 refine G.exit ?_
                 refine G.thenX ?_
                 refine G.thenX ?_
                 refine G.inX ?_
                 refine G.thenN ?_
                 refine G.seq ?_
                 refine G.seq ?_
                 refine G.region ?_
                 refine G.v (rv_move rfl) rfl ?_
                 refine G.v (rv_move rfl) rfl ?_
                 (refine G.v (rv_addN rfl rfl (by omega)) rfl ?_)
                 refine G.v (rv_assign rfl) rfl ?_
                 refine G.done ?_
                 refine G.thenN ?_
                 refine G.seq ?_
                 refine G.region ?_
                 refine G.v (rv_move rfl) rfl ?_
                 refine G.v (rv_move rfl) rfl ?_
                 refine G.v (rv_lss rfl rfl) rfl ?_
                 refine G.done ?_
                 refine G.thenN ?_
                 refine G.cond rfl (fun hc => ?_) (fun hc => ?_)
                 · try exact Bool.noConfusion hc
                   all_goals
                    try replace hc := of_decide_eq_true hc
                    try (exfalso; contradiction)
                    all_goals
                     refine G.region ?_
                     refine G.v (rv_move rfl) rfl ?_
                     refine G.v (rv_move rfl) rfl ?_
                     refine G.v (rv_move rfl) rfl ?_
                     refine G.v (rv_move rfl) rfl ?_
                     refine G.v (rv_move rfl) rfl ?_
                     ((refine G.frontR0 (v) rfl ?_); refine G.op (og_callMM1 rfl rfl rfl (symMerge_any hcmp hn _ (Nat.le_refl _) (by omega) (by omega) (by omega) (hq3 (by omega) (by omega)).1.1 (hq3 (by omega) (by omega)).2.1 ((hq3 (by omega) (by omega)).1.crs (hq3 (by omega) (by omega)).2) (fun j j1 j2 => hlt3 (by omega) (by omega) j j1 j2))) rfl ?_; rintro h ⟨hhf, hhs⟩; try dsimp only)
                     refine G.done ?_
                     refine G.thenN ?_
                     refine G.region ?_
                     refine G.v (rv_move rfl) rfl ?_
                     (refine G.v (rv_dblM rfl rfl (by omega)) rfl ?_)
                     refine G.v (rv_assign rfl) rfl ?_
                     refine G.done ?_
                     refine G.inN ?_
                     refine G.backK (2 * s, h) 0 rfl (.cons rfl (.cons rfl (.cons rfl (.nil)))) (⟨rfl, trivial⟩) ?_ ?_
                     · (exact ⟨by dsimp only; omega, by dsimp only; omega, hP.last (by rw [← ha]; omega) (fun j hj => hhf.out j (by rw [← ha] at hj; exact hj)) (by rw [← ha]; exact Seg.merged (hq3 (by omega) (by omega)).1 (hq3 (by omega) (by omega)).2 ⟨by omega, by omega⟩ hhf hhs)⟩)
                     · dsimp only; omega
                 · try exact Bool.noConfusion hc
                   all_goals
                    try replace hc := of_decide_eq_false hc
                    try (exfalso; contradiction)
                    all_goals
                     refine G.skip ?_
                     refine G.thenN ?_
                     refine G.region ?_
                     refine G.v (rv_move rfl) rfl ?_
                     (refine G.v (rv_dblM rfl rfl (by omega)) rfl ?_)
                     refine G.v (rv_assign rfl) rfl ?_
                     refine G.done ?_
                     refine G.inN ?_
                     refine G.backK (2 * s, f2) 0 rfl (.cons rfl (.cons rfl (.cons rfl (.nil)))) (⟨rfl, trivial⟩) ?_ ?_
                     · (exact ⟨by dsimp only; omega, by dsimp only; omega, hP.end (by rw [← ha]; omega) (by rw [← ha]; omega)⟩)
                     · dsimp only; omega
        · try exact Bool.noConfusion hc
          all_goals
           try replace hc := of_decide_eq_false hc
           try (exfalso; omega)
           all_goals
            refine G.exit ?_
            refine G.thenX ?_
            refine G.thenX ?_
            refine G.inX ?_
            exact G.endF0 f1 (hB.all (by omega)) rfl rfl (fun w hw => hw)
theorem sortStable_any (hcmp : ∀ w, HeapOk w0 w F → ∀ i j : Nat, i < n → j < n → FnV Try.prog g ([.int .i64 (i : Int), .int .i64 (j : Int)] ++ caps) w (.int .i64 (cmpZ (K i) (K j)))) (hn : n ≤ 1048576) :
    FnMF Try.prog 136 [v, .func (.func g) #[] caps.toArray] w0 [.row v 3 1 (rowF n fun j => j)] F (fun f' : Nat → Nat => Seg K 0 n f') (fun _ => .tuple #[]) (fun f' => [.row v 3 1 (rowF n f')]) := by
  have hln : (rowF n fun j => j).length = n := rowF_len _ _
  refine FnMF.of (n := 9) Try.func136 rfl rfl ?_
  refine G.region ?_
  refine G.v (rv_move rfl) rfl ?_
  refine G.v (rv_move rfl) rfl ?_
  refine G.v (rv_len rfl (by exact Rd.owned 0 rfl)) rfl ?_
  refine G.v (rv_move rfl) rfl ?_
  ((refine G.frontR0 (v) rfl ?_); refine G.op (og_callMM1 rfl rfl rfl (by rw [hln]; exact stable_any hcmp hn)) rfl ?_; rintro f1 hf1; try dsimp only)
  refine G.done ?_
  exact G.endF0 f1 hf1 rfl rfl (fun w hw => hw)
end
theorem compare_any (a b : Int) (w : World) : FnV Try.prog 138 [.int .i64 a, .int .i64 b] w (.int .i64 (cmpZ a b)) := by
  refine FnV.of (n := 13) Try.func138 rfl rfl ?_
  refine G.seq ?_
  refine G.region ?_
  refine G.v (rv_assign rfl) rfl ?_
  refine G.done ?_
  refine G.thenN ?_
  refine G.seq ?_
  refine G.block ?_
  refine G.seq ?_
  refine G.region ?_
  refine G.v (rv_move rfl) rfl ?_
  refine G.v (rv_move rfl) rfl ?_
  refine G.v (rv_lss rfl rfl) rfl ?_
  refine G.v (rv_assign rfl) rfl ?_
  refine G.done ?_
  refine G.thenN ?_
  refine G.cond rfl (fun hc => ?_) (fun hc => ?_)
  · try exact Bool.noConfusion hc
    all_goals
     try replace hc := of_decide_eq_true hc
     try (exfalso; contradiction)
     all_goals
      refine G.seq ?_
      refine G.region ?_
      refine G.v (rv_assign rfl) rfl ?_
      refine G.done ?_
      refine G.thenN ?_
      refine G.ret ?_
      refine G.inR ?_
      refine G.thenR ?_
      exact G.retFV rfl rfl (congrArg (Value.int .i64) (by unfold cmpZ; (rw [if_pos (by omega)]; done)))
  · try exact Bool.noConfusion hc
    all_goals
     try replace hc := of_decide_eq_false hc
     try (exfalso; contradiction)
     all_goals
      refine G.seq ?_
      refine G.region ?_
      refine G.v (rv_move rfl) rfl ?_
      refine G.v (rv_move rfl) rfl ?_
      refine G.v (rv_gtr rfl rfl) rfl ?_
      refine G.v (rv_assign rfl) rfl ?_
      refine G.done ?_
      refine G.thenN ?_
      refine G.cond rfl (fun hc => ?_) (fun hc => ?_)
      · try exact Bool.noConfusion hc
        all_goals
         try replace hc := of_decide_eq_true hc
         try (exfalso; contradiction)
         all_goals
          refine G.seq ?_
          refine G.region ?_
          refine G.v (rv_assign rfl) rfl ?_
          refine G.done ?_
          refine G.thenN ?_
          refine G.ret ?_
          refine G.inR ?_
          refine G.thenR ?_
          exact G.retFV rfl rfl (congrArg (Value.int .i64) (by unfold cmpZ; (rw [if_neg (by omega), if_pos (by omega)]; done)))
      · try exact Bool.noConfusion hc
        all_goals
         try replace hc := of_decide_eq_false hc
         try (exfalso; contradiction)
         all_goals
          refine G.skip ?_
          refine G.inN ?_
          refine G.thenN ?_
          refine G.seq ?_
          refine G.region ?_
          refine G.v (rv_assign rfl) rfl ?_
          refine G.done ?_
          refine G.thenN ?_
          refine G.ret ?_
          exact G.retFV rfl rfl (congrArg (Value.int .i64) (by unfold cmpZ; rw [if_neg (by omega), if_neg (by omega)]))
theorem rowF_snoc (k : Nat) : (rowF k fun j => j) ++ [[.int .i64 (k : Int)]] = rowF (k + 1) fun j => j := by
  simp [rowF, List.range_succ, icell]
theorem range_snoc (k : Nat) : (List.range k).map ncell ++ [[.int .i64 (k : Int)]] = (List.range (k + 1)).map ncell := by
  simp [List.range_succ, ncell, icell]
theorem short_srt {α : Type} {R : α → α → Prop} {l : List α} (h : l.length < 2) : l.Pairwise R := by
  match l, h with
  | [], _ => exact List.Pairwise.nil
  | [x], _ => exact List.pairwise_singleton _ _
theorem mrg_halves {K : Nat → Int} {us bs ps : List Nat} {h : Nat} (h1 : us.Perm (ps.take h)) (h2 : bs.Perm (ps.drop h)) : (mrgM K us bs).Perm ps := by
  have := (mrg_perm (K := K) us bs).trans (h1.append h2)
  rwa [List.take_append_drop] at this
theorem halves_lt {ps : List Nat} {h x y : Nat} (hp : ps.Pairwise (· < ·)) (hx : x ∈ ps.take h) (hy : y ∈ ps.drop h) : x < y := by
  rw [← List.take_append_drop h ps] at hp
  exact (List.pairwise_append.1 hp).2.2 x hx y hy
theorem cmpZ_down {ks : List Int} {i j : Nat} {a b : Int} (h1 : ks[i]? = some a) (h2 : ks[j]? = some b) : cmpZ b a = cmpZ (keyM ks i) (keyM ks j) := by
  rw [keyM_get h1, keyM_get h2]; unfold cmpZ
  by_cases c : b < a
  · rw [if_pos c, if_pos (by omega)]
  · rw [if_neg c, if_neg (show ¬ -a < -b from by omega)]
    by_cases c2 : b > a
    · rw [if_pos c2, if_pos (by omega)]
    · rw [if_neg c2, if_neg (by omega)]
theorem sortDown1_any {kv : Value} {ks : List Int} {q i j : Nat} (w : World) (h : Rd w (.slice (some ⟨q, 0, none⟩) 1 1) 1 [[kv]]) (hk : Rd w kv 1 (ks.map icell)) (hi : i < ks.length) (hj : j < ks.length) : FnV Try.prog 137 [.int .i64 (i : Int), .int .i64 (j : Int), pB q 0] w (.int .i64 (cmpZ (keyM ks i) (keyM ks j))) := by
  rw [pB_eq_pE q 1]
  obtain ⟨a, ha⟩ := get_of_lt hi
  obtain ⟨b, hb⟩ := get_of_lt hj
  have e1 := get_map ha icell
  have e2 := get_map hb icell
  refine FnV.of (n := 15) Try.func137 rfl rfl ?_
  refine G.seq ?_
  refine G.region ?_
  refine G.v (rv_assign rfl) rfl ?_
  refine G.done ?_
  refine G.thenN ?_
  refine G.seq ?_
  refine G.drawL [9] ?_
  (refine GE.q 0 rfl (by kernel_rfl) rfl (qg_runs (rv_loadE rfl (by exact Rd.stays (by assumption)) (by rfl) rfl)) rfl ?_)
  refine GE.q 1 rfl (by kernel_rfl) rfl (qg_runs (rv_move rfl)) rfl ?_
  (refine GE.q 2 rfl (by kernel_rfl) rfl (qg_runs (rv_indexH rfl rfl (by exact Rd.stays (by assumption)) rfl (by exact e2))) rfl ?_)
  refine GE.q 3 rfl (by kernel_rfl) rfl (qg_runs (rv_loadE rfl (by exact Rd.stays (by assumption)) (by exact e2) rfl)) rfl ?_
  (refine GE.q 4 rfl (by kernel_rfl) rfl (qg_runs (rv_loadE rfl (by exact Rd.stays (by assumption)) (by rfl) rfl)) rfl ?_)
  refine GE.ol 5 (by kernel_rfl) rfl rfl (og_runs (rv_move rfl)) rfl (fun _ _ h => by exact h) (fun _ _ => ?_)
  (refine GE.ol 6 (by kernel_rfl) rfl rfl (og_runs (rv_indexH rfl rfl (by exact Rd.stays (by assumption)) rfl (by exact e1))) rfl (fun _ _ h => by exact h) (fun _ _ => ?_))
  refine GE.ol 7 (by kernel_rfl) rfl rfl (og_runs (rv_loadE rfl (by exact Rd.stays (by assumption)) (by exact e1) rfl)) rfl (fun _ _ h => by exact h) (fun _ _ => ?_)
  refine GE.ol 8 (by kernel_rfl) rfl rfl (og_callV rfl rfl (fun w _ => compare_any _ _ w)) rfl (fun _ _ h => by exact h) (fun _ _ => ?_)
  refine GE.t 9 (by kernel_rfl) rfl rfl rfl (og_runs (rv_assign rfl)) rfl (fun _ _ => ?_)
  refine GE.done (by kernel_rfl) ?_
  refine G.thenN ?_
  refine G.ret ?_
  exact G.retFV rfl rfl (congrArg (Value.int .i64) (cmpZ_down ha hb))
theorem places_any {n : Nat} (w : World) (hn : n ≤ 1048576) : Fn Try.prog 135 [.int .i64 (n : Int)] w (fun v : Value => v.oneCell' = true) (fun v => v) (fun v => [.row v 3 1 (rowF n fun j => j)]) := by
  refine Fn.of (n := 16) Try.func135 rfl rfl ?_
  refine G.seq ?_
  refine G.region ?_
  refine G.v (rv_assign rfl) rfl ?_
  refine G.done ?_
  refine G.thenN ?_
  refine G.seq ?_
  refine G.region ?_
  refine G.op (og_lit rfl .nil rfl rfl rfl rfl rfl rfl) rfl (fun vl _ => ?_)
  refine G.v (rv_assign rfl) rfl ?_
  refine G.done ?_
  refine G.thenN ?_
  refine G.seq ?_
  refine G.seq ?_
  refine G.region ?_
  refine G.v (rv_move rfl) rfl ?_
  refine G.v (rv_move rfl) rfl ?_
  refine G.done ?_
  refine G.thenN ?_
  refine G.block ?_
  -- loop 0: turned [3, 7], kept [6]
  refine G.loopK (ι := Nat × Value) (ks := [6]) (fun x => [(3, x.2), (7, .int .i64 (x.1 : Int))]) (fun x => [.row x.2 3 1 (rowF x.1 fun j => j)]) (fun x => x.1 ≤ n) (fun x => n - x.1) (0, vl) (.cons rfl (.nil)) rfl ?_ ?_ ?_
  · exact Nat.zero_le _
  · exact ⟨rfl, rfl, trivial⟩
  rintro ⟨k, v⟩ hk
  dsimp only at hk ⊢
  have hln : (rowF k fun j => j).length = k := rowF_len _ _
  all_goals
   refine G.seq ?_
   refine G.region ?_
   refine G.v (rv_lss rfl rfl) rfl ?_
   refine G.done ?_
   refine G.thenN ?_
   refine G.seq ?_
   refine G.cond rfl (fun hc => ?_) (fun hc => ?_)
   · try exact Bool.noConfusion hc
     all_goals
      try replace hc := of_decide_eq_true hc
      try (exfalso; contradiction)
      all_goals
       refine G.skip ?_
       refine G.thenN ?_
       refine G.seq ?_
       refine G.block ?_
       refine G.seq ?_
       refine G.region ?_
       refine G.v (rv_move rfl) rfl ?_
       refine G.v (rv_assign rfl) rfl ?_
       refine G.done ?_
       refine G.thenN ?_
       refine G.region ?_
       refine G.v (rv_move rfl) rfl ?_
       refine G.v (rv_move rfl) rfl ?_
       refine G.op (og_lit rfl (.cons rfl .nil) rfl rfl rfl rfl rfl rfl) rfl (fun vl _ => ?_)
       ((refine G.op (og_app1 rfl rfl rfl (by exact Rd.owned 0 rfl) rfl rfl (by simp; omega) (by simp; omega)) rfl (fun va _ => ?_)))
       refine G.v (rv_assign rfl) rfl ?_
       refine G.done ?_
       refine G.inN ?_
       refine G.thenN ?_
       refine G.region ?_
       (refine G.v (rv_incr rfl rfl (by omega)) rfl ?_)
       refine G.v (rv_move rfl) rfl ?_
       refine G.done ?_
       refine G.backK (k + 1, va) 1 (one_eq (congrArg (fun z => Ch.row va 3 1 z) (rowF_snoc k))) (.cons rfl (.nil)) ?_ ?_ ?_
       · exact ⟨rfl, rfl, trivial⟩
       · dsimp only; omega
       · dsimp only; omega
   · try exact Bool.noConfusion hc
     all_goals
      try replace hc := of_decide_eq_false hc
      try (exfalso; contradiction)
      all_goals
       refine G.exit ?_
       refine G.thenX ?_
       refine G.thenX ?_
       refine G.inX ?_
       refine G.thenN ?_
       refine G.seq ?_
       refine G.region ?_
       refine G.v (rv_move rfl) rfl ?_
       refine G.v (rv_assign rfl) rfl ?_
       refine G.done ?_
       refine G.thenN ?_
       refine G.ret ?_
       refine G.know (fun w hw => (Rd.owned 0 rfl w hw).one_) (fun hone => G.retF v hone rfl rfl rfl (fun w hw => by obtain rfl : k = n := (by omega); exact hw))
theorem sortDown_any {kv : Value} {ks : List Int} (w : World) (h : Rd w kv 1 (ks.map icell)) (hn : ks.length ≤ 1048576) : Fn Try.prog 110 [kv] w (fun v : Value => v.oneCell' = true) (fun v => v) (fun v => [.row v 3 1 ((ordM (keyM ks) ks.length).map ncell)]) := by
  have hln : (ks.map icell).length = ks.length := by simp
  have hone := h.one_
  refine Fn.of (n := 11) Try.func110 rfl rfl ?_
  refine G.seq ?_
  refine G.region ?_
  refine G.op (og_box rfl (cells_one (by assumption))) rfl (fun bk1 _ => ?_)
  refine G.v (rv_assign rfl) rfl ?_
  refine G.done ?_
  refine G.thenN ?_
  refine G.seq ?_
  refine G.region ?_
  (refine G.v (rv_load1 0 rfl rfl rfl) rfl ?_)
  refine G.v (rv_len rfl (by exact Rd.stays (by assumption))) rfl ?_
  (first | (refine G.op (og_callF1 rfl rfl (fun w hh => by rw [hln]; exact places_any w hn)) rfl ?_; rintro vp hvp; try dsimp only) | (refine G.op (og_callF2 rfl rfl (fun w hh => by rw [hln]; exact places_any w hn)) rfl ?_; rintro vp hvp; try dsimp only) | (refine G.op (og_callF3 rfl rfl (fun w hh => by rw [hln]; exact places_any w hn)) rfl ?_; rintro vp hvp; try dsimp only) | (refine G.op (og_callF0 rfl rfl (fun w hh => by rw [hln]; exact places_any w hn)) rfl ?_; rintro vp hvp; try dsimp only) | (refine G.op (og_callF rfl rfl (fun w hh => by rw [hln]; exact places_any w hn)) rfl ?_; rintro vp hvp; try dsimp only))
  refine G.v (rv_assign rfl) rfl ?_
  refine G.done ?_
  refine G.thenN ?_
  refine G.seq ?_
  refine G.region ?_
  refine G.v (rv_move rfl) rfl ?_
  refine G.v (rv_makeFunc rfl rfl) rfl ?_
  ((refine G.frontR0 (vp) rfl ?_); refine G.op (og_callMM1 rfl rfl rfl (sortStable_any (fun w hh i j hi hj => sortDown1_any w (Rd.ofBlk 0 rfl (one_cons hone rfl) w hh) (Rd.stays h w hh.none) hi hj) hn)) rfl ?_; rintro f1 hf1; try dsimp only)
  refine G.done ?_
  refine G.thenN ?_
  refine G.seq ?_
  refine G.region ?_
  refine G.v (rv_move rfl) rfl ?_
  refine G.v (rv_assign rfl) rfl ?_
  refine G.done ?_
  refine G.thenN ?_
  refine G.ret ?_
  exact G.retF vp hvp rfl rfl rfl (fun w hw => by rw [← ord_of_seg hf1]; exact hw.sublist (by repeat (first | exact List.Sublist.refl _ | refine List.Sublist.cons_cons _ ?_ | refine List.Sublist.cons _ ?_)))
theorem l1Places_any {n : Nat} (w : World) (hn : n ≤ 1048576) : Fn Try.prog 140 [.int .i64 (n : Int)] w (fun v : Value => v.oneCell' = true) (fun v => v) (fun v => [.row v 3 1 ((List.range n).map ncell)]) := by
  refine Fn.of (n := 16) Try.func140 rfl rfl ?_
  refine G.seq ?_
  refine G.region ?_
  refine G.v (rv_assign rfl) rfl ?_
  refine G.done ?_
  refine G.thenN ?_
  refine G.seq ?_
  refine G.region ?_
  refine G.op (og_lit rfl .nil rfl rfl rfl rfl rfl rfl) rfl (fun vl _ => ?_)
  refine G.v (rv_assign rfl) rfl ?_
  refine G.done ?_
  refine G.thenN ?_
  refine G.seq ?_
  refine G.seq ?_
  refine G.region ?_
  refine G.v (rv_assign rfl) rfl ?_
  refine G.done ?_
  refine G.thenN ?_
  refine G.block ?_
  -- loop 0: turned [3, 4], kept [0]
  refine G.loopK (ι := Nat × Value) (ks := [0]) (fun x => [(3, x.2), (4, .int .i64 (x.1 : Int))]) (fun x => [.row x.2 3 1 ((List.range x.1).map ncell)]) (fun x => x.1 ≤ n) (fun x => n - x.1) (0, vl) (.cons rfl (.nil)) rfl ?_ ?_ ?_
  · exact Nat.zero_le _
  · exact ⟨rfl, rfl, trivial⟩
  rintro ⟨k, v⟩ hk
  dsimp only at hk ⊢
  all_goals
   refine G.seq ?_
   refine G.seq ?_
   refine G.region ?_
   refine G.v (rv_move rfl) rfl ?_
   refine G.v (rv_move rfl) rfl ?_
   refine G.v (rv_lss rfl rfl) rfl ?_
   refine G.done ?_
   refine G.thenN ?_
   refine G.cond rfl (fun hc => ?_) (fun hc => ?_)
   · try exact Bool.noConfusion hc
     all_goals
      try replace hc := of_decide_eq_true hc
      try (exfalso; contradiction)
      all_goals
       refine G.skip ?_
       refine G.thenN ?_
       refine G.seq ?_
       refine G.block ?_
       refine G.region ?_
       refine G.v (rv_move rfl) rfl ?_
       refine G.v (rv_move rfl) rfl ?_
       refine G.op (og_lit rfl (.cons rfl .nil) rfl rfl rfl rfl rfl rfl) rfl (fun vl _ => ?_)
       ((refine G.op (og_app1 rfl rfl rfl (by exact Rd.owned 0 rfl) rfl rfl (by simp; omega) (by simp; omega)) rfl (fun va _ => ?_)))
       refine G.v (rv_assign rfl) rfl ?_
       refine G.done ?_
       refine G.inN ?_
       refine G.thenN ?_
       refine G.region ?_
       refine G.v (rv_move rfl) rfl ?_
       (refine G.v (rv_incr rfl rfl (by omega)) rfl ?_)
       refine G.v (rv_assign rfl) rfl ?_
       refine G.done ?_
       refine G.backK (k + 1, va) 1 (one_eq (congrArg (fun z => Ch.row va 3 1 z) (range_snoc k))) (.cons rfl (.nil)) ?_ ?_ ?_
       · exact ⟨rfl, rfl, trivial⟩
       · dsimp only; omega
       · dsimp only; omega
   · try exact Bool.noConfusion hc
     all_goals
      try replace hc := of_decide_eq_false hc
      try (exfalso; contradiction)
      all_goals
       refine G.exit ?_
       refine G.thenX ?_
       refine G.thenX ?_
       refine G.inX ?_
       refine G.thenN ?_
       refine G.seq ?_
       refine G.region ?_
       refine G.v (rv_move rfl) rfl ?_
       refine G.v (rv_assign rfl) rfl ?_
       refine G.done ?_
       refine G.thenN ?_
       refine G.ret ?_
       refine G.know (fun w hw => (Rd.owned 0 rfl w hw).one_) (fun hone => G.retF v hone rfl rfl rfl (fun w hw => by obtain rfl : k = n := (by omega); exact hw))
theorem l1Merge_any {kv : Value} {ks : List Int} : ∀ (s : Nat) {pv : Value} {ps : List Nat} (w : World), ps.length < s → Rd w kv 1 (ks.map icell) → Rd w pv 1 (ps.map ncell) → (∀ x ∈ ps, x < ks.length) → ps.Pairwise (· < ·) → ps.length ≤ 1048576 →
    Fn Try.prog 139 [kv, pv, .bool true] w (fun x : Value × List Nat => x.1.oneCell' = true ∧ x.2.Perm ps ∧ x.2.Pairwise (bef (keyM ks))) (fun x => x.1) (fun x => [.row x.1 3 1 (x.2.map ncell)]) := by
  intro s
  induction s with
  | zero => intro pv ps w hs; omega
  | succ s ih =>
  intro pv ps w hs hk hp hlt hpw hn
  have hln : (ps.map ncell).length = ps.length := by simp
  refine Fn.of (n := 132) Try.func139 rfl rfl ?_
  refine G.seq ?_
  refine G.region ?_
  refine G.v (rv_assign rfl) rfl ?_
  refine G.done ?_
  refine G.thenN ?_
  refine G.seq ?_
  refine G.seq ?_
  refine G.region ?_
  refine G.v (rv_move rfl) rfl ?_
  refine G.v (rv_len rfl (by exact Rd.stays (by assumption))) rfl ?_
  refine G.v (rv_lss rfl rfl) rfl ?_
  refine G.done ?_
  refine G.thenN ?_
  refine G.cond rfl (fun hc => ?_) (fun hc => ?_)
  · try exact Bool.noConfusion hc
    all_goals
     try replace hc := of_decide_eq_true hc
     try (exfalso; contradiction)
     all_goals
      refine G.seq ?_
      refine G.region ?_
      refine G.op (og_lit rfl .nil rfl rfl rfl rfl rfl rfl) rfl (fun vl _ => ?_)
      refine G.v (rv_move rfl) rfl ?_
      ((refine G.op (og_app0 rfl rfl rfl (by exact Rd.stays (by assumption)) rfl rfl (by simp; omega) (by simp; omega)) rfl (fun va _ => ?_)))
      refine G.v (rv_assign rfl) rfl ?_
      refine G.done ?_
      refine G.thenN ?_
      refine G.ret ?_
      refine G.thenR ?_
      (refine G.know (fun w hw => (Rd.owned 0 rfl w hw).one_) (fun hone => G.retF (va, ps) ⟨hone, List.Perm.refl _, short_srt (by dsimp only; omega)⟩ rfl rfl rfl (fun w hw => hw.sublist (by repeat (exact List.Sublist.refl _)))); done)
  · try exact Bool.noConfusion hc
    all_goals
     try replace hc := of_decide_eq_false hc
     try (exfalso; contradiction)
     all_goals
      refine G.skip ?_
      refine G.thenN ?_
      refine G.seq ?_
      refine G.region ?_
      refine G.v (rv_move rfl) rfl ?_
      refine G.v (rv_len rfl (by exact Rd.stays (by assumption))) rfl ?_
      refine G.v (rv_quoN rfl rfl (by omega)) rfl ?_
      refine G.v (rv_assign rfl) rfl ?_
      refine G.done ?_
      refine G.thenN ?_
      refine G.seq ?_
      refine G.region ?_
      refine G.v (rv_move rfl) rfl ?_
      refine G.v (rv_move rfl) rfl ?_
      refine G.v (rv_move rfl) rfl ?_
      refine G.v (rv_sliceH rfl rfl (by exact Rd.stays (by assumption)) (by omega)) rfl ?_
      refine G.v (rv_move rfl) rfl ?_
      (refine G.op (og_callF1 rfl rfl (fun w hh => ih w (by rw [List.length_take]; omega) (Rd.stays hk _ hh) (Rd.subH (Rd.stays hp _ hh) (by omega)) (fun x hx => hlt x (List.mem_of_mem_take hx)) (hpw.sublist (List.take_sublist _ _)) (by rw [List.length_take]; omega))) rfl ?_; rintro ⟨xa, us⟩ ⟨hxa, hpa, hsa⟩; try dsimp only)
      refine G.v (rv_assign rfl) rfl ?_
      refine G.done ?_
      refine G.thenN ?_
      refine G.seq ?_
      refine G.region ?_
      refine G.v (rv_move rfl) rfl ?_
      refine G.v (rv_move rfl) rfl ?_
      refine G.v (rv_move rfl) rfl ?_
      refine G.v (rv_sliceL rfl rfl (by exact Rd.stays (by assumption)) (by omega)) rfl ?_
      refine G.v (rv_move rfl) rfl ?_
      (refine G.op (og_callF1 rfl rfl (fun w hh => ih w (by rw [List.length_drop]; omega) (Rd.stays hk _ hh) (Rd.subL (Rd.stays hp _ hh) (by omega)) (fun x hx => hlt x (List.mem_of_mem_drop hx)) (hpw.sublist (List.drop_sublist _ _)) (by rw [List.length_drop]; omega))) rfl ?_; rintro ⟨xb, bs⟩ ⟨hxb, hpb, hsb⟩; try dsimp only)
      refine G.v (rv_assign rfl) rfl ?_
      refine G.done ?_
      refine G.thenN ?_
      refine G.seq ?_
      refine G.region ?_
      refine G.op (og_lit rfl .nil rfl rfl rfl rfl rfl rfl) rfl (fun vl _ => ?_)
      refine G.v (rv_assign rfl) rfl ?_
      refine G.done ?_
      refine G.thenN ?_
      refine G.seq ?_
      refine G.region ?_
      refine G.v (rv_assign rfl) rfl ?_
      refine G.done ?_
      refine G.thenN ?_
      refine G.seq ?_
      refine G.region ?_
      refine G.v (rv_assign rfl) rfl ?_
      refine G.done ?_
      refine G.thenN ?_
      refine G.seq ?_
      refine G.block ?_
      -- loop 0: turned [10, 11, 12], kept [0, 2, 8, 9]
      have hla : us.length = (ps.map ncell).length / 2 := by (rw [hpa.length_eq, List.length_take]; omega)
      have hlb : bs.length = ps.length - (ps.map ncell).length / 2 := by rw [hpb.length_eq, List.length_drop]
      have hla2 : (us.map ncell).length = us.length := by simp
      have hlb2 : (bs.map ncell).length = bs.length := by simp
      refine G.loopK (ι := Nat × Nat × List Nat × Value) (ks := [0, 2, 8, 9]) (fun x => [(10, x.2.2.2), (11, .int .i64 (x.1 : Int)), (12, .int .i64 (x.2.1 : Int))]) (fun x => [.row x.2.2.2 3 1 (x.2.2.1.map ncell)]) (fun x => x.1 ≤ us.length ∧ x.2.1 ≤ bs.length ∧ x.2.2.1.length = x.1 + x.2.1 ∧ x.2.2.1 ++ mrgM (keyM ks) (us.drop x.1) (bs.drop x.2.1) = mrgM (keyM ks) us bs) (fun x => us.length + bs.length - x.1 - x.2.1) (0, 0, [], vl) (.cons rfl (.cons rfl (.cons rfl (.cons rfl (.nil))))) rfl ?_ ?_ ?_
      · exact ⟨Nat.zero_le _, Nat.zero_le _, rfl, rfl⟩
      · exact ⟨rfl, rfl, rfl, trivial⟩
      rintro ⟨i, j, out, v⟩ ⟨hi, hj, hol, hm⟩
      dsimp only at hi hj hol hm ⊢
      have hol2 : (out.map ncell).length = out.length := by simp
      by_cases hA : i < us.length
      case' pos => (obtain ⟨x, hx⟩ := get_of_lt hA; have e1 := get_map hx ncell; have hxl := hlt x (List.mem_of_mem_take (hpa.mem_iff.1 (List.mem_of_getElem? hx))); obtain ⟨kx, hkx⟩ := get_of_lt hxl; have e3 := get_map hkx icell; have hK1 := keyM_get hkx)
      all_goals by_cases hB : j < bs.length
      any_goals (obtain ⟨y, hy⟩ := get_of_lt hB; have e2 := get_map hy ncell; have hyl := hlt y (List.mem_of_mem_drop (hpb.mem_iff.1 (List.mem_of_getElem? hy))); obtain ⟨ky, hky⟩ := get_of_lt hyl; have e4 := get_map hky icell; have hK2 := keyM_get hky)
      all_goals
       refine G.seq ?_
       refine G.seq ?_
       refine G.region ?_
       refine G.v (rv_move rfl) rfl ?_
       refine G.v (rv_move rfl) rfl ?_
       refine G.v (rv_len rfl (by exact Rd.owned 2 rfl)) rfl ?_
       refine G.v (rv_lss rfl rfl) rfl ?_
       refine G.v (rv_move rfl) rfl ?_
       all_goals (((with_reducible refine G.gP rfl rfl (fun hg => ?_) (fun hg => ?_)) <;> (try exact Bool.noConfusion hg) <;> (try (exfalso; first | (have hq := of_decide_eq_false hg; omega) | (have hq := of_decide_eq_true hg; omega); done)) <;> (first | (refine G.gY rfl rfl ?_; refine G.v (rv_move rfl) rfl ?_) | refine G.gN rfl rfl rfl ?_)))
       all_goals ((first | (refine G.gY rfl rfl ?_; refine G.v (rv_move rfl) rfl ?_) | refine G.gN rfl rfl rfl ?_))
       all_goals ((first | (refine G.gY rfl rfl ?_; refine G.v (rv_len rfl (by exact Rd.owned 1 rfl)) rfl ?_) | refine G.gN rfl rfl rfl ?_))
       all_goals ((first | (refine G.gY rfl rfl ?_; refine G.v (rv_lss rfl rfl) rfl ?_) | refine G.gN rfl rfl rfl ?_))
       all_goals ((first | refine G.v (rv_pickT rfl rfl) rfl ?_ | refine G.v (rv_pickF rfl rfl) rfl ?_))
       all_goals
        refine G.done ?_
        refine G.thenN ?_
        refine G.cond rfl (fun hc => ?_) (fun hc => ?_)
        · try exact Bool.noConfusion hc
          all_goals
           try replace hc := of_decide_eq_true hc
           try (exfalso; omega)
           all_goals
            refine G.skip ?_
            refine G.thenN ?_
            refine G.block ?_
            refine G.block ?_
            refine G.seq ?_
            refine G.region ?_
            refine G.v (rv_move rfl) rfl ?_
            refine G.v (rv_move rfl) rfl ?_
            refine G.v (rv_len rfl (by exact Rd.owned 1 rfl)) rfl ?_
            refine G.v (rv_eql rfl rfl) rfl ?_
            refine G.v (rv_assign rfl) rfl ?_
            refine G.done ?_
            refine G.thenN ?_
            refine G.cond rfl (fun hc => ?_) (fun hc => ?_)
            · try exact Bool.noConfusion hc
              all_goals
               try replace hc := of_decide_eq_true hc
               try (exfalso; omega)
               all_goals
                refine G.seq ?_
                refine G.region ?_
                refine G.v (rv_move rfl) rfl ?_
                refine G.v (rv_move rfl) rfl ?_
                refine G.v (rv_move rfl) rfl ?_
                (refine G.v (rv_indexH rfl rfl (by exact Rd.owned 2 rfl) rfl (by exact e1)) rfl ?_)
                refine G.v (rv_loadE rfl (by exact Rd.owned 2 rfl) (by exact e1) rfl) rfl ?_
                refine G.op (og_lit rfl (.cons rfl .nil) rfl rfl rfl rfl rfl rfl) rfl (fun vl _ => ?_)
                ((refine G.op (og_app1 rfl rfl rfl (by exact Rd.owned 0 rfl) rfl rfl (by simp; omega) (by simp; omega)) rfl (fun va _ => ?_)))
                refine G.v (rv_assign rfl) rfl ?_
                refine G.done ?_
                refine G.thenN ?_
                refine G.region ?_
                refine G.v (rv_move rfl) rfl ?_
                (refine G.v (rv_incr rfl rfl (by omega)) rfl ?_)
                refine G.v (rv_assign rfl) rfl ?_
                refine G.done ?_
                refine G.inN ?_
                refine G.inN ?_
                (refine G.backK (i + 1, j, out ++ [x], va) 1 (one_eq (congrArg (fun z => Ch.row va 3 1 z) (by rw [List.map_append]; rfl))) (.cons rfl (.cons rfl (.cons rfl (.cons rfl (.nil))))) (⟨rfl, rfl, rfl, trivial⟩) ?_ ?_)
                · (exact ⟨by dsimp only; omega, by dsimp only; omega, by simp; omega, by dsimp only; rw [mrg_left hx (fun y' hy' => by first | (rw [List.getElem?_eq_none (by omega)] at hy'; cases hy'; done) | (rw [hy] at hy'; cases hy'; rw [hK1, hK2]; first | omega | (have hq := of_decide_eq_false hg; omega)))] at hm; rw [List.append_assoc]; exact hm⟩)
                · dsimp only; omega
            · try exact Bool.noConfusion hc
              all_goals
               try replace hc := of_decide_eq_false hc
               try (exfalso; omega)
               all_goals
                refine G.seq ?_
                refine G.region ?_
                refine G.v (rv_move rfl) rfl ?_
                refine G.v (rv_move rfl) rfl ?_
                refine G.v (rv_len rfl (by exact Rd.owned 2 rfl)) rfl ?_
                refine G.v (rv_eql rfl rfl) rfl ?_
                refine G.v (rv_assign rfl) rfl ?_
                refine G.done ?_
                refine G.thenN ?_
                refine G.cond rfl (fun hc => ?_) (fun hc => ?_)
                · try exact Bool.noConfusion hc
                  all_goals
                   try replace hc := of_decide_eq_true hc
                   try (exfalso; omega)
                   all_goals
                    refine G.seq ?_
                    refine G.region ?_
                    refine G.v (rv_move rfl) rfl ?_
                    refine G.v (rv_move rfl) rfl ?_
                    refine G.v (rv_move rfl) rfl ?_
                    (refine G.v (rv_indexH rfl rfl (by exact Rd.owned 1 rfl) rfl (by exact e2)) rfl ?_)
                    refine G.v (rv_loadE rfl (by exact Rd.owned 1 rfl) (by exact e2) rfl) rfl ?_
                    refine G.op (og_lit rfl (.cons rfl .nil) rfl rfl rfl rfl rfl rfl) rfl (fun vl _ => ?_)
                    ((refine G.op (og_app1 rfl rfl rfl (by exact Rd.owned 0 rfl) rfl rfl (by simp; omega) (by simp; omega)) rfl (fun va _ => ?_)))
                    refine G.v (rv_assign rfl) rfl ?_
                    refine G.done ?_
                    refine G.thenN ?_
                    refine G.region ?_
                    refine G.v (rv_move rfl) rfl ?_
                    (refine G.v (rv_incr rfl rfl (by omega)) rfl ?_)
                    refine G.v (rv_assign rfl) rfl ?_
                    refine G.done ?_
                    refine G.inN ?_
                    refine G.inN ?_
                    (refine G.backK (i, j + 1, out ++ [y], va) 1 (one_eq (congrArg (fun z => Ch.row va 3 1 z) (by rw [List.map_append]; rfl))) (.cons rfl (.cons rfl (.cons rfl (.cons rfl (.nil))))) (⟨rfl, rfl, rfl, trivial⟩) ?_ ?_)
                    · (exact ⟨by dsimp only; omega, by dsimp only; omega, by simp; omega, by dsimp only; rw [mrg_right hy (fun x' hx' => by first | (rw [List.getElem?_eq_none (by omega)] at hx'; cases hx'; done) | (rw [hx] at hx'; cases hx'; rw [hK1, hK2]; first | omega | (have hq := of_decide_eq_true hg; omega)))] at hm; rw [List.append_assoc]; exact hm⟩)
                    · dsimp only; omega
                · try exact Bool.noConfusion hc
                  all_goals
                   try replace hc := of_decide_eq_false hc
                   try (exfalso; omega)
                   all_goals
                    refine G.seq ?_
                    refine G.drawL [] ?_
                    refine GE.q 0 rfl (by kernel_rfl) rfl (qg_runs (rv_move rfl)) rfl ?_
                    refine GE.q 1 rfl (by kernel_rfl) rfl (qg_runs (rv_move rfl)) rfl ?_
                    refine GE.q 2 rfl (by kernel_rfl) rfl (qg_runs (rv_move rfl)) rfl ?_
                    (refine GE.q 3 rfl (by kernel_rfl) rfl (qg_runs (rv_indexH rfl rfl (by exact Rd.owned 1 rfl) rfl (by exact e2))) rfl ?_)
                    refine GE.q 4 rfl (by kernel_rfl) rfl (qg_runs (rv_loadE rfl (by exact Rd.owned 1 rfl) (by exact e2) rfl)) rfl ?_
                    (refine GE.q 5 rfl (by kernel_rfl) rfl (qg_runs (rv_indexH rfl rfl (by exact Rd.stays (by assumption)) rfl (by exact e4))) rfl ?_)
                    refine GE.q 6 rfl (by kernel_rfl) rfl (qg_runs (rv_loadE rfl (by exact Rd.stays (by assumption)) (by exact e4) rfl)) rfl ?_
                    refine GE.q 7 rfl (by kernel_rfl) rfl (qg_runs (rv_move rfl)) rfl ?_
                    refine GE.q 8 rfl (by kernel_rfl) rfl (qg_runs (rv_move rfl)) rfl ?_
                    refine GE.ol 9 (by kernel_rfl) rfl rfl (og_runs (rv_move rfl)) rfl (fun _ _ h => by exact h) (fun _ _ => ?_)
                    (refine GE.ol 10 (by kernel_rfl) rfl rfl (og_runs (rv_indexH rfl rfl (by exact Rd.owned 2 rfl) rfl (by exact e1))) rfl (fun _ _ h => by exact h) (fun _ _ => ?_))
                    refine GE.ol 11 (by kernel_rfl) rfl rfl (og_runs (rv_loadE rfl (by exact Rd.owned 2 rfl) (by exact e1) rfl)) rfl (fun _ _ h => by exact h) (fun _ _ => ?_)
                    (refine GE.ol 12 (by kernel_rfl) rfl rfl (og_runs (rv_indexH rfl rfl (by exact Rd.stays (by assumption)) rfl (by exact e3))) rfl (fun _ _ h => by exact h) (fun _ _ => ?_))
                    refine GE.ol 13 (by kernel_rfl) rfl rfl (og_runs (rv_loadE rfl (by exact Rd.stays (by assumption)) (by exact e3) rfl)) rfl (fun _ _ h => by exact h) (fun _ _ => ?_)
                    refine GE.ol 14 (by kernel_rfl) rfl rfl (og_runs (rv_lss rfl rfl)) rfl (fun _ _ h => by exact h) (fun _ _ => ?_)
                    refine GE.ol 15 (by kernel_rfl) rfl rfl (og_runs (rv_move rfl)) rfl (fun _ _ h => by exact h) (fun _ _ => ?_)
                    all_goals (((with_reducible refine GE.part (t := 98) rfl (fun hg => ?_) (fun hg => ?_)) <;> (try exact Bool.noConfusion hg) <;> (try (exfalso; (have hq := of_decide_eq_false hg; omega))) <;> (first | refine GE.q 16 rfl (by kernel_rfl) rfl (qg_runs (rv_move rfl)) rfl ?_ | refine GE.qn 16 rfl (by kernel_rfl) rfl rfl ?_)))
                    all_goals ((first | refine GE.q 17 rfl (by kernel_rfl) rfl (qg_runs (rv_not rfl)) rfl ?_ | refine GE.qn 17 rfl (by kernel_rfl) rfl rfl ?_))
                    all_goals ((first | refine GE.ol 18 (by kernel_rfl) rfl rfl (og_runs (rv_pickT rfl rfl)) rfl (fun _ _ h => by exact h) (fun _ _ => ?_) | refine GE.ol 18 (by kernel_rfl) rfl rfl (og_runs (rv_pickF rfl rfl)) rfl (fun _ _ h => by exact h) (fun _ _ => ?_)))
                    all_goals (refine GE.ol 19 (by kernel_rfl) rfl rfl (og_runs (rv_move rfl)) rfl (fun _ _ h => by exact h) (fun _ _ => ?_))
                    all_goals (((with_reducible refine GE.part (t := 102) rfl (fun hg => ?_) (fun hg => ?_)) <;> (try exact Bool.noConfusion hg) <;> (try (exfalso; (have hq := of_decide_eq_false hg; omega))) <;> (refine GE.q 20 rfl (by kernel_rfl) rfl (qg_runs (rv_move rfl)) rfl ?_)))
                    all_goals ((refine GE.q 21 rfl (by kernel_rfl) rfl (qg_runs (rv_move rfl)) rfl ?_))
                    all_goals ((refine GE.q 22 rfl (by kernel_rfl) rfl (qg_runs (rv_move rfl)) rfl ?_))
                    all_goals (((refine GE.q 23 rfl (by kernel_rfl) rfl (qg_runs (rv_indexH rfl rfl (by exact Rd.owned 1 rfl) rfl (by exact e2))) rfl ?_)))
                    all_goals ((refine GE.q 24 rfl (by kernel_rfl) rfl (qg_runs (rv_loadE rfl (by exact Rd.owned 1 rfl) (by exact e2) rfl)) rfl ?_))
                    all_goals (((refine GE.q 25 rfl (by kernel_rfl) rfl (qg_runs (rv_indexH rfl rfl (by exact Rd.stays (by assumption)) rfl (by exact e4))) rfl ?_)))
                    all_goals ((refine GE.q 26 rfl (by kernel_rfl) rfl (qg_runs (rv_loadE rfl (by exact Rd.stays (by assumption)) (by exact e4) rfl)) rfl ?_))
                    all_goals ((refine GE.q 27 rfl (by kernel_rfl) rfl (qg_runs (rv_move rfl)) rfl ?_))
                    all_goals ((refine GE.q 28 rfl (by kernel_rfl) rfl (qg_runs (rv_move rfl)) rfl ?_))
                    all_goals ((refine GE.q 29 rfl (by kernel_rfl) rfl (qg_runs (rv_move rfl)) rfl ?_))
                    all_goals (((refine GE.q 30 rfl (by kernel_rfl) rfl (qg_runs (rv_indexH rfl rfl (by exact Rd.owned 2 rfl) rfl (by exact e1))) rfl ?_)))
                    all_goals ((refine GE.q 31 rfl (by kernel_rfl) rfl (qg_runs (rv_loadE rfl (by exact Rd.owned 2 rfl) (by exact e1) rfl)) rfl ?_))
                    all_goals (((refine GE.q 32 rfl (by kernel_rfl) rfl (qg_runs (rv_indexH rfl rfl (by exact Rd.stays (by assumption)) rfl (by exact e3))) rfl ?_)))
                    all_goals ((refine GE.q 33 rfl (by kernel_rfl) rfl (qg_runs (rv_loadE rfl (by exact Rd.stays (by assumption)) (by exact e3) rfl)) rfl ?_))
                    all_goals ((refine GE.q 34 rfl (by kernel_rfl) rfl (qg_runs (rv_gtr rfl rfl)) rfl ?_))
                    all_goals ((refine GE.q 35 rfl (by kernel_rfl) rfl (qg_runs (rv_move rfl)) rfl ?_))
                    all_goals ((((with_reducible refine GE.part (t := 118) rfl (fun hg => ?_) (fun hg => ?_)) <;> (try exact Bool.noConfusion hg) <;> (try (exfalso; (have hq := of_decide_eq_false hg; omega))) <;> (first | refine GE.q 36 rfl (by kernel_rfl) rfl (qg_runs (rv_move rfl)) rfl ?_ | refine GE.qn 36 rfl (by kernel_rfl) rfl rfl ?_))))
                    all_goals (((first | refine GE.q 37 rfl (by kernel_rfl) rfl (qg_runs (rv_pickT rfl rfl)) rfl ?_ | refine GE.q 37 rfl (by kernel_rfl) rfl (qg_runs (rv_pickF rfl rfl)) rfl ?_)))
                    all_goals ((refine GE.ol 38 (by kernel_rfl) rfl rfl (og_runs (rv_pickF rfl rfl)) rfl (fun _ _ h => by exact h) (fun _ _ => ?_)))
                    all_goals (refine GE.ol 39 (by kernel_rfl) rfl rfl (og_runs (rv_assign rfl)) rfl (fun _ _ h => by exact h) (fun _ _ => ?_))
                    all_goals
                     refine GE.done (by kernel_rfl) ?_
                     refine G.thenN ?_
                     refine G.cond rfl (fun hc => ?_) (fun hc => ?_)
                     · try exact Bool.noConfusion hc
                       all_goals
                        try replace hc := of_decide_eq_true hc
                        try (exfalso; contradiction)
                        all_goals
                         refine G.seq ?_
                         refine G.region ?_
                         refine G.v (rv_move rfl) rfl ?_
                         refine G.v (rv_move rfl) rfl ?_
                         refine G.v (rv_move rfl) rfl ?_
                         (refine G.v (rv_indexH rfl rfl (by exact Rd.owned 1 rfl) rfl (by exact e2)) rfl ?_)
                         refine G.v (rv_loadE rfl (by exact Rd.owned 1 rfl) (by exact e2) rfl) rfl ?_
                         refine G.op (og_lit rfl (.cons rfl .nil) rfl rfl rfl rfl rfl rfl) rfl (fun vl _ => ?_)
                         ((refine G.op (og_app1 rfl rfl rfl (by exact Rd.owned 0 rfl) rfl rfl (by simp; omega) (by simp; omega)) rfl (fun va _ => ?_)))
                         refine G.v (rv_assign rfl) rfl ?_
                         refine G.done ?_
                         refine G.thenN ?_
                         refine G.region ?_
                         refine G.v (rv_move rfl) rfl ?_
                         (refine G.v (rv_incr rfl rfl (by omega)) rfl ?_)
                         refine G.v (rv_assign rfl) rfl ?_
                         refine G.done ?_
                         refine G.inN ?_
                         refine G.inN ?_
                         (refine G.backK (i, j + 1, out ++ [y], va) 1 (one_eq (congrArg (fun z => Ch.row va 3 1 z) (by rw [List.map_append]; rfl))) (.cons rfl (.cons rfl (.cons rfl (.cons rfl (.nil))))) (⟨rfl, rfl, rfl, trivial⟩) ?_ ?_)
                         · (exact ⟨by dsimp only; omega, by dsimp only; omega, by simp; omega, by dsimp only; rw [mrg_right hy (fun x' hx' => by first | (rw [List.getElem?_eq_none (by omega)] at hx'; cases hx'; done) | (rw [hx] at hx'; cases hx'; rw [hK1, hK2]; first | omega | (have hq := of_decide_eq_true hg; omega)))] at hm; rw [List.append_assoc]; exact hm⟩)
                         · dsimp only; omega
                     · try exact Bool.noConfusion hc
                       all_goals
                        try replace hc := of_decide_eq_false hc
                        try (exfalso; contradiction)
                        all_goals
                         refine G.seq ?_
                         refine G.region ?_
                         refine G.v (rv_move rfl) rfl ?_
                         refine G.v (rv_move rfl) rfl ?_
                         refine G.v (rv_move rfl) rfl ?_
                         (refine G.v (rv_indexH rfl rfl (by exact Rd.owned 2 rfl) rfl (by exact e1)) rfl ?_)
                         refine G.v (rv_loadE rfl (by exact Rd.owned 2 rfl) (by exact e1) rfl) rfl ?_
                         refine G.op (og_lit rfl (.cons rfl .nil) rfl rfl rfl rfl rfl rfl) rfl (fun vl _ => ?_)
                         ((refine G.op (og_app1 rfl rfl rfl (by exact Rd.owned 0 rfl) rfl rfl (by simp; omega) (by simp; omega)) rfl (fun va _ => ?_)))
                         refine G.v (rv_assign rfl) rfl ?_
                         refine G.done ?_
                         refine G.thenN ?_
                         refine G.region ?_
                         refine G.v (rv_move rfl) rfl ?_
                         (refine G.v (rv_incr rfl rfl (by omega)) rfl ?_)
                         refine G.v (rv_assign rfl) rfl ?_
                         refine G.done ?_
                         refine G.inN ?_
                         refine G.inN ?_
                         (refine G.backK (i + 1, j, out ++ [x], va) 1 (one_eq (congrArg (fun z => Ch.row va 3 1 z) (by rw [List.map_append]; rfl))) (.cons rfl (.cons rfl (.cons rfl (.cons rfl (.nil))))) (⟨rfl, rfl, rfl, trivial⟩) ?_ ?_)
                         · (exact ⟨by dsimp only; omega, by dsimp only; omega, by simp; omega, by dsimp only; rw [mrg_left hx (fun y' hy' => by first | (rw [List.getElem?_eq_none (by omega)] at hy'; cases hy'; done) | (rw [hy] at hy'; cases hy'; rw [hK1, hK2]; first | omega | (have hq := of_decide_eq_false hg; omega)))] at hm; rw [List.append_assoc]; exact hm⟩)
                         · dsimp only; omega
        · try exact Bool.noConfusion hc
          all_goals
           try replace hc := of_decide_eq_false hc
           try (exfalso; omega)
           all_goals
            refine G.exit ?_
            refine G.thenX ?_
            refine G.thenX ?_
            refine G.inX ?_
            refine G.thenN ?_
            refine G.seq ?_
            refine G.region ?_
            refine G.v (rv_move rfl) rfl ?_
            refine G.v (rv_assign rfl) rfl ?_
            refine G.done ?_
            refine G.thenN ?_
            refine G.ret ?_
            (have hout : out = mrgM (keyM ks) us bs := (by rw [List.drop_eq_nil_of_le (by omega), List.drop_eq_nil_of_le (by omega)] at hm; simpa [mrgM] using hm); refine G.know (fun w hw => (Rd.owned 0 rfl w hw).one_) (fun hone => G.retF (v, out) ⟨hone, hout ▸ mrg_halves hpa hpb, hout ▸ mrg_srt us bs hsa hsb (fun x hx y hy _ => halves_lt hpw (hpa.mem_iff.1 hx) (hpb.mem_iff.1 hy))⟩ rfl rfl rfl (fun w hw => hw.sublist (by repeat (first | exact List.Sublist.refl _ | refine List.Sublist.cons_cons _ ?_ | refine List.Sublist.cons _ ?_)))))
theorem ssortDown_any {kv : Value} {ks : List Int} (w : World) (h : Rd w kv 1 (ks.map icell)) (hn : ks.length ≤ 1048576) : Fn Try.prog 111 [kv] w (fun v : Value => v.oneCell' = true) (fun v => v) (fun v => [.row v 3 1 ((ordM (keyM ks) ks.length).map ncell)]) := by
  have hln : (ks.map icell).length = ks.length := by simp
  refine Fn.of (n := 8) Try.func111 rfl rfl ?_
  refine G.seq ?_
  refine G.region ?_
  refine G.v (rv_assign rfl) rfl ?_
  refine G.done ?_
  refine G.thenN ?_
  refine G.seq ?_
  refine G.region ?_
  refine G.v (rv_move rfl) rfl ?_
  refine G.v (rv_move rfl) rfl ?_
  refine G.v (rv_len rfl (by exact Rd.stays (by assumption))) rfl ?_
  (refine G.op (og_callF1 rfl rfl (fun w hh => by rw [hln]; exact l1Places_any w hn)) rfl ?_; rintro vp hvp; try dsimp only)
  (refine G.op (og_callF1 rfl rfl (fun w hh => l1Merge_any (ks.length + 1) w (by simp) (Rd.stays h _ hh) (Rd.owned 0 rfl _ hh) (fun x hx => List.mem_range.1 hx) List.pairwise_lt_range (by simpa using hn))) rfl ?_; rintro ⟨vo, os⟩ ⟨hvo, hpo, hso⟩; try dsimp only)
  refine G.v (rv_assign rfl) rfl ?_
  refine G.done ?_
  refine G.thenN ?_
  refine G.ret ?_
  exact G.retF vo hvo rfl rfl rfl (fun w hw => by rw [← ord_of_perm hso hpo]; exact hw.sublist (by repeat (first | exact List.Sublist.refl _ | refine List.Sublist.cons_cons _ ?_ | refine List.Sublist.cons _ ?_)))
end Go.Proofs.Yticgeijklhlonaa
