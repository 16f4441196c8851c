/-
  The library's stable sort at places: merging, and the whole.
-/
import Derived.Test.YticgeijklhlonaaSorts
namespace Go.Proofs.Yticgeijklhlonaa
open Go.RowKit
attribute [local irreducible] Go.wpList Go.Code.wp Go.Exit.then Go.Exit.inBlock Go.bodyPost Go.Calls pE pB G RunsV FnV Fn FnM
set_option maxRecDepth 100000
set_option maxHeartbeats 4000000
theorem Frm.lt {a b n : Nat} {f g : Nat → Nat} (h : Frm a b f g) (hf : ∀ j, a ≤ j → j < b → f j < n) {x : Nat} (h1 : a ≤ x) (h2 : x < b) : g x < n := by
  obtain ⟨i, i1, i2, i3⟩ := h.src x h1 h2
  rw [i3]; exact hf i i1 i2
theorem Frm.srt_hi {K : Nat → Int} {a b c d : Nat} {f g : Nat → Nat} (h : Frm a b f g) (hb : b ≤ c) (hs : Srt K c d f) : Srt K c d g := fun j k j1 j2 j3 => by
  rw [h.out j (.inr (by omega)), h.out k (.inr (by omega))]; exact hs j k j1 j2 j3
theorem Frm.crs_hi {K : Nat → Int} {a b c d e : Nat} {f g : Nat → Nat} (h : Frm a b f g) (hb : b ≤ c) (hc : c ≤ d) (hs : Crs K c d e f) : Crs K c d e g := fun j k j1 j2 j3 j4 => by
  rw [h.out j (.inr (by omega)), h.out k (.inr (by omega))]; exact hs j k j1 j2 j3 j4
section
variable {w0 : World} {F : List Ch} {v : Value} {n : Nat} {g : Nat} [FnOk Try.prog g] {caps : List Value} {K : Nat → Int}
theorem symMerge_any (hcmp : ∀ w, HeapOk w0 w F → ∀ i j : Nat, i < n → j < n → FnV Try.prog g ([.int .i64 (i : Int), .int .i64 (j : Int)] ++ caps) w (.int .i64 (cmpZ (K i) (K j)))) (hn : n ≤ 1048576) : ∀ (s : Nat) {f : Nat → Nat} {a m b : Nat}, b - a ≤ s → a < m → m < b → b ≤ n → Srt K a m f → Srt K m b f → Crs K a m b f → (∀ j, a ≤ j → j < b → f j < n) →
    FnMF Try.prog 146 [v, .int .i64 (a : Int), .int .i64 (m : Int), .int .i64 (b : Int), .func (.func g) #[] caps.toArray] w0 [.row v 3 1 (rowF n f)] F (fun f' : Nat → Nat => Frm a b f f' ∧ Srt K a b f') (fun _ => .tuple #[]) (fun f' => [.row v 3 1 (rowF n f')]) := by
  intro s
  induction s with
  | zero => intro f a m b h0 h1 h2; omega
  | succ s ih =>
  intro f a m b h0 h1 h2 h3 hs1 hs2 hcr hfn
  have hfa := hfn a (Nat.le_refl _) (by omega)
  have hfm := hfn m (by omega) h2
  have ea : (rowF n f)[a]? = some (icell (f a : Int)) := rowF_get (by omega)
  have em : (rowF n f)[m]? = some (icell (f m : Int)) := rowF_get (by omega)
  refine FnMF.of (n := 220) Try.func146 rfl rfl ?_
  refine G.seq ?_
  refine G.seq ?_
  refine G.region ?_
  refine G.v (rv_move rfl) rfl ?_
  refine G.v (rv_move rfl) rfl ?_
  (refine G.v (rv_subN rfl rfl (by omega) (by omega)) rfl ?_)
  refine G.v (rv_eql rfl rfl) rfl ?_
  refine G.done ?_
  refine G.thenN ?_
  refine G.cond rfl (fun hc => ?_) (fun hc => ?_)
  · try exact Bool.noConfusion hc
    all_goals
     try replace hc := of_decide_eq_true hc
     try simp only [cmpZ_neg, Bool.not_eq_true', Bool.not_eq_false', decide_eq_false_iff_not, decide_eq_true_eq] at hc
     try (exfalso; contradiction)
     all_goals
      refine G.seq ?_
      refine G.region ?_
      refine G.v (rv_move rfl) rfl ?_
      refine G.v (rv_assign rfl) rfl ?_
      refine G.done ?_
      refine G.thenN ?_
      refine G.seq ?_
      refine G.region ?_
      refine G.v (rv_move rfl) rfl ?_
      refine G.v (rv_assign rfl) rfl ?_
      refine G.done ?_
      refine G.thenN ?_
      refine G.seq ?_
      refine G.block ?_
      -- loop 0: turned [10, 11], kept [0, 1, 4]
      refine G.loopK (ι := Nat × Nat) (ks := [0, 1, 4]) (fun x => [(10, .int .i64 (x.1 : Int)), (11, .int .i64 (x.2 : Int))]) (fun _ => [.row v 3 1 (rowF n f)]) (fun x => m ≤ x.1 ∧ x.1 ≤ x.2 ∧ x.2 ≤ b ∧ (x.1 = m ∨ K (f (x.1 - 1)) < K (f a)) ∧ (x.2 = b ∨ ¬ K (f x.2) < K (f a))) (fun x => x.2 - x.1) (m, b) (.cons rfl (.cons rfl (.cons rfl (.nil)))) rfl ?_ ?_ ?_
      · exact ⟨Nat.le_refl _, by dsimp only; omega, Nat.le_refl _, .inl rfl, .inl rfl⟩
      · exact ⟨rfl, rfl, trivial⟩
      rintro ⟨i, j⟩ ⟨hi, hij, hj, hl, hr⟩
      dsimp only at hi hij hj hl hr ⊢
      by_cases hlt : i < j
      case' pos => (have hfh := hfn ((i + j) / 2) (by omega) (by omega); have eh : (rowF n f)[(i + j) / 2]? = some (icell (f ((i + j) / 2) : Int)) := rowF_get (by omega))
      all_goals
       refine G.seq ?_
       refine G.seq ?_
       refine G.region ?_
       refine G.v (rv_move rfl) rfl ?_
       refine G.v (rv_move rfl) rfl ?_
       refine G.v (rv_lss rfl rfl) rfl ?_
       refine G.done ?_
       refine G.thenN ?_
       refine G.cond rfl (fun hc => ?_) (fun hc => ?_)
       · try exact Bool.noConfusion hc
         all_goals
          try replace hc := of_decide_eq_true hc
          try simp only [cmpZ_neg, Bool.not_eq_true', Bool.not_eq_false', decide_eq_false_iff_not, decide_eq_true_eq] at hc
          try (exfalso; omega)
          all_goals
           refine G.skip ?_
           refine G.thenN ?_
           refine G.block ?_
           refine G.seq ?_
           refine G.region ?_
           refine G.v (rv_move rfl) rfl ?_
           refine G.v (rv_move rfl) rfl ?_
           (refine G.v (rv_addN rfl rfl (by omega)) rfl ?_)
           refine G.v (rv_conv rfl) rfl ?_
           refine G.v (rv_shr rfl rfl (by omega)) rfl ?_
           refine G.v (rv_half (m := (i + j) / 2) rfl rfl (by omega) (by omega)) rfl ?_
           refine G.v (rv_assign rfl) rfl ?_
           refine G.done ?_
           refine G.thenN ?_
           refine G.seq ?_
           refine G.drawL [] ?_
           refine GE.q 0 rfl (by kernel_rfl) rfl (qg_runs (rv_move rfl)) rfl ?_
           refine GE.q 1 rfl (by kernel_rfl) rfl (qg_runs (rv_move rfl)) rfl ?_
           refine GE.q 2 rfl (by kernel_rfl) rfl (qg_runs (rv_move rfl)) rfl ?_
           (refine GE.q 3 rfl (by kernel_rfl) rfl (qg_runs (rv_indexH rfl rfl (by exact Rd.owned 0 rfl) rfl (by exact eh))) rfl ?_)
           refine GE.q 4 rfl (by kernel_rfl) rfl (qg_runs (rv_loadE rfl (by exact Rd.owned 0 rfl) (by exact eh) rfl)) rfl ?_
           refine GE.q 5 rfl (by kernel_rfl) rfl (qg_runs (rv_move rfl)) rfl ?_
           refine GE.ol 6 (by kernel_rfl) rfl rfl (og_runs (rv_move rfl)) rfl (fun _ _ h => by exact h) (fun _ _ => ?_)
           (refine GE.ol 7 (by kernel_rfl) rfl rfl (og_runs (rv_indexH rfl rfl (by exact Rd.owned 0 rfl) rfl (by exact ea))) rfl (fun _ _ h => by exact h) (fun _ _ => ?_))
           refine GE.ol 8 (by kernel_rfl) rfl rfl (og_runs (rv_loadE rfl (by exact Rd.owned 0 rfl) (by exact ea) rfl)) rfl (fun _ _ h => by exact h) (fun _ _ => ?_)
           refine GE.ol 9 (by kernel_rfl) rfl rfl (og_callV rfl rfl (fun w hh => hcmp w hh.tail _ _ hfh hfa)) rfl (fun _ _ h => by exact h) (fun _ _ => ?_)
           refine GE.ol 10 (by kernel_rfl) rfl rfl (og_runs (rv_lss rfl rfl)) rfl (fun _ _ h => by exact h) (fun _ _ => ?_)
           refine GE.done (by kernel_rfl) ?_
           refine G.thenN ?_
           refine G.cond rfl (fun hc => ?_) (fun hc => ?_)
           · try exact Bool.noConfusion hc
             all_goals
              try replace hc := of_decide_eq_true hc
              try simp only [cmpZ_neg, Bool.not_eq_true', Bool.not_eq_false', decide_eq_false_iff_not, decide_eq_true_eq] at hc
              try (exfalso; contradiction)
              all_goals
               refine G.region ?_
               refine G.v (rv_move rfl) rfl ?_
               (refine G.v (rv_incr rfl rfl (by omega)) rfl ?_)
               refine G.v (rv_assign rfl) rfl ?_
               refine G.done ?_
               refine G.inN ?_
               refine G.backK ((i + j) / 2 + 1, j) 0 rfl (.cons rfl (.cons rfl (.cons rfl (.nil)))) (⟨rfl, rfl, trivial⟩) ?_ ?_
               · (exact ⟨by dsimp only; omega, by dsimp only; omega, by dsimp only; omega, .inr hc, hr⟩)
               · dsimp only; omega
           · try exact Bool.noConfusion hc
             all_goals
              try replace hc := of_decide_eq_false hc
              try simp only [cmpZ_neg, Bool.not_eq_true', Bool.not_eq_false', decide_eq_false_iff_not, decide_eq_true_eq] at hc
              try (exfalso; contradiction)
              all_goals
               refine G.region ?_
               refine G.v (rv_move rfl) rfl ?_
               refine G.v (rv_assign rfl) rfl ?_
               refine G.done ?_
               refine G.inN ?_
               refine G.backK (i, (i + j) / 2) 0 rfl (.cons rfl (.cons rfl (.cons rfl (.nil)))) (⟨rfl, rfl, trivial⟩) ?_ ?_
               · (exact ⟨by dsimp only; omega, by dsimp only; omega, by dsimp only; omega, hl, .inr hc⟩)
               · dsimp only; omega
       · try exact Bool.noConfusion hc
         all_goals
          try replace hc := of_decide_eq_false hc
          try simp only [cmpZ_neg, Bool.not_eq_true', Bool.not_eq_false', decide_eq_false_iff_not, decide_eq_true_eq] at hc
          try (exfalso; omega)
          all_goals
           refine G.exit ?_
           refine G.thenX ?_
           refine G.thenX ?_
           refine G.inX ?_
           refine G.thenN ?_
           refine G.seq ?_
           refine G.seq ?_
           refine G.region ?_
           refine G.v (rv_move rfl) rfl ?_
           refine G.v (rv_assign rfl) rfl ?_
           refine G.done ?_
           refine G.thenN ?_
           refine G.block ?_
           -- loop 1: turned [13], kept [0, 10]
           refine G.rowEq (rowF n (rotF f a (a + 1) (a + 1))) (by rw [rot_id (by omega) (Nat.le_refl _) (.inr rfl)]) rfl ?_
           refine G.loopK (ι := Nat) (ks := [0, 10]) (fun k => [(13, .int .i64 (k : Int))]) (fun k => [.row v 3 1 (rowF n (rotF f a (a + 1) (k + 1)))]) (fun k => a ≤ k ∧ k + 1 ≤ i) (fun k => i - k) a (.cons rfl (.cons rfl (.nil))) rfl ?_ ?_ ?_
           · exact ⟨Nat.le_refl _, by omega⟩
           · exact ⟨rfl, trivial⟩
           rintro k ⟨hak, hki⟩
           by_cases hk2 : k + 1 < i
           case' pos => (have e1 : (rowF n (rotF f a (a + 1) (k + 1)))[k]? = some (icell (f a : Int)) := (by rw [rowF_get (by omega), rot_hi (by omega) (by omega)]; congr 4; omega); have e2 : (rowF n (rotF f a (a + 1) (k + 1)))[k + 1]? = some (icell (f (k + 1) : Int)) := (by rw [rowF_get (by omega), rot_out (by omega) (by omega) (.inr (Nat.le_refl _))]))
           all_goals
            refine G.seq ?_
            refine G.seq ?_
            refine G.region ?_
            refine G.v (rv_move rfl) rfl ?_
            refine G.v (rv_move rfl) rfl ?_
            (refine G.v (rv_decr rfl rfl (by omega) (by omega)) rfl ?_)
            refine G.v (rv_lss rfl rfl) rfl ?_
            refine G.done ?_
            refine G.thenN ?_
            refine G.cond rfl (fun hc => ?_) (fun hc => ?_)
            · try exact Bool.noConfusion hc
              all_goals
               try replace hc := of_decide_eq_true hc
               try simp only [cmpZ_neg, Bool.not_eq_true', Bool.not_eq_false', decide_eq_false_iff_not, decide_eq_true_eq] at hc
               try (exfalso; omega)
               all_goals
                refine G.skip ?_
                refine G.thenN ?_
                refine G.seq ?_
                refine G.block ?_
                refine G.drawS [15, 17] rfl ?_
                refine GS.p 0 rfl (by kernel_rfl) (qg_runs (rv_move rfl)) (fun _ h => h.drop 1) rfl ?_
                refine GS.p 1 rfl (by kernel_rfl) (qg_runs (rv_move rfl)) (fun _ h => h.drop 1) rfl ?_
                refine GS.p 2 rfl (by kernel_rfl) (qg_runs (rv_move rfl)) (fun _ h => h.drop 1) rfl ?_
                refine GS.p 3 rfl (by kernel_rfl) (qg_runs (rv_move rfl)) (fun _ h => h.drop 1) rfl ?_
                (refine GS.p 4 rfl (by kernel_rfl) (qg_runs (rv_incr rfl rfl (by omega))) (fun _ h => h.drop 1) rfl ?_)
                refine GS.p 5 rfl (by kernel_rfl) (qg_runs (rv_move rfl)) (fun _ h => h.drop 1) rfl ?_
                refine GS.p 6 rfl (by kernel_rfl) (qg_runs (rv_move rfl)) (fun _ h => h.drop 1) rfl ?_
                (refine GS.p 7 rfl (by kernel_rfl) (qg_runs (rv_incr rfl rfl (by omega))) (fun _ h => h.drop 1) rfl ?_)
                (refine GS.q 8 [9, 14, 15, 16, 17] rfl (by kernel_rfl) (by kernel_rfl) (qg_runs (rv_indexH rfl rfl (by exact Rd.owned 0 rfl) rfl (by exact e2))) rfl ?_)
                refine GS.q 9 [14, 15, 16, 17] rfl (by kernel_rfl) (by kernel_rfl) (qg_runs (rv_loadE rfl (by exact Rd.owned 0 rfl) (by exact e2) rfl)) rfl ?_
                refine GS.p 10 rfl (by kernel_rfl) (qg_runs (rv_move rfl)) (fun _ h => h.drop 1) rfl ?_
                refine GS.p 11 rfl (by kernel_rfl) (qg_runs (rv_move rfl)) (fun _ h => h.drop 1) rfl ?_
                (refine GS.q 12 [13, 14, 15, 16, 17] rfl (by kernel_rfl) (by kernel_rfl) (qg_runs (rv_indexH rfl rfl (by exact Rd.owned 0 rfl) rfl (by exact e1))) rfl ?_)
                refine GS.q 13 [14, 15, 16, 17] rfl (by kernel_rfl) (by kernel_rfl) (qg_runs (rv_loadE rfl (by exact Rd.owned 0 rfl) (by exact e1) rfl)) rfl ?_
                (refine GS.q 14 [15, 16, 17] rfl (by kernel_rfl) (by kernel_rfl) (qg_runs (rv_indexH rfl rfl (by exact Rd.owned 0 rfl) rfl (by exact e1))) rfl ?_)
                refine GS.o0 15 (by kernel_rfl) rfl rfl (og_stE0 rfl rfl rfl (by exact e1) rfl rfl rfl rfl (.zero (.cons .nil))) (fun _ _ h => h.drop 1) (fun _ _ => ?_)
                (refine GS.q 16 [17] rfl (by kernel_rfl) (by kernel_rfl) (qg_runs (rv_indexH rfl rfl (by exact Rd.owned 0 rfl) rfl (by exact get_setN (by omega) e2))) rfl ?_)
                refine GS.o0 17 (by kernel_rfl) rfl rfl (og_stE0 rfl rfl rfl (by exact get_setN (by omega) e2) rfl rfl rfl rfl (.zero (.cons .nil))) (fun _ _ h => h.drop 1) (fun _ _ => ?_)
                refine GS.done (by kernel_rfl) ?_
                refine G.inN ?_
                refine G.thenN ?_
                refine G.region ?_
                refine G.v (rv_move rfl) rfl ?_
                (refine G.v (rv_incr rfl rfl (by omega)) rfl ?_)
                refine G.v (rv_assign rfl) rfl ?_
                refine G.done ?_
                refine G.backK (k + 1) 0 (one_eq (congrArg (fun z => Ch.row v 3 1 z) (row_up hak))) (.cons rfl (.cons rfl (.nil))) ?_ ?_ ?_
                · exact ⟨rfl, trivial⟩
                · exact ⟨by omega, by omega⟩
                · omega
            · try exact Bool.noConfusion hc
              all_goals
               try replace hc := of_decide_eq_false hc
               try simp only [cmpZ_neg, Bool.not_eq_true', Bool.not_eq_false', decide_eq_false_iff_not, decide_eq_true_eq] at hc
               try (exfalso; omega)
               all_goals
                refine G.exit ?_
                refine G.thenX ?_
                refine G.thenX ?_
                refine G.inX ?_
                refine G.thenN ?_
                refine G.ret ?_
                refine G.thenR ?_
                (exact G.retF0 (rotF f a (a + 1) i) ⟨(rot_frm (by omega) (by omega)).mono (Nat.le_refl _) (by omega), by obtain rfl : m = a + 1 := (by omega); exact put_left hs2 hcr hi (by omega) hl (by (have hq : j = i := (by omega)); rw [hq] at hr; exact hr)⟩ rfl rfl (fun w hw => by obtain rfl : i = k + 1 := (by omega); exact hw))
  · try exact Bool.noConfusion hc
    all_goals
     try replace hc := of_decide_eq_false hc
     try simp only [cmpZ_neg, Bool.not_eq_true', Bool.not_eq_false', decide_eq_false_iff_not, decide_eq_true_eq] at hc
     try (exfalso; contradiction)
     all_goals
      refine G.skip ?_
      refine G.thenN ?_
      refine G.seq ?_
      refine G.seq ?_
      refine G.region ?_
      refine G.v (rv_move rfl) rfl ?_
      refine G.v (rv_move rfl) rfl ?_
      (refine G.v (rv_subN rfl rfl (by omega) (by omega)) rfl ?_)
      refine G.v (rv_eql rfl rfl) rfl ?_
      refine G.done ?_
      refine G.thenN ?_
      refine G.cond rfl (fun hc => ?_) (fun hc => ?_)
      · try exact Bool.noConfusion hc
        all_goals
         try replace hc := of_decide_eq_true hc
         try simp only [cmpZ_neg, Bool.not_eq_true', Bool.not_eq_false', decide_eq_false_iff_not, decide_eq_true_eq] at hc
         try (exfalso; contradiction)
         all_goals
          refine G.seq ?_
          refine G.region ?_
          refine G.v (rv_move rfl) rfl ?_
          refine G.v (rv_assign rfl) rfl ?_
          refine G.done ?_
          refine G.thenN ?_
          refine G.seq ?_
          refine G.region ?_
          refine G.v (rv_move rfl) rfl ?_
          refine G.v (rv_assign rfl) rfl ?_
          refine G.done ?_
          refine G.thenN ?_
          refine G.seq ?_
          refine G.block ?_
          -- loop 2: turned [14, 15], kept [0, 2, 4]
          refine G.loopK (ι := Nat × Nat) (ks := [0, 2, 4]) (fun x => [(14, .int .i64 (x.1 : Int)), (15, .int .i64 (x.2 : Int))]) (fun _ => [.row v 3 1 (rowF n f)]) (fun x => a ≤ x.1 ∧ x.1 ≤ x.2 ∧ x.2 ≤ m ∧ (x.1 = a ∨ ¬ K (f m) < K (f (x.1 - 1))) ∧ (x.2 = m ∨ K (f m) < K (f x.2))) (fun x => x.2 - x.1) (a, m) (.cons rfl (.cons rfl (.cons rfl (.nil)))) rfl ?_ ?_ ?_
          · exact ⟨Nat.le_refl _, by dsimp only; omega, Nat.le_refl _, .inl rfl, .inl rfl⟩
          · exact ⟨rfl, rfl, trivial⟩
          rintro ⟨i, j⟩ ⟨hi, hij, hj, hl, hr⟩
          dsimp only at hi hij hj hl hr ⊢
          by_cases hlt : i < j
          case' pos => (have hfh := hfn ((i + j) / 2) (by omega) (by omega); have eh : (rowF n f)[(i + j) / 2]? = some (icell (f ((i + j) / 2) : Int)) := rowF_get (by omega))
          all_goals
           refine G.seq ?_
           refine G.seq ?_
           refine G.region ?_
           refine G.v (rv_move rfl) rfl ?_
           refine G.v (rv_move rfl) rfl ?_
           refine G.v (rv_lss rfl rfl) rfl ?_
           refine G.done ?_
           refine G.thenN ?_
           refine G.cond rfl (fun hc => ?_) (fun hc => ?_)
           · try exact Bool.noConfusion hc
             all_goals
              try replace hc := of_decide_eq_true hc
              try simp only [cmpZ_neg, Bool.not_eq_true', Bool.not_eq_false', decide_eq_false_iff_not, decide_eq_true_eq] at hc
              try (exfalso; omega)
              all_goals
               refine G.skip ?_
               refine G.thenN ?_
               refine G.block ?_
               refine G.seq ?_
               refine G.region ?_
               refine G.v (rv_move rfl) rfl ?_
               refine G.v (rv_move rfl) rfl ?_
               (refine G.v (rv_addN rfl rfl (by omega)) rfl ?_)
               refine G.v (rv_conv rfl) rfl ?_
               refine G.v (rv_shr rfl rfl (by omega)) rfl ?_
               refine G.v (rv_half (m := (i + j) / 2) rfl rfl (by omega) (by omega)) rfl ?_
               refine G.v (rv_assign rfl) rfl ?_
               refine G.done ?_
               refine G.thenN ?_
               refine G.seq ?_
               refine G.drawL [] ?_
               refine GE.q 0 rfl (by kernel_rfl) rfl (qg_runs (rv_move rfl)) rfl ?_
               refine GE.q 1 rfl (by kernel_rfl) rfl (qg_runs (rv_move rfl)) rfl ?_
               refine GE.q 2 rfl (by kernel_rfl) rfl (qg_runs (rv_move rfl)) rfl ?_
               (refine GE.q 3 rfl (by kernel_rfl) rfl (qg_runs (rv_indexH rfl rfl (by exact Rd.owned 0 rfl) rfl (by exact em))) rfl ?_)
               refine GE.q 4 rfl (by kernel_rfl) rfl (qg_runs (rv_loadE rfl (by exact Rd.owned 0 rfl) (by exact em) rfl)) rfl ?_
               refine GE.q 5 rfl (by kernel_rfl) rfl (qg_runs (rv_move rfl)) rfl ?_
               refine GE.ol 6 (by kernel_rfl) rfl rfl (og_runs (rv_move rfl)) rfl (fun _ _ h => by exact h) (fun _ _ => ?_)
               (refine GE.ol 7 (by kernel_rfl) rfl rfl (og_runs (rv_indexH rfl rfl (by exact Rd.owned 0 rfl) rfl (by exact eh))) rfl (fun _ _ h => by exact h) (fun _ _ => ?_))
               refine GE.ol 8 (by kernel_rfl) rfl rfl (og_runs (rv_loadE rfl (by exact Rd.owned 0 rfl) (by exact eh) rfl)) rfl (fun _ _ h => by exact h) (fun _ _ => ?_)
               refine GE.ol 9 (by kernel_rfl) rfl rfl (og_callV rfl rfl (fun w hh => hcmp w hh.tail _ _ hfm hfh)) rfl (fun _ _ h => by exact h) (fun _ _ => ?_)
               refine GE.ol 10 (by kernel_rfl) rfl rfl (og_runs (rv_lss rfl rfl)) rfl (fun _ _ h => by exact h) (fun _ _ => ?_)
               refine GE.ol 11 (by kernel_rfl) rfl rfl (og_runs (rv_not rfl)) rfl (fun _ _ h => by exact h) (fun _ _ => ?_)
               refine GE.done (by kernel_rfl) ?_
               refine G.thenN ?_
               refine G.cond rfl (fun hc => ?_) (fun hc => ?_)
               · try exact Bool.noConfusion hc
                 all_goals
                  try replace hc := of_decide_eq_true hc
                  try simp only [cmpZ_neg, Bool.not_eq_true', Bool.not_eq_false', decide_eq_false_iff_not, decide_eq_true_eq] at hc
                  try (exfalso; contradiction)
                  all_goals
                   refine G.region ?_
                   refine G.v (rv_move rfl) rfl ?_
                   (refine G.v (rv_incr rfl rfl (by omega)) rfl ?_)
                   refine G.v (rv_assign rfl) rfl ?_
                   refine G.done ?_
                   refine G.inN ?_
                   refine G.backK ((i + j) / 2 + 1, j) 0 rfl (.cons rfl (.cons rfl (.cons rfl (.nil)))) (⟨rfl, rfl, trivial⟩) ?_ ?_
                   · (exact ⟨by dsimp only; omega, by dsimp only; omega, by dsimp only; omega, .inr hc, hr⟩)
                   · dsimp only; omega
               · try exact Bool.noConfusion hc
                 all_goals
                  try replace hc := of_decide_eq_false hc
                  try simp only [cmpZ_neg, Bool.not_eq_true', Bool.not_eq_false', decide_eq_false_iff_not, decide_eq_true_eq] at hc
                  try (exfalso; contradiction)
                  all_goals
                   refine G.region ?_
                   refine G.v (rv_move rfl) rfl ?_
                   refine G.v (rv_assign rfl) rfl ?_
                   refine G.done ?_
                   refine G.inN ?_
                   refine G.backK (i, (i + j) / 2) 0 rfl (.cons rfl (.cons rfl (.cons rfl (.nil)))) (⟨rfl, rfl, trivial⟩) ?_ ?_
                   · (exact ⟨by dsimp only; omega, by dsimp only; omega, by dsimp only; omega, hl, .inr hc⟩)
                   · dsimp only; omega
           · try exact Bool.noConfusion hc
             all_goals
              try replace hc := of_decide_eq_false hc
              try simp only [cmpZ_neg, Bool.not_eq_true', Bool.not_eq_false', decide_eq_false_iff_not, decide_eq_true_eq] at hc
              try (exfalso; omega)
              all_goals
               refine G.exit ?_
               refine G.thenX ?_
               refine G.thenX ?_
               refine G.inX ?_
               refine G.thenN ?_
               refine G.seq ?_
               refine G.seq ?_
               refine G.region ?_
               refine G.v (rv_move rfl) rfl ?_
               refine G.v (rv_assign rfl) rfl ?_
               refine G.done ?_
               refine G.thenN ?_
               refine G.block ?_
               -- loop 3: turned [17], kept [0, 14]
               refine G.rowEq (rowF n (rotF f m m (m + 1))) (by rw [rot_id (Nat.le_refl _) (by omega) (.inl rfl)]) rfl ?_
               refine G.loopK (ι := Nat) (ks := [0, 14]) (fun k => [(17, .int .i64 (k : Int))]) (fun k => [.row v 3 1 (rowF n (rotF f k m (m + 1)))]) (fun k => i ≤ k ∧ k ≤ m) (fun k => k) m (.cons rfl (.cons rfl (.nil))) rfl ?_ ?_ ?_
               · exact ⟨by omega, Nat.le_refl _⟩
               · exact ⟨rfl, trivial⟩
               rintro k ⟨hik, hkm⟩
               by_cases hk2 : i < k
               case' pos => (have e1 : (rowF n (rotF f k m (m + 1)))[k]? = some (icell (f m : Int)) := (by rw [rowF_get (by omega), rot_lo (Nat.le_refl _) (by omega)]; congr 4; omega); have e2 : (rowF n (rotF f k m (m + 1)))[k - 1]? = some (icell (f (k - 1) : Int)) := (by rw [rowF_get (by omega), rot_out hkm (by omega) (.inl (by omega))]))
               all_goals
                refine G.seq ?_
                refine G.seq ?_
                refine G.region ?_
                refine G.v (rv_move rfl) rfl ?_
                refine G.v (rv_move rfl) rfl ?_
                refine G.v (rv_gtr rfl rfl) rfl ?_
                refine G.done ?_
                refine G.thenN ?_
                refine G.cond rfl (fun hc => ?_) (fun hc => ?_)
                · try exact Bool.noConfusion hc
                  all_goals
                   try replace hc := of_decide_eq_true hc
                   try simp only [cmpZ_neg, Bool.not_eq_true', Bool.not_eq_false', decide_eq_false_iff_not, decide_eq_true_eq] at hc
                   try (exfalso; omega)
                   all_goals
                    refine G.skip ?_
                    refine G.thenN ?_
                    refine G.seq ?_
                    refine G.block ?_
                    refine G.drawS [15, 17] rfl ?_
                    refine GS.p 0 rfl (by kernel_rfl) (qg_runs (rv_move rfl)) (fun _ h => h.drop 1) rfl ?_
                    refine GS.p 1 rfl (by kernel_rfl) (qg_runs (rv_move rfl)) (fun _ h => h.drop 1) rfl ?_
                    refine GS.p 2 rfl (by kernel_rfl) (qg_runs (rv_move rfl)) (fun _ h => h.drop 1) rfl ?_
                    refine GS.p 3 rfl (by kernel_rfl) (qg_runs (rv_move rfl)) (fun _ h => h.drop 1) rfl ?_
                    (refine GS.p 4 rfl (by kernel_rfl) (qg_runs (rv_decr rfl rfl (by omega) (by omega))) (fun _ h => h.drop 1) rfl ?_)
                    refine GS.p 5 rfl (by kernel_rfl) (qg_runs (rv_move rfl)) (fun _ h => h.drop 1) rfl ?_
                    refine GS.p 6 rfl (by kernel_rfl) (qg_runs (rv_move rfl)) (fun _ h => h.drop 1) rfl ?_
                    (refine GS.p 7 rfl (by kernel_rfl) (qg_runs (rv_decr rfl rfl (by omega) (by omega))) (fun _ h => h.drop 1) rfl ?_)
                    (refine GS.q 8 [9, 14, 15, 16, 17] rfl (by kernel_rfl) (by kernel_rfl) (qg_runs (rv_indexH rfl rfl (by exact Rd.owned 0 rfl) rfl (by exact e2))) rfl ?_)
                    refine GS.q 9 [14, 15, 16, 17] rfl (by kernel_rfl) (by kernel_rfl) (qg_runs (rv_loadE rfl (by exact Rd.owned 0 rfl) (by exact e2) rfl)) rfl ?_
                    refine GS.p 10 rfl (by kernel_rfl) (qg_runs (rv_move rfl)) (fun _ h => h.drop 1) rfl ?_
                    refine GS.p 11 rfl (by kernel_rfl) (qg_runs (rv_move rfl)) (fun _ h => h.drop 1) rfl ?_
                    (refine GS.q 12 [13, 14, 15, 16, 17] rfl (by kernel_rfl) (by kernel_rfl) (qg_runs (rv_indexH rfl rfl (by exact Rd.owned 0 rfl) rfl (by exact e1))) rfl ?_)
                    refine GS.q 13 [14, 15, 16, 17] rfl (by kernel_rfl) (by kernel_rfl) (qg_runs (rv_loadE rfl (by exact Rd.owned 0 rfl) (by exact e1) rfl)) rfl ?_
                    (refine GS.q 14 [15, 16, 17] rfl (by kernel_rfl) (by kernel_rfl) (qg_runs (rv_indexH rfl rfl (by exact Rd.owned 0 rfl) rfl (by exact e1))) rfl ?_)
                    refine GS.o0 15 (by kernel_rfl) rfl rfl (og_stE0 rfl rfl rfl (by exact e1) rfl rfl rfl rfl (.zero (.cons .nil))) (fun _ _ h => h.drop 1) (fun _ _ => ?_)
                    (refine GS.q 16 [17] rfl (by kernel_rfl) (by kernel_rfl) (qg_runs (rv_indexH rfl rfl (by exact Rd.owned 0 rfl) rfl (by exact get_setN (by omega) e2))) rfl ?_)
                    refine GS.o0 17 (by kernel_rfl) rfl rfl (og_stE0 rfl rfl rfl (by exact get_setN (by omega) e2) rfl rfl rfl rfl (.zero (.cons .nil))) (fun _ _ h => h.drop 1) (fun _ _ => ?_)
                    refine GS.done (by kernel_rfl) ?_
                    refine G.inN ?_
                    refine G.thenN ?_
                    refine G.region ?_
                    refine G.v (rv_move rfl) rfl ?_
                    (refine G.v (rv_decr rfl rfl (by omega) (by omega)) rfl ?_)
                    refine G.v (rv_assign rfl) rfl ?_
                    refine G.done ?_
                    (refine G.backK (k - 1) 0 (one_eq (congrArg (fun z => Ch.row v 3 1 z) (by obtain ⟨q, rfl⟩ : ∃ q, k = q + 1 := ⟨k - 1, by omega⟩; exact row_dn (by omega)))) (.cons rfl (.cons rfl (.nil))) ?_ ?_ ?_)
                    · exact ⟨rfl, trivial⟩
                    · exact ⟨by omega, by omega⟩
                    · omega
                · try exact Bool.noConfusion hc
                  all_goals
                   try replace hc := of_decide_eq_false hc
                   try simp only [cmpZ_neg, Bool.not_eq_true', Bool.not_eq_false', decide_eq_false_iff_not, decide_eq_true_eq] at hc
                   try (exfalso; omega)
                   all_goals
                    refine G.exit ?_
                    refine G.thenX ?_
                    refine G.thenX ?_
                    refine G.inX ?_
                    refine G.thenN ?_
                    refine G.ret ?_
                    refine G.thenR ?_
                    (exact G.retF0 (rotF f i m (m + 1)) ⟨(rot_frm (by omega) (by omega)).mono (by omega) (by omega), by obtain rfl : b = m + 1 := (by omega); exact put_right hs1 hcr hi (by omega) hl (by (have hq : j = i := (by omega)); rw [hq] at hr; exact hr)⟩ rfl rfl (fun w hw => by obtain rfl : i = k := (by omega); exact hw))
      · try exact Bool.noConfusion hc
        all_goals
         try replace hc := of_decide_eq_false hc
         try simp only [cmpZ_neg, Bool.not_eq_true', Bool.not_eq_false', decide_eq_false_iff_not, decide_eq_true_eq] at hc
         try (exfalso; contradiction)
         all_goals
          refine G.skip ?_
          refine G.thenN ?_
          refine G.seq ?_
          refine G.region ?_
          refine G.v (rv_move rfl) rfl ?_
          refine G.v (rv_move rfl) rfl ?_
          (refine G.v (rv_addN rfl rfl (by omega)) rfl ?_)
          refine G.v (rv_conv rfl) rfl ?_
          refine G.v (rv_shr rfl rfl (by omega)) rfl ?_
          refine G.v (rv_half (m := (a + b) / 2) rfl rfl (by omega) (by omega)) rfl ?_
          refine G.v (rv_assign rfl) rfl ?_
          refine G.done ?_
          refine G.thenN ?_
          refine G.seq ?_
          refine G.region ?_
          refine G.v (rv_move rfl) rfl ?_
          refine G.v (rv_move rfl) rfl ?_
          (refine G.v (rv_addN rfl rfl (by omega)) rfl ?_)
          refine G.v (rv_assign rfl) rfl ?_
          refine G.done ?_
          refine G.thenN ?_
          refine G.seq ?_
          refine G.region ?_
          refine G.v (rv_assign rfl) rfl ?_
          refine G.v (rv_assign rfl) rfl ?_
          refine G.done ?_
          refine G.thenN ?_
          refine G.seq ?_
          refine G.seq ?_
          refine G.region ?_
          refine G.v (rv_move rfl) rfl ?_
          refine G.v (rv_move rfl) rfl ?_
          refine G.v (rv_gtr rfl rfl) rfl ?_
          refine G.done ?_
          refine G.thenN ?_
          refine G.cond rfl (fun hc => ?_) (fun hc => ?_)
          · try exact Bool.noConfusion hc
            all_goals
             try replace hc := of_decide_eq_true hc
             try simp only [cmpZ_neg, Bool.not_eq_true', Bool.not_eq_false', decide_eq_false_iff_not, decide_eq_true_eq] at hc
             try (exfalso; contradiction)
             all_goals
              obtain ⟨s0, hs0⟩ : ∃ y, y = (a + b) / 2 + m - b := ⟨_, rfl⟩
              obtain ⟨r0, hr0⟩ : ∃ y, y = (a + b) / 2 := ⟨_, rfl⟩
              have hL : s0 = a ∨ (a + b) / 2 + m - s0 = b := by omega
              have hR : r0 = m ∨ (a + b) / 2 + m - r0 = m := by omega
              all_goals
               refine G.seq ?_
               refine G.region ?_
               refine G.v (rv_move rfl) rfl ?_
               refine G.v (rv_move rfl) rfl ?_
               (refine G.v (rv_subN rfl rfl (by omega) (by omega)) rfl ?_)
               refine G.v (rv_assign rfl) rfl ?_
               refine G.done ?_
               refine G.thenN ?_
               refine G.region ?_
               refine G.v (rv_move rfl) rfl ?_
               refine G.v (rv_assign rfl) rfl ?_
               refine G.done ?_
               refine G.thenN ?_
               refine G.seq ?_
               refine G.region ?_
               refine G.v (rv_move rfl) rfl ?_
               (refine G.v (rv_decr rfl rfl (by omega) (by omega)) rfl ?_)
               refine G.v (rv_assign rfl) rfl ?_
               refine G.done ?_
               refine G.thenN ?_
               refine G.seq ?_
               refine G.block ?_
               -- loop 4: turned [20, 21], kept [0, 1, 2, 3, 4, 18, 19, 22]
               refine G.loopK (ι := Nat × Nat) (ks := [0, 1, 2, 3, 4, 18, 19, 22]) (fun x => [(20, .int .i64 (x.1 : Int)), (21, .int .i64 (x.2 : Int))]) (fun _ => [.row v 3 1 (rowF n f)]) (fun x => s0 ≤ x.1 ∧ x.1 ≤ x.2 ∧ x.2 ≤ r0 ∧ (x.1 = s0 ∨ ¬ K (f ((a + b) / 2 + m - 1 - (x.1 - 1))) < K (f (x.1 - 1))) ∧ (x.2 = r0 ∨ K (f ((a + b) / 2 + m - 1 - x.2)) < K (f x.2))) (fun x => x.2 - x.1) (s0, r0) (.cons rfl (.cons rfl (.cons rfl (.cons rfl (.cons rfl (.cons rfl (.cons rfl (.cons rfl (.nil))))))))) rfl ?_ ?_ ?_
               · exact ⟨Nat.le_refl _, by dsimp only; omega, Nat.le_refl _, .inl rfl, .inl rfl⟩
               · exact ⟨congrArg (fun z : Nat => some (Value.int .i64 (z : Int))) hs0.symm, congrArg (fun z : Nat => some (Value.int .i64 (z : Int))) hr0.symm, trivial⟩
               rintro ⟨i, j⟩ ⟨hi, hij, hj, hl, hr⟩
               dsimp only at hi hij hj hl hr ⊢
               have ham : a ≤ s0 ∧ r0 ≤ m ∧ r0 ≤ (a + b) / 2 ∧ (a + b) / 2 + m - s0 ≤ b := by omega
               by_cases hlt : i < j
               case' pos => (have hfh := hfn ((i + j) / 2) (by omega) (by omega); have eh : (rowF n f)[(i + j) / 2]? = some (icell (f ((i + j) / 2) : Int)) := rowF_get (by omega); have hfp := hfn ((a + b) / 2 + m - 1 - (i + j) / 2) (by omega) (by omega); have ep : (rowF n f)[(a + b) / 2 + m - 1 - (i + j) / 2]? = some (icell (f ((a + b) / 2 + m - 1 - (i + j) / 2) : Int)) := rowF_get (by omega))
               case' neg => (obtain rfl : j = i := (by omega); have hmid := mid_of (st := j) (en := (a + b) / 2 + m - j) (mid := (a + b) / 2) hs1 hs2 hcr (by omega) (by omega) (by omega) (by omega) (by omega) (by omega) (by omega) (by rcases hl with hl | hl; (rcases hL with h | h; exact .inl (hl.trans h); exact .inr (.inl (by omega))); (by_cases hz : j = a; exact .inl hz; rw [show (a + b) / 2 + m - 1 - (j - 1) = (a + b) / 2 + m - j from by omega] at hl; exact .inr (.inr hl))) (by rcases hr with hr | hr; (rcases hR with h | h; exact .inl (hr.trans h); exact .inr (.inl (by omega))); (rw [show (a + b) / 2 + m - 1 - j = (a + b) / 2 + m - j - 1 from by omega] at hr; exact .inr (.inr hr))); have hfr : Frm a b f (rotF f j m ((a + b) / 2 + m - j)) := (rot_frm (by omega) (by omega)).mono (by omega) (by omega))
               all_goals
                refine G.seq ?_
                refine G.seq ?_
                refine G.region ?_
                refine G.v (rv_move rfl) rfl ?_
                refine G.v (rv_move rfl) rfl ?_
                refine G.v (rv_lss rfl rfl) rfl ?_
                refine G.done ?_
                refine G.thenN ?_
                refine G.cond rfl (fun hc => ?_) (fun hc => ?_)
                · try exact Bool.noConfusion hc
                  all_goals
                   try replace hc := of_decide_eq_true hc
                   try simp only [cmpZ_neg, Bool.not_eq_true', Bool.not_eq_false', decide_eq_false_iff_not, decide_eq_true_eq] at hc
                   try (exfalso; omega)
                   all_goals
                    refine G.skip ?_
                    refine G.thenN ?_
                    refine G.block ?_
                    refine G.seq ?_
                    refine G.region ?_
                    refine G.v (rv_move rfl) rfl ?_
                    refine G.v (rv_move rfl) rfl ?_
                    (refine G.v (rv_addN rfl rfl (by omega)) rfl ?_)
                    refine G.v (rv_conv rfl) rfl ?_
                    refine G.v (rv_shr rfl rfl (by omega)) rfl ?_
                    refine G.v (rv_half (m := (i + j) / 2) rfl rfl (by omega) (by omega)) rfl ?_
                    refine G.v (rv_assign rfl) rfl ?_
                    refine G.done ?_
                    refine G.thenN ?_
                    refine G.seq ?_
                    refine G.drawL [] ?_
                    refine GE.q 0 rfl (by kernel_rfl) rfl (qg_runs (rv_move rfl)) rfl ?_
                    refine GE.q 1 rfl (by kernel_rfl) rfl (qg_runs (rv_move rfl)) rfl ?_
                    refine GE.q 2 rfl (by kernel_rfl) rfl (qg_runs (rv_move rfl)) rfl ?_
                    refine GE.q 3 rfl (by kernel_rfl) rfl (qg_runs (rv_move rfl)) rfl ?_
                    (refine GE.q 4 rfl (by kernel_rfl) rfl (qg_runs (rv_subN rfl rfl (by omega) (by omega))) rfl ?_)
                    (refine GE.q 5 rfl (by kernel_rfl) rfl (qg_runs (rv_indexH rfl rfl (by exact Rd.owned 0 rfl) rfl (by exact ep))) rfl ?_)
                    refine GE.q 6 rfl (by kernel_rfl) rfl (qg_runs (rv_loadE rfl (by exact Rd.owned 0 rfl) (by exact ep) rfl)) rfl ?_
                    refine GE.q 7 rfl (by kernel_rfl) rfl (qg_runs (rv_move rfl)) rfl ?_
                    refine GE.ol 8 (by kernel_rfl) rfl rfl (og_runs (rv_move rfl)) rfl (fun _ _ h => by exact h) (fun _ _ => ?_)
                    (refine GE.ol 9 (by kernel_rfl) rfl rfl (og_runs (rv_indexH rfl rfl (by exact Rd.owned 0 rfl) rfl (by exact eh))) rfl (fun _ _ h => by exact h) (fun _ _ => ?_))
                    refine GE.ol 10 (by kernel_rfl) rfl rfl (og_runs (rv_loadE rfl (by exact Rd.owned 0 rfl) (by exact eh) rfl)) rfl (fun _ _ h => by exact h) (fun _ _ => ?_)
                    refine GE.ol 11 (by kernel_rfl) rfl rfl (og_callV rfl rfl (fun w hh => hcmp w hh.tail _ _ hfp hfh)) rfl (fun _ _ h => by exact h) (fun _ _ => ?_)
                    refine GE.ol 12 (by kernel_rfl) rfl rfl (og_runs (rv_lss rfl rfl)) rfl (fun _ _ h => by exact h) (fun _ _ => ?_)
                    refine GE.ol 13 (by kernel_rfl) rfl rfl (og_runs (rv_not rfl)) rfl (fun _ _ h => by exact h) (fun _ _ => ?_)
                    refine GE.done (by kernel_rfl) ?_
                    refine G.thenN ?_
                    refine G.cond rfl (fun hc => ?_) (fun hc => ?_)
                    · try exact Bool.noConfusion hc
                      all_goals
                       try replace hc := of_decide_eq_true hc
                       try simp only [cmpZ_neg, Bool.not_eq_true', Bool.not_eq_false', decide_eq_false_iff_not, decide_eq_true_eq] at hc
                       try (exfalso; contradiction)
                       all_goals
                        refine G.region ?_
                        refine G.v (rv_move rfl) rfl ?_
                        (refine G.v (rv_incr rfl rfl (by omega)) rfl ?_)
                        refine G.v (rv_assign rfl) rfl ?_
                        refine G.done ?_
                        refine G.inN ?_
                        refine G.backK ((i + j) / 2 + 1, j) 0 rfl (.cons rfl (.cons rfl (.cons rfl (.cons rfl (.cons rfl (.cons rfl (.cons rfl (.cons rfl (.nil))))))))) (⟨rfl, rfl, trivial⟩) ?_ ?_
                        · (exact ⟨by dsimp only; omega, by dsimp only; omega, by dsimp only; omega, .inr hc, hr⟩)
                        · dsimp only; omega
                    · try exact Bool.noConfusion hc
                      all_goals
                       try replace hc := of_decide_eq_false hc
                       try simp only [cmpZ_neg, Bool.not_eq_true', Bool.not_eq_false', decide_eq_false_iff_not, decide_eq_true_eq] at hc
                       try (exfalso; contradiction)
                       all_goals
                        refine G.region ?_
                        refine G.v (rv_move rfl) rfl ?_
                        refine G.v (rv_assign rfl) rfl ?_
                        refine G.done ?_
                        refine G.inN ?_
                        refine G.backK (i, (i + j) / 2) 0 rfl (.cons rfl (.cons rfl (.cons rfl (.cons rfl (.cons rfl (.cons rfl (.cons rfl (.cons rfl (.nil))))))))) (⟨rfl, rfl, trivial⟩) ?_ ?_
                        · (exact ⟨by dsimp only; omega, by dsimp only; omega, by dsimp only; omega, hl, .inr hc⟩)
                        · dsimp only; omega
                · try exact Bool.noConfusion hc
                  all_goals
                   try replace hc := of_decide_eq_false hc
                   try simp only [cmpZ_neg, Bool.not_eq_true', Bool.not_eq_false', decide_eq_false_iff_not, decide_eq_true_eq] at hc
                   try (exfalso; omega)
                   all_goals
                    refine G.exit ?_
                    refine G.thenX ?_
                    refine G.thenX ?_
                    refine G.inX ?_
                    refine G.thenN ?_
                    refine G.seq ?_
                    refine G.region ?_
                    refine G.v (rv_move rfl) rfl ?_
                    refine G.v (rv_move rfl) rfl ?_
                    (refine G.v (rv_subN rfl rfl (by omega) (by omega)) rfl ?_)
                    refine G.v (rv_assign rfl) rfl ?_
                    refine G.done ?_
                    refine G.thenN ?_
                    refine G.seq ?_
                    refine G.seq ?_
                    refine G.region ?_
                    refine G.v (rv_move rfl) rfl ?_
                    refine G.v (rv_move rfl) rfl ?_
                    refine G.v (rv_lss rfl rfl) rfl ?_
                    refine G.v (rv_move rfl) rfl ?_
                    all_goals (((with_reducible refine G.gP rfl rfl (fun hg => ?_) (fun hg => ?_)) <;> (try exact Bool.noConfusion hg) <;> (try (exfalso; (have hq := of_decide_eq_false hg; omega))) <;> ((refine G.gY rfl rfl ?_; refine G.v (rv_move rfl) rfl ?_))))
                    all_goals (((refine G.gY rfl rfl ?_; refine G.v (rv_move rfl) rfl ?_)))
                    all_goals (((refine G.gY rfl rfl ?_; refine G.v (rv_lss rfl rfl) rfl ?_)))
                    all_goals ((refine G.v (rv_pickT rfl rfl) rfl ?_))
                    all_goals
                     refine G.done ?_
                     refine G.thenN ?_
                     refine G.cond rfl (fun hc => ?_) (fun hc => ?_)
                     · try exact Bool.noConfusion hc
                       all_goals
                        try replace hc := of_decide_eq_true hc
                        try simp only [cmpZ_neg, Bool.not_eq_true', Bool.not_eq_false', decide_eq_false_iff_not, decide_eq_true_eq] at hc
                        try (exfalso; contradiction)
                        all_goals
                         refine G.region ?_
                         refine G.v (rv_move rfl) rfl ?_
                         refine G.v (rv_move rfl) rfl ?_
                         refine G.v (rv_move rfl) rfl ?_
                         refine G.v (rv_move rfl) rfl ?_
                         refine G.v (rv_move rfl) rfl ?_
                         ((refine G.frontR0 (v) rfl ?_); refine G.op (og_callMM1 rfl rfl rfl (rotate_any (by omega) (by omega) (by omega) hn)) rfl ?_; rintro ⟨⟩ _; try dsimp only)
                         refine G.done ?_
                         refine G.thenN ?_
                         refine G.seq ?_
                         refine G.seq ?_
                         refine G.region ?_
                         refine G.v (rv_move rfl) rfl ?_
                         refine G.v (rv_move rfl) rfl ?_
                         refine G.v (rv_lss rfl rfl) rfl ?_
                         refine G.v (rv_move rfl) rfl ?_
                         all_goals (((with_reducible refine G.gP rfl rfl (fun hg => ?_) (fun hg => ?_)) <;> (try exact Bool.noConfusion hg) <;> (try (exfalso; (have hq := of_decide_eq_false hg; omega))) <;> (first | (refine G.gY rfl rfl ?_; refine G.v (rv_move rfl) rfl ?_) | refine G.gN rfl rfl rfl ?_)))
                         all_goals ((first | (refine G.gY rfl rfl ?_; refine G.v (rv_move rfl) rfl ?_) | refine G.gN rfl rfl rfl ?_))
                         all_goals ((first | (refine G.gY rfl rfl ?_; refine G.v (rv_lss rfl rfl) rfl ?_) | refine G.gN rfl rfl rfl ?_))
                         all_goals ((first | refine G.v (rv_pickT rfl rfl) rfl ?_ | refine G.v (rv_pickF rfl rfl) rfl ?_))
                         all_goals
                          refine G.done ?_
                          refine G.thenN ?_
                          refine G.cond rfl (fun hc => ?_) (fun hc => ?_)
                          · try exact Bool.noConfusion hc
                            all_goals
                             try replace hc := of_decide_eq_true hc
                             try simp only [cmpZ_neg, Bool.not_eq_true', Bool.not_eq_false', decide_eq_false_iff_not, decide_eq_true_eq] at hc
                             try (exfalso; contradiction)
                             all_goals
                              refine G.region ?_
                              refine G.v (rv_move rfl) rfl ?_
                              refine G.v (rv_move rfl) rfl ?_
                              refine G.v (rv_move rfl) rfl ?_
                              refine G.v (rv_move rfl) rfl ?_
                              refine G.v (rv_move rfl) rfl ?_
                              ((refine G.frontR0 (v) rfl ?_); refine G.op (og_callMM1 rfl rfl rfl (ih (by omega) (by (have hq := of_decide_eq_true hg; omega)) (by omega) (by omega) hmid.s1 hmid.s2 hmid.c1 (fun x x1 x2 => hfr.lt hfn x1 (by omega)))) rfl ?_; rintro g1 ⟨hf1, hm1⟩; try dsimp only)
                              refine G.done ?_
                              refine G.thenN ?_
                              refine G.seq ?_
                              refine G.region ?_
                              refine G.v (rv_move rfl) rfl ?_
                              refine G.v (rv_move rfl) rfl ?_
                              refine G.v (rv_lss rfl rfl) rfl ?_
                              refine G.v (rv_move rfl) rfl ?_
                              all_goals (((with_reducible refine G.gP rfl rfl (fun hg => ?_) (fun hg => ?_)) <;> (try exact Bool.noConfusion hg) <;> (try (exfalso; (have hq := of_decide_eq_false hg; omega))) <;> ((refine G.gY rfl rfl ?_; refine G.v (rv_move rfl) rfl ?_))))
                              all_goals (((refine G.gY rfl rfl ?_; refine G.v (rv_move rfl) rfl ?_)))
                              all_goals (((refine G.gY rfl rfl ?_; refine G.v (rv_lss rfl rfl) rfl ?_)))
                              all_goals ((refine G.v (rv_pickT rfl rfl) rfl ?_))
                              all_goals
                               refine G.done ?_
                               refine G.thenN ?_
                               refine G.cond rfl (fun hc => ?_) (fun hc => ?_)
                               · try exact Bool.noConfusion hc
                                 all_goals
                                  try replace hc := of_decide_eq_true hc
                                  try simp only [cmpZ_neg, Bool.not_eq_true', Bool.not_eq_false', decide_eq_false_iff_not, decide_eq_true_eq] at hc
                                  try (exfalso; contradiction)
                                  all_goals
                                   have h3 := hf1.srt_hi (Nat.le_refl _) hmid.s3
                                   have h4 := hf1.srt_hi (by omega) hmid.s4
                                   have h5 := hf1.crs_hi (Nat.le_refl _) (by omega) hmid.c2
                                   all_goals
                                    refine G.region ?_
                                    refine G.v (rv_move rfl) rfl ?_
                                    refine G.v (rv_move rfl) rfl ?_
                                    refine G.v (rv_move rfl) rfl ?_
                                    refine G.v (rv_move rfl) rfl ?_
                                    refine G.v (rv_move rfl) rfl ?_
                                    ((refine G.frontR0 (v) rfl ?_); refine G.op (og_callMM1 rfl rfl rfl (ih (by omega) (by omega) (by omega) (by omega) h3 h4 h5 (fun x x1 x2 => by rw [hf1.out x (.inr x1)]; exact hfr.lt hfn (by omega) x2))) rfl ?_; rintro g2 ⟨hf2, hm2⟩; try dsimp only)
                                    refine G.done ?_
                                    exact G.endF0 g2 ⟨hfr.trans ((hf1.mono (Nat.le_refl _) (by omega)).trans (hf2.mono (by omega) (Nat.le_refl _))), srt_join hmid.lr hf1 hm1 hf2 hm2⟩ rfl rfl (fun w hw => hw)
                               · try exact Bool.noConfusion hc
                                 all_goals
                                  try replace hc := of_decide_eq_false hc
                                  try simp only [cmpZ_neg, Bool.not_eq_true', Bool.not_eq_false', decide_eq_false_iff_not, decide_eq_true_eq] at hc
                                  try (exfalso; contradiction)
                                  all_goals
                                   have h3 := hf1.srt_hi (Nat.le_refl _) hmid.s3
                                   have h4 := hf1.srt_hi (by omega) hmid.s4
                                   obtain ⟨g2, hg2⟩ : ∃ y, y = g1 := ⟨_, rfl⟩
                                   have hf2 : Frm ((a + b) / 2) b g1 g2 := hg2 ▸ Frm.refl _ _ _
                                   have hm2 : Srt K ((a + b) / 2) b g2 := hg2 ▸ srt_of h3 h4 (by omega) (by omega) (by omega)
                                   refine G.rowEq (rowF n g2) (by rw [hg2]) rfl ?_
                                   all_goals
                                    refine G.skip ?_
                                    exact G.endF0 g2 ⟨hfr.trans ((hf1.mono (Nat.le_refl _) (by omega)).trans (hf2.mono (by omega) (Nat.le_refl _))), srt_join hmid.lr hf1 hm1 hf2 hm2⟩ rfl rfl (fun w hw => hw)
                          · try exact Bool.noConfusion hc
                            all_goals
                             try replace hc := of_decide_eq_false hc
                             try simp only [cmpZ_neg, Bool.not_eq_true', Bool.not_eq_false', decide_eq_false_iff_not, decide_eq_true_eq] at hc
                             try (exfalso; omega)
                             all_goals
                              obtain ⟨g1, hg1⟩ : ∃ y, y = rotF f j m ((a + b) / 2 + m - j) := ⟨_, rfl⟩
                              have hf1 : Frm a ((a + b) / 2) (rotF f j m ((a + b) / 2 + m - j)) g1 := hg1 ▸ Frm.refl _ _ _
                              have hm1 : Srt K a ((a + b) / 2) g1 := hg1 ▸ srt_of hmid.s1 hmid.s2 (by (have hq := of_decide_eq_false hg; omega)) (by omega) (by omega)
                              refine G.rowEq (rowF n g1) (by rw [hg1]) rfl ?_
                              all_goals
                               refine G.skip ?_
                               refine G.thenN ?_
                               refine G.seq ?_
                               refine G.region ?_
                               refine G.v (rv_move rfl) rfl ?_
                               refine G.v (rv_move rfl) rfl ?_
                               refine G.v (rv_lss rfl rfl) rfl ?_
                               refine G.v (rv_move rfl) rfl ?_
                               all_goals (((with_reducible refine G.gP rfl rfl (fun hg => ?_) (fun hg => ?_)) <;> (try exact Bool.noConfusion hg) <;> (try (exfalso; (have hq := of_decide_eq_false hg; omega))) <;> ((refine G.gY rfl rfl ?_; refine G.v (rv_move rfl) rfl ?_))))
                               all_goals (((refine G.gY rfl rfl ?_; refine G.v (rv_move rfl) rfl ?_)))
                               all_goals (((refine G.gY rfl rfl ?_; refine G.v (rv_lss rfl rfl) rfl ?_)))
                               all_goals ((refine G.v (rv_pickT rfl rfl) rfl ?_))
                               all_goals
                                refine G.done ?_
                                refine G.thenN ?_
                                refine G.cond rfl (fun hc => ?_) (fun hc => ?_)
                                · try exact Bool.noConfusion hc
                                  all_goals
                                   try replace hc := of_decide_eq_true hc
                                   try simp only [cmpZ_neg, Bool.not_eq_true', Bool.not_eq_false', decide_eq_false_iff_not, decide_eq_true_eq] at hc
                                   try (exfalso; contradiction)
                                   all_goals
                                    have h3 := hf1.srt_hi (Nat.le_refl _) hmid.s3
                                    have h4 := hf1.srt_hi (by omega) hmid.s4
                                    have h5 := hf1.crs_hi (Nat.le_refl _) (by omega) hmid.c2
                                    all_goals
                                     refine G.region ?_
                                     refine G.v (rv_move rfl) rfl ?_
                                     refine G.v (rv_move rfl) rfl ?_
                                     refine G.v (rv_move rfl) rfl ?_
                                     refine G.v (rv_move rfl) rfl ?_
                                     refine G.v (rv_move rfl) rfl ?_
                                     ((refine G.frontR0 (v) rfl ?_); refine G.op (og_callMM1 rfl rfl rfl (ih (by omega) (by omega) (by omega) (by omega) h3 h4 h5 (fun x x1 x2 => by rw [hf1.out x (.inr x1)]; exact hfr.lt hfn (by omega) x2))) rfl ?_; rintro g2 ⟨hf2, hm2⟩; try dsimp only)
                                     refine G.done ?_
                                     exact G.endF0 g2 ⟨hfr.trans ((hf1.mono (Nat.le_refl _) (by omega)).trans (hf2.mono (by omega) (Nat.le_refl _))), srt_join hmid.lr hf1 hm1 hf2 hm2⟩ rfl rfl (fun w hw => hw)
                                · try exact Bool.noConfusion hc
                                  all_goals
                                   try replace hc := of_decide_eq_false hc
                                   try simp only [cmpZ_neg, Bool.not_eq_true', Bool.not_eq_false', decide_eq_false_iff_not, decide_eq_true_eq] at hc
                                   try (exfalso; contradiction)
                                   all_goals
                                    have h3 := hf1.srt_hi (Nat.le_refl _) hmid.s3
                                    have h4 := hf1.srt_hi (by omega) hmid.s4
                                    obtain ⟨g2, hg2⟩ : ∃ y, y = g1 := ⟨_, rfl⟩
                                    have hf2 : Frm ((a + b) / 2) b g1 g2 := hg2 ▸ Frm.refl _ _ _
                                    have hm2 : Srt K ((a + b) / 2) b g2 := hg2 ▸ srt_of h3 h4 (by omega) (by omega) (by omega)
                                    refine G.rowEq (rowF n g2) (by rw [hg2]) rfl ?_
                                    all_goals
                                     refine G.skip ?_
                                     exact G.endF0 g2 ⟨hfr.trans ((hf1.mono (Nat.le_refl _) (by omega)).trans (hf2.mono (by omega) (Nat.le_refl _))), srt_join hmid.lr hf1 hm1 hf2 hm2⟩ rfl rfl (fun w hw => hw)
                     · try exact Bool.noConfusion hc
                       all_goals
                        try replace hc := of_decide_eq_false hc
                        try simp only [cmpZ_neg, Bool.not_eq_true', Bool.not_eq_false', decide_eq_false_iff_not, decide_eq_true_eq] at hc
                        try (exfalso; contradiction)
                        all_goals
                         refine G.rowEq (rowF n (rotF f j m ((a + b) / 2 + m - j))) (by rw [rot_id (by omega) (by omega) (by omega)]) rfl ?_
                         all_goals
                          refine G.skip ?_
                          refine G.thenN ?_
                          refine G.seq ?_
                          refine G.seq ?_
                          refine G.region ?_
                          refine G.v (rv_move rfl) rfl ?_
                          refine G.v (rv_move rfl) rfl ?_
                          refine G.v (rv_lss rfl rfl) rfl ?_
                          refine G.v (rv_move rfl) rfl ?_
                          all_goals (((with_reducible refine G.gP rfl rfl (fun hg => ?_) (fun hg => ?_)) <;> (try exact Bool.noConfusion hg) <;> (try (exfalso; (have hq := of_decide_eq_false hg; omega))) <;> ((refine G.gY rfl rfl ?_; refine G.v (rv_move rfl) rfl ?_))))
                          all_goals (((refine G.gY rfl rfl ?_; refine G.v (rv_move rfl) rfl ?_)))
                          all_goals (((refine G.gY rfl rfl ?_; refine G.v (rv_lss rfl rfl) rfl ?_)))
                          all_goals ((refine G.v (rv_pickT rfl rfl) rfl ?_))
                          all_goals
                           refine G.done ?_
                           refine G.thenN ?_
                           refine G.cond rfl (fun hc => ?_) (fun hc => ?_)
                           · try exact Bool.noConfusion hc
                             all_goals
                              try replace hc := of_decide_eq_true hc
                              try simp only [cmpZ_neg, Bool.not_eq_true', Bool.not_eq_false', decide_eq_false_iff_not, decide_eq_true_eq] at hc
                              try (exfalso; omega)
                              all_goals
                               refine G.region ?_
                               refine G.v (rv_move rfl) rfl ?_
                               refine G.v (rv_move rfl) rfl ?_
                               refine G.v (rv_move rfl) rfl ?_
                               refine G.v (rv_move rfl) rfl ?_
                               refine G.v (rv_move rfl) rfl ?_
                               ((refine G.frontR0 (v) rfl ?_); refine G.op (og_callMM1 rfl rfl rfl (ih (by omega) (by omega) (by omega) (by omega) hmid.s1 hmid.s2 hmid.c1 (fun x x1 x2 => hfr.lt hfn x1 (by omega)))) rfl ?_; rintro g1 ⟨hf1, hm1⟩; try dsimp only)
                               refine G.done ?_
                               refine G.thenN ?_
                               refine G.seq ?_
                               refine G.region ?_
                               refine G.v (rv_move rfl) rfl ?_
                               refine G.v (rv_move rfl) rfl ?_
                               refine G.v (rv_lss rfl rfl) rfl ?_
                               refine G.v (rv_move rfl) rfl ?_
                               all_goals (((with_reducible refine G.gP rfl rfl (fun hg => ?_) (fun hg => ?_)) <;> (try exact Bool.noConfusion hg) <;> (try (exfalso; (have hq := of_decide_eq_false hg; omega))) <;> ((refine G.gY rfl rfl ?_; refine G.v (rv_move rfl) rfl ?_))))
                               all_goals (((refine G.gY rfl rfl ?_; refine G.v (rv_move rfl) rfl ?_)))
                               all_goals (((refine G.gY rfl rfl ?_; refine G.v (rv_lss rfl rfl) rfl ?_)))
                               all_goals ((refine G.v (rv_pickT rfl rfl) rfl ?_))
                               all_goals
                                refine G.done ?_
                                refine G.thenN ?_
                                refine G.cond rfl (fun hc => ?_) (fun hc => ?_)
                                · try exact Bool.noConfusion hc
                                  all_goals
                                   try replace hc := of_decide_eq_true hc
                                   try simp only [cmpZ_neg, Bool.not_eq_true', Bool.not_eq_false', decide_eq_false_iff_not, decide_eq_true_eq] at hc
                                   try (exfalso; contradiction)
                                   all_goals
                                    have h3 := hf1.srt_hi (Nat.le_refl _) hmid.s3
                                    have h4 := hf1.srt_hi (by omega) hmid.s4
                                    have h5 := hf1.crs_hi (Nat.le_refl _) (by omega) hmid.c2
                                    all_goals
                                     refine G.region ?_
                                     refine G.v (rv_move rfl) rfl ?_
                                     refine G.v (rv_move rfl) rfl ?_
                                     refine G.v (rv_move rfl) rfl ?_
                                     refine G.v (rv_move rfl) rfl ?_
                                     refine G.v (rv_move rfl) rfl ?_
                                     ((refine G.frontR0 (v) rfl ?_); refine G.op (og_callMM1 rfl rfl rfl (ih (by omega) (by omega) (by omega) (by omega) h3 h4 h5 (fun x x1 x2 => by rw [hf1.out x (.inr x1)]; exact hfr.lt hfn (by omega) x2))) rfl ?_; rintro g2 ⟨hf2, hm2⟩; try dsimp only)
                                     refine G.done ?_
                                     exact G.endF0 g2 ⟨hfr.trans ((hf1.mono (Nat.le_refl _) (by omega)).trans (hf2.mono (by omega) (Nat.le_refl _))), srt_join hmid.lr hf1 hm1 hf2 hm2⟩ rfl rfl (fun w hw => hw)
                                · try exact Bool.noConfusion hc
                                  all_goals
                                   try replace hc := of_decide_eq_false hc
                                   try simp only [cmpZ_neg, Bool.not_eq_true', Bool.not_eq_false', decide_eq_false_iff_not, decide_eq_true_eq] at hc
                                   try (exfalso; contradiction)
                                   all_goals
                                    have h3 := hf1.srt_hi (Nat.le_refl _) hmid.s3
                                    have h4 := hf1.srt_hi (by omega) hmid.s4
                                    obtain ⟨g2, hg2⟩ : ∃ y, y = g1 := ⟨_, rfl⟩
                                    have hf2 : Frm ((a + b) / 2) b g1 g2 := hg2 ▸ Frm.refl _ _ _
                                    have hm2 : Srt K ((a + b) / 2) b g2 := hg2 ▸ srt_of h3 h4 (by omega) (by omega) (by omega)
                                    refine G.rowEq (rowF n g2) (by rw [hg2]) rfl ?_
                                    all_goals
                                     refine G.skip ?_
                                     exact G.endF0 g2 ⟨hfr.trans ((hf1.mono (Nat.le_refl _) (by omega)).trans (hf2.mono (by omega) (Nat.le_refl _))), srt_join hmid.lr hf1 hm1 hf2 hm2⟩ rfl rfl (fun w hw => hw)
                           · try exact Bool.noConfusion hc
                             all_goals
                              try replace hc := of_decide_eq_false hc
                              try simp only [cmpZ_neg, Bool.not_eq_true', Bool.not_eq_false', decide_eq_false_iff_not, decide_eq_true_eq] at hc
                              try (exfalso; contradiction)
                              all_goals
                               obtain ⟨g1, hg1⟩ : ∃ y, y = rotF f j m ((a + b) / 2 + m - j) := ⟨_, rfl⟩
                               have hf1 : Frm a ((a + b) / 2) (rotF f j m ((a + b) / 2 + m - j)) g1 := hg1 ▸ Frm.refl _ _ _
                               have hm1 : Srt K a ((a + b) / 2) g1 := hg1 ▸ srt_of hmid.s1 hmid.s2 (by omega) (by omega) (by omega)
                               refine G.rowEq (rowF n g1) (by rw [hg1]) rfl ?_
                               all_goals
                                refine G.skip ?_
                                refine G.thenN ?_
                                refine G.seq ?_
                                refine G.region ?_
                                refine G.v (rv_move rfl) rfl ?_
                                refine G.v (rv_move rfl) rfl ?_
                                refine G.v (rv_lss rfl rfl) rfl ?_
                                refine G.v (rv_move rfl) rfl ?_
                                all_goals (((with_reducible refine G.gP rfl rfl (fun hg => ?_) (fun hg => ?_)) <;> (try exact Bool.noConfusion hg) <;> (try (exfalso; (have hq := of_decide_eq_false hg; omega))) <;> ((refine G.gY rfl rfl ?_; refine G.v (rv_move rfl) rfl ?_))))
                                all_goals (((refine G.gY rfl rfl ?_; refine G.v (rv_move rfl) rfl ?_)))
                                all_goals (((refine G.gY rfl rfl ?_; refine G.v (rv_lss rfl rfl) rfl ?_)))
                                all_goals ((refine G.v (rv_pickT rfl rfl) rfl ?_))
                                all_goals
                                 refine G.done ?_
                                 refine G.thenN ?_
                                 refine G.cond rfl (fun hc => ?_) (fun hc => ?_)
                                 · try exact Bool.noConfusion hc
                                   all_goals
                                    try replace hc := of_decide_eq_true hc
                                    try simp only [cmpZ_neg, Bool.not_eq_true', Bool.not_eq_false', decide_eq_false_iff_not, decide_eq_true_eq] at hc
                                    try (exfalso; contradiction)
                                    all_goals
                                     have h3 := hf1.srt_hi (Nat.le_refl _) hmid.s3
                                     have h4 := hf1.srt_hi (by omega) hmid.s4
                                     have h5 := hf1.crs_hi (Nat.le_refl _) (by omega) hmid.c2
                                     all_goals
                                      refine G.region ?_
                                      refine G.v (rv_move rfl) rfl ?_
                                      refine G.v (rv_move rfl) rfl ?_
                                      refine G.v (rv_move rfl) rfl ?_
                                      refine G.v (rv_move rfl) rfl ?_
                                      refine G.v (rv_move rfl) rfl ?_
                                      ((refine G.frontR0 (v) rfl ?_); refine G.op (og_callMM1 rfl rfl rfl (ih (by omega) (by omega) (by omega) (by omega) h3 h4 h5 (fun x x1 x2 => by rw [hf1.out x (.inr x1)]; exact hfr.lt hfn (by omega) x2))) rfl ?_; rintro g2 ⟨hf2, hm2⟩; try dsimp only)
                                      refine G.done ?_
                                      exact G.endF0 g2 ⟨hfr.trans ((hf1.mono (Nat.le_refl _) (by omega)).trans (hf2.mono (by omega) (Nat.le_refl _))), srt_join hmid.lr hf1 hm1 hf2 hm2⟩ rfl rfl (fun w hw => hw)
                                 · try exact Bool.noConfusion hc
                                   all_goals
                                    try replace hc := of_decide_eq_false hc
                                    try simp only [cmpZ_neg, Bool.not_eq_true', Bool.not_eq_false', decide_eq_false_iff_not, decide_eq_true_eq] at hc
                                    try (exfalso; omega)
                                    all_goals
                                     have h3 := hf1.srt_hi (Nat.le_refl _) hmid.s3
                                     have h4 := hf1.srt_hi (by omega) hmid.s4
                                     obtain ⟨g2, hg2⟩ : ∃ y, y = g1 := ⟨_, rfl⟩
                                     have hf2 : Frm ((a + b) / 2) b g1 g2 := hg2 ▸ Frm.refl _ _ _
                                     have hm2 : Srt K ((a + b) / 2) b g2 := hg2 ▸ srt_of h3 h4 (by omega) (by omega) (by omega)
                                     refine G.rowEq (rowF n g2) (by rw [hg2]) rfl ?_
                                     all_goals
                                      refine G.skip ?_
                                      exact G.endF0 g2 ⟨hfr.trans ((hf1.mono (Nat.le_refl _) (by omega)).trans (hf2.mono (by omega) (Nat.le_refl _))), srt_join hmid.lr hf1 hm1 hf2 hm2⟩ rfl rfl (fun w hw => hw)
          · try exact Bool.noConfusion hc
            all_goals
             try replace hc := of_decide_eq_false hc
             try simp only [cmpZ_neg, Bool.not_eq_true', Bool.not_eq_false', decide_eq_false_iff_not, decide_eq_true_eq] at hc
             try (exfalso; contradiction)
             all_goals
              obtain ⟨s0, hs0⟩ : ∃ y, y = a := ⟨_, rfl⟩
              obtain ⟨r0, hr0⟩ : ∃ y, y = m := ⟨_, rfl⟩
              have hL : s0 = a ∨ (a + b) / 2 + m - s0 = b := by omega
              have hR : r0 = m ∨ (a + b) / 2 + m - r0 = m := by omega
              all_goals
               refine G.seq ?_
               refine G.region ?_
               refine G.v (rv_move rfl) rfl ?_
               refine G.v (rv_assign rfl) rfl ?_
               refine G.done ?_
               refine G.thenN ?_
               refine G.region ?_
               refine G.v (rv_move rfl) rfl ?_
               refine G.v (rv_assign rfl) rfl ?_
               refine G.done ?_
               refine G.thenN ?_
               refine G.seq ?_
               refine G.region ?_
               refine G.v (rv_move rfl) rfl ?_
               (refine G.v (rv_decr rfl rfl (by omega) (by omega)) rfl ?_)
               refine G.v (rv_assign rfl) rfl ?_
               refine G.done ?_
               refine G.thenN ?_
               refine G.seq ?_
               refine G.block ?_
               -- loop 4: turned [20, 21], kept [0, 1, 2, 3, 4, 18, 19, 22]
               refine G.loopK (ι := Nat × Nat) (ks := [0, 1, 2, 3, 4, 18, 19, 22]) (fun x => [(20, .int .i64 (x.1 : Int)), (21, .int .i64 (x.2 : Int))]) (fun _ => [.row v 3 1 (rowF n f)]) (fun x => s0 ≤ x.1 ∧ x.1 ≤ x.2 ∧ x.2 ≤ r0 ∧ (x.1 = s0 ∨ ¬ K (f ((a + b) / 2 + m - 1 - (x.1 - 1))) < K (f (x.1 - 1))) ∧ (x.2 = r0 ∨ K (f ((a + b) / 2 + m - 1 - x.2)) < K (f x.2))) (fun x => x.2 - x.1) (s0, r0) (.cons rfl (.cons rfl (.cons rfl (.cons rfl (.cons rfl (.cons rfl (.cons rfl (.cons rfl (.nil))))))))) rfl ?_ ?_ ?_
               · exact ⟨Nat.le_refl _, by dsimp only; omega, Nat.le_refl _, .inl rfl, .inl rfl⟩
               · exact ⟨congrArg (fun z : Nat => some (Value.int .i64 (z : Int))) hs0.symm, congrArg (fun z : Nat => some (Value.int .i64 (z : Int))) hr0.symm, trivial⟩
               rintro ⟨i, j⟩ ⟨hi, hij, hj, hl, hr⟩
               dsimp only at hi hij hj hl hr ⊢
               have ham : a ≤ s0 ∧ r0 ≤ m ∧ r0 ≤ (a + b) / 2 ∧ (a + b) / 2 + m - s0 ≤ b := by omega
               by_cases hlt : i < j
               case' pos => (have hfh := hfn ((i + j) / 2) (by omega) (by omega); have eh : (rowF n f)[(i + j) / 2]? = some (icell (f ((i + j) / 2) : Int)) := rowF_get (by omega); have hfp := hfn ((a + b) / 2 + m - 1 - (i + j) / 2) (by omega) (by omega); have ep : (rowF n f)[(a + b) / 2 + m - 1 - (i + j) / 2]? = some (icell (f ((a + b) / 2 + m - 1 - (i + j) / 2) : Int)) := rowF_get (by omega))
               case' neg => (obtain rfl : j = i := (by omega); have hmid := mid_of (st := j) (en := (a + b) / 2 + m - j) (mid := (a + b) / 2) hs1 hs2 hcr (by omega) (by omega) (by omega) (by omega) (by omega) (by omega) (by omega) (by rcases hl with hl | hl; (rcases hL with h | h; exact .inl (hl.trans h); exact .inr (.inl (by omega))); (by_cases hz : j = a; exact .inl hz; rw [show (a + b) / 2 + m - 1 - (j - 1) = (a + b) / 2 + m - j from by omega] at hl; exact .inr (.inr hl))) (by rcases hr with hr | hr; (rcases hR with h | h; exact .inl (hr.trans h); exact .inr (.inl (by omega))); (rw [show (a + b) / 2 + m - 1 - j = (a + b) / 2 + m - j - 1 from by omega] at hr; exact .inr (.inr hr))); have hfr : Frm a b f (rotF f j m ((a + b) / 2 + m - j)) := (rot_frm (by omega) (by omega)).mono (by omega) (by omega))
               all_goals
                refine G.seq ?_
                refine G.seq ?_
                refine G.region ?_
                refine G.v (rv_move rfl) rfl ?_
                refine G.v (rv_move rfl) rfl ?_
                refine G.v (rv_lss rfl rfl) rfl ?_
                refine G.done ?_
                refine G.thenN ?_
                refine G.cond rfl (fun hc => ?_) (fun hc => ?_)
                · try exact Bool.noConfusion hc
                  all_goals
                   try replace hc := of_decide_eq_true hc
                   try simp only [cmpZ_neg, Bool.not_eq_true', Bool.not_eq_false', decide_eq_false_iff_not, decide_eq_true_eq] at hc
                   try (exfalso; omega)
                   all_goals
                    refine G.skip ?_
                    refine G.thenN ?_
                    refine G.block ?_
                    refine G.seq ?_
                    refine G.region ?_
                    refine G.v (rv_move rfl) rfl ?_
                    refine G.v (rv_move rfl) rfl ?_
                    (refine G.v (rv_addN rfl rfl (by omega)) rfl ?_)
                    refine G.v (rv_conv rfl) rfl ?_
                    refine G.v (rv_shr rfl rfl (by omega)) rfl ?_
                    refine G.v (rv_half (m := (i + j) / 2) rfl rfl (by omega) (by omega)) rfl ?_
                    refine G.v (rv_assign rfl) rfl ?_
                    refine G.done ?_
                    refine G.thenN ?_
                    refine G.seq ?_
                    refine G.drawL [] ?_
                    refine GE.q 0 rfl (by kernel_rfl) rfl (qg_runs (rv_move rfl)) rfl ?_
                    refine GE.q 1 rfl (by kernel_rfl) rfl (qg_runs (rv_move rfl)) rfl ?_
                    refine GE.q 2 rfl (by kernel_rfl) rfl (qg_runs (rv_move rfl)) rfl ?_
                    refine GE.q 3 rfl (by kernel_rfl) rfl (qg_runs (rv_move rfl)) rfl ?_
                    (refine GE.q 4 rfl (by kernel_rfl) rfl (qg_runs (rv_subN rfl rfl (by omega) (by omega))) rfl ?_)
                    (refine GE.q 5 rfl (by kernel_rfl) rfl (qg_runs (rv_indexH rfl rfl (by exact Rd.owned 0 rfl) rfl (by exact ep))) rfl ?_)
                    refine GE.q 6 rfl (by kernel_rfl) rfl (qg_runs (rv_loadE rfl (by exact Rd.owned 0 rfl) (by exact ep) rfl)) rfl ?_
                    refine GE.q 7 rfl (by kernel_rfl) rfl (qg_runs (rv_move rfl)) rfl ?_
                    refine GE.ol 8 (by kernel_rfl) rfl rfl (og_runs (rv_move rfl)) rfl (fun _ _ h => by exact h) (fun _ _ => ?_)
                    (refine GE.ol 9 (by kernel_rfl) rfl rfl (og_runs (rv_indexH rfl rfl (by exact Rd.owned 0 rfl) rfl (by exact eh))) rfl (fun _ _ h => by exact h) (fun _ _ => ?_))
                    refine GE.ol 10 (by kernel_rfl) rfl rfl (og_runs (rv_loadE rfl (by exact Rd.owned 0 rfl) (by exact eh) rfl)) rfl (fun _ _ h => by exact h) (fun _ _ => ?_)
                    refine GE.ol 11 (by kernel_rfl) rfl rfl (og_callV rfl rfl (fun w hh => hcmp w hh.tail _ _ hfp hfh)) rfl (fun _ _ h => by exact h) (fun _ _ => ?_)
                    refine GE.ol 12 (by kernel_rfl) rfl rfl (og_runs (rv_lss rfl rfl)) rfl (fun _ _ h => by exact h) (fun _ _ => ?_)
                    refine GE.ol 13 (by kernel_rfl) rfl rfl (og_runs (rv_not rfl)) rfl (fun _ _ h => by exact h) (fun _ _ => ?_)
                    refine GE.done (by kernel_rfl) ?_
                    refine G.thenN ?_
                    refine G.cond rfl (fun hc => ?_) (fun hc => ?_)
                    · try exact Bool.noConfusion hc
                      all_goals
                       try replace hc := of_decide_eq_true hc
                       try simp only [cmpZ_neg, Bool.not_eq_true', Bool.not_eq_false', decide_eq_false_iff_not, decide_eq_true_eq] at hc
                       try (exfalso; contradiction)
                       all_goals
                        refine G.region ?_
                        refine G.v (rv_move rfl) rfl ?_
                        (refine G.v (rv_incr rfl rfl (by omega)) rfl ?_)
                        refine G.v (rv_assign rfl) rfl ?_
                        refine G.done ?_
                        refine G.inN ?_
                        refine G.backK ((i + j) / 2 + 1, j) 0 rfl (.cons rfl (.cons rfl (.cons rfl (.cons rfl (.cons rfl (.cons rfl (.cons rfl (.cons rfl (.nil))))))))) (⟨rfl, rfl, trivial⟩) ?_ ?_
                        · (exact ⟨by dsimp only; omega, by dsimp only; omega, by dsimp only; omega, .inr hc, hr⟩)
                        · dsimp only; omega
                    · try exact Bool.noConfusion hc
                      all_goals
                       try replace hc := of_decide_eq_false hc
                       try simp only [cmpZ_neg, Bool.not_eq_true', Bool.not_eq_false', decide_eq_false_iff_not, decide_eq_true_eq] at hc
                       try (exfalso; contradiction)
                       all_goals
                        refine G.region ?_
                        refine G.v (rv_move rfl) rfl ?_
                        refine G.v (rv_assign rfl) rfl ?_
                        refine G.done ?_
                        refine G.inN ?_
                        refine G.backK (i, (i + j) / 2) 0 rfl (.cons rfl (.cons rfl (.cons rfl (.cons rfl (.cons rfl (.cons rfl (.cons rfl (.cons rfl (.nil))))))))) (⟨rfl, rfl, trivial⟩) ?_ ?_
                        · (exact ⟨by dsimp only; omega, by dsimp only; omega, by dsimp only; omega, hl, .inr hc⟩)
                        · dsimp only; omega
                · try exact Bool.noConfusion hc
                  all_goals
                   try replace hc := of_decide_eq_false hc
                   try simp only [cmpZ_neg, Bool.not_eq_true', Bool.not_eq_false', decide_eq_false_iff_not, decide_eq_true_eq] at hc
                   try (exfalso; omega)
                   all_goals
                    refine G.exit ?_
                    refine G.thenX ?_
                    refine G.thenX ?_
                    refine G.inX ?_
                    refine G.thenN ?_
                    refine G.seq ?_
                    refine G.region ?_
                    refine G.v (rv_move rfl) rfl ?_
                    refine G.v (rv_move rfl) rfl ?_
                    (refine G.v (rv_subN rfl rfl (by omega) (by omega)) rfl ?_)
                    refine G.v (rv_assign rfl) rfl ?_
                    refine G.done ?_
                    refine G.thenN ?_
                    refine G.seq ?_
                    refine G.seq ?_
                    refine G.region ?_
                    refine G.v (rv_move rfl) rfl ?_
                    refine G.v (rv_move rfl) rfl ?_
                    refine G.v (rv_lss rfl rfl) rfl ?_
                    refine G.v (rv_move rfl) rfl ?_
                    all_goals (((with_reducible refine G.gP rfl rfl (fun hg => ?_) (fun hg => ?_)) <;> (try exact Bool.noConfusion hg) <;> (try (exfalso; (have hq := of_decide_eq_false hg; omega))) <;> (first | (refine G.gY rfl rfl ?_; refine G.v (rv_move rfl) rfl ?_) | refine G.gN rfl rfl rfl ?_)))
                    all_goals ((first | (refine G.gY rfl rfl ?_; refine G.v (rv_move rfl) rfl ?_) | refine G.gN rfl rfl rfl ?_))
                    all_goals ((first | (refine G.gY rfl rfl ?_; refine G.v (rv_lss rfl rfl) rfl ?_) | refine G.gN rfl rfl rfl ?_))
                    all_goals ((first | refine G.v (rv_pickT rfl rfl) rfl ?_ | refine G.v (rv_pickF rfl rfl) rfl ?_))
                    all_goals
                     refine G.done ?_
                     refine G.thenN ?_
                     refine G.cond rfl (fun hc => ?_) (fun hc => ?_)
                     · try exact Bool.noConfusion hc
                       all_goals
                        try replace hc := of_decide_eq_true hc
                        try simp only [cmpZ_neg, Bool.not_eq_true', Bool.not_eq_false', decide_eq_false_iff_not, decide_eq_true_eq] at hc
                        try (exfalso; contradiction)
                        all_goals
                         refine G.region ?_
                         refine G.v (rv_move rfl) rfl ?_
                         refine G.v (rv_move rfl) rfl ?_
                         refine G.v (rv_move rfl) rfl ?_
                         refine G.v (rv_move rfl) rfl ?_
                         refine G.v (rv_move rfl) rfl ?_
                         ((refine G.frontR0 (v) rfl ?_); refine G.op (og_callMM1 rfl rfl rfl (rotate_any (by (have hq := of_decide_eq_true hg; omega)) (by omega) (by omega) hn)) rfl ?_; rintro ⟨⟩ _; try dsimp only)
                         refine G.done ?_
                         refine G.thenN ?_
                         refine G.seq ?_
                         refine G.seq ?_
                         refine G.region ?_
                         refine G.v (rv_move rfl) rfl ?_
                         refine G.v (rv_move rfl) rfl ?_
                         refine G.v (rv_lss rfl rfl) rfl ?_
                         refine G.v (rv_move rfl) rfl ?_
                         all_goals (((with_reducible refine G.gP rfl rfl (fun hg => ?_) (fun hg => ?_)) <;> (try exact Bool.noConfusion hg) <;> (try (exfalso; (have hq := of_decide_eq_false hg; omega))) <;> (first | (refine G.gY rfl rfl ?_; refine G.v (rv_move rfl) rfl ?_) | refine G.gN rfl rfl rfl ?_)))
                         all_goals ((first | (refine G.gY rfl rfl ?_; refine G.v (rv_move rfl) rfl ?_) | refine G.gN rfl rfl rfl ?_))
                         all_goals ((first | (refine G.gY rfl rfl ?_; refine G.v (rv_lss rfl rfl) rfl ?_) | refine G.gN rfl rfl rfl ?_))
                         all_goals ((first | refine G.v (rv_pickT rfl rfl) rfl ?_ | refine G.v (rv_pickF rfl rfl) rfl ?_))
                         all_goals
                          refine G.done ?_
                          refine G.thenN ?_
                          refine G.cond rfl (fun hc => ?_) (fun hc => ?_)
                          · try exact Bool.noConfusion hc
                            all_goals
                             try replace hc := of_decide_eq_true hc
                             try simp only [cmpZ_neg, Bool.not_eq_true', Bool.not_eq_false', decide_eq_false_iff_not, decide_eq_true_eq] at hc
                             try (exfalso; contradiction)
                             all_goals
                              refine G.region ?_
                              refine G.v (rv_move rfl) rfl ?_
                              refine G.v (rv_move rfl) rfl ?_
                              refine G.v (rv_move rfl) rfl ?_
                              refine G.v (rv_move rfl) rfl ?_
                              refine G.v (rv_move rfl) rfl ?_
                              ((refine G.frontR0 (v) rfl ?_); refine G.op (og_callMM1 rfl rfl rfl (ih (by omega) (by (have hq := of_decide_eq_true hg; omega)) (by omega) (by omega) hmid.s1 hmid.s2 hmid.c1 (fun x x1 x2 => hfr.lt hfn x1 (by omega)))) rfl ?_; rintro g1 ⟨hf1, hm1⟩; try dsimp only)
                              refine G.done ?_
                              refine G.thenN ?_
                              refine G.seq ?_
                              refine G.region ?_
                              refine G.v (rv_move rfl) rfl ?_
                              refine G.v (rv_move rfl) rfl ?_
                              refine G.v (rv_lss rfl rfl) rfl ?_
                              refine G.v (rv_move rfl) rfl ?_
                              all_goals (((with_reducible refine G.gP rfl rfl (fun hg => ?_) (fun hg => ?_)) <;> (try exact Bool.noConfusion hg) <;> (try (exfalso; (have hq := of_decide_eq_false hg; omega))) <;> (first | (refine G.gY rfl rfl ?_; refine G.v (rv_move rfl) rfl ?_) | refine G.gN rfl rfl rfl ?_)))
                              all_goals ((first | (refine G.gY rfl rfl ?_; refine G.v (rv_move rfl) rfl ?_) | refine G.gN rfl rfl rfl ?_))
                              all_goals ((first | (refine G.gY rfl rfl ?_; refine G.v (rv_lss rfl rfl) rfl ?_) | refine G.gN rfl rfl rfl ?_))
                              all_goals ((first | refine G.v (rv_pickT rfl rfl) rfl ?_ | refine G.v (rv_pickF rfl rfl) rfl ?_))
                              all_goals
                               refine G.done ?_
                               refine G.thenN ?_
                               refine G.cond rfl (fun hc => ?_) (fun hc => ?_)
                               · try exact Bool.noConfusion hc
                                 all_goals
                                  try replace hc := of_decide_eq_true hc
                                  try simp only [cmpZ_neg, Bool.not_eq_true', Bool.not_eq_false', decide_eq_false_iff_not, decide_eq_true_eq] at hc
                                  try (exfalso; contradiction)
                                  all_goals
                                   have h3 := hf1.srt_hi (Nat.le_refl _) hmid.s3
                                   have h4 := hf1.srt_hi (by omega) hmid.s4
                                   have h5 := hf1.crs_hi (Nat.le_refl _) (by omega) hmid.c2
                                   all_goals
                                    refine G.region ?_
                                    refine G.v (rv_move rfl) rfl ?_
                                    refine G.v (rv_move rfl) rfl ?_
                                    refine G.v (rv_move rfl) rfl ?_
                                    refine G.v (rv_move rfl) rfl ?_
                                    refine G.v (rv_move rfl) rfl ?_
                                    ((refine G.frontR0 (v) rfl ?_); refine G.op (og_callMM1 rfl rfl rfl (ih (by omega) (by (have hq := of_decide_eq_true hg; omega)) (by omega) (by omega) h3 h4 h5 (fun x x1 x2 => by rw [hf1.out x (.inr x1)]; exact hfr.lt hfn (by omega) x2))) rfl ?_; rintro g2 ⟨hf2, hm2⟩; try dsimp only)
                                    refine G.done ?_
                                    exact G.endF0 g2 ⟨hfr.trans ((hf1.mono (Nat.le_refl _) (by omega)).trans (hf2.mono (by omega) (Nat.le_refl _))), srt_join hmid.lr hf1 hm1 hf2 hm2⟩ rfl rfl (fun w hw => hw)
                               · try exact Bool.noConfusion hc
                                 all_goals
                                  try replace hc := of_decide_eq_false hc
                                  try simp only [cmpZ_neg, Bool.not_eq_true', Bool.not_eq_false', decide_eq_false_iff_not, decide_eq_true_eq] at hc
                                  try (exfalso; contradiction)
                                  all_goals
                                   have h3 := hf1.srt_hi (Nat.le_refl _) hmid.s3
                                   have h4 := hf1.srt_hi (by omega) hmid.s4
                                   obtain ⟨g2, hg2⟩ : ∃ y, y = g1 := ⟨_, rfl⟩
                                   have hf2 : Frm ((a + b) / 2) b g1 g2 := hg2 ▸ Frm.refl _ _ _
                                   have hm2 : Srt K ((a + b) / 2) b g2 := hg2 ▸ srt_of h3 h4 (by first | omega | (have hq := of_decide_eq_false hg; omega)) (by omega) (by omega)
                                   refine G.rowEq (rowF n g2) (by rw [hg2]) rfl ?_
                                   all_goals
                                    refine G.skip ?_
                                    exact G.endF0 g2 ⟨hfr.trans ((hf1.mono (Nat.le_refl _) (by omega)).trans (hf2.mono (by omega) (Nat.le_refl _))), srt_join hmid.lr hf1 hm1 hf2 hm2⟩ rfl rfl (fun w hw => hw)
                          · try exact Bool.noConfusion hc
                            all_goals
                             try replace hc := of_decide_eq_false hc
                             try simp only [cmpZ_neg, Bool.not_eq_true', Bool.not_eq_false', decide_eq_false_iff_not, decide_eq_true_eq] at hc
                             try (exfalso; omega)
                             all_goals
                              obtain ⟨g1, hg1⟩ : ∃ y, y = rotF f j m ((a + b) / 2 + m - j) := ⟨_, rfl⟩
                              have hf1 : Frm a ((a + b) / 2) (rotF f j m ((a + b) / 2 + m - j)) g1 := hg1 ▸ Frm.refl _ _ _
                              have hm1 : Srt K a ((a + b) / 2) g1 := hg1 ▸ srt_of hmid.s1 hmid.s2 (by (have hq := of_decide_eq_false hg; omega)) (by omega) (by omega)
                              refine G.rowEq (rowF n g1) (by rw [hg1]) rfl ?_
                              all_goals
                               refine G.skip ?_
                               refine G.thenN ?_
                               refine G.seq ?_
                               refine G.region ?_
                               refine G.v (rv_move rfl) rfl ?_
                               refine G.v (rv_move rfl) rfl ?_
                               refine G.v (rv_lss rfl rfl) rfl ?_
                               refine G.v (rv_move rfl) rfl ?_
                               all_goals (((with_reducible refine G.gP rfl rfl (fun hg => ?_) (fun hg => ?_)) <;> (try exact Bool.noConfusion hg) <;> (try (exfalso; (have hq := of_decide_eq_false hg; omega))) <;> (first | (refine G.gY rfl rfl ?_; refine G.v (rv_move rfl) rfl ?_) | refine G.gN rfl rfl rfl ?_)))
                               all_goals ((first | (refine G.gY rfl rfl ?_; refine G.v (rv_move rfl) rfl ?_) | refine G.gN rfl rfl rfl ?_))
                               all_goals ((first | (refine G.gY rfl rfl ?_; refine G.v (rv_lss rfl rfl) rfl ?_) | refine G.gN rfl rfl rfl ?_))
                               all_goals ((first | refine G.v (rv_pickT rfl rfl) rfl ?_ | refine G.v (rv_pickF rfl rfl) rfl ?_))
                               all_goals
                                refine G.done ?_
                                refine G.thenN ?_
                                refine G.cond rfl (fun hc => ?_) (fun hc => ?_)
                                · try exact Bool.noConfusion hc
                                  all_goals
                                   try replace hc := of_decide_eq_true hc
                                   try simp only [cmpZ_neg, Bool.not_eq_true', Bool.not_eq_false', decide_eq_false_iff_not, decide_eq_true_eq] at hc
                                   try (exfalso; contradiction)
                                   all_goals
                                    have h3 := hf1.srt_hi (Nat.le_refl _) hmid.s3
                                    have h4 := hf1.srt_hi (by omega) hmid.s4
                                    have h5 := hf1.crs_hi (Nat.le_refl _) (by omega) hmid.c2
                                    all_goals
                                     refine G.region ?_
                                     refine G.v (rv_move rfl) rfl ?_
                                     refine G.v (rv_move rfl) rfl ?_
                                     refine G.v (rv_move rfl) rfl ?_
                                     refine G.v (rv_move rfl) rfl ?_
                                     refine G.v (rv_move rfl) rfl ?_
                                     ((refine G.frontR0 (v) rfl ?_); refine G.op (og_callMM1 rfl rfl rfl (ih (by omega) (by (have hq := of_decide_eq_true hg; omega)) (by omega) (by omega) h3 h4 h5 (fun x x1 x2 => by rw [hf1.out x (.inr x1)]; exact hfr.lt hfn (by omega) x2))) rfl ?_; rintro g2 ⟨hf2, hm2⟩; try dsimp only)
                                     refine G.done ?_
                                     exact G.endF0 g2 ⟨hfr.trans ((hf1.mono (Nat.le_refl _) (by omega)).trans (hf2.mono (by omega) (Nat.le_refl _))), srt_join hmid.lr hf1 hm1 hf2 hm2⟩ rfl rfl (fun w hw => hw)
                                · try exact Bool.noConfusion hc
                                  all_goals
                                   try replace hc := of_decide_eq_false hc
                                   try simp only [cmpZ_neg, Bool.not_eq_true', Bool.not_eq_false', decide_eq_false_iff_not, decide_eq_true_eq] at hc
                                   try (exfalso; contradiction)
                                   all_goals
                                    have h3 := hf1.srt_hi (Nat.le_refl _) hmid.s3
                                    have h4 := hf1.srt_hi (by omega) hmid.s4
                                    obtain ⟨g2, hg2⟩ : ∃ y, y = g1 := ⟨_, rfl⟩
                                    have hf2 : Frm ((a + b) / 2) b g1 g2 := hg2 ▸ Frm.refl _ _ _
                                    have hm2 : Srt K ((a + b) / 2) b g2 := hg2 ▸ srt_of h3 h4 (by first | omega | (have hq := of_decide_eq_false hg; omega)) (by omega) (by omega)
                                    refine G.rowEq (rowF n g2) (by rw [hg2]) rfl ?_
                                    all_goals
                                     refine G.skip ?_
                                     exact G.endF0 g2 ⟨hfr.trans ((hf1.mono (Nat.le_refl _) (by omega)).trans (hf2.mono (by omega) (Nat.le_refl _))), srt_join hmid.lr hf1 hm1 hf2 hm2⟩ rfl rfl (fun w hw => hw)
                     · try exact Bool.noConfusion hc
                       all_goals
                        try replace hc := of_decide_eq_false hc
                        try simp only [cmpZ_neg, Bool.not_eq_true', Bool.not_eq_false', decide_eq_false_iff_not, decide_eq_true_eq] at hc
                        try (exfalso; contradiction)
                        all_goals
                         refine G.rowEq (rowF n (rotF f j m ((a + b) / 2 + m - j))) (by rw [rot_id (by omega) (by omega) (by first | omega | (have hq := of_decide_eq_false hg; omega))]) rfl ?_
                         all_goals
                          refine G.skip ?_
                          refine G.thenN ?_
                          refine G.seq ?_
                          refine G.seq ?_
                          refine G.region ?_
                          refine G.v (rv_move rfl) rfl ?_
                          refine G.v (rv_move rfl) rfl ?_
                          refine G.v (rv_lss rfl rfl) rfl ?_
                          refine G.v (rv_move rfl) rfl ?_
                          all_goals (((with_reducible refine G.gP rfl rfl (fun hg => ?_) (fun hg => ?_)) <;> (try exact Bool.noConfusion hg) <;> (try (exfalso; (have hq := of_decide_eq_false hg; omega))) <;> (first | (refine G.gY rfl rfl ?_; refine G.v (rv_move rfl) rfl ?_) | refine G.gN rfl rfl rfl ?_)))
                          all_goals ((first | (refine G.gY rfl rfl ?_; refine G.v (rv_move rfl) rfl ?_) | refine G.gN rfl rfl rfl ?_))
                          all_goals ((first | (refine G.gY rfl rfl ?_; refine G.v (rv_lss rfl rfl) rfl ?_) | refine G.gN rfl rfl rfl ?_))
                          all_goals ((first | refine G.v (rv_pickT rfl rfl) rfl ?_ | refine G.v (rv_pickF rfl rfl) rfl ?_))
                          all_goals
                           refine G.done ?_
                           refine G.thenN ?_
                           refine G.cond rfl (fun hc => ?_) (fun hc => ?_)
                           · try exact Bool.noConfusion hc
                             all_goals
                              try replace hc := of_decide_eq_true hc
                              try simp only [cmpZ_neg, Bool.not_eq_true', Bool.not_eq_false', decide_eq_false_iff_not, decide_eq_true_eq] at hc
                              try (exfalso; omega)
                              all_goals
                               refine G.region ?_
                               refine G.v (rv_move rfl) rfl ?_
                               refine G.v (rv_move rfl) rfl ?_
                               refine G.v (rv_move rfl) rfl ?_
                               refine G.v (rv_move rfl) rfl ?_
                               refine G.v (rv_move rfl) rfl ?_
                               ((refine G.frontR0 (v) rfl ?_); refine G.op (og_callMM1 rfl rfl rfl (ih (by omega) (by (have hq := of_decide_eq_true hg; omega)) (by omega) (by omega) hmid.s1 hmid.s2 hmid.c1 (fun x x1 x2 => hfr.lt hfn x1 (by omega)))) rfl ?_; rintro g1 ⟨hf1, hm1⟩; try dsimp only)
                               refine G.done ?_
                               refine G.thenN ?_
                               refine G.seq ?_
                               refine G.region ?_
                               refine G.v (rv_move rfl) rfl ?_
                               refine G.v (rv_move rfl) rfl ?_
                               refine G.v (rv_lss rfl rfl) rfl ?_
                               refine G.v (rv_move rfl) rfl ?_
                               all_goals (((with_reducible refine G.gP rfl rfl (fun hg => ?_) (fun hg => ?_)) <;> (try exact Bool.noConfusion hg) <;> (try (exfalso; (have hq := of_decide_eq_false hg; omega))) <;> (first | (refine G.gY rfl rfl ?_; refine G.v (rv_move rfl) rfl ?_) | refine G.gN rfl rfl rfl ?_)))
                               all_goals ((first | (refine G.gY rfl rfl ?_; refine G.v (rv_move rfl) rfl ?_) | refine G.gN rfl rfl rfl ?_))
                               all_goals ((first | (refine G.gY rfl rfl ?_; refine G.v (rv_lss rfl rfl) rfl ?_) | refine G.gN rfl rfl rfl ?_))
                               all_goals ((first | refine G.v (rv_pickT rfl rfl) rfl ?_ | refine G.v (rv_pickF rfl rfl) rfl ?_))
                               all_goals
                                refine G.done ?_
                                refine G.thenN ?_
                                refine G.cond rfl (fun hc => ?_) (fun hc => ?_)
                                · try exact Bool.noConfusion hc
                                  all_goals
                                   try replace hc := of_decide_eq_true hc
                                   try simp only [cmpZ_neg, Bool.not_eq_true', Bool.not_eq_false', decide_eq_false_iff_not, decide_eq_true_eq] at hc
                                   try (exfalso; contradiction)
                                   all_goals
                                    have h3 := hf1.srt_hi (Nat.le_refl _) hmid.s3
                                    have h4 := hf1.srt_hi (by omega) hmid.s4
                                    have h5 := hf1.crs_hi (Nat.le_refl _) (by omega) hmid.c2
                                    all_goals
                                     refine G.region ?_
                                     refine G.v (rv_move rfl) rfl ?_
                                     refine G.v (rv_move rfl) rfl ?_
                                     refine G.v (rv_move rfl) rfl ?_
                                     refine G.v (rv_move rfl) rfl ?_
                                     refine G.v (rv_move rfl) rfl ?_
                                     ((refine G.frontR0 (v) rfl ?_); refine G.op (og_callMM1 rfl rfl rfl (ih (by omega) (by (have hq := of_decide_eq_true hg; omega)) (by omega) (by omega) h3 h4 h5 (fun x x1 x2 => by rw [hf1.out x (.inr x1)]; exact hfr.lt hfn (by omega) x2))) rfl ?_; rintro g2 ⟨hf2, hm2⟩; try dsimp only)
                                     refine G.done ?_
                                     exact G.endF0 g2 ⟨hfr.trans ((hf1.mono (Nat.le_refl _) (by omega)).trans (hf2.mono (by omega) (Nat.le_refl _))), srt_join hmid.lr hf1 hm1 hf2 hm2⟩ rfl rfl (fun w hw => hw)
                                · try exact Bool.noConfusion hc
                                  all_goals
                                   try replace hc := of_decide_eq_false hc
                                   try simp only [cmpZ_neg, Bool.not_eq_true', Bool.not_eq_false', decide_eq_false_iff_not, decide_eq_true_eq] at hc
                                   try (exfalso; contradiction)
                                   all_goals
                                    have h3 := hf1.srt_hi (Nat.le_refl _) hmid.s3
                                    have h4 := hf1.srt_hi (by omega) hmid.s4
                                    obtain ⟨g2, hg2⟩ : ∃ y, y = g1 := ⟨_, rfl⟩
                                    have hf2 : Frm ((a + b) / 2) b g1 g2 := hg2 ▸ Frm.refl _ _ _
                                    have hm2 : Srt K ((a + b) / 2) b g2 := hg2 ▸ srt_of h3 h4 (by first | omega | (have hq := of_decide_eq_false hg; omega)) (by omega) (by omega)
                                    refine G.rowEq (rowF n g2) (by rw [hg2]) rfl ?_
                                    all_goals
                                     refine G.skip ?_
                                     exact G.endF0 g2 ⟨hfr.trans ((hf1.mono (Nat.le_refl _) (by omega)).trans (hf2.mono (by omega) (Nat.le_refl _))), srt_join hmid.lr hf1 hm1 hf2 hm2⟩ rfl rfl (fun w hw => hw)
                           · try exact Bool.noConfusion hc
                             all_goals
                              try replace hc := of_decide_eq_false hc
                              try simp only [cmpZ_neg, Bool.not_eq_true', Bool.not_eq_false', decide_eq_false_iff_not, decide_eq_true_eq] at hc
                              try (exfalso; contradiction)
                              all_goals
                               obtain ⟨g1, hg1⟩ : ∃ y, y = rotF f j m ((a + b) / 2 + m - j) := ⟨_, rfl⟩
                               have hf1 : Frm a ((a + b) / 2) (rotF f j m ((a + b) / 2 + m - j)) g1 := hg1 ▸ Frm.refl _ _ _
                               have hm1 : Srt K a ((a + b) / 2) g1 := hg1 ▸ srt_of hmid.s1 hmid.s2 (by first | omega | (have hq := of_decide_eq_false hg; omega)) (by omega) (by omega)
                               refine G.rowEq (rowF n g1) (by rw [hg1]) rfl ?_
                               all_goals
                                refine G.skip ?_
                                refine G.thenN ?_
                                refine G.seq ?_
                                refine G.region ?_
                                refine G.v (rv_move rfl) rfl ?_
                                refine G.v (rv_move rfl) rfl ?_
                                refine G.v (rv_lss rfl rfl) rfl ?_
                                refine G.v (rv_move rfl) rfl ?_
                                all_goals (((with_reducible refine G.gP rfl rfl (fun hg => ?_) (fun hg => ?_)) <;> (try exact Bool.noConfusion hg) <;> (try (exfalso; (have hq := of_decide_eq_true hg; omega); done)) <;> (first | (refine G.gY rfl rfl ?_; refine G.v (rv_move rfl) rfl ?_) | refine G.gN rfl rfl rfl ?_)))
                                all_goals ((first | (refine G.gY rfl rfl ?_; refine G.v (rv_move rfl) rfl ?_) | refine G.gN rfl rfl rfl ?_))
                                all_goals ((first | (refine G.gY rfl rfl ?_; refine G.v (rv_lss rfl rfl) rfl ?_) | refine G.gN rfl rfl rfl ?_))
                                all_goals ((first | refine G.v (rv_pickT rfl rfl) rfl ?_ | refine G.v (rv_pickF rfl rfl) rfl ?_))
                                all_goals
                                 refine G.done ?_
                                 refine G.thenN ?_
                                 refine G.cond rfl (fun hc => ?_) (fun hc => ?_)
                                 · try exact Bool.noConfusion hc
                                   all_goals
                                    try replace hc := of_decide_eq_true hc
                                    try simp only [cmpZ_neg, Bool.not_eq_true', Bool.not_eq_false', decide_eq_false_iff_not, decide_eq_true_eq] at hc
                                    try (exfalso; contradiction)
                                    all_goals
                                     have h3 := hf1.srt_hi (Nat.le_refl _) hmid.s3
                                     have h4 := hf1.srt_hi (by omega) hmid.s4
                                     have h5 := hf1.crs_hi (Nat.le_refl _) (by omega) hmid.c2
                                     all_goals
                                      refine G.region ?_
                                      refine G.v (rv_move rfl) rfl ?_
                                      refine G.v (rv_move rfl) rfl ?_
                                      refine G.v (rv_move rfl) rfl ?_
                                      refine G.v (rv_move rfl) rfl ?_
                                      refine G.v (rv_move rfl) rfl ?_
                                      ((refine G.frontR0 (v) rfl ?_); refine G.op (og_callMM1 rfl rfl rfl (ih (by omega) (by (have hq := of_decide_eq_true hg; omega)) (by omega) (by omega) h3 h4 h5 (fun x x1 x2 => by rw [hf1.out x (.inr x1)]; exact hfr.lt hfn (by omega) x2))) rfl ?_; rintro g2 ⟨hf2, hm2⟩; try dsimp only)
                                      refine G.done ?_
                                      exact G.endF0 g2 ⟨hfr.trans ((hf1.mono (Nat.le_refl _) (by omega)).trans (hf2.mono (by omega) (Nat.le_refl _))), srt_join hmid.lr hf1 hm1 hf2 hm2⟩ rfl rfl (fun w hw => hw)
                                 · try exact Bool.noConfusion hc
                                   all_goals
                                    try replace hc := of_decide_eq_false hc
                                    try simp only [cmpZ_neg, Bool.not_eq_true', Bool.not_eq_false', decide_eq_false_iff_not, decide_eq_true_eq] at hc
                                    try (exfalso; contradiction)
                                    all_goals
                                     have h3 := hf1.srt_hi (Nat.le_refl _) hmid.s3
                                     have h4 := hf1.srt_hi (by omega) hmid.s4
                                     obtain ⟨g2, hg2⟩ : ∃ y, y = g1 := ⟨_, rfl⟩
                                     have hf2 : Frm ((a + b) / 2) b g1 g2 := hg2 ▸ Frm.refl _ _ _
                                     have hm2 : Srt K ((a + b) / 2) b g2 := hg2 ▸ srt_of h3 h4 (by first | omega | (have hq := of_decide_eq_false hg; omega)) (by omega) (by omega)
                                     refine G.rowEq (rowF n g2) (by rw [hg2]) rfl ?_
                                     all_goals
                                      refine G.skip ?_
                                      exact G.endF0 g2 ⟨hfr.trans ((hf1.mono (Nat.le_refl _) (by omega)).trans (hf2.mono (by omega) (Nat.le_refl _))), srt_join hmid.lr hf1 hm1 hf2 hm2⟩ rfl rfl (fun w hw => hw)
end
end Go.Proofs.Yticgeijklhlonaa
