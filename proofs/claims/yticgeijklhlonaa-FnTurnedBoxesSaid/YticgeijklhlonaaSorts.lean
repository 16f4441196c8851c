/-
  The library's stable sort at places, beside a comparison by keys.
-/
import Derived.Test.YticgeijklhlonaaSortM
import Derived.Test.YticgeijklhlonaaSwap
namespace Go.Proofs.Yticgeijklhlonaa
open Go.RowKit
attribute [local irreducible] Go.wpList Go.Code.wp Go.Exit.then Go.Exit.inBlock Go.bodyPost Go.Calls pE pB G RunsV FnV Fn FnM
set_option maxRecDepth 100000
set_option maxHeartbeats 4000000
def cmpZ (x y : Int) : Int := if x < y then -1 else if x > y then 1 else 0
theorem cmpZ_neg {x y : Int} : cmpZ x y < 0 ↔ x < y := by
  unfold cmpZ
  split
  · omega
  · split <;> omega
theorem get_setN {β : Type} {es : List β} {i k : Nat} {x y : β} (h : i ≠ k) (he : es[k]? = some x) : (es.set i y)[k]? = some x := by
  rw [List.getElem?_set_ne h]; exact he
theorem swap_row {n k l : Nat} {f : Nat → Nat} : ((rowF n f).set k (icell (f l : Int))).set l (icell (f k : Int)) = rowF n (upd (upd f k (f l)) l (f k)) := by rw [rowF_set, rowF_set]
theorem row_up {n a k : Nat} {f : Nat → Nat} (h : a ≤ k) : ((rowF n (rotF f a (a + 1) (k + 1))).set k (icell (f (k + 1) : Int))).set (k + 1) (icell (f a : Int)) = rowF n (rotF f a (a + 1) (k + 2)) := by
  have e1 : rotF f a (a + 1) (k + 1) (k + 1) = f (k + 1) := rot_out (by omega) (by omega) (.inr (Nat.le_refl _))
  have e2 : rotF f a (a + 1) (k + 1) k = f a := by
    rw [rot_hi (by omega) (by omega)]; congr 1; omega
  have := rot_up (f := f) h
  rw [e1, e2] at this
  rw [rowF_set, rowF_set, this]
theorem row_dn {n m k : Nat} {f : Nat → Nat} (h : k < m) : ((rowF n (rotF f (k + 1) m (m + 1))).set (k + 1) (icell (f k : Int))).set k (icell (f m : Int)) = rowF n (rotF f k m (m + 1)) := by
  have e1 : rotF f (k + 1) m (m + 1) k = f k := rot_out (by omega) (by omega) (.inl (by omega))
  have e2 : rotF f (k + 1) m (m + 1) (k + 1) = f m := by
    rw [rot_lo (by omega) (by omega)]; congr 1; omega
  have := rot_dn (f := f) h
  rw [e1, e2] at this
  rw [rowF_set, rowF_set, this]
theorem ins_next {K : Nat → Int} {a i j : Nat} {g : Nat → Nat} (hs : Seg K a i g) (hi : g i = i) (ha : a ≤ j) (hj : j ≤ i) (hl : j = a ∨ ¬ K (g i) < K (g (j - 1))) (hr : j = i ∨ K (g i) < K (g j)) : Seg K a (i + 1) (rotF g j i (i + 1)) := by
  refine ⟨put_right hs.1 (fun l k l1 l2 k1 k2 _ => ?_) ha hj hl hr, fun l l1 l2 => ?_⟩
  · have := hs.2 l l1 l2
    obtain rfl : k = i := by omega
    omega
  · obtain ⟨z, z1, z2, z3⟩ := (rot_frm (f := g) hj (by omega : i ≤ i + 1)).mono ha (Nat.le_refl _) |>.src l l1 l2
    rw [z3]
    by_cases c : z = i
    · subst c; omega
    · have := hs.2 z z1 (by omega); omega
section
variable {w0 : World} {F : List Ch} {v u : Value} {n : Nat}

theorem swapRange_any {f : Nat → Nat} {a b k : Nat} (h1 : a + k ≤ b) (h2 : b + k ≤ n) (hn : n ≤ 1048576) :
    FnMF Try.prog 148 [v, .int .i64 (a : Int), .int .i64 (b : Int), .int .i64 (k : Int), u] w0 [.row v 3 1 (rowF n f)] F (fun _ : Unit => True) (fun _ => .tuple #[]) (fun _ => [.row v 3 1 (rowF n (swapF f a b k))]) := by
  refine FnMF.of (n := 38) Try.func148 rfl rfl ?_
  refine G.seq ?_
  refine G.region ?_
  refine G.v (rv_assign rfl) rfl ?_
  refine G.done ?_
  refine G.thenN ?_
  refine G.block ?_
  -- loop 0: turned [10], kept [0, 1, 2, 3]
  refine G.rowEq (rowF n (swapF f a b 0)) (by rw [swapF_zero]) rfl ?_
  refine G.loopK (ι := Nat) (ks := [0, 1, 2, 3]) (fun i => [(10, .int .i64 (i : Int))]) (fun i => [.row v 3 1 (rowF n (swapF f a b i))]) (fun i => i ≤ k) (fun i => k - i) 0 (.cons rfl (.cons rfl (.cons rfl (.cons rfl (.nil))))) rfl ?_ ?_ ?_
  · exact Nat.zero_le _
  · exact ⟨rfl, trivial⟩
  rintro i hi
  by_cases hlt : i < k
  case' pos => (have e1 : (rowF n (swapF f a b i))[a + i]? = some (icell (swapF f a b i (a + i) : Int)) := rowF_get (by omega); have e2 : (rowF n (swapF f a b i))[b + i]? = some (icell (swapF f a b i (b + i) : Int)) := rowF_get (by omega))
  all_goals
   refine G.seq ?_
   refine G.seq ?_
   refine G.region ?_
   refine G.v (rv_move rfl) rfl ?_
   refine G.v (rv_move rfl) rfl ?_
   refine G.v (rv_lss rfl rfl) rfl ?_
   refine G.done ?_
   refine G.thenN ?_
   refine G.cond rfl (fun hc => ?_) (fun hc => ?_)
   · try exact Bool.noConfusion hc
     all_goals
      try replace hc := of_decide_eq_true hc
      try (exfalso; omega)
      all_goals
       refine G.skip ?_
       refine G.thenN ?_
       refine G.seq ?_
       refine G.block ?_
       refine G.drawS [21, 23] rfl ?_
       refine GS.p 0 rfl (by kernel_rfl) (qg_runs (rv_move rfl)) (fun _ h => h.drop 1) rfl ?_
       refine GS.p 1 rfl (by kernel_rfl) (qg_runs (rv_move rfl)) (fun _ h => h.drop 1) rfl ?_
       refine GS.p 2 rfl (by kernel_rfl) (qg_runs (rv_move rfl)) (fun _ h => h.drop 1) rfl ?_
       (refine GS.p 3 rfl (by kernel_rfl) (qg_runs (rv_addN rfl rfl (by omega))) (fun _ h => h.drop 1) rfl ?_)
       refine GS.p 4 rfl (by kernel_rfl) (qg_runs (rv_move rfl)) (fun _ h => h.drop 1) rfl ?_
       refine GS.p 5 rfl (by kernel_rfl) (qg_runs (rv_move rfl)) (fun _ h => h.drop 1) rfl ?_
       refine GS.p 6 rfl (by kernel_rfl) (qg_runs (rv_move rfl)) (fun _ h => h.drop 1) rfl ?_
       (refine GS.p 7 rfl (by kernel_rfl) (qg_runs (rv_addN rfl rfl (by omega))) (fun _ h => h.drop 1) rfl ?_)
       refine GS.p 8 rfl (by kernel_rfl) (qg_runs (rv_move rfl)) (fun _ h => h.drop 1) rfl ?_
       refine GS.p 9 rfl (by kernel_rfl) (qg_runs (rv_move rfl)) (fun _ h => h.drop 1) rfl ?_
       refine GS.p 10 rfl (by kernel_rfl) (qg_runs (rv_move rfl)) (fun _ h => h.drop 1) rfl ?_
       (refine GS.p 11 rfl (by kernel_rfl) (qg_runs (rv_addN rfl rfl (by omega))) (fun _ h => h.drop 1) rfl ?_)
       (refine GS.q 12 [13, 20, 21, 22, 23] rfl (by kernel_rfl) (by kernel_rfl) (qg_runs (rv_indexH rfl rfl (by exact Rd.owned 0 rfl) rfl (by exact e2))) rfl ?_)
       refine GS.q 13 [20, 21, 22, 23] rfl (by kernel_rfl) (by kernel_rfl) (qg_runs (rv_loadE rfl (by exact Rd.owned 0 rfl) (by exact e2) rfl)) rfl ?_
       refine GS.p 14 rfl (by kernel_rfl) (qg_runs (rv_move rfl)) (fun _ h => h.drop 1) rfl ?_
       refine GS.p 15 rfl (by kernel_rfl) (qg_runs (rv_move rfl)) (fun _ h => h.drop 1) rfl ?_
       refine GS.p 16 rfl (by kernel_rfl) (qg_runs (rv_move rfl)) (fun _ h => h.drop 1) rfl ?_
       (refine GS.p 17 rfl (by kernel_rfl) (qg_runs (rv_addN rfl rfl (by omega))) (fun _ h => h.drop 1) rfl ?_)
       (refine GS.q 18 [19, 20, 21, 22, 23] rfl (by kernel_rfl) (by kernel_rfl) (qg_runs (rv_indexH rfl rfl (by exact Rd.owned 0 rfl) rfl (by exact e1))) rfl ?_)
       refine GS.q 19 [20, 21, 22, 23] rfl (by kernel_rfl) (by kernel_rfl) (qg_runs (rv_loadE rfl (by exact Rd.owned 0 rfl) (by exact e1) rfl)) rfl ?_
       (refine GS.q 20 [21, 22, 23] rfl (by kernel_rfl) (by kernel_rfl) (qg_runs (rv_indexH rfl rfl (by exact Rd.owned 0 rfl) rfl (by exact e1))) rfl ?_)
       refine GS.o0 21 (by kernel_rfl) rfl rfl (og_stE0 rfl rfl rfl (by exact e1) rfl rfl rfl rfl (.zero (.cons .nil))) (fun _ _ h => h.drop 1) (fun _ _ => ?_)
       (refine GS.q 22 [23] rfl (by kernel_rfl) (by kernel_rfl) (qg_runs (rv_indexH rfl rfl (by exact Rd.owned 0 rfl) rfl (by exact get_setN (by omega) e2))) rfl ?_)
       refine GS.o0 23 (by kernel_rfl) rfl rfl (og_stE0 rfl rfl rfl (by exact get_setN (by omega) e2) rfl rfl rfl rfl (.zero (.cons .nil))) (fun _ _ h => h.drop 1) (fun _ _ => ?_)
       refine GS.done (by kernel_rfl) ?_
       refine G.inN ?_
       refine G.thenN ?_
       refine G.region ?_
       refine G.v (rv_move rfl) rfl ?_
       (refine G.v (rv_incr rfl rfl (by omega)) rfl ?_)
       refine G.v (rv_assign rfl) rfl ?_
       refine G.done ?_
       refine G.backK (i + 1) 0 (one_eq (congrArg (fun z => Ch.row v 3 1 z) (swap_row.trans (congrArg (rowF n) (swapF_next (by omega)))))) (.cons rfl (.cons rfl (.cons rfl (.cons rfl (.nil))))) ?_ ?_ ?_
       · exact ⟨rfl, trivial⟩
       · exact hlt
       · omega
   · try exact Bool.noConfusion hc
     all_goals
      try replace hc := of_decide_eq_false hc
      try (exfalso; omega)
      all_goals
       refine G.exit ?_
       refine G.thenX ?_
       refine G.thenX ?_
       refine G.inX ?_
       exact G.endF0 () trivial rfl rfl (fun w hw => by obtain rfl : i = k := (by omega); exact hw)
theorem rotate_any {f : Nat → Nat} {a m b : Nat} (h1 : a < m) (h2 : m < b) (h3 : b ≤ n) (hn : n ≤ 1048576) :
    FnMF Try.prog 147 [v, .int .i64 (a : Int), .int .i64 (m : Int), .int .i64 (b : Int), u] w0 [.row v 3 1 (rowF n f)] F (fun _ : Unit => True) (fun _ => .tuple #[]) (fun _ => [.row v 3 1 (rowF n (rotF f a m b))]) := by
  refine FnMF.of (n := 58) Try.func147 rfl rfl ?_
  refine G.seq ?_
  refine G.region ?_
  refine G.v (rv_move rfl) rfl ?_
  refine G.v (rv_move rfl) rfl ?_
  (refine G.v (rv_subN rfl rfl (by omega) (by omega)) rfl ?_)
  refine G.v (rv_assign rfl) rfl ?_
  refine G.done ?_
  refine G.thenN ?_
  refine G.seq ?_
  refine G.region ?_
  refine G.v (rv_move rfl) rfl ?_
  refine G.v (rv_move rfl) rfl ?_
  (refine G.v (rv_subN rfl rfl (by omega) (by omega)) rfl ?_)
  refine G.v (rv_assign rfl) rfl ?_
  refine G.done ?_
  refine G.thenN ?_
  refine G.seq ?_
  refine G.block ?_
  -- loop 0: turned [10, 11], kept [0, 2, 4]
  refine G.loopK (ι := Nat × Nat × (Nat → Nat)) (ks := [0, 2, 4]) (fun x => [(10, .int .i64 (x.1 : Int)), (11, .int .i64 (x.2.1 : Int))]) (fun x => [.row v 3 1 (rowF n x.2.2)]) (fun x => 0 < x.1 ∧ 0 < x.2.1 ∧ x.1 ≤ m ∧ m + x.2.1 ≤ b ∧ rotF x.2.2 (m - x.1) m (m + x.2.1) = rotF f a m b) (fun x => x.1 + x.2.1) (m - a, b - m, f) (.cons rfl (.cons rfl (.cons rfl (.nil)))) rfl ?_ ?_ ?_
  · exact ⟨by dsimp only; omega, by dsimp only; omega, by dsimp only; omega, by dsimp only; omega, by dsimp only; rw [show m - (m - a) = a from by omega, show m + (b - m) = b from by omega]⟩
  · exact ⟨rfl, rfl, trivial⟩
  rintro ⟨i, j, g⟩ ⟨hi, hj, him, hjb, hg2⟩
  dsimp only at hi hj him hjb hg2 ⊢
  all_goals
   refine G.seq ?_
   refine G.seq ?_
   refine G.region ?_
   refine G.v (rv_move rfl) rfl ?_
   refine G.v (rv_move rfl) rfl ?_
   refine G.v (rv_neq rfl rfl) rfl ?_
   refine G.done ?_
   refine G.thenN ?_
   refine G.cond rfl (fun hc => ?_) (fun hc => ?_)
   · try exact Bool.noConfusion hc
     all_goals
      try replace hc := of_decide_eq_true hc
      try (exfalso; contradiction)
      all_goals
       refine G.skip ?_
       refine G.thenN ?_
       refine G.block ?_
       refine G.seq ?_
       refine G.region ?_
       refine G.v (rv_move rfl) rfl ?_
       refine G.v (rv_move rfl) rfl ?_
       refine G.v (rv_gtr rfl rfl) rfl ?_
       refine G.done ?_
       refine G.thenN ?_
       refine G.cond rfl (fun hc => ?_) (fun hc => ?_)
       · try exact Bool.noConfusion hc
         all_goals
          try replace hc := of_decide_eq_true hc
          try (exfalso; contradiction)
          all_goals
           refine G.seq ?_
           refine G.region ?_
           refine G.v (rv_move rfl) rfl ?_
           refine G.v (rv_move rfl) rfl ?_
           refine G.v (rv_move rfl) rfl ?_
           (refine G.v (rv_subN rfl rfl (by omega) (by omega)) rfl ?_)
           refine G.v (rv_move rfl) rfl ?_
           refine G.v (rv_move rfl) rfl ?_
           refine G.v (rv_move rfl) rfl ?_
           ((refine G.frontR0 (v) rfl ?_); refine G.op (og_callMM1 rfl rfl rfl (swapRange_any (by omega) (by omega) hn)) rfl ?_; rintro ⟨⟩ _; try dsimp only)
           refine G.done ?_
           refine G.thenN ?_
           refine G.region ?_
           refine G.v (rv_move rfl) rfl ?_
           refine G.v (rv_move rfl) rfl ?_
           (refine G.v (rv_subN rfl rfl (by omega) (by omega)) rfl ?_)
           refine G.v (rv_assign rfl) rfl ?_
           refine G.done ?_
           refine G.inN ?_
           refine G.backK (i - j, j, swapF g (m - i) m j) 0 rfl (.cons rfl (.cons rfl (.cons rfl (.nil)))) ?_ ?_ ?_
           · exact ⟨rfl, rfl, trivial⟩
           · (exact ⟨by dsimp only; omega, by dsimp only; omega, by dsimp only; omega, by dsimp only; omega, by dsimp only; rw [rot_big (by omega) (by omega)]; exact hg2⟩)
           · dsimp only; omega
       · try exact Bool.noConfusion hc
         all_goals
          try replace hc := of_decide_eq_false hc
          try (exfalso; contradiction)
          all_goals
           refine G.seq ?_
           refine G.region ?_
           refine G.v (rv_move rfl) rfl ?_
           refine G.v (rv_move rfl) rfl ?_
           refine G.v (rv_move rfl) rfl ?_
           (refine G.v (rv_subN rfl rfl (by omega) (by omega)) rfl ?_)
           refine G.v (rv_move rfl) rfl ?_
           refine G.v (rv_move rfl) rfl ?_
           (refine G.v (rv_addN rfl rfl (by omega)) rfl ?_)
           refine G.v (rv_move rfl) rfl ?_
           (refine G.v (rv_subN rfl rfl (by omega) (by omega)) rfl ?_)
           refine G.v (rv_move rfl) rfl ?_
           refine G.v (rv_move rfl) rfl ?_
           ((refine G.frontR0 (v) rfl ?_); refine G.op (og_callMM1 rfl rfl rfl (swapRange_any (by omega) (by omega) hn)) rfl ?_; rintro ⟨⟩ _; try dsimp only)
           refine G.done ?_
           refine G.thenN ?_
           refine G.region ?_
           refine G.v (rv_move rfl) rfl ?_
           refine G.v (rv_move rfl) rfl ?_
           (refine G.v (rv_subN rfl rfl (by omega) (by omega)) rfl ?_)
           refine G.v (rv_assign rfl) rfl ?_
           refine G.done ?_
           refine G.inN ?_
           refine G.backK (i, j - i, swapF g (m - i) (m + j - i) i) 0 rfl (.cons rfl (.cons rfl (.cons rfl (.nil)))) ?_ ?_ ?_
           · exact ⟨rfl, rfl, trivial⟩
           · (exact ⟨by dsimp only; omega, by dsimp only; omega, by dsimp only; omega, by dsimp only; omega, by dsimp only; rw [rot_small (by omega) (by omega)]; exact hg2⟩)
           · dsimp only; omega
   · try exact Bool.noConfusion hc
     all_goals
      try replace hc := of_decide_eq_false hc
      try (exfalso; contradiction)
      all_goals
       refine G.exit ?_
       refine G.thenX ?_
       refine G.thenX ?_
       refine G.inX ?_
       refine G.thenN ?_
       refine G.region ?_
       refine G.v (rv_move rfl) rfl ?_
       refine G.v (rv_move rfl) rfl ?_
       refine G.v (rv_move rfl) rfl ?_
       (refine G.v (rv_subN rfl rfl (by omega) (by omega)) rfl ?_)
       refine G.v (rv_move rfl) rfl ?_
       refine G.v (rv_move rfl) rfl ?_
       refine G.v (rv_move rfl) rfl ?_
       ((refine G.frontR0 (v) rfl ?_); refine G.op (og_callMM1 rfl rfl rfl (swapRange_any (by omega) (by omega) hn)) rfl ?_; rintro ⟨⟩ _; try dsimp only)
       refine G.done ?_
       exact G.endF0 () trivial rfl rfl (fun w hw => by obtain rfl : i = j := (by omega); rw [rot_eq him, hg2] at hw; exact hw)
variable {g : Nat} [FnOk Try.prog g] {caps : List Value} {K : Nat → Int} {N : Nat}
theorem insertion_any {f : Nat → Nat} {a b : Nat} (hcmp : ∀ w, HeapOk w0 w F → ∀ i j : Nat, i < n → j < n → FnV Try.prog g ([.int .i64 (i : Int), .int .i64 (j : Int)] ++ caps) w (.int .i64 (cmpZ (K i) (K j)))) (h1 : a ≤ b) (h2 : b ≤ n) (hn : n ≤ 1048576) (hid : ∀ j, a ≤ j → j < b → f j = j) :
    FnMF Try.prog 145 [v, .int .i64 (a : Int), .int .i64 (b : Int), .func (.func g) #[] caps.toArray] w0 [.row v 3 1 (rowF n f)] F (fun f' : Nat → Nat => (∀ j, j < a ∨ b ≤ j → f' j = f j) ∧ Seg K a b f') (fun _ => .tuple #[]) (fun f' => [.row v 3 1 (rowF n f')]) := by
  refine FnMF.of (n := 53) Try.func145 rfl rfl ?_
  refine G.seq ?_
  refine G.region ?_
  refine G.v (rv_move rfl) rfl ?_
  (refine G.v (rv_incr rfl rfl (by omega)) rfl ?_)
  refine G.v (rv_assign rfl) rfl ?_
  refine G.done ?_
  refine G.thenN ?_
  refine G.block ?_
  -- loop 0: turned [8], kept [0, 1, 2, 3]
  refine G.loopK (ι := Nat × (Nat → Nat)) (ks := [0, 1, 2, 3]) (fun x => [(8, .int .i64 (x.1 : Int))]) (fun x => [.row v 3 1 (rowF n x.2)]) (fun x => a + 1 ≤ x.1 ∧ x.1 ≤ b + 1 ∧ (∀ j, j < a ∨ b ≤ j ∨ x.1 ≤ j → x.2 j = f j) ∧ Seg K a (min x.1 b) x.2) (fun x => b - x.1) (a + 1, f) (.cons rfl (.cons rfl (.cons rfl (.cons rfl (.nil))))) rfl ?_ ?_ ?_
  · exact ⟨Nat.le_refl _, by dsimp only; omega, fun _ _ => rfl, fun j k _ _ _ => by omega, fun j j1 j2 => by dsimp only at j2 ⊢; rw [hid j j1 (by omega)]; omega⟩
  · exact ⟨rfl, trivial⟩
  rintro ⟨i, g0⟩ ⟨hai, hib, hout, hseg⟩
  dsimp only at hai hib hout hseg ⊢
  by_cases hlt : i < b
  case' pos => (have hgi0 : g0 i = i := (hout i (.inr (.inr (Nat.le_refl _)))).trans (hid i (by omega) hlt); rw [Nat.min_eq_left (by omega)] at hseg; have hgi : g0 i < n := (by omega))
  all_goals
   refine G.seq ?_
   refine G.seq ?_
   refine G.region ?_
   refine G.v (rv_move rfl) rfl ?_
   refine G.v (rv_move rfl) rfl ?_
   refine G.v (rv_lss rfl rfl) rfl ?_
   refine G.done ?_
   refine G.thenN ?_
   refine G.cond rfl (fun hc => ?_) (fun hc => ?_)
   · try exact Bool.noConfusion hc
     all_goals
      try replace hc := of_decide_eq_true hc
      try simp only [cmpZ_neg] at hc
      try (exfalso; omega)
      all_goals
       refine G.skip ?_
       refine G.thenN ?_
       refine G.seq ?_
       refine G.block ?_
       refine G.seq ?_
       refine G.region ?_
       refine G.v (rv_move rfl) rfl ?_
       refine G.v (rv_assign rfl) rfl ?_
       refine G.done ?_
       refine G.thenN ?_
       refine G.block ?_
       -- loop 1: turned [9], kept [0, 1, 2, 3, 8]
       refine G.rowEq (rowF n (rotF g0 i i (i + 1))) (by rw [rot_id (Nat.le_refl _) (by omega) (.inl rfl)]) rfl ?_
       refine G.loopK (ι := Nat) (ks := [0, 1, 2, 3, 8]) (fun j => [(9, .int .i64 (j : Int))]) (fun j => [.row v 3 1 (rowF n (rotF g0 j i (i + 1)))]) (fun j => a ≤ j ∧ j ≤ i ∧ (j = i ∨ K (g0 i) < K (g0 j))) (fun j => j) i (.cons rfl (.cons rfl (.cons rfl (.cons rfl (.cons rfl (.nil)))))) rfl ?_ ?_ ?_
       · exact ⟨by omega, Nat.le_refl _, .inl rfl⟩
       · exact ⟨rfl, trivial⟩
       rintro j ⟨haj, hji, hjr⟩
       have e1 : (rowF n (rotF g0 j i (i + 1)))[j]? = some (icell (g0 i : Int)) := by rw [rowF_get (by omega), rot_lo (Nat.le_refl _) (by omega)]; congr 4; omega
       have e2 : a < j → (rowF n (rotF g0 j i (i + 1)))[j - 1]? = some (icell (g0 (j - 1) : Int)) := fun h => by rw [rowF_get (by omega), rot_out hji (by omega) (.inl (by omega))]
       have hgj : a < j → g0 (j - 1) < n := fun h => by (have := hseg.2 (j - 1) (by omega) (by omega); omega)
       by_cases hja : a < j
       case' pos => (replace e2 := e2 hja; replace hgj := hgj hja)
       all_goals
        refine G.seq ?_
        refine G.seq ?_
        refine G.drawL [] ?_
        refine GE.q 0 rfl (by kernel_rfl) rfl (qg_runs (rv_move rfl)) rfl ?_
        refine GE.ol 1 (by kernel_rfl) rfl rfl (og_runs (rv_move rfl)) rfl (fun _ _ h => by exact h) (fun _ _ => ?_)
        refine GE.ol 2 (by kernel_rfl) rfl rfl (og_runs (rv_gtr rfl rfl)) rfl (fun _ _ h => by exact h) (fun _ _ => ?_)
        refine GE.ol 3 (by kernel_rfl) rfl rfl (og_runs (rv_move rfl)) rfl (fun _ _ h => by exact h) (fun _ _ => ?_)
        all_goals (((with_reducible refine GE.part (t := 21) rfl (fun hg => ?_) (fun hg => ?_)) <;> (try exact Bool.noConfusion hg) <;> (try (exfalso; first | (have hq := of_decide_eq_false hg; omega) | (have hq := of_decide_eq_true hg; omega); done)) <;> (first | refine GE.q 4 rfl (by kernel_rfl) rfl (qg_runs (rv_move rfl)) rfl ?_ | refine GE.qn 4 rfl (by kernel_rfl) rfl rfl ?_)))
        all_goals ((first | refine GE.q 5 rfl (by kernel_rfl) rfl (qg_runs (rv_move rfl)) rfl ?_ | refine GE.qn 5 rfl (by kernel_rfl) rfl rfl ?_))
        all_goals ((first | refine GE.q 6 rfl (by kernel_rfl) rfl (qg_runs (rv_move rfl)) rfl ?_ | refine GE.qn 6 rfl (by kernel_rfl) rfl rfl ?_))
        all_goals ((first | (refine GE.q 7 rfl (by kernel_rfl) rfl (qg_runs (rv_indexH rfl rfl (by exact Rd.owned 0 rfl) rfl (by exact e1))) rfl ?_) | refine GE.qn 7 rfl (by kernel_rfl) rfl rfl ?_))
        all_goals ((first | refine GE.q 8 rfl (by kernel_rfl) rfl (qg_runs (rv_loadE rfl (by exact Rd.owned 0 rfl) (by exact e1) rfl)) rfl ?_ | refine GE.qn 8 rfl (by kernel_rfl) rfl rfl ?_))
        all_goals ((first | refine GE.q 9 rfl (by kernel_rfl) rfl (qg_runs (rv_move rfl)) rfl ?_ | refine GE.qn 9 rfl (by kernel_rfl) rfl rfl ?_))
        all_goals ((first | refine GE.q 10 rfl (by kernel_rfl) rfl (qg_runs (rv_move rfl)) rfl ?_ | refine GE.qn 10 rfl (by kernel_rfl) rfl rfl ?_))
        all_goals ((first | (refine GE.q 11 rfl (by kernel_rfl) rfl (qg_runs (rv_decr rfl rfl (by omega) (by omega))) rfl ?_) | refine GE.qn 11 rfl (by kernel_rfl) rfl rfl ?_))
        all_goals ((first | (refine GE.q 12 rfl (by kernel_rfl) rfl (qg_runs (rv_indexH rfl rfl (by exact Rd.owned 0 rfl) rfl (by exact e2))) rfl ?_) | refine GE.qn 12 rfl (by kernel_rfl) rfl rfl ?_))
        all_goals ((first | refine GE.q 13 rfl (by kernel_rfl) rfl (qg_runs (rv_loadE rfl (by exact Rd.owned 0 rfl) (by first | exact e1 | exact e2) rfl)) rfl ?_ | refine GE.qn 13 rfl (by kernel_rfl) rfl rfl ?_))
        all_goals ((first | refine GE.q 14 rfl (by kernel_rfl) rfl (qg_call rfl rfl (fun w hh => hcmp w hh.tail _ _ hgi (by exact hgj))) rfl ?_ | refine GE.qn 14 rfl (by kernel_rfl) rfl rfl ?_))
        all_goals ((first | refine GE.q 15 rfl (by kernel_rfl) rfl (qg_runs (rv_lss rfl rfl)) rfl ?_ | refine GE.qn 15 rfl (by kernel_rfl) rfl rfl ?_))
        all_goals ((first | refine GE.ol 16 (by kernel_rfl) rfl rfl (og_runs (rv_pickT rfl rfl)) rfl (fun _ _ h => by exact h) (fun _ _ => ?_) | refine GE.ol 16 (by kernel_rfl) rfl rfl (og_runs (rv_pickF rfl rfl)) rfl (fun _ _ h => by exact h) (fun _ _ => ?_)))
        all_goals
         refine GE.done (by kernel_rfl) ?_
         refine G.thenN ?_
         refine G.cond rfl (fun hc => ?_) (fun hc => ?_)
         · try exact Bool.noConfusion hc
           all_goals
            try replace hc := of_decide_eq_true hc
            try simp only [cmpZ_neg] at hc
            try (exfalso; contradiction)
            all_goals
             refine G.skip ?_
             refine G.thenN ?_
             refine G.seq ?_
             refine G.block ?_
             refine G.drawS [15, 17] rfl ?_
             refine GS.p 0 rfl (by kernel_rfl) (qg_runs (rv_move rfl)) (fun _ h => h.drop 1) rfl ?_
             refine GS.p 1 rfl (by kernel_rfl) (qg_runs (rv_move rfl)) (fun _ h => h.drop 1) rfl ?_
             refine GS.p 2 rfl (by kernel_rfl) (qg_runs (rv_move rfl)) (fun _ h => h.drop 1) rfl ?_
             refine GS.p 3 rfl (by kernel_rfl) (qg_runs (rv_move rfl)) (fun _ h => h.drop 1) rfl ?_
             (refine GS.p 4 rfl (by kernel_rfl) (qg_runs (rv_decr rfl rfl (by omega) (by omega))) (fun _ h => h.drop 1) rfl ?_)
             refine GS.p 5 rfl (by kernel_rfl) (qg_runs (rv_move rfl)) (fun _ h => h.drop 1) rfl ?_
             refine GS.p 6 rfl (by kernel_rfl) (qg_runs (rv_move rfl)) (fun _ h => h.drop 1) rfl ?_
             (refine GS.p 7 rfl (by kernel_rfl) (qg_runs (rv_decr rfl rfl (by omega) (by omega))) (fun _ h => h.drop 1) rfl ?_)
             (refine GS.q 8 [9, 14, 15, 16, 17] rfl (by kernel_rfl) (by kernel_rfl) (qg_runs (rv_indexH rfl rfl (by exact Rd.owned 0 rfl) rfl (by exact e2))) rfl ?_)
             refine GS.q 9 [14, 15, 16, 17] rfl (by kernel_rfl) (by kernel_rfl) (qg_runs (rv_loadE rfl (by exact Rd.owned 0 rfl) (by exact e2) rfl)) rfl ?_
             refine GS.p 10 rfl (by kernel_rfl) (qg_runs (rv_move rfl)) (fun _ h => h.drop 1) rfl ?_
             refine GS.p 11 rfl (by kernel_rfl) (qg_runs (rv_move rfl)) (fun _ h => h.drop 1) rfl ?_
             (refine GS.q 12 [13, 14, 15, 16, 17] rfl (by kernel_rfl) (by kernel_rfl) (qg_runs (rv_indexH rfl rfl (by exact Rd.owned 0 rfl) rfl (by exact e1))) rfl ?_)
             refine GS.q 13 [14, 15, 16, 17] rfl (by kernel_rfl) (by kernel_rfl) (qg_runs (rv_loadE rfl (by exact Rd.owned 0 rfl) (by exact e1) rfl)) rfl ?_
             (refine GS.q 14 [15, 16, 17] rfl (by kernel_rfl) (by kernel_rfl) (qg_runs (rv_indexH rfl rfl (by exact Rd.owned 0 rfl) rfl (by exact e1))) rfl ?_)
             refine GS.o0 15 (by kernel_rfl) rfl rfl (og_stE0 rfl rfl rfl (by exact e1) rfl rfl rfl rfl (.zero (.cons .nil))) (fun _ _ h => h.drop 1) (fun _ _ => ?_)
             (refine GS.q 16 [17] rfl (by kernel_rfl) (by kernel_rfl) (qg_runs (rv_indexH rfl rfl (by exact Rd.owned 0 rfl) rfl (by exact get_setN (by omega) e2))) rfl ?_)
             refine GS.o0 17 (by kernel_rfl) rfl rfl (og_stE0 rfl rfl rfl (by exact get_setN (by omega) e2) rfl rfl rfl rfl (.zero (.cons .nil))) (fun _ _ h => h.drop 1) (fun _ _ => ?_)
             refine GS.done (by kernel_rfl) ?_
             refine G.inN ?_
             refine G.thenN ?_
             refine G.region ?_
             refine G.v (rv_move rfl) rfl ?_
             (refine G.v (rv_decr rfl rfl (by omega) (by omega)) rfl ?_)
             refine G.v (rv_assign rfl) rfl ?_
             refine G.done ?_
             (refine G.backK (j - 1) 0 (one_eq (congrArg (fun z => Ch.row v 3 1 z) (by obtain ⟨q, rfl⟩ : ∃ q, j = q + 1 := ⟨j - 1, by omega⟩; exact row_dn (by omega)))) (.cons rfl (.cons rfl (.cons rfl (.cons rfl (.cons rfl (.nil)))))) ?_ ?_ ?_)
             · exact ⟨rfl, trivial⟩
             · exact ⟨by omega, by omega, .inr hc⟩
             · omega
         · try exact Bool.noConfusion hc
           all_goals
            try replace hc := of_decide_eq_false hc
            try simp only [cmpZ_neg] at hc
            try (exfalso; contradiction)
            all_goals
             refine G.exit ?_
             refine G.thenX ?_
             refine G.thenX ?_
             refine G.inX ?_
             refine G.inN ?_
             refine G.thenN ?_
             refine G.region ?_
             refine G.v (rv_move rfl) rfl ?_
             (refine G.v (rv_incr rfl rfl (by omega)) rfl ?_)
             refine G.v (rv_assign rfl) rfl ?_
             refine G.done ?_
             refine G.backK (i + 1, rotF g0 j i (i + 1)) 0 rfl (.cons rfl (.cons rfl (.cons rfl (.cons rfl (.nil))))) ?_ ?_ ?_
             · exact ⟨rfl, trivial⟩
             · refine ⟨by dsimp only; omega, by dsimp only; omega, fun l hl => ?_, ?_⟩
               · dsimp only at hl ⊢; rw [rot_out hji (by omega) (by omega)]; exact hout l (by omega)
               · dsimp only; rw [Nat.min_eq_left (by omega)]; exact ins_next hseg hgi0 haj hji (by first | exact .inl (by omega) | exact .inr hc) hjr
             · dsimp only; omega
   · try exact Bool.noConfusion hc
     all_goals
      try replace hc := of_decide_eq_false hc
      try simp only [cmpZ_neg] at hc
      try (exfalso; omega)
      all_goals
       refine G.exit ?_
       refine G.thenX ?_
       refine G.thenX ?_
       refine G.inX ?_
       exact G.endF0 g0 ⟨fun j hj => hout j (by omega), by rw [Nat.min_eq_right (by omega)] at hseg; exact hseg⟩ rfl rfl (fun w hw => hw)
end
end Go.Proofs.Yticgeijklhlonaa
