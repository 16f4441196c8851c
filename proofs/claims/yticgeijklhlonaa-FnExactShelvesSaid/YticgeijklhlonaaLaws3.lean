/-
  The laws on layers and loads.
-/
import Derived.Test.YticgeijklhlonaaPiles
import Derived.Test.YticgeijklhlonaaEqs
namespace Go.Proofs.Yticgeijklhlonaa
open Go.RowKit
attribute [local irreducible] Go.wpList Go.Code.wp Go.Exit.then Go.Exit.inBlock Go.bodyPost Go.Calls pE pB G RunsV FnV Fn FnM
set_option maxRecDepth 100000
set_option maxHeartbeats 2000000
def totM {M : Type} (f : M → List Int) (ms : List M) : Nat := ms.length + (ms.map fun t => (f t).length).sum
theorem tot_fst {M : Type} (f : M → List Int) (ts : List (M × Value)) : tot f ts = totM f (ts.map Prod.fst) := by
  simp only [tot, totM, List.length_map, List.map_map]; rfl
theorem sum_set_le {M : Type} {f : M → Nat} {y t : M} : ∀ {out : List M} {i : Nat}, out[i]? = some t → f y ≤ f t + 1 → ((out.set i y).map f).sum ≤ (out.map f).sum + 1
  | [], i, h, _ => by simp at h
  | x :: r, 0, h, hf => by simp at h; subst h; simp; omega
  | x :: r, i + 1, h, hf => by
    simp only [List.getElem?_cons_succ] at h
    have := sum_set_le h hf
    simp only [List.set_cons_succ, List.map_cons, List.sum_cons]; omega
theorem pile_tot {M S : Type} {room : M → S → Bool} {add : M → Nat → S → M} {z : M} (f : M → Nat) (hz : ∀ k s, f (add z k s) ≤ 1) (hs : ∀ t k s, f (add t k s) ≤ f t + 1) : ∀ (xs : List (S × Nat)) (out : List M), ((xs.foldl (pileStep room add z) out).map f).sum ≤ (out.map f).sum + xs.length
  | [], out => by simp
  | x :: r, out => by
    have h1 := pile_tot f hz hs r (pileStep room add z out x) (room := room) (z := z)
    have h2 : ((pileStep room add z out x).map f).sum ≤ (out.map f).sum + 1 := by
      unfold pileStep
      split
      · rename_i t ht
        split
        · exact sum_set_le (t := t) (by rw [← List.getLast?_eq_getElem?]; exact ht) (hs t _ _)
        · simp only [List.map_append, List.sum_append, List.map_cons, List.map_nil, List.sum_cons, List.sum_nil]; have := hz x.2 x.1; omega
      · simp only [List.map_append, List.sum_append, List.map_cons, List.map_nil, List.sum_cons, List.sum_nil]; have := hz x.2 x.1; omega
    simp only [List.foldl_cons, List.length_cons]; omega
theorem layers_tot (p : PalletM) (ss : List ShelfM) : totM LayerM.l (layersM p ss) ≤ 2 * ss.length := by
  have h1 := layers_len p ss
  have h2 : ((layersM p ss).map fun t => t.l.length).sum ≤ ss.length := by
    unfold layersM; split
    · have := pile_tot (room := layRoom p) (add := layAdd) (z := layZ) (fun t => t.l.length) (by simp [layAdd, layZ]) (by simp [layAdd]) ss.zipIdx []
      simpa [pile] using this
    · simp
  simp only [totM]; omega
theorem loads_tot (p : PalletM) (ss : List LayerM) : totM LoadM.l (loadsM p ss) ≤ 2 * ss.length := by
  have h1 := loads_len p ss
  have h2 : ((loadsM p ss).map fun t => t.l.length).sum ≤ ss.length := by
    unfold loadsM; split
    · have := pile_tot (room := loadRoom p) (add := loadAdd) (z := loadZ) (fun t => t.l.length) (by simp [loadAdd, loadZ]) (by simp [loadAdd]) ss.zipIdx []
      simpa [pile] using this
    · simp
  simp only [totM]; omega
theorem implLayersOf_n (p : PalletM) {v : Value} {l : List (ShelfM × Value)} {ss : List ShelfM} (w : World) (h : Rd w v 5 (l.map ShelfM.cells)) (hb : l.length ≤ 1048576) (hn : l.map Prod.fst = ss) :
    Fn Try.prog 36 [p.val, v] w (fun x : Value × List (LayerM × Value) => x.1.oneCell' = true ∧ x.2.map Prod.fst = layersM p ss) (fun x => x.1) (fun x => [.grp 3 1 (x.2.map (sub LayerM.l)), .row x.1 61 4 (x.2.map LayerM.cells)]) := hn ▸ implLayersOf_any p w h hb
theorem specLayersOf_n (p : PalletM) {v : Value} {l : List (ShelfM × Value)} {ss : List ShelfM} (w : World) (h : Rd w v 5 (l.map ShelfM.cells)) (hb : l.length ≤ 1048576) (hn : l.map Prod.fst = ss) :
    Fn Try.prog 37 [p.val, v] w (fun x : Value × List (LayerM × Value) => x.1.oneCell' = true ∧ x.2.map Prod.fst = layersM p ss) (fun x => x.1) (fun x => [.grp 3 1 (x.2.map (sub LayerM.l)), .row x.1 61 4 (x.2.map LayerM.cells)]) := hn ▸ specLayersOf_any p w h hb
theorem fnExactLayersOf_any (p : PalletM) {v : Value} {l : List (ShelfM × Value)} {w : World} (h : Rd w v 5 (l.map ShelfM.cells)) (hs : Subs w ShelfM.l l) : FnV Try.prog 9 [p.val, v] w (.bool true) := by
  have hct := cntShelfM_tot l
  have htl := tot_len (f := ShelfM.l) (ts := l)
  have hlt := layers_tot p (l.map Prod.fst)
  have hll : (l.map Prod.fst).length = l.length := by simp
  refine FnV.of (n := 77) Try.func9 rfl rfl ?_
  refine G.seq ?_
  refine G.region ?_
  refine G.op (og_box rfl rfl) rfl (fun bk2 _ => ?_)
  refine G.v (rv_assign rfl) rfl ?_
  refine G.done ?_
  refine G.thenN ?_
  refine G.seq ?_
  refine G.region ?_
  refine G.v (rv_assign rfl) rfl ?_
  refine G.done ?_
  refine G.thenN ?_
  refine G.seq ?_
  refine G.region ?_
  refine G.v (rv_move rfl) rfl ?_
  refine G.v (rv_move rfl) rfl ?_
  refine G.op (og_callV rfl rfl (fun w hh => szShelfS_any _ w (by exact Rd.stays (by assumption) _ hh) (by exact Subs.stays (by assumption) _ hh) (by (try simp only [szM] at *); omega) (by (try simp only [szM] at *); omega))) rfl (fun _ _ => ?_)
  refine G.v (rv_assign rfl) rfl ?_
  refine G.done ?_
  refine G.thenN ?_
  refine G.seq ?_
  refine G.seq ?_
  refine G.region ?_
  refine G.v (rv_move rfl) rfl ?_
  refine G.v (rv_lss rfl rfl) rfl ?_
  refine G.done ?_
  refine G.thenN ?_
  refine G.cond rfl (fun hc => ?_) (fun hc => ?_)
  · try exact Bool.noConfusion hc
    all_goals
     try replace hc := of_decide_eq_true hc
     try (exfalso; contradiction)
     all_goals
      refine G.seq ?_
      refine G.region ?_
      refine G.v (rv_assign rfl) rfl ?_
      refine G.done ?_
      refine G.thenN ?_
      refine G.ret ?_
      refine G.thenR ?_
      exact G.retFV rfl rfl rfl
  · try exact Bool.noConfusion hc
    all_goals
     try replace hc := of_decide_eq_false hc
     try (exfalso; contradiction)
     all_goals
      refine G.skip ?_
      refine G.thenN ?_
      refine G.seq ?_
      refine G.region ?_
      (refine G.v (rv_loadW 0 rfl rfl rfl) rfl ?_)
      refine G.op (og_callV rfl rfl (fun w _ => toPallet_any _ w)) rfl (fun _ _ => ?_)
      refine G.v (rv_move rfl) rfl ?_
      ((refine G.op (og_callF2 rfl rfl (fun w hh => toShelfS_any w (by exact Rd.stays (by assumption) _ hh) (by exact Subs.stays (by assumption) _ hh) (by (try simp only [szM] at *); omega))) rfl ?_; rintro ⟨v, l⟩ ⟨hov, hvl⟩; try dsimp only))
      have hcf := cntShelfM_fst hvl
      (refine G.op (og_callF2 rfl rfl (fun w hh => specLayersOf_n p w (by exact Rd.owned 1 rfl _ hh) (by have hq := congrArg List.length hvl; simp only [List.length_map] at hq; (try simp only [szM] at *); omega) hvl)) rfl ?_; rintro ⟨vo, os⟩ ⟨hvo, hos⟩; try dsimp only)
      refine G.v (rv_assign rfl) rfl ?_
      refine G.done ?_
      refine G.thenN ?_
      refine G.seq ?_
      refine G.region ?_
      refine G.v (rv_move rfl) rfl ?_
      (refine G.op (og_callF2 rfl rfl (fun w hh => toShelfS_any w (by exact Rd.stays (by assumption) _ hh) (by exact Subs.stays (by assumption) _ hh) (by (try simp only [szM] at *); omega))) rfl ?_; rintro ⟨xv, xs⟩ ⟨hxo, hxl⟩; try dsimp only)
      have hcf := cntShelfM_fst hxl
      have hcf := cntShelfM_fst hvl
      refine G.v (rv_assign rfl) rfl ?_
      refine G.done ?_
      refine G.thenN ?_
      refine G.seq ?_
      refine G.region ?_
      (refine G.v (rv_loadW 6 rfl rfl rfl) rfl ?_)
      refine G.op (og_callV rfl rfl (fun w _ => toPallet_any _ w)) rfl (fun _ _ => ?_)
      refine G.v (rv_move rfl) rfl ?_
      (refine G.op (og_callF2 rfl rfl (fun w hh => implLayersOf_n p w (by exact Rd.owned 1 rfl _ hh) (by have hq := congrArg List.length hxl; simp only [List.length_map] at hq; (try simp only [szM] at *); omega) hxl)) rfl ?_; rintro ⟨vg, gs⟩ ⟨hvg, hgs⟩; try dsimp only)
      have hgt := cntLayerM_tot gs; rw [tot_fst, hgs] at hgt
      refine G.v (rv_assign rfl) rfl ?_
      refine G.done ?_
      refine G.thenN ?_
      refine G.seq ?_
      refine G.seq ?_
      refine G.region ?_
      refine G.v (rv_move rfl) rfl ?_
      refine G.v (rv_move rfl) rfl ?_
      refine G.op (og_callV rfl rfl (fun w hh => eqLayerS_any w (by exact Rd.owned 1 rfl _ hh) (by exact Subs.owned 0 rfl _ hh) (by exact Rd.owned 5 rfl _ hh) (by exact Subs.owned 4 rfl _ hh))) rfl (fun _ _ => ?_)
      refine G.v (rv_not rfl) rfl ?_
      refine G.done ?_
      refine G.thenN ?_
      refine G.cond rfl (fun hc => ?_) (fun hc => ?_)
      · try exact Bool.noConfusion hc
        all_goals
         try replace hc := of_decide_eq_true hc
         try (exfalso; contradiction)
         all_goals
          refine G.seq ?_
          refine G.region ?_
          refine G.v (rv_assign rfl) rfl ?_
          refine G.done ?_
          refine G.thenN ?_
          refine G.ret ?_
          refine G.thenR ?_
          (exfalso; simp_all; done)
      · try exact Bool.noConfusion hc
        all_goals
         try replace hc := of_decide_eq_false hc
         try (exfalso; contradiction)
         all_goals
          refine G.skip ?_
          refine G.thenN ?_
          refine G.seq ?_
          refine G.seq ?_
          refine G.region ?_
          refine G.v (rv_move rfl) rfl ?_
          refine G.v (rv_move rfl) rfl ?_
          ((refine G.op (og_callF2 rfl rfl (fun w hh => toShelfS_any w (by exact Rd.stays (by assumption) _ hh) (by exact Subs.stays (by assumption) _ hh) (by (try simp only [szM] at *); omega))) rfl ?_; rintro ⟨v, l⟩ ⟨hov, hvl⟩; try dsimp only))
          have hcf := cntShelfM_fst hvl
          refine G.op (og_callV rfl rfl (fun w hh => eqShelfS_any w (by exact Rd.owned 5 rfl _ hh) (by exact Subs.owned 4 rfl _ hh) (by exact Rd.owned 1 rfl _ hh) (by exact Subs.owned 0 rfl _ hh))) rfl (fun _ _ => ?_)
          refine G.v (rv_not rfl) rfl ?_
          refine G.done ?_
          refine G.thenN ?_
          refine G.cond rfl (fun hc => ?_) (fun hc => ?_)
          · try exact Bool.noConfusion hc
            all_goals
             try replace hc := of_decide_eq_true hc
             try (exfalso; contradiction)
             all_goals
              refine G.seq ?_
              refine G.region ?_
              refine G.v (rv_assign rfl) rfl ?_
              refine G.done ?_
              refine G.thenN ?_
              refine G.ret ?_
              refine G.thenR ?_
              (exfalso; simp_all; done)
          · try exact Bool.noConfusion hc
            all_goals
             try replace hc := of_decide_eq_false hc
             try (exfalso; contradiction)
             all_goals
              refine G.skip ?_
              refine G.thenN ?_
              refine G.seq ?_
              refine G.region ?_
              refine G.v (rv_assign rfl) rfl ?_
              refine G.done ?_
              refine G.thenN ?_
              refine G.seq ?_
              refine G.region ?_
              refine G.v (rv_move rfl) rfl ?_
              refine G.v (rv_move rfl) rfl ?_
              ((refine G.frontR5 (xv) rfl ?_); (refine G.frontG5 (xs.map (sub ShelfM.l)) rfl ?_); refine G.op (og_callMM2 rfl rfl rfl (markShelfS_any (by omega) (by (try simp only [szM] at *); omega)).toF) rfl ?_; rintro ⟨⟩ _; try dsimp only)
              refine G.v (rv_assign rfl) rfl ?_
              refine G.done ?_
              refine G.thenN ?_
              refine G.seq ?_
              refine G.seq ?_
              refine G.region ?_
              refine G.v (rv_move rfl) rfl ?_
              refine G.v (rv_lss rfl rfl) rfl ?_
              refine G.v (rv_move rfl) rfl ?_
              all_goals (((with_reducible refine G.gP rfl rfl (fun hg => ?_) (fun hg => ?_)) <;> (try exact Bool.noConfusion hg) <;> ((refine G.gY rfl rfl ?_; refine G.v (rv_move rfl) rfl ?_))))
              all_goals (((refine G.gY rfl rfl ?_; refine G.v (rv_move rfl) rfl ?_)))
              all_goals (((refine G.gY rfl rfl ?_; refine G.op (og_callV rfl rfl (fun w hh => eqLayerS_any w (by exact Rd.owned 5 rfl _ hh) (by exact Subs.owned 4 rfl _ hh) (by exact Rd.owned 7 rfl _ hh) (by exact Subs.owned 6 rfl _ hh))) rfl (fun _ _ => ?_))))
              all_goals (((refine G.gY rfl rfl ?_; refine G.v (rv_not rfl) rfl ?_)))
              all_goals ((refine G.v (rv_pickF rfl rfl) rfl ?_))
              all_goals
               refine G.done ?_
               refine G.thenN ?_
               refine G.cond rfl (fun hc => ?_) (fun hc => ?_)
               · try exact Bool.noConfusion hc
                 all_goals
                  try replace hc := of_decide_eq_true hc
                  try (exfalso; contradiction)
                  all_goals
                   refine G.seq ?_
                   refine G.region ?_
                   refine G.v (rv_assign rfl) rfl ?_
                   refine G.done ?_
                   refine G.thenN ?_
                   refine G.ret ?_
                   refine G.thenR ?_
                   (exfalso; simp_all; done)
               · try exact Bool.noConfusion hc
                 all_goals
                  try replace hc := of_decide_eq_false hc
                  try (exfalso; contradiction)
                  all_goals
                   refine G.skip ?_
                   refine G.thenN ?_
                   refine G.seq ?_
                   refine G.region ?_
                   refine G.v (rv_assign rfl) rfl ?_
                   refine G.done ?_
                   refine G.thenN ?_
                   refine G.seq ?_
                   refine G.region ?_
                   refine G.v (rv_move rfl) rfl ?_
                   refine G.v (rv_move rfl) rfl ?_
                   ((refine G.frontR5 (vg) rfl ?_); (refine G.frontG5 (gs.map (sub LayerM.l)) rfl ?_); refine G.op (og_callMM2 rfl rfl rfl (markLayerS_any (by omega) (by (try simp only [szM] at *); omega)).toF) rfl ?_; rintro ⟨⟩ _; try dsimp only)
                   refine G.v (rv_assign rfl) rfl ?_
                   refine G.done ?_
                   refine G.thenN ?_
                   refine G.seq ?_
                   refine G.region ?_
                   refine G.v (rv_assign rfl) rfl ?_
                   refine G.done ?_
                   refine G.thenN ?_
                   refine G.seq ?_
                   refine G.region ?_
                   refine G.v (rv_move rfl) rfl ?_
                   refine G.v (rv_move rfl) rfl ?_
                   refine G.op (og_callV rfl rfl (fun w hh => heldLayerS_marked w (by exact Rd.owned 1 rfl _ hh) (by exact Subs.owned 0 rfl _ hh) (by omega) (by (try simp only [szM] at *); omega))) rfl (fun _ _ => ?_)
                   refine G.v (rv_assign rfl) rfl ?_
                   refine G.done ?_
                   refine G.thenN ?_
                   refine G.seq ?_
                   refine G.seq ?_
                   refine G.region ?_
                   refine G.v (rv_move rfl) rfl ?_
                   refine G.v (rv_lss rfl rfl) rfl ?_
                   refine G.done ?_
                   refine G.thenN ?_
                   refine G.cond rfl (fun hc => ?_) (fun hc => ?_)
                   · try exact Bool.noConfusion hc
                     all_goals
                      try replace hc := of_decide_eq_true hc
                      try (exfalso; contradiction)
                      all_goals
                       refine G.seq ?_
                       refine G.region ?_
                       refine G.v (rv_assign rfl) rfl ?_
                       refine G.done ?_
                       refine G.thenN ?_
                       refine G.ret ?_
                       refine G.thenR ?_
                       exact G.retFV rfl rfl rfl
                   · try exact Bool.noConfusion hc
                     all_goals
                      try replace hc := of_decide_eq_false hc
                      try (exfalso; contradiction)
                      all_goals
                       refine G.skip ?_
                       refine G.thenN ?_
                       refine G.seq ?_
                       refine G.seq ?_
                       refine G.region ?_
                       refine G.v (rv_move rfl) rfl ?_
                       refine G.v (rv_move rfl) rfl ?_
                       refine G.v (rv_neq rfl rfl) rfl ?_
                       refine G.done ?_
                       refine G.thenN ?_
                       refine G.cond rfl (fun hc => ?_) (fun hc => ?_)
                       · try exact Bool.noConfusion hc
                         all_goals
                          try replace hc := of_decide_eq_true hc
                          try (exfalso; contradiction)
                          all_goals
                           refine G.seq ?_
                           refine G.region ?_
                           refine G.v (rv_assign rfl) rfl ?_
                           refine G.done ?_
                           refine G.thenN ?_
                           refine G.ret ?_
                           refine G.thenR ?_
                           exact G.retFV rfl rfl rfl
                       · try exact Bool.noConfusion hc
                         all_goals
                          try replace hc := of_decide_eq_false hc
                          try (exfalso; contradiction)
                          all_goals
                           refine G.skip ?_
                           refine G.thenN ?_
                           refine G.seq ?_
                           refine G.region ?_
                           (refine G.v (rv_loadW 10 rfl rfl rfl) rfl ?_)
                           refine G.op (og_callV rfl rfl (fun w _ => toPallet_any _ w)) rfl (fun _ _ => ?_)
                           refine G.v (rv_move rfl) rfl ?_
                           ((refine G.op (og_callF2 rfl rfl (fun w hh => toShelfS_any w (by exact Rd.stays (by assumption) _ hh) (by exact Subs.stays (by assumption) _ hh) (by (try simp only [szM] at *); omega))) rfl ?_; rintro ⟨v, l⟩ ⟨hov, hvl⟩; try dsimp only))
                           have hcf := cntShelfM_fst hvl
                           (refine G.op (og_callF2 rfl rfl (fun w hh => implLayersOf_n p w (by exact Rd.owned 1 rfl _ hh) (by have hq := congrArg List.length hvl; simp only [List.length_map] at hq; (try simp only [szM] at *); omega) hvl)) rfl ?_; rintro ⟨vh, js⟩ ⟨hvh, hjs⟩; try dsimp only)
                           refine G.v (rv_assign rfl) rfl ?_
                           refine G.done ?_
                           refine G.thenN ?_
                           refine G.seq ?_
                           refine G.seq ?_
                           refine G.region ?_
                           refine G.v (rv_move rfl) rfl ?_
                           refine G.v (rv_move rfl) rfl ?_
                           refine G.op (og_callV rfl rfl (fun w hh => eqLayerS_any w (by exact Rd.owned 1 rfl _ hh) (by exact Subs.owned 0 rfl _ hh) (by exact Rd.owned 11 rfl _ hh) (by exact Subs.owned 10 rfl _ hh))) rfl (fun _ _ => ?_)
                           refine G.v (rv_not rfl) rfl ?_
                           refine G.done ?_
                           refine G.thenN ?_
                           refine G.cond rfl (fun hc => ?_) (fun hc => ?_)
                           · try exact Bool.noConfusion hc
                             all_goals
                              try replace hc := of_decide_eq_true hc
                              try (exfalso; contradiction)
                              all_goals
                               refine G.seq ?_
                               refine G.region ?_
                               refine G.v (rv_assign rfl) rfl ?_
                               refine G.done ?_
                               refine G.thenN ?_
                               refine G.ret ?_
                               refine G.thenR ?_
                               (exfalso; simp_all; done)
                           · try exact Bool.noConfusion hc
                             all_goals
                              try replace hc := of_decide_eq_false hc
                              try (exfalso; contradiction)
                              all_goals
                               refine G.skip ?_
                               refine G.thenN ?_
                               refine G.seq ?_
                               refine G.region ?_
                               refine G.v (rv_assign rfl) rfl ?_
                               refine G.done ?_
                               refine G.thenN ?_
                               refine G.seq ?_
                               refine G.region ?_
                               refine G.v (rv_move rfl) rfl ?_
                               refine G.v (rv_move rfl) rfl ?_
                               refine G.op (og_callV rfl rfl (fun w hh => heldLayerS_marked w (by exact Rd.owned 5 rfl _ hh) (by exact Subs.owned 4 rfl _ hh) (by omega) (by (try simp only [szM] at *); omega))) rfl (fun _ _ => ?_)
                               refine G.v (rv_assign rfl) rfl ?_
                               refine G.done ?_
                               refine G.thenN ?_
                               refine G.seq ?_
                               refine G.seq ?_
                               refine G.region ?_
                               refine G.v (rv_move rfl) rfl ?_
                               refine G.v (rv_lss rfl rfl) rfl ?_
                               refine G.done ?_
                               refine G.thenN ?_
                               refine G.cond rfl (fun hc => ?_) (fun hc => ?_)
                               · try exact Bool.noConfusion hc
                                 all_goals
                                  try replace hc := of_decide_eq_true hc
                                  try (exfalso; contradiction)
                                  all_goals
                                   refine G.seq ?_
                                   refine G.region ?_
                                   refine G.v (rv_assign rfl) rfl ?_
                                   refine G.done ?_
                                   refine G.thenN ?_
                                   refine G.ret ?_
                                   refine G.thenR ?_
                                   exact G.retFV rfl rfl rfl
                               · try exact Bool.noConfusion hc
                                 all_goals
                                  try replace hc := of_decide_eq_false hc
                                  try (exfalso; contradiction)
                                  all_goals
                                   refine G.skip ?_
                                   refine G.thenN ?_
                                   refine G.seq ?_
                                   refine G.seq ?_
                                   refine G.region ?_
                                   refine G.v (rv_move rfl) rfl ?_
                                   refine G.v (rv_move rfl) rfl ?_
                                   refine G.v (rv_neq rfl rfl) rfl ?_
                                   refine G.done ?_
                                   refine G.thenN ?_
                                   refine G.cond rfl (fun hc => ?_) (fun hc => ?_)
                                   · try exact Bool.noConfusion hc
                                     all_goals
                                      try replace hc := of_decide_eq_true hc
                                      try (exfalso; contradiction)
                                      all_goals
                                       refine G.seq ?_
                                       refine G.region ?_
                                       refine G.v (rv_assign rfl) rfl ?_
                                       refine G.done ?_
                                       refine G.thenN ?_
                                       refine G.ret ?_
                                       refine G.thenR ?_
                                       exact G.retFV rfl rfl rfl
                                   · try exact Bool.noConfusion hc
                                     all_goals
                                      try replace hc := of_decide_eq_false hc
                                      try (exfalso; contradiction)
                                      all_goals
                                       refine G.skip ?_
                                       refine G.thenN ?_
                                       refine G.seq ?_
                                       refine G.region ?_
                                       refine G.v (rv_assign rfl) rfl ?_
                                       refine G.done ?_
                                       refine G.thenN ?_
                                       refine G.ret ?_
                                       exact G.retFV rfl rfl rfl
theorem implLoadsOf_n (p : PalletM) {v : Value} {l : List (LayerM × Value)} {ss : List LayerM} (w : World) (h : Rd w v 4 (l.map LayerM.cells)) (hb : l.length ≤ 1048576) (hn : l.map Prod.fst = ss) :
    Fn Try.prog 39 [p.val, v] w (fun x : Value × List (LoadM × Value) => x.1.oneCell' = true ∧ x.2.map Prod.fst = loadsM p ss) (fun x => x.1) (fun x => [.grp 3 1 (x.2.map (sub LoadM.l)), .row x.1 67 3 (x.2.map LoadM.cells)]) := hn ▸ implLoadsOf_any p w h hb
theorem specLoadsOf_n (p : PalletM) {v : Value} {l : List (LayerM × Value)} {ss : List LayerM} (w : World) (h : Rd w v 4 (l.map LayerM.cells)) (hb : l.length ≤ 1048576) (hn : l.map Prod.fst = ss) :
    Fn Try.prog 41 [p.val, v] w (fun x : Value × List (LoadM × Value) => x.1.oneCell' = true ∧ x.2.map Prod.fst = loadsM p ss) (fun x => x.1) (fun x => [.grp 3 1 (x.2.map (sub LoadM.l)), .row x.1 67 3 (x.2.map LoadM.cells)]) := hn ▸ specLoadsOf_any p w h hb
theorem fnExactLoadsOf_any (p : PalletM) {v : Value} {l : List (LayerM × Value)} {w : World} (h : Rd w v 4 (l.map LayerM.cells)) (hs : Subs w LayerM.l l) : FnV Try.prog 8 [p.val, v] w (.bool true) := by
  have hct := cntLayerM_tot l
  have htl := tot_len (f := LayerM.l) (ts := l)
  have hlt := loads_tot p (l.map Prod.fst)
  have hll : (l.map Prod.fst).length = l.length := by simp
  refine FnV.of (n := 77) Try.func8 rfl rfl ?_
  refine G.seq ?_
  refine G.region ?_
  refine G.op (og_box rfl rfl) rfl (fun bk2 _ => ?_)
  refine G.v (rv_assign rfl) rfl ?_
  refine G.done ?_
  refine G.thenN ?_
  refine G.seq ?_
  refine G.region ?_
  refine G.v (rv_assign rfl) rfl ?_
  refine G.done ?_
  refine G.thenN ?_
  refine G.seq ?_
  refine G.region ?_
  refine G.v (rv_move rfl) rfl ?_
  refine G.v (rv_move rfl) rfl ?_
  refine G.op (og_callV rfl rfl (fun w hh => szLayerS_any _ w (by exact Rd.stays (by assumption) _ hh) (by exact Subs.stays (by assumption) _ hh) (by (try simp only [szM] at *); omega) (by (try simp only [szM] at *); omega))) rfl (fun _ _ => ?_)
  refine G.v (rv_assign rfl) rfl ?_
  refine G.done ?_
  refine G.thenN ?_
  refine G.seq ?_
  refine G.seq ?_
  refine G.region ?_
  refine G.v (rv_move rfl) rfl ?_
  refine G.v (rv_lss rfl rfl) rfl ?_
  refine G.done ?_
  refine G.thenN ?_
  refine G.cond rfl (fun hc => ?_) (fun hc => ?_)
  · try exact Bool.noConfusion hc
    all_goals
     try replace hc := of_decide_eq_true hc
     try (exfalso; contradiction)
     all_goals
      refine G.seq ?_
      refine G.region ?_
      refine G.v (rv_assign rfl) rfl ?_
      refine G.done ?_
      refine G.thenN ?_
      refine G.ret ?_
      refine G.thenR ?_
      exact G.retFV rfl rfl rfl
  · try exact Bool.noConfusion hc
    all_goals
     try replace hc := of_decide_eq_false hc
     try (exfalso; contradiction)
     all_goals
      refine G.skip ?_
      refine G.thenN ?_
      refine G.seq ?_
      refine G.region ?_
      (refine G.v (rv_loadW 0 rfl rfl rfl) rfl ?_)
      refine G.op (og_callV rfl rfl (fun w _ => toPallet_any _ w)) rfl (fun _ _ => ?_)
      refine G.v (rv_move rfl) rfl ?_
      ((refine G.op (og_callF2 rfl rfl (fun w hh => toLayerS_any w (by exact Rd.stays (by assumption) _ hh) (by exact Subs.stays (by assumption) _ hh) (by (try simp only [szM] at *); omega))) rfl ?_; rintro ⟨v, l⟩ ⟨hov, hvl⟩; try dsimp only))
      have hcf := cntLayerM_fst hvl
      (refine G.op (og_callF2 rfl rfl (fun w hh => specLoadsOf_n p w (by exact Rd.owned 1 rfl _ hh) (by have hq := congrArg List.length hvl; simp only [List.length_map] at hq; (try simp only [szM] at *); omega) hvl)) rfl ?_; rintro ⟨vo, os⟩ ⟨hvo, hos⟩; try dsimp only)
      refine G.v (rv_assign rfl) rfl ?_
      refine G.done ?_
      refine G.thenN ?_
      refine G.seq ?_
      refine G.region ?_
      refine G.v (rv_move rfl) rfl ?_
      (refine G.op (og_callF2 rfl rfl (fun w hh => toLayerS_any w (by exact Rd.stays (by assumption) _ hh) (by exact Subs.stays (by assumption) _ hh) (by (try simp only [szM] at *); omega))) rfl ?_; rintro ⟨xv, xs⟩ ⟨hxo, hxl⟩; try dsimp only)
      have hcf := cntLayerM_fst hxl
      have hcf := cntLayerM_fst hvl
      refine G.v (rv_assign rfl) rfl ?_
      refine G.done ?_
      refine G.thenN ?_
      refine G.seq ?_
      refine G.region ?_
      (refine G.v (rv_loadW 6 rfl rfl rfl) rfl ?_)
      refine G.op (og_callV rfl rfl (fun w _ => toPallet_any _ w)) rfl (fun _ _ => ?_)
      refine G.v (rv_move rfl) rfl ?_
      (refine G.op (og_callF2 rfl rfl (fun w hh => implLoadsOf_n p w (by exact Rd.owned 1 rfl _ hh) (by have hq := congrArg List.length hxl; simp only [List.length_map] at hq; (try simp only [szM] at *); omega) hxl)) rfl ?_; rintro ⟨vg, gs⟩ ⟨hvg, hgs⟩; try dsimp only)
      have hgt := cntLoadM_tot gs; rw [tot_fst, hgs] at hgt
      refine G.v (rv_assign rfl) rfl ?_
      refine G.done ?_
      refine G.thenN ?_
      refine G.seq ?_
      refine G.seq ?_
      refine G.region ?_
      refine G.v (rv_move rfl) rfl ?_
      refine G.v (rv_move rfl) rfl ?_
      refine G.op (og_callV rfl rfl (fun w hh => eqLoadS_any w (by exact Rd.owned 1 rfl _ hh) (by exact Subs.owned 0 rfl _ hh) (by exact Rd.owned 5 rfl _ hh) (by exact Subs.owned 4 rfl _ hh))) rfl (fun _ _ => ?_)
      refine G.v (rv_not rfl) rfl ?_
      refine G.done ?_
      refine G.thenN ?_
      refine G.cond rfl (fun hc => ?_) (fun hc => ?_)
      · try exact Bool.noConfusion hc
        all_goals
         try replace hc := of_decide_eq_true hc
         try (exfalso; contradiction)
         all_goals
          refine G.seq ?_
          refine G.region ?_
          refine G.v (rv_assign rfl) rfl ?_
          refine G.done ?_
          refine G.thenN ?_
          refine G.ret ?_
          refine G.thenR ?_
          (exfalso; simp_all; done)
      · try exact Bool.noConfusion hc
        all_goals
         try replace hc := of_decide_eq_false hc
         try (exfalso; contradiction)
         all_goals
          refine G.skip ?_
          refine G.thenN ?_
          refine G.seq ?_
          refine G.seq ?_
          refine G.region ?_
          refine G.v (rv_move rfl) rfl ?_
          refine G.v (rv_move rfl) rfl ?_
          ((refine G.op (og_callF2 rfl rfl (fun w hh => toLayerS_any w (by exact Rd.stays (by assumption) _ hh) (by exact Subs.stays (by assumption) _ hh) (by (try simp only [szM] at *); omega))) rfl ?_; rintro ⟨v, l⟩ ⟨hov, hvl⟩; try dsimp only))
          have hcf := cntLayerM_fst hvl
          refine G.op (og_callV rfl rfl (fun w hh => eqLayerS_any w (by exact Rd.owned 5 rfl _ hh) (by exact Subs.owned 4 rfl _ hh) (by exact Rd.owned 1 rfl _ hh) (by exact Subs.owned 0 rfl _ hh))) rfl (fun _ _ => ?_)
          refine G.v (rv_not rfl) rfl ?_
          refine G.done ?_
          refine G.thenN ?_
          refine G.cond rfl (fun hc => ?_) (fun hc => ?_)
          · try exact Bool.noConfusion hc
            all_goals
             try replace hc := of_decide_eq_true hc
             try (exfalso; contradiction)
             all_goals
              refine G.seq ?_
              refine G.region ?_
              refine G.v (rv_assign rfl) rfl ?_
              refine G.done ?_
              refine G.thenN ?_
              refine G.ret ?_
              refine G.thenR ?_
              (exfalso; simp_all; done)
          · try exact Bool.noConfusion hc
            all_goals
             try replace hc := of_decide_eq_false hc
             try (exfalso; contradiction)
             all_goals
              refine G.skip ?_
              refine G.thenN ?_
              refine G.seq ?_
              refine G.region ?_
              refine G.v (rv_assign rfl) rfl ?_
              refine G.done ?_
              refine G.thenN ?_
              refine G.seq ?_
              refine G.region ?_
              refine G.v (rv_move rfl) rfl ?_
              refine G.v (rv_move rfl) rfl ?_
              ((refine G.frontR5 (xv) rfl ?_); (refine G.frontG5 (xs.map (sub LayerM.l)) rfl ?_); refine G.op (og_callMM2 rfl rfl rfl (markLayerS_any (by omega) (by (try simp only [szM] at *); omega)).toF) rfl ?_; rintro ⟨⟩ _; try dsimp only)
              refine G.v (rv_assign rfl) rfl ?_
              refine G.done ?_
              refine G.thenN ?_
              refine G.seq ?_
              refine G.seq ?_
              refine G.region ?_
              refine G.v (rv_move rfl) rfl ?_
              refine G.v (rv_lss rfl rfl) rfl ?_
              refine G.v (rv_move rfl) rfl ?_
              all_goals (((with_reducible refine G.gP rfl rfl (fun hg => ?_) (fun hg => ?_)) <;> (try exact Bool.noConfusion hg) <;> ((refine G.gY rfl rfl ?_; refine G.v (rv_move rfl) rfl ?_))))
              all_goals (((refine G.gY rfl rfl ?_; refine G.v (rv_move rfl) rfl ?_)))
              all_goals (((refine G.gY rfl rfl ?_; refine G.op (og_callV rfl rfl (fun w hh => eqLoadS_any w (by exact Rd.owned 5 rfl _ hh) (by exact Subs.owned 4 rfl _ hh) (by exact Rd.owned 7 rfl _ hh) (by exact Subs.owned 6 rfl _ hh))) rfl (fun _ _ => ?_))))
              all_goals (((refine G.gY rfl rfl ?_; refine G.v (rv_not rfl) rfl ?_)))
              all_goals ((refine G.v (rv_pickF rfl rfl) rfl ?_))
              all_goals
               refine G.done ?_
               refine G.thenN ?_
               refine G.cond rfl (fun hc => ?_) (fun hc => ?_)
               · try exact Bool.noConfusion hc
                 all_goals
                  try replace hc := of_decide_eq_true hc
                  try (exfalso; contradiction)
                  all_goals
                   refine G.seq ?_
                   refine G.region ?_
                   refine G.v (rv_assign rfl) rfl ?_
                   refine G.done ?_
                   refine G.thenN ?_
                   refine G.ret ?_
                   refine G.thenR ?_
                   (exfalso; simp_all; done)
               · try exact Bool.noConfusion hc
                 all_goals
                  try replace hc := of_decide_eq_false hc
                  try (exfalso; contradiction)
                  all_goals
                   refine G.skip ?_
                   refine G.thenN ?_
                   refine G.seq ?_
                   refine G.region ?_
                   refine G.v (rv_assign rfl) rfl ?_
                   refine G.done ?_
                   refine G.thenN ?_
                   refine G.seq ?_
                   refine G.region ?_
                   refine G.v (rv_move rfl) rfl ?_
                   refine G.v (rv_move rfl) rfl ?_
                   ((refine G.frontR5 (vg) rfl ?_); (refine G.frontG5 (gs.map (sub LoadM.l)) rfl ?_); refine G.op (og_callMM2 rfl rfl rfl (markLoadS_any (by omega) (by (try simp only [szM] at *); omega)).toF) rfl ?_; rintro ⟨⟩ _; try dsimp only)
                   refine G.v (rv_assign rfl) rfl ?_
                   refine G.done ?_
                   refine G.thenN ?_
                   refine G.seq ?_
                   refine G.region ?_
                   refine G.v (rv_assign rfl) rfl ?_
                   refine G.done ?_
                   refine G.thenN ?_
                   refine G.seq ?_
                   refine G.region ?_
                   refine G.v (rv_move rfl) rfl ?_
                   refine G.v (rv_move rfl) rfl ?_
                   refine G.op (og_callV rfl rfl (fun w hh => heldLoadS_marked w (by exact Rd.owned 1 rfl _ hh) (by exact Subs.owned 0 rfl _ hh) (by omega) (by (try simp only [szM] at *); omega))) rfl (fun _ _ => ?_)
                   refine G.v (rv_assign rfl) rfl ?_
                   refine G.done ?_
                   refine G.thenN ?_
                   refine G.seq ?_
                   refine G.seq ?_
                   refine G.region ?_
                   refine G.v (rv_move rfl) rfl ?_
                   refine G.v (rv_lss rfl rfl) rfl ?_
                   refine G.done ?_
                   refine G.thenN ?_
                   refine G.cond rfl (fun hc => ?_) (fun hc => ?_)
                   · try exact Bool.noConfusion hc
                     all_goals
                      try replace hc := of_decide_eq_true hc
                      try (exfalso; contradiction)
                      all_goals
                       refine G.seq ?_
                       refine G.region ?_
                       refine G.v (rv_assign rfl) rfl ?_
                       refine G.done ?_
                       refine G.thenN ?_
                       refine G.ret ?_
                       refine G.thenR ?_
                       exact G.retFV rfl rfl rfl
                   · try exact Bool.noConfusion hc
                     all_goals
                      try replace hc := of_decide_eq_false hc
                      try (exfalso; contradiction)
                      all_goals
                       refine G.skip ?_
                       refine G.thenN ?_
                       refine G.seq ?_
                       refine G.seq ?_
                       refine G.region ?_
                       refine G.v (rv_move rfl) rfl ?_
                       refine G.v (rv_move rfl) rfl ?_
                       refine G.v (rv_neq rfl rfl) rfl ?_
                       refine G.done ?_
                       refine G.thenN ?_
                       refine G.cond rfl (fun hc => ?_) (fun hc => ?_)
                       · try exact Bool.noConfusion hc
                         all_goals
                          try replace hc := of_decide_eq_true hc
                          try (exfalso; contradiction)
                          all_goals
                           refine G.seq ?_
                           refine G.region ?_
                           refine G.v (rv_assign rfl) rfl ?_
                           refine G.done ?_
                           refine G.thenN ?_
                           refine G.ret ?_
                           refine G.thenR ?_
                           exact G.retFV rfl rfl rfl
                       · try exact Bool.noConfusion hc
                         all_goals
                          try replace hc := of_decide_eq_false hc
                          try (exfalso; contradiction)
                          all_goals
                           refine G.skip ?_
                           refine G.thenN ?_
                           refine G.seq ?_
                           refine G.region ?_
                           (refine G.v (rv_loadW 10 rfl rfl rfl) rfl ?_)
                           refine G.op (og_callV rfl rfl (fun w _ => toPallet_any _ w)) rfl (fun _ _ => ?_)
                           refine G.v (rv_move rfl) rfl ?_
                           ((refine G.op (og_callF2 rfl rfl (fun w hh => toLayerS_any w (by exact Rd.stays (by assumption) _ hh) (by exact Subs.stays (by assumption) _ hh) (by (try simp only [szM] at *); omega))) rfl ?_; rintro ⟨v, l⟩ ⟨hov, hvl⟩; try dsimp only))
                           have hcf := cntLayerM_fst hvl
                           (refine G.op (og_callF2 rfl rfl (fun w hh => implLoadsOf_n p w (by exact Rd.owned 1 rfl _ hh) (by have hq := congrArg List.length hvl; simp only [List.length_map] at hq; (try simp only [szM] at *); omega) hvl)) rfl ?_; rintro ⟨vh, js⟩ ⟨hvh, hjs⟩; try dsimp only)
                           refine G.v (rv_assign rfl) rfl ?_
                           refine G.done ?_
                           refine G.thenN ?_
                           refine G.seq ?_
                           refine G.seq ?_
                           refine G.region ?_
                           refine G.v (rv_move rfl) rfl ?_
                           refine G.v (rv_move rfl) rfl ?_
                           refine G.op (og_callV rfl rfl (fun w hh => eqLoadS_any w (by exact Rd.owned 1 rfl _ hh) (by exact Subs.owned 0 rfl _ hh) (by exact Rd.owned 11 rfl _ hh) (by exact Subs.owned 10 rfl _ hh))) rfl (fun _ _ => ?_)
                           refine G.v (rv_not rfl) rfl ?_
                           refine G.done ?_
                           refine G.thenN ?_
                           refine G.cond rfl (fun hc => ?_) (fun hc => ?_)
                           · try exact Bool.noConfusion hc
                             all_goals
                              try replace hc := of_decide_eq_true hc
                              try (exfalso; contradiction)
                              all_goals
                               refine G.seq ?_
                               refine G.region ?_
                               refine G.v (rv_assign rfl) rfl ?_
                               refine G.done ?_
                               refine G.thenN ?_
                               refine G.ret ?_
                               refine G.thenR ?_
                               (exfalso; simp_all; done)
                           · try exact Bool.noConfusion hc
                             all_goals
                              try replace hc := of_decide_eq_false hc
                              try (exfalso; contradiction)
                              all_goals
                               refine G.skip ?_
                               refine G.thenN ?_
                               refine G.seq ?_
                               refine G.region ?_
                               refine G.v (rv_assign rfl) rfl ?_
                               refine G.done ?_
                               refine G.thenN ?_
                               refine G.seq ?_
                               refine G.region ?_
                               refine G.v (rv_move rfl) rfl ?_
                               refine G.v (rv_move rfl) rfl ?_
                               refine G.op (og_callV rfl rfl (fun w hh => heldLoadS_marked w (by exact Rd.owned 5 rfl _ hh) (by exact Subs.owned 4 rfl _ hh) (by omega) (by (try simp only [szM] at *); omega))) rfl (fun _ _ => ?_)
                               refine G.v (rv_assign rfl) rfl ?_
                               refine G.done ?_
                               refine G.thenN ?_
                               refine G.seq ?_
                               refine G.seq ?_
                               refine G.region ?_
                               refine G.v (rv_move rfl) rfl ?_
                               refine G.v (rv_lss rfl rfl) rfl ?_
                               refine G.done ?_
                               refine G.thenN ?_
                               refine G.cond rfl (fun hc => ?_) (fun hc => ?_)
                               · try exact Bool.noConfusion hc
                                 all_goals
                                  try replace hc := of_decide_eq_true hc
                                  try (exfalso; contradiction)
                                  all_goals
                                   refine G.seq ?_
                                   refine G.region ?_
                                   refine G.v (rv_assign rfl) rfl ?_
                                   refine G.done ?_
                                   refine G.thenN ?_
                                   refine G.ret ?_
                                   refine G.thenR ?_
                                   exact G.retFV rfl rfl rfl
                               · try exact Bool.noConfusion hc
                                 all_goals
                                  try replace hc := of_decide_eq_false hc
                                  try (exfalso; contradiction)
                                  all_goals
                                   refine G.skip ?_
                                   refine G.thenN ?_
                                   refine G.seq ?_
                                   refine G.seq ?_
                                   refine G.region ?_
                                   refine G.v (rv_move rfl) rfl ?_
                                   refine G.v (rv_move rfl) rfl ?_
                                   refine G.v (rv_neq rfl rfl) rfl ?_
                                   refine G.done ?_
                                   refine G.thenN ?_
                                   refine G.cond rfl (fun hc => ?_) (fun hc => ?_)
                                   · try exact Bool.noConfusion hc
                                     all_goals
                                      try replace hc := of_decide_eq_true hc
                                      try (exfalso; contradiction)
                                      all_goals
                                       refine G.seq ?_
                                       refine G.region ?_
                                       refine G.v (rv_assign rfl) rfl ?_
                                       refine G.done ?_
                                       refine G.thenN ?_
                                       refine G.ret ?_
                                       refine G.thenR ?_
                                       exact G.retFV rfl rfl rfl
                                   · try exact Bool.noConfusion hc
                                     all_goals
                                      try replace hc := of_decide_eq_false hc
                                      try (exfalso; contradiction)
                                      all_goals
                                       refine G.skip ?_
                                       refine G.thenN ?_
                                       refine G.seq ?_
                                       refine G.region ?_
                                       refine G.v (rv_assign rfl) rfl ?_
                                       refine G.done ?_
                                       refine G.thenN ?_
                                       refine G.ret ?_
                                       exact G.retFV rfl rfl rfl
end Go.Proofs.Yticgeijklhlonaa
