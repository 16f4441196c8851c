/-
  Shelves that are put into layers, and layers into loads.
-/
import Derived.Test.YticgeijklhlonaaPileM
import Derived.Test.YticgeijklhlonaaOks
namespace Go.Proofs.Yticgeijklhlonaa
open Go.RowKit
attribute [local irreducible] Go.wpList Go.Code.wp Go.Exit.then Go.Exit.inBlock Go.bodyPost Go.Calls pE pB G RunsV FnV Fn FnM
set_option maxRecDepth 100000
set_option maxHeartbeats 1000000
theorem sub_set {M : Type} {f : M → List Int} {us : List (M × Value)} {q : Nat} {m : M} {v : Value} {es : List (List Value)} (h : (f m).map icell = es) : (us.map (sub f)).set q (v, es) = (us.set q (m, v)).map (sub f) := by
  subst h; rw [List.map_set]; rfl
theorem nil_or_snoc {α : Type} (l : List α) : l = [] ∨ ∃ tp t, l = tp ++ [t] := by
  rcases List.eq_nil_or_concat l with h | ⟨a, b, h⟩
  · exact .inl h
  · exact .inr ⟨a, b, by rw [h, List.concat_eq_append]⟩
theorem G.keep2 {n : Nat} {w0 : World} {fr : Fr} {H : List Ch} (m : Nat) {c1 c2 : Ch} {J : List Ch} {K : Act → World → Prop} (hH : H = c1 :: c2 :: J) (h : G n w0 fr (c1 :: c2 :: J.drop m) K) : G n w0 fr H K := G.heap (fun w hh => by subst hH; exact hh.sublist (List.Sublist.cons_cons _ (List.Sublist.cons_cons _ (List.drop_sublist m J)))) h
theorem cells_set {M : Type} {c : M × Value → List Value} {us : List (M × Value)} {q : Nat} {m : M × Value} {e : List Value} (h : c m = e) : (us.map c).set q e = (us.set q m).map c := by
  subst h; rw [List.map_set]

theorem lay_end {p : PalletM} {ss : List ShelfM} {m : List LayerM} {k : Nat} (hok : shelvesOkM p ss = true) (hM : m = (ss.zipIdx.take k).foldl (pileStep (layRoom p) layAdd layZ) []) (hk : ¬ k < ss.length) : m = layersM p ss := by
  rw [hM, layersM, if_pos hok, List.take_of_length_le (by simp; omega)]; rfl
theorem load_end {p : PalletM} {ss : List LayerM} {m : List LoadM} {k : Nat} (hok : stacksOkM p ss = true) (hM : m = (ss.zipIdx.take k).foldl (pileStep (loadRoom p) loadAdd loadZ) []) (hk : ¬ k < ss.length) : m = loadsM p ss := by
  rw [hM, loadsM, if_pos hok, List.take_of_length_le (by simp; omega)]; rfl

theorem bnot_no {b : Bool} (h : (!b) = false) : b = true := by cases b <;> simp_all
theorem palletOk_of {q r : Bool} (h : (!(q && r)) = false) : q = true := by cases q <;> simp_all
theorem pile_sum {M S : Type} {room : M → S → Bool} {add : M → Nat → S → M} {z : M} (f : M → Nat) (hz : ∀ k s, f (add z k s) ≤ 1) (hs : ∀ t k s, f (add t k s) = f t + 1) : ∀ (xs : List (S × Nat)) (out : List M) (n : Nat), (∀ t ∈ out, f t ≤ n) → ∀ t ∈ xs.foldl (pileStep room add z) out, f t ≤ n + xs.length
  | [], out, n, h => h
  | x :: r, out, n, h => by
    intro t ht
    have h2 : ∀ t ∈ pileStep room add z out x, f t ≤ n + 1 := by
      intro t ht
      unfold pileStep at ht
      split at ht
      · rename_i u hu
        split at ht
        · rcases List.mem_or_eq_of_mem_set ht with h1 | h1
          · have := h t h1; omega
          · rw [h1, hs]; have := h u (List.mem_of_getLast? hu); omega
        · rcases List.mem_append.1 ht with h1 | h1
          · have := h t h1; omega
          · rw [List.mem_singleton.1 h1]; have := hz x.2 x.1; omega
      · rcases List.mem_append.1 ht with h1 | h1
        · have := h t h1; omega
        · rw [List.mem_singleton.1 h1]; have := hz x.2 x.1; omega
    have := pile_sum f hz hs r _ (n + 1) h2 t ht
    simp only [List.length_cons]; omega
theorem lay_lens {p : PalletM} (xs : List (ShelfM × Nat)) (k : Nat) : ∀ t ∈ (xs.take k).foldl (pileStep (layRoom p) layAdd layZ) [], t.l.length ≤ k := by
  intro t ht
  have := pile_sum (room := layRoom p) (add := layAdd) (z := layZ) (fun t => t.l.length) (by simp [layAdd, layZ]) (by simp [layAdd]) (xs.take k) [] 0 (by simp) t ht
  rw [List.length_take] at this; omega
theorem load_lens {p : PalletM} (xs : List (LayerM × Nat)) (k : Nat) : ∀ t ∈ (xs.take k).foldl (pileStep (loadRoom p) loadAdd loadZ) [], t.l.length ≤ k := by
  intro t ht
  have := pile_sum (room := loadRoom p) (add := loadAdd) (z := loadZ) (fun t => t.l.length) (by simp [loadAdd, loadZ]) (by simp [loadAdd]) (xs.take k) [] 0 (by simp) t ht
  rw [List.length_take] at this; omega

theorem implLayersOf_any (p : PalletM) {v : Value} {l : List (ShelfM × Value)} (w : World) (h : Rd w v 5 (l.map ShelfM.cells)) (hb : l.length ≤ 1048576) :
    Fn Try.prog 36 [p.val, v] w (fun x : Value × List (LayerM × Value) => x.1.oneCell' = true ∧ x.2.map Prod.fst = layersM p (l.map Prod.fst)) (fun x => x.1) (fun x => [.grp 3 1 (x.2.map (sub LayerM.l)), .row x.1 61 4 (x.2.map LayerM.cells)]) := by
  have pile_lens : ∀ (xs : List (ShelfM × Nat)) (k : Nat), ∀ t ∈ (xs.take k).foldl (pileStep (layRoom p) layAdd layZ) [], t.l.length ≤ k := fun xs k => lay_lens xs k
  refine Fn.of (n := 102) Try.func36 rfl rfl ?_
  refine G.seq ?_
  refine G.region ?_
  refine G.op (og_box rfl rfl) rfl (fun bk2 _ => ?_)
  refine G.v (rv_assign rfl) rfl ?_
  refine G.done ?_
  refine G.thenN ?_
  refine G.seq ?_
  refine G.seq ?_
  refine G.region ?_
  (refine G.v (rv_loadW 0 rfl rfl rfl) rfl ?_)
  refine G.v (rv_move rfl) rfl ?_
  refine G.op (og_callV rfl rfl (fun w hh => implShelvesOk_any _ w (by exact Rd.stays (by assumption) _ hh))) rfl (fun _ _ => ?_)
  refine G.v (rv_not rfl) rfl ?_
  refine G.done ?_
  refine G.thenN ?_
  refine G.cond rfl (fun hc => ?_) (fun hc => ?_)
  · try exact Bool.noConfusion hc
    all_goals
     try replace hc := of_decide_eq_true hc
     try simp only [List.length_map] at hc
     try (exfalso; contradiction)
     all_goals
      refine G.seq ?_
      refine G.region ?_
      refine G.v (rv_assign rfl) rfl ?_
      refine G.done ?_
      refine G.thenN ?_
      refine G.ret ?_
      refine G.thenR ?_
      (exact G.retF (.slice none 0 0, []) ⟨rfl, by rw [layersM, if_neg (by intro hq; simp only [shelvesOkM] at hq; rw [hq] at hc; exact Bool.noConfusion hc)]; rfl⟩ rfl rfl rfl (fun w hw => (hw.none.nilRow _ _).nilGrp _ _))
  · try exact Bool.noConfusion hc
    all_goals
     try replace hc := of_decide_eq_false hc
     try simp only [List.length_map] at hc
     try (exfalso; contradiction)
     all_goals
      refine G.skip ?_
      refine G.thenN ?_
      refine G.seq ?_
      refine G.region ?_
      refine G.op (og_lit rfl .nil rfl rfl rfl rfl rfl rfl) rfl (fun vl _ => ?_)
      refine G.v (rv_assign rfl) rfl ?_
      refine G.done ?_
      refine G.thenN ?_
      refine G.seq ?_
      refine G.seq ?_
      refine G.region ?_
      refine G.v (rv_move rfl) rfl ?_
      refine G.v (rv_len rfl (by exact Rd.stays (by assumption))) rfl ?_
      refine G.v (rv_move rfl) rfl ?_
      refine G.done ?_
      refine G.thenN ?_
      refine G.block ?_
      -- loop 0: turned [5, 17], kept [2, 15, 16]
      have hok := hc
      have hpp := pallet_in (palletOk_of hc)
      refine G.heap (fun w hh => hh.nilGrp 3 1) ?_
      refine G.loopK (ι := Nat × List (LayerM × Value) × Value) (ks := [2, 15, 16]) (fun x => [(5, x.2.2), (17, .int .i64 x.1)]) (fun x => [.grp 3 1 (x.2.1.map (sub LayerM.l)), .row x.2.2 61 4 (x.2.1.map LayerM.cells)]) (fun x => x.1 ≤ l.length ∧ x.2.1.map Prod.fst = ((l.map Prod.fst).zipIdx.take x.1).foldl (pileStep (layRoom p) layAdd layZ) []) (fun x => l.length - x.1) (0, [], vl) (.cons rfl (.cons rfl (.cons rfl (.nil)))) rfl ?_ ?_ ?_
      · exact ⟨Nat.zero_le _, rfl⟩
      · exact ⟨rfl, rfl, trivial⟩
      rintro ⟨k, ts, v2⟩ ⟨hk, hM⟩
      dsimp only at hk hM ⊢
      by_cases hlt : k < l.length
      case' pos => (obtain ⟨b, hb2⟩ := get_of_lt hlt; have heb := get_map hb2 ShelfM.cells; have hobb := heap_in (ok_at hok (fst_at hb2 : (l.map Prod.fst)[k]? = some b.1)).2; have hov : b.2.oneCell' = true := (h.good _ (List.mem_of_getElem? heb)).2 b.2 (by simp [ShelfM.cells]); have hz := zip_get (fst_at hb2 : (l.map Prod.fst)[k]? = some b.1); have hl0 : (ts.map LayerM.cells).length = ts.length := (by simp); have hlk : ts.length ≤ k := (by (have := pile_len (room := layRoom p) (add := layAdd) (z := layZ) ((l.map Prod.fst).zipIdx.take k) []; rw [← hM] at this; simp only [List.length_map, List.length_nil, List.length_take] at this; omega)); rcases nil_or_snoc ts with hts | ⟨tp, t, hts⟩; have hn0 : ts.length = 0 := (by rw [hts]; rfl); rotate_left; have hn1 : ts.length = tp.length + 1 := (by (rw [hts]; simp)); obtain ⟨q, hq⟩ : ∃ y, y = tp.length := ⟨_, rfl⟩; have htq : ts[q]? = some t := (by (rw [hq]; exact get_last hts)); have he := get_map htq LayerM.cells; have hgi : (ts.map (sub LayerM.l))[q]? = some (t.2, t.1.l.map icell) := get_mapS htq; have hbt : 0 ≤ t.1.d ∧ t.1.d ≤ p.d ∧ 0 ≤ t.1.h ∧ t.1.h ≤ p.h ∧ 0 ≤ t.1.g ∧ t.1.g ≤ p.g := (by (have := lay_bd (p := p) (ss := (l.map Prod.fst)) (bnot_no hok) k; rw [← hM] at this; exact this t.1 (List.mem_map.2 ⟨t, List.mem_of_getElem? htq, rfl⟩))); refine G.know (fun w hw => (Rd.grp 0 rfl (List.mem_of_getElem? hgi) w hw).one_) (fun hov2 => ?_); have hlb : t.1.l.length ≤ 1048576 := (by (have := pile_lens (l.map Prod.fst).zipIdx k; rw [← hM] at this; have := this t.1 (List.mem_map.2 ⟨t, List.mem_of_getElem? htq, rfl⟩); omega)))
      all_goals
       refine G.seq ?_
       refine G.region ?_
       refine G.v (rv_lss rfl rfl) rfl ?_
       refine G.done ?_
       refine G.thenN ?_
       refine G.seq ?_
       refine G.cond rfl (fun hc => ?_) (fun hc => ?_)
       · try exact Bool.noConfusion hc
         all_goals
          try replace hc := of_decide_eq_true hc
          try simp only [List.length_map] at hc
          try (exfalso; omega)
          all_goals
           refine G.skip ?_
           refine G.thenN ?_
           refine G.seq ?_
           refine G.block ?_
           refine G.seq ?_
           refine G.region ?_
           refine G.v (rv_move rfl) rfl ?_
           (refine G.v (rv_indexH rfl rfl (by exact Rd.stays (by assumption)) rfl (by exact heb)) rfl ?_)
           (refine G.v (rv_loadEW rfl (by exact Rd.stays (by assumption)) (by exact heb) rfl) rfl ?_)
           refine G.op (og_alloc) rfl (fun bk7 _ => ?_)
           refine G.v (rv_assign rfl) rfl ?_
           (refine G.op0 (og_st0 rfl rfl rfl rfl rfl (by repeat (first | rfl | refine one_cons (by assumption) ?_)) (.zero (.cons (.cons (.cons (.cons (.cons .nil))))))) (fun _ _ => ?_))
           refine G.done ?_
           refine G.thenN ?_
           refine G.seq ?_
           refine G.region ?_
           refine G.v (rv_move rfl) rfl ?_
           refine G.v (rv_len rfl (by exact Rd.owned 2 rfl)) rfl ?_
           (first | refine G.v (rv_decr rfl rfl (by omega) (by omega)) rfl ?_ | refine G.v (rv_subB rfl rfl (by omega) (by omega)) rfl ?_)
           refine G.v (rv_assign rfl) rfl ?_
           refine G.done ?_
           refine G.thenN ?_
           refine G.seq ?_
           refine G.seq ?_
           refine G.drawL [] ?_
           refine GE.ol 0 (by kernel_rfl) rfl rfl (og_runs (rv_move rfl)) rfl (fun _ _ h => by exact h) (fun _ _ => ?_)
           refine GE.ol 1 (by kernel_rfl) rfl rfl (og_runs (rv_lss rfl rfl)) rfl (fun _ _ h => by exact h) (fun _ _ => ?_)
           refine GE.ol 2 (by kernel_rfl) rfl rfl (og_runs (rv_move rfl)) rfl (fun _ _ h => by exact h) (fun _ _ => ?_)
           all_goals (((with_reducible refine GE.part (t := 27) rfl (fun hg => ?_) (fun hg => ?_)) <;> (try exact Bool.noConfusion hg) <;> (try (exfalso; (have hq := of_decide_eq_false hg; omega))) <;> (first | refine GE.q 3 rfl (by kernel_rfl) rfl (qg_runs (rv_move rfl)) rfl ?_ | refine GE.qn 3 rfl (by kernel_rfl) rfl rfl ?_)))
           all_goals ((first | refine GE.q 4 rfl (by kernel_rfl) rfl (qg_runs (rv_move rfl)) rfl ?_ | refine GE.qn 4 rfl (by kernel_rfl) rfl rfl ?_))
           all_goals ((first | (refine GE.q 5 rfl (by kernel_rfl) rfl (qg_runs (rv_indexH (k := q) rfl rfl (by exact Rd.owned 2 rfl) (by omega) (by exact he))) rfl ?_) | refine GE.qn 5 rfl (by kernel_rfl) rfl rfl ?_))
           all_goals ((first | (refine GE.q 6 rfl (by kernel_rfl) rfl (qg_runs (rv_fieldE rfl)) rfl ?_) | refine GE.qn 6 rfl (by kernel_rfl) rfl rfl ?_))
           all_goals ((first | refine GE.q 7 rfl (by kernel_rfl) rfl (qg_runs (rv_loadE rfl (by first | exact Rd.stays (by assumption) | exact Rd.owned 2 rfl) (by first | exact he | exact heb) rfl)) rfl ?_ | refine GE.qn 7 rfl (by kernel_rfl) rfl rfl ?_))
           all_goals ((first | (refine GE.q 8 rfl (by kernel_rfl) rfl (qg_runs (rv_field rfl)) rfl ?_) | refine GE.qn 8 rfl (by kernel_rfl) rfl rfl ?_))
           all_goals ((first | (refine GE.q 9 rfl (by kernel_rfl) rfl (qg_runs (rv_load1 0 rfl rfl rfl)) rfl ?_) | refine GE.qn 9 rfl (by kernel_rfl) rfl rfl ?_))
           all_goals ((first | (refine GE.q 10 rfl (by kernel_rfl) rfl (qg_runs (rv_addB rfl rfl (by omega) (by omega))) rfl ?_) | refine GE.qn 10 rfl (by kernel_rfl) rfl rfl ?_))
           all_goals ((first | (refine GE.q 11 rfl (by kernel_rfl) rfl (qg_runs (rv_field rfl)) rfl ?_) | refine GE.qn 11 rfl (by kernel_rfl) rfl rfl ?_))
           all_goals ((first | (refine GE.q 12 rfl (by kernel_rfl) rfl (qg_runs (rv_load1 3 rfl rfl rfl)) rfl ?_) | refine GE.qn 12 rfl (by kernel_rfl) rfl rfl ?_))
           all_goals ((first | refine GE.q 13 rfl (by kernel_rfl) rfl (qg_runs (rv_gtr rfl rfl)) rfl ?_ | refine GE.qn 13 rfl (by kernel_rfl) rfl rfl ?_))
           all_goals ((first | refine GE.ol 14 (by kernel_rfl) rfl rfl (og_runs (rv_pickT rfl rfl)) rfl (fun _ _ h => by exact h) (fun _ _ => ?_) | refine GE.ol 14 (by kernel_rfl) rfl rfl (og_runs (rv_pickF rfl rfl)) rfl (fun _ _ h => by exact h) (fun _ _ => ?_)))
           all_goals (refine GE.ol 15 (by kernel_rfl) rfl rfl (og_runs (rv_move rfl)) rfl (fun _ _ h => by exact h) (fun _ _ => ?_))
           all_goals (((with_reducible refine GE.part (t := 40) rfl (fun hg => ?_) (fun hg => ?_)) <;> (try exact Bool.noConfusion hg) <;> (try (exfalso; (have hq := of_decide_eq_false hg; omega))) <;> (first | refine GE.q 16 rfl (by kernel_rfl) rfl (qg_runs (rv_move rfl)) rfl ?_ | refine GE.qn 16 rfl (by kernel_rfl) rfl rfl ?_)))
           all_goals ((first | refine GE.q 17 rfl (by kernel_rfl) rfl (qg_runs (rv_move rfl)) rfl ?_ | refine GE.qn 17 rfl (by kernel_rfl) rfl rfl ?_))
           all_goals ((first | (refine GE.q 18 rfl (by kernel_rfl) rfl (qg_runs (rv_indexH (k := q) rfl rfl (by exact Rd.owned 2 rfl) (by omega) (by exact he))) rfl ?_) | refine GE.qn 18 rfl (by kernel_rfl) rfl rfl ?_))
           all_goals ((first | (refine GE.q 19 rfl (by kernel_rfl) rfl (qg_runs (rv_fieldE rfl)) rfl ?_) | refine GE.qn 19 rfl (by kernel_rfl) rfl rfl ?_))
           all_goals ((first | refine GE.q 20 rfl (by kernel_rfl) rfl (qg_runs (rv_loadE rfl (by first | exact Rd.stays (by assumption) | exact Rd.owned 2 rfl) (by first | exact he | exact heb) rfl)) rfl ?_ | refine GE.qn 20 rfl (by kernel_rfl) rfl rfl ?_))
           all_goals ((first | (refine GE.q 21 rfl (by kernel_rfl) rfl (qg_runs (rv_field rfl)) rfl ?_) | refine GE.qn 21 rfl (by kernel_rfl) rfl rfl ?_))
           all_goals ((first | (refine GE.q 22 rfl (by kernel_rfl) rfl (qg_runs (rv_load1 0 rfl rfl rfl)) rfl ?_) | refine GE.qn 22 rfl (by kernel_rfl) rfl rfl ?_))
           all_goals ((first | (refine GE.q 23 rfl (by kernel_rfl) rfl (qg_runs (rv_addB rfl rfl (by omega) (by omega))) rfl ?_) | refine GE.qn 23 rfl (by kernel_rfl) rfl rfl ?_))
           all_goals ((first | (refine GE.q 24 rfl (by kernel_rfl) rfl (qg_runs (rv_field rfl)) rfl ?_) | refine GE.qn 24 rfl (by kernel_rfl) rfl rfl ?_))
           all_goals ((first | (refine GE.q 25 rfl (by kernel_rfl) rfl (qg_runs (rv_load1 3 rfl rfl rfl)) rfl ?_) | refine GE.qn 25 rfl (by kernel_rfl) rfl rfl ?_))
           all_goals ((first | refine GE.q 26 rfl (by kernel_rfl) rfl (qg_runs (rv_gtr rfl rfl)) rfl ?_ | refine GE.qn 26 rfl (by kernel_rfl) rfl rfl ?_))
           all_goals ((first | refine GE.ol 27 (by kernel_rfl) rfl rfl (og_runs (rv_pickT rfl rfl)) rfl (fun _ _ h => by exact h) (fun _ _ => ?_) | refine GE.ol 27 (by kernel_rfl) rfl rfl (og_runs (rv_pickF rfl rfl)) rfl (fun _ _ h => by exact h) (fun _ _ => ?_)))
           all_goals
            refine GE.done (by kernel_rfl) ?_
            refine G.thenN ?_
            refine G.cond rfl (fun hc => ?_) (fun hc => ?_)
            · try exact Bool.noConfusion hc
              all_goals
               try replace hc := of_decide_eq_true hc
               try simp only [List.length_map] at hc
               try (exfalso; contradiction)
               all_goals
                refine G.seq ?_
                refine G.region ?_
                refine G.v (rv_move rfl) rfl ?_
                refine G.v (rv_build2 rfl .nil .nil) rfl ?_
                refine G.op (og_lit rfl (.cons rfl .nil) rfl rfl rfl rfl rfl rfl) rfl (fun vl _ => ?_)
                ((refine G.op (og_app3 rfl rfl rfl (by exact Rd.owned 0 rfl) rfl rfl (by simp; omega) (by simp; omega)) rfl (fun va _ => ?_)))
                refine G.v (rv_assign rfl) rfl ?_
                refine G.done ?_
                refine G.thenN ?_
                refine G.region ?_
                refine G.v (rv_move rfl) rfl ?_
                (first | refine G.v (rv_incr rfl rfl (by omega)) rfl ?_ | refine G.v (rv_addB rfl rfl (by omega) (by omega)) rfl ?_)
                obtain ⟨q, hq⟩ : ∃ y, y = ts.length := ⟨_, rfl⟩
                obtain ⟨t, htt⟩ : ∃ y, y = ((layZ, .slice none 0 0) : LayerM × Value) := ⟨_, rfl⟩
                obtain ⟨us, hus⟩ : ∃ y, y = ts ++ [t] := ⟨_, rfl⟩
                obtain ⟨vr, hvr⟩ : ∃ y, y = va := ⟨_, rfl⟩
                subst hvr
                have huq : us[q]? = some t := by rw [hus, hq]; simp
                have he : (us.map LayerM.cells)[q]? = some (LayerM.cells t) := get_map huq LayerM.cells
                have hgi : (us.map (sub LayerM.l))[q]? = some (t.2, t.1.l.map icell) := get_mapS huq
                have hl1 : (us.map LayerM.cells).length = q + 1 := by rw [hus, hq]; simp
                have hzd : t.1.d = 0 := (by rw [htt]; rfl); have hzh : t.1.h = 0 := (by rw [htt]; rfl); have hzg : t.1.g = 0 := (by rw [htt]; rfl)
                have htl : t.1.l.length = 0 := by rw [htt]; rfl
                have hov2 : t.2.oneCell' = true := by rw [htt]; rfl
                have hst : pileStep (layRoom p) layAdd layZ (ts.map Prod.fst) (b.1, k) = (us.map Prod.fst).set q (layAdd t.1 k b.1) := by
                  have e : us.map Prod.fst = ts.map Prod.fst ++ [layZ] := by rw [hus, htt]; simp
                  rw [e, htt, hq]
                  have := pile_new (room := layRoom p) (add := layAdd) (z := layZ) (out := ts.map Prod.fst) (s := b.1) (k := k) (by intro t2 ht2; first | (rw [hts] at ht2; simp at ht2; done) | (rw [last_of hts] at ht2; obtain rfl := Option.some.inj ht2; simp only [layRoom, Bool.and_eq_false_iff, decide_eq_false_iff_not]; (first | (have hq9 := of_decide_eq_true hg; omega) | omega)))
                  rw [this]; simp
                (refine G.frontR3 vr rfl ?_)
                refine G.rowEq (us.map LayerM.cells) (by rw [hus, htt]; simp [LayerM.cells, layZ]) rfl ?_
                (refine G.frontG3 _ rfl ?_)
                refine G.pushNil (us.map (sub LayerM.l)) (by rw [hus, htt]; simp [sub, layZ]) rfl ?_
                refine G.v (rv_assign rfl) rfl ?_
                refine G.done ?_
                refine G.thenN ?_
                refine G.seq ?_
                refine G.region ?_
                refine G.v (rv_move rfl) rfl ?_
                refine G.v (rv_move rfl) rfl ?_
                (refine G.v (rv_indexH (k := q) rfl rfl (by exact Rd.owned 1 rfl) (by omega) (by exact he)) rfl ?_)
                refine G.v (rv_assign rfl) rfl ?_
                refine G.done ?_
                refine G.thenN ?_
                refine G.seq ?_
                refine G.region ?_
                refine G.v (rv_move rfl) rfl ?_
                refine G.v (rv_move rfl) rfl ?_
                (refine G.v (rv_nilCheckE rfl) rfl ?_)
                (refine G.v (rv_fieldE rfl) rfl ?_)
                refine G.v (rv_loadE rfl (by exact Rd.owned 1 rfl) (by exact he) rfl) rfl ?_
                refine G.v (rv_move rfl) rfl ?_
                refine G.op (og_lit rfl (.cons rfl .nil) rfl rfl rfl rfl rfl rfl) rfl (fun vl _ => ?_)
                ((refine G.op (og_appG1 rfl rfl rfl hgi (by exact Rd.owned 0 rfl) rfl rfl (by simp; omega) (by simp; omega)) rfl (fun va _ => ?_)))
                skip; refine G.know (fun w hw => (Rd.grp 1 rfl (List.mem_of_getElem? (get_set1 hgi)) w hw).one_) (fun hova => ?_)
                (refine G.v (rv_nilCheckE rfl) rfl ?_)
                (refine G.v (rv_fieldE rfl) rfl ?_)
                (refine G.op0 (og_stE2 rfl rfl rfl (by exact he) (cells_one (by assumption)) rfl (by repeat (first | rfl | refine one_cons (by assumption) ?_)) rfl (.zero (.cons .nil))) (fun _ _ => ?_))
                refine G.done ?_
                refine G.thenN ?_
                refine G.seq ?_
                refine G.drawL [7, 8, 9] ?_
                refine GE.q 0 rfl (by kernel_rfl) rfl (qg_runs (rv_move rfl)) rfl ?_
                (refine GE.q 1 rfl (by kernel_rfl) rfl (qg_runs (rv_nilCheckE rfl)) rfl ?_)
                (refine GE.q 2 rfl (by kernel_rfl) rfl (qg_runs (rv_fieldE rfl)) rfl ?_)
                refine GE.q 3 rfl (by kernel_rfl) rfl (qg_runs (rv_loadE rfl (by exact Rd.owned 2 rfl) (by exact get_set1 he) rfl)) rfl ?_
                (refine GE.ol 4 (by kernel_rfl) rfl rfl (og_runs (rv_field rfl)) rfl (fun _ _ h => by exact h) (fun _ _ => ?_))
                (refine GE.ol 5 (by kernel_rfl) rfl rfl (og_runs (rv_load1 4 rfl rfl rfl)) rfl (fun _ _ h => by exact h) (fun _ _ => ?_))
                (refine GE.ol 6 (by kernel_rfl) rfl rfl (og_runs (rv_addB rfl rfl (by omega) (by omega))) rfl (fun _ _ h => by exact h) (fun _ _ => ?_))
                (refine GE.t 7 (by kernel_rfl) rfl rfl rfl (og_runs (rv_nilCheckE rfl)) rfl (fun _ _ => ?_))
                (refine GE.t 8 (by kernel_rfl) rfl rfl rfl (og_runs (rv_fieldE rfl)) rfl (fun _ _ => ?_))
                (refine GE.t0 9 (by kernel_rfl) rfl rfl rfl (og_stE2 rfl rfl rfl (by exact get_set1 he) rfl rfl rfl rfl (.succ (.zero (.cons .nil)))) (fun _ _ => ?_))
                refine GE.done (by kernel_rfl) ?_
                refine G.thenN ?_
                refine G.seq ?_
                refine G.drawL [8, 9, 10] ?_
                refine GE.q 0 rfl (by kernel_rfl) rfl (qg_runs (rv_move rfl)) rfl ?_
                refine GE.q 1 rfl (by kernel_rfl) rfl (qg_runs (rv_move rfl)) rfl ?_
                (refine GE.q 2 rfl (by kernel_rfl) rfl (qg_runs (rv_nilCheckE rfl)) rfl ?_)
                (refine GE.q 3 rfl (by kernel_rfl) rfl (qg_runs (rv_fieldE rfl)) rfl ?_)
                refine GE.q 4 rfl (by kernel_rfl) rfl (qg_runs (rv_loadE rfl (by exact Rd.owned 2 rfl) (by exact get_set1 (get_set1 he)) rfl)) rfl ?_
                (refine GE.ol 5 (by kernel_rfl) rfl rfl (og_runs (rv_field rfl)) rfl (fun _ _ h => by exact h) (fun _ _ => ?_))
                (refine GE.ol 6 (by kernel_rfl) rfl rfl (og_runs (rv_load1 4 rfl rfl rfl)) rfl (fun _ _ h => by exact h) (fun _ _ => ?_))
                refine GE.ol 7 (by kernel_rfl) rfl rfl (og_runs (rv_max rfl rfl)) rfl (fun _ _ h => by exact h) (fun _ _ => ?_)
                (refine GE.t 8 (by kernel_rfl) rfl rfl rfl (og_runs (rv_nilCheckE rfl)) rfl (fun _ _ => ?_))
                (refine GE.t 9 (by kernel_rfl) rfl rfl rfl (og_runs (rv_fieldE rfl)) rfl (fun _ _ => ?_))
                (refine GE.t0 10 (by kernel_rfl) rfl rfl rfl (og_stE2 rfl rfl rfl (by exact get_set1 (get_set1 he)) rfl rfl rfl rfl (.succ (.succ (.zero (.cons .nil))))) (fun _ _ => ?_))
                refine GE.done (by kernel_rfl) ?_
                refine G.thenN ?_
                refine G.drawL [7, 8, 9] ?_
                refine GE.q 0 rfl (by kernel_rfl) rfl (qg_runs (rv_move rfl)) rfl ?_
                (refine GE.q 1 rfl (by kernel_rfl) rfl (qg_runs (rv_nilCheckE rfl)) rfl ?_)
                (refine GE.q 2 rfl (by kernel_rfl) rfl (qg_runs (rv_fieldE rfl)) rfl ?_)
                refine GE.q 3 rfl (by kernel_rfl) rfl (qg_runs (rv_loadE rfl (by exact Rd.owned 2 rfl) (by exact get_set1 (get_set1 (get_set1 he))) rfl)) rfl ?_
                (refine GE.ol 4 (by kernel_rfl) rfl rfl (og_runs (rv_field rfl)) rfl (fun _ _ h => by exact h) (fun _ _ => ?_))
                (refine GE.ol 5 (by kernel_rfl) rfl rfl (og_runs (rv_load1 4 rfl rfl rfl)) rfl (fun _ _ h => by exact h) (fun _ _ => ?_))
                (refine GE.ol 6 (by kernel_rfl) rfl rfl (og_runs (rv_addB rfl rfl (by omega) (by omega))) rfl (fun _ _ h => by exact h) (fun _ _ => ?_))
                (refine GE.t 7 (by kernel_rfl) rfl rfl rfl (og_runs (rv_nilCheckE rfl)) rfl (fun _ _ => ?_))
                (refine GE.t 8 (by kernel_rfl) rfl rfl rfl (og_runs (rv_fieldE rfl)) rfl (fun _ _ => ?_))
                (refine GE.t0 9 (by kernel_rfl) rfl rfl rfl (og_stE2 rfl rfl rfl (by exact get_set1 (get_set1 (get_set1 he))) rfl rfl rfl rfl (.succ (.succ (.succ (.zero (.cons .nil)))))) (fun _ _ => ?_))
                refine GE.done (by kernel_rfl) ?_
                refine G.inN ?_
                refine G.thenN ?_
                refine G.region ?_
                (refine G.v (rv_incr rfl rfl (by omega)) rfl ?_)
                refine G.v (rv_move rfl) rfl ?_
                refine G.done ?_
                (refine G.frontR2 vr rfl ?_)
                (refine G.frontG2 _ rfl ?_)
                (refine G.keep2 3 rfl ?_; refine G.backK (k + 1, us.set q (layAdd t.1 k b.1, va), vr) 0 (two_eq (congrArg (fun z => Ch.grp 3 1 z) (sub_set (by simp only [layAdd, List.map_append, List.map_cons, List.map_nil, icell]))) (congrArg (fun z => Ch.row vr 61 4 z) (by rw [List.set_set, List.set_set, List.set_set]; exact cells_set rfl))) (.cons rfl (.cons rfl (.cons rfl (.nil)))) ?_ ?_ ?_)
                · exact ⟨rfl, rfl, trivial⟩
                · exact ⟨hlt, by rw [foldl_take_succ hz, ← hM, hst, List.map_set]⟩
                · omega
            · try exact Bool.noConfusion hc
              all_goals
               try replace hc := of_decide_eq_false hc
               try simp only [List.length_map] at hc
               try (exfalso; contradiction)
               all_goals
                obtain ⟨us, hus⟩ : ∃ y, y = ts := ⟨_, rfl⟩
                obtain ⟨vr, hvr⟩ : ∃ y, y = v2 := ⟨_, rfl⟩
                have hl1 : (us.map LayerM.cells).length = q + 1 := by rw [hus]; omega
                have htl : t.1.l.length ≤ 1048576 := hlb
                have hst : pileStep (layRoom p) layAdd layZ (ts.map Prod.fst) (b.1, k) = (us.map Prod.fst).set q (layAdd t.1 k b.1) := by
                  rw [hus]; exact pile_room (fst_at htq) (by rw [List.length_map]; omega) (by simp only [layRoom, Bool.and_eq_true, decide_eq_true_eq]; ((have hq9 := of_decide_eq_false hg; omega)))
                subst hvr hus
                all_goals
                 refine G.skip ?_
                 refine G.thenN ?_
                 refine G.seq ?_
                 refine G.region ?_
                 refine G.v (rv_move rfl) rfl ?_
                 refine G.v (rv_move rfl) rfl ?_
                 (refine G.v (rv_indexH (k := q) rfl rfl (by exact Rd.owned 2 rfl) (by omega) (by exact he)) rfl ?_)
                 refine G.v (rv_assign rfl) rfl ?_
                 refine G.done ?_
                 refine G.thenN ?_
                 refine G.seq ?_
                 refine G.region ?_
                 refine G.v (rv_move rfl) rfl ?_
                 refine G.v (rv_move rfl) rfl ?_
                 (refine G.v (rv_nilCheckE rfl) rfl ?_)
                 (refine G.v (rv_fieldE rfl) rfl ?_)
                 refine G.v (rv_loadE rfl (by exact Rd.owned 2 rfl) (by exact he) rfl) rfl ?_
                 refine G.v (rv_move rfl) rfl ?_
                 refine G.op (og_lit rfl (.cons rfl .nil) rfl rfl rfl rfl rfl rfl) rfl (fun vl _ => ?_)
                 ((refine G.op (og_appG2 rfl rfl rfl hgi (by exact Rd.owned 0 rfl) rfl rfl (by simp; omega) (by simp; omega)) rfl (fun va _ => ?_)))
                 skip; refine G.know (fun w hw => (Rd.grp 2 rfl (List.mem_of_getElem? (get_set1 hgi)) w hw).one_) (fun hova => ?_)
                 (refine G.v (rv_nilCheckE rfl) rfl ?_)
                 (refine G.v (rv_fieldE rfl) rfl ?_)
                 (refine G.op0 (og_stE3 rfl rfl rfl (by exact he) (cells_one (by assumption)) rfl (by repeat (first | rfl | refine one_cons (by assumption) ?_)) rfl (.zero (.cons .nil))) (fun _ _ => ?_))
                 refine G.done ?_
                 refine G.thenN ?_
                 refine G.seq ?_
                 refine G.drawL [7, 8, 9] ?_
                 refine GE.q 0 rfl (by kernel_rfl) rfl (qg_runs (rv_move rfl)) rfl ?_
                 (refine GE.q 1 rfl (by kernel_rfl) rfl (qg_runs (rv_nilCheckE rfl)) rfl ?_)
                 (refine GE.q 2 rfl (by kernel_rfl) rfl (qg_runs (rv_fieldE rfl)) rfl ?_)
                 refine GE.q 3 rfl (by kernel_rfl) rfl (qg_runs (rv_loadE rfl (by exact Rd.owned 3 rfl) (by exact get_set1 he) rfl)) rfl ?_
                 (refine GE.ol 4 (by kernel_rfl) rfl rfl (og_runs (rv_field rfl)) rfl (fun _ _ h => by exact h) (fun _ _ => ?_))
                 (refine GE.ol 5 (by kernel_rfl) rfl rfl (og_runs (rv_load1 1 rfl rfl rfl)) rfl (fun _ _ h => by exact h) (fun _ _ => ?_))
                 (refine GE.ol 6 (by kernel_rfl) rfl rfl (og_runs (rv_addB rfl rfl (by omega) (by omega))) rfl (fun _ _ h => by exact h) (fun _ _ => ?_))
                 (refine GE.t 7 (by kernel_rfl) rfl rfl rfl (og_runs (rv_nilCheckE rfl)) rfl (fun _ _ => ?_))
                 (refine GE.t 8 (by kernel_rfl) rfl rfl rfl (og_runs (rv_fieldE rfl)) rfl (fun _ _ => ?_))
                 (refine GE.t0 9 (by kernel_rfl) rfl rfl rfl (og_stE3 rfl rfl rfl (by exact get_set1 he) rfl rfl rfl rfl (.succ (.zero (.cons .nil)))) (fun _ _ => ?_))
                 refine GE.done (by kernel_rfl) ?_
                 refine G.thenN ?_
                 refine G.seq ?_
                 refine G.drawL [8, 9, 10] ?_
                 refine GE.q 0 rfl (by kernel_rfl) rfl (qg_runs (rv_move rfl)) rfl ?_
                 refine GE.q 1 rfl (by kernel_rfl) rfl (qg_runs (rv_move rfl)) rfl ?_
                 (refine GE.q 2 rfl (by kernel_rfl) rfl (qg_runs (rv_nilCheckE rfl)) rfl ?_)
                 (refine GE.q 3 rfl (by kernel_rfl) rfl (qg_runs (rv_fieldE rfl)) rfl ?_)
                 refine GE.q 4 rfl (by kernel_rfl) rfl (qg_runs (rv_loadE rfl (by exact Rd.owned 3 rfl) (by exact get_set1 (get_set1 he)) rfl)) rfl ?_
                 (refine GE.ol 5 (by kernel_rfl) rfl rfl (og_runs (rv_field rfl)) rfl (fun _ _ h => by exact h) (fun _ _ => ?_))
                 (refine GE.ol 6 (by kernel_rfl) rfl rfl (og_runs (rv_load1 1 rfl rfl rfl)) rfl (fun _ _ h => by exact h) (fun _ _ => ?_))
                 refine GE.ol 7 (by kernel_rfl) rfl rfl (og_runs (rv_max rfl rfl)) rfl (fun _ _ h => by exact h) (fun _ _ => ?_)
                 (refine GE.t 8 (by kernel_rfl) rfl rfl rfl (og_runs (rv_nilCheckE rfl)) rfl (fun _ _ => ?_))
                 (refine GE.t 9 (by kernel_rfl) rfl rfl rfl (og_runs (rv_fieldE rfl)) rfl (fun _ _ => ?_))
                 (refine GE.t0 10 (by kernel_rfl) rfl rfl rfl (og_stE3 rfl rfl rfl (by exact get_set1 (get_set1 he)) rfl rfl rfl rfl (.succ (.succ (.zero (.cons .nil))))) (fun _ _ => ?_))
                 refine GE.done (by kernel_rfl) ?_
                 refine G.thenN ?_
                 refine G.drawL [7, 8, 9] ?_
                 refine GE.q 0 rfl (by kernel_rfl) rfl (qg_runs (rv_move rfl)) rfl ?_
                 (refine GE.q 1 rfl (by kernel_rfl) rfl (qg_runs (rv_nilCheckE rfl)) rfl ?_)
                 (refine GE.q 2 rfl (by kernel_rfl) rfl (qg_runs (rv_fieldE rfl)) rfl ?_)
                 refine GE.q 3 rfl (by kernel_rfl) rfl (qg_runs (rv_loadE rfl (by exact Rd.owned 3 rfl) (by exact get_set1 (get_set1 (get_set1 he))) rfl)) rfl ?_
                 (refine GE.ol 4 (by kernel_rfl) rfl rfl (og_runs (rv_field rfl)) rfl (fun _ _ h => by exact h) (fun _ _ => ?_))
                 (refine GE.ol 5 (by kernel_rfl) rfl rfl (og_runs (rv_load1 1 rfl rfl rfl)) rfl (fun _ _ h => by exact h) (fun _ _ => ?_))
                 (refine GE.ol 6 (by kernel_rfl) rfl rfl (og_runs (rv_addB rfl rfl (by omega) (by omega))) rfl (fun _ _ h => by exact h) (fun _ _ => ?_))
                 (refine GE.t 7 (by kernel_rfl) rfl rfl rfl (og_runs (rv_nilCheckE rfl)) rfl (fun _ _ => ?_))
                 (refine GE.t 8 (by kernel_rfl) rfl rfl rfl (og_runs (rv_fieldE rfl)) rfl (fun _ _ => ?_))
                 (refine GE.t0 9 (by kernel_rfl) rfl rfl rfl (og_stE3 rfl rfl rfl (by exact get_set1 (get_set1 (get_set1 he))) rfl rfl rfl rfl (.succ (.succ (.succ (.zero (.cons .nil)))))) (fun _ _ => ?_))
                 refine GE.done (by kernel_rfl) ?_
                 refine G.inN ?_
                 refine G.thenN ?_
                 refine G.region ?_
                 (refine G.v (rv_incr rfl rfl (by omega)) rfl ?_)
                 refine G.v (rv_move rfl) rfl ?_
                 refine G.done ?_
                 (refine G.frontR3 vr rfl ?_)
                 (refine G.frontG3 _ rfl ?_)
                 (refine G.keep2 2 rfl ?_; refine G.backK (k + 1, us.set q (layAdd t.1 k b.1, va), vr) 0 (two_eq (congrArg (fun z => Ch.grp 3 1 z) (sub_set (by simp only [layAdd, List.map_append, List.map_cons, List.map_nil, icell]))) (congrArg (fun z => Ch.row vr 61 4 z) (by rw [List.set_set, List.set_set, List.set_set]; exact cells_set rfl))) (.cons rfl (.cons rfl (.cons rfl (.nil)))) ?_ ?_ ?_)
                 · exact ⟨rfl, rfl, trivial⟩
                 · exact ⟨hlt, by rw [foldl_take_succ hz, ← hM, hst, List.map_set]⟩
                 · omega
       · try exact Bool.noConfusion hc
         all_goals
          try replace hc := of_decide_eq_false hc
          try simp only [List.length_map] at hc
          try (exfalso; omega)
          all_goals
           refine G.exit ?_
           refine G.thenX ?_
           refine G.thenX ?_
           refine G.inX ?_
           refine G.thenN ?_
           refine G.seq ?_
           refine G.region ?_
           refine G.v (rv_move rfl) rfl ?_
           refine G.v (rv_assign rfl) rfl ?_
           refine G.done ?_
           refine G.thenN ?_
           refine G.ret ?_
           (refine G.know (fun w hw => (Rd.owned 1 rfl w hw).one_) (fun hone => G.retF (v2, ts) ⟨hone, lay_end (bnot_no hok) hM (by rw [List.length_map]; exact hlt)⟩ rfl rfl rfl (fun w hw => hw.sublist (by repeat (first | exact List.Sublist.refl _ | refine List.Sublist.cons_cons _ ?_ | refine List.Sublist.cons _ ?_)))); done)

theorem implLoadsOf_any (p : PalletM) {v : Value} {l : List (LayerM × Value)} (w : World) (h : Rd w v 4 (l.map LayerM.cells)) (hb : l.length ≤ 1048576) :
    Fn Try.prog 39 [p.val, v] w (fun x : Value × List (LoadM × Value) => x.1.oneCell' = true ∧ x.2.map Prod.fst = loadsM p (l.map Prod.fst)) (fun x => x.1) (fun x => [.grp 3 1 (x.2.map (sub LoadM.l)), .row x.1 67 3 (x.2.map LoadM.cells)]) := by
  have pile_lens : ∀ (xs : List (LayerM × Nat)) (k : Nat), ∀ t ∈ (xs.take k).foldl (pileStep (loadRoom p) loadAdd loadZ) [], t.l.length ≤ k := fun xs k => load_lens xs k
  refine Fn.of (n := 92) Try.func39 rfl rfl ?_
  refine G.seq ?_
  refine G.region ?_
  refine G.op (og_box rfl rfl) rfl (fun bk2 _ => ?_)
  refine G.v (rv_assign rfl) rfl ?_
  refine G.done ?_
  refine G.thenN ?_
  refine G.seq ?_
  refine G.seq ?_
  refine G.region ?_
  (refine G.v (rv_loadW 0 rfl rfl rfl) rfl ?_)
  refine G.v (rv_move rfl) rfl ?_
  refine G.op (og_callV rfl rfl (fun w hh => implStacksOk_any _ w (by exact Rd.stays (by assumption) _ hh))) rfl (fun _ _ => ?_)
  refine G.v (rv_not rfl) rfl ?_
  refine G.done ?_
  refine G.thenN ?_
  refine G.cond rfl (fun hc => ?_) (fun hc => ?_)
  · try exact Bool.noConfusion hc
    all_goals
     try replace hc := of_decide_eq_true hc
     try simp only [List.length_map] at hc
     try (exfalso; contradiction)
     all_goals
      refine G.seq ?_
      refine G.region ?_
      refine G.v (rv_assign rfl) rfl ?_
      refine G.done ?_
      refine G.thenN ?_
      refine G.ret ?_
      refine G.thenR ?_
      (exact G.retF (.slice none 0 0, []) ⟨rfl, by rw [loadsM, if_neg (by intro hq; simp only [stacksOkM] at hq; rw [hq] at hc; exact Bool.noConfusion hc)]; rfl⟩ rfl rfl rfl (fun w hw => (hw.none.nilRow _ _).nilGrp _ _))
  · try exact Bool.noConfusion hc
    all_goals
     try replace hc := of_decide_eq_false hc
     try simp only [List.length_map] at hc
     try (exfalso; contradiction)
     all_goals
      refine G.skip ?_
      refine G.thenN ?_
      refine G.seq ?_
      refine G.region ?_
      refine G.op (og_lit rfl .nil rfl rfl rfl rfl rfl rfl) rfl (fun vl _ => ?_)
      refine G.v (rv_assign rfl) rfl ?_
      refine G.done ?_
      refine G.thenN ?_
      refine G.seq ?_
      refine G.seq ?_
      refine G.region ?_
      refine G.v (rv_move rfl) rfl ?_
      refine G.v (rv_len rfl (by exact Rd.stays (by assumption))) rfl ?_
      refine G.v (rv_move rfl) rfl ?_
      refine G.done ?_
      refine G.thenN ?_
      refine G.block ?_
      -- loop 0: turned [5, 17], kept [2, 15, 16]
      have hok := hc
      have hpp := pallet_in (palletOk_of hc)
      refine G.heap (fun w hh => hh.nilGrp 3 1) ?_
      refine G.loopK (ι := Nat × List (LoadM × Value) × Value) (ks := [2, 15, 16]) (fun x => [(5, x.2.2), (17, .int .i64 x.1)]) (fun x => [.grp 3 1 (x.2.1.map (sub LoadM.l)), .row x.2.2 67 3 (x.2.1.map LoadM.cells)]) (fun x => x.1 ≤ l.length ∧ x.2.1.map Prod.fst = ((l.map Prod.fst).zipIdx.take x.1).foldl (pileStep (loadRoom p) loadAdd loadZ) []) (fun x => l.length - x.1) (0, [], vl) (.cons rfl (.cons rfl (.cons rfl (.nil)))) rfl ?_ ?_ ?_
      · exact ⟨Nat.zero_le _, rfl⟩
      · exact ⟨rfl, rfl, trivial⟩
      rintro ⟨k, ts, v2⟩ ⟨hk, hM⟩
      dsimp only at hk hM ⊢
      by_cases hlt : k < l.length
      case' pos => (obtain ⟨b, hb2⟩ := get_of_lt hlt; have heb := get_map hb2 LayerM.cells; have hobb := heap_in (ok_at hok (fst_at hb2 : (l.map Prod.fst)[k]? = some b.1)).2; have hov : b.2.oneCell' = true := (h.good _ (List.mem_of_getElem? heb)).2 b.2 (by simp [LayerM.cells]); have hz := zip_get (fst_at hb2 : (l.map Prod.fst)[k]? = some b.1); have hl0 : (ts.map LoadM.cells).length = ts.length := (by simp); have hlk : ts.length ≤ k := (by (have := pile_len (room := loadRoom p) (add := loadAdd) (z := loadZ) ((l.map Prod.fst).zipIdx.take k) []; rw [← hM] at this; simp only [List.length_map, List.length_nil, List.length_take] at this; omega)); rcases nil_or_snoc ts with hts | ⟨tp, t, hts⟩; have hn0 : ts.length = 0 := (by rw [hts]; rfl); rotate_left; have hn1 : ts.length = tp.length + 1 := (by (rw [hts]; simp)); obtain ⟨q, hq⟩ : ∃ y, y = tp.length := ⟨_, rfl⟩; have htq : ts[q]? = some t := (by (rw [hq]; exact get_last hts)); have he := get_map htq LoadM.cells; have hgi : (ts.map (sub LoadM.l))[q]? = some (t.2, t.1.l.map icell) := get_mapS htq; have hbt : 0 ≤ t.1.h ∧ t.1.h ≤ p.h ∧ 0 ≤ t.1.g ∧ t.1.g ≤ p.g := (by (have := load_bd (p := p) (ss := (l.map Prod.fst)) (bnot_no hok) k; rw [← hM] at this; exact this t.1 (List.mem_map.2 ⟨t, List.mem_of_getElem? htq, rfl⟩))); refine G.know (fun w hw => (Rd.grp 0 rfl (List.mem_of_getElem? hgi) w hw).one_) (fun hov2 => ?_); have hlb : t.1.l.length ≤ 1048576 := (by (have := pile_lens (l.map Prod.fst).zipIdx k; rw [← hM] at this; have := this t.1 (List.mem_map.2 ⟨t, List.mem_of_getElem? htq, rfl⟩); omega)))
      all_goals
       refine G.seq ?_
       refine G.region ?_
       refine G.v (rv_lss rfl rfl) rfl ?_
       refine G.done ?_
       refine G.thenN ?_
       refine G.seq ?_
       refine G.cond rfl (fun hc => ?_) (fun hc => ?_)
       · try exact Bool.noConfusion hc
         all_goals
          try replace hc := of_decide_eq_true hc
          try simp only [List.length_map] at hc
          try (exfalso; omega)
          all_goals
           refine G.skip ?_
           refine G.thenN ?_
           refine G.seq ?_
           refine G.block ?_
           refine G.seq ?_
           refine G.region ?_
           refine G.v (rv_move rfl) rfl ?_
           (refine G.v (rv_indexH rfl rfl (by exact Rd.stays (by assumption)) rfl (by exact heb)) rfl ?_)
           (refine G.v (rv_loadEW rfl (by exact Rd.stays (by assumption)) (by exact heb) rfl) rfl ?_)
           refine G.op (og_alloc) rfl (fun bk7 _ => ?_)
           refine G.v (rv_assign rfl) rfl ?_
           (refine G.op0 (og_st0 rfl rfl rfl rfl rfl (by repeat (first | rfl | refine one_cons (by assumption) ?_)) (.zero (.cons (.cons (.cons (.cons .nil)))))) (fun _ _ => ?_))
           refine G.done ?_
           refine G.thenN ?_
           refine G.seq ?_
           refine G.region ?_
           refine G.v (rv_move rfl) rfl ?_
           refine G.v (rv_len rfl (by exact Rd.owned 2 rfl)) rfl ?_
           (first | refine G.v (rv_decr rfl rfl (by omega) (by omega)) rfl ?_ | refine G.v (rv_subB rfl rfl (by omega) (by omega)) rfl ?_)
           refine G.v (rv_assign rfl) rfl ?_
           refine G.done ?_
           refine G.thenN ?_
           refine G.seq ?_
           refine G.seq ?_
           refine G.drawL [] ?_
           refine GE.ol 0 (by kernel_rfl) rfl rfl (og_runs (rv_move rfl)) rfl (fun _ _ h => by exact h) (fun _ _ => ?_)
           refine GE.ol 1 (by kernel_rfl) rfl rfl (og_runs (rv_lss rfl rfl)) rfl (fun _ _ h => by exact h) (fun _ _ => ?_)
           refine GE.ol 2 (by kernel_rfl) rfl rfl (og_runs (rv_move rfl)) rfl (fun _ _ h => by exact h) (fun _ _ => ?_)
           all_goals (((with_reducible refine GE.part (t := 27) rfl (fun hg => ?_) (fun hg => ?_)) <;> (try exact Bool.noConfusion hg) <;> (try (exfalso; (have hq := of_decide_eq_false hg; omega))) <;> (first | refine GE.q 3 rfl (by kernel_rfl) rfl (qg_runs (rv_move rfl)) rfl ?_ | refine GE.qn 3 rfl (by kernel_rfl) rfl rfl ?_)))
           all_goals ((first | refine GE.q 4 rfl (by kernel_rfl) rfl (qg_runs (rv_move rfl)) rfl ?_ | refine GE.qn 4 rfl (by kernel_rfl) rfl rfl ?_))
           all_goals ((first | (refine GE.q 5 rfl (by kernel_rfl) rfl (qg_runs (rv_indexH (k := q) rfl rfl (by exact Rd.owned 2 rfl) (by omega) (by exact he))) rfl ?_) | refine GE.qn 5 rfl (by kernel_rfl) rfl rfl ?_))
           all_goals ((first | (refine GE.q 6 rfl (by kernel_rfl) rfl (qg_runs (rv_fieldE rfl)) rfl ?_) | refine GE.qn 6 rfl (by kernel_rfl) rfl rfl ?_))
           all_goals ((first | refine GE.q 7 rfl (by kernel_rfl) rfl (qg_runs (rv_loadE rfl (by first | exact Rd.stays (by assumption) | exact Rd.owned 2 rfl) (by first | exact he | exact heb) rfl)) rfl ?_ | refine GE.qn 7 rfl (by kernel_rfl) rfl rfl ?_))
           all_goals ((first | (refine GE.q 8 rfl (by kernel_rfl) rfl (qg_runs (rv_field rfl)) rfl ?_) | refine GE.qn 8 rfl (by kernel_rfl) rfl rfl ?_))
           all_goals ((first | (refine GE.q 9 rfl (by kernel_rfl) rfl (qg_runs (rv_load1 0 rfl rfl rfl)) rfl ?_) | refine GE.qn 9 rfl (by kernel_rfl) rfl rfl ?_))
           all_goals ((first | (refine GE.q 10 rfl (by kernel_rfl) rfl (qg_runs (rv_addB rfl rfl (by omega) (by omega))) rfl ?_) | refine GE.qn 10 rfl (by kernel_rfl) rfl rfl ?_))
           all_goals ((first | (refine GE.q 11 rfl (by kernel_rfl) rfl (qg_runs (rv_field rfl)) rfl ?_) | refine GE.qn 11 rfl (by kernel_rfl) rfl rfl ?_))
           all_goals ((first | (refine GE.q 12 rfl (by kernel_rfl) rfl (qg_runs (rv_load1 3 rfl rfl rfl)) rfl ?_) | refine GE.qn 12 rfl (by kernel_rfl) rfl rfl ?_))
           all_goals ((first | refine GE.q 13 rfl (by kernel_rfl) rfl (qg_runs (rv_gtr rfl rfl)) rfl ?_ | refine GE.qn 13 rfl (by kernel_rfl) rfl rfl ?_))
           all_goals ((first | refine GE.ol 14 (by kernel_rfl) rfl rfl (og_runs (rv_pickT rfl rfl)) rfl (fun _ _ h => by exact h) (fun _ _ => ?_) | refine GE.ol 14 (by kernel_rfl) rfl rfl (og_runs (rv_pickF rfl rfl)) rfl (fun _ _ h => by exact h) (fun _ _ => ?_)))
           all_goals (refine GE.ol 15 (by kernel_rfl) rfl rfl (og_runs (rv_move rfl)) rfl (fun _ _ h => by exact h) (fun _ _ => ?_))
           all_goals (((with_reducible refine GE.part (t := 40) rfl (fun hg => ?_) (fun hg => ?_)) <;> (try exact Bool.noConfusion hg) <;> (try (exfalso; (have hq := of_decide_eq_false hg; omega))) <;> (first | refine GE.q 16 rfl (by kernel_rfl) rfl (qg_runs (rv_move rfl)) rfl ?_ | refine GE.qn 16 rfl (by kernel_rfl) rfl rfl ?_)))
           all_goals ((first | refine GE.q 17 rfl (by kernel_rfl) rfl (qg_runs (rv_move rfl)) rfl ?_ | refine GE.qn 17 rfl (by kernel_rfl) rfl rfl ?_))
           all_goals ((first | (refine GE.q 18 rfl (by kernel_rfl) rfl (qg_runs (rv_indexH (k := q) rfl rfl (by exact Rd.owned 2 rfl) (by omega) (by exact he))) rfl ?_) | refine GE.qn 18 rfl (by kernel_rfl) rfl rfl ?_))
           all_goals ((first | (refine GE.q 19 rfl (by kernel_rfl) rfl (qg_runs (rv_fieldE rfl)) rfl ?_) | refine GE.qn 19 rfl (by kernel_rfl) rfl rfl ?_))
           all_goals ((first | refine GE.q 20 rfl (by kernel_rfl) rfl (qg_runs (rv_loadE rfl (by first | exact Rd.stays (by assumption) | exact Rd.owned 2 rfl) (by first | exact he | exact heb) rfl)) rfl ?_ | refine GE.qn 20 rfl (by kernel_rfl) rfl rfl ?_))
           all_goals ((first | (refine GE.q 21 rfl (by kernel_rfl) rfl (qg_runs (rv_field rfl)) rfl ?_) | refine GE.qn 21 rfl (by kernel_rfl) rfl rfl ?_))
           all_goals ((first | (refine GE.q 22 rfl (by kernel_rfl) rfl (qg_runs (rv_load1 0 rfl rfl rfl)) rfl ?_) | refine GE.qn 22 rfl (by kernel_rfl) rfl rfl ?_))
           all_goals ((first | (refine GE.q 23 rfl (by kernel_rfl) rfl (qg_runs (rv_addB rfl rfl (by omega) (by omega))) rfl ?_) | refine GE.qn 23 rfl (by kernel_rfl) rfl rfl ?_))
           all_goals ((first | (refine GE.q 24 rfl (by kernel_rfl) rfl (qg_runs (rv_field rfl)) rfl ?_) | refine GE.qn 24 rfl (by kernel_rfl) rfl rfl ?_))
           all_goals ((first | (refine GE.q 25 rfl (by kernel_rfl) rfl (qg_runs (rv_load1 3 rfl rfl rfl)) rfl ?_) | refine GE.qn 25 rfl (by kernel_rfl) rfl rfl ?_))
           all_goals ((first | refine GE.q 26 rfl (by kernel_rfl) rfl (qg_runs (rv_gtr rfl rfl)) rfl ?_ | refine GE.qn 26 rfl (by kernel_rfl) rfl rfl ?_))
           all_goals ((first | refine GE.ol 27 (by kernel_rfl) rfl rfl (og_runs (rv_pickT rfl rfl)) rfl (fun _ _ h => by exact h) (fun _ _ => ?_) | refine GE.ol 27 (by kernel_rfl) rfl rfl (og_runs (rv_pickF rfl rfl)) rfl (fun _ _ h => by exact h) (fun _ _ => ?_)))
           all_goals
            refine GE.done (by kernel_rfl) ?_
            refine G.thenN ?_
            refine G.cond rfl (fun hc => ?_) (fun hc => ?_)
            · try exact Bool.noConfusion hc
              all_goals
               try replace hc := of_decide_eq_true hc
               try simp only [List.length_map] at hc
               try (exfalso; contradiction)
               all_goals
                refine G.seq ?_
                refine G.region ?_
                refine G.v (rv_move rfl) rfl ?_
                refine G.v (rv_build2 rfl .nil .nil) rfl ?_
                refine G.op (og_lit rfl (.cons rfl .nil) rfl rfl rfl rfl rfl rfl) rfl (fun vl _ => ?_)
                ((refine G.op (og_app3 rfl rfl rfl (by exact Rd.owned 0 rfl) rfl rfl (by simp; omega) (by simp; omega)) rfl (fun va _ => ?_)))
                refine G.v (rv_assign rfl) rfl ?_
                refine G.done ?_
                refine G.thenN ?_
                refine G.region ?_
                refine G.v (rv_move rfl) rfl ?_
                (first | refine G.v (rv_incr rfl rfl (by omega)) rfl ?_ | refine G.v (rv_addB rfl rfl (by omega) (by omega)) rfl ?_)
                obtain ⟨q, hq⟩ : ∃ y, y = ts.length := ⟨_, rfl⟩
                obtain ⟨t, htt⟩ : ∃ y, y = ((loadZ, .slice none 0 0) : LoadM × Value) := ⟨_, rfl⟩
                obtain ⟨us, hus⟩ : ∃ y, y = ts ++ [t] := ⟨_, rfl⟩
                obtain ⟨vr, hvr⟩ : ∃ y, y = va := ⟨_, rfl⟩
                subst hvr
                have huq : us[q]? = some t := by rw [hus, hq]; simp
                have he : (us.map LoadM.cells)[q]? = some (LoadM.cells t) := get_map huq LoadM.cells
                have hgi : (us.map (sub LoadM.l))[q]? = some (t.2, t.1.l.map icell) := get_mapS huq
                have hl1 : (us.map LoadM.cells).length = q + 1 := by rw [hus, hq]; simp
                have hzh : t.1.h = 0 := (by rw [htt]; rfl); have hzg : t.1.g = 0 := (by rw [htt]; rfl)
                have htl : t.1.l.length = 0 := by rw [htt]; rfl
                have hov2 : t.2.oneCell' = true := by rw [htt]; rfl
                have hst : pileStep (loadRoom p) loadAdd loadZ (ts.map Prod.fst) (b.1, k) = (us.map Prod.fst).set q (loadAdd t.1 k b.1) := by
                  have e : us.map Prod.fst = ts.map Prod.fst ++ [loadZ] := by rw [hus, htt]; simp
                  rw [e, htt, hq]
                  have := pile_new (room := loadRoom p) (add := loadAdd) (z := loadZ) (out := ts.map Prod.fst) (s := b.1) (k := k) (by intro t2 ht2; first | (rw [hts] at ht2; simp at ht2; done) | (rw [last_of hts] at ht2; obtain rfl := Option.some.inj ht2; simp only [loadRoom, Bool.and_eq_false_iff, decide_eq_false_iff_not]; (first | (have hq9 := of_decide_eq_true hg; omega) | omega)))
                  rw [this]; simp
                (refine G.frontR3 vr rfl ?_)
                refine G.rowEq (us.map LoadM.cells) (by rw [hus, htt]; simp [LoadM.cells, loadZ]) rfl ?_
                (refine G.frontG3 _ rfl ?_)
                refine G.pushNil (us.map (sub LoadM.l)) (by rw [hus, htt]; simp [sub, loadZ]) rfl ?_
                refine G.v (rv_assign rfl) rfl ?_
                refine G.done ?_
                refine G.thenN ?_
                refine G.seq ?_
                refine G.region ?_
                refine G.v (rv_move rfl) rfl ?_
                refine G.v (rv_move rfl) rfl ?_
                (refine G.v (rv_indexH (k := q) rfl rfl (by exact Rd.owned 1 rfl) (by omega) (by exact he)) rfl ?_)
                refine G.v (rv_assign rfl) rfl ?_
                refine G.done ?_
                refine G.thenN ?_
                refine G.seq ?_
                refine G.region ?_
                refine G.v (rv_move rfl) rfl ?_
                refine G.v (rv_move rfl) rfl ?_
                (refine G.v (rv_nilCheckE rfl) rfl ?_)
                (refine G.v (rv_fieldE rfl) rfl ?_)
                refine G.v (rv_loadE rfl (by exact Rd.owned 1 rfl) (by exact he) rfl) rfl ?_
                refine G.v (rv_move rfl) rfl ?_
                refine G.op (og_lit rfl (.cons rfl .nil) rfl rfl rfl rfl rfl rfl) rfl (fun vl _ => ?_)
                ((refine G.op (og_appG1 rfl rfl rfl hgi (by exact Rd.owned 0 rfl) rfl rfl (by simp; omega) (by simp; omega)) rfl (fun va _ => ?_)))
                skip; refine G.know (fun w hw => (Rd.grp 1 rfl (List.mem_of_getElem? (get_set1 hgi)) w hw).one_) (fun hova => ?_)
                (refine G.v (rv_nilCheckE rfl) rfl ?_)
                (refine G.v (rv_fieldE rfl) rfl ?_)
                (refine G.op0 (og_stE2 rfl rfl rfl (by exact he) (cells_one (by assumption)) rfl (by repeat (first | rfl | refine one_cons (by assumption) ?_)) rfl (.zero (.cons .nil))) (fun _ _ => ?_))
                refine G.done ?_
                refine G.thenN ?_
                refine G.seq ?_
                refine G.drawL [7, 8, 9] ?_
                refine GE.q 0 rfl (by kernel_rfl) rfl (qg_runs (rv_move rfl)) rfl ?_
                (refine GE.q 1 rfl (by kernel_rfl) rfl (qg_runs (rv_nilCheckE rfl)) rfl ?_)
                (refine GE.q 2 rfl (by kernel_rfl) rfl (qg_runs (rv_fieldE rfl)) rfl ?_)
                refine GE.q 3 rfl (by kernel_rfl) rfl (qg_runs (rv_loadE rfl (by exact Rd.owned 2 rfl) (by exact get_set1 he) rfl)) rfl ?_
                (refine GE.ol 4 (by kernel_rfl) rfl rfl (og_runs (rv_field rfl)) rfl (fun _ _ h => by exact h) (fun _ _ => ?_))
                (refine GE.ol 5 (by kernel_rfl) rfl rfl (og_runs (rv_load1 4 rfl rfl rfl)) rfl (fun _ _ h => by exact h) (fun _ _ => ?_))
                (refine GE.ol 6 (by kernel_rfl) rfl rfl (og_runs (rv_addB rfl rfl (by omega) (by omega))) rfl (fun _ _ h => by exact h) (fun _ _ => ?_))
                (refine GE.t 7 (by kernel_rfl) rfl rfl rfl (og_runs (rv_nilCheckE rfl)) rfl (fun _ _ => ?_))
                (refine GE.t 8 (by kernel_rfl) rfl rfl rfl (og_runs (rv_fieldE rfl)) rfl (fun _ _ => ?_))
                (refine GE.t0 9 (by kernel_rfl) rfl rfl rfl (og_stE2 rfl rfl rfl (by exact get_set1 he) rfl rfl rfl rfl (.succ (.zero (.cons .nil)))) (fun _ _ => ?_))
                refine GE.done (by kernel_rfl) ?_
                refine G.thenN ?_
                refine G.drawL [7, 8, 9] ?_
                refine GE.q 0 rfl (by kernel_rfl) rfl (qg_runs (rv_move rfl)) rfl ?_
                (refine GE.q 1 rfl (by kernel_rfl) rfl (qg_runs (rv_nilCheckE rfl)) rfl ?_)
                (refine GE.q 2 rfl (by kernel_rfl) rfl (qg_runs (rv_fieldE rfl)) rfl ?_)
                refine GE.q 3 rfl (by kernel_rfl) rfl (qg_runs (rv_loadE rfl (by exact Rd.owned 2 rfl) (by exact get_set1 (get_set1 he)) rfl)) rfl ?_
                (refine GE.ol 4 (by kernel_rfl) rfl rfl (og_runs (rv_field rfl)) rfl (fun _ _ h => by exact h) (fun _ _ => ?_))
                (refine GE.ol 5 (by kernel_rfl) rfl rfl (og_runs (rv_load1 4 rfl rfl rfl)) rfl (fun _ _ h => by exact h) (fun _ _ => ?_))
                (refine GE.ol 6 (by kernel_rfl) rfl rfl (og_runs (rv_addB rfl rfl (by omega) (by omega))) rfl (fun _ _ h => by exact h) (fun _ _ => ?_))
                (refine GE.t 7 (by kernel_rfl) rfl rfl rfl (og_runs (rv_nilCheckE rfl)) rfl (fun _ _ => ?_))
                (refine GE.t 8 (by kernel_rfl) rfl rfl rfl (og_runs (rv_fieldE rfl)) rfl (fun _ _ => ?_))
                (refine GE.t0 9 (by kernel_rfl) rfl rfl rfl (og_stE2 rfl rfl rfl (by exact get_set1 (get_set1 he)) rfl rfl rfl rfl (.succ (.succ (.zero (.cons .nil))))) (fun _ _ => ?_))
                refine GE.done (by kernel_rfl) ?_
                refine G.inN ?_
                refine G.thenN ?_
                refine G.region ?_
                (refine G.v (rv_incr rfl rfl (by omega)) rfl ?_)
                refine G.v (rv_move rfl) rfl ?_
                refine G.done ?_
                (refine G.frontR2 vr rfl ?_)
                (refine G.frontG2 _ rfl ?_)
                (refine G.keep2 3 rfl ?_; refine G.backK (k + 1, us.set q (loadAdd t.1 k b.1, va), vr) 0 (two_eq (congrArg (fun z => Ch.grp 3 1 z) (sub_set (by simp only [loadAdd, List.map_append, List.map_cons, List.map_nil, icell]))) (congrArg (fun z => Ch.row vr 67 3 z) (by rw [List.set_set, List.set_set]; exact cells_set rfl))) (.cons rfl (.cons rfl (.cons rfl (.nil)))) ?_ ?_ ?_)
                · exact ⟨rfl, rfl, trivial⟩
                · exact ⟨hlt, by rw [foldl_take_succ hz, ← hM, hst, List.map_set]⟩
                · omega
            · try exact Bool.noConfusion hc
              all_goals
               try replace hc := of_decide_eq_false hc
               try simp only [List.length_map] at hc
               try (exfalso; contradiction)
               all_goals
                obtain ⟨us, hus⟩ : ∃ y, y = ts := ⟨_, rfl⟩
                obtain ⟨vr, hvr⟩ : ∃ y, y = v2 := ⟨_, rfl⟩
                have hl1 : (us.map LoadM.cells).length = q + 1 := by rw [hus]; omega
                have htl : t.1.l.length ≤ 1048576 := hlb
                have hst : pileStep (loadRoom p) loadAdd loadZ (ts.map Prod.fst) (b.1, k) = (us.map Prod.fst).set q (loadAdd t.1 k b.1) := by
                  rw [hus]; exact pile_room (fst_at htq) (by rw [List.length_map]; omega) (by simp only [loadRoom, Bool.and_eq_true, decide_eq_true_eq]; ((have hq9 := of_decide_eq_false hg; omega)))
                subst hvr hus
                all_goals
                 refine G.skip ?_
                 refine G.thenN ?_
                 refine G.seq ?_
                 refine G.region ?_
                 refine G.v (rv_move rfl) rfl ?_
                 refine G.v (rv_move rfl) rfl ?_
                 (refine G.v (rv_indexH (k := q) rfl rfl (by exact Rd.owned 2 rfl) (by omega) (by exact he)) rfl ?_)
                 refine G.v (rv_assign rfl) rfl ?_
                 refine G.done ?_
                 refine G.thenN ?_
                 refine G.seq ?_
                 refine G.region ?_
                 refine G.v (rv_move rfl) rfl ?_
                 refine G.v (rv_move rfl) rfl ?_
                 (refine G.v (rv_nilCheckE rfl) rfl ?_)
                 (refine G.v (rv_fieldE rfl) rfl ?_)
                 refine G.v (rv_loadE rfl (by exact Rd.owned 2 rfl) (by exact he) rfl) rfl ?_
                 refine G.v (rv_move rfl) rfl ?_
                 refine G.op (og_lit rfl (.cons rfl .nil) rfl rfl rfl rfl rfl rfl) rfl (fun vl _ => ?_)
                 ((refine G.op (og_appG2 rfl rfl rfl hgi (by exact Rd.owned 0 rfl) rfl rfl (by simp; omega) (by simp; omega)) rfl (fun va _ => ?_)))
                 skip; refine G.know (fun w hw => (Rd.grp 2 rfl (List.mem_of_getElem? (get_set1 hgi)) w hw).one_) (fun hova => ?_)
                 (refine G.v (rv_nilCheckE rfl) rfl ?_)
                 (refine G.v (rv_fieldE rfl) rfl ?_)
                 (refine G.op0 (og_stE3 rfl rfl rfl (by exact he) (cells_one (by assumption)) rfl (by repeat (first | rfl | refine one_cons (by assumption) ?_)) rfl (.zero (.cons .nil))) (fun _ _ => ?_))
                 refine G.done ?_
                 refine G.thenN ?_
                 refine G.seq ?_
                 refine G.drawL [7, 8, 9] ?_
                 refine GE.q 0 rfl (by kernel_rfl) rfl (qg_runs (rv_move rfl)) rfl ?_
                 (refine GE.q 1 rfl (by kernel_rfl) rfl (qg_runs (rv_nilCheckE rfl)) rfl ?_)
                 (refine GE.q 2 rfl (by kernel_rfl) rfl (qg_runs (rv_fieldE rfl)) rfl ?_)
                 refine GE.q 3 rfl (by kernel_rfl) rfl (qg_runs (rv_loadE rfl (by exact Rd.owned 3 rfl) (by exact get_set1 he) rfl)) rfl ?_
                 (refine GE.ol 4 (by kernel_rfl) rfl rfl (og_runs (rv_field rfl)) rfl (fun _ _ h => by exact h) (fun _ _ => ?_))
                 (refine GE.ol 5 (by kernel_rfl) rfl rfl (og_runs (rv_load1 1 rfl rfl rfl)) rfl (fun _ _ h => by exact h) (fun _ _ => ?_))
                 (refine GE.ol 6 (by kernel_rfl) rfl rfl (og_runs (rv_addB rfl rfl (by omega) (by omega))) rfl (fun _ _ h => by exact h) (fun _ _ => ?_))
                 (refine GE.t 7 (by kernel_rfl) rfl rfl rfl (og_runs (rv_nilCheckE rfl)) rfl (fun _ _ => ?_))
                 (refine GE.t 8 (by kernel_rfl) rfl rfl rfl (og_runs (rv_fieldE rfl)) rfl (fun _ _ => ?_))
                 (refine GE.t0 9 (by kernel_rfl) rfl rfl rfl (og_stE3 rfl rfl rfl (by exact get_set1 he) rfl rfl rfl rfl (.succ (.zero (.cons .nil)))) (fun _ _ => ?_))
                 refine GE.done (by kernel_rfl) ?_
                 refine G.thenN ?_
                 refine G.drawL [7, 8, 9] ?_
                 refine GE.q 0 rfl (by kernel_rfl) rfl (qg_runs (rv_move rfl)) rfl ?_
                 (refine GE.q 1 rfl (by kernel_rfl) rfl (qg_runs (rv_nilCheckE rfl)) rfl ?_)
                 (refine GE.q 2 rfl (by kernel_rfl) rfl (qg_runs (rv_fieldE rfl)) rfl ?_)
                 refine GE.q 3 rfl (by kernel_rfl) rfl (qg_runs (rv_loadE rfl (by exact Rd.owned 3 rfl) (by exact get_set1 (get_set1 he)) rfl)) rfl ?_
                 (refine GE.ol 4 (by kernel_rfl) rfl rfl (og_runs (rv_field rfl)) rfl (fun _ _ h => by exact h) (fun _ _ => ?_))
                 (refine GE.ol 5 (by kernel_rfl) rfl rfl (og_runs (rv_load1 1 rfl rfl rfl)) rfl (fun _ _ h => by exact h) (fun _ _ => ?_))
                 (refine GE.ol 6 (by kernel_rfl) rfl rfl (og_runs (rv_addB rfl rfl (by omega) (by omega))) rfl (fun _ _ h => by exact h) (fun _ _ => ?_))
                 (refine GE.t 7 (by kernel_rfl) rfl rfl rfl (og_runs (rv_nilCheckE rfl)) rfl (fun _ _ => ?_))
                 (refine GE.t 8 (by kernel_rfl) rfl rfl rfl (og_runs (rv_fieldE rfl)) rfl (fun _ _ => ?_))
                 (refine GE.t0 9 (by kernel_rfl) rfl rfl rfl (og_stE3 rfl rfl rfl (by exact get_set1 (get_set1 he)) rfl rfl rfl rfl (.succ (.succ (.zero (.cons .nil))))) (fun _ _ => ?_))
                 refine GE.done (by kernel_rfl) ?_
                 refine G.inN ?_
                 refine G.thenN ?_
                 refine G.region ?_
                 (refine G.v (rv_incr rfl rfl (by omega)) rfl ?_)
                 refine G.v (rv_move rfl) rfl ?_
                 refine G.done ?_
                 (refine G.frontR3 vr rfl ?_)
                 (refine G.frontG3 _ rfl ?_)
                 (refine G.keep2 2 rfl ?_; refine G.backK (k + 1, us.set q (loadAdd t.1 k b.1, va), vr) 0 (two_eq (congrArg (fun z => Ch.grp 3 1 z) (sub_set (by simp only [loadAdd, List.map_append, List.map_cons, List.map_nil, icell]))) (congrArg (fun z => Ch.row vr 67 3 z) (by rw [List.set_set, List.set_set]; exact cells_set rfl))) (.cons rfl (.cons rfl (.cons rfl (.nil)))) ?_ ?_ ?_)
                 · exact ⟨rfl, rfl, trivial⟩
                 · exact ⟨hlt, by rw [foldl_take_succ hz, ← hM, hst, List.map_set]⟩
                 · omega
       · try exact Bool.noConfusion hc
         all_goals
          try replace hc := of_decide_eq_false hc
          try simp only [List.length_map] at hc
          try (exfalso; omega)
          all_goals
           refine G.exit ?_
           refine G.thenX ?_
           refine G.thenX ?_
           refine G.inX ?_
           refine G.thenN ?_
           refine G.seq ?_
           refine G.region ?_
           refine G.v (rv_move rfl) rfl ?_
           refine G.v (rv_assign rfl) rfl ?_
           refine G.done ?_
           refine G.thenN ?_
           refine G.ret ?_
           (refine G.know (fun w hw => (Rd.owned 1 rfl w hw).one_) (fun hone => G.retF (v2, ts) ⟨hone, load_end (bnot_no hok) hM (by rw [List.length_map]; exact hlt)⟩ rfl rfl rfl (fun w hw => hw.sublist (by repeat (first | exact List.Sublist.refl _ | refine List.Sublist.cons_cons _ ?_ | refine List.Sublist.cons _ ?_)))); done)

theorem specLayersOf_any (p : PalletM) {v : Value} {l : List (ShelfM × Value)} (w : World) (h : Rd w v 5 (l.map ShelfM.cells)) (hb : l.length ≤ 1048576) :
    Fn Try.prog 37 [p.val, v] w (fun x : Value × List (LayerM × Value) => x.1.oneCell' = true ∧ x.2.map Prod.fst = layersM p (l.map Prod.fst)) (fun x => x.1) (fun x => [.grp 3 1 (x.2.map (sub LayerM.l)), .row x.1 61 4 (x.2.map LayerM.cells)]) := by
  have pile_lens : ∀ (xs : List (ShelfM × Nat)) (k : Nat), ∀ t ∈ (xs.take k).foldl (pileStep (layRoom p) layAdd layZ) [], t.l.length ≤ k := fun xs k => lay_lens xs k
  refine Fn.of (n := 97) Try.func37 rfl rfl ?_
  refine G.seq ?_
  refine G.region ?_
  refine G.op (og_box rfl rfl) rfl (fun bk2 _ => ?_)
  refine G.v (rv_assign rfl) rfl ?_
  refine G.done ?_
  refine G.thenN ?_
  refine G.seq ?_
  refine G.region ?_
  refine G.op (og_lit rfl .nil rfl rfl rfl rfl rfl rfl) rfl (fun vl _ => ?_)
  refine G.v (rv_assign rfl) rfl ?_
  refine G.done ?_
  refine G.thenN ?_
  refine G.seq ?_
  refine G.seq ?_
  refine G.region ?_
  (refine G.v (rv_loadW 1 rfl rfl rfl) rfl ?_)
  refine G.v (rv_move rfl) rfl ?_
  refine G.op (og_callV rfl rfl (fun w hh => specShelvesOk_any _ w (by exact Rd.stays (by assumption) _ hh))) rfl (fun _ _ => ?_)
  refine G.v (rv_not rfl) rfl ?_
  refine G.done ?_
  refine G.thenN ?_
  refine G.cond rfl (fun hc => ?_) (fun hc => ?_)
  · try exact Bool.noConfusion hc
    all_goals
     try replace hc := of_decide_eq_true hc
     try simp only [List.length_map] at hc
     try (exfalso; contradiction)
     all_goals
      refine G.seq ?_
      refine G.region ?_
      refine G.v (rv_move rfl) rfl ?_
      refine G.v (rv_assign rfl) rfl ?_
      refine G.done ?_
      refine G.thenN ?_
      refine G.ret ?_
      refine G.thenR ?_
      (refine G.know (fun w hw => (Rd.owned 0 rfl w hw).one_) (fun hovl => ?_); exact G.retF (vl, []) ⟨hovl, by rw [layersM, if_neg (by intro hq; simp only [shelvesOkM] at hq; rw [hq] at hc; exact Bool.noConfusion hc)]; rfl⟩ rfl rfl rfl (fun w hw => (hw.sublist (by repeat (first | exact List.Sublist.refl _ | refine List.Sublist.cons_cons _ ?_ | refine List.Sublist.cons _ ?_)) : HeapOk _ w [.row vl 61 4 []]).nilGrp _ _))
  · try exact Bool.noConfusion hc
    all_goals
     try replace hc := of_decide_eq_false hc
     try simp only [List.length_map] at hc
     try (exfalso; contradiction)
     all_goals
      refine G.skip ?_
      refine G.thenN ?_
      refine G.seq ?_
      refine G.seq ?_
      refine G.region ?_
      refine G.v (rv_assign rfl) rfl ?_
      refine G.done ?_
      refine G.thenN ?_
      refine G.block ?_
      -- loop 0: turned [5, 6], kept [1, 2]
      have hok := hc
      have hpp := pallet_in (palletOk_of hc)
      refine G.heap (fun w hh => hh.nilGrp 3 1) ?_
      refine G.loopK (ι := Nat × List (LayerM × Value) × Value) (ks := [1, 2]) (fun x => [(5, x.2.2), (6, .int .i64 x.1)]) (fun x => [.grp 3 1 (x.2.1.map (sub LayerM.l)), .row x.2.2 61 4 (x.2.1.map LayerM.cells)]) (fun x => x.1 ≤ l.length ∧ x.2.1.map Prod.fst = ((l.map Prod.fst).zipIdx.take x.1).foldl (pileStep (layRoom p) layAdd layZ) []) (fun x => l.length - x.1) (0, [], vl) (.cons rfl (.cons rfl (.nil))) rfl ?_ ?_ ?_
      · exact ⟨Nat.zero_le _, rfl⟩
      · exact ⟨rfl, rfl, trivial⟩
      rintro ⟨k, ts, v2⟩ ⟨hk, hM⟩
      dsimp only at hk hM ⊢
      by_cases hlt : k < l.length
      case' pos => (obtain ⟨b, hb2⟩ := get_of_lt hlt; have heb := get_map hb2 ShelfM.cells; have hobb := heap_in (ok_at hok (fst_at hb2 : (l.map Prod.fst)[k]? = some b.1)).2; have hov : b.2.oneCell' = true := (h.good _ (List.mem_of_getElem? heb)).2 b.2 (by simp [ShelfM.cells]); have hz := zip_get (fst_at hb2 : (l.map Prod.fst)[k]? = some b.1); have hl0 : (ts.map LayerM.cells).length = ts.length := (by simp); have hlk : ts.length ≤ k := (by (have := pile_len (room := layRoom p) (add := layAdd) (z := layZ) ((l.map Prod.fst).zipIdx.take k) []; rw [← hM] at this; simp only [List.length_map, List.length_nil, List.length_take] at this; omega)); rcases nil_or_snoc ts with hts | ⟨tp, t, hts⟩; have hn0 : ts.length = 0 := (by rw [hts]; rfl); rotate_left; have hn1 : ts.length = tp.length + 1 := (by (rw [hts]; simp)); obtain ⟨q, hq⟩ : ∃ y, y = tp.length := ⟨_, rfl⟩; have htq : ts[q]? = some t := (by (rw [hq]; exact get_last hts)); have he := get_map htq LayerM.cells; have hgi : (ts.map (sub LayerM.l))[q]? = some (t.2, t.1.l.map icell) := get_mapS htq; have hbt : 0 ≤ t.1.d ∧ t.1.d ≤ p.d ∧ 0 ≤ t.1.h ∧ t.1.h ≤ p.h ∧ 0 ≤ t.1.g ∧ t.1.g ≤ p.g := (by (have := lay_bd (p := p) (ss := (l.map Prod.fst)) (bnot_no hok) k; rw [← hM] at this; exact this t.1 (List.mem_map.2 ⟨t, List.mem_of_getElem? htq, rfl⟩))); refine G.know (fun w hw => (Rd.grp 0 rfl (List.mem_of_getElem? hgi) w hw).one_) (fun hov2 => ?_); have hlb : t.1.l.length ≤ 1048576 := (by (have := pile_lens (l.map Prod.fst).zipIdx k; rw [← hM] at this; have := this t.1 (List.mem_map.2 ⟨t, List.mem_of_getElem? htq, rfl⟩); omega)))
      all_goals
       refine G.seq ?_
       refine G.seq ?_
       refine G.region ?_
       refine G.v (rv_move rfl) rfl ?_
       refine G.v (rv_move rfl) rfl ?_
       refine G.v (rv_len rfl (by exact Rd.stays (by assumption))) rfl ?_
       refine G.v (rv_lss rfl rfl) rfl ?_
       refine G.done ?_
       refine G.thenN ?_
       refine G.cond rfl (fun hc => ?_) (fun hc => ?_)
       · try exact Bool.noConfusion hc
         all_goals
          try replace hc := of_decide_eq_true hc
          try simp only [List.length_map] at hc
          try (exfalso; omega)
          all_goals
           refine G.skip ?_
           refine G.thenN ?_
           refine G.seq ?_
           refine G.block ?_
           refine G.seq ?_
           refine G.region ?_
           refine G.v (rv_move rfl) rfl ?_
           refine G.v (rv_move rfl) rfl ?_
           (refine G.v (rv_indexH rfl rfl (by exact Rd.stays (by assumption)) rfl (by exact heb)) rfl ?_)
           (refine G.v (rv_loadEW rfl (by exact Rd.stays (by assumption)) (by exact heb) rfl) rfl ?_)
           refine G.op (og_alloc) rfl (fun bk7 _ => ?_)
           (refine G.op0 (og_st0 rfl rfl rfl rfl rfl (by repeat (first | rfl | refine one_cons (by assumption) ?_)) (.zero (.cons (.cons (.cons (.cons (.cons .nil))))))) (fun _ _ => ?_))
           refine G.done ?_
           refine G.thenN ?_
           refine G.seq ?_
           refine G.region ?_
           refine G.v (rv_move rfl) rfl ?_
           refine G.v (rv_len rfl (by exact Rd.owned 2 rfl)) rfl ?_
           refine G.v (rv_assign rfl) rfl ?_
           refine G.done ?_
           refine G.thenN ?_
           refine G.seq ?_
           refine G.seq ?_
           refine G.drawL [] ?_
           refine GE.ol 0 (by kernel_rfl) rfl rfl (og_runs (rv_move rfl)) rfl (fun _ _ h => by exact h) (fun _ _ => ?_)
           refine GE.ol 1 (by kernel_rfl) rfl rfl (og_runs (rv_eql rfl rfl)) rfl (fun _ _ h => by exact h) (fun _ _ => ?_)
           refine GE.ol 2 (by kernel_rfl) rfl rfl (og_runs (rv_move rfl)) rfl (fun _ _ h => by exact h) (fun _ _ => ?_)
           all_goals (((with_reducible refine GE.part (t := 30) rfl (fun hg => ?_) (fun hg => ?_)) <;> (try exact Bool.noConfusion hg) <;> (try (exfalso; first | (have hq := of_decide_eq_false hg; omega) | (have hq := of_decide_eq_true hg; omega); done)) <;> (first | refine GE.q 3 rfl (by kernel_rfl) rfl (qg_runs (rv_move rfl)) rfl ?_ | refine GE.qn 3 rfl (by kernel_rfl) rfl rfl ?_)))
           all_goals ((first | refine GE.q 4 rfl (by kernel_rfl) rfl (qg_runs (rv_move rfl)) rfl ?_ | refine GE.qn 4 rfl (by kernel_rfl) rfl rfl ?_))
           all_goals ((first | (refine GE.q 5 rfl (by kernel_rfl) rfl (qg_runs (rv_decr rfl rfl (by omega) (by omega))) rfl ?_) | refine GE.qn 5 rfl (by kernel_rfl) rfl rfl ?_))
           all_goals ((first | (refine GE.q 6 rfl (by kernel_rfl) rfl (qg_runs (rv_indexH (k := q) rfl rfl (by exact Rd.owned 2 rfl) (by omega) (by exact he))) rfl ?_) | refine GE.qn 6 rfl (by kernel_rfl) rfl rfl ?_))
           all_goals ((first | (refine GE.q 7 rfl (by kernel_rfl) rfl (qg_runs (rv_fieldE rfl)) rfl ?_) | refine GE.qn 7 rfl (by kernel_rfl) rfl rfl ?_))
           all_goals ((first | refine GE.q 8 rfl (by kernel_rfl) rfl (qg_runs (rv_loadE rfl (by first | exact Rd.stays (by assumption) | exact Rd.owned 2 rfl) (by first | exact he | exact heb) rfl)) rfl ?_ | refine GE.qn 8 rfl (by kernel_rfl) rfl rfl ?_))
           all_goals ((first | (refine GE.q 9 rfl (by kernel_rfl) rfl (qg_runs (rv_field rfl)) rfl ?_) | refine GE.qn 9 rfl (by kernel_rfl) rfl rfl ?_))
           all_goals ((first | (refine GE.q 10 rfl (by kernel_rfl) rfl (qg_runs (rv_load1 0 rfl rfl rfl)) rfl ?_) | refine GE.qn 10 rfl (by kernel_rfl) rfl rfl ?_))
           all_goals ((first | (refine GE.q 11 rfl (by kernel_rfl) rfl (qg_runs (rv_addB rfl rfl (by omega) (by omega))) rfl ?_) | refine GE.qn 11 rfl (by kernel_rfl) rfl rfl ?_))
           all_goals ((first | (refine GE.q 12 rfl (by kernel_rfl) rfl (qg_runs (rv_field rfl)) rfl ?_) | refine GE.qn 12 rfl (by kernel_rfl) rfl rfl ?_))
           all_goals ((first | (refine GE.q 13 rfl (by kernel_rfl) rfl (qg_runs (rv_load1 3 rfl rfl rfl)) rfl ?_) | refine GE.qn 13 rfl (by kernel_rfl) rfl rfl ?_))
           all_goals ((first | refine GE.q 14 rfl (by kernel_rfl) rfl (qg_runs (rv_gtr rfl rfl)) rfl ?_ | refine GE.qn 14 rfl (by kernel_rfl) rfl rfl ?_))
           all_goals ((first | refine GE.ol 15 (by kernel_rfl) rfl rfl (og_runs (rv_pickT rfl rfl)) rfl (fun _ _ h => by exact h) (fun _ _ => ?_) | refine GE.ol 15 (by kernel_rfl) rfl rfl (og_runs (rv_pickF rfl rfl)) rfl (fun _ _ h => by exact h) (fun _ _ => ?_)))
           all_goals (refine GE.ol 16 (by kernel_rfl) rfl rfl (og_runs (rv_move rfl)) rfl (fun _ _ h => by exact h) (fun _ _ => ?_))
           all_goals (((with_reducible refine GE.part (t := 44) rfl (fun hg => ?_) (fun hg => ?_)) <;> (try exact Bool.noConfusion hg) <;> (try (exfalso; (have hq := of_decide_eq_false hg; omega))) <;> (first | refine GE.q 17 rfl (by kernel_rfl) rfl (qg_runs (rv_move rfl)) rfl ?_ | refine GE.qn 17 rfl (by kernel_rfl) rfl rfl ?_)))
           all_goals ((first | refine GE.q 18 rfl (by kernel_rfl) rfl (qg_runs (rv_move rfl)) rfl ?_ | refine GE.qn 18 rfl (by kernel_rfl) rfl rfl ?_))
           all_goals ((first | (refine GE.q 19 rfl (by kernel_rfl) rfl (qg_runs (rv_decr rfl rfl (by omega) (by omega))) rfl ?_) | refine GE.qn 19 rfl (by kernel_rfl) rfl rfl ?_))
           all_goals ((first | (refine GE.q 20 rfl (by kernel_rfl) rfl (qg_runs (rv_indexH (k := q) rfl rfl (by exact Rd.owned 2 rfl) (by omega) (by exact he))) rfl ?_) | refine GE.qn 20 rfl (by kernel_rfl) rfl rfl ?_))
           all_goals ((first | (refine GE.q 21 rfl (by kernel_rfl) rfl (qg_runs (rv_fieldE rfl)) rfl ?_) | refine GE.qn 21 rfl (by kernel_rfl) rfl rfl ?_))
           all_goals ((first | refine GE.q 22 rfl (by kernel_rfl) rfl (qg_runs (rv_loadE rfl (by first | exact Rd.stays (by assumption) | exact Rd.owned 2 rfl) (by first | exact he | exact heb) rfl)) rfl ?_ | refine GE.qn 22 rfl (by kernel_rfl) rfl rfl ?_))
           all_goals ((first | (refine GE.q 23 rfl (by kernel_rfl) rfl (qg_runs (rv_field rfl)) rfl ?_) | refine GE.qn 23 rfl (by kernel_rfl) rfl rfl ?_))
           all_goals ((first | (refine GE.q 24 rfl (by kernel_rfl) rfl (qg_runs (rv_load1 0 rfl rfl rfl)) rfl ?_) | refine GE.qn 24 rfl (by kernel_rfl) rfl rfl ?_))
           all_goals ((first | (refine GE.q 25 rfl (by kernel_rfl) rfl (qg_runs (rv_addB rfl rfl (by omega) (by omega))) rfl ?_) | refine GE.qn 25 rfl (by kernel_rfl) rfl rfl ?_))
           all_goals ((first | (refine GE.q 26 rfl (by kernel_rfl) rfl (qg_runs (rv_field rfl)) rfl ?_) | refine GE.qn 26 rfl (by kernel_rfl) rfl rfl ?_))
           all_goals ((first | (refine GE.q 27 rfl (by kernel_rfl) rfl (qg_runs (rv_load1 3 rfl rfl rfl)) rfl ?_) | refine GE.qn 27 rfl (by kernel_rfl) rfl rfl ?_))
           all_goals ((first | refine GE.q 28 rfl (by kernel_rfl) rfl (qg_runs (rv_gtr rfl rfl)) rfl ?_ | refine GE.qn 28 rfl (by kernel_rfl) rfl rfl ?_))
           all_goals ((first | refine GE.ol 29 (by kernel_rfl) rfl rfl (og_runs (rv_pickT rfl rfl)) rfl (fun _ _ h => by exact h) (fun _ _ => ?_) | refine GE.ol 29 (by kernel_rfl) rfl rfl (og_runs (rv_pickF rfl rfl)) rfl (fun _ _ h => by exact h) (fun _ _ => ?_)))
           all_goals
            refine GE.done (by kernel_rfl) ?_
            refine G.thenN ?_
            refine G.cond rfl (fun hc => ?_) (fun hc => ?_)
            · try exact Bool.noConfusion hc
              all_goals
               try replace hc := of_decide_eq_true hc
               try simp only [List.length_map] at hc
               try (exfalso; contradiction)
               all_goals
                refine G.seq ?_
                refine G.region ?_
                refine G.v (rv_move rfl) rfl ?_
                refine G.v (rv_build2 rfl .nil .nil) rfl ?_
                refine G.op (og_lit rfl (.cons rfl .nil) rfl rfl rfl rfl rfl rfl) rfl (fun vl _ => ?_)
                ((refine G.op (og_app3 rfl rfl rfl (by exact Rd.owned 0 rfl) rfl rfl (by simp; omega) (by simp; omega)) rfl (fun va _ => ?_)))
                refine G.v (rv_assign rfl) rfl ?_
                refine G.done ?_
                refine G.thenN ?_
                refine G.region ?_
                refine G.v (rv_move rfl) rfl ?_
                (refine G.v (rv_incr rfl rfl (by omega)) rfl ?_)
                obtain ⟨q, hq⟩ : ∃ y, y = ts.length := ⟨_, rfl⟩
                obtain ⟨t, htt⟩ : ∃ y, y = ((layZ, .slice none 0 0) : LayerM × Value) := ⟨_, rfl⟩
                obtain ⟨us, hus⟩ : ∃ y, y = ts ++ [t] := ⟨_, rfl⟩
                obtain ⟨vr, hvr⟩ : ∃ y, y = va := ⟨_, rfl⟩
                subst hvr
                have huq : us[q]? = some t := by rw [hus, hq]; simp
                have he : (us.map LayerM.cells)[q]? = some (LayerM.cells t) := get_map huq LayerM.cells
                have hgi : (us.map (sub LayerM.l))[q]? = some (t.2, t.1.l.map icell) := get_mapS huq
                have hl1 : (us.map LayerM.cells).length = q + 1 := by rw [hus, hq]; simp
                have hzd : t.1.d = 0 := (by rw [htt]; rfl); have hzh : t.1.h = 0 := (by rw [htt]; rfl); have hzg : t.1.g = 0 := (by rw [htt]; rfl)
                have htl : t.1.l.length = 0 := by rw [htt]; rfl
                have hov2 : t.2.oneCell' = true := by rw [htt]; rfl
                have hst : pileStep (layRoom p) layAdd layZ (ts.map Prod.fst) (b.1, k) = (us.map Prod.fst).set q (layAdd t.1 k b.1) := by
                  have e : us.map Prod.fst = ts.map Prod.fst ++ [layZ] := by rw [hus, htt]; simp
                  rw [e, htt, hq]
                  have := pile_new (room := layRoom p) (add := layAdd) (z := layZ) (out := ts.map Prod.fst) (s := b.1) (k := k) (by intro t2 ht2; first | (rw [hts] at ht2; simp at ht2; done) | (rw [last_of hts] at ht2; obtain rfl := Option.some.inj ht2; simp only [layRoom, Bool.and_eq_false_iff, decide_eq_false_iff_not]; (first | (have hq9 := of_decide_eq_true hg; omega) | omega)))
                  rw [this]; simp
                (refine G.frontR3 vr rfl ?_)
                refine G.rowEq (us.map LayerM.cells) (by rw [hus, htt]; simp [LayerM.cells, layZ]) rfl ?_
                (refine G.frontG3 _ rfl ?_)
                refine G.pushNil (us.map (sub LayerM.l)) (by rw [hus, htt]; simp [sub, layZ]) rfl ?_
                refine G.v (rv_assign rfl) rfl ?_
                refine G.done ?_
                refine G.thenN ?_
                refine G.seq ?_
                refine G.region ?_
                refine G.v (rv_move rfl) rfl ?_
                refine G.v (rv_move rfl) rfl ?_
                (refine G.v (rv_decr rfl rfl (by omega) (by omega)) rfl ?_)
                (refine G.v (rv_indexH (k := q) rfl rfl (by exact Rd.owned 1 rfl) (by omega) (by exact he)) rfl ?_)
                (refine G.v (rv_loadEW rfl (by exact Rd.owned 1 rfl) (by exact he) rfl) rfl ?_)
                refine G.op (og_alloc) rfl (fun bk9 _ => ?_)
                (refine G.op0 (og_st0 rfl rfl rfl rfl rfl (by repeat (first | rfl | refine one_cons (by assumption) ?_)) (.zero (.cons (.cons (.cons (.cons .nil)))))) (fun _ _ => ?_))
                refine G.done ?_
                refine G.thenN ?_
                refine G.drawL [26, 27] ?_
                refine GE.q 0 rfl (by kernel_rfl) rfl (qg_runs (rv_move rfl)) rfl ?_
                refine GE.q 1 rfl (by kernel_rfl) rfl (qg_runs (rv_move rfl)) rfl ?_
                (refine GE.q 2 rfl (by kernel_rfl) rfl (qg_runs (rv_decr rfl rfl (by omega) (by omega))) rfl ?_)
                (refine GE.q 4 rfl (by kernel_rfl) rfl (qg_runs (rv_field rfl)) rfl ?_)
                (refine GE.q 5 rfl (by kernel_rfl) rfl (qg_runs (rv_load1 0 rfl rfl rfl)) rfl ?_)
                refine GE.q 7 rfl (by kernel_rfl) rfl (qg_runs (rv_move rfl)) rfl ?_
                (refine GE.q 10 rfl (by kernel_rfl) rfl (qg_runs (rv_field rfl)) rfl ?_)
                (refine GE.q 11 rfl (by kernel_rfl) rfl (qg_runs (rv_load1 0 rfl rfl rfl)) rfl ?_)
                (refine GE.q 12 rfl (by kernel_rfl) rfl (qg_runs (rv_field rfl)) rfl ?_)
                (refine GE.q 13 rfl (by kernel_rfl) rfl (qg_runs (rv_load1 4 rfl rfl rfl)) rfl ?_)
                (refine GE.q 14 rfl (by kernel_rfl) rfl (qg_runs (rv_addB rfl rfl (by omega) (by omega))) rfl ?_)
                (refine GE.q 15 rfl (by kernel_rfl) rfl (qg_runs (rv_field rfl)) rfl ?_)
                (refine GE.q 16 rfl (by kernel_rfl) rfl (qg_runs (rv_load1 0 rfl rfl rfl)) rfl ?_)
                (refine GE.q 17 rfl (by kernel_rfl) rfl (qg_runs (rv_field rfl)) rfl ?_)
                (refine GE.q 18 rfl (by kernel_rfl) rfl (qg_runs (rv_load1 4 rfl rfl rfl)) rfl ?_)
                (refine GE.q 20 rfl (by kernel_rfl) rfl (qg_runs (rv_field rfl)) rfl ?_)
                (refine GE.q 21 rfl (by kernel_rfl) rfl (qg_runs (rv_load1 0 rfl rfl rfl)) rfl ?_)
                (refine GE.q 22 rfl (by kernel_rfl) rfl (qg_runs (rv_field rfl)) rfl ?_)
                (refine GE.q 23 rfl (by kernel_rfl) rfl (qg_runs (rv_load1 4 rfl rfl rfl)) rfl ?_)
                (refine GE.q 24 rfl (by kernel_rfl) rfl (qg_runs (rv_addB rfl rfl (by omega) (by omega))) rfl ?_)
                refine GE.any (rs := [3, 8]) (by kernel_rfl) (by simp) ?_
                refine List.forall_mem_cons.2 ⟨?_, List.forall_mem_cons.2 ⟨?_, fun _ h => absurd h List.not_mem_nil⟩⟩
                ·
                  refine GE.pickOp rfl rfl rfl (og_lit rfl .nil rfl rfl rfl rfl rfl rfl) rfl (fun _ _ h => by exact h.drop 1) (fun vl _ => ?_)
                  refine GE.any (rs := [6, 8]) (by kernel_rfl) (by simp) ?_
                  refine List.forall_mem_cons.2 ⟨?_, List.forall_mem_cons.2 ⟨?_, fun _ h => absurd h List.not_mem_nil⟩⟩
                  ·
                    ((refine GE.pickOp rfl rfl rfl (og_app0 rfl rfl rfl (by exact Rd.grp 2 rfl (List.mem_of_getElem? hgi)) rfl rfl (by simp; omega) (by simp; omega)) rfl (fun _ _ h => by exact h.drop 1) (fun va _ => ?_)))
                    refine GE.ol 8 (by kernel_rfl) rfl rfl (og_lit rfl (.cons rfl .nil) rfl rfl rfl rfl rfl rfl) rfl (fun _ _ h => by exact h.drop 2) (fun vl _ => ?_)
                    ((refine GE.ol 9 (by kernel_rfl) rfl rfl (og_app1 rfl rfl rfl (by exact Rd.owned 0 rfl) rfl rfl (by simp; omega) (by simp; omega)) rfl (fun _ _ h => by exact h.drop 2) (fun va _ => ?_)))
                    skip; refine G.know (fun w hw => (Rd.owned 1 rfl (v := va) w hw).one_) (fun hova => ?_)
                    refine GE.ol 19 (by kernel_rfl) rfl rfl (og_callV rfl rfl (fun w _ => l1Max_any _ _ w)) rfl (fun _ _ h => by exact h.drop 2) (fun _ _ => ?_)
                    refine GE.ol 25 (by kernel_rfl) rfl rfl (og_runs (rv_build2 rfl (.cons (cells_one (by assumption)) (.cons rfl (.cons rfl (.cons rfl .nil)))) (.cons rfl rfl (.zero (.cons .nil)) (.cons rfl rfl (.succ (.zero (.cons .nil))) (.cons rfl rfl (.succ (.succ (.zero (.cons .nil)))) (.cons rfl rfl (.succ (.succ (.succ (.zero (.cons .nil))))) .nil)))))) rfl (fun _ _ h => by exact h.drop 2) (fun _ _ => ?_)
                    (refine GE.t 26 (by kernel_rfl) rfl rfl rfl (og_runs (rv_indexH (k := q) rfl rfl (by exact Rd.owned 4 rfl) (by omega) (by exact he))) rfl (fun _ _ => ?_))
                    (refine GE.t0 27 (by kernel_rfl) rfl rfl rfl (og_stE4 rfl rfl rfl (by exact he) rfl rfl (by repeat (first | rfl | refine one_cons (by assumption) ?_)) rfl (.zero (.cons (.cons (.cons (.cons .nil)))))) (fun _ _ => ?_))
                    refine GE.done (by kernel_rfl) ?_
                    refine G.inN ?_
                    refine G.thenN ?_
                    refine G.region ?_
                    refine G.v (rv_move rfl) rfl ?_
                    (refine G.v (rv_incr rfl rfl (by omega)) rfl ?_)
                    refine G.v (rv_assign rfl) rfl ?_
                    refine G.done ?_
                    (refine G.frontR4 vr rfl ?_)
                    (refine G.frontG4 _ rfl ?_)
                    (refine G.frontR3 va rfl ?_)
                    refine G.swapRow ((us.set q (layAdd t.1 k b.1, va)).map (sub LayerM.l)) hgi (sub_set (by simp only [layAdd, List.map_append, List.map_cons, List.map_nil, icell, List.nil_append])) rfl ?_
                    (refine G.keep2 4 rfl ?_; refine G.backK (k + 1, us.set q (layAdd t.1 k b.1, va), vr) 0 (two_eq rfl (congrArg (fun z => Ch.row vr 61 4 z) (cells_set rfl))) (.cons rfl (.cons rfl (.nil))) ?_ ?_ ?_)
                    · exact ⟨rfl, rfl, trivial⟩
                    · exact ⟨hlt, by rw [foldl_take_succ hz, ← hM, hst, List.map_set]⟩
                    · omega
                  ·
                    refine GE.pickOp rfl rfl rfl (og_lit rfl (.cons rfl .nil) rfl rfl rfl rfl rfl rfl) rfl (fun _ _ h => by exact h.drop 2) (fun vl _ => ?_)
                    ((refine GE.ol 6 (by kernel_rfl) rfl rfl (og_app1 rfl rfl rfl (by exact Rd.grp 3 rfl (List.mem_of_getElem? hgi)) rfl rfl (by simp; omega) (by simp; omega)) rfl (fun _ _ h => by exact h.drop 2) (fun va _ => ?_)))
                    ((refine GE.ol 9 (by kernel_rfl) rfl rfl (og_app1 rfl rfl rfl (by exact Rd.owned 0 rfl) rfl rfl (by simp; omega) (by simp; omega)) rfl (fun _ _ h => by exact h.drop 2) (fun va _ => ?_)))
                    skip; refine G.know (fun w hw => (Rd.owned 1 rfl (v := va) w hw).one_) (fun hova => ?_)
                    refine GE.ol 19 (by kernel_rfl) rfl rfl (og_callV rfl rfl (fun w _ => l1Max_any _ _ w)) rfl (fun _ _ h => by exact h.drop 2) (fun _ _ => ?_)
                    refine GE.ol 25 (by kernel_rfl) rfl rfl (og_runs (rv_build2 rfl (.cons (cells_one (by assumption)) (.cons rfl (.cons rfl (.cons rfl .nil)))) (.cons rfl rfl (.zero (.cons .nil)) (.cons rfl rfl (.succ (.zero (.cons .nil))) (.cons rfl rfl (.succ (.succ (.zero (.cons .nil)))) (.cons rfl rfl (.succ (.succ (.succ (.zero (.cons .nil))))) .nil)))))) rfl (fun _ _ h => by exact h.drop 2) (fun _ _ => ?_)
                    (refine GE.t 26 (by kernel_rfl) rfl rfl rfl (og_runs (rv_indexH (k := q) rfl rfl (by exact Rd.owned 4 rfl) (by omega) (by exact he))) rfl (fun _ _ => ?_))
                    (refine GE.t0 27 (by kernel_rfl) rfl rfl rfl (og_stE4 rfl rfl rfl (by exact he) rfl rfl (by repeat (first | rfl | refine one_cons (by assumption) ?_)) rfl (.zero (.cons (.cons (.cons (.cons .nil)))))) (fun _ _ => ?_))
                    refine GE.done (by kernel_rfl) ?_
                    refine G.inN ?_
                    refine G.thenN ?_
                    refine G.region ?_
                    refine G.v (rv_move rfl) rfl ?_
                    (refine G.v (rv_incr rfl rfl (by omega)) rfl ?_)
                    refine G.v (rv_assign rfl) rfl ?_
                    refine G.done ?_
                    (refine G.frontR4 vr rfl ?_)
                    (refine G.frontG4 _ rfl ?_)
                    (refine G.frontR3 va rfl ?_)
                    refine G.swapRow ((us.set q (layAdd t.1 k b.1, va)).map (sub LayerM.l)) hgi (sub_set (by simp only [layAdd, List.map_append, List.map_cons, List.map_nil, icell, List.nil_append])) rfl ?_
                    (refine G.keep2 4 rfl ?_; refine G.backK (k + 1, us.set q (layAdd t.1 k b.1, va), vr) 0 (two_eq rfl (congrArg (fun z => Ch.row vr 61 4 z) (cells_set rfl))) (.cons rfl (.cons rfl (.nil))) ?_ ?_ ?_)
                    · exact ⟨rfl, rfl, trivial⟩
                    · exact ⟨hlt, by rw [foldl_take_succ hz, ← hM, hst, List.map_set]⟩
                    · omega
                ·
                  refine GE.pickOp rfl rfl rfl (og_lit rfl (.cons rfl .nil) rfl rfl rfl rfl rfl rfl) rfl (fun _ _ h => by exact h.drop 1) (fun vl _ => ?_)
                  refine GE.ol 3 (by kernel_rfl) rfl rfl (og_lit rfl .nil rfl rfl rfl rfl rfl rfl) rfl (fun _ _ h => by exact h.drop 2) (fun vl _ => ?_)
                  ((refine GE.ol 6 (by kernel_rfl) rfl rfl (og_app0 rfl rfl rfl (by exact Rd.grp 3 rfl (List.mem_of_getElem? hgi)) rfl rfl (by simp; omega) (by simp; omega)) rfl (fun _ _ h => by exact h.drop 2) (fun va _ => ?_)))
                  ((refine GE.ol 9 (by kernel_rfl) rfl rfl (og_app0 rfl rfl rfl (by exact Rd.owned 1 rfl) rfl rfl (by simp; omega) (by simp; omega)) rfl (fun _ _ h => by exact h.drop 2) (fun va _ => ?_)))
                  skip; refine G.know (fun w hw => (Rd.owned 0 rfl (v := va) w hw).one_) (fun hova => ?_)
                  refine GE.ol 19 (by kernel_rfl) rfl rfl (og_callV rfl rfl (fun w _ => l1Max_any _ _ w)) rfl (fun _ _ h => by exact h.drop 2) (fun _ _ => ?_)
                  refine GE.ol 25 (by kernel_rfl) rfl rfl (og_runs (rv_build2 rfl (.cons (cells_one (by assumption)) (.cons rfl (.cons rfl (.cons rfl .nil)))) (.cons rfl rfl (.zero (.cons .nil)) (.cons rfl rfl (.succ (.zero (.cons .nil))) (.cons rfl rfl (.succ (.succ (.zero (.cons .nil)))) (.cons rfl rfl (.succ (.succ (.succ (.zero (.cons .nil))))) .nil)))))) rfl (fun _ _ h => by exact h.drop 2) (fun _ _ => ?_)
                  (refine GE.t 26 (by kernel_rfl) rfl rfl rfl (og_runs (rv_indexH (k := q) rfl rfl (by exact Rd.owned 4 rfl) (by omega) (by exact he))) rfl (fun _ _ => ?_))
                  (refine GE.t0 27 (by kernel_rfl) rfl rfl rfl (og_stE4 rfl rfl rfl (by exact he) rfl rfl (by repeat (first | rfl | refine one_cons (by assumption) ?_)) rfl (.zero (.cons (.cons (.cons (.cons .nil)))))) (fun _ _ => ?_))
                  refine GE.done (by kernel_rfl) ?_
                  refine G.inN ?_
                  refine G.thenN ?_
                  refine G.region ?_
                  refine G.v (rv_move rfl) rfl ?_
                  (refine G.v (rv_incr rfl rfl (by omega)) rfl ?_)
                  refine G.v (rv_assign rfl) rfl ?_
                  refine G.done ?_
                  (refine G.frontR4 vr rfl ?_)
                  (refine G.frontG4 _ rfl ?_)
                  (refine G.frontR2 va rfl ?_)
                  refine G.swapRow ((us.set q (layAdd t.1 k b.1, va)).map (sub LayerM.l)) hgi (sub_set (by simp only [layAdd, List.map_append, List.map_cons, List.map_nil, icell, List.nil_append])) rfl ?_
                  (refine G.keep2 4 rfl ?_; refine G.backK (k + 1, us.set q (layAdd t.1 k b.1, va), vr) 0 (two_eq rfl (congrArg (fun z => Ch.row vr 61 4 z) (cells_set rfl))) (.cons rfl (.cons rfl (.nil))) ?_ ?_ ?_)
                  · exact ⟨rfl, rfl, trivial⟩
                  · exact ⟨hlt, by rw [foldl_take_succ hz, ← hM, hst, List.map_set]⟩
                  · omega
            · try exact Bool.noConfusion hc
              all_goals
               try replace hc := of_decide_eq_false hc
               try simp only [List.length_map] at hc
               try (exfalso; contradiction)
               all_goals
                obtain ⟨us, hus⟩ : ∃ y, y = ts := ⟨_, rfl⟩
                obtain ⟨vr, hvr⟩ : ∃ y, y = v2 := ⟨_, rfl⟩
                have hl1 : (us.map LayerM.cells).length = q + 1 := by rw [hus]; omega
                have htl : t.1.l.length ≤ 1048576 := hlb
                have hst : pileStep (layRoom p) layAdd layZ (ts.map Prod.fst) (b.1, k) = (us.map Prod.fst).set q (layAdd t.1 k b.1) := by
                  rw [hus]; exact pile_room (fst_at htq) (by rw [List.length_map]; omega) (by simp only [layRoom, Bool.and_eq_true, decide_eq_true_eq]; ((have hq9 := of_decide_eq_false hg; omega)))
                subst hvr hus
                all_goals
                 refine G.skip ?_
                 refine G.thenN ?_
                 refine G.seq ?_
                 refine G.region ?_
                 refine G.v (rv_move rfl) rfl ?_
                 refine G.v (rv_move rfl) rfl ?_
                 (refine G.v (rv_decr rfl rfl (by omega) (by omega)) rfl ?_)
                 (refine G.v (rv_indexH (k := q) rfl rfl (by exact Rd.owned 2 rfl) (by omega) (by exact he)) rfl ?_)
                 (refine G.v (rv_loadEW rfl (by exact Rd.owned 2 rfl) (by exact he) rfl) rfl ?_)
                 refine G.op (og_alloc) rfl (fun bk9 _ => ?_)
                 (refine G.op0 (og_st0 rfl rfl rfl rfl rfl (by repeat (first | rfl | refine one_cons (by assumption) ?_)) (.zero (.cons (.cons (.cons (.cons .nil)))))) (fun _ _ => ?_))
                 refine G.done ?_
                 refine G.thenN ?_
                 refine G.drawL [26, 27] ?_
                 refine GE.q 0 rfl (by kernel_rfl) rfl (qg_runs (rv_move rfl)) rfl ?_
                 refine GE.q 1 rfl (by kernel_rfl) rfl (qg_runs (rv_move rfl)) rfl ?_
                 (refine GE.q 2 rfl (by kernel_rfl) rfl (qg_runs (rv_decr rfl rfl (by omega) (by omega))) rfl ?_)
                 (refine GE.q 4 rfl (by kernel_rfl) rfl (qg_runs (rv_field rfl)) rfl ?_)
                 (refine GE.q 5 rfl (by kernel_rfl) rfl (qg_runs (rv_load1 0 rfl rfl rfl)) rfl ?_)
                 refine GE.q 7 rfl (by kernel_rfl) rfl (qg_runs (rv_move rfl)) rfl ?_
                 (refine GE.q 10 rfl (by kernel_rfl) rfl (qg_runs (rv_field rfl)) rfl ?_)
                 (refine GE.q 11 rfl (by kernel_rfl) rfl (qg_runs (rv_load1 0 rfl rfl rfl)) rfl ?_)
                 (refine GE.q 12 rfl (by kernel_rfl) rfl (qg_runs (rv_field rfl)) rfl ?_)
                 (refine GE.q 13 rfl (by kernel_rfl) rfl (qg_runs (rv_load1 1 rfl rfl rfl)) rfl ?_)
                 (refine GE.q 14 rfl (by kernel_rfl) rfl (qg_runs (rv_addB rfl rfl (by omega) (by omega))) rfl ?_)
                 (refine GE.q 15 rfl (by kernel_rfl) rfl (qg_runs (rv_field rfl)) rfl ?_)
                 (refine GE.q 16 rfl (by kernel_rfl) rfl (qg_runs (rv_load1 0 rfl rfl rfl)) rfl ?_)
                 (refine GE.q 17 rfl (by kernel_rfl) rfl (qg_runs (rv_field rfl)) rfl ?_)
                 (refine GE.q 18 rfl (by kernel_rfl) rfl (qg_runs (rv_load1 1 rfl rfl rfl)) rfl ?_)
                 (refine GE.q 20 rfl (by kernel_rfl) rfl (qg_runs (rv_field rfl)) rfl ?_)
                 (refine GE.q 21 rfl (by kernel_rfl) rfl (qg_runs (rv_load1 0 rfl rfl rfl)) rfl ?_)
                 (refine GE.q 22 rfl (by kernel_rfl) rfl (qg_runs (rv_field rfl)) rfl ?_)
                 (refine GE.q 23 rfl (by kernel_rfl) rfl (qg_runs (rv_load1 1 rfl rfl rfl)) rfl ?_)
                 (refine GE.q 24 rfl (by kernel_rfl) rfl (qg_runs (rv_addB rfl rfl (by omega) (by omega))) rfl ?_)
                 refine GE.any (rs := [3, 8]) (by kernel_rfl) (by simp) ?_
                 refine List.forall_mem_cons.2 ⟨?_, List.forall_mem_cons.2 ⟨?_, fun _ h => absurd h List.not_mem_nil⟩⟩
                 ·
                   refine GE.pickOp rfl rfl rfl (og_lit rfl .nil rfl rfl rfl rfl rfl rfl) rfl (fun _ _ h => by exact h.drop 1) (fun vl _ => ?_)
                   refine GE.any (rs := [6, 8]) (by kernel_rfl) (by simp) ?_
                   refine List.forall_mem_cons.2 ⟨?_, List.forall_mem_cons.2 ⟨?_, fun _ h => absurd h List.not_mem_nil⟩⟩
                   ·
                     ((refine GE.pickOp rfl rfl rfl (og_app0 rfl rfl rfl (by exact Rd.grp 3 rfl (List.mem_of_getElem? hgi)) rfl rfl (by simp; omega) (by simp; omega)) rfl (fun _ _ h => by exact h.drop 1) (fun va _ => ?_)))
                     refine GE.ol 8 (by kernel_rfl) rfl rfl (og_lit rfl (.cons rfl .nil) rfl rfl rfl rfl rfl rfl) rfl (fun _ _ h => by exact h.drop 2) (fun vl _ => ?_)
                     ((refine GE.ol 9 (by kernel_rfl) rfl rfl (og_app1 rfl rfl rfl (by exact Rd.owned 0 rfl) rfl rfl (by simp; omega) (by simp; omega)) rfl (fun _ _ h => by exact h.drop 2) (fun va _ => ?_)))
                     skip; refine G.know (fun w hw => (Rd.owned 1 rfl (v := va) w hw).one_) (fun hova => ?_)
                     refine GE.ol 19 (by kernel_rfl) rfl rfl (og_callV rfl rfl (fun w _ => l1Max_any _ _ w)) rfl (fun _ _ h => by exact h.drop 2) (fun _ _ => ?_)
                     refine GE.ol 25 (by kernel_rfl) rfl rfl (og_runs (rv_build2 rfl (.cons (cells_one (by assumption)) (.cons rfl (.cons rfl (.cons rfl .nil)))) (.cons rfl rfl (.zero (.cons .nil)) (.cons rfl rfl (.succ (.zero (.cons .nil))) (.cons rfl rfl (.succ (.succ (.zero (.cons .nil)))) (.cons rfl rfl (.succ (.succ (.succ (.zero (.cons .nil))))) .nil)))))) rfl (fun _ _ h => by exact h.drop 2) (fun _ _ => ?_)
                     (refine GE.t 26 (by kernel_rfl) rfl rfl rfl (og_runs (rv_indexH (k := q) rfl rfl (by exact Rd.owned 5 rfl) (by omega) (by exact he))) rfl (fun _ _ => ?_))
                     (refine GE.t0 27 (by kernel_rfl) rfl rfl rfl (og_stE5 rfl rfl rfl (by exact he) rfl rfl (by repeat (first | rfl | refine one_cons (by assumption) ?_)) rfl (.zero (.cons (.cons (.cons (.cons .nil)))))) (fun _ _ => ?_))
                     refine GE.done (by kernel_rfl) ?_
                     refine G.inN ?_
                     refine G.thenN ?_
                     refine G.region ?_
                     refine G.v (rv_move rfl) rfl ?_
                     (refine G.v (rv_incr rfl rfl (by omega)) rfl ?_)
                     refine G.v (rv_assign rfl) rfl ?_
                     refine G.done ?_
                     (refine G.frontR5 vr rfl ?_)
                     (refine G.frontG5 _ rfl ?_)
                     (refine G.frontR3 va rfl ?_)
                     refine G.swapRow ((us.set q (layAdd t.1 k b.1, va)).map (sub LayerM.l)) hgi (sub_set (by simp only [layAdd, List.map_append, List.map_cons, List.map_nil, icell, List.nil_append])) rfl ?_
                     (refine G.keep2 3 rfl ?_; refine G.backK (k + 1, us.set q (layAdd t.1 k b.1, va), vr) 0 (two_eq rfl (congrArg (fun z => Ch.row vr 61 4 z) (cells_set rfl))) (.cons rfl (.cons rfl (.nil))) ?_ ?_ ?_)
                     · exact ⟨rfl, rfl, trivial⟩
                     · exact ⟨hlt, by rw [foldl_take_succ hz, ← hM, hst, List.map_set]⟩
                     · omega
                   ·
                     refine GE.pickOp rfl rfl rfl (og_lit rfl (.cons rfl .nil) rfl rfl rfl rfl rfl rfl) rfl (fun _ _ h => by exact h.drop 2) (fun vl _ => ?_)
                     ((refine GE.ol 6 (by kernel_rfl) rfl rfl (og_app1 rfl rfl rfl (by exact Rd.grp 4 rfl (List.mem_of_getElem? hgi)) rfl rfl (by simp; omega) (by simp; omega)) rfl (fun _ _ h => by exact h.drop 2) (fun va _ => ?_)))
                     ((refine GE.ol 9 (by kernel_rfl) rfl rfl (og_app1 rfl rfl rfl (by exact Rd.owned 0 rfl) rfl rfl (by simp; omega) (by simp; omega)) rfl (fun _ _ h => by exact h.drop 2) (fun va _ => ?_)))
                     skip; refine G.know (fun w hw => (Rd.owned 1 rfl (v := va) w hw).one_) (fun hova => ?_)
                     refine GE.ol 19 (by kernel_rfl) rfl rfl (og_callV rfl rfl (fun w _ => l1Max_any _ _ w)) rfl (fun _ _ h => by exact h.drop 2) (fun _ _ => ?_)
                     refine GE.ol 25 (by kernel_rfl) rfl rfl (og_runs (rv_build2 rfl (.cons (cells_one (by assumption)) (.cons rfl (.cons rfl (.cons rfl .nil)))) (.cons rfl rfl (.zero (.cons .nil)) (.cons rfl rfl (.succ (.zero (.cons .nil))) (.cons rfl rfl (.succ (.succ (.zero (.cons .nil)))) (.cons rfl rfl (.succ (.succ (.succ (.zero (.cons .nil))))) .nil)))))) rfl (fun _ _ h => by exact h.drop 2) (fun _ _ => ?_)
                     (refine GE.t 26 (by kernel_rfl) rfl rfl rfl (og_runs (rv_indexH (k := q) rfl rfl (by exact Rd.owned 5 rfl) (by omega) (by exact he))) rfl (fun _ _ => ?_))
                     (refine GE.t0 27 (by kernel_rfl) rfl rfl rfl (og_stE5 rfl rfl rfl (by exact he) rfl rfl (by repeat (first | rfl | refine one_cons (by assumption) ?_)) rfl (.zero (.cons (.cons (.cons (.cons .nil)))))) (fun _ _ => ?_))
                     refine GE.done (by kernel_rfl) ?_
                     refine G.inN ?_
                     refine G.thenN ?_
                     refine G.region ?_
                     refine G.v (rv_move rfl) rfl ?_
                     (refine G.v (rv_incr rfl rfl (by omega)) rfl ?_)
                     refine G.v (rv_assign rfl) rfl ?_
                     refine G.done ?_
                     (refine G.frontR5 vr rfl ?_)
                     (refine G.frontG5 _ rfl ?_)
                     (refine G.frontR3 va rfl ?_)
                     refine G.swapRow ((us.set q (layAdd t.1 k b.1, va)).map (sub LayerM.l)) hgi (sub_set (by simp only [layAdd, List.map_append, List.map_cons, List.map_nil, icell, List.nil_append])) rfl ?_
                     (refine G.keep2 3 rfl ?_; refine G.backK (k + 1, us.set q (layAdd t.1 k b.1, va), vr) 0 (two_eq rfl (congrArg (fun z => Ch.row vr 61 4 z) (cells_set rfl))) (.cons rfl (.cons rfl (.nil))) ?_ ?_ ?_)
                     · exact ⟨rfl, rfl, trivial⟩
                     · exact ⟨hlt, by rw [foldl_take_succ hz, ← hM, hst, List.map_set]⟩
                     · omega
                 ·
                   refine GE.pickOp rfl rfl rfl (og_lit rfl (.cons rfl .nil) rfl rfl rfl rfl rfl rfl) rfl (fun _ _ h => by exact h.drop 1) (fun vl _ => ?_)
                   refine GE.ol 3 (by kernel_rfl) rfl rfl (og_lit rfl .nil rfl rfl rfl rfl rfl rfl) rfl (fun _ _ h => by exact h.drop 2) (fun vl _ => ?_)
                   ((refine GE.ol 6 (by kernel_rfl) rfl rfl (og_app0 rfl rfl rfl (by exact Rd.grp 4 rfl (List.mem_of_getElem? hgi)) rfl rfl (by simp; omega) (by simp; omega)) rfl (fun _ _ h => by exact h.drop 2) (fun va _ => ?_)))
                   ((refine GE.ol 9 (by kernel_rfl) rfl rfl (og_app0 rfl rfl rfl (by exact Rd.owned 1 rfl) rfl rfl (by simp; omega) (by simp; omega)) rfl (fun _ _ h => by exact h.drop 2) (fun va _ => ?_)))
                   skip; refine G.know (fun w hw => (Rd.owned 0 rfl (v := va) w hw).one_) (fun hova => ?_)
                   refine GE.ol 19 (by kernel_rfl) rfl rfl (og_callV rfl rfl (fun w _ => l1Max_any _ _ w)) rfl (fun _ _ h => by exact h.drop 2) (fun _ _ => ?_)
                   refine GE.ol 25 (by kernel_rfl) rfl rfl (og_runs (rv_build2 rfl (.cons (cells_one (by assumption)) (.cons rfl (.cons rfl (.cons rfl .nil)))) (.cons rfl rfl (.zero (.cons .nil)) (.cons rfl rfl (.succ (.zero (.cons .nil))) (.cons rfl rfl (.succ (.succ (.zero (.cons .nil)))) (.cons rfl rfl (.succ (.succ (.succ (.zero (.cons .nil))))) .nil)))))) rfl (fun _ _ h => by exact h.drop 2) (fun _ _ => ?_)
                   (refine GE.t 26 (by kernel_rfl) rfl rfl rfl (og_runs (rv_indexH (k := q) rfl rfl (by exact Rd.owned 5 rfl) (by omega) (by exact he))) rfl (fun _ _ => ?_))
                   (refine GE.t0 27 (by kernel_rfl) rfl rfl rfl (og_stE5 rfl rfl rfl (by exact he) rfl rfl (by repeat (first | rfl | refine one_cons (by assumption) ?_)) rfl (.zero (.cons (.cons (.cons (.cons .nil)))))) (fun _ _ => ?_))
                   refine GE.done (by kernel_rfl) ?_
                   refine G.inN ?_
                   refine G.thenN ?_
                   refine G.region ?_
                   refine G.v (rv_move rfl) rfl ?_
                   (refine G.v (rv_incr rfl rfl (by omega)) rfl ?_)
                   refine G.v (rv_assign rfl) rfl ?_
                   refine G.done ?_
                   (refine G.frontR5 vr rfl ?_)
                   (refine G.frontG5 _ rfl ?_)
                   (refine G.frontR2 va rfl ?_)
                   refine G.swapRow ((us.set q (layAdd t.1 k b.1, va)).map (sub LayerM.l)) hgi (sub_set (by simp only [layAdd, List.map_append, List.map_cons, List.map_nil, icell, List.nil_append])) rfl ?_
                   (refine G.keep2 3 rfl ?_; refine G.backK (k + 1, us.set q (layAdd t.1 k b.1, va), vr) 0 (two_eq rfl (congrArg (fun z => Ch.row vr 61 4 z) (cells_set rfl))) (.cons rfl (.cons rfl (.nil))) ?_ ?_ ?_)
                   · exact ⟨rfl, rfl, trivial⟩
                   · exact ⟨hlt, by rw [foldl_take_succ hz, ← hM, hst, List.map_set]⟩
                   · omega
       · try exact Bool.noConfusion hc
         all_goals
          try replace hc := of_decide_eq_false hc
          try simp only [List.length_map] at hc
          try (exfalso; omega)
          all_goals
           refine G.exit ?_
           refine G.thenX ?_
           refine G.thenX ?_
           refine G.inX ?_
           refine G.thenN ?_
           refine G.seq ?_
           refine G.region ?_
           refine G.v (rv_move rfl) rfl ?_
           refine G.v (rv_assign rfl) rfl ?_
           refine G.done ?_
           refine G.thenN ?_
           refine G.ret ?_
           (refine G.know (fun w hw => (Rd.owned 1 rfl w hw).one_) (fun hone => G.retF (v2, ts) ⟨hone, lay_end (bnot_no hok) hM (by rw [List.length_map]; exact hlt)⟩ rfl rfl rfl (fun w hw => hw.sublist (by repeat (first | exact List.Sublist.refl _ | refine List.Sublist.cons_cons _ ?_ | refine List.Sublist.cons _ ?_)))); done)

theorem specLoadsOf_any (p : PalletM) {v : Value} {l : List (LayerM × Value)} (w : World) (h : Rd w v 4 (l.map LayerM.cells)) (hb : l.length ≤ 1048576) :
    Fn Try.prog 41 [p.val, v] w (fun x : Value × List (LoadM × Value) => x.1.oneCell' = true ∧ x.2.map Prod.fst = loadsM p (l.map Prod.fst)) (fun x => x.1) (fun x => [.grp 3 1 (x.2.map (sub LoadM.l)), .row x.1 67 3 (x.2.map LoadM.cells)]) := by
  have pile_lens : ∀ (xs : List (LayerM × Nat)) (k : Nat), ∀ t ∈ (xs.take k).foldl (pileStep (loadRoom p) loadAdd loadZ) [], t.l.length ≤ k := fun xs k => load_lens xs k
  refine Fn.of (n := 92) Try.func41 rfl rfl ?_
  refine G.seq ?_
  refine G.region ?_
  refine G.op (og_box rfl rfl) rfl (fun bk2 _ => ?_)
  refine G.v (rv_assign rfl) rfl ?_
  refine G.done ?_
  refine G.thenN ?_
  refine G.seq ?_
  refine G.region ?_
  refine G.op (og_lit rfl .nil rfl rfl rfl rfl rfl rfl) rfl (fun vl _ => ?_)
  refine G.v (rv_assign rfl) rfl ?_
  refine G.done ?_
  refine G.thenN ?_
  refine G.seq ?_
  refine G.seq ?_
  refine G.region ?_
  (refine G.v (rv_loadW 1 rfl rfl rfl) rfl ?_)
  refine G.v (rv_move rfl) rfl ?_
  refine G.op (og_callV rfl rfl (fun w hh => specStacksOk_any _ w (by exact Rd.stays (by assumption) _ hh))) rfl (fun _ _ => ?_)
  refine G.v (rv_not rfl) rfl ?_
  refine G.done ?_
  refine G.thenN ?_
  refine G.cond rfl (fun hc => ?_) (fun hc => ?_)
  · try exact Bool.noConfusion hc
    all_goals
     try replace hc := of_decide_eq_true hc
     try simp only [List.length_map] at hc
     try (exfalso; contradiction)
     all_goals
      refine G.seq ?_
      refine G.region ?_
      refine G.v (rv_move rfl) rfl ?_
      refine G.v (rv_assign rfl) rfl ?_
      refine G.done ?_
      refine G.thenN ?_
      refine G.ret ?_
      refine G.thenR ?_
      (refine G.know (fun w hw => (Rd.owned 0 rfl w hw).one_) (fun hovl => ?_); exact G.retF (vl, []) ⟨hovl, by rw [loadsM, if_neg (by intro hq; simp only [stacksOkM] at hq; rw [hq] at hc; exact Bool.noConfusion hc)]; rfl⟩ rfl rfl rfl (fun w hw => (hw.sublist (by repeat (first | exact List.Sublist.refl _ | refine List.Sublist.cons_cons _ ?_ | refine List.Sublist.cons _ ?_)) : HeapOk _ w [.row vl 67 3 []]).nilGrp _ _))
  · try exact Bool.noConfusion hc
    all_goals
     try replace hc := of_decide_eq_false hc
     try simp only [List.length_map] at hc
     try (exfalso; contradiction)
     all_goals
      refine G.skip ?_
      refine G.thenN ?_
      refine G.seq ?_
      refine G.seq ?_
      refine G.region ?_
      refine G.v (rv_assign rfl) rfl ?_
      refine G.done ?_
      refine G.thenN ?_
      refine G.block ?_
      -- loop 0: turned [5, 6], kept [1, 2]
      have hok := hc
      have hpp := pallet_in (palletOk_of hc)
      refine G.heap (fun w hh => hh.nilGrp 3 1) ?_
      refine G.loopK (ι := Nat × List (LoadM × Value) × Value) (ks := [1, 2]) (fun x => [(5, x.2.2), (6, .int .i64 x.1)]) (fun x => [.grp 3 1 (x.2.1.map (sub LoadM.l)), .row x.2.2 67 3 (x.2.1.map LoadM.cells)]) (fun x => x.1 ≤ l.length ∧ x.2.1.map Prod.fst = ((l.map Prod.fst).zipIdx.take x.1).foldl (pileStep (loadRoom p) loadAdd loadZ) []) (fun x => l.length - x.1) (0, [], vl) (.cons rfl (.cons rfl (.nil))) rfl ?_ ?_ ?_
      · exact ⟨Nat.zero_le _, rfl⟩
      · exact ⟨rfl, rfl, trivial⟩
      rintro ⟨k, ts, v2⟩ ⟨hk, hM⟩
      dsimp only at hk hM ⊢
      by_cases hlt : k < l.length
      case' pos => (obtain ⟨b, hb2⟩ := get_of_lt hlt; have heb := get_map hb2 LayerM.cells; have hobb := heap_in (ok_at hok (fst_at hb2 : (l.map Prod.fst)[k]? = some b.1)).2; have hov : b.2.oneCell' = true := (h.good _ (List.mem_of_getElem? heb)).2 b.2 (by simp [LayerM.cells]); have hz := zip_get (fst_at hb2 : (l.map Prod.fst)[k]? = some b.1); have hl0 : (ts.map LoadM.cells).length = ts.length := (by simp); have hlk : ts.length ≤ k := (by (have := pile_len (room := loadRoom p) (add := loadAdd) (z := loadZ) ((l.map Prod.fst).zipIdx.take k) []; rw [← hM] at this; simp only [List.length_map, List.length_nil, List.length_take] at this; omega)); rcases nil_or_snoc ts with hts | ⟨tp, t, hts⟩; have hn0 : ts.length = 0 := (by rw [hts]; rfl); rotate_left; have hn1 : ts.length = tp.length + 1 := (by (rw [hts]; simp)); obtain ⟨q, hq⟩ : ∃ y, y = tp.length := ⟨_, rfl⟩; have htq : ts[q]? = some t := (by (rw [hq]; exact get_last hts)); have he := get_map htq LoadM.cells; have hgi : (ts.map (sub LoadM.l))[q]? = some (t.2, t.1.l.map icell) := get_mapS htq; have hbt : 0 ≤ t.1.h ∧ t.1.h ≤ p.h ∧ 0 ≤ t.1.g ∧ t.1.g ≤ p.g := (by (have := load_bd (p := p) (ss := (l.map Prod.fst)) (bnot_no hok) k; rw [← hM] at this; exact this t.1 (List.mem_map.2 ⟨t, List.mem_of_getElem? htq, rfl⟩))); refine G.know (fun w hw => (Rd.grp 0 rfl (List.mem_of_getElem? hgi) w hw).one_) (fun hov2 => ?_); have hlb : t.1.l.length ≤ 1048576 := (by (have := pile_lens (l.map Prod.fst).zipIdx k; rw [← hM] at this; have := this t.1 (List.mem_map.2 ⟨t, List.mem_of_getElem? htq, rfl⟩); omega)))
      all_goals
       refine G.seq ?_
       refine G.seq ?_
       refine G.region ?_
       refine G.v (rv_move rfl) rfl ?_
       refine G.v (rv_move rfl) rfl ?_
       refine G.v (rv_len rfl (by exact Rd.stays (by assumption))) rfl ?_
       refine G.v (rv_lss rfl rfl) rfl ?_
       refine G.done ?_
       refine G.thenN ?_
       refine G.cond rfl (fun hc => ?_) (fun hc => ?_)
       · try exact Bool.noConfusion hc
         all_goals
          try replace hc := of_decide_eq_true hc
          try simp only [List.length_map] at hc
          try (exfalso; omega)
          all_goals
           refine G.skip ?_
           refine G.thenN ?_
           refine G.seq ?_
           refine G.block ?_
           refine G.seq ?_
           refine G.region ?_
           refine G.v (rv_move rfl) rfl ?_
           refine G.v (rv_move rfl) rfl ?_
           (refine G.v (rv_indexH rfl rfl (by exact Rd.stays (by assumption)) rfl (by exact heb)) rfl ?_)
           (refine G.v (rv_loadEW rfl (by exact Rd.stays (by assumption)) (by exact heb) rfl) rfl ?_)
           refine G.op (og_alloc) rfl (fun bk7 _ => ?_)
           (refine G.op0 (og_st0 rfl rfl rfl rfl rfl (by repeat (first | rfl | refine one_cons (by assumption) ?_)) (.zero (.cons (.cons (.cons (.cons .nil)))))) (fun _ _ => ?_))
           refine G.done ?_
           refine G.thenN ?_
           refine G.seq ?_
           refine G.region ?_
           refine G.v (rv_move rfl) rfl ?_
           refine G.v (rv_len rfl (by exact Rd.owned 2 rfl)) rfl ?_
           refine G.v (rv_assign rfl) rfl ?_
           refine G.done ?_
           refine G.thenN ?_
           refine G.seq ?_
           refine G.seq ?_
           refine G.drawL [] ?_
           refine GE.ol 0 (by kernel_rfl) rfl rfl (og_runs (rv_move rfl)) rfl (fun _ _ h => by exact h) (fun _ _ => ?_)
           refine GE.ol 1 (by kernel_rfl) rfl rfl (og_runs (rv_eql rfl rfl)) rfl (fun _ _ h => by exact h) (fun _ _ => ?_)
           refine GE.ol 2 (by kernel_rfl) rfl rfl (og_runs (rv_move rfl)) rfl (fun _ _ h => by exact h) (fun _ _ => ?_)
           all_goals (((with_reducible refine GE.part (t := 30) rfl (fun hg => ?_) (fun hg => ?_)) <;> (try exact Bool.noConfusion hg) <;> (try (exfalso; first | (have hq := of_decide_eq_false hg; omega) | (have hq := of_decide_eq_true hg; omega); done)) <;> (first | refine GE.q 3 rfl (by kernel_rfl) rfl (qg_runs (rv_move rfl)) rfl ?_ | refine GE.qn 3 rfl (by kernel_rfl) rfl rfl ?_)))
           all_goals ((first | refine GE.q 4 rfl (by kernel_rfl) rfl (qg_runs (rv_move rfl)) rfl ?_ | refine GE.qn 4 rfl (by kernel_rfl) rfl rfl ?_))
           all_goals ((first | (refine GE.q 5 rfl (by kernel_rfl) rfl (qg_runs (rv_decr rfl rfl (by omega) (by omega))) rfl ?_) | refine GE.qn 5 rfl (by kernel_rfl) rfl rfl ?_))
           all_goals ((first | (refine GE.q 6 rfl (by kernel_rfl) rfl (qg_runs (rv_indexH (k := q) rfl rfl (by exact Rd.owned 2 rfl) (by omega) (by exact he))) rfl ?_) | refine GE.qn 6 rfl (by kernel_rfl) rfl rfl ?_))
           all_goals ((first | (refine GE.q 7 rfl (by kernel_rfl) rfl (qg_runs (rv_fieldE rfl)) rfl ?_) | refine GE.qn 7 rfl (by kernel_rfl) rfl rfl ?_))
           all_goals ((first | refine GE.q 8 rfl (by kernel_rfl) rfl (qg_runs (rv_loadE rfl (by first | exact Rd.stays (by assumption) | exact Rd.owned 2 rfl) (by first | exact he | exact heb) rfl)) rfl ?_ | refine GE.qn 8 rfl (by kernel_rfl) rfl rfl ?_))
           all_goals ((first | (refine GE.q 9 rfl (by kernel_rfl) rfl (qg_runs (rv_field rfl)) rfl ?_) | refine GE.qn 9 rfl (by kernel_rfl) rfl rfl ?_))
           all_goals ((first | (refine GE.q 10 rfl (by kernel_rfl) rfl (qg_runs (rv_load1 0 rfl rfl rfl)) rfl ?_) | refine GE.qn 10 rfl (by kernel_rfl) rfl rfl ?_))
           all_goals ((first | (refine GE.q 11 rfl (by kernel_rfl) rfl (qg_runs (rv_addB rfl rfl (by omega) (by omega))) rfl ?_) | refine GE.qn 11 rfl (by kernel_rfl) rfl rfl ?_))
           all_goals ((first | (refine GE.q 12 rfl (by kernel_rfl) rfl (qg_runs (rv_field rfl)) rfl ?_) | refine GE.qn 12 rfl (by kernel_rfl) rfl rfl ?_))
           all_goals ((first | (refine GE.q 13 rfl (by kernel_rfl) rfl (qg_runs (rv_load1 3 rfl rfl rfl)) rfl ?_) | refine GE.qn 13 rfl (by kernel_rfl) rfl rfl ?_))
           all_goals ((first | refine GE.q 14 rfl (by kernel_rfl) rfl (qg_runs (rv_gtr rfl rfl)) rfl ?_ | refine GE.qn 14 rfl (by kernel_rfl) rfl rfl ?_))
           all_goals ((first | refine GE.ol 15 (by kernel_rfl) rfl rfl (og_runs (rv_pickT rfl rfl)) rfl (fun _ _ h => by exact h) (fun _ _ => ?_) | refine GE.ol 15 (by kernel_rfl) rfl rfl (og_runs (rv_pickF rfl rfl)) rfl (fun _ _ h => by exact h) (fun _ _ => ?_)))
           all_goals (refine GE.ol 16 (by kernel_rfl) rfl rfl (og_runs (rv_move rfl)) rfl (fun _ _ h => by exact h) (fun _ _ => ?_))
           all_goals (((with_reducible refine GE.part (t := 44) rfl (fun hg => ?_) (fun hg => ?_)) <;> (try exact Bool.noConfusion hg) <;> (try (exfalso; (have hq := of_decide_eq_false hg; omega))) <;> (first | refine GE.q 17 rfl (by kernel_rfl) rfl (qg_runs (rv_move rfl)) rfl ?_ | refine GE.qn 17 rfl (by kernel_rfl) rfl rfl ?_)))
           all_goals ((first | refine GE.q 18 rfl (by kernel_rfl) rfl (qg_runs (rv_move rfl)) rfl ?_ | refine GE.qn 18 rfl (by kernel_rfl) rfl rfl ?_))
           all_goals ((first | (refine GE.q 19 rfl (by kernel_rfl) rfl (qg_runs (rv_decr rfl rfl (by omega) (by omega))) rfl ?_) | refine GE.qn 19 rfl (by kernel_rfl) rfl rfl ?_))
           all_goals ((first | (refine GE.q 20 rfl (by kernel_rfl) rfl (qg_runs (rv_indexH (k := q) rfl rfl (by exact Rd.owned 2 rfl) (by omega) (by exact he))) rfl ?_) | refine GE.qn 20 rfl (by kernel_rfl) rfl rfl ?_))
           all_goals ((first | (refine GE.q 21 rfl (by kernel_rfl) rfl (qg_runs (rv_fieldE rfl)) rfl ?_) | refine GE.qn 21 rfl (by kernel_rfl) rfl rfl ?_))
           all_goals ((first | refine GE.q 22 rfl (by kernel_rfl) rfl (qg_runs (rv_loadE rfl (by first | exact Rd.stays (by assumption) | exact Rd.owned 2 rfl) (by first | exact he | exact heb) rfl)) rfl ?_ | refine GE.qn 22 rfl (by kernel_rfl) rfl rfl ?_))
           all_goals ((first | (refine GE.q 23 rfl (by kernel_rfl) rfl (qg_runs (rv_field rfl)) rfl ?_) | refine GE.qn 23 rfl (by kernel_rfl) rfl rfl ?_))
           all_goals ((first | (refine GE.q 24 rfl (by kernel_rfl) rfl (qg_runs (rv_load1 0 rfl rfl rfl)) rfl ?_) | refine GE.qn 24 rfl (by kernel_rfl) rfl rfl ?_))
           all_goals ((first | (refine GE.q 25 rfl (by kernel_rfl) rfl (qg_runs (rv_addB rfl rfl (by omega) (by omega))) rfl ?_) | refine GE.qn 25 rfl (by kernel_rfl) rfl rfl ?_))
           all_goals ((first | (refine GE.q 26 rfl (by kernel_rfl) rfl (qg_runs (rv_field rfl)) rfl ?_) | refine GE.qn 26 rfl (by kernel_rfl) rfl rfl ?_))
           all_goals ((first | (refine GE.q 27 rfl (by kernel_rfl) rfl (qg_runs (rv_load1 3 rfl rfl rfl)) rfl ?_) | refine GE.qn 27 rfl (by kernel_rfl) rfl rfl ?_))
           all_goals ((first | refine GE.q 28 rfl (by kernel_rfl) rfl (qg_runs (rv_gtr rfl rfl)) rfl ?_ | refine GE.qn 28 rfl (by kernel_rfl) rfl rfl ?_))
           all_goals ((first | refine GE.ol 29 (by kernel_rfl) rfl rfl (og_runs (rv_pickT rfl rfl)) rfl (fun _ _ h => by exact h) (fun _ _ => ?_) | refine GE.ol 29 (by kernel_rfl) rfl rfl (og_runs (rv_pickF rfl rfl)) rfl (fun _ _ h => by exact h) (fun _ _ => ?_)))
           all_goals
            refine GE.done (by kernel_rfl) ?_
            refine G.thenN ?_
            refine G.cond rfl (fun hc => ?_) (fun hc => ?_)
            · try exact Bool.noConfusion hc
              all_goals
               try replace hc := of_decide_eq_true hc
               try simp only [List.length_map] at hc
               try (exfalso; contradiction)
               all_goals
                refine G.seq ?_
                refine G.region ?_
                refine G.v (rv_move rfl) rfl ?_
                refine G.v (rv_build2 rfl .nil .nil) rfl ?_
                refine G.op (og_lit rfl (.cons rfl .nil) rfl rfl rfl rfl rfl rfl) rfl (fun vl _ => ?_)
                ((refine G.op (og_app3 rfl rfl rfl (by exact Rd.owned 0 rfl) rfl rfl (by simp; omega) (by simp; omega)) rfl (fun va _ => ?_)))
                refine G.v (rv_assign rfl) rfl ?_
                refine G.done ?_
                refine G.thenN ?_
                refine G.region ?_
                refine G.v (rv_move rfl) rfl ?_
                (refine G.v (rv_incr rfl rfl (by omega)) rfl ?_)
                obtain ⟨q, hq⟩ : ∃ y, y = ts.length := ⟨_, rfl⟩
                obtain ⟨t, htt⟩ : ∃ y, y = ((loadZ, .slice none 0 0) : LoadM × Value) := ⟨_, rfl⟩
                obtain ⟨us, hus⟩ : ∃ y, y = ts ++ [t] := ⟨_, rfl⟩
                obtain ⟨vr, hvr⟩ : ∃ y, y = va := ⟨_, rfl⟩
                subst hvr
                have huq : us[q]? = some t := by rw [hus, hq]; simp
                have he : (us.map LoadM.cells)[q]? = some (LoadM.cells t) := get_map huq LoadM.cells
                have hgi : (us.map (sub LoadM.l))[q]? = some (t.2, t.1.l.map icell) := get_mapS huq
                have hl1 : (us.map LoadM.cells).length = q + 1 := by rw [hus, hq]; simp
                have hzh : t.1.h = 0 := (by rw [htt]; rfl); have hzg : t.1.g = 0 := (by rw [htt]; rfl)
                have htl : t.1.l.length = 0 := by rw [htt]; rfl
                have hov2 : t.2.oneCell' = true := by rw [htt]; rfl
                have hst : pileStep (loadRoom p) loadAdd loadZ (ts.map Prod.fst) (b.1, k) = (us.map Prod.fst).set q (loadAdd t.1 k b.1) := by
                  have e : us.map Prod.fst = ts.map Prod.fst ++ [loadZ] := by rw [hus, htt]; simp
                  rw [e, htt, hq]
                  have := pile_new (room := loadRoom p) (add := loadAdd) (z := loadZ) (out := ts.map Prod.fst) (s := b.1) (k := k) (by intro t2 ht2; first | (rw [hts] at ht2; simp at ht2; done) | (rw [last_of hts] at ht2; obtain rfl := Option.some.inj ht2; simp only [loadRoom, Bool.and_eq_false_iff, decide_eq_false_iff_not]; (first | (have hq9 := of_decide_eq_true hg; omega) | omega)))
                  rw [this]; simp
                (refine G.frontR3 vr rfl ?_)
                refine G.rowEq (us.map LoadM.cells) (by rw [hus, htt]; simp [LoadM.cells, loadZ]) rfl ?_
                (refine G.frontG3 _ rfl ?_)
                refine G.pushNil (us.map (sub LoadM.l)) (by rw [hus, htt]; simp [sub, loadZ]) rfl ?_
                refine G.v (rv_assign rfl) rfl ?_
                refine G.done ?_
                refine G.thenN ?_
                refine G.seq ?_
                refine G.region ?_
                refine G.v (rv_move rfl) rfl ?_
                refine G.v (rv_move rfl) rfl ?_
                (refine G.v (rv_decr rfl rfl (by omega) (by omega)) rfl ?_)
                (refine G.v (rv_indexH (k := q) rfl rfl (by exact Rd.owned 1 rfl) (by omega) (by exact he)) rfl ?_)
                (refine G.v (rv_loadEW rfl (by exact Rd.owned 1 rfl) (by exact he) rfl) rfl ?_)
                refine G.op (og_alloc) rfl (fun bk9 _ => ?_)
                (refine G.op0 (og_st0 rfl rfl rfl rfl rfl (by repeat (first | rfl | refine one_cons (by assumption) ?_)) (.zero (.cons (.cons (.cons .nil))))) (fun _ _ => ?_))
                refine G.done ?_
                refine G.thenN ?_
                refine G.drawL [21, 22] ?_
                refine GE.q 0 rfl (by kernel_rfl) rfl (qg_runs (rv_move rfl)) rfl ?_
                refine GE.q 1 rfl (by kernel_rfl) rfl (qg_runs (rv_move rfl)) rfl ?_
                (refine GE.q 2 rfl (by kernel_rfl) rfl (qg_runs (rv_decr rfl rfl (by omega) (by omega))) rfl ?_)
                (refine GE.q 4 rfl (by kernel_rfl) rfl (qg_runs (rv_field rfl)) rfl ?_)
                (refine GE.q 5 rfl (by kernel_rfl) rfl (qg_runs (rv_load1 0 rfl rfl rfl)) rfl ?_)
                refine GE.q 7 rfl (by kernel_rfl) rfl (qg_runs (rv_move rfl)) rfl ?_
                (refine GE.q 10 rfl (by kernel_rfl) rfl (qg_runs (rv_field rfl)) rfl ?_)
                (refine GE.q 11 rfl (by kernel_rfl) rfl (qg_runs (rv_load1 0 rfl rfl rfl)) rfl ?_)
                (refine GE.q 12 rfl (by kernel_rfl) rfl (qg_runs (rv_field rfl)) rfl ?_)
                (refine GE.q 13 rfl (by kernel_rfl) rfl (qg_runs (rv_load1 4 rfl rfl rfl)) rfl ?_)
                (refine GE.q 14 rfl (by kernel_rfl) rfl (qg_runs (rv_addB rfl rfl (by omega) (by omega))) rfl ?_)
                (refine GE.q 15 rfl (by kernel_rfl) rfl (qg_runs (rv_field rfl)) rfl ?_)
                (refine GE.q 16 rfl (by kernel_rfl) rfl (qg_runs (rv_load1 0 rfl rfl rfl)) rfl ?_)
                (refine GE.q 17 rfl (by kernel_rfl) rfl (qg_runs (rv_field rfl)) rfl ?_)
                (refine GE.q 18 rfl (by kernel_rfl) rfl (qg_runs (rv_load1 4 rfl rfl rfl)) rfl ?_)
                (refine GE.q 19 rfl (by kernel_rfl) rfl (qg_runs (rv_addB rfl rfl (by omega) (by omega))) rfl ?_)
                refine GE.any (rs := [3, 8]) (by kernel_rfl) (by simp) ?_
                refine List.forall_mem_cons.2 ⟨?_, List.forall_mem_cons.2 ⟨?_, fun _ h => absurd h List.not_mem_nil⟩⟩
                ·
                  refine GE.pickOp rfl rfl rfl (og_lit rfl .nil rfl rfl rfl rfl rfl rfl) rfl (fun _ _ h => by exact h.drop 1) (fun vl _ => ?_)
                  refine GE.any (rs := [6, 8]) (by kernel_rfl) (by simp) ?_
                  refine List.forall_mem_cons.2 ⟨?_, List.forall_mem_cons.2 ⟨?_, fun _ h => absurd h List.not_mem_nil⟩⟩
                  ·
                    ((refine GE.pickOp rfl rfl rfl (og_app0 rfl rfl rfl (by exact Rd.grp 2 rfl (List.mem_of_getElem? hgi)) rfl rfl (by simp; omega) (by simp; omega)) rfl (fun _ _ h => by exact h.drop 1) (fun va _ => ?_)))
                    refine GE.ol 8 (by kernel_rfl) rfl rfl (og_lit rfl (.cons rfl .nil) rfl rfl rfl rfl rfl rfl) rfl (fun _ _ h => by exact h.drop 2) (fun vl _ => ?_)
                    ((refine GE.ol 9 (by kernel_rfl) rfl rfl (og_app1 rfl rfl rfl (by exact Rd.owned 0 rfl) rfl rfl (by simp; omega) (by simp; omega)) rfl (fun _ _ h => by exact h.drop 2) (fun va _ => ?_)))
                    skip; refine G.know (fun w hw => (Rd.owned 1 rfl (v := va) w hw).one_) (fun hova => ?_)
                    refine GE.ol 20 (by kernel_rfl) rfl rfl (og_runs (rv_build2 rfl (.cons (cells_one (by assumption)) (.cons rfl (.cons rfl .nil))) (.cons rfl rfl (.zero (.cons .nil)) (.cons rfl rfl (.succ (.zero (.cons .nil))) (.cons rfl rfl (.succ (.succ (.zero (.cons .nil)))) .nil))))) rfl (fun _ _ h => by exact h.drop 2) (fun _ _ => ?_)
                    (refine GE.t 21 (by kernel_rfl) rfl rfl rfl (og_runs (rv_indexH (k := q) rfl rfl (by exact Rd.owned 4 rfl) (by omega) (by exact he))) rfl (fun _ _ => ?_))
                    (refine GE.t0 22 (by kernel_rfl) rfl rfl rfl (og_stE4 rfl rfl rfl (by exact he) rfl rfl (by repeat (first | rfl | refine one_cons (by assumption) ?_)) rfl (.zero (.cons (.cons (.cons .nil))))) (fun _ _ => ?_))
                    refine GE.done (by kernel_rfl) ?_
                    refine G.inN ?_
                    refine G.thenN ?_
                    refine G.region ?_
                    refine G.v (rv_move rfl) rfl ?_
                    (refine G.v (rv_incr rfl rfl (by omega)) rfl ?_)
                    refine G.v (rv_assign rfl) rfl ?_
                    refine G.done ?_
                    (refine G.frontR4 vr rfl ?_)
                    (refine G.frontG4 _ rfl ?_)
                    (refine G.frontR3 va rfl ?_)
                    refine G.swapRow ((us.set q (loadAdd t.1 k b.1, va)).map (sub LoadM.l)) hgi (sub_set (by simp only [loadAdd, List.map_append, List.map_cons, List.map_nil, icell, List.nil_append])) rfl ?_
                    (refine G.keep2 4 rfl ?_; refine G.backK (k + 1, us.set q (loadAdd t.1 k b.1, va), vr) 0 (two_eq rfl (congrArg (fun z => Ch.row vr 67 3 z) (cells_set rfl))) (.cons rfl (.cons rfl (.nil))) ?_ ?_ ?_)
                    · exact ⟨rfl, rfl, trivial⟩
                    · exact ⟨hlt, by rw [foldl_take_succ hz, ← hM, hst, List.map_set]⟩
                    · omega
                  ·
                    refine GE.pickOp rfl rfl rfl (og_lit rfl (.cons rfl .nil) rfl rfl rfl rfl rfl rfl) rfl (fun _ _ h => by exact h.drop 2) (fun vl _ => ?_)
                    ((refine GE.ol 6 (by kernel_rfl) rfl rfl (og_app1 rfl rfl rfl (by exact Rd.grp 3 rfl (List.mem_of_getElem? hgi)) rfl rfl (by simp; omega) (by simp; omega)) rfl (fun _ _ h => by exact h.drop 2) (fun va _ => ?_)))
                    ((refine GE.ol 9 (by kernel_rfl) rfl rfl (og_app1 rfl rfl rfl (by exact Rd.owned 0 rfl) rfl rfl (by simp; omega) (by simp; omega)) rfl (fun _ _ h => by exact h.drop 2) (fun va _ => ?_)))
                    skip; refine G.know (fun w hw => (Rd.owned 1 rfl (v := va) w hw).one_) (fun hova => ?_)
                    refine GE.ol 20 (by kernel_rfl) rfl rfl (og_runs (rv_build2 rfl (.cons (cells_one (by assumption)) (.cons rfl (.cons rfl .nil))) (.cons rfl rfl (.zero (.cons .nil)) (.cons rfl rfl (.succ (.zero (.cons .nil))) (.cons rfl rfl (.succ (.succ (.zero (.cons .nil)))) .nil))))) rfl (fun _ _ h => by exact h.drop 2) (fun _ _ => ?_)
                    (refine GE.t 21 (by kernel_rfl) rfl rfl rfl (og_runs (rv_indexH (k := q) rfl rfl (by exact Rd.owned 4 rfl) (by omega) (by exact he))) rfl (fun _ _ => ?_))
                    (refine GE.t0 22 (by kernel_rfl) rfl rfl rfl (og_stE4 rfl rfl rfl (by exact he) rfl rfl (by repeat (first | rfl | refine one_cons (by assumption) ?_)) rfl (.zero (.cons (.cons (.cons .nil))))) (fun _ _ => ?_))
                    refine GE.done (by kernel_rfl) ?_
                    refine G.inN ?_
                    refine G.thenN ?_
                    refine G.region ?_
                    refine G.v (rv_move rfl) rfl ?_
                    (refine G.v (rv_incr rfl rfl (by omega)) rfl ?_)
                    refine G.v (rv_assign rfl) rfl ?_
                    refine G.done ?_
                    (refine G.frontR4 vr rfl ?_)
                    (refine G.frontG4 _ rfl ?_)
                    (refine G.frontR3 va rfl ?_)
                    refine G.swapRow ((us.set q (loadAdd t.1 k b.1, va)).map (sub LoadM.l)) hgi (sub_set (by simp only [loadAdd, List.map_append, List.map_cons, List.map_nil, icell, List.nil_append])) rfl ?_
                    (refine G.keep2 4 rfl ?_; refine G.backK (k + 1, us.set q (loadAdd t.1 k b.1, va), vr) 0 (two_eq rfl (congrArg (fun z => Ch.row vr 67 3 z) (cells_set rfl))) (.cons rfl (.cons rfl (.nil))) ?_ ?_ ?_)
                    · exact ⟨rfl, rfl, trivial⟩
                    · exact ⟨hlt, by rw [foldl_take_succ hz, ← hM, hst, List.map_set]⟩
                    · omega
                ·
                  refine GE.pickOp rfl rfl rfl (og_lit rfl (.cons rfl .nil) rfl rfl rfl rfl rfl rfl) rfl (fun _ _ h => by exact h.drop 1) (fun vl _ => ?_)
                  refine GE.ol 3 (by kernel_rfl) rfl rfl (og_lit rfl .nil rfl rfl rfl rfl rfl rfl) rfl (fun _ _ h => by exact h.drop 2) (fun vl _ => ?_)
                  ((refine GE.ol 6 (by kernel_rfl) rfl rfl (og_app0 rfl rfl rfl (by exact Rd.grp 3 rfl (List.mem_of_getElem? hgi)) rfl rfl (by simp; omega) (by simp; omega)) rfl (fun _ _ h => by exact h.drop 2) (fun va _ => ?_)))
                  ((refine GE.ol 9 (by kernel_rfl) rfl rfl (og_app0 rfl rfl rfl (by exact Rd.owned 1 rfl) rfl rfl (by simp; omega) (by simp; omega)) rfl (fun _ _ h => by exact h.drop 2) (fun va _ => ?_)))
                  skip; refine G.know (fun w hw => (Rd.owned 0 rfl (v := va) w hw).one_) (fun hova => ?_)
                  refine GE.ol 20 (by kernel_rfl) rfl rfl (og_runs (rv_build2 rfl (.cons (cells_one (by assumption)) (.cons rfl (.cons rfl .nil))) (.cons rfl rfl (.zero (.cons .nil)) (.cons rfl rfl (.succ (.zero (.cons .nil))) (.cons rfl rfl (.succ (.succ (.zero (.cons .nil)))) .nil))))) rfl (fun _ _ h => by exact h.drop 2) (fun _ _ => ?_)
                  (refine GE.t 21 (by kernel_rfl) rfl rfl rfl (og_runs (rv_indexH (k := q) rfl rfl (by exact Rd.owned 4 rfl) (by omega) (by exact he))) rfl (fun _ _ => ?_))
                  (refine GE.t0 22 (by kernel_rfl) rfl rfl rfl (og_stE4 rfl rfl rfl (by exact he) rfl rfl (by repeat (first | rfl | refine one_cons (by assumption) ?_)) rfl (.zero (.cons (.cons (.cons .nil))))) (fun _ _ => ?_))
                  refine GE.done (by kernel_rfl) ?_
                  refine G.inN ?_
                  refine G.thenN ?_
                  refine G.region ?_
                  refine G.v (rv_move rfl) rfl ?_
                  (refine G.v (rv_incr rfl rfl (by omega)) rfl ?_)
                  refine G.v (rv_assign rfl) rfl ?_
                  refine G.done ?_
                  (refine G.frontR4 vr rfl ?_)
                  (refine G.frontG4 _ rfl ?_)
                  (refine G.frontR2 va rfl ?_)
                  refine G.swapRow ((us.set q (loadAdd t.1 k b.1, va)).map (sub LoadM.l)) hgi (sub_set (by simp only [loadAdd, List.map_append, List.map_cons, List.map_nil, icell, List.nil_append])) rfl ?_
                  (refine G.keep2 4 rfl ?_; refine G.backK (k + 1, us.set q (loadAdd t.1 k b.1, va), vr) 0 (two_eq rfl (congrArg (fun z => Ch.row vr 67 3 z) (cells_set rfl))) (.cons rfl (.cons rfl (.nil))) ?_ ?_ ?_)
                  · exact ⟨rfl, rfl, trivial⟩
                  · exact ⟨hlt, by rw [foldl_take_succ hz, ← hM, hst, List.map_set]⟩
                  · omega
            · try exact Bool.noConfusion hc
              all_goals
               try replace hc := of_decide_eq_false hc
               try simp only [List.length_map] at hc
               try (exfalso; contradiction)
               all_goals
                obtain ⟨us, hus⟩ : ∃ y, y = ts := ⟨_, rfl⟩
                obtain ⟨vr, hvr⟩ : ∃ y, y = v2 := ⟨_, rfl⟩
                have hl1 : (us.map LoadM.cells).length = q + 1 := by rw [hus]; omega
                have htl : t.1.l.length ≤ 1048576 := hlb
                have hst : pileStep (loadRoom p) loadAdd loadZ (ts.map Prod.fst) (b.1, k) = (us.map Prod.fst).set q (loadAdd t.1 k b.1) := by
                  rw [hus]; exact pile_room (fst_at htq) (by rw [List.length_map]; omega) (by simp only [loadRoom, Bool.and_eq_true, decide_eq_true_eq]; ((have hq9 := of_decide_eq_false hg; omega)))
                subst hvr hus
                all_goals
                 refine G.skip ?_
                 refine G.thenN ?_
                 refine G.seq ?_
                 refine G.region ?_
                 refine G.v (rv_move rfl) rfl ?_
                 refine G.v (rv_move rfl) rfl ?_
                 (refine G.v (rv_decr rfl rfl (by omega) (by omega)) rfl ?_)
                 (refine G.v (rv_indexH (k := q) rfl rfl (by exact Rd.owned 2 rfl) (by omega) (by exact he)) rfl ?_)
                 (refine G.v (rv_loadEW rfl (by exact Rd.owned 2 rfl) (by exact he) rfl) rfl ?_)
                 refine G.op (og_alloc) rfl (fun bk9 _ => ?_)
                 (refine G.op0 (og_st0 rfl rfl rfl rfl rfl (by repeat (first | rfl | refine one_cons (by assumption) ?_)) (.zero (.cons (.cons (.cons .nil))))) (fun _ _ => ?_))
                 refine G.done ?_
                 refine G.thenN ?_
                 refine G.drawL [21, 22] ?_
                 refine GE.q 0 rfl (by kernel_rfl) rfl (qg_runs (rv_move rfl)) rfl ?_
                 refine GE.q 1 rfl (by kernel_rfl) rfl (qg_runs (rv_move rfl)) rfl ?_
                 (refine GE.q 2 rfl (by kernel_rfl) rfl (qg_runs (rv_decr rfl rfl (by omega) (by omega))) rfl ?_)
                 (refine GE.q 4 rfl (by kernel_rfl) rfl (qg_runs (rv_field rfl)) rfl ?_)
                 (refine GE.q 5 rfl (by kernel_rfl) rfl (qg_runs (rv_load1 0 rfl rfl rfl)) rfl ?_)
                 refine GE.q 7 rfl (by kernel_rfl) rfl (qg_runs (rv_move rfl)) rfl ?_
                 (refine GE.q 10 rfl (by kernel_rfl) rfl (qg_runs (rv_field rfl)) rfl ?_)
                 (refine GE.q 11 rfl (by kernel_rfl) rfl (qg_runs (rv_load1 0 rfl rfl rfl)) rfl ?_)
                 (refine GE.q 12 rfl (by kernel_rfl) rfl (qg_runs (rv_field rfl)) rfl ?_)
                 (refine GE.q 13 rfl (by kernel_rfl) rfl (qg_runs (rv_load1 1 rfl rfl rfl)) rfl ?_)
                 (refine GE.q 14 rfl (by kernel_rfl) rfl (qg_runs (rv_addB rfl rfl (by omega) (by omega))) rfl ?_)
                 (refine GE.q 15 rfl (by kernel_rfl) rfl (qg_runs (rv_field rfl)) rfl ?_)
                 (refine GE.q 16 rfl (by kernel_rfl) rfl (qg_runs (rv_load1 0 rfl rfl rfl)) rfl ?_)
                 (refine GE.q 17 rfl (by kernel_rfl) rfl (qg_runs (rv_field rfl)) rfl ?_)
                 (refine GE.q 18 rfl (by kernel_rfl) rfl (qg_runs (rv_load1 1 rfl rfl rfl)) rfl ?_)
                 (refine GE.q 19 rfl (by kernel_rfl) rfl (qg_runs (rv_addB rfl rfl (by omega) (by omega))) rfl ?_)
                 refine GE.any (rs := [3, 8]) (by kernel_rfl) (by simp) ?_
                 refine List.forall_mem_cons.2 ⟨?_, List.forall_mem_cons.2 ⟨?_, fun _ h => absurd h List.not_mem_nil⟩⟩
                 ·
                   refine GE.pickOp rfl rfl rfl (og_lit rfl .nil rfl rfl rfl rfl rfl rfl) rfl (fun _ _ h => by exact h.drop 1) (fun vl _ => ?_)
                   refine GE.any (rs := [6, 8]) (by kernel_rfl) (by simp) ?_
                   refine List.forall_mem_cons.2 ⟨?_, List.forall_mem_cons.2 ⟨?_, fun _ h => absurd h List.not_mem_nil⟩⟩
                   ·
                     ((refine GE.pickOp rfl rfl rfl (og_app0 rfl rfl rfl (by exact Rd.grp 3 rfl (List.mem_of_getElem? hgi)) rfl rfl (by simp; omega) (by simp; omega)) rfl (fun _ _ h => by exact h.drop 1) (fun va _ => ?_)))
                     refine GE.ol 8 (by kernel_rfl) rfl rfl (og_lit rfl (.cons rfl .nil) rfl rfl rfl rfl rfl rfl) rfl (fun _ _ h => by exact h.drop 2) (fun vl _ => ?_)
                     ((refine GE.ol 9 (by kernel_rfl) rfl rfl (og_app1 rfl rfl rfl (by exact Rd.owned 0 rfl) rfl rfl (by simp; omega) (by simp; omega)) rfl (fun _ _ h => by exact h.drop 2) (fun va _ => ?_)))
                     skip; refine G.know (fun w hw => (Rd.owned 1 rfl (v := va) w hw).one_) (fun hova => ?_)
                     refine GE.ol 20 (by kernel_rfl) rfl rfl (og_runs (rv_build2 rfl (.cons (cells_one (by assumption)) (.cons rfl (.cons rfl .nil))) (.cons rfl rfl (.zero (.cons .nil)) (.cons rfl rfl (.succ (.zero (.cons .nil))) (.cons rfl rfl (.succ (.succ (.zero (.cons .nil)))) .nil))))) rfl (fun _ _ h => by exact h.drop 2) (fun _ _ => ?_)
                     (refine GE.t 21 (by kernel_rfl) rfl rfl rfl (og_runs (rv_indexH (k := q) rfl rfl (by exact Rd.owned 5 rfl) (by omega) (by exact he))) rfl (fun _ _ => ?_))
                     (refine GE.t0 22 (by kernel_rfl) rfl rfl rfl (og_stE5 rfl rfl rfl (by exact he) rfl rfl (by repeat (first | rfl | refine one_cons (by assumption) ?_)) rfl (.zero (.cons (.cons (.cons .nil))))) (fun _ _ => ?_))
                     refine GE.done (by kernel_rfl) ?_
                     refine G.inN ?_
                     refine G.thenN ?_
                     refine G.region ?_
                     refine G.v (rv_move rfl) rfl ?_
                     (refine G.v (rv_incr rfl rfl (by omega)) rfl ?_)
                     refine G.v (rv_assign rfl) rfl ?_
                     refine G.done ?_
                     (refine G.frontR5 vr rfl ?_)
                     (refine G.frontG5 _ rfl ?_)
                     (refine G.frontR3 va rfl ?_)
                     refine G.swapRow ((us.set q (loadAdd t.1 k b.1, va)).map (sub LoadM.l)) hgi (sub_set (by simp only [loadAdd, List.map_append, List.map_cons, List.map_nil, icell, List.nil_append])) rfl ?_
                     (refine G.keep2 3 rfl ?_; refine G.backK (k + 1, us.set q (loadAdd t.1 k b.1, va), vr) 0 (two_eq rfl (congrArg (fun z => Ch.row vr 67 3 z) (cells_set rfl))) (.cons rfl (.cons rfl (.nil))) ?_ ?_ ?_)
                     · exact ⟨rfl, rfl, trivial⟩
                     · exact ⟨hlt, by rw [foldl_take_succ hz, ← hM, hst, List.map_set]⟩
                     · omega
                   ·
                     refine GE.pickOp rfl rfl rfl (og_lit rfl (.cons rfl .nil) rfl rfl rfl rfl rfl rfl) rfl (fun _ _ h => by exact h.drop 2) (fun vl _ => ?_)
                     ((refine GE.ol 6 (by kernel_rfl) rfl rfl (og_app1 rfl rfl rfl (by exact Rd.grp 4 rfl (List.mem_of_getElem? hgi)) rfl rfl (by simp; omega) (by simp; omega)) rfl (fun _ _ h => by exact h.drop 2) (fun va _ => ?_)))
                     ((refine GE.ol 9 (by kernel_rfl) rfl rfl (og_app1 rfl rfl rfl (by exact Rd.owned 0 rfl) rfl rfl (by simp; omega) (by simp; omega)) rfl (fun _ _ h => by exact h.drop 2) (fun va _ => ?_)))
                     skip; refine G.know (fun w hw => (Rd.owned 1 rfl (v := va) w hw).one_) (fun hova => ?_)
                     refine GE.ol 20 (by kernel_rfl) rfl rfl (og_runs (rv_build2 rfl (.cons (cells_one (by assumption)) (.cons rfl (.cons rfl .nil))) (.cons rfl rfl (.zero (.cons .nil)) (.cons rfl rfl (.succ (.zero (.cons .nil))) (.cons rfl rfl (.succ (.succ (.zero (.cons .nil)))) .nil))))) rfl (fun _ _ h => by exact h.drop 2) (fun _ _ => ?_)
                     (refine GE.t 21 (by kernel_rfl) rfl rfl rfl (og_runs (rv_indexH (k := q) rfl rfl (by exact Rd.owned 5 rfl) (by omega) (by exact he))) rfl (fun _ _ => ?_))
                     (refine GE.t0 22 (by kernel_rfl) rfl rfl rfl (og_stE5 rfl rfl rfl (by exact he) rfl rfl (by repeat (first | rfl | refine one_cons (by assumption) ?_)) rfl (.zero (.cons (.cons (.cons .nil))))) (fun _ _ => ?_))
                     refine GE.done (by kernel_rfl) ?_
                     refine G.inN ?_
                     refine G.thenN ?_
                     refine G.region ?_
                     refine G.v (rv_move rfl) rfl ?_
                     (refine G.v (rv_incr rfl rfl (by omega)) rfl ?_)
                     refine G.v (rv_assign rfl) rfl ?_
                     refine G.done ?_
                     (refine G.frontR5 vr rfl ?_)
                     (refine G.frontG5 _ rfl ?_)
                     (refine G.frontR3 va rfl ?_)
                     refine G.swapRow ((us.set q (loadAdd t.1 k b.1, va)).map (sub LoadM.l)) hgi (sub_set (by simp only [loadAdd, List.map_append, List.map_cons, List.map_nil, icell, List.nil_append])) rfl ?_
                     (refine G.keep2 3 rfl ?_; refine G.backK (k + 1, us.set q (loadAdd t.1 k b.1, va), vr) 0 (two_eq rfl (congrArg (fun z => Ch.row vr 67 3 z) (cells_set rfl))) (.cons rfl (.cons rfl (.nil))) ?_ ?_ ?_)
                     · exact ⟨rfl, rfl, trivial⟩
                     · exact ⟨hlt, by rw [foldl_take_succ hz, ← hM, hst, List.map_set]⟩
                     · omega
                 ·
                   refine GE.pickOp rfl rfl rfl (og_lit rfl (.cons rfl .nil) rfl rfl rfl rfl rfl rfl) rfl (fun _ _ h => by exact h.drop 1) (fun vl _ => ?_)
                   refine GE.ol 3 (by kernel_rfl) rfl rfl (og_lit rfl .nil rfl rfl rfl rfl rfl rfl) rfl (fun _ _ h => by exact h.drop 2) (fun vl _ => ?_)
                   ((refine GE.ol 6 (by kernel_rfl) rfl rfl (og_app0 rfl rfl rfl (by exact Rd.grp 4 rfl (List.mem_of_getElem? hgi)) rfl rfl (by simp; omega) (by simp; omega)) rfl (fun _ _ h => by exact h.drop 2) (fun va _ => ?_)))
                   ((refine GE.ol 9 (by kernel_rfl) rfl rfl (og_app0 rfl rfl rfl (by exact Rd.owned 1 rfl) rfl rfl (by simp; omega) (by simp; omega)) rfl (fun _ _ h => by exact h.drop 2) (fun va _ => ?_)))
                   skip; refine G.know (fun w hw => (Rd.owned 0 rfl (v := va) w hw).one_) (fun hova => ?_)
                   refine GE.ol 20 (by kernel_rfl) rfl rfl (og_runs (rv_build2 rfl (.cons (cells_one (by assumption)) (.cons rfl (.cons rfl .nil))) (.cons rfl rfl (.zero (.cons .nil)) (.cons rfl rfl (.succ (.zero (.cons .nil))) (.cons rfl rfl (.succ (.succ (.zero (.cons .nil)))) .nil))))) rfl (fun _ _ h => by exact h.drop 2) (fun _ _ => ?_)
                   (refine GE.t 21 (by kernel_rfl) rfl rfl rfl (og_runs (rv_indexH (k := q) rfl rfl (by exact Rd.owned 5 rfl) (by omega) (by exact he))) rfl (fun _ _ => ?_))
                   (refine GE.t0 22 (by kernel_rfl) rfl rfl rfl (og_stE5 rfl rfl rfl (by exact he) rfl rfl (by repeat (first | rfl | refine one_cons (by assumption) ?_)) rfl (.zero (.cons (.cons (.cons .nil))))) (fun _ _ => ?_))
                   refine GE.done (by kernel_rfl) ?_
                   refine G.inN ?_
                   refine G.thenN ?_
                   refine G.region ?_
                   refine G.v (rv_move rfl) rfl ?_
                   (refine G.v (rv_incr rfl rfl (by omega)) rfl ?_)
                   refine G.v (rv_assign rfl) rfl ?_
                   refine G.done ?_
                   (refine G.frontR5 vr rfl ?_)
                   (refine G.frontG5 _ rfl ?_)
                   (refine G.frontR2 va rfl ?_)
                   refine G.swapRow ((us.set q (loadAdd t.1 k b.1, va)).map (sub LoadM.l)) hgi (sub_set (by simp only [loadAdd, List.map_append, List.map_cons, List.map_nil, icell, List.nil_append])) rfl ?_
                   (refine G.keep2 3 rfl ?_; refine G.backK (k + 1, us.set q (loadAdd t.1 k b.1, va), vr) 0 (two_eq rfl (congrArg (fun z => Ch.row vr 67 3 z) (cells_set rfl))) (.cons rfl (.cons rfl (.nil))) ?_ ?_ ?_)
                   · exact ⟨rfl, rfl, trivial⟩
                   · exact ⟨hlt, by rw [foldl_take_succ hz, ← hM, hst, List.map_set]⟩
                   · omega
       · try exact Bool.noConfusion hc
         all_goals
          try replace hc := of_decide_eq_false hc
          try simp only [List.length_map] at hc
          try (exfalso; omega)
          all_goals
           refine G.exit ?_
           refine G.thenX ?_
           refine G.thenX ?_
           refine G.inX ?_
           refine G.thenN ?_
           refine G.seq ?_
           refine G.region ?_
           refine G.v (rv_move rfl) rfl ?_
           refine G.v (rv_assign rfl) rfl ?_
           refine G.done ?_
           refine G.thenN ?_
           refine G.ret ?_
           (refine G.know (fun w hw => (Rd.owned 1 rfl w hw).one_) (fun hone => G.retF (v2, ts) ⟨hone, load_end (bnot_no hok) hM (by rw [List.length_map]; exact hlt)⟩ rfl rfl rfl (fun w hw => hw.sublist (by repeat (first | exact List.Sublist.refl _ | refine List.Sublist.cons_cons _ ?_ | refine List.Sublist.cons _ ?_)))); done)

end Go.Proofs.Yticgeijklhlonaa
