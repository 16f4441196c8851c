/-
  Texts of this proof, one behind the other: Piles, Shelv, Shelv2, ShelfLaw, StackLaw, SpotP, Spots, Spots2, PlanW.
-/
import Derived.Test.YtglpgohilfoecaaGreatPkbB
import Derived.Test.YtglpgohilfoecaaGreatPkbF
import Derived.Test.YtglpgohilfoecaaGreatPkbD
import Derived.Test.YtglpgohilfoecaaGreatPkbE
set_option linter.unusedVariables false
set_option linter.unusedSimpArgs false

/-
  Shelves that are put into layers, and layers into loads.
-/
namespace Go.Proofs.YtglpgohilfoecaaGreat
open Go.RowKit
attribute [local irreducible] Go.wpList Go.Code.wp Go.Exit.then Go.Exit.inBlock Go.bodyPost Go.Calls pE pB G RunsV FnV Fn FnM
set_option maxRecDepth 100000
set_option maxHeartbeats 1000000
theorem sub_set {M : Type} {f : M → List Int} {us : List (M × Value)} {q : Nat} {m : M} {v : Value} {es : List (List Value)} (h : (f m).map icell = es) : (us.map (sub f)).set q (v, es) = (us.set q (m, v)).map (sub f) := by
  subst h; rw [List.map_set]; rfl
theorem cells_set {M : Type} {c : M × Value → List Value} {us : List (M × Value)} {q : Nat} {m : M × Value} {e : List Value} (h : c m = e) : (us.map c).set q e = (us.set q m).map c := by
  subst h; rw [List.map_set]

theorem lay_end {p : PalletM} {ss : List ShelfM} {m : List LayerM} {k : Nat} (hok : shelvesOkM p ss = true) (hM : m = (ss.zipIdx.take k).foldl (pileStep (layRoom p) layAdd layZ) []) (hk : ¬ k < ss.length) : m = layersM p ss := by
  rw [hM, layersM, if_pos hok, List.take_of_length_le zac]; rfl
theorem load_end {p : PalletM} {ss : List LayerM} {m : List LoadM} {k : Nat} (hok : stacksOkM p ss = true) (hM : m = (ss.zipIdx.take k).foldl (pileStep (loadRoom p) loadAdd loadZ) []) (hk : ¬ k < ss.length) : m = loadsM p ss := by
  rw [hM, loadsM, if_pos hok, List.take_of_length_le zac]; rfl

theorem bnot_no {b : Bool} (h : (!b) = false) : b = true := by cases b <;> simp_all
theorem palletOk_of {q r : Bool} (h : (!(q && r)) = false) : q = true := by cases q <;> simp_all
theorem pile_sum {M S : Type} {room : M → S → Bool} {add : M → Nat → S → M} {z : M} (f : M → Nat) (hz : ∀ k s, f (add z k s) ≤ 1) (hs : ∀ t k s, f (add t k s) = f t + 1) : ∀ (xs : List (S × Nat)) (out : List M) (n : Nat), (∀ t ∈ out, f t ≤ n) → ∀ t ∈ xs.foldl (pileStep room add z) out, f t ≤ n + xs.length
  | [], out, n, h => h
  | x :: r, out, n, h => by
    intro t ht
    have h2 : ∀ t ∈ pileStep room add z out x, f t ≤ n + 1 := by
      intro t ht
      unfold pileStep at ht
      split at ht
      · rename_i u hu
        split at ht
        · rcases List.mem_or_eq_of_mem_set ht with h1 | h1
          · have := h t h1; omega
          · rw [h1, hs]; have := h u (List.mem_of_getLast? hu); omega
        · rcases List.mem_append.1 ht with h1 | h1
          · have := h t h1; omega
          · rw [List.mem_singleton.1 h1]; have := hz x.2 x.1; omega
      · rcases List.mem_append.1 ht with h1 | h1
        · have := h t h1; omega
        · rw [List.mem_singleton.1 h1]; have := hz x.2 x.1; omega
    have := pile_sum f hz hs r _ (n + 1) h2 t ht
    simp only [List.length_cons]; omega
theorem lay_lens {p : PalletM} (xs : List (ShelfM × Nat)) (k : Nat) : ∀ t ∈ (xs.take k).foldl (pileStep (layRoom p) layAdd layZ) [], t.l.length ≤ k := by
  intro t ht
  have := pile_sum (room := layRoom p) (add := layAdd) (z := layZ) (fun t => t.l.length) (by simp [layAdd, layZ]) (by simp [layAdd]) (xs.take k) [] 0 zC t ht
  rw [List.length_take] at this; omega
theorem load_lens {p : PalletM} (xs : List (LayerM × Nat)) (k : Nat) : ∀ t ∈ (xs.take k).foldl (pileStep (loadRoom p) loadAdd loadZ) [], t.l.length ≤ k := by
  intro t ht
  have := pile_sum (room := loadRoom p) (add := loadAdd) (z := loadZ) (fun t => t.l.length) (by simp [loadAdd, loadZ]) (by simp [loadAdd]) (xs.take k) [] 0 zC t ht
  rw [List.length_take] at this; omega

theorem implLayersOf_any (p : PalletM) {v : Value} {l : List (ShelfM × Value)} (w : World) (h : Rd w v 5 (l.map ShelfM.cells)) (hb : l.length ≤ 1048576) :
    Fn Tryz.prog 96 [p.val, v] w (fun x : Value × List (LayerM × Value) => x.1.oneCell' = true ∧ x.2.map Prod.fst = layersM p (l.map Prod.fst)) (fun x => x.1) (fun x => [.grp 3 1 (x.2.map (sub LayerM.l)), .row x.1 129 4 (x.2.map LayerM.cells)]) := by
  have pile_lens : ∀ (xs : List (ShelfM × Nat)) (k : Nat), ∀ t ∈ (xs.take k).foldl (pileStep (layRoom p) layAdd layZ) [], t.l.length ≤ k := fun xs k => lay_lens xs k
  refine Fn.of (n := 102) Tryz.func96 rfl rfl ?_; refine zaJ (fun bk2 _ => ?_); refine zba ?_; refine zaU ?_; refine zaC ?_; refine G.op (og_callV rfl rfl (fun w hh => implShelvesOk_any _ w zx)) rfl (fun _ _ => ?_); refine zcl ?_; refine G.cond rfl (fun hc => ?_) (fun hc => ?_); refine zbc ?_
  exact G.retF (.slice none 0 0, []) ⟨rfl, by rw [layersM, if_neg (by intro hq; simp only [shelvesOkM] at hq; rw [hq] at hc; exact Bool.noConfusion hc)]; rfl⟩ rfl rfl rfl (fun w hw => (hw.none.nilRow _ _).nilGrp _ _)
  · refine G.skip ?_
    refine G.thenN ?_; refine zbZ ?_; refine zcL (fun vl _ => ?_); refine zcY ?_; refine zeO ?_
    have hok := hc
    have hpp := pallet_in (palletOk_of hc)
    refine zb5 ?_; refine G.loopK (ι := Nat × List (LayerM × Value) × Value) (ks := [2, 15, 16]) (fun x => [(5, x.2.2), (17, .int .i64 x.1)]) (fun x => [.grp 3 1 (x.2.1.map (sub LayerM.l)), .row x.2.2 129 4 (x.2.1.map LayerM.cells)]) (fun x => x.1 ≤ l.length ∧ x.2.1.map Prod.fst = ((l.map Prod.fst).zipIdx.take x.1).foldl (pileStep (layRoom p) layAdd layZ) []) (fun x => l.length - x.1) (0, [], vl) (.cons rfl (.cons rfl (.cons rfl (.nil)))) rfl ?_ ?_ ?_
    exact ⟨Nat.zero_le _, rfl⟩
    exact ⟨rfl, rfl, trivial⟩
    rintro ⟨k, ts, v2⟩ ⟨hk, hM⟩
    dsimp only at hk hM ⊢
    by_cases hlt : k < l.length
    case' pos => (obtain ⟨b, hb2⟩ := get_of_lt hlt; have heb := get_map hb2 ShelfM.cells; have hobb := heap_in (ok_at hok (fst_at hb2 : (l.map Prod.fst)[k]? = some b.1)).2; have hov : b.2.oneCell' = true := (h.good _ (List.mem_of_getElem? heb)).2 b.2 (by simp [ShelfM.cells]); have hz := zip_get (fst_at hb2 : (l.map Prod.fst)[k]? = some b.1); have hl0 : (ts.map LayerM.cells).length = ts.length := zC; have hlk : ts.length ≤ k := (by (have := pile_len (room := layRoom p) (add := layAdd) (z := layZ) ((l.map Prod.fst).zipIdx.take k) []; rw [← hM] at this; simp only [List.length_map, List.length_nil, List.length_take] at this; omega)); rcases nil_or_snoc ts with hts | ⟨tp, t, hts⟩; have hn0 : ts.length = 0 := (by rw [hts]; rfl); rotate_left; have hn1 : ts.length = tp.length + 1 := zaq; obtain ⟨q, hq⟩ : ∃ y, y = tp.length := ⟨_, rfl⟩; have htq : ts[q]? = some t := z8; have he := get_map htq LayerM.cells; have hgi : (ts.map (sub LayerM.l))[q]? = some (t.2, t.1.l.map icell) := get_mapS htq; have hbt : 0 ≤ t.1.d ∧ t.1.d ≤ p.d ∧ 0 ≤ t.1.h ∧ t.1.h ≤ p.h ∧ 0 ≤ t.1.g ∧ t.1.g ≤ p.g := (by (have := lay_bd (p := p) (ss := (l.map Prod.fst)) (bnot_no hok) k; rw [← hM] at this; exact this t.1 (List.mem_map.2 ⟨t, List.mem_of_getElem? htq, rfl⟩))); refine zcS (fun hov2 => ?_); have hlb : t.1.l.length ≤ 1048576 := (by (have := pile_lens (l.map Prod.fst).zipIdx k; rw [← hM] at this; have := this t.1 (List.mem_map.2 ⟨t, List.mem_of_getElem? htq, rfl⟩); omega)))
    all_goals
     refine zbo ?_; refine G.cond rfl (fun hc => ?_) (fun hc => ?_)
     · all_goals
        replace hc := of_decide_eq_true hc
        simp only [List.length_map] at hc
        try (exfalso; omega)
        all_goals
         refine zea ?_; refine zb1 (fun bk7 _ => ?_); refine zcB ?_; refine G.op0 (og_st0 rfl rfl rfl rfl rfl (by repeat (first | rfl | refine one_cons zf ?_)) (.zero (.cons (.cons (.cons (.cons (.cons .nil))))))) (fun _ _ => ?_); refine za1 ?_; refine zaD ?_; refine zdm ?_
         first | refine zd4 ?_ | refine zcK ?_
         refine zba ?_; refine G.seq ?_; refine zcm (fun _ _ => ?_); refine GE.ol 1 za rfl rfl (og_runs (rv_lss rfl rfl)) rfl zd (fun _ _ => ?_); refine zb9 (fun _ _ => ?_)
         all_goals (((with_reducible refine GE.part (t := 27) rfl (fun hg => ?_) (fun hg => ?_)) <;> (try exact Bool.noConfusion hg) <;> (try (exfalso; (have hq := of_decide_eq_false hg; omega))) <;> (first | refine zbN ?_ | refine zfp ?_)))
         all_goals ((first | refine zbI ?_ | refine zen ?_))
         all_goals ((first | (refine GE.q 5 rfl za rfl (qg_runs (rv_indexH (k := q) rfl rfl zj zc zm)) rfl ?_) | refine zeo ?_))
         all_goals ((first | (refine GE.q 6 rfl za rfl (qg_runs (rv_fieldE rfl)) rfl ?_) | refine zep ?_))
         all_goals ((first | refine GE.q 7 rfl za rfl (qg_runs (rv_loadE rfl zv zQ rfl)) rfl ?_ | refine zeq ?_))
         all_goals ((first | (refine GE.q 8 rfl za rfl (qg_runs (rv_field rfl)) rfl ?_) | refine zdS ?_))
         all_goals ((first | (refine GE.q 9 rfl za rfl (qg_runs (rv_load1 0 rfl rfl rfl)) rfl ?_) | refine zdT ?_))
         all_goals ((first | (refine GE.q 10 rfl za rfl (qg_runs (rv_addB rfl rfl zc zc)) rfl ?_) | refine zdw ?_))
         all_goals ((first | (refine zd7 ?_) | refine zdl ?_))
         all_goals ((first | (refine GE.q 12 rfl za rfl (qg_runs (rv_load1 3 rfl rfl rfl)) rfl ?_) | refine zdc ?_))
         all_goals ((first | refine GE.q 13 rfl za rfl (qg_runs (rv_gtr rfl rfl)) rfl ?_ | refine zdd ?_))
         all_goals ((first | refine zfs (fun _ _ => ?_) | refine zft (fun _ _ => ?_)))
         all_goals (refine zew (fun _ _ => ?_))
         all_goals (((with_reducible refine GE.part (t := 40) rfl (fun hg => ?_) (fun hg => ?_)) <;> (try exact Bool.noConfusion hg) <;> (try (exfalso; (have hq := of_decide_eq_false hg; omega))) <;> (first | refine zeP ?_ | refine GE.qn 16 rfl za rfl rfl ?_)))
         all_goals ((first | refine zc1 ?_ | refine zd5 ?_))
         all_goals ((first | (refine GE.q 18 rfl za rfl (qg_runs (rv_indexH (k := q) rfl rfl zj zc zm)) rfl ?_) | refine ze4 ?_))
         all_goals ((first | (refine GE.q 19 rfl za rfl (qg_runs (rv_fieldE rfl)) rfl ?_) | refine zfB ?_))
         all_goals ((first | refine GE.q 20 rfl za rfl (qg_runs (rv_loadE rfl zv zQ rfl)) rfl ?_ | refine zeZ ?_))
         all_goals ((first | (refine GE.q 21 rfl za rfl (qg_runs (rv_field rfl)) rfl ?_) | refine ze0 ?_))
         all_goals ((first | (refine GE.q 22 rfl za rfl (qg_runs (rv_load1 0 rfl rfl rfl)) rfl ?_) | refine ze1 ?_))
         all_goals ((first | (refine GE.q 23 rfl za rfl (qg_runs (rv_addB rfl rfl zc zc)) rfl ?_) | refine ze2 ?_))
         all_goals ((first | (refine GE.q 24 rfl za rfl (qg_runs (rv_field rfl)) rfl ?_) | refine GE.qn 24 rfl za rfl rfl ?_))
         all_goals ((first | (refine GE.q 25 rfl za rfl (qg_runs (rv_load1 3 rfl rfl rfl)) rfl ?_) | refine GE.qn 25 rfl za rfl rfl ?_))
         all_goals ((first | refine GE.q 26 rfl za rfl (qg_runs (rv_gtr rfl rfl)) rfl ?_ | refine ze3 ?_))
         all_goals ((first | refine GE.ol 27 za rfl rfl (og_runs (rv_pickT rfl rfl)) rfl zd (fun _ _ => ?_) | refine GE.ol 27 za rfl rfl (og_runs (rv_pickF rfl rfl)) rfl zd (fun _ _ => ?_)))
         all_goals
          refine zbj ?_; refine G.cond rfl (fun hc => ?_) (fun hc => ?_)
          · all_goals
             try replace hc := of_decide_eq_true hc
             try simp only [List.length_map] at hc
             all_goals
              refine zcy (fun vl _ => ?_); refine zcF (fun va _ => ?_); refine zaB ?_; refine zbi ?_
              first | refine zeN ?_ | refine zbT ?_
              obtain ⟨q, hq⟩ : ∃ y, y = ts.length := ⟨_, rfl⟩
              obtain ⟨t, htt⟩ : ∃ y, y = ((layZ, .slice none 0 0) : LayerM × Value) := ⟨_, rfl⟩
              obtain ⟨us, hus⟩ : ∃ y, y = ts ++ [t] := ⟨_, rfl⟩
              obtain ⟨vr, hvr⟩ : ∃ y, y = va := ⟨_, rfl⟩
              subst hvr
              have huq : us[q]? = some t := by rw [hus, hq]; simp
              have he : (us.map LayerM.cells)[q]? = some (LayerM.cells t) := get_map huq LayerM.cells
              have hgi : (us.map (sub LayerM.l))[q]? = some (t.2, t.1.l.map icell) := get_mapS huq
              have hl1 : (us.map LayerM.cells).length = q + 1 := by rw [hus, hq]; simp
              have hzd : t.1.d = 0 := zaf; have hzh : t.1.h = 0 := zaf; have hzg : t.1.g = 0 := zaf
              have htl : t.1.l.length = 0 := by rw [htt]; rfl
              have hov2 : t.2.oneCell' = true := by rw [htt]; rfl
              have hst : pileStep (layRoom p) layAdd layZ (ts.map Prod.fst) (b.1, k) = (us.map Prod.fst).set q (layAdd t.1 k b.1) := by
                have e : us.map Prod.fst = ts.map Prod.fst ++ [layZ] := by rw [hus, htt]; simp
                rw [e, htt, hq]
                have := pile_new (room := layRoom p) (add := layAdd) (z := layZ) (out := ts.map Prod.fst) (s := b.1) (k := k) (by intro t2 ht2; first | (rw [hts] at ht2; simp at ht2; done) | (rw [last_of hts] at ht2; obtain rfl := Option.some.inj ht2; simp only [layRoom, Bool.and_eq_false_iff, decide_eq_false_iff_not]; (first | (have hq9 := of_decide_eq_true hg; omega) | omega)))
                rw [this]; simp
              refine zdL ?_; refine zdn ?_; refine zeW ?_; refine zdn ?_; refine zdb ?_; refine G.v (rv_loadE rfl zi zm rfl) rfl ?_; refine zaC ?_; refine zaT (fun vl _ => ?_); refine zdB (fun va _ => ?_)
              skip; refine zcG (fun hova => ?_)
              refine zdb ?_; refine G.op0 (og_stE2 rfl rfl rfl zm (cells_one zf) rfl (by repeat (first | rfl | refine one_cons zf ?_)) rfl (.zero (.cons .nil))) (fun _ _ => ?_); refine za1 ?_; refine G.seq ?_; refine zaV ?_; refine GE.q 3 rfl za rfl (qg_runs (rv_loadE rfl zj zJ rfl)) rfl ?_; refine zb8 (fun _ _ => ?_); refine zdf (fun _ _ => ?_); refine zbC (fun _ _ => ?_); refine zbY (fun _ _ => ?_); refine zb6 (fun _ _ => ?_)
              refine zeL (fun _ _ => ?_); refine zby ?_; refine GE.q 4 rfl za rfl (qg_runs (rv_loadE rfl zj zw rfl)) rfl ?_; refine zdW (fun _ _ => ?_); refine GE.ol 6 za rfl rfl (og_runs (rv_load1 4 rfl rfl rfl)) rfl zd (fun _ _ => ?_); refine zdC (fun _ _ => ?_); refine zdr (fun _ _ => ?_); refine zdM (fun _ _ => ?_)
              refine GE.t0 10 za rfl rfl rfl (og_stE2 rfl rfl rfl zw rfl rfl rfl rfl (.succ (.succ (.zero (.cons .nil))))) (fun _ _ => ?_); refine zbj ?_; refine zaV ?_; refine GE.q 3 rfl za rfl (qg_runs (rv_loadE rfl zj zy rfl)) rfl ?_; refine zb8 (fun _ _ => ?_); refine zdf (fun _ _ => ?_); refine zbC (fun _ _ => ?_); refine zbY (fun _ _ => ?_); refine zb6 (fun _ _ => ?_)
              refine GE.t0 9 za rfl rfl rfl (og_stE2 rfl rfl rfl zy rfl rfl rfl rfl (.succ (.succ (.succ (.zero (.cons .nil)))))) (fun _ _ => ?_); refine zcw ?_; refine zaO ?_; refine zfx ?_; refine G.backK (k + 1, us.set q (layAdd t.1 k b.1, va), vr) 0 (two_eq (congrArg (fun z => Ch.grp 3 1 z) (sub_set (by simp only [layAdd, List.map_append, List.map_cons, List.map_nil, icell]))) (congrArg (fun z => Ch.row vr 129 4 z) (by rw [List.set_set, List.set_set, List.set_set]; exact cells_set rfl))) (.cons rfl (.cons rfl (.cons rfl (.nil)))) ?_ ?_ ?_
              exact ⟨rfl, rfl, trivial⟩
              exact ⟨hlt, by rw [foldl_take_succ hz, ← hM, hst, List.map_set]⟩
              omega
          · try exact Bool.noConfusion hc
            all_goals
             replace hc := of_decide_eq_false hc
             all_goals
              obtain ⟨us, hus⟩ : ∃ y, y = ts := ⟨_, rfl⟩
              obtain ⟨vr, hvr⟩ : ∃ y, y = v2 := ⟨_, rfl⟩
              have hl1 : (us.map LayerM.cells).length = q + 1 := by rw [hus]; omega
              have htl : t.1.l.length ≤ 1048576 := hlb
              have hst : pileStep (layRoom p) layAdd layZ (ts.map Prod.fst) (b.1, k) = (us.map Prod.fst).set q (layAdd t.1 k b.1) := by
                rw [hus]; exact pile_room (fst_at htq) zW (by simp only [layRoom, Bool.and_eq_true, decide_eq_true_eq]; ((have hq9 := of_decide_eq_false hg; omega)))
              subst hvr hus
              all_goals
               refine zbR ?_; refine zaM ?_; refine zeX ?_; refine zdn ?_; refine zdb ?_; refine G.v (rv_loadE rfl zj zm rfl) rfl ?_; refine zaC ?_; refine zaT (fun vl _ => ?_); refine G.op (og_appG2 rfl rfl rfl hgi ze rfl rfl zg zg) rfl (fun va _ => ?_)
               skip; refine zfk (fun hova => ?_)
               refine zdb ?_; refine G.op0 (og_stE3 rfl rfl rfl zm (cells_one zf) rfl (by repeat (first | rfl | refine one_cons zf ?_)) rfl (.zero (.cons .nil))) (fun _ _ => ?_); refine za1 ?_; refine G.seq ?_; refine zaV ?_; refine GE.q 3 rfl za rfl (qg_runs (rv_loadE rfl zG zJ rfl)) rfl ?_; refine zb8 (fun _ _ => ?_); refine zdg (fun _ _ => ?_); refine zbC (fun _ _ => ?_); refine zbY (fun _ _ => ?_); refine zb6 (fun _ _ => ?_)
               refine zeM (fun _ _ => ?_); refine zby ?_; refine GE.q 4 rfl za rfl (qg_runs (rv_loadE rfl zG zw rfl)) rfl ?_; refine zdW (fun _ _ => ?_); refine GE.ol 6 za rfl rfl (og_runs (rv_load1 1 rfl rfl rfl)) rfl zd (fun _ _ => ?_); refine zdC (fun _ _ => ?_); refine zdr (fun _ _ => ?_); refine zdM (fun _ _ => ?_)
               refine GE.t0 10 za rfl rfl rfl (og_stE3 rfl rfl rfl zw rfl rfl rfl rfl (.succ (.succ (.zero (.cons .nil))))) (fun _ _ => ?_); refine zbj ?_; refine zaV ?_; refine GE.q 3 rfl za rfl (qg_runs (rv_loadE rfl zG zy rfl)) rfl ?_; refine zb8 (fun _ _ => ?_); refine zdg (fun _ _ => ?_); refine zbC (fun _ _ => ?_); refine zbY (fun _ _ => ?_); refine zb6 (fun _ _ => ?_)
               refine GE.t0 9 za rfl rfl rfl (og_stE3 rfl rfl rfl zy rfl rfl rfl rfl (.succ (.succ (.succ (.zero (.cons .nil)))))) (fun _ _ => ?_); refine zcw ?_; refine zaO ?_; refine zfy ?_; refine G.backK (k + 1, us.set q (layAdd t.1 k b.1, va), vr) 0 (two_eq (congrArg (fun z => Ch.grp 3 1 z) (sub_set (by simp only [layAdd, List.map_append, List.map_cons, List.map_nil, icell]))) (congrArg (fun z => Ch.row vr 129 4 z) (by rw [List.set_set, List.set_set, List.set_set]; exact cells_set rfl))) (.cons rfl (.cons rfl (.cons rfl (.nil)))) ?_ ?_ ?_
               exact ⟨rfl, rfl, trivial⟩
               exact ⟨hlt, by rw [foldl_take_succ hz, ← hM, hst, List.map_set]⟩
               omega
     · all_goals
        replace hc := of_decide_eq_false hc
        simp only [List.length_map] at hc
        try (exfalso; omega)
        all_goals
         refine zce ?_; refine G.know (fun w hw => (Rd.owned 1 rfl w hw).one_) (fun hone => G.retF (v2, ts) ⟨hone, lay_end (bnot_no hok) hM (by rw [List.length_map]; exact hlt)⟩ rfl rfl rfl (fun w hw => hw.sublist (by repeat (first | exact List.Sublist.refl _ | refine List.Sublist.cons_cons _ ?_ | refine List.Sublist.cons _ ?_)))); done

theorem implLoadsOf_any (p : PalletM) {v : Value} {l : List (LayerM × Value)} (w : World) (h : Rd w v 4 (l.map LayerM.cells)) (hb : l.length ≤ 1048576) :
    Fn Tryz.prog 97 [p.val, v] w (fun x : Value × List (LoadM × Value) => x.1.oneCell' = true ∧ x.2.map Prod.fst = loadsM p (l.map Prod.fst)) (fun x => x.1) (fun x => [.grp 3 1 (x.2.map (sub LoadM.l)), .row x.1 127 3 (x.2.map LoadM.cells)]) := by
  have pile_lens : ∀ (xs : List (LayerM × Nat)) (k : Nat), ∀ t ∈ (xs.take k).foldl (pileStep (loadRoom p) loadAdd loadZ) [], t.l.length ≤ k := fun xs k => load_lens xs k
  refine Fn.of (n := 92) Tryz.func97 rfl rfl ?_; refine zaJ (fun bk2 _ => ?_); refine zba ?_; refine zaU ?_; refine zaC ?_; refine G.op (og_callV rfl rfl (fun w hh => implStacksOk_any _ w zx)) rfl (fun _ _ => ?_); refine zcl ?_; refine G.cond rfl (fun hc => ?_) (fun hc => ?_); refine zbc ?_
  exact G.retF (.slice none 0 0, []) ⟨rfl, by rw [loadsM, if_neg (by intro hq; simp only [stacksOkM] at hq; rw [hq] at hc; exact Bool.noConfusion hc)]; rfl⟩ rfl rfl rfl (fun w hw => (hw.none.nilRow _ _).nilGrp _ _)
  · refine G.skip ?_
    refine G.thenN ?_; refine zbZ ?_; refine zcL (fun vl _ => ?_); refine zcY ?_; refine zeO ?_
    have hok := hc
    have hpp := pallet_in (palletOk_of hc)
    refine zb5 ?_; refine G.loopK (ι := Nat × List (LoadM × Value) × Value) (ks := [2, 15, 16]) (fun x => [(5, x.2.2), (17, .int .i64 x.1)]) (fun x => [.grp 3 1 (x.2.1.map (sub LoadM.l)), .row x.2.2 127 3 (x.2.1.map LoadM.cells)]) (fun x => x.1 ≤ l.length ∧ x.2.1.map Prod.fst = ((l.map Prod.fst).zipIdx.take x.1).foldl (pileStep (loadRoom p) loadAdd loadZ) []) (fun x => l.length - x.1) (0, [], vl) (.cons rfl (.cons rfl (.cons rfl (.nil)))) rfl ?_ ?_ ?_
    exact ⟨Nat.zero_le _, rfl⟩
    exact ⟨rfl, rfl, trivial⟩
    rintro ⟨k, ts, v2⟩ ⟨hk, hM⟩
    dsimp only at hk hM ⊢
    by_cases hlt : k < l.length
    case' pos => (obtain ⟨b, hb2⟩ := get_of_lt hlt; have heb := get_map hb2 LayerM.cells; have hobb := heap_in (ok_at hok (fst_at hb2 : (l.map Prod.fst)[k]? = some b.1)).2; have hov : b.2.oneCell' = true := (h.good _ (List.mem_of_getElem? heb)).2 b.2 (by simp [LayerM.cells]); have hz := zip_get (fst_at hb2 : (l.map Prod.fst)[k]? = some b.1); have hl0 : (ts.map LoadM.cells).length = ts.length := zC; have hlk : ts.length ≤ k := (by (have := pile_len (room := loadRoom p) (add := loadAdd) (z := loadZ) ((l.map Prod.fst).zipIdx.take k) []; rw [← hM] at this; simp only [List.length_map, List.length_nil, List.length_take] at this; omega)); rcases nil_or_snoc ts with hts | ⟨tp, t, hts⟩; have hn0 : ts.length = 0 := (by rw [hts]; rfl); rotate_left; have hn1 : ts.length = tp.length + 1 := zaq; obtain ⟨q, hq⟩ : ∃ y, y = tp.length := ⟨_, rfl⟩; have htq : ts[q]? = some t := z8; have he := get_map htq LoadM.cells; have hgi : (ts.map (sub LoadM.l))[q]? = some (t.2, t.1.l.map icell) := get_mapS htq; have hbt : 0 ≤ t.1.h ∧ t.1.h ≤ p.h ∧ 0 ≤ t.1.g ∧ t.1.g ≤ p.g := (by (have := load_bd (p := p) (ss := (l.map Prod.fst)) (bnot_no hok) k; rw [← hM] at this; exact this t.1 (List.mem_map.2 ⟨t, List.mem_of_getElem? htq, rfl⟩))); refine zcS (fun hov2 => ?_); have hlb : t.1.l.length ≤ 1048576 := (by (have := pile_lens (l.map Prod.fst).zipIdx k; rw [← hM] at this; have := this t.1 (List.mem_map.2 ⟨t, List.mem_of_getElem? htq, rfl⟩); omega)))
    all_goals
     refine zbo ?_; refine G.cond rfl (fun hc => ?_) (fun hc => ?_)
     · all_goals
        replace hc := of_decide_eq_true hc
        simp only [List.length_map] at hc
        try (exfalso; omega)
        all_goals
         refine zea ?_; refine zb1 (fun bk7 _ => ?_); refine zcB ?_; refine G.op0 (og_st0 rfl rfl rfl rfl rfl (by repeat (first | rfl | refine one_cons zf ?_)) (.zero (.cons (.cons (.cons (.cons .nil)))))) (fun _ _ => ?_); refine za1 ?_; refine zaD ?_; refine zdm ?_
         first | refine zd4 ?_ | refine zcK ?_
         refine zba ?_; refine G.seq ?_; refine zcm (fun _ _ => ?_); refine GE.ol 1 za rfl rfl (og_runs (rv_lss rfl rfl)) rfl zd (fun _ _ => ?_); refine zb9 (fun _ _ => ?_)
         all_goals (((with_reducible refine GE.part (t := 27) rfl (fun hg => ?_) (fun hg => ?_)) <;> (try exact Bool.noConfusion hg) <;> (try (exfalso; (have hq := of_decide_eq_false hg; omega))) <;> (first | refine zbN ?_ | refine zfp ?_)))
         all_goals ((first | refine zbI ?_ | refine zen ?_))
         all_goals ((first | (refine GE.q 5 rfl za rfl (qg_runs (rv_indexH (k := q) rfl rfl zj zc zm)) rfl ?_) | refine zeo ?_))
         all_goals ((first | (refine GE.q 6 rfl za rfl (qg_runs (rv_fieldE rfl)) rfl ?_) | refine zep ?_))
         all_goals ((first | refine GE.q 7 rfl za rfl (qg_runs (rv_loadE rfl zv zQ rfl)) rfl ?_ | refine zeq ?_))
         all_goals ((first | (refine GE.q 8 rfl za rfl (qg_runs (rv_field rfl)) rfl ?_) | refine zdS ?_))
         all_goals ((first | (refine GE.q 9 rfl za rfl (qg_runs (rv_load1 0 rfl rfl rfl)) rfl ?_) | refine zdT ?_))
         all_goals ((first | (refine GE.q 10 rfl za rfl (qg_runs (rv_addB rfl rfl zc zc)) rfl ?_) | refine zdw ?_))
         all_goals ((first | (refine zd7 ?_) | refine zdl ?_))
         all_goals ((first | (refine GE.q 12 rfl za rfl (qg_runs (rv_load1 3 rfl rfl rfl)) rfl ?_) | refine zdc ?_))
         all_goals ((first | refine GE.q 13 rfl za rfl (qg_runs (rv_gtr rfl rfl)) rfl ?_ | refine zdd ?_))
         all_goals ((first | refine zfs (fun _ _ => ?_) | refine zft (fun _ _ => ?_)))
         all_goals (refine zew (fun _ _ => ?_))
         all_goals (((with_reducible refine GE.part (t := 40) rfl (fun hg => ?_) (fun hg => ?_)) <;> (try exact Bool.noConfusion hg) <;> (try (exfalso; (have hq := of_decide_eq_false hg; omega))) <;> (first | refine zeP ?_ | refine GE.qn 16 rfl za rfl rfl ?_)))
         all_goals ((first | refine zc1 ?_ | refine zd5 ?_))
         all_goals ((first | (refine GE.q 18 rfl za rfl (qg_runs (rv_indexH (k := q) rfl rfl zj zc zm)) rfl ?_) | refine ze4 ?_))
         all_goals ((first | (refine GE.q 19 rfl za rfl (qg_runs (rv_fieldE rfl)) rfl ?_) | refine zfB ?_))
         all_goals ((first | refine GE.q 20 rfl za rfl (qg_runs (rv_loadE rfl zv zQ rfl)) rfl ?_ | refine zeZ ?_))
         all_goals ((first | (refine GE.q 21 rfl za rfl (qg_runs (rv_field rfl)) rfl ?_) | refine ze0 ?_))
         all_goals ((first | (refine GE.q 22 rfl za rfl (qg_runs (rv_load1 0 rfl rfl rfl)) rfl ?_) | refine ze1 ?_))
         all_goals ((first | (refine GE.q 23 rfl za rfl (qg_runs (rv_addB rfl rfl zc zc)) rfl ?_) | refine ze2 ?_))
         all_goals ((first | (refine GE.q 24 rfl za rfl (qg_runs (rv_field rfl)) rfl ?_) | refine GE.qn 24 rfl za rfl rfl ?_))
         all_goals ((first | (refine GE.q 25 rfl za rfl (qg_runs (rv_load1 3 rfl rfl rfl)) rfl ?_) | refine GE.qn 25 rfl za rfl rfl ?_))
         all_goals ((first | refine GE.q 26 rfl za rfl (qg_runs (rv_gtr rfl rfl)) rfl ?_ | refine ze3 ?_))
         all_goals ((first | refine GE.ol 27 za rfl rfl (og_runs (rv_pickT rfl rfl)) rfl zd (fun _ _ => ?_) | refine GE.ol 27 za rfl rfl (og_runs (rv_pickF rfl rfl)) rfl zd (fun _ _ => ?_)))
         all_goals
          refine zbj ?_; refine G.cond rfl (fun hc => ?_) (fun hc => ?_)
          · all_goals
             try replace hc := of_decide_eq_true hc
             try simp only [List.length_map] at hc
             all_goals
              refine zcy (fun vl _ => ?_); refine zcF (fun va _ => ?_); refine zaB ?_; refine zbi ?_
              first | refine zeN ?_ | refine zbT ?_
              obtain ⟨q, hq⟩ : ∃ y, y = ts.length := ⟨_, rfl⟩
              obtain ⟨t, htt⟩ : ∃ y, y = ((loadZ, .slice none 0 0) : LoadM × Value) := ⟨_, rfl⟩
              obtain ⟨us, hus⟩ : ∃ y, y = ts ++ [t] := ⟨_, rfl⟩
              obtain ⟨vr, hvr⟩ : ∃ y, y = va := ⟨_, rfl⟩
              subst hvr
              have huq : us[q]? = some t := by rw [hus, hq]; simp
              have he : (us.map LoadM.cells)[q]? = some (LoadM.cells t) := get_map huq LoadM.cells
              have hgi : (us.map (sub LoadM.l))[q]? = some (t.2, t.1.l.map icell) := get_mapS huq
              have hl1 : (us.map LoadM.cells).length = q + 1 := by rw [hus, hq]; simp
              have hzh : t.1.h = 0 := zaf; have hzg : t.1.g = 0 := zaf
              have htl : t.1.l.length = 0 := by rw [htt]; rfl
              have hov2 : t.2.oneCell' = true := by rw [htt]; rfl
              have hst : pileStep (loadRoom p) loadAdd loadZ (ts.map Prod.fst) (b.1, k) = (us.map Prod.fst).set q (loadAdd t.1 k b.1) := by
                have e : us.map Prod.fst = ts.map Prod.fst ++ [loadZ] := by rw [hus, htt]; simp
                rw [e, htt, hq]
                have := pile_new (room := loadRoom p) (add := loadAdd) (z := loadZ) (out := ts.map Prod.fst) (s := b.1) (k := k) (by intro t2 ht2; first | (rw [hts] at ht2; simp at ht2; done) | (rw [last_of hts] at ht2; obtain rfl := Option.some.inj ht2; simp only [loadRoom, Bool.and_eq_false_iff, decide_eq_false_iff_not]; (first | (have hq9 := of_decide_eq_true hg; omega) | omega)))
                rw [this]; simp
              refine zdO ?_; refine zdn ?_; refine zeW ?_; refine zdn ?_; refine zdb ?_; refine G.v (rv_loadE rfl zi zm rfl) rfl ?_; refine zaC ?_; refine zaT (fun vl _ => ?_); refine zdB (fun va _ => ?_)
              skip; refine zcG (fun hova => ?_)
              refine zdb ?_; refine G.op0 (og_stE2 rfl rfl rfl zm (cells_one zf) rfl (by repeat (first | rfl | refine one_cons zf ?_)) rfl (.zero (.cons .nil))) (fun _ _ => ?_); refine za1 ?_; refine G.seq ?_; refine zaV ?_; refine GE.q 3 rfl za rfl (qg_runs (rv_loadE rfl zj zJ rfl)) rfl ?_; refine zb8 (fun _ _ => ?_); refine zdf (fun _ _ => ?_); refine zbC (fun _ _ => ?_); refine zbY (fun _ _ => ?_); refine zb6 (fun _ _ => ?_)
              refine zeL (fun _ _ => ?_); refine zbj ?_; refine zaV ?_; refine GE.q 3 rfl za rfl (qg_runs (rv_loadE rfl zj zw rfl)) rfl ?_; refine zb8 (fun _ _ => ?_); refine zdf (fun _ _ => ?_); refine zbC (fun _ _ => ?_); refine zbY (fun _ _ => ?_); refine zb6 (fun _ _ => ?_)
              refine GE.t0 9 za rfl rfl rfl (og_stE2 rfl rfl rfl zw rfl rfl rfl rfl (.succ (.succ (.zero (.cons .nil))))) (fun _ _ => ?_); refine zcw ?_; refine zaO ?_; refine zfx ?_; refine G.backK (k + 1, us.set q (loadAdd t.1 k b.1, va), vr) 0 (two_eq (congrArg (fun z => Ch.grp 3 1 z) (sub_set (by simp only [loadAdd, List.map_append, List.map_cons, List.map_nil, icell]))) (congrArg (fun z => Ch.row vr 127 3 z) (by rw [List.set_set, List.set_set]; exact cells_set rfl))) (.cons rfl (.cons rfl (.cons rfl (.nil)))) ?_ ?_ ?_
              exact ⟨rfl, rfl, trivial⟩
              exact ⟨hlt, by rw [foldl_take_succ hz, ← hM, hst, List.map_set]⟩
              omega
          · try exact Bool.noConfusion hc
            all_goals
             replace hc := of_decide_eq_false hc
             all_goals
              obtain ⟨us, hus⟩ : ∃ y, y = ts := ⟨_, rfl⟩
              obtain ⟨vr, hvr⟩ : ∃ y, y = v2 := ⟨_, rfl⟩
              have hl1 : (us.map LoadM.cells).length = q + 1 := by rw [hus]; omega
              have htl : t.1.l.length ≤ 1048576 := hlb
              have hst : pileStep (loadRoom p) loadAdd loadZ (ts.map Prod.fst) (b.1, k) = (us.map Prod.fst).set q (loadAdd t.1 k b.1) := by
                rw [hus]; exact pile_room (fst_at htq) zW (by simp only [loadRoom, Bool.and_eq_true, decide_eq_true_eq]; ((have hq9 := of_decide_eq_false hg; omega)))
              subst hvr hus
              all_goals
               refine zbR ?_; refine zaM ?_; refine zeX ?_; refine zdn ?_; refine zdb ?_; refine G.v (rv_loadE rfl zj zm rfl) rfl ?_; refine zaC ?_; refine zaT (fun vl _ => ?_); refine G.op (og_appG2 rfl rfl rfl hgi ze rfl rfl zg zg) rfl (fun va _ => ?_)
               skip; refine zfk (fun hova => ?_)
               refine zdb ?_; refine G.op0 (og_stE3 rfl rfl rfl zm (cells_one zf) rfl (by repeat (first | rfl | refine one_cons zf ?_)) rfl (.zero (.cons .nil))) (fun _ _ => ?_); refine za1 ?_; refine G.seq ?_; refine zaV ?_; refine GE.q 3 rfl za rfl (qg_runs (rv_loadE rfl zG zJ rfl)) rfl ?_; refine zb8 (fun _ _ => ?_); refine zdg (fun _ _ => ?_); refine zbC (fun _ _ => ?_); refine zbY (fun _ _ => ?_); refine zb6 (fun _ _ => ?_)
               refine zeM (fun _ _ => ?_); refine zbj ?_; refine zaV ?_; refine GE.q 3 rfl za rfl (qg_runs (rv_loadE rfl zG zw rfl)) rfl ?_; refine zb8 (fun _ _ => ?_); refine zdg (fun _ _ => ?_); refine zbC (fun _ _ => ?_); refine zbY (fun _ _ => ?_); refine zb6 (fun _ _ => ?_)
               refine GE.t0 9 za rfl rfl rfl (og_stE3 rfl rfl rfl zw rfl rfl rfl rfl (.succ (.succ (.zero (.cons .nil))))) (fun _ _ => ?_); refine zcw ?_; refine zaO ?_; refine zfy ?_; refine G.backK (k + 1, us.set q (loadAdd t.1 k b.1, va), vr) 0 (two_eq (congrArg (fun z => Ch.grp 3 1 z) (sub_set (by simp only [loadAdd, List.map_append, List.map_cons, List.map_nil, icell]))) (congrArg (fun z => Ch.row vr 127 3 z) (by rw [List.set_set, List.set_set]; exact cells_set rfl))) (.cons rfl (.cons rfl (.cons rfl (.nil)))) ?_ ?_ ?_
               exact ⟨rfl, rfl, trivial⟩
               exact ⟨hlt, by rw [foldl_take_succ hz, ← hM, hst, List.map_set]⟩
               omega
     · all_goals
        replace hc := of_decide_eq_false hc
        simp only [List.length_map] at hc
        try (exfalso; omega)
        all_goals
         refine zce ?_; refine G.know (fun w hw => (Rd.owned 1 rfl w hw).one_) (fun hone => G.retF (v2, ts) ⟨hone, load_end (bnot_no hok) hM (by rw [List.length_map]; exact hlt)⟩ rfl rfl rfl (fun w hw => hw.sublist (by repeat (first | exact List.Sublist.refl _ | refine List.Sublist.cons_cons _ ?_ | refine List.Sublist.cons _ ?_)))); done

theorem specLayersOf_any (p : PalletM) {v : Value} {l : List (ShelfM × Value)} (w : World) (h : Rd w v 5 (l.map ShelfM.cells)) (hb : l.length ≤ 1048576) :
    Fn Tryz.prog 108 [p.val, v] w (fun x : Value × List (LayerM × Value) => x.1.oneCell' = true ∧ x.2.map Prod.fst = layersM p (l.map Prod.fst)) (fun x => x.1) (fun x => [.grp 3 1 (x.2.map (sub LayerM.l)), .row x.1 129 4 (x.2.map LayerM.cells)]) := by
  have pile_lens : ∀ (xs : List (ShelfM × Nat)) (k : Nat), ∀ t ∈ (xs.take k).foldl (pileStep (layRoom p) layAdd layZ) [], t.l.length ≤ k := fun xs k => lay_lens xs k
  refine Fn.of (n := 97) Tryz.func108 rfl rfl ?_; refine zaJ (fun bk2 _ => ?_); refine zba ?_; refine G.region ?_; refine zcL (fun vl _ => ?_); refine zba ?_; refine G.seq ?_; refine zbF ?_; refine zaC ?_; refine G.op (og_callV rfl rfl (fun w hh => specShelvesOk_any _ w zx)) rfl (fun _ _ => ?_); refine zcl ?_; refine G.cond rfl (fun hc => ?_) (fun hc => ?_); refine za9 ?_; refine G.thenR ?_; refine zbP (fun hovl => ?_); exact G.retF (vl, []) ⟨hovl, by rw [layersM, if_neg (by intro hq; simp only [shelvesOkM] at hq; rw [hq] at hc; exact Bool.noConfusion hc)]; rfl⟩ rfl rfl rfl (fun w hw => (hw.sublist (by repeat (first | exact List.Sublist.refl _ | refine List.Sublist.cons_cons _ ?_ | refine List.Sublist.cons _ ?_)) : HeapOk _ w [.row vl 129 4 []]).nilGrp _ _)
  · refine G.skip ?_
    refine G.thenN (G.seq ?_); refine zbL ?_
    have hok := hc
    have hpp := pallet_in (palletOk_of hc)
    refine zb5 ?_; refine G.loopK (ι := Nat × List (LayerM × Value) × Value) (ks := [1, 2]) (fun x => [(5, x.2.2), (6, .int .i64 x.1)]) (fun x => [.grp 3 1 (x.2.1.map (sub LayerM.l)), .row x.2.2 129 4 (x.2.1.map LayerM.cells)]) (fun x => x.1 ≤ l.length ∧ x.2.1.map Prod.fst = ((l.map Prod.fst).zipIdx.take x.1).foldl (pileStep (layRoom p) layAdd layZ) []) (fun x => l.length - x.1) (0, [], vl) (.cons rfl (.cons rfl (.nil))) rfl ?_ ?_ ?_
    exact ⟨Nat.zero_le _, rfl⟩
    exact ⟨rfl, rfl, trivial⟩
    rintro ⟨k, ts, v2⟩ ⟨hk, hM⟩
    dsimp only at hk hM ⊢
    by_cases hlt : k < l.length
    case' pos => (obtain ⟨b, hb2⟩ := get_of_lt hlt; have heb := get_map hb2 ShelfM.cells; have hobb := heap_in (ok_at hok (fst_at hb2 : (l.map Prod.fst)[k]? = some b.1)).2; have hov : b.2.oneCell' = true := (h.good _ (List.mem_of_getElem? heb)).2 b.2 (by simp [ShelfM.cells]); have hz := zip_get (fst_at hb2 : (l.map Prod.fst)[k]? = some b.1); have hl0 : (ts.map LayerM.cells).length = ts.length := zC; have hlk : ts.length ≤ k := (by (have := pile_len (room := layRoom p) (add := layAdd) (z := layZ) ((l.map Prod.fst).zipIdx.take k) []; rw [← hM] at this; simp only [List.length_map, List.length_nil, List.length_take] at this; omega)); rcases nil_or_snoc ts with hts | ⟨tp, t, hts⟩; have hn0 : ts.length = 0 := (by rw [hts]; rfl); rotate_left; have hn1 : ts.length = tp.length + 1 := zaq; obtain ⟨q, hq⟩ : ∃ y, y = tp.length := ⟨_, rfl⟩; have htq : ts[q]? = some t := z8; have he := get_map htq LayerM.cells; have hgi : (ts.map (sub LayerM.l))[q]? = some (t.2, t.1.l.map icell) := get_mapS htq; have hbt : 0 ≤ t.1.d ∧ t.1.d ≤ p.d ∧ 0 ≤ t.1.h ∧ t.1.h ≤ p.h ∧ 0 ≤ t.1.g ∧ t.1.g ≤ p.g := (by (have := lay_bd (p := p) (ss := (l.map Prod.fst)) (bnot_no hok) k; rw [← hM] at this; exact this t.1 (List.mem_map.2 ⟨t, List.mem_of_getElem? htq, rfl⟩))); refine zcS (fun hov2 => ?_); have hlb : t.1.l.length ≤ 1048576 := (by (have := pile_lens (l.map Prod.fst).zipIdx k; rw [← hM] at this; have := this t.1 (List.mem_map.2 ⟨t, List.mem_of_getElem? htq, rfl⟩); omega)))
    all_goals
     refine zbv ?_; refine G.cond rfl (fun hc => ?_) (fun hc => ?_)
     · all_goals
        replace hc := of_decide_eq_true hc
        simp only [List.length_map] at hc
        try (exfalso; omega)
        all_goals
         refine zaQ ?_; refine zaM ?_; refine zb1 (fun bk7 _ => ?_); refine G.op0 (og_st0 rfl rfl rfl rfl rfl (by repeat (first | rfl | refine one_cons zf ?_)) (.zero (.cons (.cons (.cons (.cons (.cons .nil))))))) (fun _ _ => ?_); refine za1 ?_; refine zaD ?_; refine zdm ?_; refine zba ?_; refine G.seq ?_; refine zcm (fun _ _ => ?_); refine GE.ol 1 za rfl rfl (og_runs (rv_eql rfl rfl)) rfl zd (fun _ _ => ?_); refine zb9 (fun _ _ => ?_)
         all_goals (((with_reducible refine GE.part (t := 30) rfl (fun hg => ?_) (fun hg => ?_)) <;> (try exact Bool.noConfusion hg) <;> (try (exfalso; first | (have hq := of_decide_eq_false hg; omega) | (have hq := of_decide_eq_true hg; omega); done)) <;> (first | refine zbN ?_ | refine zfp ?_)))
         all_goals ((first | refine zbI ?_ | refine zen ?_))
         all_goals ((first | (refine zfu ?_) | refine zeo ?_))
         all_goals ((first | (refine zem ?_) | refine zep ?_))
         all_goals ((first | (refine GE.q 7 rfl za rfl (qg_runs (rv_fieldE rfl)) rfl ?_) | refine zeq ?_))
         all_goals ((first | refine GE.q 8 rfl za rfl (qg_runs (rv_loadE rfl zv zQ rfl)) rfl ?_ | refine zdS ?_))
         all_goals ((first | (refine zeQ ?_) | refine zdT ?_))
         all_goals ((first | (refine zfe ?_) | refine zdw ?_))
         all_goals ((first | (refine zfl ?_) | refine zdl ?_))
         all_goals ((first | (refine GE.q 12 rfl za rfl (qg_runs (rv_field rfl)) rfl ?_) | refine zdc ?_))
         all_goals ((first | (refine GE.q 13 rfl za rfl (qg_runs (rv_load1 3 rfl rfl rfl)) rfl ?_) | refine zdd ?_))
         all_goals ((first | refine GE.q 14 rfl za rfl (qg_runs (rv_gtr rfl rfl)) rfl ?_ | refine zei ?_))
         all_goals ((first | refine zef (fun _ _ => ?_) | refine zeg (fun _ _ => ?_)))
         all_goals (refine zex (fun _ _ => ?_))
         all_goals (((with_reducible refine GE.part (t := 44) rfl (fun hg => ?_) (fun hg => ?_)) <;> (try exact Bool.noConfusion hg) <;> (try (exfalso; (have hq := of_decide_eq_false hg; omega))) <;> (first | refine zc1 ?_ | refine zd5 ?_)))
         all_goals ((first | refine GE.q 18 rfl za rfl (qg_runs (rv_move rfl)) rfl ?_ | refine ze4 ?_))
         all_goals ((first | (refine GE.q 19 rfl za rfl (qg_runs (rv_decr rfl rfl zc zc)) rfl ?_) | refine zfB ?_))
         all_goals ((first | (refine GE.q 20 rfl za rfl (qg_runs (rv_indexH (k := q) rfl rfl zj zc zm)) rfl ?_) | refine zeZ ?_))
         all_goals ((first | (refine GE.q 21 rfl za rfl (qg_runs (rv_fieldE rfl)) rfl ?_) | refine ze0 ?_))
         all_goals ((first | refine GE.q 22 rfl za rfl (qg_runs (rv_loadE rfl zv zQ rfl)) rfl ?_ | refine ze1 ?_))
         all_goals ((first | (refine GE.q 23 rfl za rfl (qg_runs (rv_field rfl)) rfl ?_) | refine ze2 ?_))
         all_goals ((first | (refine GE.q 24 rfl za rfl (qg_runs (rv_load1 0 rfl rfl rfl)) rfl ?_) | refine GE.qn 24 rfl za rfl rfl ?_))
         all_goals ((first | (refine GE.q 25 rfl za rfl (qg_runs (rv_addB rfl rfl zc zc)) rfl ?_) | refine GE.qn 25 rfl za rfl rfl ?_))
         all_goals ((first | (refine zeI ?_) | refine ze3 ?_))
         all_goals ((first | (refine zfd ?_) | refine GE.qn 27 rfl za rfl rfl ?_))
         all_goals ((first | refine GE.q 28 rfl za rfl (qg_runs (rv_gtr rfl rfl)) rfl ?_ | refine GE.qn 28 rfl za rfl rfl ?_))
         all_goals ((first | refine GE.ol 29 za rfl rfl (og_runs (rv_pickT rfl rfl)) rfl zd (fun _ _ => ?_) | refine GE.ol 29 za rfl rfl (og_runs (rv_pickF rfl rfl)) rfl zd (fun _ _ => ?_)))
         all_goals
          refine zbj ?_; refine G.cond rfl (fun hc => ?_) (fun hc => ?_)
          · all_goals
             try replace hc := of_decide_eq_true hc
             try simp only [List.length_map] at hc
             all_goals
              refine zcy (fun vl _ => ?_); refine zcF (fun va _ => ?_); refine zaB ?_; refine zbi ?_; refine zeN ?_
              obtain ⟨q, hq⟩ : ∃ y, y = ts.length := ⟨_, rfl⟩
              obtain ⟨t, htt⟩ : ∃ y, y = ((layZ, .slice none 0 0) : LayerM × Value) := ⟨_, rfl⟩
              obtain ⟨us, hus⟩ : ∃ y, y = ts ++ [t] := ⟨_, rfl⟩
              obtain ⟨vr, hvr⟩ : ∃ y, y = va := ⟨_, rfl⟩
              subst hvr
              have huq : us[q]? = some t := by rw [hus, hq]; simp
              have he : (us.map LayerM.cells)[q]? = some (LayerM.cells t) := get_map huq LayerM.cells
              have hgi : (us.map (sub LayerM.l))[q]? = some (t.2, t.1.l.map icell) := get_mapS huq
              have hl1 : (us.map LayerM.cells).length = q + 1 := by rw [hus, hq]; simp
              have hzd : t.1.d = 0 := zaf; have hzh : t.1.h = 0 := zaf; have hzg : t.1.g = 0 := zaf
              have htl : t.1.l.length = 0 := by rw [htt]; rfl
              have hov2 : t.2.oneCell' = true := by rw [htt]; rfl
              have hst : pileStep (layRoom p) layAdd layZ (ts.map Prod.fst) (b.1, k) = (us.map Prod.fst).set q (layAdd t.1 k b.1) := by
                have e : us.map Prod.fst = ts.map Prod.fst ++ [layZ] := by rw [hus, htt]; simp
                rw [e, htt, hq]
                have := pile_new (room := layRoom p) (add := layAdd) (z := layZ) (out := ts.map Prod.fst) (s := b.1) (k := k) (by intro t2 ht2; first | (rw [hts] at ht2; simp at ht2; done) | (rw [last_of hts] at ht2; obtain rfl := Option.some.inj ht2; simp only [layRoom, Bool.and_eq_false_iff, decide_eq_false_iff_not]; (first | (have hq9 := of_decide_eq_true hg; omega) | omega)))
                rw [this]; simp
              refine zdL ?_; refine zdn ?_; refine zd4 ?_; refine zeW ?_; refine G.v (rv_loadEW rfl zi zm rfl) rfl ?_; refine zbn (fun bk9 _ => ?_); refine G.op0 (og_st0 rfl rfl rfl rfl rfl (by repeat (first | rfl | refine one_cons zf ?_)) (.zero (.cons (.cons (.cons (.cons .nil)))))) (fun _ _ => ?_); refine za1 ?_; refine G.drawL [26, 27] ?_; refine zaR ?_; refine zbE ?_
              refine zb7 ?_; refine GE.q 13 rfl za rfl (qg_runs (rv_load1 4 rfl rfl rfl)) rfl ?_; refine zbB ?_; refine GE.q 18 rfl za rfl (qg_runs (rv_load1 4 rfl rfl rfl)) rfl ?_; refine zeA ?_; refine GE.q 23 rfl za rfl (qg_runs (rv_load1 4 rfl rfl rfl)) rfl ?_; refine GE.q 24 rfl za rfl (qg_runs (rv_addB rfl rfl zc zc)) rfl ?_; refine GE.any (rs := [3, 8]) za zC ?_
              refine List.forall_mem_cons.2 ⟨?_, List.forall_mem_cons.2 ⟨?_, fun _ h => absurd h List.not_mem_nil⟩⟩
              focus
               refine zcV (fun vl _ => ?_); refine GE.any (rs := [6, 8]) za zC ?_; refine List.forall_mem_cons.2 ⟨?_, List.forall_mem_cons.2 ⟨?_, fun _ h => absurd h List.not_mem_nil⟩⟩
               focus
                refine GE.pickOp rfl rfl rfl (og_app0 rfl rfl rfl (by exact Rd.grp 2 rfl (List.mem_of_getElem? hgi)) rfl rfl zg zg) rfl zk (fun va _ => ?_); refine zc2 (fun vl _ => ?_); refine zcj (fun va _ => ?_)
                skip; refine zck (fun hova => ?_)
                refine zcO (fun _ _ => ?_); refine za7 (fun _ _ => ?_); refine zfH (fun _ _ => ?_); refine GE.t0 27 za rfl rfl rfl (og_stE4 rfl rfl rfl zm rfl rfl (by repeat (first | rfl | refine one_cons zf ?_)) rfl (.zero (.cons (.cons (.cons (.cons .nil)))))) (fun _ _ => ?_); refine zcw ?_
               rotate_left
               focus
                refine zb2 (fun vl _ => ?_); refine GE.ol 6 za rfl rfl (og_app1 rfl rfl rfl (by exact Rd.grp 3 rfl (List.mem_of_getElem? hgi)) rfl rfl zg zg) rfl zh (fun va _ => ?_); refine zcj (fun va _ => ?_)
                skip; refine zck (fun hova => ?_)
                refine zcO (fun _ _ => ?_); refine za7 (fun _ _ => ?_); refine zfH (fun _ _ => ?_); refine GE.t0 27 za rfl rfl rfl (og_stE4 rfl rfl rfl zm rfl rfl (by repeat (first | rfl | refine one_cons zf ?_)) rfl (.zero (.cons (.cons (.cons (.cons .nil)))))) (fun _ _ => ?_); refine zcw ?_
               rotate_left
              rotate_left 2
              focus
               refine zcn (fun vl _ => ?_); refine zeu (fun vl _ => ?_); refine GE.ol 6 za rfl rfl (og_app0 rfl rfl rfl (by exact Rd.grp 3 rfl (List.mem_of_getElem? hgi)) rfl rfl zg zg) rfl zh (fun va _ => ?_); refine zeD (fun va _ => ?_)
               skip; refine zd9 (fun hova => ?_)
               refine zcO (fun _ _ => ?_); refine za7 (fun _ _ => ?_); refine zfH (fun _ _ => ?_); refine GE.t0 27 za rfl rfl rfl (og_stE4 rfl rfl rfl zm rfl rfl (by repeat (first | rfl | refine one_cons zf ?_)) rfl (.zero (.cons (.cons (.cons (.cons .nil)))))) (fun _ _ => ?_); refine zcw ?_
              rotate_left
              all_goals
               refine zaE ?_; refine G.frontR4 vr rfl ?_; refine G.frontG4 _ rfl ?_
               first | refine G.frontR2 va rfl ?_ | refine G.frontR3 va rfl ?_
               refine zeT ?_; refine G.keep2 4 rfl ?_; refine G.backK (k + 1, us.set q (layAdd t.1 k b.1, va), vr) 0 (two_eq rfl (congrArg (fun z => Ch.row vr 129 4 z) (cells_set rfl))) (.cons rfl (.cons rfl (.nil))) ?_ ?_ ?_
               exact ⟨rfl, rfl, trivial⟩
               exact ⟨hlt, by rw [foldl_take_succ hz, ← hM, hst, List.map_set]⟩
               omega
          · try exact Bool.noConfusion hc
            all_goals
             replace hc := of_decide_eq_false hc
             all_goals
              obtain ⟨us, hus⟩ : ∃ y, y = ts := ⟨_, rfl⟩
              obtain ⟨vr, hvr⟩ : ∃ y, y = v2 := ⟨_, rfl⟩
              have hl1 : (us.map LayerM.cells).length = q + 1 := by rw [hus]; omega
              have htl : t.1.l.length ≤ 1048576 := hlb
              have hst : pileStep (layRoom p) layAdd layZ (ts.map Prod.fst) (b.1, k) = (us.map Prod.fst).set q (layAdd t.1 k b.1) := by
                rw [hus]; exact pile_room (fst_at htq) zW (by simp only [layRoom, Bool.and_eq_true, decide_eq_true_eq]; ((have hq9 := of_decide_eq_false hg; omega)))
              subst hvr hus
              all_goals
               refine zbR ?_; refine zaM ?_; refine zd4 ?_; refine zeX ?_; refine G.v (rv_loadEW rfl zj zm rfl) rfl ?_; refine zbn (fun bk9 _ => ?_); refine G.op0 (og_st0 rfl rfl rfl rfl rfl (by repeat (first | rfl | refine one_cons zf ?_)) (.zero (.cons (.cons (.cons (.cons .nil)))))) (fun _ _ => ?_); refine za1 ?_; refine G.drawL [26, 27] ?_; refine zaR ?_; refine zbE ?_; refine zb7 ?_
               refine GE.q 13 rfl za rfl (qg_runs (rv_load1 1 rfl rfl rfl)) rfl ?_; refine zbB ?_; refine GE.q 18 rfl za rfl (qg_runs (rv_load1 1 rfl rfl rfl)) rfl ?_; refine zeA ?_; refine GE.q 23 rfl za rfl (qg_runs (rv_load1 1 rfl rfl rfl)) rfl ?_; refine GE.q 24 rfl za rfl (qg_runs (rv_addB rfl rfl zc zc)) rfl ?_; refine GE.any (rs := [3, 8]) za zC ?_; refine List.forall_mem_cons.2 ⟨?_, List.forall_mem_cons.2 ⟨?_, fun _ h => absurd h List.not_mem_nil⟩⟩
               focus
                refine zcV (fun vl _ => ?_); refine GE.any (rs := [6, 8]) za zC ?_; refine List.forall_mem_cons.2 ⟨?_, List.forall_mem_cons.2 ⟨?_, fun _ h => absurd h List.not_mem_nil⟩⟩
                focus
                 refine GE.pickOp rfl rfl rfl (og_app0 rfl rfl rfl (by exact Rd.grp 3 rfl (List.mem_of_getElem? hgi)) rfl rfl zg zg) rfl zk (fun va _ => ?_); refine zc2 (fun vl _ => ?_); refine zcj (fun va _ => ?_)
                 skip; refine zck (fun hova => ?_)
                 refine zcO (fun _ _ => ?_); refine za7 (fun _ _ => ?_); refine zfI (fun _ _ => ?_); refine GE.t0 27 za rfl rfl rfl (og_stE5 rfl rfl rfl zm rfl rfl (by repeat (first | rfl | refine one_cons zf ?_)) rfl (.zero (.cons (.cons (.cons (.cons .nil)))))) (fun _ _ => ?_); refine zcw ?_
                rotate_left
                focus
                 refine zb2 (fun vl _ => ?_); refine GE.ol 6 za rfl rfl (og_app1 rfl rfl rfl (by exact Rd.grp 4 rfl (List.mem_of_getElem? hgi)) rfl rfl zg zg) rfl zh (fun va _ => ?_); refine zcj (fun va _ => ?_)
                 skip; refine zck (fun hova => ?_)
                 refine zcO (fun _ _ => ?_); refine za7 (fun _ _ => ?_); refine zfI (fun _ _ => ?_); refine GE.t0 27 za rfl rfl rfl (og_stE5 rfl rfl rfl zm rfl rfl (by repeat (first | rfl | refine one_cons zf ?_)) rfl (.zero (.cons (.cons (.cons (.cons .nil)))))) (fun _ _ => ?_); refine zcw ?_
                rotate_left
               rotate_left 2
               focus
                refine zcn (fun vl _ => ?_); refine zeu (fun vl _ => ?_); refine GE.ol 6 za rfl rfl (og_app0 rfl rfl rfl (by exact Rd.grp 4 rfl (List.mem_of_getElem? hgi)) rfl rfl zg zg) rfl zh (fun va _ => ?_); refine zeD (fun va _ => ?_)
                skip; refine zd9 (fun hova => ?_)
                refine zcO (fun _ _ => ?_); refine za7 (fun _ _ => ?_); refine zfI (fun _ _ => ?_); refine GE.t0 27 za rfl rfl rfl (og_stE5 rfl rfl rfl zm rfl rfl (by repeat (first | rfl | refine one_cons zf ?_)) rfl (.zero (.cons (.cons (.cons (.cons .nil)))))) (fun _ _ => ?_); refine zcw ?_
               rotate_left
               all_goals
                refine zaE ?_; refine G.frontR5 vr rfl ?_; refine G.frontG5 _ rfl ?_
                first | refine G.frontR2 va rfl ?_ | refine G.frontR3 va rfl ?_
                refine zeT ?_; refine G.keep2 3 rfl ?_; refine G.backK (k + 1, us.set q (layAdd t.1 k b.1, va), vr) 0 (two_eq rfl (congrArg (fun z => Ch.row vr 129 4 z) (cells_set rfl))) (.cons rfl (.cons rfl (.nil))) ?_ ?_ ?_
                exact ⟨rfl, rfl, trivial⟩
                exact ⟨hlt, by rw [foldl_take_succ hz, ← hM, hst, List.map_set]⟩
                omega
     · all_goals
        replace hc := of_decide_eq_false hc
        simp only [List.length_map] at hc
        try (exfalso; omega)
        all_goals
         refine zce ?_; refine G.know (fun w hw => (Rd.owned 1 rfl w hw).one_) (fun hone => G.retF (v2, ts) ⟨hone, lay_end (bnot_no hok) hM (by rw [List.length_map]; exact hlt)⟩ rfl rfl rfl (fun w hw => hw.sublist (by repeat (first | exact List.Sublist.refl _ | refine List.Sublist.cons_cons _ ?_ | refine List.Sublist.cons _ ?_)))); done

theorem specLoadsOf_any (p : PalletM) {v : Value} {l : List (LayerM × Value)} (w : World) (h : Rd w v 4 (l.map LayerM.cells)) (hb : l.length ≤ 1048576) :
    Fn Tryz.prog 109 [p.val, v] w (fun x : Value × List (LoadM × Value) => x.1.oneCell' = true ∧ x.2.map Prod.fst = loadsM p (l.map Prod.fst)) (fun x => x.1) (fun x => [.grp 3 1 (x.2.map (sub LoadM.l)), .row x.1 127 3 (x.2.map LoadM.cells)]) := by
  have pile_lens : ∀ (xs : List (LayerM × Nat)) (k : Nat), ∀ t ∈ (xs.take k).foldl (pileStep (loadRoom p) loadAdd loadZ) [], t.l.length ≤ k := fun xs k => load_lens xs k
  refine Fn.of (n := 92) Tryz.func109 rfl rfl ?_; refine zaJ (fun bk2 _ => ?_); refine zba ?_; refine G.region ?_; refine zcL (fun vl _ => ?_); refine zba ?_; refine G.seq ?_; refine zbF ?_; refine zaC ?_; refine G.op (og_callV rfl rfl (fun w hh => specStacksOk_any _ w zx)) rfl (fun _ _ => ?_); refine zcl ?_; refine G.cond rfl (fun hc => ?_) (fun hc => ?_); refine za9 ?_; refine G.thenR ?_; refine zbP (fun hovl => ?_); exact G.retF (vl, []) ⟨hovl, by rw [loadsM, if_neg (by intro hq; simp only [stacksOkM] at hq; rw [hq] at hc; exact Bool.noConfusion hc)]; rfl⟩ rfl rfl rfl (fun w hw => (hw.sublist (by repeat (first | exact List.Sublist.refl _ | refine List.Sublist.cons_cons _ ?_ | refine List.Sublist.cons _ ?_)) : HeapOk _ w [.row vl 127 3 []]).nilGrp _ _)
  · refine G.skip ?_
    refine G.thenN (G.seq ?_); refine zbL ?_
    have hok := hc
    have hpp := pallet_in (palletOk_of hc)
    refine zb5 ?_; refine G.loopK (ι := Nat × List (LoadM × Value) × Value) (ks := [1, 2]) (fun x => [(5, x.2.2), (6, .int .i64 x.1)]) (fun x => [.grp 3 1 (x.2.1.map (sub LoadM.l)), .row x.2.2 127 3 (x.2.1.map LoadM.cells)]) (fun x => x.1 ≤ l.length ∧ x.2.1.map Prod.fst = ((l.map Prod.fst).zipIdx.take x.1).foldl (pileStep (loadRoom p) loadAdd loadZ) []) (fun x => l.length - x.1) (0, [], vl) (.cons rfl (.cons rfl (.nil))) rfl ?_ ?_ ?_
    exact ⟨Nat.zero_le _, rfl⟩
    exact ⟨rfl, rfl, trivial⟩
    rintro ⟨k, ts, v2⟩ ⟨hk, hM⟩
    dsimp only at hk hM ⊢
    by_cases hlt : k < l.length
    case' pos => (obtain ⟨b, hb2⟩ := get_of_lt hlt; have heb := get_map hb2 LayerM.cells; have hobb := heap_in (ok_at hok (fst_at hb2 : (l.map Prod.fst)[k]? = some b.1)).2; have hov : b.2.oneCell' = true := (h.good _ (List.mem_of_getElem? heb)).2 b.2 (by simp [LayerM.cells]); have hz := zip_get (fst_at hb2 : (l.map Prod.fst)[k]? = some b.1); have hl0 : (ts.map LoadM.cells).length = ts.length := zC; have hlk : ts.length ≤ k := (by (have := pile_len (room := loadRoom p) (add := loadAdd) (z := loadZ) ((l.map Prod.fst).zipIdx.take k) []; rw [← hM] at this; simp only [List.length_map, List.length_nil, List.length_take] at this; omega)); rcases nil_or_snoc ts with hts | ⟨tp, t, hts⟩; have hn0 : ts.length = 0 := (by rw [hts]; rfl); rotate_left; have hn1 : ts.length = tp.length + 1 := zaq; obtain ⟨q, hq⟩ : ∃ y, y = tp.length := ⟨_, rfl⟩; have htq : ts[q]? = some t := z8; have he := get_map htq LoadM.cells; have hgi : (ts.map (sub LoadM.l))[q]? = some (t.2, t.1.l.map icell) := get_mapS htq; have hbt : 0 ≤ t.1.h ∧ t.1.h ≤ p.h ∧ 0 ≤ t.1.g ∧ t.1.g ≤ p.g := (by (have := load_bd (p := p) (ss := (l.map Prod.fst)) (bnot_no hok) k; rw [← hM] at this; exact this t.1 (List.mem_map.2 ⟨t, List.mem_of_getElem? htq, rfl⟩))); refine zcS (fun hov2 => ?_); have hlb : t.1.l.length ≤ 1048576 := (by (have := pile_lens (l.map Prod.fst).zipIdx k; rw [← hM] at this; have := this t.1 (List.mem_map.2 ⟨t, List.mem_of_getElem? htq, rfl⟩); omega)))
    all_goals
     refine zbv ?_; refine G.cond rfl (fun hc => ?_) (fun hc => ?_)
     · all_goals
        replace hc := of_decide_eq_true hc
        simp only [List.length_map] at hc
        try (exfalso; omega)
        all_goals
         refine zaQ ?_; refine zaM ?_; refine zb1 (fun bk7 _ => ?_); refine G.op0 (og_st0 rfl rfl rfl rfl rfl (by repeat (first | rfl | refine one_cons zf ?_)) (.zero (.cons (.cons (.cons (.cons .nil)))))) (fun _ _ => ?_); refine za1 ?_; refine zaD ?_; refine zdm ?_; refine zba ?_; refine G.seq ?_; refine zcm (fun _ _ => ?_); refine GE.ol 1 za rfl rfl (og_runs (rv_eql rfl rfl)) rfl zd (fun _ _ => ?_); refine zb9 (fun _ _ => ?_)
         all_goals (((with_reducible refine GE.part (t := 30) rfl (fun hg => ?_) (fun hg => ?_)) <;> (try exact Bool.noConfusion hg) <;> (try (exfalso; first | (have hq := of_decide_eq_false hg; omega) | (have hq := of_decide_eq_true hg; omega); done)) <;> (first | refine zbN ?_ | refine zfp ?_)))
         all_goals ((first | refine zbI ?_ | refine zen ?_))
         all_goals ((first | (refine zfu ?_) | refine zeo ?_))
         all_goals ((first | (refine zem ?_) | refine zep ?_))
         all_goals ((first | (refine GE.q 7 rfl za rfl (qg_runs (rv_fieldE rfl)) rfl ?_) | refine zeq ?_))
         all_goals ((first | refine GE.q 8 rfl za rfl (qg_runs (rv_loadE rfl zv zQ rfl)) rfl ?_ | refine zdS ?_))
         all_goals ((first | (refine zeQ ?_) | refine zdT ?_))
         all_goals ((first | (refine zfe ?_) | refine zdw ?_))
         all_goals ((first | (refine zfl ?_) | refine zdl ?_))
         all_goals ((first | (refine GE.q 12 rfl za rfl (qg_runs (rv_field rfl)) rfl ?_) | refine zdc ?_))
         all_goals ((first | (refine GE.q 13 rfl za rfl (qg_runs (rv_load1 3 rfl rfl rfl)) rfl ?_) | refine zdd ?_))
         all_goals ((first | refine GE.q 14 rfl za rfl (qg_runs (rv_gtr rfl rfl)) rfl ?_ | refine zei ?_))
         all_goals ((first | refine zef (fun _ _ => ?_) | refine zeg (fun _ _ => ?_)))
         all_goals (refine zex (fun _ _ => ?_))
         all_goals (((with_reducible refine GE.part (t := 44) rfl (fun hg => ?_) (fun hg => ?_)) <;> (try exact Bool.noConfusion hg) <;> (try (exfalso; (have hq := of_decide_eq_false hg; omega))) <;> (first | refine zc1 ?_ | refine zd5 ?_)))
         all_goals ((first | refine GE.q 18 rfl za rfl (qg_runs (rv_move rfl)) rfl ?_ | refine ze4 ?_))
         all_goals ((first | (refine GE.q 19 rfl za rfl (qg_runs (rv_decr rfl rfl zc zc)) rfl ?_) | refine zfB ?_))
         all_goals ((first | (refine GE.q 20 rfl za rfl (qg_runs (rv_indexH (k := q) rfl rfl zj zc zm)) rfl ?_) | refine zeZ ?_))
         all_goals ((first | (refine GE.q 21 rfl za rfl (qg_runs (rv_fieldE rfl)) rfl ?_) | refine ze0 ?_))
         all_goals ((first | refine GE.q 22 rfl za rfl (qg_runs (rv_loadE rfl zv zQ rfl)) rfl ?_ | refine ze1 ?_))
         all_goals ((first | (refine GE.q 23 rfl za rfl (qg_runs (rv_field rfl)) rfl ?_) | refine ze2 ?_))
         all_goals ((first | (refine GE.q 24 rfl za rfl (qg_runs (rv_load1 0 rfl rfl rfl)) rfl ?_) | refine GE.qn 24 rfl za rfl rfl ?_))
         all_goals ((first | (refine GE.q 25 rfl za rfl (qg_runs (rv_addB rfl rfl zc zc)) rfl ?_) | refine GE.qn 25 rfl za rfl rfl ?_))
         all_goals ((first | (refine zeI ?_) | refine ze3 ?_))
         all_goals ((first | (refine zfd ?_) | refine GE.qn 27 rfl za rfl rfl ?_))
         all_goals ((first | refine GE.q 28 rfl za rfl (qg_runs (rv_gtr rfl rfl)) rfl ?_ | refine GE.qn 28 rfl za rfl rfl ?_))
         all_goals ((first | refine GE.ol 29 za rfl rfl (og_runs (rv_pickT rfl rfl)) rfl zd (fun _ _ => ?_) | refine GE.ol 29 za rfl rfl (og_runs (rv_pickF rfl rfl)) rfl zd (fun _ _ => ?_)))
         all_goals
          refine zbj ?_; refine G.cond rfl (fun hc => ?_) (fun hc => ?_)
          · all_goals
             try replace hc := of_decide_eq_true hc
             try simp only [List.length_map] at hc
             all_goals
              refine zcy (fun vl _ => ?_); refine zcF (fun va _ => ?_); refine zaB ?_; refine zbi ?_; refine zeN ?_
              obtain ⟨q, hq⟩ : ∃ y, y = ts.length := ⟨_, rfl⟩
              obtain ⟨t, htt⟩ : ∃ y, y = ((loadZ, .slice none 0 0) : LoadM × Value) := ⟨_, rfl⟩
              obtain ⟨us, hus⟩ : ∃ y, y = ts ++ [t] := ⟨_, rfl⟩
              obtain ⟨vr, hvr⟩ : ∃ y, y = va := ⟨_, rfl⟩
              subst hvr
              have huq : us[q]? = some t := by rw [hus, hq]; simp
              have he : (us.map LoadM.cells)[q]? = some (LoadM.cells t) := get_map huq LoadM.cells
              have hgi : (us.map (sub LoadM.l))[q]? = some (t.2, t.1.l.map icell) := get_mapS huq
              have hl1 : (us.map LoadM.cells).length = q + 1 := by rw [hus, hq]; simp
              have hzh : t.1.h = 0 := zaf; have hzg : t.1.g = 0 := zaf
              have htl : t.1.l.length = 0 := by rw [htt]; rfl
              have hov2 : t.2.oneCell' = true := by rw [htt]; rfl
              have hst : pileStep (loadRoom p) loadAdd loadZ (ts.map Prod.fst) (b.1, k) = (us.map Prod.fst).set q (loadAdd t.1 k b.1) := by
                have e : us.map Prod.fst = ts.map Prod.fst ++ [loadZ] := by rw [hus, htt]; simp
                rw [e, htt, hq]
                have := pile_new (room := loadRoom p) (add := loadAdd) (z := loadZ) (out := ts.map Prod.fst) (s := b.1) (k := k) (by intro t2 ht2; first | (rw [hts] at ht2; simp at ht2; done) | (rw [last_of hts] at ht2; obtain rfl := Option.some.inj ht2; simp only [loadRoom, Bool.and_eq_false_iff, decide_eq_false_iff_not]; (first | (have hq9 := of_decide_eq_true hg; omega) | omega)))
                rw [this]; simp
              refine zdO ?_; refine zdn ?_; refine zd4 ?_; refine zeW ?_; refine G.v (rv_loadEW rfl zi zm rfl) rfl ?_; refine zbn (fun bk9 _ => ?_); refine G.op0 (og_st0 rfl rfl rfl rfl rfl (by repeat (first | rfl | refine one_cons zf ?_)) (.zero (.cons (.cons (.cons .nil))))) (fun _ _ => ?_); refine za1 ?_; refine G.drawL [21, 22] ?_; refine zaR ?_; refine zbE ?_
              refine zb7 ?_; refine GE.q 13 rfl za rfl (qg_runs (rv_load1 4 rfl rfl rfl)) rfl ?_; refine zbB ?_; refine GE.q 18 rfl za rfl (qg_runs (rv_load1 4 rfl rfl rfl)) rfl ?_; refine GE.q 19 rfl za rfl (qg_runs (rv_addB rfl rfl zc zc)) rfl ?_; refine GE.any (rs := [3, 8]) za zC ?_; refine List.forall_mem_cons.2 ⟨?_, List.forall_mem_cons.2 ⟨?_, fun _ h => absurd h List.not_mem_nil⟩⟩
              focus
               refine zcV (fun vl _ => ?_); refine GE.any (rs := [6, 8]) za zC ?_; refine List.forall_mem_cons.2 ⟨?_, List.forall_mem_cons.2 ⟨?_, fun _ h => absurd h List.not_mem_nil⟩⟩
               focus
                refine GE.pickOp rfl rfl rfl (og_app0 rfl rfl rfl (by exact Rd.grp 2 rfl (List.mem_of_getElem? hgi)) rfl rfl zg zg) rfl zk (fun va _ => ?_); refine zc2 (fun vl _ => ?_); refine zcj (fun va _ => ?_)
                skip; refine zck (fun hova => ?_)
                refine zbk (fun _ _ => ?_); refine zfJ (fun _ _ => ?_); refine GE.t0 22 za rfl rfl rfl (og_stE4 rfl rfl rfl zm rfl rfl (by repeat (first | rfl | refine one_cons zf ?_)) rfl (.zero (.cons (.cons (.cons .nil))))) (fun _ _ => ?_); refine zcw ?_
               rotate_left
               focus
                refine zb2 (fun vl _ => ?_); refine GE.ol 6 za rfl rfl (og_app1 rfl rfl rfl (by exact Rd.grp 3 rfl (List.mem_of_getElem? hgi)) rfl rfl zg zg) rfl zh (fun va _ => ?_); refine zcj (fun va _ => ?_)
                skip; refine zck (fun hova => ?_)
                refine zbk (fun _ _ => ?_); refine zfJ (fun _ _ => ?_); refine GE.t0 22 za rfl rfl rfl (og_stE4 rfl rfl rfl zm rfl rfl (by repeat (first | rfl | refine one_cons zf ?_)) rfl (.zero (.cons (.cons (.cons .nil))))) (fun _ _ => ?_); refine zcw ?_
               rotate_left
              rotate_left 2
              focus
               refine zcn (fun vl _ => ?_); refine zeu (fun vl _ => ?_); refine GE.ol 6 za rfl rfl (og_app0 rfl rfl rfl (by exact Rd.grp 3 rfl (List.mem_of_getElem? hgi)) rfl rfl zg zg) rfl zh (fun va _ => ?_); refine zeD (fun va _ => ?_)
               skip; refine zd9 (fun hova => ?_)
               refine zbk (fun _ _ => ?_); refine zfJ (fun _ _ => ?_); refine GE.t0 22 za rfl rfl rfl (og_stE4 rfl rfl rfl zm rfl rfl (by repeat (first | rfl | refine one_cons zf ?_)) rfl (.zero (.cons (.cons (.cons .nil))))) (fun _ _ => ?_); refine zcw ?_
              rotate_left
              all_goals
               refine zaE ?_; refine G.frontR4 vr rfl ?_; refine G.frontG4 _ rfl ?_
               first | refine G.frontR2 va rfl ?_ | refine G.frontR3 va rfl ?_
               refine zeS ?_; refine G.keep2 4 rfl ?_; refine G.backK (k + 1, us.set q (loadAdd t.1 k b.1, va), vr) 0 (two_eq rfl (congrArg (fun z => Ch.row vr 127 3 z) (cells_set rfl))) (.cons rfl (.cons rfl (.nil))) ?_ ?_ ?_
               exact ⟨rfl, rfl, trivial⟩
               exact ⟨hlt, by rw [foldl_take_succ hz, ← hM, hst, List.map_set]⟩
               omega
          · try exact Bool.noConfusion hc
            all_goals
             replace hc := of_decide_eq_false hc
             all_goals
              obtain ⟨us, hus⟩ : ∃ y, y = ts := ⟨_, rfl⟩
              obtain ⟨vr, hvr⟩ : ∃ y, y = v2 := ⟨_, rfl⟩
              have hl1 : (us.map LoadM.cells).length = q + 1 := by rw [hus]; omega
              have htl : t.1.l.length ≤ 1048576 := hlb
              have hst : pileStep (loadRoom p) loadAdd loadZ (ts.map Prod.fst) (b.1, k) = (us.map Prod.fst).set q (loadAdd t.1 k b.1) := by
                rw [hus]; exact pile_room (fst_at htq) zW (by simp only [loadRoom, Bool.and_eq_true, decide_eq_true_eq]; ((have hq9 := of_decide_eq_false hg; omega)))
              subst hvr hus
              all_goals
               refine zbR ?_; refine zaM ?_; refine zd4 ?_; refine zeX ?_; refine G.v (rv_loadEW rfl zj zm rfl) rfl ?_; refine zbn (fun bk9 _ => ?_); refine G.op0 (og_st0 rfl rfl rfl rfl rfl (by repeat (first | rfl | refine one_cons zf ?_)) (.zero (.cons (.cons (.cons .nil))))) (fun _ _ => ?_); refine za1 ?_; refine G.drawL [21, 22] ?_; refine zaR ?_; refine zbE ?_; refine zb7 ?_
               refine GE.q 13 rfl za rfl (qg_runs (rv_load1 1 rfl rfl rfl)) rfl ?_; refine zbB ?_; refine GE.q 18 rfl za rfl (qg_runs (rv_load1 1 rfl rfl rfl)) rfl ?_; refine GE.q 19 rfl za rfl (qg_runs (rv_addB rfl rfl zc zc)) rfl ?_; refine GE.any (rs := [3, 8]) za zC ?_; refine List.forall_mem_cons.2 ⟨?_, List.forall_mem_cons.2 ⟨?_, fun _ h => absurd h List.not_mem_nil⟩⟩
               focus
                refine zcV (fun vl _ => ?_); refine GE.any (rs := [6, 8]) za zC ?_; refine List.forall_mem_cons.2 ⟨?_, List.forall_mem_cons.2 ⟨?_, fun _ h => absurd h List.not_mem_nil⟩⟩
                focus
                 refine GE.pickOp rfl rfl rfl (og_app0 rfl rfl rfl (by exact Rd.grp 3 rfl (List.mem_of_getElem? hgi)) rfl rfl zg zg) rfl zk (fun va _ => ?_); refine zc2 (fun vl _ => ?_); refine zcj (fun va _ => ?_)
                 skip; refine zck (fun hova => ?_)
                 refine zbk (fun _ _ => ?_); refine zfK (fun _ _ => ?_); refine GE.t0 22 za rfl rfl rfl (og_stE5 rfl rfl rfl zm rfl rfl (by repeat (first | rfl | refine one_cons zf ?_)) rfl (.zero (.cons (.cons (.cons .nil))))) (fun _ _ => ?_); refine zcw ?_
                rotate_left
                focus
                 refine zb2 (fun vl _ => ?_); refine GE.ol 6 za rfl rfl (og_app1 rfl rfl rfl (by exact Rd.grp 4 rfl (List.mem_of_getElem? hgi)) rfl rfl zg zg) rfl zh (fun va _ => ?_); refine zcj (fun va _ => ?_)
                 skip; refine zck (fun hova => ?_)
                 refine zbk (fun _ _ => ?_); refine zfK (fun _ _ => ?_); refine GE.t0 22 za rfl rfl rfl (og_stE5 rfl rfl rfl zm rfl rfl (by repeat (first | rfl | refine one_cons zf ?_)) rfl (.zero (.cons (.cons (.cons .nil))))) (fun _ _ => ?_); refine zcw ?_
                rotate_left
               rotate_left 2
               focus
                refine zcn (fun vl _ => ?_); refine zeu (fun vl _ => ?_); refine GE.ol 6 za rfl rfl (og_app0 rfl rfl rfl (by exact Rd.grp 4 rfl (List.mem_of_getElem? hgi)) rfl rfl zg zg) rfl zh (fun va _ => ?_); refine zeD (fun va _ => ?_)
                skip; refine zd9 (fun hova => ?_)
                refine zbk (fun _ _ => ?_); refine zfK (fun _ _ => ?_); refine GE.t0 22 za rfl rfl rfl (og_stE5 rfl rfl rfl zm rfl rfl (by repeat (first | rfl | refine one_cons zf ?_)) rfl (.zero (.cons (.cons (.cons .nil))))) (fun _ _ => ?_); refine zcw ?_
               rotate_left
               all_goals
                refine zaE ?_; refine G.frontR5 vr rfl ?_; refine G.frontG5 _ rfl ?_
                first | refine G.frontR2 va rfl ?_ | refine G.frontR3 va rfl ?_
                refine zeS ?_; refine G.keep2 3 rfl ?_; refine G.backK (k + 1, us.set q (loadAdd t.1 k b.1, va), vr) 0 (two_eq rfl (congrArg (fun z => Ch.row vr 127 3 z) (cells_set rfl))) (.cons rfl (.cons rfl (.nil))) ?_ ?_ ?_
                exact ⟨rfl, rfl, trivial⟩
                exact ⟨hlt, by rw [foldl_take_succ hz, ← hM, hst, List.map_set]⟩
                omega
     · all_goals
        replace hc := of_decide_eq_false hc
        simp only [List.length_map] at hc
        try (exfalso; omega)
        all_goals
         refine zce ?_; refine G.know (fun w hw => (Rd.owned 1 rfl w hw).one_) (fun hone => G.retF (v2, ts) ⟨hone, load_end (bnot_no hok) hM (by rw [List.length_map]; exact hlt)⟩ rfl rfl rfl (fun w hw => hw.sublist (by repeat (first | exact List.Sublist.refl _ | refine List.Sublist.cons_cons _ ?_ | refine List.Sublist.cons _ ?_)))); done

theorem shelf_lens {p : PalletM} (xs : List (BoxM × Nat)) (k : Nat) : ∀ t ∈ (xs.take k).foldl (pileStep (shelfRoom p) shelfAdd shelfZ) [], t.l.length ≤ k := by
  intro t ht
  have := pile_sum (room := shelfRoom p) (add := shelfAdd) (z := shelfZ) (fun t => t.l.length) (by simp [shelfAdd, shelfZ]) (by simp [shelfAdd]) (xs.take k) [] 0 zC t ht
  rw [List.length_take] at this; omega
theorem implShelves_any (p : PalletM) {v : Value} {l : List BoxM} (w : World) (h : Rd w v 4 (l.map BoxM.cells)) (hb : l.length ≤ 1048576) :
    Fn Tryz.prog 95 [p.val, v] w (fun x : Value × List (ShelfM × Value) => x.1.oneCell' = true ∧ x.2.map Prod.fst = shelvesM p l) (fun x => x.1) (fun x => [.grp 3 1 (x.2.map (sub ShelfM.l)), .row x.1 131 5 (x.2.map ShelfM.cells)]) := by
  have pile_lens : ∀ (xs : List (BoxM × Nat)) (k : Nat), ∀ t ∈ (xs.take k).foldl (pileStep (shelfRoom p) shelfAdd shelfZ) [], t.l.length ≤ k := fun xs k => shelf_lens xs k
  have hln : (l.map BoxM.cells).length = l.length := by simp
  have hlk0 : (l.map BoxM.d).length = l.length := by simp
  refine Fn.of (n := 133) Tryz.func95 rfl rfl ?_; refine zaJ (fun bk2 _ => ?_); refine zba ?_; refine zaU ?_; refine zaC ?_; refine G.op (og_callV rfl rfl (fun w hh => boxesOk_any _ w zx)) rfl (fun _ _ => ?_); refine zcl ?_; refine G.cond rfl (fun hc => ?_) (fun hc => ?_); refine zbc ?_
  exact G.retF (.slice none 0 0, []) ⟨rfl, by rw [shelf_no zr]; rfl⟩ rfl rfl rfl (fun w hw => (hw.none.nilRow _ _).nilGrp _ _)
  · refine G.skip ?_
    refine G.thenN ?_; refine zaW (fun vl _ => ?_); refine zcY ?_; refine zeO ?_
    have hok := hc
    have hpp := pallet_in (palletOk_of hc)
    refine G.loopK (ι := Nat × Value) (ks := [1, 2, 19, 20]) (fun x => [(5, x.2), (21, .int .i64 (x.1 : Int))]) (fun x => [.row x.2 3 1 (((l.take x.1).map BoxM.d).map icell)]) (fun x => x.1 ≤ l.length) (fun x => l.length - x.1) (0, vl) (.cons rfl (.cons rfl (.cons rfl (.cons rfl (.nil))))) rfl ?_ ?_ ?_
    exact Nat.zero_le _
    exact ⟨rfl, rfl, trivial⟩
    rintro ⟨k0, v0⟩ hk0
    dsimp only at hk0 ⊢
    have hl9 : (((l.take k0).map BoxM.d).map icell).length = k0 := by (simp; omega)
    by_cases hlt0 : k0 < l.length
    case' pos => (obtain ⟨b, hb2⟩ := get_of_lt hlt0; have heb := get_map hb2 BoxM.cells)
    case' neg => (have hkall : ((l.take k0).map BoxM.d).map icell = (l.map BoxM.d).map icell := (by rw [List.take_of_length_le zc]))
    all_goals
     refine zbo ?_; refine G.cond rfl (fun hc => ?_) (fun hc => ?_)
     · all_goals
        replace hc := of_decide_eq_true hc
        simp only [List.length_map] at hc
        try (exfalso; omega)
        all_goals
         refine zdo ?_; refine zb1 (fun bk7 _ => ?_); refine zb0 (fun _ _ => ?_); refine za1 ?_; refine zbi ?_; refine zaK ?_; refine zaT (fun vl _ => ?_); refine zeK (fun va _ => ?_); refine za0 ?_; refine zaO ?_; refine G.backK (k0 + 1, va) 2 (one_eq (congrArg (fun z => Ch.row va 3 1 z) (dsnoc hb2))) (.cons rfl (.cons rfl (.cons rfl (.cons rfl (.nil))))) ?_ ?_ ?_
         exact ⟨rfl, rfl, trivial⟩
         dsimp only; omega
         dsimp only; omega
     · all_goals
        replace hc := of_decide_eq_false hc
        simp only [List.length_map] at hc
        try (exfalso; omega)
        all_goals
         refine zaL ?_; refine zbZ ?_; refine zcL (fun vl _ => ?_); refine zcY ?_
         first | (refine G.op (og_callF1 rfl rfl (fun w hh => sortDown_any (ks := l.map BoxM.d) w zo zc)) rfl ?_; rintro vo hvo; try dsimp only) | (refine G.op (og_callF2 rfl rfl (fun w hh => sortDown_any (ks := l.map BoxM.d) w zo zc)) rfl ?_; rintro vo hvo; try dsimp only) | (refine G.op (og_callF3 rfl rfl (fun w hh => sortDown_any (ks := l.map BoxM.d) w zo zc)) rfl ?_; rintro vo hvo; try dsimp only) | (refine G.op (og_callF0 rfl rfl (fun w hh => sortDown_any (ks := l.map BoxM.d) w zo zc)) rfl ?_; rintro vo hvo; try dsimp only) | (refine G.op (og_callF rfl rfl (fun w hh => sortDown_any (ks := l.map BoxM.d) w zo zc)) rfl ?_; rintro vo hvo; try dsimp only)
         refine zcI ?_; refine zbt ?_; refine G.frontR1 vl rfl ?_; refine zb5 ?_
         have hoL := ordM_len (keyM (l.map BoxM.d)) l.length
         have hol2 : ((ordM (keyM (l.map BoxM.d)) (l.map BoxM.d).length).map ncell).length = l.length := by rw [List.length_map, ordM_len, hlk0]
         refine G.loopK (ι := Nat × List (ShelfM × Value) × Value) (ks := [1, 2, 33, 34]) (fun x => [(8, x.2.2), (35, .int .i64 (x.1 : Int))]) (fun x => [.grp 3 1 (x.2.1.map (sub ShelfM.l)), .row x.2.2 131 5 (x.2.1.map ShelfM.cells)]) (fun x => x.1 ≤ l.length ∧ x.2.1.map Prod.fst = ((shelfXs l).take x.1).foldl (pileStep (shelfRoom p) shelfAdd shelfZ) []) (fun x => l.length - x.1) (0, [], vl) (.cons rfl (.cons rfl (.cons rfl (.cons rfl (.nil))))) rfl ?_ ?_ ?_
         exact ⟨Nat.zero_le _, rfl⟩
         exact ⟨rfl, rfl, trivial⟩
         rintro ⟨k, ts, v2⟩ ⟨hk, hM⟩
         dsimp only at hk hM ⊢
         by_cases hlt : k < l.length
         case' pos => (obtain ⟨x, hx⟩ := get_of_lt (l := ordM (keyM (l.map BoxM.d)) l.length) (k := k) zc; have hxl : x < l.length := ordM_mem.1 (List.mem_of_getElem? hx); have heo : ((ordM (keyM (l.map BoxM.d)) (l.map BoxM.d).length).map ncell)[k]? = some (ncell x) := get_map (by rw [hlk0]; exact hx) ncell; obtain ⟨b, hb2⟩ := get_of_lt hxl; have heb := get_map hb2 BoxM.cells; have hobb := box_in (ok_at hok hb2).2; have hz := xs_get hx hb2; have hl0 : (ts.map ShelfM.cells).length = ts.length := zC; have hlk : ts.length ≤ k := (by (have := pile_len (room := shelfRoom p) (add := shelfAdd) (z := shelfZ) ((shelfXs l).take k) []; rw [← hM] at this; simp only [List.length_map, List.length_nil, List.length_take] at this; omega)); rcases nil_or_snoc ts with hts | ⟨tp, t, hts⟩; have hn0 : ts.length = 0 := (by rw [hts]; rfl); rotate_left; have hn1 : ts.length = tp.length + 1 := zaq; obtain ⟨q, hq⟩ : ∃ y, y = tp.length := ⟨_, rfl⟩; have htq : ts[q]? = some t := z8; have he := get_map htq ShelfM.cells; have hgi : (ts.map (sub ShelfM.l))[q]? = some (t.2, t.1.l.map icell) := get_mapS htq; have hbt : 0 ≤ t.1.w ∧ t.1.w ≤ p.w ∧ 0 ≤ t.1.d ∧ t.1.d ≤ p.d ∧ 0 ≤ t.1.h ∧ t.1.h ≤ p.h ∧ 0 ≤ t.1.g ∧ t.1.g ≤ p.g := (by (have := shelf_bd (p := p) (l := l) (bnot_no hok) k; rw [← hM] at this; exact this t.1 (List.mem_map.2 ⟨t, List.mem_of_getElem? htq, rfl⟩))); refine zcS (fun hov2 => ?_); have hlb : t.1.l.length ≤ 1048576 := (by (have := pile_lens (shelfXs l) k; rw [← hM] at this; have := this t.1 (List.mem_map.2 ⟨t, List.mem_of_getElem? htq, rfl⟩); omega)))
         all_goals
          refine zbo ?_; refine G.cond rfl (fun hc => ?_) (fun hc => ?_)
          · all_goals
             replace hc := of_decide_eq_true hc
             simp only [List.length_map] at hc
             try (exfalso; omega)
             all_goals
              refine zdo ?_; refine zdy ?_; refine zdn ?_; refine zb1 (fun bk11 _ => ?_); refine zb0 (fun _ _ => ?_); refine za1 ?_; refine zaD ?_; refine zdm ?_
              first | refine zd4 ?_ | refine zcK ?_
              refine zba ?_; refine G.seq ?_; refine zcm (fun _ _ => ?_); refine GE.ol 1 za rfl rfl (og_runs (rv_lss rfl rfl)) rfl zd (fun _ _ => ?_); refine zb9 (fun _ _ => ?_)
              all_goals (((with_reducible refine GE.part (t := 48) rfl (fun hg => ?_) (fun hg => ?_)) <;> (try exact Bool.noConfusion hg) <;> (try (exfalso; (have hq := of_decide_eq_false hg; omega))) <;> (first | refine zbN ?_ | refine zfp ?_)))
              all_goals ((first | refine zbI ?_ | refine zen ?_))
              all_goals ((first | (refine GE.q 5 rfl za rfl (qg_runs (rv_indexH (k := q) rfl rfl zj zc zm)) rfl ?_) | refine zeo ?_))
              all_goals ((first | (refine GE.q 6 rfl za rfl (qg_runs (rv_fieldE rfl)) rfl ?_) | refine zep ?_))
              all_goals ((first | refine GE.q 7 rfl za rfl (qg_runs (rv_loadE rfl zv zQ rfl)) rfl ?_ | refine zeq ?_))
              all_goals ((first | (refine GE.q 8 rfl za rfl (qg_runs (rv_field rfl)) rfl ?_) | refine zdS ?_))
              all_goals ((first | (refine GE.q 9 rfl za rfl (qg_runs (rv_load1 0 rfl rfl rfl)) rfl ?_) | refine zdT ?_))
              all_goals ((first | (refine GE.q 10 rfl za rfl (qg_runs (rv_addB rfl rfl zc zc)) rfl ?_) | refine zdw ?_))
              all_goals ((first | (refine zd7 ?_) | refine zdl ?_))
              all_goals ((first | (refine GE.q 12 rfl za rfl (qg_runs (rv_load1 5 rfl rfl rfl)) rfl ?_) | refine zdc ?_))
              all_goals ((first | refine GE.q 13 rfl za rfl (qg_runs (rv_gtr rfl rfl)) rfl ?_ | refine zdd ?_))
              all_goals ((first | refine zfs (fun _ _ => ?_) | refine zft (fun _ _ => ?_)))
              all_goals (refine zew (fun _ _ => ?_))
              all_goals (((with_reducible refine GE.part (t := 61) rfl (fun hg => ?_) (fun hg => ?_)) <;> (try exact Bool.noConfusion hg) <;> (try (exfalso; (have hq := of_decide_eq_false hg; omega))) <;> (first | refine zeP ?_ | refine GE.qn 16 rfl za rfl rfl ?_)))
              all_goals ((first | refine zc1 ?_ | refine zd5 ?_))
              all_goals ((first | (refine GE.q 18 rfl za rfl (qg_runs (rv_indexH (k := q) rfl rfl zj zc zm)) rfl ?_) | refine ze4 ?_))
              all_goals ((first | (refine GE.q 19 rfl za rfl (qg_runs (rv_fieldE rfl)) rfl ?_) | refine zfB ?_))
              all_goals ((first | refine GE.q 20 rfl za rfl (qg_runs (rv_loadE rfl zv zQ rfl)) rfl ?_ | refine zeZ ?_))
              all_goals ((first | (refine GE.q 21 rfl za rfl (qg_runs (rv_field rfl)) rfl ?_) | refine ze0 ?_))
              all_goals ((first | (refine GE.q 22 rfl za rfl (qg_runs (rv_load1 0 rfl rfl rfl)) rfl ?_) | refine ze1 ?_))
              all_goals ((first | (refine GE.q 23 rfl za rfl (qg_runs (rv_addB rfl rfl zc zc)) rfl ?_) | refine ze2 ?_))
              all_goals ((first | (refine GE.q 24 rfl za rfl (qg_runs (rv_field rfl)) rfl ?_) | refine GE.qn 24 rfl za rfl rfl ?_))
              all_goals ((first | (refine GE.q 25 rfl za rfl (qg_runs (rv_load1 5 rfl rfl rfl)) rfl ?_) | refine GE.qn 25 rfl za rfl rfl ?_))
              all_goals ((first | refine GE.q 26 rfl za rfl (qg_runs (rv_gtr rfl rfl)) rfl ?_ | refine ze3 ?_))
              all_goals ((first | refine GE.ol 27 za rfl rfl (og_runs (rv_pickT rfl rfl)) rfl zd (fun _ _ => ?_) | refine GE.ol 27 za rfl rfl (og_runs (rv_pickF rfl rfl)) rfl zd (fun _ _ => ?_)))
              all_goals
               refine zbj ?_; refine G.cond rfl (fun hc => ?_) (fun hc => ?_)
               · all_goals
                  try replace hc := of_decide_eq_true hc
                  try simp only [List.length_map] at hc
                  all_goals
                   refine zcy (fun vl _ => ?_); refine zcF (fun va _ => ?_); refine zaB ?_; refine zbi ?_
                   first | refine zeN ?_ | refine zbT ?_
                   obtain ⟨q, hq⟩ : ∃ y, y = ts.length := ⟨_, rfl⟩
                   obtain ⟨t, htt⟩ : ∃ y, y = ((shelfZ, .slice none 0 0) : ShelfM × Value) := ⟨_, rfl⟩
                   obtain ⟨us, hus⟩ : ∃ y, y = ts ++ [t] := ⟨_, rfl⟩
                   obtain ⟨vr, hvr⟩ : ∃ y, y = va := ⟨_, rfl⟩
                   subst hvr
                   have huq : us[q]? = some t := by rw [hus, hq]; simp
                   have he : (us.map ShelfM.cells)[q]? = some (ShelfM.cells t) := get_map huq ShelfM.cells
                   have hgi : (us.map (sub ShelfM.l))[q]? = some (t.2, t.1.l.map icell) := get_mapS huq
                   have hl1 : (us.map ShelfM.cells).length = q + 1 := by rw [hus, hq]; simp
                   have hzw : t.1.w = 0 := zaf; have hzd : t.1.d = 0 := zaf; have hzh : t.1.h = 0 := zaf; have hzg : t.1.g = 0 := zaf
                   have htl : t.1.l.length = 0 := by rw [htt]; rfl
                   have hov2 : t.2.oneCell' = true := by rw [htt]; rfl
                   have hst : pileStep (shelfRoom p) shelfAdd shelfZ (ts.map Prod.fst) (b, x) = (us.map Prod.fst).set q (shelfAdd t.1 x b) := by
                     have e : us.map Prod.fst = ts.map Prod.fst ++ [shelfZ] := by rw [hus, htt]; simp
                     rw [e, htt, hq]
                     have := pile_new (room := shelfRoom p) (add := shelfAdd) (z := shelfZ) (out := ts.map Prod.fst) (s := b) (k := x) (by intro t2 ht2; first | (rw [hts] at ht2; simp at ht2; done) | (rw [last_of hts] at ht2; obtain rfl := Option.some.inj ht2; simp only [shelfRoom, Bool.and_eq_false_iff, decide_eq_false_iff_not]; (first | (have hq9 := of_decide_eq_true hg; omega) | omega)))
                     rw [this]; simp
                   refine G.frontR3 vr rfl ?_; refine G.rowEq (us.map ShelfM.cells) (by rw [hus, htt]; simp [ShelfM.cells, shelfZ]) rfl ?_; refine G.frontG3 _ rfl ?_; refine G.pushNil (us.map (sub ShelfM.l)) (by rw [hus, htt]; simp [sub, shelfZ]) rfl ?_; refine zdn ?_; refine zeW ?_; refine zdn ?_; refine zdb ?_; refine G.v (rv_loadE rfl zi zm rfl) rfl ?_; refine zaC ?_; refine zaT (fun vl _ => ?_); refine zdB (fun va _ => ?_)
                   skip; refine zcG (fun hova => ?_)
                   refine zdb ?_; refine G.op0 (og_stE2 rfl rfl rfl zm (cells_one zf) rfl (by repeat (first | rfl | refine one_cons zf ?_)) rfl (.zero (.cons .nil))) (fun _ _ => ?_); refine za1 ?_; refine G.seq ?_; refine zaV ?_; refine GE.q 3 rfl za rfl (qg_runs (rv_loadE rfl zj zJ rfl)) rfl ?_; refine zb8 (fun _ _ => ?_); refine zdf (fun _ _ => ?_); refine zbC (fun _ _ => ?_); refine zbY (fun _ _ => ?_); refine zb6 (fun _ _ => ?_)
                   refine zeL (fun _ _ => ?_); refine zby ?_; refine GE.q 4 rfl za rfl (qg_runs (rv_loadE rfl zj zw rfl)) rfl ?_; refine zdW (fun _ _ => ?_); refine GE.ol 6 za rfl rfl (og_runs (rv_load1 4 rfl rfl rfl)) rfl zd (fun _ _ => ?_); refine zdC (fun _ _ => ?_); refine zdr (fun _ _ => ?_); refine zdM (fun _ _ => ?_)
                   refine GE.t0 10 za rfl rfl rfl (og_stE2 rfl rfl rfl zw rfl rfl rfl rfl (.succ (.succ (.zero (.cons .nil))))) (fun _ _ => ?_); refine zby ?_; refine GE.q 4 rfl za rfl (qg_runs (rv_loadE rfl zj zy rfl)) rfl ?_; refine zdW (fun _ _ => ?_); refine GE.ol 6 za rfl rfl (og_runs (rv_load1 4 rfl rfl rfl)) rfl zd (fun _ _ => ?_); refine zdC (fun _ _ => ?_); refine zdr (fun _ _ => ?_); refine zdM (fun _ _ => ?_)
                   refine GE.t0 10 za rfl rfl rfl (og_stE2 rfl rfl rfl zy rfl rfl rfl rfl (.succ (.succ (.succ (.zero (.cons .nil)))))) (fun _ _ => ?_); refine zbj ?_; refine zaV ?_; refine GE.q 3 rfl za rfl (qg_runs (rv_loadE rfl zj zL rfl)) rfl ?_; refine zb8 (fun _ _ => ?_); refine zdf (fun _ _ => ?_); refine zbC (fun _ _ => ?_); refine zbY (fun _ _ => ?_); refine zb6 (fun _ _ => ?_)
                   refine GE.t0 9 za rfl rfl rfl (og_stE2 rfl rfl rfl zL rfl rfl rfl rfl (.succ (.succ (.succ (.succ (.zero (.cons .nil))))))) (fun _ _ => ?_); refine zcw ?_; refine zaO ?_; refine zfx ?_; refine G.backK (k + 1, us.set q (shelfAdd t.1 x b, va), vr) 0 (two_eq (congrArg (fun z => Ch.grp 3 1 z) (sub_set (by simp only [shelfAdd, List.map_append, List.map_cons, List.map_nil, icell]))) (congrArg (fun z => Ch.row vr 131 5 z) (by rw [List.set_set, List.set_set, List.set_set, List.set_set]; exact cells_set rfl))) (.cons rfl (.cons rfl (.cons rfl (.cons rfl (.nil))))) ?_ ?_ ?_
                   exact ⟨rfl, rfl, trivial⟩
                   exact ⟨hlt, by rw [foldl_take_succ hz, ← hM, hst, List.map_set]⟩
                   omega
               · try exact Bool.noConfusion hc
                 all_goals
                  replace hc := of_decide_eq_false hc
                  all_goals
                   obtain ⟨us, hus⟩ : ∃ y, y = ts := ⟨_, rfl⟩
                   obtain ⟨vr, hvr⟩ : ∃ y, y = v2 := ⟨_, rfl⟩
                   have hl1 : (us.map ShelfM.cells).length = q + 1 := by rw [hus]; omega
                   have htl : t.1.l.length ≤ 1048576 := hlb
                   have hst : pileStep (shelfRoom p) shelfAdd shelfZ (ts.map Prod.fst) (b, x) = (us.map Prod.fst).set q (shelfAdd t.1 x b) := by
                     rw [hus]; exact pile_room (fst_at htq) zW (by simp only [shelfRoom, Bool.and_eq_true, decide_eq_true_eq]; ((have hq9 := of_decide_eq_false hg; omega)))
                   subst hvr hus
                   all_goals
                    refine zbR ?_; refine zaM ?_; refine zeX ?_; refine zdn ?_; refine zdb ?_; refine G.v (rv_loadE rfl zj zm rfl) rfl ?_; refine zaC ?_; refine zaT (fun vl _ => ?_); refine G.op (og_appG2 rfl rfl rfl hgi ze rfl rfl zg zg) rfl (fun va _ => ?_)
                    skip; refine zfk (fun hova => ?_)
                    refine zdb ?_; refine G.op0 (og_stE3 rfl rfl rfl zm (cells_one zf) rfl (by repeat (first | rfl | refine one_cons zf ?_)) rfl (.zero (.cons .nil))) (fun _ _ => ?_); refine za1 ?_; refine G.seq ?_; refine zaV ?_; refine GE.q 3 rfl za rfl (qg_runs (rv_loadE rfl zG zJ rfl)) rfl ?_; refine zb8 (fun _ _ => ?_); refine zdg (fun _ _ => ?_); refine zbC (fun _ _ => ?_); refine zbY (fun _ _ => ?_); refine zb6 (fun _ _ => ?_)
                    refine zeM (fun _ _ => ?_); refine zby ?_; refine GE.q 4 rfl za rfl (qg_runs (rv_loadE rfl zG zw rfl)) rfl ?_; refine zdW (fun _ _ => ?_); refine GE.ol 6 za rfl rfl (og_runs (rv_load1 1 rfl rfl rfl)) rfl zd (fun _ _ => ?_); refine zdC (fun _ _ => ?_); refine zdr (fun _ _ => ?_); refine zdM (fun _ _ => ?_)
                    refine GE.t0 10 za rfl rfl rfl (og_stE3 rfl rfl rfl zw rfl rfl rfl rfl (.succ (.succ (.zero (.cons .nil))))) (fun _ _ => ?_); refine zby ?_; refine GE.q 4 rfl za rfl (qg_runs (rv_loadE rfl zG zy rfl)) rfl ?_; refine zdW (fun _ _ => ?_); refine GE.ol 6 za rfl rfl (og_runs (rv_load1 1 rfl rfl rfl)) rfl zd (fun _ _ => ?_); refine zdC (fun _ _ => ?_); refine zdr (fun _ _ => ?_); refine zdM (fun _ _ => ?_)
                    refine GE.t0 10 za rfl rfl rfl (og_stE3 rfl rfl rfl zy rfl rfl rfl rfl (.succ (.succ (.succ (.zero (.cons .nil)))))) (fun _ _ => ?_); refine zbj ?_; refine zaV ?_; refine GE.q 3 rfl za rfl (qg_runs (rv_loadE rfl zG zL rfl)) rfl ?_; refine zb8 (fun _ _ => ?_); refine zdg (fun _ _ => ?_); refine zbC (fun _ _ => ?_); refine zbY (fun _ _ => ?_); refine zb6 (fun _ _ => ?_)
                    refine GE.t0 9 za rfl rfl rfl (og_stE3 rfl rfl rfl zL rfl rfl rfl rfl (.succ (.succ (.succ (.succ (.zero (.cons .nil))))))) (fun _ _ => ?_); refine zcw ?_; refine zaO ?_; refine zfy ?_; refine G.backK (k + 1, us.set q (shelfAdd t.1 x b, va), vr) 0 (two_eq (congrArg (fun z => Ch.grp 3 1 z) (sub_set (by simp only [shelfAdd, List.map_append, List.map_cons, List.map_nil, icell]))) (congrArg (fun z => Ch.row vr 131 5 z) (by rw [List.set_set, List.set_set, List.set_set, List.set_set]; exact cells_set rfl))) (.cons rfl (.cons rfl (.cons rfl (.cons rfl (.nil))))) ?_ ?_ ?_
                    exact ⟨rfl, rfl, trivial⟩
                    exact ⟨hlt, by rw [foldl_take_succ hz, ← hM, hst, List.map_set]⟩
                    omega
          · all_goals
             replace hc := of_decide_eq_false hc
             simp only [List.length_map] at hc
             try (exfalso; omega)
             all_goals
              refine zce ?_; refine G.know (fun w hw => (Rd.owned 1 rfl w hw).one_) (fun hone => G.retF (v2, ts) ⟨hone, shelf_end (bnot_no hok) hM hlt⟩ rfl rfl rfl (fun w hw => hw.sublist (by repeat (first | exact List.Sublist.refl _ | refine List.Sublist.cons_cons _ ?_ | refine List.Sublist.cons _ ?_)))); done
theorem pile_new2 {M S : Type} {room : M → S → Bool} {add : M → Nat → S → M} {z : M} {out : List M} {s : S} {k : Nat} (h : ∀ t, out.getLast? = some t → room t s = false) : pileStep room add z out (s, k) = out ++ [add z k s] := by
  unfold pileStep
  split
  · rename_i t ht; rw [h t ht]; rfl
  · rfl
theorem add_row (t : ShelfM) (k : Nat) (b : BoxM) : [] ++ t.l.map icell ++ [[Value.int .i64 (k : Int)]] = (shelfAdd t k b).l.map icell := by simp [shelfAdd, icell]
theorem l10Add_any (t : ShelfM) {sv : Value} (k : Nat) (b : BoxM) (w : World) (hov : sv.oneCell' = true) (h : Rd w sv 1 (t.l.map icell)) (hl : t.l.length ≤ 1048576) (ht : 0 ≤ t.w ∧ t.w ≤ 2000 ∧ 0 ≤ t.g ∧ t.g ≤ 100000) (hb : 0 ≤ b.w ∧ b.w ≤ 2000 ∧ 0 ≤ b.g ∧ b.g ≤ 100000) :
    Fn Tryz.prog 167 [.agg [sv, .int .i64 t.w, .int .i64 t.d, .int .i64 t.h, .int .i64 t.g].toArray, .int .i64 (k : Int), b.val] w (fun v : Value => v.oneCell' = true) (fun v => .agg (ShelfM.cells (shelfAdd t k b, v)).toArray) (fun v => [.row v 3 1 ((shelfAdd t k b).l.map icell)]) := by
  have hln : (t.l.map icell).length = t.l.length := by simp
  refine Fn.of (n := 35) Tryz.func167 rfl rfl ?_; refine zaJ (fun bk3 _ => ?_); refine zcs (fun bk5 _ => ?_); refine zbn (fun bk6 _ => ?_); refine za1 ?_; refine G.seq (G.drawL [28] ?_); refine GE.q 1 rfl za rfl (qg_runs (rv_field rfl)) rfl ?_; refine GE.q 2 rfl za rfl (qg_runs (rv_load1 2 rfl rfl rfl)) rfl ?_; refine zbI ?_; refine GE.q 7 rfl za rfl (qg_runs (rv_field rfl)) rfl ?_; refine GE.q 8 rfl za rfl (qg_runs (rv_load1 2 rfl rfl rfl)) rfl ?_; refine zeQ ?_; refine GE.q 10 rfl za rfl (qg_runs (rv_load1 1 rfl rfl rfl)) rfl ?_; refine zfl ?_; refine GE.q 12 rfl za rfl (qg_runs (rv_field rfl)) rfl ?_; refine GE.q 13 rfl za rfl (qg_runs (rv_load1 2 rfl rfl rfl)) rfl ?_; refine GE.q 14 rfl za rfl (qg_runs (rv_field rfl)) rfl ?_; refine GE.q 15 rfl za rfl (qg_runs (rv_load1 1 rfl rfl rfl)) rfl ?_
  refine GE.q 17 rfl za rfl (qg_runs (rv_field rfl)) rfl ?_; refine GE.q 18 rfl za rfl (qg_runs (rv_load1 2 rfl rfl rfl)) rfl ?_; refine GE.q 19 rfl za rfl (qg_runs (rv_field rfl)) rfl ?_; refine GE.q 20 rfl za rfl (qg_runs (rv_load1 1 rfl rfl rfl)) rfl ?_; refine GE.q 22 rfl za rfl (qg_runs (rv_field rfl)) rfl ?_; refine GE.q 23 rfl za rfl (qg_runs (rv_load1 2 rfl rfl rfl)) rfl ?_; refine GE.q 24 rfl za rfl (qg_runs (rv_field rfl)) rfl ?_; refine GE.q 25 rfl za rfl (qg_runs (rv_load1 1 rfl rfl rfl)) rfl ?_; refine GE.q 26 rfl za rfl (qg_runs (rv_addB rfl rfl zc zc)) rfl ?_; refine GE.any (rs := [0, 5]) za zC ?_; refine List.forall_mem_cons.2 ⟨?_, List.forall_mem_cons.2 ⟨?_, fun _ h => absurd h List.not_mem_nil⟩⟩
  focus
   refine zcV (fun vl _ => ?_); refine GE.any (rs := [3, 5]) za zC ?_; refine List.forall_mem_cons.2 ⟨?_, List.forall_mem_cons.2 ⟨?_, fun _ h => absurd h List.not_mem_nil⟩⟩
   focus
    refine GE.pickOp rfl rfl rfl (og_app0 rfl rfl rfl zb rfl rfl zg zg) rfl zk (fun va _ => ?_); refine GE.ol 5 za rfl rfl (og_lit rfl (.cons rfl .nil) rfl rfl rfl rfl rfl rfl) rfl zh (fun vl _ => ?_); refine GE.ol 6 za rfl rfl (og_app1 rfl rfl rfl ze rfl rfl zg zg) rfl zh (fun va _ => ?_)
    skip; refine zck (fun hova => ?_)
    refine zfL (fun _ _ => ?_); refine zfM (fun _ _ => ?_); refine zbx (fun _ _ => ?_); refine GE.t0 28 za rfl rfl rfl (og_st2 rfl rfl rfl rfl rfl (by repeat (first | rfl | refine one_cons zf ?_)) (.zero (.cons (.cons (.cons (.cons (.cons .nil))))))) (fun _ _ => ?_); refine zcw ?_
   rotate_left
   focus
    refine zb2 (fun vl _ => ?_); refine GE.ol 3 za rfl rfl (og_app1 rfl rfl rfl zb rfl rfl zg zg) rfl zh (fun va _ => ?_); refine GE.ol 6 za rfl rfl (og_app1 rfl rfl rfl ze rfl rfl zg zg) rfl zh (fun va _ => ?_)
    skip; refine zck (fun hova => ?_)
    refine zfL (fun _ _ => ?_); refine zfM (fun _ _ => ?_); refine zbx (fun _ _ => ?_); refine GE.t0 28 za rfl rfl rfl (og_st2 rfl rfl rfl rfl rfl (by repeat (first | rfl | refine one_cons zf ?_)) (.zero (.cons (.cons (.cons (.cons (.cons .nil))))))) (fun _ _ => ?_); refine zcw ?_
   rotate_left
  rotate_left 2
  focus
   refine zcn (fun vl _ => ?_); refine GE.ol 0 za rfl rfl (og_lit rfl .nil rfl rfl rfl rfl rfl rfl) rfl zh (fun vl _ => ?_); refine GE.ol 3 za rfl rfl (og_app0 rfl rfl rfl zb rfl rfl zg zg) rfl zh (fun va _ => ?_); refine GE.ol 6 za rfl rfl (og_app0 rfl rfl rfl zi rfl rfl zg zg) rfl zh (fun va _ => ?_)
   skip; refine zd9 (fun hova => ?_)
   refine zfL (fun _ _ => ?_); refine zfM (fun _ _ => ?_); refine zbx (fun _ _ => ?_); refine GE.t0 28 za rfl rfl rfl (og_st2 rfl rfl rfl rfl rfl (by repeat (first | rfl | refine one_cons zf ?_)) (.zero (.cons (.cons (.cons (.cons (.cons .nil))))))) (fun _ _ => ?_); refine zcw ?_
  rotate_left
  all_goals
   refine G.thenN (G.ret ?_)
   exact G.retFc va hova 2 rfl rfl rfl rfl rfl (fun w hw => by rw [add_row t k b] at hw; exact hw.sublist (by repeat (first | exact List.Sublist.refl _ | refine List.Sublist.cons_cons _ ?_ | refine List.Sublist.cons _ ?_)))
theorem specShelves_any (p : PalletM) {v : Value} {l : List BoxM} (w : World) (h : Rd w v 4 (l.map BoxM.cells)) (hb : l.length ≤ 1048576) :
    Fn Tryz.prog 107 [p.val, v] w (fun x : Value × List (ShelfM × Value) => x.1.oneCell' = true ∧ x.2.map Prod.fst = shelvesM p l) (fun x => x.1) (fun x => [.grp 3 1 (x.2.map (sub ShelfM.l)), .row x.1 131 5 (x.2.map ShelfM.cells)]) := by
  have pile_lens : ∀ (xs : List (BoxM × Nat)) (k : Nat), ∀ t ∈ (xs.take k).foldl (pileStep (shelfRoom p) shelfAdd shelfZ) [], t.l.length ≤ k := fun xs k => shelf_lens xs k
  have hln : (l.map BoxM.cells).length = l.length := by simp
  have hlk0 : (l.map BoxM.d).length = l.length := by simp
  refine Fn.of (n := 106) Tryz.func107 rfl rfl ?_; refine zaJ (fun bk2 _ => ?_); refine zba ?_; refine G.region ?_; refine zcL (fun vl _ => ?_)
  obtain ⟨vs, hvs⟩ : ∃ y, y = vl := ⟨_, rfl⟩
  subst hvs
  refine zba ?_; refine G.seq ?_; refine zbF ?_; refine zaC ?_; refine G.op (og_callV rfl rfl (fun w hh => sboxesOk_any _ w zx)) rfl (fun _ _ => ?_); refine zcl ?_; refine G.cond rfl (fun hc => ?_) (fun hc => ?_); refine za9 ?_; refine G.thenR ?_; refine zbP (fun hovl => ?_); exact G.retF (vs, []) ⟨hovl, by rw [shelf_no zr]; rfl⟩ rfl rfl rfl (fun w hw => (hw.sublist (by repeat (first | exact List.Sublist.refl _ | refine List.Sublist.cons_cons _ ?_ | refine List.Sublist.cons _ ?_)) : HeapOk _ w [.row vs 131 5 []]).nilGrp _ _)
  · refine G.skip ?_
    refine G.thenN ?_; refine zaW (fun vl _ => ?_); refine zdR ?_
    have hok := hc
    have hpp := pallet_in (palletOk_of hc)
    refine G.loopK (ι := Nat × Value) (ks := [1, 2, 5]) (fun x => [(6, x.2), (7, .int .i64 (x.1 : Int))]) (fun x => [.row x.2 3 1 (((l.take x.1).map BoxM.d).map icell)]) (fun x => x.1 ≤ l.length) (fun x => l.length - x.1) (0, vl) (.cons rfl (.cons rfl (.cons rfl (.nil)))) rfl ?_ ?_ ?_
    exact Nat.zero_le _
    exact ⟨rfl, rfl, trivial⟩
    rintro ⟨k0, v0⟩ hk0
    dsimp only at hk0 ⊢
    have hl9 : (((l.take k0).map BoxM.d).map icell).length = k0 := by (simp; omega)
    by_cases hlt0 : k0 < l.length
    case' pos => (obtain ⟨b, hb2⟩ := get_of_lt hlt0; have heb := get_map hb2 BoxM.cells)
    case' neg => (have hkall : ((l.take k0).map BoxM.d).map icell = (l.map BoxM.d).map icell := (by rw [List.take_of_length_le zc]))
    all_goals
     refine zbv ?_; refine G.cond rfl (fun hc => ?_) (fun hc => ?_)
     · all_goals
        replace hc := of_decide_eq_true hc
        simp only [List.length_map] at hc
        try (exfalso; omega)
        all_goals
         refine zaQ ?_; refine zcZ ?_; refine G.v (rv_indexH rfl rfl zb rfl zS) rfl ?_; refine zbq ?_; refine G.v (rv_loadE rfl zb zS rfl) rfl ?_; refine zaT (fun vl _ => ?_); refine zbG (fun va _ => ?_); refine zeC ?_; refine G.backK (k0 + 1, va) 1 (one_eq (congrArg (fun z => Ch.row va 3 1 z) (dsnoc hb2))) (.cons rfl (.cons rfl (.cons rfl (.nil)))) ?_ ?_ ?_
         exact ⟨rfl, rfl, trivial⟩
         dsimp only; omega
         dsimp only; omega
     · all_goals
        replace hc := of_decide_eq_false hc
        simp only [List.length_map] at hc
        try (exfalso; omega)
        all_goals
         refine zaL ?_; refine zaD ?_
         first | (refine G.op (og_callF1 rfl rfl (fun w hh => ssortDown_any (ks := l.map BoxM.d) w zo zc)) rfl ?_; rintro vo hvo; try dsimp only) | (refine G.op (og_callF2 rfl rfl (fun w hh => ssortDown_any (ks := l.map BoxM.d) w zo zc)) rfl ?_; rintro vo hvo; try dsimp only) | (refine G.op (og_callF3 rfl rfl (fun w hh => ssortDown_any (ks := l.map BoxM.d) w zo zc)) rfl ?_; rintro vo hvo; try dsimp only) | (refine G.op (og_callF0 rfl rfl (fun w hh => ssortDown_any (ks := l.map BoxM.d) w zo zc)) rfl ?_; rintro vo hvo; try dsimp only) | (refine G.op (og_callF rfl rfl (fun w hh => ssortDown_any (ks := l.map BoxM.d) w zo zc)) rfl ?_; rintro vo hvo; try dsimp only)
         refine zdR ?_; refine G.frontR2 vs rfl ?_; refine zb5 ?_
         have hoL := ordM_len (keyM (l.map BoxM.d)) l.length
         have hol2 : ((ordM (keyM (l.map BoxM.d)) (l.map BoxM.d).length).map ncell).length = l.length := by rw [List.length_map, ordM_len, hlk0]
         refine G.loopK (ι := Nat × List (ShelfM × Value) × Value) (ks := [1, 2, 8]) (fun x => [(5, x.2.2), (9, .int .i64 (x.1 : Int))]) (fun x => [.grp 3 1 (x.2.1.map (sub ShelfM.l)), .row x.2.2 131 5 (x.2.1.map ShelfM.cells)]) (fun x => x.1 ≤ l.length ∧ x.2.1.map Prod.fst = ((shelfXs l).take x.1).foldl (pileStep (shelfRoom p) shelfAdd shelfZ) []) (fun x => l.length - x.1) (0, [], vs) (.cons rfl (.cons rfl (.cons rfl (.nil)))) rfl ?_ ?_ ?_
         exact ⟨Nat.zero_le _, rfl⟩
         exact ⟨rfl, rfl, trivial⟩
         rintro ⟨k, ts, v2⟩ ⟨hk, hM⟩
         dsimp only at hk hM ⊢
         by_cases hlt : k < l.length
         case' pos => (obtain ⟨x, hx⟩ := get_of_lt (l := ordM (keyM (l.map BoxM.d)) l.length) (k := k) zc; have hxl : x < l.length := ordM_mem.1 (List.mem_of_getElem? hx); have heo : ((ordM (keyM (l.map BoxM.d)) (l.map BoxM.d).length).map ncell)[k]? = some (ncell x) := get_map (by rw [hlk0]; exact hx) ncell; obtain ⟨b, hb2⟩ := get_of_lt hxl; have heb := get_map hb2 BoxM.cells; have hobb := box_in (ok_at hok hb2).2; have hz := xs_get hx hb2; have hl0 : (ts.map ShelfM.cells).length = ts.length := zC; have hlk : ts.length ≤ k := (by (have := pile_len (room := shelfRoom p) (add := shelfAdd) (z := shelfZ) ((shelfXs l).take k) []; rw [← hM] at this; simp only [List.length_map, List.length_nil, List.length_take] at this; omega)); rcases nil_or_snoc ts with hts | ⟨tp, t, hts⟩; have hn0 : ts.length = 0 := (by rw [hts]; rfl); rotate_left; have hn1 : ts.length = tp.length + 1 := zaq; obtain ⟨q, hq⟩ : ∃ y, y = tp.length := ⟨_, rfl⟩; have htq : ts[q]? = some t := z8; have he := get_map htq ShelfM.cells; have hgi : (ts.map (sub ShelfM.l))[q]? = some (t.2, t.1.l.map icell) := get_mapS htq; have hbt : 0 ≤ t.1.w ∧ t.1.w ≤ p.w ∧ 0 ≤ t.1.d ∧ t.1.d ≤ p.d ∧ 0 ≤ t.1.h ∧ t.1.h ≤ p.h ∧ 0 ≤ t.1.g ∧ t.1.g ≤ p.g := (by (have := shelf_bd (p := p) (l := l) (bnot_no hok) k; rw [← hM] at this; exact this t.1 (List.mem_map.2 ⟨t, List.mem_of_getElem? htq, rfl⟩))); refine zcS (fun hov2 => ?_); have hlb : t.1.l.length ≤ 1048576 := (by (have := pile_lens (shelfXs l) k; rw [← hM] at this; have := this t.1 (List.mem_map.2 ⟨t, List.mem_of_getElem? htq, rfl⟩); omega)))
         all_goals
          refine zcT ?_; refine zdm ?_; refine zaI ?_; refine G.cond rfl (fun hc => ?_) (fun hc => ?_)
          · all_goals
             replace hc := of_decide_eq_true hc
             simp only [List.length_map] at hc
             try (exfalso; omega)
             all_goals
              refine zaQ ?_; refine zca ?_; refine zdy ?_; refine zb1 (fun bk10 _ => ?_); refine zb0 (fun _ _ => ?_); refine za1 ?_; refine zaD ?_; refine zdm ?_; refine zba ?_; refine zcm (fun _ _ => ?_); refine GE.ol 1 za rfl rfl (og_runs (rv_gtr rfl rfl)) rfl zd (fun _ _ => ?_); refine zb9 (fun _ _ => ?_)
              all_goals (((with_reducible refine GE.part (t := 52) rfl (fun hg => ?_) (fun hg => ?_)) <;> (try exact Bool.noConfusion hg) <;> (try (exfalso; first | (have hq := of_decide_eq_false hg; omega) | (have hq := of_decide_eq_true hg; omega); done)) <;> (first | refine zbN ?_ | refine zfp ?_)))
              all_goals ((first | refine zbI ?_ | refine zen ?_))
              all_goals ((first | (refine zfu ?_) | refine zeo ?_))
              all_goals ((first | (refine zem ?_) | refine zep ?_))
              all_goals ((first | (refine GE.q 7 rfl za rfl (qg_runs (rv_fieldE rfl)) rfl ?_) | refine zeq ?_))
              all_goals ((first | refine GE.q 8 rfl za rfl (qg_runs (rv_loadE rfl zv zQ rfl)) rfl ?_ | refine zdS ?_))
              all_goals ((first | (refine zeQ ?_) | refine zdT ?_))
              all_goals ((first | (refine zfe ?_) | refine zdw ?_))
              all_goals ((first | (refine zfl ?_) | refine zdl ?_))
              all_goals ((first | (refine GE.q 12 rfl za rfl (qg_runs (rv_field rfl)) rfl ?_) | refine zdc ?_))
              all_goals ((first | (refine GE.q 13 rfl za rfl (qg_runs (rv_load1 5 rfl rfl rfl)) rfl ?_) | refine zdd ?_))
              all_goals ((first | refine GE.q 14 rfl za rfl (qg_runs (rv_leq rfl rfl)) rfl ?_ | refine zei ?_))
              all_goals ((first | refine zef (fun _ _ => ?_) | refine zeg (fun _ _ => ?_)))
              all_goals (refine zex (fun _ _ => ?_))
              all_goals (((with_reducible refine GE.part (t := 66) rfl (fun hg => ?_) (fun hg => ?_)) <;> (try exact Bool.noConfusion hg) <;> (try (exfalso; (have hq := of_decide_eq_false hg; omega))) <;> (first | refine zc1 ?_ | refine zd5 ?_)))
              all_goals ((first | refine GE.q 18 rfl za rfl (qg_runs (rv_move rfl)) rfl ?_ | refine ze4 ?_))
              all_goals ((first | (refine GE.q 19 rfl za rfl (qg_runs (rv_decr rfl rfl zc zc)) rfl ?_) | refine zfB ?_))
              all_goals ((first | (refine GE.q 20 rfl za rfl (qg_runs (rv_indexH (k := q) rfl rfl zj zc zm)) rfl ?_) | refine zeZ ?_))
              all_goals ((first | (refine GE.q 21 rfl za rfl (qg_runs (rv_fieldE rfl)) rfl ?_) | refine ze0 ?_))
              all_goals ((first | refine GE.q 22 rfl za rfl (qg_runs (rv_loadE rfl zv zQ rfl)) rfl ?_ | refine ze1 ?_))
              all_goals ((first | (refine GE.q 23 rfl za rfl (qg_runs (rv_field rfl)) rfl ?_) | refine ze2 ?_))
              all_goals ((first | (refine GE.q 24 rfl za rfl (qg_runs (rv_load1 0 rfl rfl rfl)) rfl ?_) | refine GE.qn 24 rfl za rfl rfl ?_))
              all_goals ((first | (refine GE.q 25 rfl za rfl (qg_runs (rv_addB rfl rfl zc zc)) rfl ?_) | refine GE.qn 25 rfl za rfl rfl ?_))
              all_goals ((first | (refine zeI ?_) | refine ze3 ?_))
              all_goals ((first | (refine GE.q 27 rfl za rfl (qg_runs (rv_load1 5 rfl rfl rfl)) rfl ?_) | refine GE.qn 27 rfl za rfl rfl ?_))
              all_goals ((first | refine GE.q 28 rfl za rfl (qg_runs (rv_leq rfl rfl)) rfl ?_ | refine GE.qn 28 rfl za rfl rfl ?_))
              all_goals ((first | refine GE.ol 29 za rfl rfl (og_runs (rv_pickT rfl rfl)) rfl zd (fun _ _ => ?_) | refine GE.ol 29 za rfl rfl (og_runs (rv_pickF rfl rfl)) rfl zd (fun _ _ => ?_)))
              all_goals
               refine zbj ?_; refine G.cond rfl (fun hc => ?_) (fun hc => ?_)
               · try exact Bool.noConfusion hc
                 all_goals
                  replace hc := of_decide_eq_true hc
                  all_goals
                   obtain ⟨us, hus⟩ : ∃ y, y = ts := ⟨_, rfl⟩
                   obtain ⟨vr, hvr⟩ : ∃ y, y = v2 := ⟨_, rfl⟩
                   have hl1 : (us.map ShelfM.cells).length = q + 1 := by rw [hus]; omega
                   have hst : pileStep (shelfRoom p) shelfAdd shelfZ (ts.map Prod.fst) (b, x) = (us.map Prod.fst).set q (shelfAdd t.1 x b) := by
                     rw [hus]; exact pile_room (fst_at htq) zW (by simp only [shelfRoom, Bool.and_eq_true, decide_eq_true_eq]; ((have hq9 := of_decide_eq_true hg; omega)))
                   subst hvr hus
                   all_goals
                    refine G.drawL [14, 15] ?_; refine zaR ?_; refine GE.q 2 rfl za rfl (qg_runs (rv_decr rfl rfl zc zc)) rfl ?_; refine zbN ?_; refine zbI ?_; refine zfu ?_; refine zem ?_; refine GE.q 7 rfl za rfl (qg_runs (rv_loadEW rfl zj zm rfl)) rfl ?_; refine zeV ?_; refine GE.q 9 rfl za rfl (qg_runs (rv_move rfl)) rfl ?_; refine GE.q 10 rfl za rfl (qg_runs (rv_indexH rfl rfl zG rfl zaj)) rfl ?_; refine GE.q 11 rfl za rfl (qg_runs (rv_loadE rfl zG zaj rfl)) rfl ?_; refine GE.ol 12 za rfl rfl (og_runs (rv_loadW 0 rfl rfl rfl)) rfl zd (fun _ _ => ?_)
                    refine GE.ol 13 za rfl rfl (og_callF1 rfl rfl (fun w hh => l10Add_any t.1 x b w hov2 (by exact Rd.grp 1 rfl (List.mem_of_getElem? hgi) _ hh) hlb zc zc)) rfl zk ?_; rintro vn hvn; try dsimp only
                    refine GE.t 14 za rfl rfl rfl (og_runs (rv_indexH (k := q) rfl rfl zG zc zm)) rfl (fun _ _ => ?_); refine GE.t0 15 za rfl rfl rfl (og_stE3 rfl rfl rfl zm rfl rfl (by repeat (first | rfl | refine one_cons zf ?_)) rfl (.zero (.cons (.cons (.cons (.cons (.cons .nil))))))) (fun _ _ => ?_); refine zcw ?_; refine zaE ?_
                    (refine G.frontR3 vr rfl ?_); (refine G.frontG3 _ rfl ?_); (refine G.frontR2 vn rfl ?_); refine G.swapRow ((us.set q (shelfAdd t.1 x b, vn)).map (sub ShelfM.l)) hgi (sub_set rfl) rfl ?_
                    refine G.keep2 1 rfl ?_; refine G.backK (k + 1, us.set q (shelfAdd t.1 x b, vn), vr) 0 (by exact two_eq rfl (congrArg (fun z => Ch.row vr 131 5 z) (cells_set rfl))) (.cons rfl (.cons rfl (.cons rfl (.nil)))) ?_ ?_ ?_
                    exact ⟨rfl, rfl, trivial⟩
                    exact ⟨hlt, by rw [foldl_take_succ hz, ← hM, hst, List.map_set]⟩
                    omega
               · all_goals
                  try replace hc := of_decide_eq_false hc
                  try simp only [List.length_map] at hc
                  all_goals
                   have hst2 : pileStep (shelfRoom p) shelfAdd shelfZ (ts.map Prod.fst) (b, x) = ts.map Prod.fst ++ [shelfAdd shelfZ x b] := by
                     exact pile_new2 (room := shelfRoom p) (add := shelfAdd) (z := shelfZ) (out := ts.map Prod.fst) (s := b) (k := x) (by intro t2 ht2; first | (rw [hts] at ht2; simp at ht2; done) | (rw [last_of hts] at ht2; obtain rfl := Option.some.inj ht2; simp only [shelfRoom, Bool.and_eq_false_iff, decide_eq_false_iff_not]; (first | (have hq9 := of_decide_eq_false hg; omega) | omega)))
                   all_goals
                    refine G.frontR2 v2 rfl ?_; refine G.drawD1 [10] rfl ?_; refine zd1 ?_; refine GE.q2 1 rfl za rfl (qg_runs (rv_build2 rfl .nil .nil)) zn rfl ?_; refine GE.q2 2 rfl za rfl (qg_runs (rv_move rfl)) zn rfl ?_; refine GE.q2 3 rfl za rfl (qg_runs (rv_move rfl)) zn rfl ?_; refine GE.q2 4 rfl za rfl (qg_runs (rv_indexH rfl rfl zj rfl zaj)) zn rfl ?_; refine GE.q2 5 rfl za rfl (qg_runs (rv_loadE rfl zj zaj rfl)) zn rfl ?_; refine GE.ol 6 za rfl rfl (og_runs (rv_loadW 1 rfl rfl rfl)) rfl zk (fun _ _ => ?_); refine GE.ol 7 za rfl rfl (og_callF1 rfl rfl (fun w hh => l10Add_any shelfZ x b w rfl (Rd.nil_ _ _) (Nat.zero_le _) (by dsimp only [shelfZ]; omega) zc)) rfl zh ?_; rintro vn hvn; try dsimp only
                    refine GE.ol 8 za rfl rfl (og_lit rfl (.cons rfl .nil) (by (simp only [List.all_cons, List.all_nil, Bool.and_true, Bool.and_eq_true]; refine ⟨rfl, ?_⟩; (repeat (first | rfl | refine one_cons zf ?_)))) rfl rfl rfl rfl rfl) rfl zl (fun vl _ => ?_); refine GE.ol 9 za rfl rfl (og_app2 rfl rfl rfl ze rfl rfl zg zg) rfl zl (fun va _ => ?_); refine GE.t 10 za rfl rfl rfl (og_runs (rv_assign rfl)) rfl (fun _ _ => ?_); refine zcw ?_; refine zaE ?_
                    (refine G.frontR2 va rfl ?_); (refine G.frontG4 _ rfl ?_); (refine G.frontR3 vn rfl ?_); refine G.pushRow ((ts ++ [(shelfAdd shelfZ x b, vn)]).map (sub ShelfM.l)) zY rfl ?_
                    refine G.keep2 2 rfl ?_; refine G.backK (k + 1, ts ++ [(shelfAdd shelfZ x b, vn)], va) 0 (by (exact two_eq rfl (congrArg (fun z => Ch.row va 131 5 z) zY))) (.cons rfl (.cons rfl (.cons rfl (.nil)))) ?_ ?_ ?_
                    exact ⟨rfl, rfl, trivial⟩
                    exact ⟨hlt, by rw [foldl_take_succ hz, ← hM, hst2, List.map_append]; rfl⟩
                    omega
          · all_goals
             replace hc := of_decide_eq_false hc
             simp only [List.length_map] at hc
             try (exfalso; omega)
             all_goals
              refine zce ?_; refine G.know (fun w hw => (Rd.owned 1 rfl w hw).one_) (fun hone => G.retF (v2, ts) ⟨hone, shelf_end (bnot_no hok) hM hlt⟩ rfl rfl rfl (fun w hw => hw.sublist (by repeat (first | exact List.Sublist.refl _ | refine List.Sublist.cons_cons _ ?_ | refine List.Sublist.cons _ ?_)))); done
end Go.Proofs.YtglpgohilfoecaaGreat

/-
  What piles keep: their order, their need, their sums. No program is in sight here.
-/
namespace Go.Proofs.YtglpgohilfoecaaGreat
open Go.RowKit
section
variable {M S : Type} {room : M → S → Bool} {add : M → Nat → S → M} {z : M} (f : M → List Int) (hz : f z = []) (ha : ∀ t k s, f (add t k s) = f t ++ [(k : Int)])
include hz ha
theorem step_flat (out : List M) (x : S × Nat) : ((pileStep room add z out x).map f).flatten = (out.map f).flatten ++ [(x.2 : Int)] := by
  rcases List.eq_nil_or_concat out with h | ⟨o, t, h⟩
  · subst h; simp [pileStep, ha, hz]
  · rw [List.concat_eq_append] at h
    subst h
    unfold pileStep
    simp only [List.getLast?_concat]
    split
    · rw [List.length_append, List.length_singleton, Nat.add_sub_cancel, List.set_append_right _ _ (Nat.le_refl _), Nat.sub_self, List.set_cons_zero]
      simp [ha]
    · simp [ha, hz]
theorem pile_flat : ∀ (xs : List (S × Nat)) (out : List M), ((xs.foldl (pileStep room add z) out).map f).flatten = (out.map f).flatten ++ xs.map fun x => (x.2 : Int)
  | [], out => by simp
  | x :: r, out => by rw [List.foldl_cons, pile_flat r, step_flat f hz ha]; simp
end
/-! ### Shelves -/
def wAt (l : List BoxM) (n : Int) : Int := (boxAt l n.toNat).w
def gAt (l : List BoxM) (n : Int) : Int := (boxAt l n.toNat).g
structure ShOk (p : PalletM) (l : List BoxM) (t : ShelfM) : Prop where
  at_ : ∀ n ∈ t.l, ∃ j : Nat, n = (j : Int) ∧ j < l.length ∧ (boxAt l j).d ≤ t.d ∧ (boxAt l j).h ≤ t.h
  ws : (t.l.map (wAt l)).sum = t.w
  gs : (t.l.map (gAt l)).sum = t.g
  wb : t.w ≤ p.w
  gb : t.g ≤ p.g
theorem shOk_add {p : PalletM} {l : List BoxM} {t : ShelfM} {x : BoxM × Nat} (hx : l[x.2]? = some x.1) (h : ∀ n ∈ t.l, ∃ j : Nat, n = (j : Int) ∧ j < l.length ∧ (boxAt l j).d ≤ t.d ∧ (boxAt l j).h ≤ t.h) (hw : (t.l.map (wAt l)).sum = t.w) (hg : (t.l.map (gAt l)).sum = t.g) (h1 : t.w + x.1.w ≤ p.w) (h2 : t.g + x.1.g ≤ p.g) : ShOk p l (shelfAdd t x.2 x.1) := by
  have hlt : x.2 < l.length := by
    rcases Nat.lt_or_ge x.2 l.length with h | h
    · exact h
    · rw [List.getElem?_eq_none h] at hx; cases hx
  have hb := boxAt_get hx
  refine ⟨fun n hn => ?_, ?_, ?_, h1, h2⟩
  · simp only [shelfAdd] at hn ⊢
    rcases List.mem_append.1 hn with hn | hn
    · obtain ⟨j, e, j1, j2, j3⟩ := h n hn
      exact ⟨j, e, j1, by omega, by omega⟩
    · exact ⟨x.2, List.mem_singleton.1 hn, hlt, by rw [hb]; omega, by rw [hb]; omega⟩
  · simp only [shelfAdd, List.map_append, List.sum_append, List.map_cons, List.map_nil, List.sum_cons, List.sum_nil, hw, wAt, Int.toNat_natCast, hb]; omega
  · simp only [shelfAdd, List.map_append, List.sum_append, List.map_cons, List.map_nil, List.sum_cons, List.sum_nil, hg, gAt, Int.toNat_natCast, hb]; omega
theorem shelf_ok {p : PalletM} {l : List BoxM} (hok : boxesOkM p l = true) : ∀ t ∈ shelvesM p l, ShOk p l t := by
  rw [shelvesM, if_pos hok]
  refine pile_inv (P := ShOk p l) _ _ (fun x hx => ?_) zC
  have hx' := xs_mem hx
  have hm : x.1 ∈ l := List.mem_of_getElem? hx'
  simp only [boxesOkM, Bool.and_eq_true, List.all_eq_true] at hok
  have hh := box_in (hok.2 x.1 hm)
  refine ⟨shOk_add hx' (by simp [shelfZ]) (by simp [shelfZ]) (by simp [shelfZ]) (by simp only [shelfZ]; omega) (by simp only [shelfZ]; omega), fun t ht hr => ?_⟩
  simp only [shelfRoom, Bool.and_eq_true, decide_eq_true_eq] at hr
  exact shOk_add hx' ht.at_ ht.ws ht.gs hr.1 hr.2
structure Dsc (l : List BoxM) (out : List ShelfM) (xs : List (BoxM × Nat)) : Prop where
  pw : out.Pairwise fun s t => t.d ≤ s.d
  nx : ∀ t ∈ out, ∀ x ∈ xs, x.1.d ≤ t.d
  hd : ∀ t ∈ out, ∃ j : Nat, t.l[0]? = some (j : Int) ∧ t.d = (boxAt l j).d
theorem lay_ok {p : PalletM} {ss : List ShelfM} (hok : shelvesOkM p ss = true) : ∀ t ∈ layersM p ss, 1 ≤ t.d ∧ t.d ≤ p.d ∧ 1 ≤ t.h ∧ t.h ≤ p.h ∧ 1 ≤ t.g ∧ t.g ≤ p.g := by
  rw [layersM, if_pos hok]
  refine pile_inv _ _ (fun x hx => ?_) zC
  have hx' : x.1 ∈ ss := (List.mem_zipIdx' hx).2 ▸ List.getElem_mem _
  simp only [shelvesOkM, Bool.and_eq_true, List.all_eq_true] at hok
  have hh := heap_in (hok.2 x.1 hx')
  refine ⟨by simp only [layAdd, layZ]; omega, fun t ht hr => ?_⟩
  simp only [layRoom, Bool.and_eq_true, decide_eq_true_eq] at hr
  simp only [layAdd]; omega
theorem lay_stacks {p : PalletM} {ss : List ShelfM} (hok : shelvesOkM p ss = true) : stacksOkM p (layersM p ss) = true := by
  have hp : palletOkM p = true := by simp only [shelvesOkM, Bool.and_eq_true] at hok; exact hok.1
  simp only [stacksOkM, Bool.and_eq_true, List.all_eq_true]
  refine ⟨hp, fun t ht => ?_⟩
  have := lay_ok hok t ht
  simp only [heapOkM, inB, Bool.and_eq_true, decide_eq_true_eq]; omega
theorem zip_snd {α : Type} (l : List α) : (l.zipIdx.map fun x => (x.2 : Int)) = (List.range l.length).map fun (j : Nat) => (j : Int) := by
  have : l.zipIdx.map Prod.snd = List.range l.length := by rw [List.zipIdx_map_snd, List.range_eq_range']
  rw [← this, List.map_map]; rfl
theorem lay_flat {p : PalletM} {ss : List ShelfM} (hok : shelvesOkM p ss = true) : ((layersM p ss).map LayerM.l).flatten = (List.range ss.length).map fun (j : Nat) => (j : Int) := by
  rw [layersM, if_pos hok, pile, pile_flat LayerM.l rfl (fun _ _ _ => rfl), zip_snd]; simp
theorem load_flat {p : PalletM} {ss : List LayerM} (hok : stacksOkM p ss = true) : ((loadsM p ss).map LoadM.l).flatten = (List.range ss.length).map fun (j : Nat) => (j : Int) := by
  rw [loadsM, if_pos hok, pile, pile_flat LoadM.l rfl (fun _ _ _ => rfl), zip_snd]; simp
section
variable {M : Type} {f : M → List Int} {m : List M} {i k N : Nat} {t : M} {x : Int}
def offM (f : M → List Int) (m : List M) (i : Nat) : Nat := ((m.take i).map f).flatten.length
theorem off_at (h : (m.map f).flatten = (List.range N).map fun (j : Nat) => (j : Int)) (ht : m[i]? = some t) (hx : (f t)[k]? = some x) : x = ((offM f m i + k : Nat) : Int) ∧ offM f m i + k < N := by
  have hi : i < m.length := by
    rcases Nat.lt_or_ge i m.length with h1 | h1
    · exact h1
    · rw [List.getElem?_eq_none h1] at ht; cases ht
  have e : (m.map f).flatten = ((m.take i).map f).flatten ++ (f t ++ ((m.drop (i + 1)).map f).flatten) := by
    have e2 : m = m.take i ++ t :: m.drop (i + 1) := by
      rw [List.getElem?_eq_getElem hi] at ht
      conv => lhs; rw [← List.take_append_drop i m, List.drop_eq_getElem_cons hi]
      rw [Option.some.inj ht]
    conv => lhs; rw [e2]
    simp
  have hk : k < (f t).length := by
    rcases Nat.lt_or_ge k (f t).length with h1 | h1
    · exact h1
    · rw [List.getElem?_eq_none h1] at hx; cases hx
  have hz : (m.map f).flatten[offM f m i + k]? = some x := by
    rw [e, List.getElem?_append_right (by unfold offM; omega), show offM f m i + k - ((m.take i).map f).flatten.length = k from by unfold offM; omega, List.getElem?_append_left hk]
    exact hx
  rw [h] at hz
  have hN : offM f m i + k < N := by
    rcases Nat.lt_or_ge (offM f m i + k) N with h1 | h1
    · exact h1
    · rw [List.getElem?_eq_none (by simpa using h1)] at hz; cases hz
  rw [List.getElem?_map, List.getElem?_range hN] at hz
  exact ⟨(Option.some.inj hz).symm, hN⟩
end
def shAt (ss : List ShelfM) (n : Int) : ShelfM := ss.getD n.toNat shelfZ
def lyAt (ls : List LayerM) (n : Int) : LayerM := ls.getD n.toNat layZ
def boxStep (l : List BoxM) (o y z : Int) (st : List SpotM × Int) (b : Int) : List SpotM × Int := (st.1.set b.toNat ⟨o, st.2, y, z⟩, IntKind.i64.wrap (st.2 + (boxAt l b.toNat).w))
def shelfStep (l : List BoxM) (ss : List ShelfM) (o z : Int) (st : List SpotM × Int) (s : Int) : List SpotM × Int := (((shAt ss s).l.foldl (boxStep l o st.2 z) (st.1, 0)).1, IntKind.i64.wrap (st.2 + (shAt ss s).d))
def layerStep (l : List BoxM) (ss : List ShelfM) (ls : List LayerM) (o : Int) (st : List SpotM × Int) (i : Int) : List SpotM × Int := (((lyAt ls i).l.foldl (shelfStep l ss o st.2) (st.1, 0)).1, IntKind.i64.wrap (st.2 + (lyAt ls i).h))
def loadStep (l : List BoxM) (ss : List ShelfM) (ls : List LayerM) (out : List SpotM) (x : LoadM × Nat) : List SpotM := (x.1.l.foldl (layerStep l ss ls (x.2 : Int)) (out, 0)).1
def spotsM (p : PalletM) (l : List BoxM) : List SpotM :=
  if boxesOkM p l then (loadsM p (layersM p (shelvesM p l))).zipIdx.foldl (loadStep l (shelvesM p l) (layersM p (shelvesM p l))) (List.replicate l.length ⟨0, 0, 0, 0⟩) else []
theorem shAt_get {ss : List ShelfM} {j : Nat} {t : ShelfM} (h : ss[j]? = some t) : shAt ss (j : Int) = t := by simp [shAt, List.getD_eq_getElem?_getD, h]
theorem lyAt_get {ls : List LayerM} {j : Nat} {t : LayerM} (h : ls[j]? = some t) : lyAt ls (j : Int) = t := by simp [lyAt, List.getD_eq_getElem?_getD, h]
section
variable {l : List BoxM} {ss : List ShelfM} {ls : List LayerM} {o y z : Int}
theorem box_len : ∀ (bs : List Int) (st : List SpotM × Int), (bs.foldl (boxStep l o y z) st).1.length = st.1.length
  | [], _ => rfl
  | b :: r, st => by rw [List.foldl_cons, box_len r]; simp [boxStep]
theorem shelf_lenS : ∀ (bs : List Int) (st : List SpotM × Int), (bs.foldl (shelfStep l ss o z) st).1.length = st.1.length
  | [], _ => rfl
  | b :: r, st => by rw [List.foldl_cons, shelf_lenS r]; simp [shelfStep, box_len]
theorem layer_lenS : ∀ (bs : List Int) (st : List SpotM × Int), (bs.foldl (layerStep l ss ls o) st).1.length = st.1.length
  | [], _ => rfl
  | b :: r, st => by rw [List.foldl_cons, layer_lenS r]; simp [layerStep, shelf_lenS]
theorem load_lenS : ∀ (xs : List (LoadM × Nat)) (out : List SpotM), (xs.foldl (loadStep l ss ls) out).length = out.length
  | [], _ => rfl
  | x :: r, out => by rw [List.foldl_cons, load_lenS r]; simp [loadStep, layer_lenS]
end
theorem spots_len {p : PalletM} {l : List BoxM} (hok : boxesOkM p l = true) : (spotsM p l).length = l.length := by
  rw [spotsM, if_pos hok, load_lenS, List.length_replicate]
theorem spots_le (p : PalletM) (l : List BoxM) : (spotsM p l).length ≤ l.length := by
  cases h : boxesOkM p l with
  | true => rw [spots_len h]; exact Nat.le_refl _
  | false => rw [spotsM, h]; simp
theorem shelf_ge {p : PalletM} {l : List BoxM} (hok : boxesOkM p l = true) : ∀ t ∈ shelvesM p l, 1 ≤ t.w ∧ t.w ≤ p.w ∧ 1 ≤ t.d ∧ t.d ≤ p.d ∧ 1 ≤ t.h ∧ t.h ≤ p.h ∧ 1 ≤ t.g ∧ t.g ≤ p.g := by
  rw [shelvesM, if_pos hok]
  refine pile_inv _ _ (fun x hx => ?_) zC
  have hx' : x.1 ∈ l := List.mem_of_getElem? (xs_mem hx)
  simp only [boxesOkM, Bool.and_eq_true, List.all_eq_true] at hok
  have hh := box_in (hok.2 x.1 hx')
  refine ⟨by simp only [shelfAdd, shelfZ]; omega, fun t ht hr => ?_⟩
  simp only [shelfRoom, Bool.and_eq_true, decide_eq_true_eq] at hr
  simp only [shelfAdd]; omega
theorem shelves_okL {p : PalletM} {l : List BoxM} (hok : boxesOkM p l = true) : shelvesOkM p (shelvesM p l) = true := by
  have hp : palletOkM p = true := by simp only [boxesOkM, Bool.and_eq_true] at hok; exact hok.1
  simp only [shelvesOkM, Bool.and_eq_true, List.all_eq_true]
  refine ⟨hp, fun t ht => ?_⟩
  have := shelf_ge hok t ht
  simp only [heapOkM, inB, Bool.and_eq_true, decide_eq_true_eq]; omega
theorem set_cellsP {bs : List SpotM} {i : Nat} {a b c d : Int} : (bs.map SpotM.cells).set i [.int .i64 a, .int .i64 b, .int .i64 c, .int .i64 d] = (bs.set i ⟨a, b, c, d⟩).map SpotM.cells := by rw [List.map_set]; rfl
end Go.Proofs.YtglpgohilfoecaaGreat

/-
  Where boxes stand: the program's way.
-/
namespace Go.Proofs.YtglpgohilfoecaaGreat
open Go.RowKit
attribute [local irreducible] Go.wpList Go.Code.wp Go.Exit.then Go.Exit.inBlock Go.bodyPost Go.Calls pE pB G RunsV FnV Fn FnM
set_option maxRecDepth 100000
set_option maxHeartbeats 4000000
theorem implSpotsOf_any (p : PalletM) {v : Value} {l : List BoxM} (w : World) (h : Rd w v 4 (l.map BoxM.cells)) (hb : l.length ≤ 1048576) :
    Fn Tryz.prog 37 [p.val, v] w (fun x : Value => x.oneCell' = true) (fun x => x) (fun x => [.row x 86 4 ((spotsM p l).map SpotM.cells)]) := by
  have hln : (l.map BoxM.cells).length = l.length := by simp
  refine Fn.of (n := 102) Tryz.func37 rfl rfl ?_; refine zaJ (fun bk2 _ => ?_); refine zba ?_; refine zaU ?_; refine zaC ?_; refine G.op (og_callV rfl rfl (fun w hh => boxesOk_any _ w zx)) rfl (fun _ _ => ?_); refine zcl ?_; refine G.cond rfl (fun hc => ?_) (fun hc => ?_); refine zbc ?_
  exact G.retF (.slice none 0 0) rfl rfl rfl rfl (fun w hw => by rw [spotsM, if_neg (by intro hq; rw [hq] at hc; exact Bool.noConfusion hc)]; exact hw.none.nilRow _ _)
  · refine G.skip ?_
    refine G.thenN ?_; refine zaU ?_; refine zaC ?_; refine G.op (og_callF2 rfl rfl (fun w hh => implShelves_any p w zx zc)) rfl ?_; rintro ⟨vg, gs⟩ ⟨hvg, hgs⟩; try dsimp only
    dsimp only at hgs hvg
    have hgl : gs.length = (shelvesM p l).length := by rw [← hgs, List.length_map]
    have hsl := shelves_len p l
    refine zba ?_; refine G.region ?_; refine zdP ?_; refine zaC ?_; refine G.op (og_callF2 rfl rfl (fun w hh => implLayersOf_any p w zai zc)) rfl ?_; rintro ⟨vy, ys⟩ ⟨hvy, hys⟩; try dsimp only
    dsimp only at hys hvy
    rw [hgs] at hys
    have hyl : ys.length = (layersM p (shelvesM p l)).length := by rw [← hys, List.length_map]
    have hyl2 := layers_len p (shelvesM p l)
    refine zaB ?_; refine zdY (fun vm _ => ?_); refine zba ?_; refine zbZ ?_; refine G.v (rv_loadW 5 rfl rfl rfl) rfl ?_; refine zaC ?_; refine G.op (og_callF2 rfl rfl (fun w hh => implLoadsOf_any p w zT zc)) rfl ?_; rintro ⟨vj, js⟩ ⟨hvj, hjs⟩; try dsimp only
    dsimp only at hjs hvj
    rw [hys] at hjs
    have hjl : js.length = (loadsM p (layersM p (shelvesM p l))).length := by rw [← hjs, List.length_map]
    have hjl2 := loads_len p (layersM p (shelvesM p l))
    have hjl3 : (js.map LoadM.cells).length = js.length := by simp
    refine zcP ?_; refine zbt ?_
    have hok : boxesOkM p l = true := by simpa using hc
    have hso := shelves_okL hok
    have hst := lay_stacks hso
    have hlf := lay_flat hso
    have hof := load_flat hst
    refine G.frontR2 vm rfl ?_; refine G.rowEq ((List.replicate l.length (⟨0, 0, 0, 0⟩ : SpotM)).map SpotM.cells) (by simp [SpotM.cells]) rfl ?_; refine G.loopK (ι := Nat × List SpotM) (ks := [1, 5, 6, 7, 34, 35]) (fun x => [(36, .int .i64 (x.1 : Int))]) (fun x => [.row vm 86 4 (x.2.map SpotM.cells)]) (fun x => x.1 ≤ js.length ∧ x.2.length = l.length ∧ x.2 = ((loadsM p (layersM p (shelvesM p l))).zipIdx.take x.1).foldl (loadStep l (shelvesM p l) (layersM p (shelvesM p l))) (List.replicate l.length ⟨0, 0, 0, 0⟩)) (fun x => js.length - x.1) (0, List.replicate l.length ⟨0, 0, 0, 0⟩) (.cons rfl (.cons rfl (.cons rfl (.cons rfl (.cons rfl (.cons rfl (.nil))))))) rfl ?_ ?_ ?_
    exact ⟨Nat.zero_le _, by simp, rfl⟩
    exact ⟨rfl, trivial⟩
    rintro ⟨q, out0⟩ ⟨hq0, hol0, hoe0⟩
    dsimp only at hq0 hol0 hoe0 ⊢
    by_cases hlt0 : q < js.length
    case' pos => (obtain ⟨t, hgt⟩ := get_of_lt hlt0; have het := get_map hgt LoadM.cells; have hg1 : (js.map (sub LoadM.l))[q]? = some (t.2, t.1.l.map icell) := get_mapS hgt; have hm1 : (loadsM p (layersM p (shelvesM p l)))[q]? = some t.1 := hjs ▸ fst_at hgt; have hz1 := zip_get hm1; have hlc1 : (t.1.l.map icell).length = t.1.l.length := zC; refine G.know (fun w hw => (Rd.grp 1 rfl (List.mem_of_getElem? hg1) w hw).one_) (fun hov1 => ?_); refine G.know (fun w hw => (Rd.grp 1 rfl (List.mem_of_getElem? hg1) w hw).le_map) (fun hbn1 => ?_))
    all_goals
     refine zbo ?_; refine G.cond rfl (fun hc => ?_) (fun hc => ?_)
     · all_goals
        replace hc := of_decide_eq_true hc
        try (exfalso; omega)
        all_goals
         refine zea ?_; refine G.v (rv_indexH rfl rfl zj rfl (by exact het)) rfl ?_; refine G.v (rv_loadEW rfl zj (by exact het) rfl) rfl ?_; refine zbn (fun bk9 _ => ?_); refine zcB ?_; refine G.op0 (og_st0 rfl rfl rfl rfl rfl (by repeat (first | rfl | refine one_cons zf ?_)) (.zero (.cons (.cons (.cons .nil))))) (fun _ _ => ?_); refine za1 ?_; refine zaG ?_; refine zbZ ?_; refine zaK ?_; refine G.v (rv_len rfl (by exact Rd.grp 2 rfl (List.mem_of_getElem? hg1))) rfl ?_; refine zbt ?_; refine G.frontR1 vm rfl ?_
         refine G.loopK (ι := Nat × List SpotM × Int) (ks := [1, 5, 6, 7, 8, 34, 35, 36, 42, 43]) (fun x => [(10, .int .i64 x.2.2), (44, .int .i64 (x.1 : Int))]) (fun x => [.row vm 86 4 (x.2.1.map SpotM.cells)]) (fun x => x.1 ≤ t.1.l.length ∧ x.2.1.length = l.length ∧ (x.2.1, x.2.2) = (t.1.l.take x.1).foldl (layerStep l (shelvesM p l) (layersM p (shelvesM p l)) (q : Int)) (out0, 0)) (fun x => t.1.l.length - x.1) (0, out0, 0) (.cons rfl (.cons rfl (.cons rfl (.cons rfl (.cons rfl (.cons rfl (.cons rfl (.cons rfl (.cons rfl (.cons rfl (.nil))))))))))) rfl ?_ ?_ ?_
         exact ⟨Nat.zero_le _, hol0, rfl⟩
         exact ⟨rfl, rfl, trivial⟩
         rintro ⟨j, out1, z⟩ ⟨hj0, hol1, hoe1⟩
         dsimp only at hj0 hol1 hoe1 ⊢
         by_cases hlt1 : j < t.1.l.length
         case' pos => (obtain ⟨xj, hxj⟩ := get_of_lt hlt1; have hej := get_map hxj icell; obtain ⟨hxe, hxb⟩ := off_at hof hm1 hxj; generalize hz9 : offM LoadM.l (loadsM p (layersM p (shelvesM p l))) q + j = j1 at hxe hxb; subst hxe; obtain ⟨yy, hgy⟩ := get_of_lt (l := ys) (k := j1) zc; have hey := get_map hgy LayerM.cells; have hg2 : (ys.map (sub LayerM.l))[j1]? = some (yy.2, yy.1.l.map icell) := get_mapS hgy; have hm2 : (layersM p (shelvesM p l))[j1]? = some yy.1 := hys ▸ fst_at hgy; have hya := lyAt_get hm2; have hlc2 : (yy.1.l.map icell).length = yy.1.l.length := zC; have hfs1 := foldl_take_succ hxj (layerStep l (shelvesM p l) (layersM p (shelvesM p l)) (q : Int)) (out0, 0); rw [← hoe1] at hfs1; refine G.know (fun w hw => (Rd.grp 4 rfl (List.mem_of_getElem? hg2) w hw).le_map) (fun hbn2 => ?_))
         all_goals
          refine zbo ?_; refine G.cond rfl (fun hc => ?_) (fun hc => ?_)
          · all_goals
             replace hc := of_decide_eq_true hc
             try (exfalso; omega)
             all_goals
              refine zdo ?_; refine G.v (rv_indexH rfl rfl (by exact Rd.grp 2 rfl (List.mem_of_getElem? hg1)) rfl (by exact hej)) rfl ?_; refine G.v (rv_loadE rfl (by exact Rd.grp 2 rfl (List.mem_of_getElem? hg1)) (by exact hej) rfl) rfl ?_; refine zaB ?_; refine zaG ?_; refine zcT ?_; refine G.v (rv_indexH rfl rfl zZ rfl (by exact hey)) rfl ?_; refine zbq ?_; refine G.v (rv_loadE rfl zZ (by exact hey) rfl) rfl ?_; refine G.v (rv_len rfl (by exact Rd.grp 4 rfl (List.mem_of_getElem? hg2))) rfl ?_; refine zbt ?_; refine G.frontR0 vm rfl ?_
              refine G.loopK (ι := Nat × List SpotM × Int) (ks := [1, 5, 6, 7, 8, 10, 12, 34, 35, 36, 42, 43, 44, 52, 53]) (fun x => [(13, .int .i64 x.2.2), (54, .int .i64 (x.1 : Int))]) (fun x => [.row vm 86 4 (x.2.1.map SpotM.cells)]) (fun x => x.1 ≤ yy.1.l.length ∧ x.2.1.length = l.length ∧ (x.2.1, x.2.2) = (yy.1.l.take x.1).foldl (shelfStep l (shelvesM p l) (q : Int) z) (out1, 0)) (fun x => yy.1.l.length - x.1) (0, out1, 0) (.cons rfl (.cons rfl (.cons rfl (.cons rfl (.cons rfl (.cons rfl (.cons rfl (.cons rfl (.cons rfl (.cons rfl (.cons rfl (.cons rfl (.cons rfl (.cons rfl (.cons rfl (.nil)))))))))))))))) rfl ?_ ?_ ?_
              exact ⟨Nat.zero_le _, hol1, rfl⟩
              exact ⟨rfl, rfl, trivial⟩
              rintro ⟨k, out2, y⟩ ⟨hk0, hol2, hoe2⟩
              dsimp only at hk0 hol2 hoe2 ⊢
              by_cases hlt2 : k < yy.1.l.length
              case' pos => (obtain ⟨xk, hxk⟩ := get_of_lt hlt2; have hek := get_map hxk icell; obtain ⟨hxe, hxb⟩ := off_at hlf hm2 hxk; generalize hz8 : offM LayerM.l (layersM p (shelvesM p l)) j1 + k = k1 at hxe hxb; subst hxe; obtain ⟨sh, hgs2⟩ := get_of_lt (l := gs) (k := k1) zc; have hes := get_map hgs2 ShelfM.cells; have hg3 : (gs.map (sub ShelfM.l))[k1]? = some (sh.2, sh.1.l.map icell) := get_mapS hgs2; have hm3 : (shelvesM p l)[k1]? = some sh.1 := hgs ▸ fst_at hgs2; have hsa := shAt_get hm3; have hlc3 : (sh.1.l.map icell).length = sh.1.l.length := zC; have hsk := shelf_ok hok sh.1 (List.mem_of_getElem? hm3); have hfs2 := foldl_take_succ hxk (shelfStep l (shelvesM p l) (q : Int) z) (out1, 0); rw [← hoe2] at hfs2; refine G.know (fun w hw => (Rd.grp 6 rfl (List.mem_of_getElem? hg3) w hw).le_map) (fun hbn3 => ?_))
              all_goals
               refine zbo ?_; refine G.cond rfl (fun hc => ?_) (fun hc => ?_)
               · all_goals
                  replace hc := of_decide_eq_true hc
                  try (exfalso; omega)
                  all_goals
                   refine zdo ?_; refine zel ?_; refine zaB ?_; refine zaG ?_; refine zcT ?_; refine G.v (rv_indexH rfl rfl zax rfl (by exact hes)) rfl ?_; refine zbq ?_; refine G.v (rv_loadE rfl zax (by exact hes) rfl) rfl ?_; refine G.v (rv_len rfl (by exact Rd.grp 6 rfl (List.mem_of_getElem? hg3))) rfl ?_; refine zbt ?_; refine G.frontR0 vm rfl ?_
                   refine G.loopK (ι := Nat × List SpotM × Int) (ks := [1, 5, 6, 7, 8, 10, 12, 13, 15, 34, 35, 36, 42, 43, 44, 52, 53, 54, 62, 63]) (fun x => [(16, .int .i64 x.2.2), (64, .int .i64 (x.1 : Int))]) (fun x => [.row vm 86 4 (x.2.1.map SpotM.cells)]) (fun x => x.1 ≤ sh.1.l.length ∧ x.2.1.length = l.length ∧ (x.2.1, x.2.2) = (sh.1.l.take x.1).foldl (boxStep l (q : Int) y z) (out2, 0)) (fun x => sh.1.l.length - x.1) (0, out2, 0) (.cons rfl (.cons rfl (.cons rfl (.cons rfl (.cons rfl (.cons rfl (.cons rfl (.cons rfl (.cons rfl (.cons rfl (.cons rfl (.cons rfl (.cons rfl (.cons rfl (.cons rfl (.cons rfl (.cons rfl (.cons rfl (.cons rfl (.cons rfl (.nil))))))))))))))))))))) rfl ?_ ?_ ?_
                   exact ⟨Nat.zero_le _, hol2, rfl⟩
                   exact ⟨rfl, rfl, trivial⟩
                   rintro ⟨m, out3, x⟩ ⟨hm0, hol3, hoe3⟩
                   dsimp only at hm0 hol3 hoe3 ⊢
                   by_cases hlt3 : m < sh.1.l.length
                   case' pos => (obtain ⟨xm, hxm⟩ := get_of_lt hlt3; have hem := get_map hxm icell; obtain ⟨b1, hbe, hbl, _, _⟩ := hsk.at_ xm (List.mem_of_getElem? hxm); subst hbe; obtain ⟨b, hb2⟩ := get_of_lt hbl; have heb := get_map hb2 BoxM.cells; have hba := boxAt_get hb2; obtain ⟨s0, hs0⟩ := get_of_lt (l := out3) (k := b1) zc; have heo := get_map hs0 SpotM.cells; have hfs3 := foldl_take_succ hxm (boxStep l (q : Int) y z) (out2, 0); rw [← hoe3] at hfs3)
                   all_goals
                    refine zbo ?_; refine G.cond rfl (fun hc => ?_) (fun hc => ?_)
                    · all_goals
                       replace hc := of_decide_eq_true hc
                       try (exfalso; omega)
                       all_goals
                        refine zdo ?_; refine G.v (rv_indexH rfl rfl (by exact Rd.grp 6 rfl (List.mem_of_getElem? hg3)) rfl (by exact hem)) rfl ?_; refine G.v (rv_loadE rfl (by exact Rd.grp 6 rfl (List.mem_of_getElem? hg3)) (by exact hem) rfl) rfl ?_; refine zdn ?_; refine zbA ?_; refine zbA ?_; refine zcA (fun _ _ => ?_); refine za1 ?_; refine zcZ ?_; refine G.v (rv_indexH rfl rfl zb rfl zS) rfl ?_; refine zbq ?_
                        refine G.v (rv_loadE rfl zb zS rfl) rfl ?_; refine zeU ?_; refine za0 ?_; refine zaO ?_; refine G.backK (m + 1, out3.set b1 ⟨(q : Int), x, y, z⟩, IntKind.i64.wrap (x + b.w)) 0 (one_eq (congrArg (fun z => Ch.row vm 86 4 z) set_cellsP)) (.cons rfl (.cons rfl (.cons rfl (.cons rfl (.cons rfl (.cons rfl (.cons rfl (.cons rfl (.cons rfl (.cons rfl (.cons rfl (.cons rfl (.cons rfl (.cons rfl (.cons rfl (.cons rfl (.cons rfl (.cons rfl (.cons rfl (.cons rfl (.nil))))))))))))))))))))) ?_ ?_ ?_
                        exact ⟨rfl, rfl, trivial⟩
                        exact ⟨hlt3, by simp [hol3], by rw [hfs3]; simp [boxStep, hba]⟩
                        dsimp only; omega
                    · all_goals
                       replace hc := of_decide_eq_false hc
                       try (exfalso; omega)
                       all_goals
                        refine zaL ?_; refine zcZ ?_; refine G.v (rv_indexH rfl rfl zax rfl (by exact hes)) rfl ?_; refine zbq ?_; refine G.v (rv_loadE rfl zax (by exact hes) rfl) rfl ?_; refine zeU ?_; refine za0 ?_; refine zaO ?_; refine G.backK (k + 1, out3, IntKind.i64.wrap (y + sh.1.d)) 0 rfl (.cons rfl (.cons rfl (.cons rfl (.cons rfl (.cons rfl (.cons rfl (.cons rfl (.cons rfl (.cons rfl (.cons rfl (.cons rfl (.cons rfl (.cons rfl (.cons rfl (.cons rfl (.nil)))))))))))))))) ?_ ?_ ?_
                        exact ⟨rfl, rfl, trivial⟩
                        exact ⟨hlt2, hol3, by rw [List.take_of_length_le zc] at hoe3; rw [hfs2]; simp only [shelfStep, hsa, ← hoe3]⟩
                        dsimp only; omega
               · all_goals
                  replace hc := of_decide_eq_false hc
                  try (exfalso; omega)
                  all_goals
                   refine zaL ?_; refine zcZ ?_; refine G.v (rv_indexH rfl rfl zZ rfl (by exact hey)) rfl ?_; refine zbq ?_; refine G.v (rv_loadE rfl zZ (by exact hey) rfl) rfl ?_; refine zeU ?_; refine za0 ?_; refine zaO ?_; refine G.backK (j + 1, out2, IntKind.i64.wrap (z + yy.1.h)) 0 rfl (.cons rfl (.cons rfl (.cons rfl (.cons rfl (.cons rfl (.cons rfl (.cons rfl (.cons rfl (.cons rfl (.cons rfl (.nil))))))))))) ?_ ?_ ?_
                   exact ⟨rfl, rfl, trivial⟩
                   exact ⟨hlt1, hol2, by rw [List.take_of_length_le zc] at hoe2; rw [hfs1]; simp only [layerStep, hya, ← hoe2]⟩
                   dsimp only; omega
          · all_goals
             replace hc := of_decide_eq_false hc
             try (exfalso; omega)
             all_goals
              refine zc0 ?_; refine zaO ?_; refine G.keep1 1 rfl ?_; refine G.backK (q + 1, out1) 0 rfl (.cons rfl (.cons rfl (.cons rfl (.cons rfl (.cons rfl (.cons rfl (.nil))))))) ?_ ?_ ?_
              exact ⟨rfl, trivial⟩
              exact ⟨hlt0, hol1, by rw [List.take_of_length_le zc] at hoe1; rw [foldl_take_succ hz1, ← hoe0]; simp only [loadStep, ← hoe1]⟩
              dsimp only; omega
     · all_goals
        replace hc := of_decide_eq_false hc
        try (exfalso; omega)
        all_goals
         refine zce ?_; refine G.know (fun w hw => (Rd.owned 0 rfl w hw).one_) (fun hone => G.retF vm hone rfl rfl rfl (fun w hw => by rw [List.take_of_length_le zac] at hoe0; rw [spotsM, if_pos hok, ← hoe0]; exact hw.sublist (by repeat (first | exact List.Sublist.refl _ | refine List.Sublist.cons_cons _ ?_ | refine List.Sublist.cons _ ?_)))); done
theorem specSpotsOf_any (p : PalletM) {v : Value} {l : List BoxM} (w : World) (h : Rd w v 4 (l.map BoxM.cells)) (hb : l.length ≤ 1048576) :
    Fn Tryz.prog 49 [p.val, v] w (fun x : Value => x.oneCell' = true) (fun x => x) (fun x => [.row x 86 4 ((spotsM p l).map SpotM.cells)]) := by
  have hln : (l.map BoxM.cells).length = l.length := by simp
  refine Fn.of (n := 116) Tryz.func49 rfl rfl ?_; refine zaJ (fun bk2 _ => ?_); refine zaB ?_; refine zdY (fun vm _ => ?_); refine zba ?_; refine G.seq ?_; refine zbF ?_; refine zaC ?_; refine G.op (og_callV rfl rfl (fun w hh => sboxesOk_any _ w zx)) rfl (fun _ _ => ?_); refine zcl ?_; refine G.cond rfl (fun hc => ?_) (fun hc => ?_); refine zaW (fun vl _ => ?_); refine zcf ?_; refine G.thenR ?_; refine G.know (fun w hw => (Rd.owned 0 rfl w hw).one_) (fun hone => G.retF vl hone rfl rfl rfl (fun w hw => by rw [spotsM, if_neg (by intro hq; rw [hq] at hc; exact Bool.noConfusion hc)]; exact hw.sublist (by repeat (first | exact List.Sublist.refl _ | refine List.Sublist.cons_cons _ ?_ | refine List.Sublist.cons _ ?_))))
  · refine G.skip ?_
    refine G.thenN (G.seq ?_); refine zbF ?_; refine zaC ?_; refine G.op (og_callF2 rfl rfl (fun w hh => specShelves_any p w zx zc)) rfl ?_; rintro ⟨vg, gs⟩ ⟨hvg, hgs⟩; try dsimp only
    dsimp only at hgs hvg
    have hgl : gs.length = (shelvesM p l).length := by rw [← hgs, List.length_map]
    have hsl := shelves_len p l
    refine zba ?_; refine G.region ?_; refine zeJ ?_; refine zaC ?_; refine G.op (og_callF2 rfl rfl (fun w hh => specLayersOf_any p w zai zc)) rfl ?_; rintro ⟨vy, ys⟩ ⟨hvy, hys⟩; try dsimp only
    dsimp only at hys hvy
    rw [hgs] at hys
    have hyl : ys.length = (layersM p (shelvesM p l)).length := by rw [← hys, List.length_map]
    have hyl2 := layers_len p (shelvesM p l)
    refine zba ?_; refine G.region (G.v (rv_loadW 5 rfl rfl rfl) rfl ?_); refine zaC ?_; refine G.op (og_callF2 rfl rfl (fun w hh => specLoadsOf_any p w zai zc)) rfl ?_; rintro ⟨vj, js⟩ ⟨hvj, hjs⟩; try dsimp only
    dsimp only at hjs hvj
    rw [hys] at hjs
    have hjl : js.length = (loadsM p (layersM p (shelvesM p l))).length := by rw [← hjs, List.length_map]
    have hjl2 := loads_len p (layersM p (shelvesM p l))
    have hjl3 : (js.map LoadM.cells).length = js.length := by simp
    refine zdR ?_
    have hok : boxesOkM p l = true := by simpa using hc
    have hso := shelves_okL hok
    have hst := lay_stacks hso
    have hlf := lay_flat hso
    have hof := load_flat hst
    refine G.frontR6 vm rfl ?_; refine G.rowEq ((List.replicate l.length (⟨0, 0, 0, 0⟩ : SpotM)).map SpotM.cells) (by simp [SpotM.cells]) rfl ?_; refine G.loopK (ι := Nat × List SpotM) (ks := [1, 5, 6, 7, 8]) (fun x => [(9, .int .i64 (x.1 : Int))]) (fun x => [.row vm 86 4 (x.2.map SpotM.cells)]) (fun x => x.1 ≤ js.length ∧ x.2.length = l.length ∧ x.2 = ((loadsM p (layersM p (shelvesM p l))).zipIdx.take x.1).foldl (loadStep l (shelvesM p l) (layersM p (shelvesM p l))) (List.replicate l.length ⟨0, 0, 0, 0⟩)) (fun x => js.length - x.1) (0, List.replicate l.length ⟨0, 0, 0, 0⟩) (.cons rfl (.cons rfl (.cons rfl (.cons rfl (.cons rfl (.nil)))))) rfl ?_ ?_ ?_
    exact ⟨Nat.zero_le _, by simp, rfl⟩
    exact ⟨rfl, trivial⟩
    rintro ⟨q, out0⟩ ⟨hq0, hol0, hoe0⟩
    dsimp only at hq0 hol0 hoe0 ⊢
    by_cases hlt0 : q < js.length
    case' pos => (obtain ⟨t, hgt⟩ := get_of_lt hlt0; have het := get_map hgt LoadM.cells; have hg1 : (js.map (sub LoadM.l))[q]? = some (t.2, t.1.l.map icell) := get_mapS hgt; have hm1 : (loadsM p (layersM p (shelvesM p l)))[q]? = some t.1 := hjs ▸ fst_at hgt; have hz1 := zip_get hm1; have hlc1 : (t.1.l.map icell).length = t.1.l.length := zC; refine G.know (fun w hw => (Rd.grp 1 rfl (List.mem_of_getElem? hg1) w hw).le_map) (fun hbn1 => ?_))
    all_goals
     refine zcT ?_; refine zdm ?_; refine zaI ?_; refine G.cond rfl (fun hc => ?_) (fun hc => ?_)
     · all_goals
        replace hc := of_decide_eq_true hc
        try (exfalso; omega)
        all_goals
         refine zaQ ?_; refine zaG ?_; refine zbL ?_; refine G.frontR0 vm rfl ?_; refine G.loopK (ι := Nat × List SpotM × Int) (ks := [1, 5, 6, 7, 8, 9]) (fun x => [(10, .int .i64 x.2.2), (11, .int .i64 (x.1 : Int))]) (fun x => [.row vm 86 4 (x.2.1.map SpotM.cells)]) (fun x => x.1 ≤ t.1.l.length ∧ x.2.1.length = l.length ∧ (x.2.1, x.2.2) = (t.1.l.take x.1).foldl (layerStep l (shelvesM p l) (layersM p (shelvesM p l)) (q : Int)) (out0, 0)) (fun x => t.1.l.length - x.1) (0, out0, 0) (.cons rfl (.cons rfl (.cons rfl (.cons rfl (.cons rfl (.cons rfl (.nil))))))) rfl ?_ ?_ ?_
         exact ⟨Nat.zero_le _, hol0, rfl⟩
         exact ⟨rfl, rfl, trivial⟩
         rintro ⟨j, out1, z⟩ ⟨hj0, hol1, hoe1⟩
         dsimp only at hj0 hol1 hoe1 ⊢
         by_cases hlt1 : j < t.1.l.length
         case' pos => (obtain ⟨xj, hxj⟩ := get_of_lt hlt1; have hej := get_map hxj icell; obtain ⟨hxe, hxb⟩ := off_at hof hm1 hxj; generalize hz9 : offM LoadM.l (loadsM p (layersM p (shelvesM p l))) q + j = j1 at hxe hxb; subst hxe; obtain ⟨yy, hgy⟩ := get_of_lt (l := ys) (k := j1) zc; have hey := get_map hgy LayerM.cells; have hg2 : (ys.map (sub LayerM.l))[j1]? = some (yy.2, yy.1.l.map icell) := get_mapS hgy; have hm2 : (layersM p (shelvesM p l))[j1]? = some yy.1 := hys ▸ fst_at hgy; have hya := lyAt_get hm2; have hlc2 : (yy.1.l.map icell).length = yy.1.l.length := zC; have hfs1 := foldl_take_succ hxj (layerStep l (shelvesM p l) (layersM p (shelvesM p l)) (q : Int)) (out0, 0); rw [← hoe1] at hfs1; (refine G.know (fun w hw => (Rd.grp 3 rfl (List.mem_of_getElem? hg2) w hw).one_) (fun hov2 => ?_)); refine G.know (fun w hw => (Rd.grp 3 rfl (List.mem_of_getElem? hg2) w hw).le_map) (fun hbn2 => ?_))
         all_goals
          refine G.seq ?_; refine zca ?_; refine G.v (rv_indexH rfl rfl zj rfl (by exact het)) rfl ?_; refine zbq ?_; refine G.v (rv_loadE rfl zj (by exact het) rfl) rfl ?_; refine G.v (rv_len rfl (by exact Rd.grp 1 rfl (List.mem_of_getElem? hg1))) rfl ?_; refine zaI ?_; refine G.cond rfl (fun hc => ?_) (fun hc => ?_)
          · all_goals
             replace hc := of_decide_eq_true hc
             try (exfalso; omega)
             all_goals
              refine zaQ ?_; refine zca ?_; refine G.v (rv_indexH rfl rfl zj rfl (by exact het)) rfl ?_; refine zbq ?_; refine G.v (rv_loadE rfl zj (by exact het) rfl) rfl ?_; refine zaC ?_; refine G.v (rv_indexH rfl rfl (by exact Rd.grp 1 rfl (List.mem_of_getElem? hg1)) rfl (by exact hej)) rfl ?_; refine G.v (rv_loadE rfl (by exact Rd.grp 1 rfl (List.mem_of_getElem? hg1)) (by exact hej) rfl) rfl ?_; refine G.v (rv_indexH rfl rfl zU rfl (by exact hey)) rfl ?_; refine G.v (rv_loadEW rfl zU (by exact hey) rfl) rfl ?_; refine zbn (fun bk12 _ => ?_); refine G.op0 (og_st0 rfl rfl rfl rfl rfl (by repeat (first | rfl | refine one_cons zf ?_)) (.zero (.cons (.cons (.cons (.cons .nil)))))) (fun _ _ => ?_); refine za1 ?_; refine zdi ?_; refine G.frontR1 vm rfl ?_
              refine G.loopK (ι := Nat × List SpotM × Int) (ks := [1, 5, 6, 7, 8, 9, 10, 11, 12]) (fun x => [(13, .int .i64 x.2.2), (14, .int .i64 (x.1 : Int))]) (fun x => [.row vm 86 4 (x.2.1.map SpotM.cells)]) (fun x => x.1 ≤ yy.1.l.length ∧ x.2.1.length = l.length ∧ (x.2.1, x.2.2) = (yy.1.l.take x.1).foldl (shelfStep l (shelvesM p l) (q : Int) z) (out1, 0)) (fun x => yy.1.l.length - x.1) (0, out1, 0) (.cons rfl (.cons rfl (.cons rfl (.cons rfl (.cons rfl (.cons rfl (.cons rfl (.cons rfl (.cons rfl (.nil)))))))))) rfl ?_ ?_ ?_
              exact ⟨Nat.zero_le _, hol1, rfl⟩
              exact ⟨rfl, rfl, trivial⟩
              rintro ⟨k, out2, y⟩ ⟨hk0, hol2, hoe2⟩
              dsimp only at hk0 hol2 hoe2 ⊢
              by_cases hlt2 : k < yy.1.l.length
              case' pos => (obtain ⟨xk, hxk⟩ := get_of_lt hlt2; have hek := get_map hxk icell; obtain ⟨hxe, hxb⟩ := off_at hlf hm2 hxk; generalize hz8 : offM LayerM.l (layersM p (shelvesM p l)) j1 + k = k1 at hxe hxb; subst hxe; obtain ⟨sh, hgs2⟩ := get_of_lt (l := gs) (k := k1) zc; have hes := get_map hgs2 ShelfM.cells; have hg3 : (gs.map (sub ShelfM.l))[k1]? = some (sh.2, sh.1.l.map icell) := get_mapS hgs2; have hm3 : (shelvesM p l)[k1]? = some sh.1 := hgs ▸ fst_at hgs2; have hsa := shAt_get hm3; have hlc3 : (sh.1.l.map icell).length = sh.1.l.length := zC; have hsk := shelf_ok hok sh.1 (List.mem_of_getElem? hm3); have hfs2 := foldl_take_succ hxk (shelfStep l (shelvesM p l) (q : Int) z) (out1, 0); rw [← hoe2] at hfs2; (refine G.know (fun w hw => (Rd.grp 6 rfl (List.mem_of_getElem? hg3) w hw).one_) (fun hov3 => ?_)); refine G.know (fun w hw => (Rd.grp 6 rfl (List.mem_of_getElem? hg3) w hw).le_map) (fun hbn3 => ?_))
              all_goals
               refine zfn ?_; refine zbe ?_; refine G.v (rv_len rfl (by exact Rd.grp 4 rfl (List.mem_of_getElem? hg2))) rfl ?_; refine zaI ?_; refine G.cond rfl (fun hc => ?_) (fun hc => ?_)
               · all_goals
                  replace hc := of_decide_eq_true hc
                  try (exfalso; omega)
                  all_goals
                   refine zea ?_; refine zbe ?_; refine zaC ?_; refine zel ?_; refine G.v (rv_indexH rfl rfl zax rfl (by exact hes)) rfl ?_; refine G.v (rv_loadEW rfl zax (by exact hes) rfl) rfl ?_; refine zbn (fun bk15 _ => ?_); refine G.op0 (og_st0 rfl rfl rfl rfl rfl (by repeat (first | rfl | refine one_cons zf ?_)) (.zero (.cons (.cons (.cons (.cons (.cons .nil))))))) (fun _ _ => ?_); refine za1 ?_; refine zdi ?_; refine G.frontR1 vm rfl ?_
                   refine G.loopK (ι := Nat × List SpotM × Int) (ks := [1, 5, 6, 7, 8, 9, 10, 11, 12, 13, 14, 15]) (fun x => [(16, .int .i64 x.2.2), (17, .int .i64 (x.1 : Int))]) (fun x => [.row vm 86 4 (x.2.1.map SpotM.cells)]) (fun x => x.1 ≤ sh.1.l.length ∧ x.2.1.length = l.length ∧ (x.2.1, x.2.2) = (sh.1.l.take x.1).foldl (boxStep l (q : Int) y z) (out2, 0)) (fun x => sh.1.l.length - x.1) (0, out2, 0) (.cons rfl (.cons rfl (.cons rfl (.cons rfl (.cons rfl (.cons rfl (.cons rfl (.cons rfl (.cons rfl (.cons rfl (.cons rfl (.cons rfl (.nil))))))))))))) rfl ?_ ?_ ?_
                   exact ⟨Nat.zero_le _, hol2, rfl⟩
                   exact ⟨rfl, rfl, trivial⟩
                   rintro ⟨m, out3, x⟩ ⟨hm0, hol3, hoe3⟩
                   dsimp only at hm0 hol3 hoe3 ⊢
                   by_cases hlt3 : m < sh.1.l.length
                   case' pos => (obtain ⟨xm, hxm⟩ := get_of_lt hlt3; have hem := get_map hxm icell; obtain ⟨b1, hbe, hbl, _, _⟩ := hsk.at_ xm (List.mem_of_getElem? hxm); subst hbe; obtain ⟨b, hb2⟩ := get_of_lt hbl; have heb := get_map hb2 BoxM.cells; have hba := boxAt_get hb2; obtain ⟨s0, hs0⟩ := get_of_lt (l := out3) (k := b1) zc; have heo := get_map hs0 SpotM.cells; have hfs3 := foldl_take_succ hxm (boxStep l (q : Int) y z) (out2, 0); rw [← hoe3] at hfs3)
                   all_goals
                    refine zfn ?_; refine zbe ?_; refine G.v (rv_len rfl (by exact Rd.grp 7 rfl (List.mem_of_getElem? hg3))) rfl ?_; refine zaI ?_; refine G.cond rfl (fun hc => ?_) (fun hc => ?_)
                    · all_goals
                       replace hc := of_decide_eq_true hc
                       try (exfalso; omega)
                       all_goals
                        refine zea ?_; refine zbe ?_; refine zaC ?_; refine G.v (rv_indexH rfl rfl (by exact Rd.grp 7 rfl (List.mem_of_getElem? hg3)) rfl (by exact hem)) rfl ?_; refine G.v (rv_loadE rfl (by exact Rd.grp 7 rfl (List.mem_of_getElem? hg3)) (by exact hem) rfl) rfl ?_; refine zbA ?_; refine zbA ?_; refine zcA (fun _ _ => ?_); refine za1 ?_; refine zdX ?_; refine zbe ?_; refine zaC ?_; refine G.v (rv_indexH rfl rfl (by exact Rd.grp 7 rfl (List.mem_of_getElem? hg3)) rfl (by exact hem)) rfl ?_
                        refine G.v (rv_loadE rfl (by exact Rd.grp 7 rfl (List.mem_of_getElem? hg3)) (by exact hem) rfl) rfl ?_; refine G.v (rv_indexH rfl rfl zb rfl zS) rfl ?_; refine zbq ?_; refine G.v (rv_loadE rfl zb zS rfl) rfl ?_; refine zeU ?_; refine zeC ?_; refine G.backK (m + 1, out3.set b1 ⟨(q : Int), x, y, z⟩, IntKind.i64.wrap (x + b.w)) 0 (one_eq (congrArg (fun z => Ch.row vm 86 4 z) set_cellsP)) (.cons rfl (.cons rfl (.cons rfl (.cons rfl (.cons rfl (.cons rfl (.cons rfl (.cons rfl (.cons rfl (.cons rfl (.cons rfl (.cons rfl (.nil))))))))))))) ?_ ?_ ?_
                        exact ⟨rfl, rfl, trivial⟩
                        exact ⟨hlt3, by simp [hol3], by rw [hfs3]; simp [boxStep, hba]⟩
                        dsimp only; omega
                    · all_goals
                       replace hc := of_decide_eq_false hc
                       try (exfalso; omega)
                       all_goals
                        refine zaL ?_; refine zbi ?_; refine zbe ?_; refine zeU ?_; refine zeC ?_; refine G.keep1 1 rfl ?_; refine G.backK (k + 1, out3, IntKind.i64.wrap (y + sh.1.d)) 0 rfl (.cons rfl (.cons rfl (.cons rfl (.cons rfl (.cons rfl (.cons rfl (.cons rfl (.cons rfl (.cons rfl (.nil)))))))))) ?_ ?_ ?_
                        exact ⟨rfl, rfl, trivial⟩
                        exact ⟨hlt2, hol3, by rw [List.take_of_length_le zc] at hoe3; rw [hfs2]; simp only [shelfStep, hsa, ← hoe3]⟩
                        dsimp only; omega
               · all_goals
                  replace hc := of_decide_eq_false hc
                  try (exfalso; omega)
                  all_goals
                   refine zaL ?_; refine zbi ?_; refine zbe ?_; refine zeU ?_; refine zeC ?_; refine G.keep1 1 rfl ?_; refine G.backK (j + 1, out2, IntKind.i64.wrap (z + yy.1.h)) 0 rfl (.cons rfl (.cons rfl (.cons rfl (.cons rfl (.cons rfl (.cons rfl (.nil))))))) ?_ ?_ ?_
                   exact ⟨rfl, rfl, trivial⟩
                   exact ⟨hlt1, hol2, by rw [List.take_of_length_le zc] at hoe2; rw [hfs1]; simp only [layerStep, hya, ← hoe2]⟩
                   dsimp only; omega
          · all_goals
             replace hc := of_decide_eq_false hc
             try (exfalso; omega)
             all_goals
              refine zc0 ?_; refine zaE ?_; refine G.keep1 0 rfl ?_; refine G.backK (q + 1, out1) 0 rfl (.cons rfl (.cons rfl (.cons rfl (.cons rfl (.cons rfl (.nil)))))) ?_ ?_ ?_
              exact ⟨rfl, trivial⟩
              exact ⟨hlt0, hol1, by rw [List.take_of_length_le zc] at hoe1; rw [foldl_take_succ hz1, ← hoe0]; simp only [loadStep, ← hoe1]⟩
              dsimp only; omega
     · all_goals
        replace hc := of_decide_eq_false hc
        try (exfalso; omega)
        all_goals
         refine zce ?_; refine G.know (fun w hw => (Rd.owned 0 rfl w hw).one_) (fun hone => G.retF vm hone rfl rfl rfl (fun w hw => by rw [List.take_of_length_le zac] at hoe0; rw [spotsM, if_pos hok, ← hoe0]; exact hw.sublist (by repeat (first | exact List.Sublist.refl _ | refine List.Sublist.cons_cons _ ?_ | refine List.Sublist.cons _ ?_)))); done
end Go.Proofs.YtglpgohilfoecaaGreat

/-
  The plan of an order: both ways.
-/
namespace Go.Proofs.YtglpgohilfoecaaGreat
open Go.RowKit
/-- A place, some pallets on. -/
def movedM (a : Int) (s : SpotM) : SpotM := ⟨IntKind.i64.wrap (s.p + a), s.x, s.y, s.z⟩
/-- The boxes of a group's cartons. -/
def boxesAt (r : ReqM) (cs : List CartonM) (k : Nat) : List BoxM := (cs.filter fun c => decide (c.g = (k : Int))).map (boxOfM r)
def planStep (r : ReqM) (st : List SpotM × Int) (k : Nat) : List SpotM × Int :=
  (st.1 ++ (spotsM r.pal (boxesAt r (cartonsM r) k)).map (movedM st.2), IntKind.i64.wrap (st.2 + palletsM (spotsM r.pal (boxesAt r (cartonsM r) k))))
def spotsAt (r : ReqM) (n : Nat) : List SpotM × Int := (List.range n).foldl (planStep r) ([], 0)
/-- The places of an order's plan. -/
def planSpotsM (r : ReqM) : List SpotM := (spotsAt r (groupsOfM r).length).1
theorem spotsAt_next (r : ReqM) (k : Nat) : spotsAt r (k + 1) = planStep r (spotsAt r k) k := by
  rw [spotsAt, List.range_succ, List.foldl_append]; rfl
theorem cartons_no {r : ReqM} (h : ¬ classM r = 0) : cartonsM r = [] := by rw [cartonsM, groupsOf_no h]; rfl
theorem planSpots_no {r : ReqM} (h : ¬ classM r = 0) : planSpotsM r = [] := by rw [planSpotsM, groupsOf_no h]; rfl
theorem cartons_lenP (r : ReqM) : (cartonsM r).length ≤ 192 := by
  have : ∀ k, ((List.range k).flatMap (cartonsAt r)).length ≤ 48 * k := by
    intro k
    induction k with
    | zero => simp
    | succ k ih =>
      rw [cartons_next, List.length_append, cartonsAt, List.length_map]
      have := wayM_len r (unitsI r k)
      have := unitsI_len r k
      omega
  have h1 := this (groupsOfM r).length
  have h2 := groups_len4 r
  rw [cartonsM]; omega
theorem bx_yes {r : ReqM} {cs : List (CartonM × Value)} {k i : Nat} {b : CartonM × Value} (hb : cs[i]? = some b) (hg : b.1.g = (k : Int)) : (boxesAt r ((cs.take i).map Prod.fst) k).map BoxM.cells ++ [(boxOfM r b.1).cells] = (boxesAt r ((cs.take (i + 1)).map Prod.fst) k).map BoxM.cells := by
  rw [boxesAt, boxesAt, List.take_add_one, hb, List.map_append, List.filter_append, List.map_append, List.map_append]
  simp [hg]
theorem bx_no {r : ReqM} {cs : List (CartonM × Value)} {k i : Nat} {b : CartonM × Value} (hb : cs[i]? = some b) (hg : ¬ b.1.g = (k : Int)) : (boxesAt r ((cs.take i).map Prod.fst) k).map BoxM.cells = (boxesAt r ((cs.take (i + 1)).map Prod.fst) k).map BoxM.cells := by
  rw [boxesAt, boxesAt, List.take_add_one, hb, List.map_append, List.filter_append, List.map_append, List.map_append]
  simp [hg]
theorem bx_len (r : ReqM) (cs : List CartonM) (k : Nat) : (boxesAt r cs k).length ≤ cs.length := by rw [boxesAt, List.length_map]; exact List.length_filter_le _ _
theorem pl_len {r : ReqM} {k : Nat} (hsl : (spotsAt r k).1.length ≤ 192 * k) : (spotsAt r (k + 1)).1.length ≤ 192 * (k + 1) := by
  rw [spotsAt_next, planStep]
  simp only [List.length_append, List.length_map]
  have := spots_le r.pal (boxesAt r (cartonsM r) k)
  have := bx_len r (cartonsM r) k
  have := cartons_lenP r
  omega
theorem planSpots_len (r : ReqM) : (planSpotsM r).length ≤ 768 := by
  have : ∀ k, (spotsAt r k).1.length ≤ 192 * k := by
    intro k
    induction k with
    | zero => exact Nat.zero_le _
    | succ k ih => exact pl_len ih
  have h1 := this (groupsOfM r).length
  have h2 := groups_len4 r
  rw [planSpotsM]; omega
theorem plan_eq {r : ReqM} {cs : List (CartonM × Value)} {k : Nat} {sp : List SpotM} (hcs : cs.map Prod.fst = cartonsM r) (hsp : sp = spotsM r.pal (boxesAt r (cs.map Prod.fst) k)) : spotsAt r (k + 1) = ((spotsAt r k).1 ++ sp.map (movedM (spotsAt r k).2), IntKind.i64.wrap ((spotsAt r k).2 + palletsM sp)) := by
  rw [spotsAt_next, planStep, hsp, hcs]
theorem mv_next {ss sp : List SpotM} {a : Int} {j : Nat} {s : SpotM} (hs : sp[j]? = some s) : (ss ++ (sp.take j).map (movedM a)).map SpotM.cells ++ [[Value.int .i64 (IntKind.i64.wrap (s.p + a)), .int .i64 s.x, .int .i64 s.y, .int .i64 s.z]] = (ss ++ (sp.take (j + 1)).map (movedM a)).map SpotM.cells := by
  rw [List.take_add_one, hs, List.map_append, List.map_append, List.map_append, List.map_append]
  simp [movedM, SpotM.cells]
theorem one_eqP {a a' : Ch} {F : List Ch} (h1 : a = a') : a :: F = [a'] ++ F := by subst h1; rfl
theorem two_eqP {a a' b b' : Ch} {F : List Ch} (h1 : a = a') (h2 : b = b') : a :: b :: F = [a', b'] ++ F := by subst h1 h2; rfl
theorem G.keep1P {n : Nat} {w0 : World} {fr : Fr} {H : List Ch} (m : Nat) {c1 : Ch} {J : List Ch} {K : Act → World → Prop} (hH : H = c1 :: J) (h : G n w0 fr (c1 :: J.drop m) K) : G n w0 fr H K := by
  subst hH
  exact G.heap (fun w hh => hh.sublist (List.Sublist.cons_cons _ (List.drop_sublist _ _))) h
theorem G.keep2P {n : Nat} {w0 : World} {fr : Fr} {H : List Ch} (m : Nat) {c1 c2 : Ch} {J : List Ch} {K : Act → World → Prop} (hH : H = c1 :: c2 :: J) (h : G n w0 fr (c1 :: c2 :: J.drop m) K) : G n w0 fr H K := by
  subst hH
  exact G.heap (fun w hh => hh.sublist (List.Sublist.cons_cons _ (List.Sublist.cons_cons _ (List.drop_sublist _ _)))) h
attribute [local irreducible] Go.wpList Go.Code.wp Go.Exit.then Go.Exit.inBlock Go.bodyPost Go.Calls pE pB G RunsV FnV Fn FnM
set_option maxRecDepth 100000
set_option maxHeartbeats 4000000
section
variable {r : ReqM} {pv tv iv : Value} (w : World) (h : Rd w pv 2 (r.pairs.map PairM.cells)) (h2 : Rd w tv 7 (r.types.map TypeM.cells)) (h3 : Rd w iv 7 (r.items.map ItemM.cells))
include h h2 h3
theorem planOf_any : Fn Tryz.prog 12 [.agg (r.cells pv tv iv).toArray] w (fun x : (Value × List (CartonM × Value)) × Value => x.1.1.oneCell' = true ∧ x.2.oneCell' = true ∧ x.1.2.map Prod.fst = cartonsM r) (fun x => .tuple #[.agg [x.1.1, x.2].toArray, .bool (decide (classM r = 0))]) (fun x => [.grp 3 1 (x.1.2.map (sub CartonM.l)), .row x.1.1 54 3 (x.1.2.map CartonM.cells), .row x.2 86 4 ((planSpotsM r).map SpotM.cells)]) := by
  have hg4 := groups_len4 r
  have hcn := cartons_lenP r
  have hone1 := h.one_
  have hone2 := h2.one_
  have hone3 := h3.one_
  refine Fn.of (n := 75) Tryz.func12 rfl rfl ?_; refine zaJ (fun bk1 _ => ?_); refine zbn (fun bk2 _ => ?_); refine zba ?_; refine G.seq ?_; refine zbF ?_; refine zbH (fun _ _ => ?_); refine zcl ?_; refine G.cond rfl (fun hc => ?_) (fun hc => ?_)
  · have hno : ¬ classM r = 0 := (by clear h h2 h3; simp_all)
    refine zdk ?_; refine G.op0 (og_st0 rfl rfl rfl rfl rfl (by repeat (rfl)) (.zero (.cons (.cons .nil)))) (fun _ _ => ?_); refine zcf ?_; refine G.thenR ?_
    (refine G.frontB0 bk2 rfl ?_); refine G.nilRow 86 4 ?_; refine G.nilRow 54 3 ?_; refine zb5 ?_; refine G.retL ((.slice none 0 0, []), .slice none 0 0) ⟨rfl, rfl, (cartons_no hno).symm⟩ rfl (.cons (.cell 3 rfl rfl rfl) (.cons (.tmp rfl) .nil)) (by rw [decide_eq_false hno]) (fun w hh => by rw [planSpots_no hno]; exact hh.sublist (List.Sublist.cons_cons _ (List.Sublist.cons_cons _ (List.Sublist.cons_cons _ (List.nil_sublist _))))); done
  have hyes : classM r = 0 := (by clear h h2 h3; simp_all)
  refine zbR ?_; refine G.seq ?_; refine zbF ?_; refine G.op (og_callF2 rfl rfl (fun w hh => cartonsOf_any (r := r) w (Rd.stays h _ hh) (Rd.stays h2 _ hh) (Rd.stays h3 _ hh))) rfl ?_; rintro ⟨cv, cs⟩ ⟨hcv, hcs⟩; try dsimp only
  refine zfm (fun hova => ?_)
  have h48 : ∀ c ∈ cs, c.1.l.length ≤ 48 := (fun c hc => cartons_elt (by rw [← show cs.map Prod.fst = cartonsM r from hcs]; exact List.mem_map_of_mem hc))
  have hcl : cs.length ≤ 192 := (by have e : cs.length = (cartonsM r).length := (by rw [← show cs.map Prod.fst = cartonsM r from hcs, List.length_map]); omega)
  have hcl2 : (cs.map CartonM.cells).length = cs.length := List.length_map ..
  refine G.v (rv_build2 rfl (.cons (cells_one zf) .nil) (.cons rfl rfl (.zero (.cons .nil)) .nil)) rfl ?_; refine zbn (fun bk4 _ => ?_); refine G.op0 (og_st0 rfl rfl rfl rfl rfl (by repeat (first | rfl | refine one_cons zf ?_)) (.zero (.cons (.cons .nil)))) (fun _ _ => ?_); refine za1 ?_; refine zaG ?_; refine G.seq ?_; refine zbZ ?_; refine G.v (rv_loadW 4 rfl rfl rfl) rfl ?_; refine zdV ?_; rintro ⟨vg, gs⟩ ⟨hvg, hgs⟩; try dsimp only
  have hgl : (gs.map gcell).length = (groupsOfM r).length := by rw [← hgs]; simp
  refine zcP ?_; refine zbt ?_; refine G.nilRow 86 4 ?_; refine G.frontB3 bk4 rfl ?_; refine G.frontR1 (.slice none 0 0) rfl ?_; refine G.loopK (ι := Nat × Value) (ks := [1, 2, 4, 23]) (fun x => [(5, .int .i64 (spotsAt r x.1).2), (24, .int .i64 (x.1 : Int))]) (fun x => [.row x.2 86 4 ((spotsAt r x.1).1.map SpotM.cells), .blk bk4 33 [cv, x.2]]) (fun x => x.1 ≤ (groupsOfM r).length ∧ x.2.oneCell' = true ∧ (spotsAt r x.1).1.length ≤ 192 * x.1) (fun x => (groupsOfM r).length - x.1) (0, .slice none 0 0) (.cons rfl (.cons rfl (.cons rfl (.cons rfl (.nil))))) rfl ?_ ?_ ?_
  exact ⟨Nat.zero_le _, rfl, Nat.zero_le _⟩
  exact ⟨rfl, rfl, trivial⟩
  rintro ⟨k, sv⟩ ⟨hk, hosv, hsl⟩
  dsimp only at hk hosv hsl ⊢
  refine zbo ?_; refine G.condD rfl (fun hc => ?_) (fun hc => ?_)
  · simp only [hgl] at hc
    refine zea ?_; refine zaB ?_; refine zaW (fun vl _ => ?_); refine zba ?_; refine za2 ?_; refine G.v (rv_len rfl zal) rfl ?_; refine zbt ?_; refine G.frontR0 vl rfl ?_; refine G.loopK (ι := Nat × Value) (ks := [1, 2, 4, 5, 6, 23, 24, 29, 30]) (fun x => [(7, x.2), (31, .int .i64 (x.1 : Int))]) (fun x => [.row x.2 71 4 ((boxesAt r ((cs.take x.1).map Prod.fst) k).map BoxM.cells)]) (fun x => x.1 ≤ cs.length) (fun x => cs.length - x.1) (0, vl) (.cons rfl (.cons rfl (.cons rfl (.cons rfl (.cons rfl (.cons rfl (.cons rfl (.cons rfl (.cons rfl (.nil)))))))))) rfl ?_ ?_ ?_
    exact Nat.zero_le _
    exact ⟨rfl, rfl, trivial⟩
    rintro ⟨i, bv⟩ hi
    dsimp only at hi ⊢
    have hbl := bx_len r ((cs.take i).map Prod.fst) k
    have hbl4 : (boxesAt r ((cs.map Prod.fst).take i) k).length ≤ i := Nat.le_trans (bx_len r ((cs.map Prod.fst).take i) k) zab
    have hbl2 : ((boxesAt r ((cs.take i).map Prod.fst) k).map BoxM.cells).length = (boxesAt r ((cs.take i).map Prod.fst) k).length := List.length_map ..
    have hbl3 : ((cs.take i).map Prod.fst).length = i := (by rw [List.length_map, List.length_take]; omega)
    by_cases hlt : i < cs.length
    case' pos => (obtain ⟨b, hb⟩ := get_of_lt hlt; have he := get_map hb CartonM.cells; have hov := hova b (List.mem_of_getElem? hb); have hbl9 := h48 b (List.mem_of_getElem? hb))
    case' neg => (have hall : cs.take i = cs := take_all hlt; rw [hall])
    all_goals
     refine zbo ?_; refine G.cond rfl (fun hc => ?_) (fun hc => ?_)
     · all_goals
        replace hc := of_decide_eq_true hc
        try (exfalso; omega)
        all_goals
         refine zdo ?_; refine G.v (rv_indexH rfl rfl zal rfl zm) rfl ?_; refine G.v (rv_loadEW rfl zal zm rfl) rfl ?_; refine zbn (fun bk9 _ => ?_); refine G.op0 (og_st0 rfl rfl rfl rfl rfl (by repeat (first | rfl | refine one_cons (by first | rfl | assumption) ?_)) (.zero (.cons (.cons (.cons .nil))))) (fun _ _ => ?_); refine zdF ?_; refine zaK ?_; refine zaC ?_; refine zde ?_; refine za1 ?_; refine G.cond rfl (fun hc => ?_) (fun hc => ?_)
         · all_goals
            replace hc := of_decide_eq_true hc
            all_goals
             refine zbi ?_; refine G.v (rv_loadW 9 rfl rfl rfl) rfl ?_; refine zeG ?_; refine G.op (og_callV rfl rfl (fun w hh => boxOf_any (r := r) b w (Rd.stays h _ hh) (Rd.stays h2 _ hh) (Rd.stays h3 _ hh) (Subs.at (by exact Subs.owned 6 rfl _ hh) hb) zc)) rfl (fun _ _ => ?_); refine zaT (fun vx _ => ?_); refine zeK (fun va _ => ?_); refine za0 ?_; refine zaO ?_; refine G.frontR2 va rfl ?_; refine G.keep1P 2 rfl ?_; refine G.backK (i + 1, va) 0 (by exact one_eqP (congrArg (fun z => Ch.row va 71 4 z) (bx_yes hb hc))) (.cons rfl (.cons rfl (.cons rfl (.cons rfl (.cons rfl (.cons rfl (.cons rfl (.cons rfl (.cons rfl (.nil)))))))))) ?_ ?_ ?_
             exact ⟨rfl, rfl, trivial⟩
             dsimp only; omega
             dsimp only; omega
         · all_goals
            replace hc := of_decide_eq_false hc
            all_goals
             refine G.skip ?_; refine zaO ?_; refine G.frontR1 bv rfl ?_; refine G.keep1P 1 rfl ?_; refine G.backK (i + 1, bv) 0 (by exact one_eqP (congrArg (fun z => Ch.row bv 71 4 z) (bx_no hb hc))) (.cons rfl (.cons rfl (.cons rfl (.cons rfl (.cons rfl (.cons rfl (.cons rfl (.cons rfl (.cons rfl (.nil)))))))))) ?_ ?_ ?_
             exact ⟨rfl, rfl, trivial⟩
             dsimp only; omega
             dsimp only; omega
     · all_goals
        replace hc := of_decide_eq_false hc
        try (exfalso; omega)
        all_goals
         refine zaL ?_; refine zbZ ?_; refine zaS ?_; refine G.v (rv_loadP 8 rfl rfl (.skip (.one (.one (.one (.one .nil)))))) rfl ?_; refine zaC ?_; refine G.op (og_callF1 rfl rfl (fun w hh => implSpotsOf_any r.pal (l := boxesAt r (cs.map Prod.fst) k) w zF (Nat.le_trans (bx_len r (cs.map Prod.fst) k) zW))) rfl ?_; rintro vs hvs; try dsimp only
         obtain ⟨sp, hsp⟩ : ∃ sp, sp = spotsM r.pal (boxesAt r (cs.map Prod.fst) k) := ⟨_, rfl⟩
         rw [← hsp]
         have hspl : sp.length ≤ 192 := (by have := spots_le r.pal (boxesAt r (cs.map Prod.fst) k); have := bx_len r (cs.map Prod.fst) k; have : (cs.map Prod.fst).length = cs.length := List.length_map ..; rw [hsp]; omega)
         have hspl2 : (sp.map SpotM.cells).length = sp.length := List.length_map ..
         refine zeF ?_; refine G.op (og_callV rfl rfl (fun w hh => pallets_any (bs := sp) w zF)) rfl (fun _ _ => ?_); refine zcY ?_; refine zcI ?_; refine zbt ?_; refine ze8 ?_; refine G.loopK (ι := Nat × Value) (ks := [1, 2, 4, 5, 11, 23, 24, 52, 53]) (fun x => [(54, .int .i64 (x.1 : Int))]) (fun x => [.row x.2 86 4 (((spotsAt r k).1 ++ (sp.take x.1).map (movedM (spotsAt r k).2)).map SpotM.cells), .blk bk4 33 [cv, x.2]]) (fun x => x.1 ≤ sp.length ∧ x.2.oneCell' = true) (fun x => sp.length - x.1) (0, sv) (.cons rfl (.cons rfl (.cons rfl (.cons rfl (.cons rfl (.cons rfl (.cons rfl (.cons rfl (.cons rfl (.nil)))))))))) rfl ?_ ?_ ?_
         exact ⟨Nat.zero_le _, hosv⟩
         exact ⟨rfl, trivial⟩
         rintro ⟨j, sv2⟩ ⟨hj, hosv2⟩
         dsimp only at hj hosv2 ⊢
         have hl9 : (((spotsAt r k).1 ++ (sp.take j).map (movedM (spotsAt r k).2)).map SpotM.cells).length = (spotsAt r k).1.length + j := zac
         by_cases hltj : j < sp.length
         case' pos => (obtain ⟨s, hs⟩ := get_of_lt hltj; have he := get_map hs SpotM.cells)
         case' neg => (have hall2 : sp.take j = sp := take_all hltj)
         all_goals
          refine zbo ?_; refine G.cond rfl (fun hc => ?_) (fun hc => ?_)
          · all_goals
             replace hc := of_decide_eq_true hc
             try (exfalso; omega)
             all_goals
              refine zdo ?_; refine G.v (rv_indexH rfl rfl zj rfl zm) rfl ?_; refine G.v (rv_loadEW rfl zj zm rfl) rfl ?_; refine zbn (fun bk13 _ => ?_); refine zb0 (fun _ _ => ?_); refine zdF ?_; refine zaK ?_; refine zaC ?_; refine zeU ?_; refine zaS ?_; refine zcb (fun _ _ => ?_); refine za1 ?_; refine G.region ?_; refine zaS ?_; refine zdp ?_; refine zeG ?_; refine zaT (fun vy _ => ?_); refine zeK (fun vb _ => ?_); refine G.know (fun w hw => by exact (Rd.owned 2 rfl (v := vb) w hw).one_) (fun hovb => ?_); refine zaS ?_; refine G.op0 (og_st3 rfl rfl rfl (cells_one zf) rfl (by repeat (first | rfl | refine one_cons zf ?_)) (.succ (.zero (.cons .nil)))) (fun _ _ => ?_); refine G.done ?_
              refine zaO ?_; refine G.frontB3 bk4 rfl ?_; refine G.frontR3 vb rfl ?_; refine G.keep2P 2 rfl ?_; refine G.backK (j + 1, vb) 0 (two_eqP (congrArg (fun z => Ch.row vb 86 4 z) (mv_next hs)) rfl) (.cons rfl (.cons rfl (.cons rfl (.cons rfl (.cons rfl (.cons rfl (.cons rfl (.cons rfl (.cons rfl (.nil)))))))))) ?_ ?_ ?_
              exact ⟨rfl, trivial⟩
              exact ⟨hltj, hovb⟩
              dsimp only; omega
          · all_goals
             replace hc := of_decide_eq_false hc
             try (exfalso; omega)
             all_goals
              refine zaL ?_; refine zdX ?_; refine zeU ?_; refine za0 ?_; refine zaO ?_; refine G.frontB1 bk4 rfl ?_; refine G.frontR1 sv2 rfl ?_; refine G.keep2P 2 rfl ?_; refine G.backK (k + 1, sv2) 0 (two_eqP (congrArg (fun z : List SpotM => Ch.row sv2 86 4 (z.map SpotM.cells)) (by rw [plan_eq hcs hsp, hall2])) rfl) (.cons rfl (.cons rfl (.cons rfl (.cons rfl (.nil))))) ?_ ?_ ?_
              exact ⟨congrArg (fun z => some (Value.int .i64 z)) (by rw [plan_eq hcs hsp]), rfl, trivial⟩
              exact ⟨by (dsimp only; omega), hosv2, pl_len hsl⟩
              dsimp only; omega
  · simp only [hgl] at hc
    refine zaL ?_; refine G.seq ?_; refine zbF ?_; refine G.op0 (og_st6 rfl rfl rfl rfl rfl (by repeat (first | rfl | refine one_cons zf ?_)) (.zero (.cons (.cons .nil)))) (fun _ _ => ?_); refine zcf ?_
    have hkG : k = (groupsOfM r).length := zc; (refine G.frontB6 bk2 rfl ?_); (refine G.frontR1 sv rfl ?_); (refine G.frontR6 cv rfl ?_); (refine G.frontG6 (cs.map (sub CartonM.l)) rfl ?_); refine G.retL ((cv, cs), sv) ⟨hcv, hosv, hcs⟩ rfl (.cons (.cell 3 rfl rfl rfl) (.cons (.tmp rfl) .nil)) (by rw [decide_eq_true hyes]) (fun w hh => by rw [show planSpotsM r = (spotsAt r k).1 from by rw [planSpotsM, hkG]]; exact hh.sublist (List.Sublist.cons_cons _ (List.Sublist.cons_cons _ (List.Sublist.cons_cons _ (List.nil_sublist _))))); done
theorem splanOf_any : Fn Tryz.prog 10 [.agg (r.cells pv tv iv).toArray] w (fun x : (Value × List (CartonM × Value)) × Value => x.1.1.oneCell' = true ∧ x.2.oneCell' = true ∧ x.1.2.map Prod.fst = cartonsM r) (fun x => .tuple #[.agg [x.1.1, x.2].toArray, .bool (decide (classM r = 0))]) (fun x => [.grp 3 1 (x.1.2.map (sub CartonM.l)), .row x.1.1 54 3 (x.1.2.map CartonM.cells), .row x.2 86 4 ((planSpotsM r).map SpotM.cells)]) := by
  have hg4 := groups_len4 r
  have hcn := cartons_lenP r
  have hone1 := h.one_
  have hone2 := h2.one_
  have hone3 := h3.one_
  refine Fn.of (n := 84) Tryz.func10 rfl rfl ?_; refine zaJ (fun bk1 _ => ?_); refine zbn (fun bk2 _ => ?_); refine zba ?_; refine G.seq ?_; refine zbF ?_; refine zbw (fun _ _ => ?_); refine zci ?_; refine G.condD rfl (fun hc => ?_) (fun hc => ?_)
  · have hno : ¬ classM r = 0 := (by clear h h2 h3; simp_all)
    refine zdk ?_; refine G.op0 (og_st0 rfl rfl rfl rfl rfl (by repeat (rfl)) (.zero (.cons (.cons .nil)))) (fun _ _ => ?_); refine zcf ?_; refine G.thenR ?_
    (refine G.frontB0 bk2 rfl ?_); refine G.nilRow 86 4 ?_; refine G.nilRow 54 3 ?_; refine zb5 ?_; refine G.retL ((.slice none 0 0, []), .slice none 0 0) ⟨rfl, rfl, (cartons_no hno).symm⟩ rfl (.cons (.cell 3 rfl rfl rfl) (.cons (.tmp rfl) .nil)) (by rw [decide_eq_false hno]) (fun w hh => by rw [planSpots_no hno]; exact hh.sublist (List.Sublist.cons_cons _ (List.Sublist.cons_cons _ (List.Sublist.cons_cons _ (List.nil_sublist _))))); done
  have hyes : classM r = 0 := (by clear h h2 h3; simp_all)
  refine zbR ?_; refine G.seq ?_; refine zbF ?_; refine G.op (og_callF2 rfl rfl (fun w hh => scartonsOf_any (r := r) w (Rd.stays h _ hh) (Rd.stays h2 _ hh) (Rd.stays h3 _ hh))) rfl ?_; rintro ⟨cv, cs⟩ ⟨hcv, hcs⟩; try dsimp only
  refine zfm (fun hova => ?_)
  have h48 : ∀ c ∈ cs, c.1.l.length ≤ 48 := (fun c hc => cartons_elt (by rw [← show cs.map Prod.fst = cartonsM r from hcs]; exact List.mem_map_of_mem hc))
  have hcl : cs.length ≤ 192 := (by have e : cs.length = (cartonsM r).length := (by rw [← show cs.map Prod.fst = cartonsM r from hcs, List.length_map]); omega)
  have hcl2 : (cs.map CartonM.cells).length = cs.length := List.length_map ..
  refine G.v (rv_build2 rfl (.cons (cells_one zf) .nil) (.cons rfl rfl (.zero (.cons .nil)) .nil)) rfl ?_; refine zbn (fun bk4 _ => ?_); refine G.op0 (og_st0 rfl rfl rfl rfl rfl (by repeat (first | rfl | refine one_cons zf ?_)) (.zero (.cons (.cons .nil)))) (fun _ _ => ?_); refine za1 ?_; refine zaG ?_; refine zbZ ?_; refine G.v (rv_loadW 4 rfl rfl rfl) rfl ?_; refine zdQ ?_; rintro ⟨vg, gs⟩ ⟨hvg, hgs⟩; try dsimp only
  have hgl : (gs.map gcell).length = (groupsOfM r).length := by rw [← hgs]; simp
  refine zdR ?_; refine G.nilRow 86 4 ?_; refine G.frontB3 bk4 rfl ?_; refine G.frontR1 (.slice none 0 0) rfl ?_; refine G.loopK (ι := Nat × Value) (ks := [1, 2, 4, 6]) (fun x => [(5, .int .i64 (spotsAt r x.1).2), (7, .int .i64 (x.1 : Int))]) (fun x => [.row x.2 86 4 ((spotsAt r x.1).1.map SpotM.cells), .blk bk4 33 [cv, x.2]]) (fun x => x.1 ≤ (groupsOfM r).length ∧ x.2.oneCell' = true ∧ (spotsAt r x.1).1.length ≤ 192 * x.1) (fun x => (groupsOfM r).length - x.1) (0, .slice none 0 0) (.cons rfl (.cons rfl (.cons rfl (.cons rfl (.nil))))) rfl ?_ ?_ ?_
  exact ⟨Nat.zero_le _, rfl, Nat.zero_le _⟩
  exact ⟨rfl, rfl, trivial⟩
  rintro ⟨k, sv⟩ ⟨hk, hosv, hsl⟩
  dsimp only at hk hosv hsl ⊢
  refine zcT ?_; refine G.v (rv_len rfl zG) rfl ?_; refine zaI ?_; refine G.condD rfl (fun hc => ?_) (fun hc => ?_)
  · simp only [hgl] at hc
    refine zaQ ?_; refine zaW (fun vl _ => ?_); refine zdR ?_; refine G.frontR0 vl rfl ?_; refine G.loopK (ι := Nat × Value) (ks := [1, 2, 4, 5, 6, 7]) (fun x => [(8, x.2), (9, .int .i64 (x.1 : Int))]) (fun x => [.row x.2 71 4 ((boxesAt r ((cs.take x.1).map Prod.fst) k).map BoxM.cells)]) (fun x => x.1 ≤ cs.length) (fun x => cs.length - x.1) (0, vl) (.cons rfl (.cons rfl (.cons rfl (.cons rfl (.cons rfl (.cons rfl (.nil))))))) rfl ?_ ?_ ?_
    exact Nat.zero_le _
    exact ⟨rfl, rfl, trivial⟩
    rintro ⟨i, bv⟩ hi
    dsimp only at hi ⊢
    have hbl := bx_len r ((cs.take i).map Prod.fst) k
    have hbl4 : (boxesAt r ((cs.map Prod.fst).take i) k).length ≤ i := Nat.le_trans (bx_len r ((cs.map Prod.fst).take i) k) zab
    have hbl2 : ((boxesAt r ((cs.take i).map Prod.fst) k).map BoxM.cells).length = (boxesAt r ((cs.take i).map Prod.fst) k).length := List.length_map ..
    have hbl3 : ((cs.take i).map Prod.fst).length = i := (by rw [List.length_map, List.length_take]; omega)
    by_cases hlt : i < cs.length
    case' pos => (obtain ⟨b, hb⟩ := get_of_lt hlt; have he := get_map hb CartonM.cells; have hov := hova b (List.mem_of_getElem? hb); have hbl9 := h48 b (List.mem_of_getElem? hb))
    case' neg => (have hall : cs.take i = cs := take_all hlt; rw [hall])
    all_goals
     refine zfn ?_; refine zaS ?_; refine zdp ?_; refine G.v (rv_len rfl zal) rfl ?_; refine zaI ?_; refine G.cond rfl (fun hc => ?_) (fun hc => ?_)
     · all_goals
        replace hc := of_decide_eq_true hc
        try (exfalso; omega)
        all_goals
         refine zaQ ?_; refine za2 ?_; refine zaC ?_; refine G.v (rv_indexH rfl rfl zal rfl zm) rfl ?_; refine zbq ?_; refine G.v (rv_loadE rfl zal zm rfl) rfl ?_; refine zaC ?_; refine zde ?_; refine za1 ?_; refine G.cond rfl (fun hc => ?_) (fun hc => ?_)
         · all_goals
            replace hc := of_decide_eq_true hc
            all_goals
             refine G.frontR0 bv rfl ?_; refine G.drawD1 [10] rfl ?_; refine zd1 ?_; refine GE.q2 1 rfl za rfl (qg_runs (rv_loadW 7 rfl rfl rfl)) zn rfl ?_; refine GE.q2 2 rfl za rfl (qg_runs (rv_field rfl)) zn rfl ?_; refine GE.q2 3 rfl za rfl (qg_runs (rv_load1 1 rfl rfl rfl)) zn rfl ?_; refine GE.ol 4 za rfl rfl (og_runs (rv_move rfl)) rfl zk (fun _ _ => ?_); refine GE.ol 5 za rfl rfl (og_runs (rv_indexH rfl rfl zal rfl zm)) rfl zk (fun _ _ => ?_); refine GE.ol 6 za rfl rfl (og_runs (rv_loadEW rfl zal zm rfl)) rfl zk (fun _ _ => ?_); refine GE.ol 7 za rfl rfl (og_callV rfl rfl (fun w hh => sboxOf_any (r := r) b w (Rd.stays h _ hh) (Rd.stays h2 _ hh) (Rd.stays h3 _ hh) (Subs.at (by exact Subs.owned 5 rfl _ hh) hb) zc)) rfl zk (fun _ _ => ?_); refine zc2 (fun vx _ => ?_)
             refine zcj (fun va _ => ?_); refine GE.t 10 za rfl rfl rfl (og_runs (rv_assign rfl)) rfl (fun _ _ => ?_); refine zcw ?_; refine zaE ?_; refine G.frontR1 va rfl ?_; refine G.keep1P 1 rfl ?_; refine G.backK (i + 1, va) 0 (by exact one_eqP (congrArg (fun z => Ch.row va 71 4 z) (bx_yes hb hc))) (.cons rfl (.cons rfl (.cons rfl (.cons rfl (.cons rfl (.cons rfl (.nil))))))) ?_ ?_ ?_
             exact ⟨rfl, rfl, trivial⟩
             dsimp only; omega
             dsimp only; omega
         · all_goals
            replace hc := of_decide_eq_false hc
            all_goals
             refine zff ?_; refine G.frontR0 bv rfl ?_; refine G.keep1P 0 rfl ?_; refine G.backK (i + 1, bv) 0 (by exact one_eqP (congrArg (fun z => Ch.row bv 71 4 z) (bx_no hb hc))) (.cons rfl (.cons rfl (.cons rfl (.cons rfl (.cons rfl (.cons rfl (.nil))))))) ?_ ?_ ?_
             exact ⟨rfl, rfl, trivial⟩
             dsimp only; omega
             dsimp only; omega
     · all_goals
        replace hc := of_decide_eq_false hc
        try (exfalso; omega)
        all_goals
         refine zaL ?_; refine zbZ ?_; refine zaS ?_; refine G.v (rv_loadP 8 rfl rfl (.skip (.one (.one (.one (.one .nil)))))) rfl ?_; refine zaC ?_; refine G.op (og_callF1 rfl rfl (fun w hh => specSpotsOf_any r.pal (l := boxesAt r (cs.map Prod.fst) k) w zF (Nat.le_trans (bx_len r (cs.map Prod.fst) k) zW))) rfl ?_; rintro vs hvs; try dsimp only
         obtain ⟨sp, hsp⟩ : ∃ sp, sp = spotsM r.pal (boxesAt r (cs.map Prod.fst) k) := ⟨_, rfl⟩
         rw [← hsp]
         have hspl : sp.length ≤ 192 := (by have := spots_le r.pal (boxesAt r (cs.map Prod.fst) k); have := bx_len r (cs.map Prod.fst) k; have : (cs.map Prod.fst).length = cs.length := List.length_map ..; rw [hsp]; omega)
         have hspl2 : (sp.map SpotM.cells).length = sp.length := List.length_map ..
         refine zdR ?_; refine ze8 ?_; refine G.loopK (ι := Nat × Value) (ks := [1, 2, 4, 5, 6, 7, 10]) (fun x => [(11, .int .i64 (x.1 : Int))]) (fun x => [.row x.2 86 4 (((spotsAt r k).1 ++ (sp.take x.1).map (movedM (spotsAt r k).2)).map SpotM.cells), .blk bk4 33 [cv, x.2]]) (fun x => x.1 ≤ sp.length ∧ x.2.oneCell' = true) (fun x => sp.length - x.1) (0, sv) (.cons rfl (.cons rfl (.cons rfl (.cons rfl (.cons rfl (.cons rfl (.cons rfl (.nil)))))))) rfl ?_ ?_ ?_
         exact ⟨Nat.zero_le _, hosv⟩
         exact ⟨rfl, trivial⟩
         rintro ⟨j, sv2⟩ ⟨hj, hosv2⟩
         dsimp only at hj hosv2 ⊢
         have hl9 : (((spotsAt r k).1 ++ (sp.take j).map (movedM (spotsAt r k).2)).map SpotM.cells).length = (spotsAt r k).1.length + j := zac
         by_cases hltj : j < sp.length
         case' pos => (obtain ⟨s, hs⟩ := get_of_lt hltj; have he := get_map hs SpotM.cells)
         case' neg => (have hall2 : sp.take j = sp := take_all hltj)
         all_goals
          refine zcT ?_; refine zdm ?_; refine zaI ?_; refine G.cond rfl (fun hc => ?_) (fun hc => ?_)
          · all_goals
             replace hc := of_decide_eq_true hc
             try (exfalso; omega)
             all_goals
              refine zaQ ?_; refine zaM ?_; refine G.v (rv_indexH rfl rfl zj rfl zm) rfl ?_; refine G.v (rv_loadEW rfl zj zm rfl) rfl ?_; refine zbn (fun bk12 _ => ?_); refine zb0 (fun _ _ => ?_); refine zdF ?_; refine zaK ?_; refine zaC ?_; refine zeU ?_; refine zaS ?_; refine zcb (fun _ _ => ?_); refine za1 ?_; refine G.region ?_; refine zaS ?_; refine zdp ?_; refine zeG ?_; refine zaT (fun vy _ => ?_); refine zeK (fun vb _ => ?_); refine G.know (fun w hw => by exact (Rd.owned 2 rfl (v := vb) w hw).one_) (fun hovb => ?_); refine zaS ?_
              refine G.op0 (og_st3 rfl rfl rfl (cells_one zf) rfl (by repeat (first | rfl | refine one_cons zf ?_)) (.succ (.zero (.cons .nil)))) (fun _ _ => ?_); refine G.done ?_; refine zaE ?_; refine G.frontB3 bk4 rfl ?_; refine G.frontR3 vb rfl ?_; refine G.keep2P 2 rfl ?_; refine G.backK (j + 1, vb) 0 (two_eqP (congrArg (fun z => Ch.row vb 86 4 z) (mv_next hs)) rfl) (.cons rfl (.cons rfl (.cons rfl (.cons rfl (.cons rfl (.cons rfl (.cons rfl (.nil)))))))) ?_ ?_ ?_
              exact ⟨rfl, trivial⟩
              exact ⟨hltj, hovb⟩
              dsimp only; omega
          · all_goals
             replace hc := of_decide_eq_false hc
             try (exfalso; omega)
             all_goals
              refine zaL ?_; refine zdX ?_; refine G.op (og_callV rfl rfl (fun w hh => spallets_any (bs := sp) w zT)) rfl (fun _ _ => ?_); refine zeU ?_; refine zeC ?_; refine G.frontB1 bk4 rfl ?_; refine G.frontR1 sv2 rfl ?_; refine G.keep2P 2 rfl ?_; refine G.backK (k + 1, sv2) 0 (two_eqP (congrArg (fun z : List SpotM => Ch.row sv2 86 4 (z.map SpotM.cells)) (by rw [plan_eq hcs hsp, hall2])) rfl) (.cons rfl (.cons rfl (.cons rfl (.cons rfl (.nil))))) ?_ ?_ ?_
              exact ⟨congrArg (fun z => some (Value.int .i64 z)) (by rw [plan_eq hcs hsp]), rfl, trivial⟩
              exact ⟨by (dsimp only; omega), hosv2, pl_len hsl⟩
              dsimp only; omega
  · simp only [hgl] at hc
    refine zaL ?_; refine G.seq ?_; refine zbF ?_; refine G.op0 (og_st6 rfl rfl rfl rfl rfl (by repeat (first | rfl | refine one_cons zf ?_)) (.zero (.cons (.cons .nil)))) (fun _ _ => ?_); refine zcf ?_
    have hkG : k = (groupsOfM r).length := zc; (refine G.frontB6 bk2 rfl ?_); (refine G.frontR1 sv rfl ?_); (refine G.frontR6 cv rfl ?_); (refine G.frontG6 (cs.map (sub CartonM.l)) rfl ?_); refine G.retL ((cv, cs), sv) ⟨hcv, hosv, hcs⟩ rfl (.cons (.cell 3 rfl rfl rfl) (.cons (.tmp rfl) .nil)) (by rw [decide_eq_true hyes]) (fun w hh => by rw [show planSpotsM r = (spotsAt r k).1 from by rw [planSpotsM, hkG]]; exact hh.sublist (List.Sublist.cons_cons _ (List.Sublist.cons_cons _ (List.Sublist.cons_cons _ (List.nil_sublist _))))); done
end
end Go.Proofs.YtglpgohilfoecaaGreat
