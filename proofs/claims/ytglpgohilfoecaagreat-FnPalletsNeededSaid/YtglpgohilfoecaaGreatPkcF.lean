/-
  Texts of this proof, one behind the other: Piles, Shelv, Shelv2, ShelfLaw, StackLaw, SpotP, Spots, Spots2, PackLaw, LowLaw, CartLaw.
-/
import Derived.Test.YtglpgohilfoecaaGreatPkcA
import Derived.Test.YtglpgohilfoecaaGreatPkcE
import Derived.Test.YtglpgohilfoecaaGreatPkcC
import Derived.Test.YtglpgohilfoecaaGreatPkcD
set_option linter.unusedVariables false
set_option linter.unusedSimpArgs false

/-
  Shelves that are put into layers, and layers into loads.
-/
namespace Go.Proofs.YtglpgohilfoecaaGreat
open Go.RowKit
attribute [local irreducible] Go.wpList Go.Code.wp Go.Exit.then Go.Exit.inBlock Go.bodyPost Go.Calls pE pB G RunsV FnV Fn FnM
set_option maxRecDepth 100000
set_option maxHeartbeats 1000000
theorem sub_set {M : Type} {f : M → List Int} {us : List (M × Value)} {q : Nat} {m : M} {v : Value} {es : List (List Value)} (h : (f m).map icell = es) : (us.map (sub f)).set q (v, es) = (us.set q (m, v)).map (sub f) := by
  subst h; rw [List.map_set]; rfl
theorem cells_set {M : Type} {c : M × Value → List Value} {us : List (M × Value)} {q : Nat} {m : M × Value} {e : List Value} (h : c m = e) : (us.map c).set q e = (us.set q m).map c := by
  subst h; rw [List.map_set]

theorem lay_end {p : PalletM} {ss : List ShelfM} {m : List LayerM} {k : Nat} (hok : shelvesOkM p ss = true) (hM : m = (ss.zipIdx.take k).foldl (pileStep (layRoom p) layAdd layZ) []) (hk : ¬ k < ss.length) : m = layersM p ss := by
  rw [hM, layersM, if_pos hok, List.take_of_length_le z8]; rfl
theorem load_end {p : PalletM} {ss : List LayerM} {m : List LoadM} {k : Nat} (hok : stacksOkM p ss = true) (hM : m = (ss.zipIdx.take k).foldl (pileStep (loadRoom p) loadAdd loadZ) []) (hk : ¬ k < ss.length) : m = loadsM p ss := by
  rw [hM, loadsM, if_pos hok, List.take_of_length_le z8]; rfl

theorem bnot_no {b : Bool} (h : (!b) = false) : b = true := by cases b <;> simp_all
theorem palletOk_of {q r : Bool} (h : (!(q && r)) = false) : q = true := by cases q <;> simp_all
theorem pile_sum {M S : Type} {room : M → S → Bool} {add : M → Nat → S → M} {z : M} (f : M → Nat) (hz : ∀ k s, f (add z k s) ≤ 1) (hs : ∀ t k s, f (add t k s) = f t + 1) : ∀ (xs : List (S × Nat)) (out : List M) (n : Nat), (∀ t ∈ out, f t ≤ n) → ∀ t ∈ xs.foldl (pileStep room add z) out, f t ≤ n + xs.length
  | [], out, n, h => h
  | x :: r, out, n, h => by
    intro t ht
    have h2 : ∀ t ∈ pileStep room add z out x, f t ≤ n + 1 := by
      intro t ht
      unfold pileStep at ht
      split at ht
      · rename_i u hu
        split at ht
        · rcases List.mem_or_eq_of_mem_set ht with h1 | h1
          · have := h t h1; omega
          · rw [h1, hs]; have := h u (List.mem_of_getLast? hu); omega
        · rcases List.mem_append.1 ht with h1 | h1
          · have := h t h1; omega
          · rw [List.mem_singleton.1 h1]; have := hz x.2 x.1; omega
      · rcases List.mem_append.1 ht with h1 | h1
        · have := h t h1; omega
        · rw [List.mem_singleton.1 h1]; have := hz x.2 x.1; omega
    have := pile_sum f hz hs r _ (n + 1) h2 t ht
    simp only [List.length_cons]; omega
theorem lay_lens {p : PalletM} (xs : List (ShelfM × Nat)) (k : Nat) : ∀ t ∈ (xs.take k).foldl (pileStep (layRoom p) layAdd layZ) [], t.l.length ≤ k := by
  intro t ht
  have := pile_sum (room := layRoom p) (add := layAdd) (z := layZ) (fun t => t.l.length) (by simp [layAdd, layZ]) (by simp [layAdd]) (xs.take k) [] 0 zD t ht
  rw [List.length_take] at this; omega
theorem load_lens {p : PalletM} (xs : List (LayerM × Nat)) (k : Nat) : ∀ t ∈ (xs.take k).foldl (pileStep (loadRoom p) loadAdd loadZ) [], t.l.length ≤ k := by
  intro t ht
  have := pile_sum (room := loadRoom p) (add := loadAdd) (z := loadZ) (fun t => t.l.length) (by simp [loadAdd, loadZ]) (by simp [loadAdd]) (xs.take k) [] 0 zD t ht
  rw [List.length_take] at this; omega

theorem implLayersOf_any (p : PalletM) {v : Value} {l : List (ShelfM × Value)} (w : World) (h : Rd w v 5 (l.map ShelfM.cells)) (hb : l.length ≤ 1048576) :
    Fn Tryz.prog 96 [p.val, v] w (fun x : Value × List (LayerM × Value) => x.1.oneCell' = true ∧ x.2.map Prod.fst = layersM p (l.map Prod.fst)) (fun x => x.1) (fun x => [.grp 3 1 (x.2.map (sub LayerM.l)), .row x.1 129 4 (x.2.map LayerM.cells)]) := by
  have pile_lens : ∀ (xs : List (ShelfM × Nat)) (k : Nat), ∀ t ∈ (xs.take k).foldl (pileStep (layRoom p) layAdd layZ) [], t.l.length ≤ k := fun xs k => lay_lens xs k
  refine Fn.of (n := 102) Tryz.func96 rfl rfl ?_; refine zaU (fun bk2 _ => ?_); refine zbk ?_; refine za7 ?_; refine zaM ?_; refine G.op (og_callV rfl rfl (fun w hh => implShelvesOk_any _ w zH)) rfl (fun _ _ => ?_); refine zcI ?_; refine G.cond rfl (fun hc => ?_) (fun hc => ?_); refine zdM ?_
  exact G.retF (.slice none 0 0, []) ⟨rfl, by rw [layersM, if_neg (by intro hq; simp only [shelvesOkM] at hq; rw [hq] at hc; exact Bool.noConfusion hc)]; rfl⟩ rfl rfl rfl (fun w hw => (hw.none.nilRow _ _).nilGrp _ _)
  · refine G.skip ?_
    refine G.thenN ?_; refine zct ?_; refine zda (fun vl _ => ?_); refine zfb ?_; refine zeV ?_
    have hok := hc
    have hpp := pallet_in (palletOk_of hc)
    refine zcf ?_; refine G.loopK (ι := Nat × List (LayerM × Value) × Value) (ks := [2, 15, 16]) (fun x => [(5, x.2.2), (17, .int .i64 x.1)]) (fun x => [.grp 3 1 (x.2.1.map (sub LayerM.l)), .row x.2.2 129 4 (x.2.1.map LayerM.cells)]) (fun x => x.1 ≤ l.length ∧ x.2.1.map Prod.fst = ((l.map Prod.fst).zipIdx.take x.1).foldl (pileStep (layRoom p) layAdd layZ) []) (fun x => l.length - x.1) (0, [], vl) (.cons rfl (.cons rfl (.cons rfl (.nil)))) rfl ?_ ?_ ?_
    exact ⟨Nat.zero_le _, rfl⟩
    exact ⟨rfl, rfl, trivial⟩
    rintro ⟨k, ts, v2⟩ ⟨hk, hM⟩
    dsimp only at hk hM ⊢
    by_cases hlt : k < l.length
    case' pos => (obtain ⟨b, hb2⟩ := get_of_lt hlt; have heb := get_map hb2 ShelfM.cells; have hobb := heap_in (ok_at hok (fst_at hb2 : (l.map Prod.fst)[k]? = some b.1)).2; have hov : b.2.oneCell' = true := (h.good _ (List.mem_of_getElem? heb)).2 b.2 (by simp [ShelfM.cells]); have hz := zip_get (fst_at hb2 : (l.map Prod.fst)[k]? = some b.1); have hl0 : (ts.map LayerM.cells).length = ts.length := zD; have hlk : ts.length ≤ k := (by (have := pile_len (room := layRoom p) (add := layAdd) (z := layZ) ((l.map Prod.fst).zipIdx.take k) []; rw [← hM] at this; simp only [List.length_map, List.length_nil, List.length_take] at this; omega)); rcases nil_or_snoc ts with hts | ⟨tp, t, hts⟩; have hn0 : ts.length = 0 := (by rw [hts]; rfl); rotate_left; have hn1 : ts.length = tp.length + 1 := zaB; obtain ⟨q, hq⟩ : ∃ y, y = tp.length := ⟨_, rfl⟩; have htq : ts[q]? = some t := zab; have he := get_map htq LayerM.cells; have hgi : (ts.map (sub LayerM.l))[q]? = some (t.2, t.1.l.map icell) := get_mapS htq; have hbt : 0 ≤ t.1.d ∧ t.1.d ≤ p.d ∧ 0 ≤ t.1.h ∧ t.1.h ≤ p.h ∧ 0 ≤ t.1.g ∧ t.1.g ≤ p.g := (by (have := lay_bd (p := p) (ss := (l.map Prod.fst)) (bnot_no hok) k; rw [← hM] at this; exact this t.1 (List.mem_map.2 ⟨t, List.mem_of_getElem? htq, rfl⟩))); refine zc5 (fun hov2 => ?_); have hlb : t.1.l.length ≤ 1048576 := (by (have := pile_lens (l.map Prod.fst).zipIdx k; rw [← hM] at this; have := this t.1 (List.mem_map.2 ⟨t, List.mem_of_getElem? htq, rfl⟩); omega)))
    all_goals
     refine zbs ?_; refine G.cond rfl (fun hc => ?_) (fun hc => ?_)
     · all_goals
        replace hc := of_decide_eq_true hc
        simp only [List.length_map] at hc
        try (exfalso; omega)
        all_goals
         refine zee ?_; refine zb9 (fun bk7 _ => ?_); refine zcD ?_; refine G.op0 (og_st0 rfl rfl rfl rfl rfl (by repeat (first | rfl | refine one_cons zc ?_)) (.zero (.cons (.cons (.cons (.cons (.cons .nil))))))) (fun _ _ => ?_); refine zeC ?_; refine zdG ?_
         first | refine zeg ?_ | refine zdf ?_
         refine zbk ?_; refine G.seq ?_; refine zcs (fun _ _ => ?_); refine GE.ol 1 za rfl rfl (og_runs (rv_lss rfl rfl)) rfl zd (fun _ _ => ?_); refine zcl (fun _ _ => ?_)
         all_goals (((with_reducible refine GE.part (t := 27) rfl (fun hg => ?_) (fun hg => ?_)) <;> (try exact Bool.noConfusion hg) <;> (try (exfalso; (have hq := of_decide_eq_false hg; omega))) <;> (first | refine zbO ?_ | refine zfD ?_)))
         all_goals ((first | refine zbU ?_ | refine zeI ?_))
         all_goals ((first | (refine GE.q 5 rfl za rfl (qg_runs (rv_indexH (k := q) rfl rfl zm zb zq)) rfl ?_) | refine zeJ ?_))
         all_goals ((first | (refine GE.q 6 rfl za rfl (qg_runs (rv_fieldE rfl)) rfl ?_) | refine zeK ?_))
         all_goals ((first | refine GE.q 7 rfl za rfl (qg_runs (rv_loadE rfl zF zU rfl)) rfl ?_ | refine zeL ?_))
         all_goals ((first | (refine GE.q 8 rfl za rfl (qg_runs (rv_field rfl)) rfl ?_) | refine zd9 ?_))
         all_goals ((first | (refine GE.q 9 rfl za rfl (qg_runs (rv_load1 0 rfl rfl rfl)) rfl ?_) | refine zea ?_))
         all_goals ((first | (refine GE.q 10 rfl za rfl (qg_runs (rv_addB rfl rfl zb zb)) rfl ?_) | refine zdT ?_))
         all_goals ((first | (refine zek ?_) | refine zdF ?_))
         all_goals ((first | (refine GE.q 12 rfl za rfl (qg_runs (rv_load1 3 rfl rfl rfl)) rfl ?_) | refine zdq ?_))
         all_goals ((first | refine GE.q 13 rfl za rfl (qg_runs (rv_gtr rfl rfl)) rfl ?_ | refine zdr ?_))
         all_goals ((first | refine zfI (fun _ _ => ?_) | refine zfJ (fun _ _ => ?_)))
         all_goals (refine zeT (fun _ _ => ?_))
         all_goals (((with_reducible refine GE.part (t := 40) rfl (fun hg => ?_) (fun hg => ?_)) <;> (try exact Bool.noConfusion hg) <;> (try (exfalso; (have hq := of_decide_eq_false hg; omega))) <;> (first | refine ze7 ?_ | refine GE.qn 16 rfl za rfl rfl ?_)))
         all_goals ((first | refine zdg ?_ | refine zeh ?_))
         all_goals ((first | (refine GE.q 18 rfl za rfl (qg_runs (rv_indexH (k := q) rfl rfl zm zb zq)) rfl ?_) | refine zfm ?_))
         all_goals ((first | (refine GE.q 19 rfl za rfl (qg_runs (rv_fieldE rfl)) rfl ?_) | refine zfW ?_))
         all_goals ((first | refine GE.q 20 rfl za rfl (qg_runs (rv_loadE rfl zF zU rfl)) rfl ?_ | refine zfh ?_))
         all_goals ((first | (refine GE.q 21 rfl za rfl (qg_runs (rv_field rfl)) rfl ?_) | refine zfi ?_))
         all_goals ((first | (refine GE.q 22 rfl za rfl (qg_runs (rv_load1 0 rfl rfl rfl)) rfl ?_) | refine zfj ?_))
         all_goals ((first | (refine GE.q 23 rfl za rfl (qg_runs (rv_addB rfl rfl zb zb)) rfl ?_) | refine zfk ?_))
         all_goals ((first | (refine GE.q 24 rfl za rfl (qg_runs (rv_field rfl)) rfl ?_) | refine GE.qn 24 rfl za rfl rfl ?_))
         all_goals ((first | (refine GE.q 25 rfl za rfl (qg_runs (rv_load1 3 rfl rfl rfl)) rfl ?_) | refine GE.qn 25 rfl za rfl rfl ?_))
         all_goals ((first | refine GE.q 26 rfl za rfl (qg_runs (rv_gtr rfl rfl)) rfl ?_ | refine zfl ?_))
         all_goals ((first | refine GE.ol 27 za rfl rfl (og_runs (rv_pickT rfl rfl)) rfl zd (fun _ _ => ?_) | refine GE.ol 27 za rfl rfl (og_runs (rv_pickF rfl rfl)) rfl zd (fun _ _ => ?_)))
         all_goals
          refine zbm ?_; refine G.cond rfl (fun hc => ?_) (fun hc => ?_)
          · all_goals
             try replace hc := of_decide_eq_true hc
             try simp only [List.length_map] at hc
             all_goals
              refine zcL (fun vl _ => ?_); refine zcC (fun va _ => ?_); refine zaL ?_; refine zbq ?_
              first | refine zeQ ?_ | refine zcd ?_
              obtain ⟨q, hq⟩ : ∃ y, y = ts.length := ⟨_, rfl⟩
              obtain ⟨t, htt⟩ : ∃ y, y = ((layZ, .slice none 0 0) : LayerM × Value) := ⟨_, rfl⟩
              obtain ⟨us, hus⟩ : ∃ y, y = ts ++ [t] := ⟨_, rfl⟩
              obtain ⟨vr, hvr⟩ : ∃ y, y = va := ⟨_, rfl⟩
              subst hvr
              have huq : us[q]? = some t := by rw [hus, hq]; simp
              have he : (us.map LayerM.cells)[q]? = some (LayerM.cells t) := get_map huq LayerM.cells
              have hgi : (us.map (sub LayerM.l))[q]? = some (t.2, t.1.l.map icell) := get_mapS huq
              have hl1 : (us.map LayerM.cells).length = q + 1 := by rw [hus, hq]; simp
              have hzd : t.1.d = 0 := zak; have hzh : t.1.h = 0 := zak; have hzg : t.1.g = 0 := zak
              have htl : t.1.l.length = 0 := by rw [htt]; rfl
              have hov2 : t.2.oneCell' = true := by rw [htt]; rfl
              have hst : pileStep (layRoom p) layAdd layZ (ts.map Prod.fst) (b.1, k) = (us.map Prod.fst).set q (layAdd t.1 k b.1) := by
                have e : us.map Prod.fst = ts.map Prod.fst ++ [layZ] := by rw [hus, htt]; simp
                rw [e, htt, hq]
                have := pile_new (room := layRoom p) (add := layAdd) (z := layZ) (out := ts.map Prod.fst) (s := b.1) (k := k) (by intro t2 ht2; first | (rw [hts] at ht2; simp at ht2; done) | (rw [last_of hts] at ht2; obtain rfl := Option.some.inj ht2; simp only [layRoom, Bool.and_eq_false_iff, decide_eq_false_iff_not]; (first | (have hq9 := of_decide_eq_true hg; omega) | omega)))
                rw [this]; simp
              refine zd4 ?_; refine zcQ ?_; refine zff ?_; refine zcQ ?_; refine zdo ?_; refine G.v (rv_loadE rfl zi zq rfl) rfl ?_; refine zaM ?_; refine za2 (fun vl _ => ?_); refine zdX (fun va _ => ?_)
              skip; refine zcN (fun hova => ?_)
              refine zdo ?_; refine G.op0 (og_stE2 rfl rfl rfl zq (cells_one zc) rfl (by repeat (first | rfl | refine one_cons zc ?_)) rfl (.zero (.cons .nil))) (fun _ _ => ?_); refine ze1 ?_; refine za5 ?_; refine GE.q 3 rfl za rfl (qg_runs (rv_loadE rfl zm zaf rfl)) rfl ?_; refine zck (fun _ _ => ?_); refine zdt (fun _ _ => ?_); refine zbK (fun _ _ => ?_); refine zb7 (fun _ _ => ?_); refine zch (fun _ _ => ?_)
              refine ze3 (fun _ _ => ?_); refine zbF ?_; refine GE.q 4 rfl za rfl (qg_runs (rv_loadE rfl zm zV rfl)) rfl ?_; refine zec (fun _ _ => ?_); refine GE.ol 6 za rfl rfl (og_runs (rv_load1 4 rfl rfl rfl)) rfl zd (fun _ _ => ?_); refine zdY (fun _ _ => ?_); refine zdO (fun _ _ => ?_); refine zds (fun _ _ => ?_)
              refine GE.t0 10 za rfl rfl rfl (og_stE2 rfl rfl rfl zV rfl rfl rfl rfl (.succ (.succ (.zero (.cons .nil))))) (fun _ _ => ?_); refine zbm ?_; refine za5 ?_; refine GE.q 3 rfl za rfl (qg_runs (rv_loadE rfl zm zZ rfl)) rfl ?_; refine zck (fun _ _ => ?_); refine zdt (fun _ _ => ?_); refine zbK (fun _ _ => ?_); refine zb7 (fun _ _ => ?_); refine zch (fun _ _ => ?_)
              refine GE.t0 9 za rfl rfl rfl (og_stE2 rfl rfl rfl zZ rfl rfl rfl rfl (.succ (.succ (.succ (.zero (.cons .nil)))))) (fun _ _ => ?_); refine zb3 ?_; refine zaX ?_; refine zfS ?_; refine G.backK (k + 1, us.set q (layAdd t.1 k b.1, va), vr) 0 (two_eq (congrArg (fun z => Ch.grp 3 1 z) (sub_set (by simp only [layAdd, List.map_append, List.map_cons, List.map_nil, icell]))) (congrArg (fun z => Ch.row vr 129 4 z) (by rw [List.set_set, List.set_set, List.set_set]; exact cells_set rfl))) (.cons rfl (.cons rfl (.cons rfl (.nil)))) ?_ ?_ ?_
              exact ⟨rfl, rfl, trivial⟩
              exact ⟨hlt, by rw [foldl_take_succ hz, ← hM, hst, List.map_set]⟩
              omega
          · try exact Bool.noConfusion hc
            all_goals
             replace hc := of_decide_eq_false hc
             all_goals
              obtain ⟨us, hus⟩ : ∃ y, y = ts := ⟨_, rfl⟩
              obtain ⟨vr, hvr⟩ : ∃ y, y = v2 := ⟨_, rfl⟩
              have hl1 : (us.map LayerM.cells).length = q + 1 := by rw [hus]; omega
              have htl : t.1.l.length ≤ 1048576 := hlb
              have hst : pileStep (layRoom p) layAdd layZ (ts.map Prod.fst) (b.1, k) = (us.map Prod.fst).set q (layAdd t.1 k b.1) := by
                rw [hus]; exact pile_room (fst_at htq) zY (by simp only [layRoom, Bool.and_eq_true, decide_eq_true_eq]; ((have hq9 := of_decide_eq_false hg; omega)))
              subst hvr hus
              all_goals
               refine zc1 ?_; refine zaZ ?_; refine zfg ?_; refine zcQ ?_; refine zdo ?_; refine G.v (rv_loadE rfl zm zq rfl) rfl ?_; refine zaM ?_; refine za2 (fun vl _ => ?_); refine G.op (og_appG2 rfl rfl rfl hgi zg rfl rfl zh zh) rfl (fun va _ => ?_)
               skip; refine zfy (fun hova => ?_)
               refine zdo ?_; refine G.op0 (og_stE3 rfl rfl rfl zq (cells_one zc) rfl (by repeat (first | rfl | refine one_cons zc ?_)) rfl (.zero (.cons .nil))) (fun _ _ => ?_); refine ze1 ?_; refine za5 ?_; refine GE.q 3 rfl za rfl (qg_runs (rv_loadE rfl zA zaf rfl)) rfl ?_; refine zck (fun _ _ => ?_); refine zdu (fun _ _ => ?_); refine zbK (fun _ _ => ?_); refine zb7 (fun _ _ => ?_); refine zch (fun _ _ => ?_)
               refine ze4 (fun _ _ => ?_); refine zbF ?_; refine GE.q 4 rfl za rfl (qg_runs (rv_loadE rfl zA zV rfl)) rfl ?_; refine zec (fun _ _ => ?_); refine GE.ol 6 za rfl rfl (og_runs (rv_load1 1 rfl rfl rfl)) rfl zd (fun _ _ => ?_); refine zdY (fun _ _ => ?_); refine zdO (fun _ _ => ?_); refine zds (fun _ _ => ?_)
               refine GE.t0 10 za rfl rfl rfl (og_stE3 rfl rfl rfl zV rfl rfl rfl rfl (.succ (.succ (.zero (.cons .nil))))) (fun _ _ => ?_); refine zbm ?_; refine za5 ?_; refine GE.q 3 rfl za rfl (qg_runs (rv_loadE rfl zA zZ rfl)) rfl ?_; refine zck (fun _ _ => ?_); refine zdu (fun _ _ => ?_); refine zbK (fun _ _ => ?_); refine zb7 (fun _ _ => ?_); refine zch (fun _ _ => ?_)
               refine GE.t0 9 za rfl rfl rfl (og_stE3 rfl rfl rfl zZ rfl rfl rfl rfl (.succ (.succ (.succ (.zero (.cons .nil)))))) (fun _ _ => ?_); refine zb3 ?_; refine zaX ?_; refine zfT ?_; refine G.backK (k + 1, us.set q (layAdd t.1 k b.1, va), vr) 0 (two_eq (congrArg (fun z => Ch.grp 3 1 z) (sub_set (by simp only [layAdd, List.map_append, List.map_cons, List.map_nil, icell]))) (congrArg (fun z => Ch.row vr 129 4 z) (by rw [List.set_set, List.set_set, List.set_set]; exact cells_set rfl))) (.cons rfl (.cons rfl (.cons rfl (.nil)))) ?_ ?_ ?_
               exact ⟨rfl, rfl, trivial⟩
               exact ⟨hlt, by rw [foldl_take_succ hz, ← hM, hst, List.map_set]⟩
               omega
     · all_goals
        replace hc := of_decide_eq_false hc
        simp only [List.length_map] at hc
        try (exfalso; omega)
        all_goals
         refine zcX ?_; refine G.know (fun w hw => (Rd.owned 1 rfl w hw).one_) (fun hone => G.retF (v2, ts) ⟨hone, lay_end (bnot_no hok) hM (by rw [List.length_map]; exact hlt)⟩ rfl rfl rfl (fun w hw => hw.sublist (by repeat (first | exact List.Sublist.refl _ | refine List.Sublist.cons_cons _ ?_ | refine List.Sublist.cons _ ?_)))); done

theorem implLoadsOf_any (p : PalletM) {v : Value} {l : List (LayerM × Value)} (w : World) (h : Rd w v 4 (l.map LayerM.cells)) (hb : l.length ≤ 1048576) :
    Fn Tryz.prog 97 [p.val, v] w (fun x : Value × List (LoadM × Value) => x.1.oneCell' = true ∧ x.2.map Prod.fst = loadsM p (l.map Prod.fst)) (fun x => x.1) (fun x => [.grp 3 1 (x.2.map (sub LoadM.l)), .row x.1 127 3 (x.2.map LoadM.cells)]) := by
  have pile_lens : ∀ (xs : List (LayerM × Nat)) (k : Nat), ∀ t ∈ (xs.take k).foldl (pileStep (loadRoom p) loadAdd loadZ) [], t.l.length ≤ k := fun xs k => load_lens xs k
  refine Fn.of (n := 92) Tryz.func97 rfl rfl ?_; refine zaU (fun bk2 _ => ?_); refine zbk ?_; refine za7 ?_; refine zaM ?_; refine G.op (og_callV rfl rfl (fun w hh => implStacksOk_any _ w zH)) rfl (fun _ _ => ?_); refine zcI ?_; refine G.cond rfl (fun hc => ?_) (fun hc => ?_); refine zdM ?_
  exact G.retF (.slice none 0 0, []) ⟨rfl, by rw [loadsM, if_neg (by intro hq; simp only [stacksOkM] at hq; rw [hq] at hc; exact Bool.noConfusion hc)]; rfl⟩ rfl rfl rfl (fun w hw => (hw.none.nilRow _ _).nilGrp _ _)
  · refine G.skip ?_
    refine G.thenN ?_; refine zct ?_; refine zda (fun vl _ => ?_); refine zfb ?_; refine zeV ?_
    have hok := hc
    have hpp := pallet_in (palletOk_of hc)
    refine zcf ?_; refine G.loopK (ι := Nat × List (LoadM × Value) × Value) (ks := [2, 15, 16]) (fun x => [(5, x.2.2), (17, .int .i64 x.1)]) (fun x => [.grp 3 1 (x.2.1.map (sub LoadM.l)), .row x.2.2 127 3 (x.2.1.map LoadM.cells)]) (fun x => x.1 ≤ l.length ∧ x.2.1.map Prod.fst = ((l.map Prod.fst).zipIdx.take x.1).foldl (pileStep (loadRoom p) loadAdd loadZ) []) (fun x => l.length - x.1) (0, [], vl) (.cons rfl (.cons rfl (.cons rfl (.nil)))) rfl ?_ ?_ ?_
    exact ⟨Nat.zero_le _, rfl⟩
    exact ⟨rfl, rfl, trivial⟩
    rintro ⟨k, ts, v2⟩ ⟨hk, hM⟩
    dsimp only at hk hM ⊢
    by_cases hlt : k < l.length
    case' pos => (obtain ⟨b, hb2⟩ := get_of_lt hlt; have heb := get_map hb2 LayerM.cells; have hobb := heap_in (ok_at hok (fst_at hb2 : (l.map Prod.fst)[k]? = some b.1)).2; have hov : b.2.oneCell' = true := (h.good _ (List.mem_of_getElem? heb)).2 b.2 (by simp [LayerM.cells]); have hz := zip_get (fst_at hb2 : (l.map Prod.fst)[k]? = some b.1); have hl0 : (ts.map LoadM.cells).length = ts.length := zD; have hlk : ts.length ≤ k := (by (have := pile_len (room := loadRoom p) (add := loadAdd) (z := loadZ) ((l.map Prod.fst).zipIdx.take k) []; rw [← hM] at this; simp only [List.length_map, List.length_nil, List.length_take] at this; omega)); rcases nil_or_snoc ts with hts | ⟨tp, t, hts⟩; have hn0 : ts.length = 0 := (by rw [hts]; rfl); rotate_left; have hn1 : ts.length = tp.length + 1 := zaB; obtain ⟨q, hq⟩ : ∃ y, y = tp.length := ⟨_, rfl⟩; have htq : ts[q]? = some t := zab; have he := get_map htq LoadM.cells; have hgi : (ts.map (sub LoadM.l))[q]? = some (t.2, t.1.l.map icell) := get_mapS htq; have hbt : 0 ≤ t.1.h ∧ t.1.h ≤ p.h ∧ 0 ≤ t.1.g ∧ t.1.g ≤ p.g := (by (have := load_bd (p := p) (ss := (l.map Prod.fst)) (bnot_no hok) k; rw [← hM] at this; exact this t.1 (List.mem_map.2 ⟨t, List.mem_of_getElem? htq, rfl⟩))); refine zc5 (fun hov2 => ?_); have hlb : t.1.l.length ≤ 1048576 := (by (have := pile_lens (l.map Prod.fst).zipIdx k; rw [← hM] at this; have := this t.1 (List.mem_map.2 ⟨t, List.mem_of_getElem? htq, rfl⟩); omega)))
    all_goals
     refine zbs ?_; refine G.cond rfl (fun hc => ?_) (fun hc => ?_)
     · all_goals
        replace hc := of_decide_eq_true hc
        simp only [List.length_map] at hc
        try (exfalso; omega)
        all_goals
         refine zee ?_; refine zb9 (fun bk7 _ => ?_); refine zcD ?_; refine G.op0 (og_st0 rfl rfl rfl rfl rfl (by repeat (first | rfl | refine one_cons zc ?_)) (.zero (.cons (.cons (.cons (.cons .nil)))))) (fun _ _ => ?_); refine zeC ?_; refine zdG ?_
         first | refine zeg ?_ | refine zdf ?_
         refine zbk ?_; refine G.seq ?_; refine zcs (fun _ _ => ?_); refine GE.ol 1 za rfl rfl (og_runs (rv_lss rfl rfl)) rfl zd (fun _ _ => ?_); refine zcl (fun _ _ => ?_)
         all_goals (((with_reducible refine GE.part (t := 27) rfl (fun hg => ?_) (fun hg => ?_)) <;> (try exact Bool.noConfusion hg) <;> (try (exfalso; (have hq := of_decide_eq_false hg; omega))) <;> (first | refine zbO ?_ | refine zfD ?_)))
         all_goals ((first | refine zbU ?_ | refine zeI ?_))
         all_goals ((first | (refine GE.q 5 rfl za rfl (qg_runs (rv_indexH (k := q) rfl rfl zm zb zq)) rfl ?_) | refine zeJ ?_))
         all_goals ((first | (refine GE.q 6 rfl za rfl (qg_runs (rv_fieldE rfl)) rfl ?_) | refine zeK ?_))
         all_goals ((first | refine GE.q 7 rfl za rfl (qg_runs (rv_loadE rfl zF zU rfl)) rfl ?_ | refine zeL ?_))
         all_goals ((first | (refine GE.q 8 rfl za rfl (qg_runs (rv_field rfl)) rfl ?_) | refine zd9 ?_))
         all_goals ((first | (refine GE.q 9 rfl za rfl (qg_runs (rv_load1 0 rfl rfl rfl)) rfl ?_) | refine zea ?_))
         all_goals ((first | (refine GE.q 10 rfl za rfl (qg_runs (rv_addB rfl rfl zb zb)) rfl ?_) | refine zdT ?_))
         all_goals ((first | (refine zek ?_) | refine zdF ?_))
         all_goals ((first | (refine GE.q 12 rfl za rfl (qg_runs (rv_load1 3 rfl rfl rfl)) rfl ?_) | refine zdq ?_))
         all_goals ((first | refine GE.q 13 rfl za rfl (qg_runs (rv_gtr rfl rfl)) rfl ?_ | refine zdr ?_))
         all_goals ((first | refine zfI (fun _ _ => ?_) | refine zfJ (fun _ _ => ?_)))
         all_goals (refine zeT (fun _ _ => ?_))
         all_goals (((with_reducible refine GE.part (t := 40) rfl (fun hg => ?_) (fun hg => ?_)) <;> (try exact Bool.noConfusion hg) <;> (try (exfalso; (have hq := of_decide_eq_false hg; omega))) <;> (first | refine ze7 ?_ | refine GE.qn 16 rfl za rfl rfl ?_)))
         all_goals ((first | refine zdg ?_ | refine zeh ?_))
         all_goals ((first | (refine GE.q 18 rfl za rfl (qg_runs (rv_indexH (k := q) rfl rfl zm zb zq)) rfl ?_) | refine zfm ?_))
         all_goals ((first | (refine GE.q 19 rfl za rfl (qg_runs (rv_fieldE rfl)) rfl ?_) | refine zfW ?_))
         all_goals ((first | refine GE.q 20 rfl za rfl (qg_runs (rv_loadE rfl zF zU rfl)) rfl ?_ | refine zfh ?_))
         all_goals ((first | (refine GE.q 21 rfl za rfl (qg_runs (rv_field rfl)) rfl ?_) | refine zfi ?_))
         all_goals ((first | (refine GE.q 22 rfl za rfl (qg_runs (rv_load1 0 rfl rfl rfl)) rfl ?_) | refine zfj ?_))
         all_goals ((first | (refine GE.q 23 rfl za rfl (qg_runs (rv_addB rfl rfl zb zb)) rfl ?_) | refine zfk ?_))
         all_goals ((first | (refine GE.q 24 rfl za rfl (qg_runs (rv_field rfl)) rfl ?_) | refine GE.qn 24 rfl za rfl rfl ?_))
         all_goals ((first | (refine GE.q 25 rfl za rfl (qg_runs (rv_load1 3 rfl rfl rfl)) rfl ?_) | refine GE.qn 25 rfl za rfl rfl ?_))
         all_goals ((first | refine GE.q 26 rfl za rfl (qg_runs (rv_gtr rfl rfl)) rfl ?_ | refine zfl ?_))
         all_goals ((first | refine GE.ol 27 za rfl rfl (og_runs (rv_pickT rfl rfl)) rfl zd (fun _ _ => ?_) | refine GE.ol 27 za rfl rfl (og_runs (rv_pickF rfl rfl)) rfl zd (fun _ _ => ?_)))
         all_goals
          refine zbm ?_; refine G.cond rfl (fun hc => ?_) (fun hc => ?_)
          · all_goals
             try replace hc := of_decide_eq_true hc
             try simp only [List.length_map] at hc
             all_goals
              refine zcL (fun vl _ => ?_); refine zcC (fun va _ => ?_); refine zaL ?_; refine zbq ?_
              first | refine zeQ ?_ | refine zcd ?_
              obtain ⟨q, hq⟩ : ∃ y, y = ts.length := ⟨_, rfl⟩
              obtain ⟨t, htt⟩ : ∃ y, y = ((loadZ, .slice none 0 0) : LoadM × Value) := ⟨_, rfl⟩
              obtain ⟨us, hus⟩ : ∃ y, y = ts ++ [t] := ⟨_, rfl⟩
              obtain ⟨vr, hvr⟩ : ∃ y, y = va := ⟨_, rfl⟩
              subst hvr
              have huq : us[q]? = some t := by rw [hus, hq]; simp
              have he : (us.map LoadM.cells)[q]? = some (LoadM.cells t) := get_map huq LoadM.cells
              have hgi : (us.map (sub LoadM.l))[q]? = some (t.2, t.1.l.map icell) := get_mapS huq
              have hl1 : (us.map LoadM.cells).length = q + 1 := by rw [hus, hq]; simp
              have hzh : t.1.h = 0 := zak; have hzg : t.1.g = 0 := zak
              have htl : t.1.l.length = 0 := by rw [htt]; rfl
              have hov2 : t.2.oneCell' = true := by rw [htt]; rfl
              have hst : pileStep (loadRoom p) loadAdd loadZ (ts.map Prod.fst) (b.1, k) = (us.map Prod.fst).set q (loadAdd t.1 k b.1) := by
                have e : us.map Prod.fst = ts.map Prod.fst ++ [loadZ] := by rw [hus, htt]; simp
                rw [e, htt, hq]
                have := pile_new (room := loadRoom p) (add := loadAdd) (z := loadZ) (out := ts.map Prod.fst) (s := b.1) (k := k) (by intro t2 ht2; first | (rw [hts] at ht2; simp at ht2; done) | (rw [last_of hts] at ht2; obtain rfl := Option.some.inj ht2; simp only [loadRoom, Bool.and_eq_false_iff, decide_eq_false_iff_not]; (first | (have hq9 := of_decide_eq_true hg; omega) | omega)))
                rw [this]; simp
              refine zd5 ?_; refine zcQ ?_; refine zff ?_; refine zcQ ?_; refine zdo ?_; refine G.v (rv_loadE rfl zi zq rfl) rfl ?_; refine zaM ?_; refine za2 (fun vl _ => ?_); refine zdX (fun va _ => ?_)
              skip; refine zcN (fun hova => ?_)
              refine zdo ?_; refine G.op0 (og_stE2 rfl rfl rfl zq (cells_one zc) rfl (by repeat (first | rfl | refine one_cons zc ?_)) rfl (.zero (.cons .nil))) (fun _ _ => ?_); refine ze1 ?_; refine za5 ?_; refine GE.q 3 rfl za rfl (qg_runs (rv_loadE rfl zm zaf rfl)) rfl ?_; refine zck (fun _ _ => ?_); refine zdt (fun _ _ => ?_); refine zbK (fun _ _ => ?_); refine zb7 (fun _ _ => ?_); refine zch (fun _ _ => ?_)
              refine ze3 (fun _ _ => ?_); refine zbm ?_; refine za5 ?_; refine GE.q 3 rfl za rfl (qg_runs (rv_loadE rfl zm zV rfl)) rfl ?_; refine zck (fun _ _ => ?_); refine zdt (fun _ _ => ?_); refine zbK (fun _ _ => ?_); refine zb7 (fun _ _ => ?_); refine zch (fun _ _ => ?_)
              refine GE.t0 9 za rfl rfl rfl (og_stE2 rfl rfl rfl zV rfl rfl rfl rfl (.succ (.succ (.zero (.cons .nil))))) (fun _ _ => ?_); refine zb3 ?_; refine zaX ?_; refine zfS ?_; refine G.backK (k + 1, us.set q (loadAdd t.1 k b.1, va), vr) 0 (two_eq (congrArg (fun z => Ch.grp 3 1 z) (sub_set (by simp only [loadAdd, List.map_append, List.map_cons, List.map_nil, icell]))) (congrArg (fun z => Ch.row vr 127 3 z) (by rw [List.set_set, List.set_set]; exact cells_set rfl))) (.cons rfl (.cons rfl (.cons rfl (.nil)))) ?_ ?_ ?_
              exact ⟨rfl, rfl, trivial⟩
              exact ⟨hlt, by rw [foldl_take_succ hz, ← hM, hst, List.map_set]⟩
              omega
          · try exact Bool.noConfusion hc
            all_goals
             replace hc := of_decide_eq_false hc
             all_goals
              obtain ⟨us, hus⟩ : ∃ y, y = ts := ⟨_, rfl⟩
              obtain ⟨vr, hvr⟩ : ∃ y, y = v2 := ⟨_, rfl⟩
              have hl1 : (us.map LoadM.cells).length = q + 1 := by rw [hus]; omega
              have htl : t.1.l.length ≤ 1048576 := hlb
              have hst : pileStep (loadRoom p) loadAdd loadZ (ts.map Prod.fst) (b.1, k) = (us.map Prod.fst).set q (loadAdd t.1 k b.1) := by
                rw [hus]; exact pile_room (fst_at htq) zY (by simp only [loadRoom, Bool.and_eq_true, decide_eq_true_eq]; ((have hq9 := of_decide_eq_false hg; omega)))
              subst hvr hus
              all_goals
               refine zc1 ?_; refine zaZ ?_; refine zfg ?_; refine zcQ ?_; refine zdo ?_; refine G.v (rv_loadE rfl zm zq rfl) rfl ?_; refine zaM ?_; refine za2 (fun vl _ => ?_); refine G.op (og_appG2 rfl rfl rfl hgi zg rfl rfl zh zh) rfl (fun va _ => ?_)
               skip; refine zfy (fun hova => ?_)
               refine zdo ?_; refine G.op0 (og_stE3 rfl rfl rfl zq (cells_one zc) rfl (by repeat (first | rfl | refine one_cons zc ?_)) rfl (.zero (.cons .nil))) (fun _ _ => ?_); refine ze1 ?_; refine za5 ?_; refine GE.q 3 rfl za rfl (qg_runs (rv_loadE rfl zA zaf rfl)) rfl ?_; refine zck (fun _ _ => ?_); refine zdu (fun _ _ => ?_); refine zbK (fun _ _ => ?_); refine zb7 (fun _ _ => ?_); refine zch (fun _ _ => ?_)
               refine ze4 (fun _ _ => ?_); refine zbm ?_; refine za5 ?_; refine GE.q 3 rfl za rfl (qg_runs (rv_loadE rfl zA zV rfl)) rfl ?_; refine zck (fun _ _ => ?_); refine zdu (fun _ _ => ?_); refine zbK (fun _ _ => ?_); refine zb7 (fun _ _ => ?_); refine zch (fun _ _ => ?_)
               refine GE.t0 9 za rfl rfl rfl (og_stE3 rfl rfl rfl zV rfl rfl rfl rfl (.succ (.succ (.zero (.cons .nil))))) (fun _ _ => ?_); refine zb3 ?_; refine zaX ?_; refine zfT ?_; refine G.backK (k + 1, us.set q (loadAdd t.1 k b.1, va), vr) 0 (two_eq (congrArg (fun z => Ch.grp 3 1 z) (sub_set (by simp only [loadAdd, List.map_append, List.map_cons, List.map_nil, icell]))) (congrArg (fun z => Ch.row vr 127 3 z) (by rw [List.set_set, List.set_set]; exact cells_set rfl))) (.cons rfl (.cons rfl (.cons rfl (.nil)))) ?_ ?_ ?_
               exact ⟨rfl, rfl, trivial⟩
               exact ⟨hlt, by rw [foldl_take_succ hz, ← hM, hst, List.map_set]⟩
               omega
     · all_goals
        replace hc := of_decide_eq_false hc
        simp only [List.length_map] at hc
        try (exfalso; omega)
        all_goals
         refine zcX ?_; refine G.know (fun w hw => (Rd.owned 1 rfl w hw).one_) (fun hone => G.retF (v2, ts) ⟨hone, load_end (bnot_no hok) hM (by rw [List.length_map]; exact hlt)⟩ rfl rfl rfl (fun w hw => hw.sublist (by repeat (first | exact List.Sublist.refl _ | refine List.Sublist.cons_cons _ ?_ | refine List.Sublist.cons _ ?_)))); done

theorem specLayersOf_any (p : PalletM) {v : Value} {l : List (ShelfM × Value)} (w : World) (h : Rd w v 5 (l.map ShelfM.cells)) (hb : l.length ≤ 1048576) :
    Fn Tryz.prog 108 [p.val, v] w (fun x : Value × List (LayerM × Value) => x.1.oneCell' = true ∧ x.2.map Prod.fst = layersM p (l.map Prod.fst)) (fun x => x.1) (fun x => [.grp 3 1 (x.2.map (sub LayerM.l)), .row x.1 129 4 (x.2.map LayerM.cells)]) := by
  have pile_lens : ∀ (xs : List (ShelfM × Nat)) (k : Nat), ∀ t ∈ (xs.take k).foldl (pileStep (layRoom p) layAdd layZ) [], t.l.length ≤ k := fun xs k => lay_lens xs k
  refine Fn.of (n := 97) Tryz.func108 rfl rfl ?_; refine zaU (fun bk2 _ => ?_); refine zfC ?_; refine zda (fun vl _ => ?_); refine zbk ?_; refine G.seq ?_; refine zbM ?_; refine zaM ?_; refine G.op (og_callV rfl rfl (fun w hh => specShelvesOk_any _ w zH)) rfl (fun _ _ => ?_); refine zcI ?_; refine G.cond rfl (fun hc => ?_) (fun hc => ?_); refine zbp ?_; refine G.thenR ?_; refine zbW (fun hovl => ?_); exact G.retF (vl, []) ⟨hovl, by rw [layersM, if_neg (by intro hq; simp only [shelvesOkM] at hq; rw [hq] at hc; exact Bool.noConfusion hc)]; rfl⟩ rfl rfl rfl (fun w hw => (hw.sublist (by repeat (first | exact List.Sublist.refl _ | refine List.Sublist.cons_cons _ ?_ | refine List.Sublist.cons _ ?_)) : HeapOk _ w [.row vl 129 4 []]).nilGrp _ _)
  · refine G.skip ?_
    refine G.thenN (G.seq ?_); refine zb8 ?_
    have hok := hc
    have hpp := pallet_in (palletOk_of hc)
    refine zcf ?_; refine G.loopK (ι := Nat × List (LayerM × Value) × Value) (ks := [1, 2]) (fun x => [(5, x.2.2), (6, .int .i64 x.1)]) (fun x => [.grp 3 1 (x.2.1.map (sub LayerM.l)), .row x.2.2 129 4 (x.2.1.map LayerM.cells)]) (fun x => x.1 ≤ l.length ∧ x.2.1.map Prod.fst = ((l.map Prod.fst).zipIdx.take x.1).foldl (pileStep (layRoom p) layAdd layZ) []) (fun x => l.length - x.1) (0, [], vl) (.cons rfl (.cons rfl (.nil))) rfl ?_ ?_ ?_
    exact ⟨Nat.zero_le _, rfl⟩
    exact ⟨rfl, rfl, trivial⟩
    rintro ⟨k, ts, v2⟩ ⟨hk, hM⟩
    dsimp only at hk hM ⊢
    by_cases hlt : k < l.length
    case' pos => (obtain ⟨b, hb2⟩ := get_of_lt hlt; have heb := get_map hb2 ShelfM.cells; have hobb := heap_in (ok_at hok (fst_at hb2 : (l.map Prod.fst)[k]? = some b.1)).2; have hov : b.2.oneCell' = true := (h.good _ (List.mem_of_getElem? heb)).2 b.2 (by simp [ShelfM.cells]); have hz := zip_get (fst_at hb2 : (l.map Prod.fst)[k]? = some b.1); have hl0 : (ts.map LayerM.cells).length = ts.length := zD; have hlk : ts.length ≤ k := (by (have := pile_len (room := layRoom p) (add := layAdd) (z := layZ) ((l.map Prod.fst).zipIdx.take k) []; rw [← hM] at this; simp only [List.length_map, List.length_nil, List.length_take] at this; omega)); rcases nil_or_snoc ts with hts | ⟨tp, t, hts⟩; have hn0 : ts.length = 0 := (by rw [hts]; rfl); rotate_left; have hn1 : ts.length = tp.length + 1 := zaB; obtain ⟨q, hq⟩ : ∃ y, y = tp.length := ⟨_, rfl⟩; have htq : ts[q]? = some t := zab; have he := get_map htq LayerM.cells; have hgi : (ts.map (sub LayerM.l))[q]? = some (t.2, t.1.l.map icell) := get_mapS htq; have hbt : 0 ≤ t.1.d ∧ t.1.d ≤ p.d ∧ 0 ≤ t.1.h ∧ t.1.h ≤ p.h ∧ 0 ≤ t.1.g ∧ t.1.g ≤ p.g := (by (have := lay_bd (p := p) (ss := (l.map Prod.fst)) (bnot_no hok) k; rw [← hM] at this; exact this t.1 (List.mem_map.2 ⟨t, List.mem_of_getElem? htq, rfl⟩))); refine zc5 (fun hov2 => ?_); have hlb : t.1.l.length ≤ 1048576 := (by (have := pile_lens (l.map Prod.fst).zipIdx k; rw [← hM] at this; have := this t.1 (List.mem_map.2 ⟨t, List.mem_of_getElem? htq, rfl⟩); omega)))
    all_goals
     refine zcu ?_; refine zcW ?_; refine G.cond rfl (fun hc => ?_) (fun hc => ?_)
     · all_goals
        replace hc := of_decide_eq_true hc
        simp only [List.length_map] at hc
        try (exfalso; omega)
        all_goals
         refine za3 ?_; refine zaZ ?_; refine zb9 (fun bk7 _ => ?_); refine G.op0 (og_st0 rfl rfl rfl rfl rfl (by repeat (first | rfl | refine one_cons zc ?_)) (.zero (.cons (.cons (.cons (.cons (.cons .nil))))))) (fun _ _ => ?_); refine zeC ?_; refine zdG ?_; refine zbk ?_; refine G.seq ?_; refine zcs (fun _ _ => ?_); refine GE.ol 1 za rfl rfl (og_runs (rv_eql rfl rfl)) rfl zd (fun _ _ => ?_); refine zcl (fun _ _ => ?_)
         all_goals (((with_reducible refine GE.part (t := 30) rfl (fun hg => ?_) (fun hg => ?_)) <;> (try exact Bool.noConfusion hg) <;> (try (exfalso; first | (have hq := of_decide_eq_false hg; omega) | (have hq := of_decide_eq_true hg; omega); done)) <;> (first | refine zbO ?_ | refine zfD ?_)))
         all_goals ((first | refine zbU ?_ | refine zeI ?_))
         all_goals ((first | (refine zfK ?_) | refine zeJ ?_))
         all_goals ((first | (refine zeH ?_) | refine zeK ?_))
         all_goals ((first | (refine GE.q 7 rfl za rfl (qg_runs (rv_fieldE rfl)) rfl ?_) | refine zeL ?_))
         all_goals ((first | refine GE.q 8 rfl za rfl (qg_runs (rv_loadE rfl zF zU rfl)) rfl ?_ | refine zd9 ?_))
         all_goals ((first | (refine zeo ?_) | refine zea ?_))
         all_goals ((first | (refine zfu ?_) | refine zdT ?_))
         all_goals ((first | (refine zfA ?_) | refine zdF ?_))
         all_goals ((first | (refine GE.q 12 rfl za rfl (qg_runs (rv_field rfl)) rfl ?_) | refine zdq ?_))
         all_goals ((first | (refine GE.q 13 rfl za rfl (qg_runs (rv_load1 3 rfl rfl rfl)) rfl ?_) | refine zdr ?_))
         all_goals ((first | refine GE.q 14 rfl za rfl (qg_runs (rv_gtr rfl rfl)) rfl ?_ | refine zey ?_))
         all_goals ((first | refine zev (fun _ _ => ?_) | refine zew (fun _ _ => ?_)))
         all_goals (refine zeU (fun _ _ => ?_))
         all_goals (((with_reducible refine GE.part (t := 44) rfl (fun hg => ?_) (fun hg => ?_)) <;> (try exact Bool.noConfusion hg) <;> (try (exfalso; (have hq := of_decide_eq_false hg; omega))) <;> (first | refine zdg ?_ | refine zeh ?_)))
         all_goals ((first | refine GE.q 18 rfl za rfl (qg_runs (rv_move rfl)) rfl ?_ | refine zfm ?_))
         all_goals ((first | (refine GE.q 19 rfl za rfl (qg_runs (rv_decr rfl rfl zb zb)) rfl ?_) | refine zfW ?_))
         all_goals ((first | (refine GE.q 20 rfl za rfl (qg_runs (rv_indexH (k := q) rfl rfl zm zb zq)) rfl ?_) | refine zfh ?_))
         all_goals ((first | (refine GE.q 21 rfl za rfl (qg_runs (rv_fieldE rfl)) rfl ?_) | refine zfi ?_))
         all_goals ((first | refine GE.q 22 rfl za rfl (qg_runs (rv_loadE rfl zF zU rfl)) rfl ?_ | refine zfj ?_))
         all_goals ((first | (refine GE.q 23 rfl za rfl (qg_runs (rv_field rfl)) rfl ?_) | refine zfk ?_))
         all_goals ((first | (refine GE.q 24 rfl za rfl (qg_runs (rv_load1 0 rfl rfl rfl)) rfl ?_) | refine GE.qn 24 rfl za rfl rfl ?_))
         all_goals ((first | (refine GE.q 25 rfl za rfl (qg_runs (rv_addB rfl rfl zb zb)) rfl ?_) | refine GE.qn 25 rfl za rfl rfl ?_))
         all_goals ((first | (refine ze5 ?_) | refine zfl ?_))
         all_goals ((first | (refine zft ?_) | refine GE.qn 27 rfl za rfl rfl ?_))
         all_goals ((first | refine GE.q 28 rfl za rfl (qg_runs (rv_gtr rfl rfl)) rfl ?_ | refine GE.qn 28 rfl za rfl rfl ?_))
         all_goals ((first | refine GE.ol 29 za rfl rfl (og_runs (rv_pickT rfl rfl)) rfl zd (fun _ _ => ?_) | refine GE.ol 29 za rfl rfl (og_runs (rv_pickF rfl rfl)) rfl zd (fun _ _ => ?_)))
         all_goals
          refine zbm ?_; refine G.cond rfl (fun hc => ?_) (fun hc => ?_)
          · all_goals
             try replace hc := of_decide_eq_true hc
             try simp only [List.length_map] at hc
             all_goals
              refine zcL (fun vl _ => ?_); refine zcC (fun va _ => ?_); refine zaL ?_; refine zbq ?_; refine zeQ ?_
              obtain ⟨q, hq⟩ : ∃ y, y = ts.length := ⟨_, rfl⟩
              obtain ⟨t, htt⟩ : ∃ y, y = ((layZ, .slice none 0 0) : LayerM × Value) := ⟨_, rfl⟩
              obtain ⟨us, hus⟩ : ∃ y, y = ts ++ [t] := ⟨_, rfl⟩
              obtain ⟨vr, hvr⟩ : ∃ y, y = va := ⟨_, rfl⟩
              subst hvr
              have huq : us[q]? = some t := by rw [hus, hq]; simp
              have he : (us.map LayerM.cells)[q]? = some (LayerM.cells t) := get_map huq LayerM.cells
              have hgi : (us.map (sub LayerM.l))[q]? = some (t.2, t.1.l.map icell) := get_mapS huq
              have hl1 : (us.map LayerM.cells).length = q + 1 := by rw [hus, hq]; simp
              have hzd : t.1.d = 0 := zak; have hzh : t.1.h = 0 := zak; have hzg : t.1.g = 0 := zak
              have htl : t.1.l.length = 0 := by rw [htt]; rfl
              have hov2 : t.2.oneCell' = true := by rw [htt]; rfl
              have hst : pileStep (layRoom p) layAdd layZ (ts.map Prod.fst) (b.1, k) = (us.map Prod.fst).set q (layAdd t.1 k b.1) := by
                have e : us.map Prod.fst = ts.map Prod.fst ++ [layZ] := by rw [hus, htt]; simp
                rw [e, htt, hq]
                have := pile_new (room := layRoom p) (add := layAdd) (z := layZ) (out := ts.map Prod.fst) (s := b.1) (k := k) (by intro t2 ht2; first | (rw [hts] at ht2; simp at ht2; done) | (rw [last_of hts] at ht2; obtain rfl := Option.some.inj ht2; simp only [layRoom, Bool.and_eq_false_iff, decide_eq_false_iff_not]; (first | (have hq9 := of_decide_eq_true hg; omega) | omega)))
                rw [this]; simp
              refine zd4 ?_; refine zcQ ?_; refine zeg ?_; refine zff ?_; refine G.v (rv_loadEW rfl zi zq rfl) rfl ?_; refine zbu (fun bk9 _ => ?_); refine G.op0 (og_st0 rfl rfl rfl rfl rfl (by repeat (first | rfl | refine one_cons zc ?_)) (.zero (.cons (.cons (.cons (.cons .nil)))))) (fun _ _ => ?_); refine zbe ?_; refine G.drawL [26, 27] ?_; refine za4 ?_; refine zbL ?_
              refine zci ?_; refine GE.q 13 rfl za rfl (qg_runs (rv_load1 4 rfl rfl rfl)) rfl ?_; refine zbJ ?_; refine GE.q 18 rfl za rfl (qg_runs (rv_load1 4 rfl rfl rfl)) rfl ?_; refine zeX ?_; refine GE.q 23 rfl za rfl (qg_runs (rv_load1 4 rfl rfl rfl)) rfl ?_; refine GE.q 24 rfl za rfl (qg_runs (rv_addB rfl rfl zb zb)) rfl ?_; refine GE.any (rs := [3, 8]) za zD ?_
              refine List.forall_mem_cons.2 ⟨?_, List.forall_mem_cons.2 ⟨?_, fun _ h => absurd h List.not_mem_nil⟩⟩
              focus
               refine zc9 (fun vl _ => ?_); refine GE.any (rs := [6, 8]) za zD ?_; refine List.forall_mem_cons.2 ⟨?_, List.forall_mem_cons.2 ⟨?_, fun _ h => absurd h List.not_mem_nil⟩⟩
               focus
                refine GE.pickOp rfl rfl rfl (og_app0 rfl rfl rfl (by exact Rd.grp 2 rfl (List.mem_of_getElem? hgi)) rfl rfl zh zh) rfl zj (fun va _ => ?_); refine zdh (fun vl _ => ?_); refine zcq (fun va _ => ?_)
                skip; refine zcr (fun hova => ?_)
                refine zcY (fun _ _ => ?_); refine zbd (fun _ _ => ?_); refine zf3 (fun _ _ => ?_); refine GE.t0 27 za rfl rfl rfl (og_stE4 rfl rfl rfl zq rfl rfl (by repeat (first | rfl | refine one_cons zc ?_)) rfl (.zero (.cons (.cons (.cons (.cons .nil)))))) (fun _ _ => ?_); refine zb3 ?_
               rotate_left
               focus
                refine zca (fun vl _ => ?_); refine GE.ol 6 za rfl rfl (og_app1 rfl rfl rfl (by exact Rd.grp 3 rfl (List.mem_of_getElem? hgi)) rfl rfl zh zh) rfl zf (fun va _ => ?_); refine zcq (fun va _ => ?_)
                skip; refine zcr (fun hova => ?_)
                refine zcY (fun _ _ => ?_); refine zbd (fun _ _ => ?_); refine zf3 (fun _ _ => ?_); refine GE.t0 27 za rfl rfl rfl (og_stE4 rfl rfl rfl zq rfl rfl (by repeat (first | rfl | refine one_cons zc ?_)) rfl (.zero (.cons (.cons (.cons (.cons .nil)))))) (fun _ _ => ?_); refine zb3 ?_
               rotate_left
              rotate_left 2
              focus
               refine zcv (fun vl _ => ?_); refine zeR (fun vl _ => ?_); refine GE.ol 6 za rfl rfl (og_app0 rfl rfl rfl (by exact Rd.grp 3 rfl (List.mem_of_getElem? hgi)) rfl rfl zh zh) rfl zf (fun va _ => ?_); refine ze0 (fun va _ => ?_)
               skip; refine zep (fun hova => ?_)
               refine zcY (fun _ _ => ?_); refine zbd (fun _ _ => ?_); refine zf3 (fun _ _ => ?_); refine GE.t0 27 za rfl rfl rfl (og_stE4 rfl rfl rfl zq rfl rfl (by repeat (first | rfl | refine one_cons zc ?_)) rfl (.zero (.cons (.cons (.cons (.cons .nil)))))) (fun _ _ => ?_); refine zb3 ?_
              rotate_left
              all_goals
               refine zaO ?_; refine G.frontR4 vr rfl ?_; refine G.frontG4 _ rfl ?_
               first | refine G.frontR2 va rfl ?_ | refine G.frontR3 va rfl ?_
               refine zfd ?_; refine G.keep2 4 rfl ?_; refine G.backK (k + 1, us.set q (layAdd t.1 k b.1, va), vr) 0 (two_eq rfl (congrArg (fun z => Ch.row vr 129 4 z) (cells_set rfl))) (.cons rfl (.cons rfl (.nil))) ?_ ?_ ?_
               exact ⟨rfl, rfl, trivial⟩
               exact ⟨hlt, by rw [foldl_take_succ hz, ← hM, hst, List.map_set]⟩
               omega
          · try exact Bool.noConfusion hc
            all_goals
             replace hc := of_decide_eq_false hc
             all_goals
              obtain ⟨us, hus⟩ : ∃ y, y = ts := ⟨_, rfl⟩
              obtain ⟨vr, hvr⟩ : ∃ y, y = v2 := ⟨_, rfl⟩
              have hl1 : (us.map LayerM.cells).length = q + 1 := by rw [hus]; omega
              have htl : t.1.l.length ≤ 1048576 := hlb
              have hst : pileStep (layRoom p) layAdd layZ (ts.map Prod.fst) (b.1, k) = (us.map Prod.fst).set q (layAdd t.1 k b.1) := by
                rw [hus]; exact pile_room (fst_at htq) zY (by simp only [layRoom, Bool.and_eq_true, decide_eq_true_eq]; ((have hq9 := of_decide_eq_false hg; omega)))
              subst hvr hus
              all_goals
               refine zc1 ?_; refine zaZ ?_; refine zeg ?_; refine zfg ?_; refine G.v (rv_loadEW rfl zm zq rfl) rfl ?_; refine zbu (fun bk9 _ => ?_); refine G.op0 (og_st0 rfl rfl rfl rfl rfl (by repeat (first | rfl | refine one_cons zc ?_)) (.zero (.cons (.cons (.cons (.cons .nil)))))) (fun _ _ => ?_); refine zbe ?_; refine G.drawL [26, 27] ?_; refine za4 ?_; refine zbL ?_; refine zci ?_
               refine GE.q 13 rfl za rfl (qg_runs (rv_load1 1 rfl rfl rfl)) rfl ?_; refine zbJ ?_; refine GE.q 18 rfl za rfl (qg_runs (rv_load1 1 rfl rfl rfl)) rfl ?_; refine zeX ?_; refine GE.q 23 rfl za rfl (qg_runs (rv_load1 1 rfl rfl rfl)) rfl ?_; refine GE.q 24 rfl za rfl (qg_runs (rv_addB rfl rfl zb zb)) rfl ?_; refine GE.any (rs := [3, 8]) za zD ?_; refine List.forall_mem_cons.2 ⟨?_, List.forall_mem_cons.2 ⟨?_, fun _ h => absurd h List.not_mem_nil⟩⟩
               focus
                refine zc9 (fun vl _ => ?_); refine GE.any (rs := [6, 8]) za zD ?_; refine List.forall_mem_cons.2 ⟨?_, List.forall_mem_cons.2 ⟨?_, fun _ h => absurd h List.not_mem_nil⟩⟩
                focus
                 refine GE.pickOp rfl rfl rfl (og_app0 rfl rfl rfl (by exact Rd.grp 3 rfl (List.mem_of_getElem? hgi)) rfl rfl zh zh) rfl zj (fun va _ => ?_); refine zdh (fun vl _ => ?_); refine zcq (fun va _ => ?_)
                 skip; refine zcr (fun hova => ?_)
                 refine zcY (fun _ _ => ?_); refine zbd (fun _ _ => ?_); refine zf4 (fun _ _ => ?_); refine GE.t0 27 za rfl rfl rfl (og_stE5 rfl rfl rfl zq rfl rfl (by repeat (first | rfl | refine one_cons zc ?_)) rfl (.zero (.cons (.cons (.cons (.cons .nil)))))) (fun _ _ => ?_); refine zb3 ?_
                rotate_left
                focus
                 refine zca (fun vl _ => ?_); refine GE.ol 6 za rfl rfl (og_app1 rfl rfl rfl (by exact Rd.grp 4 rfl (List.mem_of_getElem? hgi)) rfl rfl zh zh) rfl zf (fun va _ => ?_); refine zcq (fun va _ => ?_)
                 skip; refine zcr (fun hova => ?_)
                 refine zcY (fun _ _ => ?_); refine zbd (fun _ _ => ?_); refine zf4 (fun _ _ => ?_); refine GE.t0 27 za rfl rfl rfl (og_stE5 rfl rfl rfl zq rfl rfl (by repeat (first | rfl | refine one_cons zc ?_)) rfl (.zero (.cons (.cons (.cons (.cons .nil)))))) (fun _ _ => ?_); refine zb3 ?_
                rotate_left
               rotate_left 2
               focus
                refine zcv (fun vl _ => ?_); refine zeR (fun vl _ => ?_); refine GE.ol 6 za rfl rfl (og_app0 rfl rfl rfl (by exact Rd.grp 4 rfl (List.mem_of_getElem? hgi)) rfl rfl zh zh) rfl zf (fun va _ => ?_); refine ze0 (fun va _ => ?_)
                skip; refine zep (fun hova => ?_)
                refine zcY (fun _ _ => ?_); refine zbd (fun _ _ => ?_); refine zf4 (fun _ _ => ?_); refine GE.t0 27 za rfl rfl rfl (og_stE5 rfl rfl rfl zq rfl rfl (by repeat (first | rfl | refine one_cons zc ?_)) rfl (.zero (.cons (.cons (.cons (.cons .nil)))))) (fun _ _ => ?_); refine zb3 ?_
               rotate_left
               all_goals
                refine zaO ?_; refine G.frontR5 vr rfl ?_; refine G.frontG5 _ rfl ?_
                first | refine G.frontR2 va rfl ?_ | refine G.frontR3 va rfl ?_
                refine zfd ?_; refine G.keep2 3 rfl ?_; refine G.backK (k + 1, us.set q (layAdd t.1 k b.1, va), vr) 0 (two_eq rfl (congrArg (fun z => Ch.row vr 129 4 z) (cells_set rfl))) (.cons rfl (.cons rfl (.nil))) ?_ ?_ ?_
                exact ⟨rfl, rfl, trivial⟩
                exact ⟨hlt, by rw [foldl_take_succ hz, ← hM, hst, List.map_set]⟩
                omega
     · all_goals
        replace hc := of_decide_eq_false hc
        simp only [List.length_map] at hc
        try (exfalso; omega)
        all_goals
         refine zcX ?_; refine G.know (fun w hw => (Rd.owned 1 rfl w hw).one_) (fun hone => G.retF (v2, ts) ⟨hone, lay_end (bnot_no hok) hM (by rw [List.length_map]; exact hlt)⟩ rfl rfl rfl (fun w hw => hw.sublist (by repeat (first | exact List.Sublist.refl _ | refine List.Sublist.cons_cons _ ?_ | refine List.Sublist.cons _ ?_)))); done

theorem specLoadsOf_any (p : PalletM) {v : Value} {l : List (LayerM × Value)} (w : World) (h : Rd w v 4 (l.map LayerM.cells)) (hb : l.length ≤ 1048576) :
    Fn Tryz.prog 109 [p.val, v] w (fun x : Value × List (LoadM × Value) => x.1.oneCell' = true ∧ x.2.map Prod.fst = loadsM p (l.map Prod.fst)) (fun x => x.1) (fun x => [.grp 3 1 (x.2.map (sub LoadM.l)), .row x.1 127 3 (x.2.map LoadM.cells)]) := by
  have pile_lens : ∀ (xs : List (LayerM × Nat)) (k : Nat), ∀ t ∈ (xs.take k).foldl (pileStep (loadRoom p) loadAdd loadZ) [], t.l.length ≤ k := fun xs k => load_lens xs k
  refine Fn.of (n := 92) Tryz.func109 rfl rfl ?_; refine zaU (fun bk2 _ => ?_); refine zfC ?_; refine zda (fun vl _ => ?_); refine zbk ?_; refine G.seq ?_; refine zbM ?_; refine zaM ?_; refine G.op (og_callV rfl rfl (fun w hh => specStacksOk_any _ w zH)) rfl (fun _ _ => ?_); refine zcI ?_; refine G.cond rfl (fun hc => ?_) (fun hc => ?_); refine zbp ?_; refine G.thenR ?_; refine zbW (fun hovl => ?_); exact G.retF (vl, []) ⟨hovl, by rw [loadsM, if_neg (by intro hq; simp only [stacksOkM] at hq; rw [hq] at hc; exact Bool.noConfusion hc)]; rfl⟩ rfl rfl rfl (fun w hw => (hw.sublist (by repeat (first | exact List.Sublist.refl _ | refine List.Sublist.cons_cons _ ?_ | refine List.Sublist.cons _ ?_)) : HeapOk _ w [.row vl 127 3 []]).nilGrp _ _)
  · refine G.skip ?_
    refine G.thenN (G.seq ?_); refine zb8 ?_
    have hok := hc
    have hpp := pallet_in (palletOk_of hc)
    refine zcf ?_; refine G.loopK (ι := Nat × List (LoadM × Value) × Value) (ks := [1, 2]) (fun x => [(5, x.2.2), (6, .int .i64 x.1)]) (fun x => [.grp 3 1 (x.2.1.map (sub LoadM.l)), .row x.2.2 127 3 (x.2.1.map LoadM.cells)]) (fun x => x.1 ≤ l.length ∧ x.2.1.map Prod.fst = ((l.map Prod.fst).zipIdx.take x.1).foldl (pileStep (loadRoom p) loadAdd loadZ) []) (fun x => l.length - x.1) (0, [], vl) (.cons rfl (.cons rfl (.nil))) rfl ?_ ?_ ?_
    exact ⟨Nat.zero_le _, rfl⟩
    exact ⟨rfl, rfl, trivial⟩
    rintro ⟨k, ts, v2⟩ ⟨hk, hM⟩
    dsimp only at hk hM ⊢
    by_cases hlt : k < l.length
    case' pos => (obtain ⟨b, hb2⟩ := get_of_lt hlt; have heb := get_map hb2 LayerM.cells; have hobb := heap_in (ok_at hok (fst_at hb2 : (l.map Prod.fst)[k]? = some b.1)).2; have hov : b.2.oneCell' = true := (h.good _ (List.mem_of_getElem? heb)).2 b.2 (by simp [LayerM.cells]); have hz := zip_get (fst_at hb2 : (l.map Prod.fst)[k]? = some b.1); have hl0 : (ts.map LoadM.cells).length = ts.length := zD; have hlk : ts.length ≤ k := (by (have := pile_len (room := loadRoom p) (add := loadAdd) (z := loadZ) ((l.map Prod.fst).zipIdx.take k) []; rw [← hM] at this; simp only [List.length_map, List.length_nil, List.length_take] at this; omega)); rcases nil_or_snoc ts with hts | ⟨tp, t, hts⟩; have hn0 : ts.length = 0 := (by rw [hts]; rfl); rotate_left; have hn1 : ts.length = tp.length + 1 := zaB; obtain ⟨q, hq⟩ : ∃ y, y = tp.length := ⟨_, rfl⟩; have htq : ts[q]? = some t := zab; have he := get_map htq LoadM.cells; have hgi : (ts.map (sub LoadM.l))[q]? = some (t.2, t.1.l.map icell) := get_mapS htq; have hbt : 0 ≤ t.1.h ∧ t.1.h ≤ p.h ∧ 0 ≤ t.1.g ∧ t.1.g ≤ p.g := (by (have := load_bd (p := p) (ss := (l.map Prod.fst)) (bnot_no hok) k; rw [← hM] at this; exact this t.1 (List.mem_map.2 ⟨t, List.mem_of_getElem? htq, rfl⟩))); refine zc5 (fun hov2 => ?_); have hlb : t.1.l.length ≤ 1048576 := (by (have := pile_lens (l.map Prod.fst).zipIdx k; rw [← hM] at this; have := this t.1 (List.mem_map.2 ⟨t, List.mem_of_getElem? htq, rfl⟩); omega)))
    all_goals
     refine zcu ?_; refine zcW ?_; refine G.cond rfl (fun hc => ?_) (fun hc => ?_)
     · all_goals
        replace hc := of_decide_eq_true hc
        simp only [List.length_map] at hc
        try (exfalso; omega)
        all_goals
         refine za3 ?_; refine zaZ ?_; refine zb9 (fun bk7 _ => ?_); refine G.op0 (og_st0 rfl rfl rfl rfl rfl (by repeat (first | rfl | refine one_cons zc ?_)) (.zero (.cons (.cons (.cons (.cons .nil)))))) (fun _ _ => ?_); refine zeC ?_; refine zdG ?_; refine zbk ?_; refine G.seq ?_; refine zcs (fun _ _ => ?_); refine GE.ol 1 za rfl rfl (og_runs (rv_eql rfl rfl)) rfl zd (fun _ _ => ?_); refine zcl (fun _ _ => ?_)
         all_goals (((with_reducible refine GE.part (t := 30) rfl (fun hg => ?_) (fun hg => ?_)) <;> (try exact Bool.noConfusion hg) <;> (try (exfalso; first | (have hq := of_decide_eq_false hg; omega) | (have hq := of_decide_eq_true hg; omega); done)) <;> (first | refine zbO ?_ | refine zfD ?_)))
         all_goals ((first | refine zbU ?_ | refine zeI ?_))
         all_goals ((first | (refine zfK ?_) | refine zeJ ?_))
         all_goals ((first | (refine zeH ?_) | refine zeK ?_))
         all_goals ((first | (refine GE.q 7 rfl za rfl (qg_runs (rv_fieldE rfl)) rfl ?_) | refine zeL ?_))
         all_goals ((first | refine GE.q 8 rfl za rfl (qg_runs (rv_loadE rfl zF zU rfl)) rfl ?_ | refine zd9 ?_))
         all_goals ((first | (refine zeo ?_) | refine zea ?_))
         all_goals ((first | (refine zfu ?_) | refine zdT ?_))
         all_goals ((first | (refine zfA ?_) | refine zdF ?_))
         all_goals ((first | (refine GE.q 12 rfl za rfl (qg_runs (rv_field rfl)) rfl ?_) | refine zdq ?_))
         all_goals ((first | (refine GE.q 13 rfl za rfl (qg_runs (rv_load1 3 rfl rfl rfl)) rfl ?_) | refine zdr ?_))
         all_goals ((first | refine GE.q 14 rfl za rfl (qg_runs (rv_gtr rfl rfl)) rfl ?_ | refine zey ?_))
         all_goals ((first | refine zev (fun _ _ => ?_) | refine zew (fun _ _ => ?_)))
         all_goals (refine zeU (fun _ _ => ?_))
         all_goals (((with_reducible refine GE.part (t := 44) rfl (fun hg => ?_) (fun hg => ?_)) <;> (try exact Bool.noConfusion hg) <;> (try (exfalso; (have hq := of_decide_eq_false hg; omega))) <;> (first | refine zdg ?_ | refine zeh ?_)))
         all_goals ((first | refine GE.q 18 rfl za rfl (qg_runs (rv_move rfl)) rfl ?_ | refine zfm ?_))
         all_goals ((first | (refine GE.q 19 rfl za rfl (qg_runs (rv_decr rfl rfl zb zb)) rfl ?_) | refine zfW ?_))
         all_goals ((first | (refine GE.q 20 rfl za rfl (qg_runs (rv_indexH (k := q) rfl rfl zm zb zq)) rfl ?_) | refine zfh ?_))
         all_goals ((first | (refine GE.q 21 rfl za rfl (qg_runs (rv_fieldE rfl)) rfl ?_) | refine zfi ?_))
         all_goals ((first | refine GE.q 22 rfl za rfl (qg_runs (rv_loadE rfl zF zU rfl)) rfl ?_ | refine zfj ?_))
         all_goals ((first | (refine GE.q 23 rfl za rfl (qg_runs (rv_field rfl)) rfl ?_) | refine zfk ?_))
         all_goals ((first | (refine GE.q 24 rfl za rfl (qg_runs (rv_load1 0 rfl rfl rfl)) rfl ?_) | refine GE.qn 24 rfl za rfl rfl ?_))
         all_goals ((first | (refine GE.q 25 rfl za rfl (qg_runs (rv_addB rfl rfl zb zb)) rfl ?_) | refine GE.qn 25 rfl za rfl rfl ?_))
         all_goals ((first | (refine ze5 ?_) | refine zfl ?_))
         all_goals ((first | (refine zft ?_) | refine GE.qn 27 rfl za rfl rfl ?_))
         all_goals ((first | refine GE.q 28 rfl za rfl (qg_runs (rv_gtr rfl rfl)) rfl ?_ | refine GE.qn 28 rfl za rfl rfl ?_))
         all_goals ((first | refine GE.ol 29 za rfl rfl (og_runs (rv_pickT rfl rfl)) rfl zd (fun _ _ => ?_) | refine GE.ol 29 za rfl rfl (og_runs (rv_pickF rfl rfl)) rfl zd (fun _ _ => ?_)))
         all_goals
          refine zbm ?_; refine G.cond rfl (fun hc => ?_) (fun hc => ?_)
          · all_goals
             try replace hc := of_decide_eq_true hc
             try simp only [List.length_map] at hc
             all_goals
              refine zcL (fun vl _ => ?_); refine zcC (fun va _ => ?_); refine zaL ?_; refine zbq ?_; refine zeQ ?_
              obtain ⟨q, hq⟩ : ∃ y, y = ts.length := ⟨_, rfl⟩
              obtain ⟨t, htt⟩ : ∃ y, y = ((loadZ, .slice none 0 0) : LoadM × Value) := ⟨_, rfl⟩
              obtain ⟨us, hus⟩ : ∃ y, y = ts ++ [t] := ⟨_, rfl⟩
              obtain ⟨vr, hvr⟩ : ∃ y, y = va := ⟨_, rfl⟩
              subst hvr
              have huq : us[q]? = some t := by rw [hus, hq]; simp
              have he : (us.map LoadM.cells)[q]? = some (LoadM.cells t) := get_map huq LoadM.cells
              have hgi : (us.map (sub LoadM.l))[q]? = some (t.2, t.1.l.map icell) := get_mapS huq
              have hl1 : (us.map LoadM.cells).length = q + 1 := by rw [hus, hq]; simp
              have hzh : t.1.h = 0 := zak; have hzg : t.1.g = 0 := zak
              have htl : t.1.l.length = 0 := by rw [htt]; rfl
              have hov2 : t.2.oneCell' = true := by rw [htt]; rfl
              have hst : pileStep (loadRoom p) loadAdd loadZ (ts.map Prod.fst) (b.1, k) = (us.map Prod.fst).set q (loadAdd t.1 k b.1) := by
                have e : us.map Prod.fst = ts.map Prod.fst ++ [loadZ] := by rw [hus, htt]; simp
                rw [e, htt, hq]
                have := pile_new (room := loadRoom p) (add := loadAdd) (z := loadZ) (out := ts.map Prod.fst) (s := b.1) (k := k) (by intro t2 ht2; first | (rw [hts] at ht2; simp at ht2; done) | (rw [last_of hts] at ht2; obtain rfl := Option.some.inj ht2; simp only [loadRoom, Bool.and_eq_false_iff, decide_eq_false_iff_not]; (first | (have hq9 := of_decide_eq_true hg; omega) | omega)))
                rw [this]; simp
              refine zd5 ?_; refine zcQ ?_; refine zeg ?_; refine zff ?_; refine G.v (rv_loadEW rfl zi zq rfl) rfl ?_; refine zbu (fun bk9 _ => ?_); refine G.op0 (og_st0 rfl rfl rfl rfl rfl (by repeat (first | rfl | refine one_cons zc ?_)) (.zero (.cons (.cons (.cons .nil))))) (fun _ _ => ?_); refine zbe ?_; refine G.drawL [21, 22] ?_; refine za4 ?_; refine zbL ?_
              refine zci ?_; refine GE.q 13 rfl za rfl (qg_runs (rv_load1 4 rfl rfl rfl)) rfl ?_; refine zbJ ?_; refine GE.q 18 rfl za rfl (qg_runs (rv_load1 4 rfl rfl rfl)) rfl ?_; refine GE.q 19 rfl za rfl (qg_runs (rv_addB rfl rfl zb zb)) rfl ?_; refine GE.any (rs := [3, 8]) za zD ?_; refine List.forall_mem_cons.2 ⟨?_, List.forall_mem_cons.2 ⟨?_, fun _ h => absurd h List.not_mem_nil⟩⟩
              focus
               refine zc9 (fun vl _ => ?_); refine GE.any (rs := [6, 8]) za zD ?_; refine List.forall_mem_cons.2 ⟨?_, List.forall_mem_cons.2 ⟨?_, fun _ h => absurd h List.not_mem_nil⟩⟩
               focus
                refine GE.pickOp rfl rfl rfl (og_app0 rfl rfl rfl (by exact Rd.grp 2 rfl (List.mem_of_getElem? hgi)) rfl rfl zh zh) rfl zj (fun va _ => ?_); refine zdh (fun vl _ => ?_); refine zcq (fun va _ => ?_)
                skip; refine zcr (fun hova => ?_)
                refine zbo (fun _ _ => ?_); refine zf5 (fun _ _ => ?_); refine GE.t0 22 za rfl rfl rfl (og_stE4 rfl rfl rfl zq rfl rfl (by repeat (first | rfl | refine one_cons zc ?_)) rfl (.zero (.cons (.cons (.cons .nil))))) (fun _ _ => ?_); refine zb3 ?_
               rotate_left
               focus
                refine zca (fun vl _ => ?_); refine GE.ol 6 za rfl rfl (og_app1 rfl rfl rfl (by exact Rd.grp 3 rfl (List.mem_of_getElem? hgi)) rfl rfl zh zh) rfl zf (fun va _ => ?_); refine zcq (fun va _ => ?_)
                skip; refine zcr (fun hova => ?_)
                refine zbo (fun _ _ => ?_); refine zf5 (fun _ _ => ?_); refine GE.t0 22 za rfl rfl rfl (og_stE4 rfl rfl rfl zq rfl rfl (by repeat (first | rfl | refine one_cons zc ?_)) rfl (.zero (.cons (.cons (.cons .nil))))) (fun _ _ => ?_); refine zb3 ?_
               rotate_left
              rotate_left 2
              focus
               refine zcv (fun vl _ => ?_); refine zeR (fun vl _ => ?_); refine GE.ol 6 za rfl rfl (og_app0 rfl rfl rfl (by exact Rd.grp 3 rfl (List.mem_of_getElem? hgi)) rfl rfl zh zh) rfl zf (fun va _ => ?_); refine ze0 (fun va _ => ?_)
               skip; refine zep (fun hova => ?_)
               refine zbo (fun _ _ => ?_); refine zf5 (fun _ _ => ?_); refine GE.t0 22 za rfl rfl rfl (og_stE4 rfl rfl rfl zq rfl rfl (by repeat (first | rfl | refine one_cons zc ?_)) rfl (.zero (.cons (.cons (.cons .nil))))) (fun _ _ => ?_); refine zb3 ?_
              rotate_left
              all_goals
               refine zaO ?_; refine G.frontR4 vr rfl ?_; refine G.frontG4 _ rfl ?_
               first | refine G.frontR2 va rfl ?_ | refine G.frontR3 va rfl ?_
               refine ze9 ?_; refine G.keep2 4 rfl ?_; refine G.backK (k + 1, us.set q (loadAdd t.1 k b.1, va), vr) 0 (two_eq rfl (congrArg (fun z => Ch.row vr 127 3 z) (cells_set rfl))) (.cons rfl (.cons rfl (.nil))) ?_ ?_ ?_
               exact ⟨rfl, rfl, trivial⟩
               exact ⟨hlt, by rw [foldl_take_succ hz, ← hM, hst, List.map_set]⟩
               omega
          · try exact Bool.noConfusion hc
            all_goals
             replace hc := of_decide_eq_false hc
             all_goals
              obtain ⟨us, hus⟩ : ∃ y, y = ts := ⟨_, rfl⟩
              obtain ⟨vr, hvr⟩ : ∃ y, y = v2 := ⟨_, rfl⟩
              have hl1 : (us.map LoadM.cells).length = q + 1 := by rw [hus]; omega
              have htl : t.1.l.length ≤ 1048576 := hlb
              have hst : pileStep (loadRoom p) loadAdd loadZ (ts.map Prod.fst) (b.1, k) = (us.map Prod.fst).set q (loadAdd t.1 k b.1) := by
                rw [hus]; exact pile_room (fst_at htq) zY (by simp only [loadRoom, Bool.and_eq_true, decide_eq_true_eq]; ((have hq9 := of_decide_eq_false hg; omega)))
              subst hvr hus
              all_goals
               refine zc1 ?_; refine zaZ ?_; refine zeg ?_; refine zfg ?_; refine G.v (rv_loadEW rfl zm zq rfl) rfl ?_; refine zbu (fun bk9 _ => ?_); refine G.op0 (og_st0 rfl rfl rfl rfl rfl (by repeat (first | rfl | refine one_cons zc ?_)) (.zero (.cons (.cons (.cons .nil))))) (fun _ _ => ?_); refine zbe ?_; refine G.drawL [21, 22] ?_; refine za4 ?_; refine zbL ?_; refine zci ?_
               refine GE.q 13 rfl za rfl (qg_runs (rv_load1 1 rfl rfl rfl)) rfl ?_; refine zbJ ?_; refine GE.q 18 rfl za rfl (qg_runs (rv_load1 1 rfl rfl rfl)) rfl ?_; refine GE.q 19 rfl za rfl (qg_runs (rv_addB rfl rfl zb zb)) rfl ?_; refine GE.any (rs := [3, 8]) za zD ?_; refine List.forall_mem_cons.2 ⟨?_, List.forall_mem_cons.2 ⟨?_, fun _ h => absurd h List.not_mem_nil⟩⟩
               focus
                refine zc9 (fun vl _ => ?_); refine GE.any (rs := [6, 8]) za zD ?_; refine List.forall_mem_cons.2 ⟨?_, List.forall_mem_cons.2 ⟨?_, fun _ h => absurd h List.not_mem_nil⟩⟩
                focus
                 refine GE.pickOp rfl rfl rfl (og_app0 rfl rfl rfl (by exact Rd.grp 3 rfl (List.mem_of_getElem? hgi)) rfl rfl zh zh) rfl zj (fun va _ => ?_); refine zdh (fun vl _ => ?_); refine zcq (fun va _ => ?_)
                 skip; refine zcr (fun hova => ?_)
                 refine zbo (fun _ _ => ?_); refine zf6 (fun _ _ => ?_); refine GE.t0 22 za rfl rfl rfl (og_stE5 rfl rfl rfl zq rfl rfl (by repeat (first | rfl | refine one_cons zc ?_)) rfl (.zero (.cons (.cons (.cons .nil))))) (fun _ _ => ?_); refine zb3 ?_
                rotate_left
                focus
                 refine zca (fun vl _ => ?_); refine GE.ol 6 za rfl rfl (og_app1 rfl rfl rfl (by exact Rd.grp 4 rfl (List.mem_of_getElem? hgi)) rfl rfl zh zh) rfl zf (fun va _ => ?_); refine zcq (fun va _ => ?_)
                 skip; refine zcr (fun hova => ?_)
                 refine zbo (fun _ _ => ?_); refine zf6 (fun _ _ => ?_); refine GE.t0 22 za rfl rfl rfl (og_stE5 rfl rfl rfl zq rfl rfl (by repeat (first | rfl | refine one_cons zc ?_)) rfl (.zero (.cons (.cons (.cons .nil))))) (fun _ _ => ?_); refine zb3 ?_
                rotate_left
               rotate_left 2
               focus
                refine zcv (fun vl _ => ?_); refine zeR (fun vl _ => ?_); refine GE.ol 6 za rfl rfl (og_app0 rfl rfl rfl (by exact Rd.grp 4 rfl (List.mem_of_getElem? hgi)) rfl rfl zh zh) rfl zf (fun va _ => ?_); refine ze0 (fun va _ => ?_)
                skip; refine zep (fun hova => ?_)
                refine zbo (fun _ _ => ?_); refine zf6 (fun _ _ => ?_); refine GE.t0 22 za rfl rfl rfl (og_stE5 rfl rfl rfl zq rfl rfl (by repeat (first | rfl | refine one_cons zc ?_)) rfl (.zero (.cons (.cons (.cons .nil))))) (fun _ _ => ?_); refine zb3 ?_
               rotate_left
               all_goals
                refine zaO ?_; refine G.frontR5 vr rfl ?_; refine G.frontG5 _ rfl ?_
                first | refine G.frontR2 va rfl ?_ | refine G.frontR3 va rfl ?_
                refine ze9 ?_; refine G.keep2 3 rfl ?_; refine G.backK (k + 1, us.set q (loadAdd t.1 k b.1, va), vr) 0 (two_eq rfl (congrArg (fun z => Ch.row vr 127 3 z) (cells_set rfl))) (.cons rfl (.cons rfl (.nil))) ?_ ?_ ?_
                exact ⟨rfl, rfl, trivial⟩
                exact ⟨hlt, by rw [foldl_take_succ hz, ← hM, hst, List.map_set]⟩
                omega
     · all_goals
        replace hc := of_decide_eq_false hc
        simp only [List.length_map] at hc
        try (exfalso; omega)
        all_goals
         refine zcX ?_; refine G.know (fun w hw => (Rd.owned 1 rfl w hw).one_) (fun hone => G.retF (v2, ts) ⟨hone, load_end (bnot_no hok) hM (by rw [List.length_map]; exact hlt)⟩ rfl rfl rfl (fun w hw => hw.sublist (by repeat (first | exact List.Sublist.refl _ | refine List.Sublist.cons_cons _ ?_ | refine List.Sublist.cons _ ?_)))); done

theorem shelf_lens {p : PalletM} (xs : List (BoxM × Nat)) (k : Nat) : ∀ t ∈ (xs.take k).foldl (pileStep (shelfRoom p) shelfAdd shelfZ) [], t.l.length ≤ k := by
  intro t ht
  have := pile_sum (room := shelfRoom p) (add := shelfAdd) (z := shelfZ) (fun t => t.l.length) (by simp [shelfAdd, shelfZ]) (by simp [shelfAdd]) (xs.take k) [] 0 zD t ht
  rw [List.length_take] at this; omega
theorem implShelves_any (p : PalletM) {v : Value} {l : List BoxM} (w : World) (h : Rd w v 4 (l.map BoxM.cells)) (hb : l.length ≤ 1048576) :
    Fn Tryz.prog 95 [p.val, v] w (fun x : Value × List (ShelfM × Value) => x.1.oneCell' = true ∧ x.2.map Prod.fst = shelvesM p l) (fun x => x.1) (fun x => [.grp 3 1 (x.2.map (sub ShelfM.l)), .row x.1 131 5 (x.2.map ShelfM.cells)]) := by
  have pile_lens : ∀ (xs : List (BoxM × Nat)) (k : Nat), ∀ t ∈ (xs.take k).foldl (pileStep (shelfRoom p) shelfAdd shelfZ) [], t.l.length ≤ k := fun xs k => shelf_lens xs k
  have hln : (l.map BoxM.cells).length = l.length := by simp
  have hlk0 : (l.map BoxM.d).length = l.length := by simp
  refine Fn.of (n := 133) Tryz.func95 rfl rfl ?_; refine zaU (fun bk2 _ => ?_); refine zbk ?_; refine za7 ?_; refine zaM ?_; refine G.op (og_callV rfl rfl (fun w hh => boxesOk_any _ w zH)) rfl (fun _ _ => ?_); refine zcI ?_; refine G.cond rfl (fun hc => ?_) (fun hc => ?_); refine zdM ?_
  exact G.retF (.slice none 0 0, []) ⟨rfl, by rw [shelf_no zB]; rfl⟩ rfl rfl rfl (fun w hw => (hw.none.nilRow _ _).nilGrp _ _)
  · refine G.skip ?_
    refine G.thenN ?_; refine za6 (fun vl _ => ?_); refine zfb ?_; refine zeV ?_
    have hok := hc
    have hpp := pallet_in (palletOk_of hc)
    refine G.loopK (ι := Nat × Value) (ks := [1, 2, 19, 20]) (fun x => [(5, x.2), (21, .int .i64 (x.1 : Int))]) (fun x => [.row x.2 3 1 (((l.take x.1).map BoxM.d).map icell)]) (fun x => x.1 ≤ l.length) (fun x => l.length - x.1) (0, vl) (.cons rfl (.cons rfl (.cons rfl (.cons rfl (.nil))))) rfl ?_ ?_ ?_
    exact Nat.zero_le _
    exact ⟨rfl, rfl, trivial⟩
    rintro ⟨k0, v0⟩ hk0
    dsimp only at hk0 ⊢
    have hl9 : (((l.take k0).map BoxM.d).map icell).length = k0 := by (simp; omega)
    by_cases hlt0 : k0 < l.length
    case' pos => (obtain ⟨b, hb2⟩ := get_of_lt hlt0; have heb := get_map hb2 BoxM.cells)
    case' neg => (have hkall : ((l.take k0).map BoxM.d).map icell = (l.map BoxM.d).map icell := (by rw [List.take_of_length_le zb]))
    all_goals
     refine zbs ?_; refine G.cond rfl (fun hc => ?_) (fun hc => ?_)
     · all_goals
        replace hc := of_decide_eq_true hc
        simp only [List.length_map] at hc
        try (exfalso; omega)
        all_goals
         refine zdx ?_; refine zb9 (fun bk7 _ => ?_); refine zbT (fun _ _ => ?_); refine zbe ?_; refine zbq ?_; refine zdJ ?_; refine za2 (fun vl _ => ?_); refine zdI (fun va _ => ?_); refine zbb ?_; refine zaX ?_; refine G.backK (k0 + 1, va) 2 (one_eq (congrArg (fun z => Ch.row va 3 1 z) (dsnoc hb2))) (.cons rfl (.cons rfl (.cons rfl (.cons rfl (.nil))))) ?_ ?_ ?_
         exact ⟨rfl, rfl, trivial⟩
         dsimp only; omega
         dsimp only; omega
     · all_goals
        replace hc := of_decide_eq_false hc
        simp only [List.length_map] at hc
        try (exfalso; omega)
        all_goals
         refine zaW ?_; refine zct ?_; refine zda (fun vl _ => ?_); refine zfb ?_
         first | (refine G.op (og_callF1 rfl rfl (fun w hh => sortDown_any (ks := l.map BoxM.d) w zp zb)) rfl ?_; rintro vo hvo; try dsimp only) | (refine G.op (og_callF2 rfl rfl (fun w hh => sortDown_any (ks := l.map BoxM.d) w zp zb)) rfl ?_; rintro vo hvo; try dsimp only) | (refine G.op (og_callF3 rfl rfl (fun w hh => sortDown_any (ks := l.map BoxM.d) w zp zb)) rfl ?_; rintro vo hvo; try dsimp only) | (refine G.op (og_callF0 rfl rfl (fun w hh => sortDown_any (ks := l.map BoxM.d) w zp zb)) rfl ?_; rintro vo hvo; try dsimp only) | (refine G.op (og_callF rfl rfl (fun w hh => sortDown_any (ks := l.map BoxM.d) w zp zb)) rfl ?_; rintro vo hvo; try dsimp only)
         refine zde ?_; refine zby ?_; refine G.frontR1 vl rfl ?_; refine zcf ?_
         have hoL := ordM_len (keyM (l.map BoxM.d)) l.length
         have hol2 : ((ordM (keyM (l.map BoxM.d)) (l.map BoxM.d).length).map ncell).length = l.length := by rw [List.length_map, ordM_len, hlk0]
         refine G.loopK (ι := Nat × List (ShelfM × Value) × Value) (ks := [1, 2, 33, 34]) (fun x => [(8, x.2.2), (35, .int .i64 (x.1 : Int))]) (fun x => [.grp 3 1 (x.2.1.map (sub ShelfM.l)), .row x.2.2 131 5 (x.2.1.map ShelfM.cells)]) (fun x => x.1 ≤ l.length ∧ x.2.1.map Prod.fst = ((shelfXs l).take x.1).foldl (pileStep (shelfRoom p) shelfAdd shelfZ) []) (fun x => l.length - x.1) (0, [], vl) (.cons rfl (.cons rfl (.cons rfl (.cons rfl (.nil))))) rfl ?_ ?_ ?_
         exact ⟨Nat.zero_le _, rfl⟩
         exact ⟨rfl, rfl, trivial⟩
         rintro ⟨k, ts, v2⟩ ⟨hk, hM⟩
         dsimp only at hk hM ⊢
         by_cases hlt : k < l.length
         case' pos => (obtain ⟨x, hx⟩ := get_of_lt (l := ordM (keyM (l.map BoxM.d)) l.length) (k := k) zb; have hxl : x < l.length := ordM_mem.1 (List.mem_of_getElem? hx); have heo : ((ordM (keyM (l.map BoxM.d)) (l.map BoxM.d).length).map ncell)[k]? = some (ncell x) := get_map (by rw [hlk0]; exact hx) ncell; obtain ⟨b, hb2⟩ := get_of_lt hxl; have heb := get_map hb2 BoxM.cells; have hobb := box_in (ok_at hok hb2).2; have hz := xs_get hx hb2; have hl0 : (ts.map ShelfM.cells).length = ts.length := zD; have hlk : ts.length ≤ k := (by (have := pile_len (room := shelfRoom p) (add := shelfAdd) (z := shelfZ) ((shelfXs l).take k) []; rw [← hM] at this; simp only [List.length_map, List.length_nil, List.length_take] at this; omega)); rcases nil_or_snoc ts with hts | ⟨tp, t, hts⟩; have hn0 : ts.length = 0 := (by rw [hts]; rfl); rotate_left; have hn1 : ts.length = tp.length + 1 := zaB; obtain ⟨q, hq⟩ : ∃ y, y = tp.length := ⟨_, rfl⟩; have htq : ts[q]? = some t := zab; have he := get_map htq ShelfM.cells; have hgi : (ts.map (sub ShelfM.l))[q]? = some (t.2, t.1.l.map icell) := get_mapS htq; have hbt : 0 ≤ t.1.w ∧ t.1.w ≤ p.w ∧ 0 ≤ t.1.d ∧ t.1.d ≤ p.d ∧ 0 ≤ t.1.h ∧ t.1.h ≤ p.h ∧ 0 ≤ t.1.g ∧ t.1.g ≤ p.g := (by (have := shelf_bd (p := p) (l := l) (bnot_no hok) k; rw [← hM] at this; exact this t.1 (List.mem_map.2 ⟨t, List.mem_of_getElem? htq, rfl⟩))); refine zc5 (fun hov2 => ?_); have hlb : t.1.l.length ≤ 1048576 := (by (have := pile_lens (shelfXs l) k; rw [← hM] at this; have := this t.1 (List.mem_map.2 ⟨t, List.mem_of_getElem? htq, rfl⟩); omega)))
         all_goals
          refine zbs ?_; refine G.cond rfl (fun hc => ?_) (fun hc => ?_)
          · all_goals
             replace hc := of_decide_eq_true hc
             simp only [List.length_map] at hc
             try (exfalso; omega)
             all_goals
              refine zdx ?_; refine zdV ?_; refine zcQ ?_; refine zb9 (fun bk11 _ => ?_); refine zbT (fun _ _ => ?_); refine zeC ?_; refine zdG ?_
              first | refine zeg ?_ | refine zdf ?_
              refine zbk ?_; refine G.seq ?_; refine zcs (fun _ _ => ?_); refine GE.ol 1 za rfl rfl (og_runs (rv_lss rfl rfl)) rfl zd (fun _ _ => ?_); refine zcl (fun _ _ => ?_)
              all_goals (((with_reducible refine GE.part (t := 48) rfl (fun hg => ?_) (fun hg => ?_)) <;> (try exact Bool.noConfusion hg) <;> (try (exfalso; (have hq := of_decide_eq_false hg; omega))) <;> (first | refine zbO ?_ | refine zfD ?_)))
              all_goals ((first | refine zbU ?_ | refine zeI ?_))
              all_goals ((first | (refine GE.q 5 rfl za rfl (qg_runs (rv_indexH (k := q) rfl rfl zm zb zq)) rfl ?_) | refine zeJ ?_))
              all_goals ((first | (refine GE.q 6 rfl za rfl (qg_runs (rv_fieldE rfl)) rfl ?_) | refine zeK ?_))
              all_goals ((first | refine GE.q 7 rfl za rfl (qg_runs (rv_loadE rfl zF zU rfl)) rfl ?_ | refine zeL ?_))
              all_goals ((first | (refine GE.q 8 rfl za rfl (qg_runs (rv_field rfl)) rfl ?_) | refine zd9 ?_))
              all_goals ((first | (refine GE.q 9 rfl za rfl (qg_runs (rv_load1 0 rfl rfl rfl)) rfl ?_) | refine zea ?_))
              all_goals ((first | (refine GE.q 10 rfl za rfl (qg_runs (rv_addB rfl rfl zb zb)) rfl ?_) | refine zdT ?_))
              all_goals ((first | (refine zek ?_) | refine zdF ?_))
              all_goals ((first | (refine GE.q 12 rfl za rfl (qg_runs (rv_load1 5 rfl rfl rfl)) rfl ?_) | refine zdq ?_))
              all_goals ((first | refine GE.q 13 rfl za rfl (qg_runs (rv_gtr rfl rfl)) rfl ?_ | refine zdr ?_))
              all_goals ((first | refine zfI (fun _ _ => ?_) | refine zfJ (fun _ _ => ?_)))
              all_goals (refine zeT (fun _ _ => ?_))
              all_goals (((with_reducible refine GE.part (t := 61) rfl (fun hg => ?_) (fun hg => ?_)) <;> (try exact Bool.noConfusion hg) <;> (try (exfalso; (have hq := of_decide_eq_false hg; omega))) <;> (first | refine ze7 ?_ | refine GE.qn 16 rfl za rfl rfl ?_)))
              all_goals ((first | refine zdg ?_ | refine zeh ?_))
              all_goals ((first | (refine GE.q 18 rfl za rfl (qg_runs (rv_indexH (k := q) rfl rfl zm zb zq)) rfl ?_) | refine zfm ?_))
              all_goals ((first | (refine GE.q 19 rfl za rfl (qg_runs (rv_fieldE rfl)) rfl ?_) | refine zfW ?_))
              all_goals ((first | refine GE.q 20 rfl za rfl (qg_runs (rv_loadE rfl zF zU rfl)) rfl ?_ | refine zfh ?_))
              all_goals ((first | (refine GE.q 21 rfl za rfl (qg_runs (rv_field rfl)) rfl ?_) | refine zfi ?_))
              all_goals ((first | (refine GE.q 22 rfl za rfl (qg_runs (rv_load1 0 rfl rfl rfl)) rfl ?_) | refine zfj ?_))
              all_goals ((first | (refine GE.q 23 rfl za rfl (qg_runs (rv_addB rfl rfl zb zb)) rfl ?_) | refine zfk ?_))
              all_goals ((first | (refine GE.q 24 rfl za rfl (qg_runs (rv_field rfl)) rfl ?_) | refine GE.qn 24 rfl za rfl rfl ?_))
              all_goals ((first | (refine GE.q 25 rfl za rfl (qg_runs (rv_load1 5 rfl rfl rfl)) rfl ?_) | refine GE.qn 25 rfl za rfl rfl ?_))
              all_goals ((first | refine GE.q 26 rfl za rfl (qg_runs (rv_gtr rfl rfl)) rfl ?_ | refine zfl ?_))
              all_goals ((first | refine GE.ol 27 za rfl rfl (og_runs (rv_pickT rfl rfl)) rfl zd (fun _ _ => ?_) | refine GE.ol 27 za rfl rfl (og_runs (rv_pickF rfl rfl)) rfl zd (fun _ _ => ?_)))
              all_goals
               refine zbm ?_; refine G.cond rfl (fun hc => ?_) (fun hc => ?_)
               · all_goals
                  try replace hc := of_decide_eq_true hc
                  try simp only [List.length_map] at hc
                  all_goals
                   refine zcL (fun vl _ => ?_); refine zcC (fun va _ => ?_); refine zaL ?_; refine zbq ?_
                   first | refine zeQ ?_ | refine zcd ?_
                   obtain ⟨q, hq⟩ : ∃ y, y = ts.length := ⟨_, rfl⟩
                   obtain ⟨t, htt⟩ : ∃ y, y = ((shelfZ, .slice none 0 0) : ShelfM × Value) := ⟨_, rfl⟩
                   obtain ⟨us, hus⟩ : ∃ y, y = ts ++ [t] := ⟨_, rfl⟩
                   obtain ⟨vr, hvr⟩ : ∃ y, y = va := ⟨_, rfl⟩
                   subst hvr
                   have huq : us[q]? = some t := by rw [hus, hq]; simp
                   have he : (us.map ShelfM.cells)[q]? = some (ShelfM.cells t) := get_map huq ShelfM.cells
                   have hgi : (us.map (sub ShelfM.l))[q]? = some (t.2, t.1.l.map icell) := get_mapS huq
                   have hl1 : (us.map ShelfM.cells).length = q + 1 := by rw [hus, hq]; simp
                   have hzw : t.1.w = 0 := zak; have hzd : t.1.d = 0 := zak; have hzh : t.1.h = 0 := zak; have hzg : t.1.g = 0 := zak
                   have htl : t.1.l.length = 0 := by rw [htt]; rfl
                   have hov2 : t.2.oneCell' = true := by rw [htt]; rfl
                   have hst : pileStep (shelfRoom p) shelfAdd shelfZ (ts.map Prod.fst) (b, x) = (us.map Prod.fst).set q (shelfAdd t.1 x b) := by
                     have e : us.map Prod.fst = ts.map Prod.fst ++ [shelfZ] := by rw [hus, htt]; simp
                     rw [e, htt, hq]
                     have := pile_new (room := shelfRoom p) (add := shelfAdd) (z := shelfZ) (out := ts.map Prod.fst) (s := b) (k := x) (by intro t2 ht2; first | (rw [hts] at ht2; simp at ht2; done) | (rw [last_of hts] at ht2; obtain rfl := Option.some.inj ht2; simp only [shelfRoom, Bool.and_eq_false_iff, decide_eq_false_iff_not]; (first | (have hq9 := of_decide_eq_true hg; omega) | omega)))
                     rw [this]; simp
                   refine G.frontR3 vr rfl ?_; refine G.rowEq (us.map ShelfM.cells) (by rw [hus, htt]; simp [ShelfM.cells, shelfZ]) rfl ?_; refine G.frontG3 _ rfl ?_; refine G.pushNil (us.map (sub ShelfM.l)) (by rw [hus, htt]; simp [sub, shelfZ]) rfl ?_; refine zcQ ?_; refine zff ?_; refine zcQ ?_; refine zdo ?_; refine G.v (rv_loadE rfl zi zq rfl) rfl ?_; refine zaM ?_; refine za2 (fun vl _ => ?_); refine zdX (fun va _ => ?_)
                   skip; refine zcN (fun hova => ?_)
                   refine zdo ?_; refine G.op0 (og_stE2 rfl rfl rfl zq (cells_one zc) rfl (by repeat (first | rfl | refine one_cons zc ?_)) rfl (.zero (.cons .nil))) (fun _ _ => ?_); refine ze1 ?_; refine za5 ?_; refine GE.q 3 rfl za rfl (qg_runs (rv_loadE rfl zm zaf rfl)) rfl ?_; refine zck (fun _ _ => ?_); refine zdt (fun _ _ => ?_); refine zbK (fun _ _ => ?_); refine zb7 (fun _ _ => ?_); refine zch (fun _ _ => ?_)
                   refine ze3 (fun _ _ => ?_); refine zbF ?_; refine GE.q 4 rfl za rfl (qg_runs (rv_loadE rfl zm zV rfl)) rfl ?_; refine zec (fun _ _ => ?_); refine GE.ol 6 za rfl rfl (og_runs (rv_load1 4 rfl rfl rfl)) rfl zd (fun _ _ => ?_); refine zdY (fun _ _ => ?_); refine zdO (fun _ _ => ?_); refine zds (fun _ _ => ?_)
                   refine GE.t0 10 za rfl rfl rfl (og_stE2 rfl rfl rfl zV rfl rfl rfl rfl (.succ (.succ (.zero (.cons .nil))))) (fun _ _ => ?_); refine zbF ?_; refine GE.q 4 rfl za rfl (qg_runs (rv_loadE rfl zm zZ rfl)) rfl ?_; refine zec (fun _ _ => ?_); refine GE.ol 6 za rfl rfl (og_runs (rv_load1 4 rfl rfl rfl)) rfl zd (fun _ _ => ?_); refine zdY (fun _ _ => ?_); refine zdO (fun _ _ => ?_); refine zds (fun _ _ => ?_)
                   refine GE.t0 10 za rfl rfl rfl (og_stE2 rfl rfl rfl zZ rfl rfl rfl rfl (.succ (.succ (.succ (.zero (.cons .nil)))))) (fun _ _ => ?_); refine zbm ?_; refine za5 ?_; refine GE.q 3 rfl za rfl (qg_runs (rv_loadE rfl zm zas rfl)) rfl ?_; refine zck (fun _ _ => ?_); refine zdt (fun _ _ => ?_); refine zbK (fun _ _ => ?_); refine zb7 (fun _ _ => ?_); refine zch (fun _ _ => ?_)
                   refine GE.t0 9 za rfl rfl rfl (og_stE2 rfl rfl rfl zas rfl rfl rfl rfl (.succ (.succ (.succ (.succ (.zero (.cons .nil))))))) (fun _ _ => ?_); refine zb3 ?_; refine zaX ?_; refine zfS ?_; refine G.backK (k + 1, us.set q (shelfAdd t.1 x b, va), vr) 0 (two_eq (congrArg (fun z => Ch.grp 3 1 z) (sub_set (by simp only [shelfAdd, List.map_append, List.map_cons, List.map_nil, icell]))) (congrArg (fun z => Ch.row vr 131 5 z) (by rw [List.set_set, List.set_set, List.set_set, List.set_set]; exact cells_set rfl))) (.cons rfl (.cons rfl (.cons rfl (.cons rfl (.nil))))) ?_ ?_ ?_
                   exact ⟨rfl, rfl, trivial⟩
                   exact ⟨hlt, by rw [foldl_take_succ hz, ← hM, hst, List.map_set]⟩
                   omega
               · try exact Bool.noConfusion hc
                 all_goals
                  replace hc := of_decide_eq_false hc
                  all_goals
                   obtain ⟨us, hus⟩ : ∃ y, y = ts := ⟨_, rfl⟩
                   obtain ⟨vr, hvr⟩ : ∃ y, y = v2 := ⟨_, rfl⟩
                   have hl1 : (us.map ShelfM.cells).length = q + 1 := by rw [hus]; omega
                   have htl : t.1.l.length ≤ 1048576 := hlb
                   have hst : pileStep (shelfRoom p) shelfAdd shelfZ (ts.map Prod.fst) (b, x) = (us.map Prod.fst).set q (shelfAdd t.1 x b) := by
                     rw [hus]; exact pile_room (fst_at htq) zY (by simp only [shelfRoom, Bool.and_eq_true, decide_eq_true_eq]; ((have hq9 := of_decide_eq_false hg; omega)))
                   subst hvr hus
                   all_goals
                    refine zc1 ?_; refine zaZ ?_; refine zfg ?_; refine zcQ ?_; refine zdo ?_; refine G.v (rv_loadE rfl zm zq rfl) rfl ?_; refine zaM ?_; refine za2 (fun vl _ => ?_); refine G.op (og_appG2 rfl rfl rfl hgi zg rfl rfl zh zh) rfl (fun va _ => ?_)
                    skip; refine zfy (fun hova => ?_)
                    refine zdo ?_; refine G.op0 (og_stE3 rfl rfl rfl zq (cells_one zc) rfl (by repeat (first | rfl | refine one_cons zc ?_)) rfl (.zero (.cons .nil))) (fun _ _ => ?_); refine ze1 ?_; refine za5 ?_; refine GE.q 3 rfl za rfl (qg_runs (rv_loadE rfl zA zaf rfl)) rfl ?_; refine zck (fun _ _ => ?_); refine zdu (fun _ _ => ?_); refine zbK (fun _ _ => ?_); refine zb7 (fun _ _ => ?_); refine zch (fun _ _ => ?_)
                    refine ze4 (fun _ _ => ?_); refine zbF ?_; refine GE.q 4 rfl za rfl (qg_runs (rv_loadE rfl zA zV rfl)) rfl ?_; refine zec (fun _ _ => ?_); refine GE.ol 6 za rfl rfl (og_runs (rv_load1 1 rfl rfl rfl)) rfl zd (fun _ _ => ?_); refine zdY (fun _ _ => ?_); refine zdO (fun _ _ => ?_); refine zds (fun _ _ => ?_)
                    refine GE.t0 10 za rfl rfl rfl (og_stE3 rfl rfl rfl zV rfl rfl rfl rfl (.succ (.succ (.zero (.cons .nil))))) (fun _ _ => ?_); refine zbF ?_; refine GE.q 4 rfl za rfl (qg_runs (rv_loadE rfl zA zZ rfl)) rfl ?_; refine zec (fun _ _ => ?_); refine GE.ol 6 za rfl rfl (og_runs (rv_load1 1 rfl rfl rfl)) rfl zd (fun _ _ => ?_); refine zdY (fun _ _ => ?_); refine zdO (fun _ _ => ?_); refine zds (fun _ _ => ?_)
                    refine GE.t0 10 za rfl rfl rfl (og_stE3 rfl rfl rfl zZ rfl rfl rfl rfl (.succ (.succ (.succ (.zero (.cons .nil)))))) (fun _ _ => ?_); refine zbm ?_; refine za5 ?_; refine GE.q 3 rfl za rfl (qg_runs (rv_loadE rfl zA zas rfl)) rfl ?_; refine zck (fun _ _ => ?_); refine zdu (fun _ _ => ?_); refine zbK (fun _ _ => ?_); refine zb7 (fun _ _ => ?_); refine zch (fun _ _ => ?_)
                    refine GE.t0 9 za rfl rfl rfl (og_stE3 rfl rfl rfl zas rfl rfl rfl rfl (.succ (.succ (.succ (.succ (.zero (.cons .nil))))))) (fun _ _ => ?_); refine zb3 ?_; refine zaX ?_; refine zfT ?_; refine G.backK (k + 1, us.set q (shelfAdd t.1 x b, va), vr) 0 (two_eq (congrArg (fun z => Ch.grp 3 1 z) (sub_set (by simp only [shelfAdd, List.map_append, List.map_cons, List.map_nil, icell]))) (congrArg (fun z => Ch.row vr 131 5 z) (by rw [List.set_set, List.set_set, List.set_set, List.set_set]; exact cells_set rfl))) (.cons rfl (.cons rfl (.cons rfl (.cons rfl (.nil))))) ?_ ?_ ?_
                    exact ⟨rfl, rfl, trivial⟩
                    exact ⟨hlt, by rw [foldl_take_succ hz, ← hM, hst, List.map_set]⟩
                    omega
          · all_goals
             replace hc := of_decide_eq_false hc
             simp only [List.length_map] at hc
             try (exfalso; omega)
             all_goals
              refine zcX ?_; refine G.know (fun w hw => (Rd.owned 1 rfl w hw).one_) (fun hone => G.retF (v2, ts) ⟨hone, shelf_end (bnot_no hok) hM hlt⟩ rfl rfl rfl (fun w hw => hw.sublist (by repeat (first | exact List.Sublist.refl _ | refine List.Sublist.cons_cons _ ?_ | refine List.Sublist.cons _ ?_)))); done
theorem pile_new2 {M S : Type} {room : M → S → Bool} {add : M → Nat → S → M} {z : M} {out : List M} {s : S} {k : Nat} (h : ∀ t, out.getLast? = some t → room t s = false) : pileStep room add z out (s, k) = out ++ [add z k s] := by
  unfold pileStep
  split
  · rename_i t ht; rw [h t ht]; rfl
  · rfl
theorem add_row (t : ShelfM) (k : Nat) (b : BoxM) : [] ++ t.l.map icell ++ [[Value.int .i64 (k : Int)]] = (shelfAdd t k b).l.map icell := by simp [shelfAdd, icell]
theorem l10Add_any (t : ShelfM) {sv : Value} (k : Nat) (b : BoxM) (w : World) (hov : sv.oneCell' = true) (h : Rd w sv 1 (t.l.map icell)) (hl : t.l.length ≤ 1048576) (ht : 0 ≤ t.w ∧ t.w ≤ 2000 ∧ 0 ≤ t.g ∧ t.g ≤ 100000) (hb : 0 ≤ b.w ∧ b.w ≤ 2000 ∧ 0 ≤ b.g ∧ b.g ≤ 100000) :
    Fn Tryz.prog 167 [.agg [sv, .int .i64 t.w, .int .i64 t.d, .int .i64 t.h, .int .i64 t.g].toArray, .int .i64 (k : Int), b.val] w (fun v : Value => v.oneCell' = true) (fun v => .agg (ShelfM.cells (shelfAdd t k b, v)).toArray) (fun v => [.row v 3 1 ((shelfAdd t k b).l.map icell)]) := by
  have hln : (t.l.map icell).length = t.l.length := by simp
  refine Fn.of (n := 35) Tryz.func167 rfl rfl ?_; refine zaU (fun bk3 _ => ?_); refine zdc (fun bk5 _ => ?_); refine zbu (fun bk6 _ => ?_); refine ze1 ?_; refine G.drawL [28] ?_; refine GE.q 1 rfl za rfl (qg_runs (rv_field rfl)) rfl ?_; refine GE.q 2 rfl za rfl (qg_runs (rv_load1 2 rfl rfl rfl)) rfl ?_; refine zbU ?_; refine GE.q 7 rfl za rfl (qg_runs (rv_field rfl)) rfl ?_; refine GE.q 8 rfl za rfl (qg_runs (rv_load1 2 rfl rfl rfl)) rfl ?_; refine zeo ?_; refine GE.q 10 rfl za rfl (qg_runs (rv_load1 1 rfl rfl rfl)) rfl ?_; refine zfA ?_; refine GE.q 12 rfl za rfl (qg_runs (rv_field rfl)) rfl ?_; refine GE.q 13 rfl za rfl (qg_runs (rv_load1 2 rfl rfl rfl)) rfl ?_; refine GE.q 14 rfl za rfl (qg_runs (rv_field rfl)) rfl ?_; refine GE.q 15 rfl za rfl (qg_runs (rv_load1 1 rfl rfl rfl)) rfl ?_
  refine GE.q 17 rfl za rfl (qg_runs (rv_field rfl)) rfl ?_; refine GE.q 18 rfl za rfl (qg_runs (rv_load1 2 rfl rfl rfl)) rfl ?_; refine GE.q 19 rfl za rfl (qg_runs (rv_field rfl)) rfl ?_; refine GE.q 20 rfl za rfl (qg_runs (rv_load1 1 rfl rfl rfl)) rfl ?_; refine GE.q 22 rfl za rfl (qg_runs (rv_field rfl)) rfl ?_; refine GE.q 23 rfl za rfl (qg_runs (rv_load1 2 rfl rfl rfl)) rfl ?_; refine GE.q 24 rfl za rfl (qg_runs (rv_field rfl)) rfl ?_; refine GE.q 25 rfl za rfl (qg_runs (rv_load1 1 rfl rfl rfl)) rfl ?_; refine GE.q 26 rfl za rfl (qg_runs (rv_addB rfl rfl zb zb)) rfl ?_; refine GE.any (rs := [0, 5]) za zD ?_; refine List.forall_mem_cons.2 ⟨?_, List.forall_mem_cons.2 ⟨?_, fun _ h => absurd h List.not_mem_nil⟩⟩
  focus
   refine zc9 (fun vl _ => ?_); refine GE.any (rs := [3, 5]) za zD ?_; refine List.forall_mem_cons.2 ⟨?_, List.forall_mem_cons.2 ⟨?_, fun _ h => absurd h List.not_mem_nil⟩⟩
   focus
    refine GE.pickOp rfl rfl rfl (og_app0 rfl rfl rfl ze rfl rfl zh zh) rfl zj (fun va _ => ?_); refine GE.ol 5 za rfl rfl (og_lit rfl (.cons rfl .nil) rfl rfl rfl rfl rfl rfl) rfl zf (fun vl _ => ?_); refine GE.ol 6 za rfl rfl (og_app1 rfl rfl rfl zg rfl rfl zh zh) rfl zf (fun va _ => ?_)
    skip; refine zcr (fun hova => ?_)
    refine zf7 (fun _ _ => ?_); refine zf8 (fun _ _ => ?_); refine zbE (fun _ _ => ?_); refine GE.t0 28 za rfl rfl rfl (og_st2 rfl rfl rfl rfl rfl (by repeat (first | rfl | refine one_cons zc ?_)) (.zero (.cons (.cons (.cons (.cons (.cons .nil))))))) (fun _ _ => ?_); refine zb3 ?_
   rotate_left
   focus
    refine zca (fun vl _ => ?_); refine GE.ol 3 za rfl rfl (og_app1 rfl rfl rfl ze rfl rfl zh zh) rfl zf (fun va _ => ?_); refine GE.ol 6 za rfl rfl (og_app1 rfl rfl rfl zg rfl rfl zh zh) rfl zf (fun va _ => ?_)
    skip; refine zcr (fun hova => ?_)
    refine zf7 (fun _ _ => ?_); refine zf8 (fun _ _ => ?_); refine zbE (fun _ _ => ?_); refine GE.t0 28 za rfl rfl rfl (og_st2 rfl rfl rfl rfl rfl (by repeat (first | rfl | refine one_cons zc ?_)) (.zero (.cons (.cons (.cons (.cons (.cons .nil))))))) (fun _ _ => ?_); refine zb3 ?_
   rotate_left
  rotate_left 2
  focus
   refine zcv (fun vl _ => ?_); refine GE.ol 0 za rfl rfl (og_lit rfl .nil rfl rfl rfl rfl rfl rfl) rfl zf (fun vl _ => ?_); refine GE.ol 3 za rfl rfl (og_app0 rfl rfl rfl ze rfl rfl zh zh) rfl zf (fun va _ => ?_); refine GE.ol 6 za rfl rfl (og_app0 rfl rfl rfl zi rfl rfl zh zh) rfl zf (fun va _ => ?_)
   skip; refine zep (fun hova => ?_)
   refine zf7 (fun _ _ => ?_); refine zf8 (fun _ _ => ?_); refine zbE (fun _ _ => ?_); refine GE.t0 28 za rfl rfl rfl (og_st2 rfl rfl rfl rfl rfl (by repeat (first | rfl | refine one_cons zc ?_)) (.zero (.cons (.cons (.cons (.cons (.cons .nil))))))) (fun _ _ => ?_); refine zb3 ?_
  rotate_left
  all_goals
   refine G.thenN (G.ret ?_)
   exact G.retFc va hova 2 rfl rfl rfl rfl rfl (fun w hw => by rw [add_row t k b] at hw; exact hw.sublist (by repeat (first | exact List.Sublist.refl _ | refine List.Sublist.cons_cons _ ?_ | refine List.Sublist.cons _ ?_)))
theorem specShelves_any (p : PalletM) {v : Value} {l : List BoxM} (w : World) (h : Rd w v 4 (l.map BoxM.cells)) (hb : l.length ≤ 1048576) :
    Fn Tryz.prog 107 [p.val, v] w (fun x : Value × List (ShelfM × Value) => x.1.oneCell' = true ∧ x.2.map Prod.fst = shelvesM p l) (fun x => x.1) (fun x => [.grp 3 1 (x.2.map (sub ShelfM.l)), .row x.1 131 5 (x.2.map ShelfM.cells)]) := by
  have pile_lens : ∀ (xs : List (BoxM × Nat)) (k : Nat), ∀ t ∈ (xs.take k).foldl (pileStep (shelfRoom p) shelfAdd shelfZ) [], t.l.length ≤ k := fun xs k => shelf_lens xs k
  have hln : (l.map BoxM.cells).length = l.length := by simp
  have hlk0 : (l.map BoxM.d).length = l.length := by simp
  refine Fn.of (n := 106) Tryz.func107 rfl rfl ?_; refine zaU (fun bk2 _ => ?_); refine zfC ?_; refine zda (fun vl _ => ?_)
  obtain ⟨vs, hvs⟩ : ∃ y, y = vl := ⟨_, rfl⟩
  subst hvs
  refine zbk ?_; refine G.seq ?_; refine zbM ?_; refine zaM ?_; refine G.op (og_callV rfl rfl (fun w hh => sboxesOk_any _ w zH)) rfl (fun _ _ => ?_); refine zcI ?_; refine G.cond rfl (fun hc => ?_) (fun hc => ?_); refine zbp ?_; refine G.thenR ?_; refine zbW (fun hovl => ?_); exact G.retF (vs, []) ⟨hovl, by rw [shelf_no zB]; rfl⟩ rfl rfl rfl (fun w hw => (hw.sublist (by repeat (first | exact List.Sublist.refl _ | refine List.Sublist.cons_cons _ ?_ | refine List.Sublist.cons _ ?_)) : HeapOk _ w [.row vs 131 5 []]).nilGrp _ _)
  · refine G.skip ?_
    refine G.thenN ?_; refine za6 (fun vl _ => ?_); refine zd8 ?_
    have hok := hc
    have hpp := pallet_in (palletOk_of hc)
    refine G.loopK (ι := Nat × Value) (ks := [1, 2, 5]) (fun x => [(6, x.2), (7, .int .i64 (x.1 : Int))]) (fun x => [.row x.2 3 1 (((l.take x.1).map BoxM.d).map icell)]) (fun x => x.1 ≤ l.length) (fun x => l.length - x.1) (0, vl) (.cons rfl (.cons rfl (.cons rfl (.nil)))) rfl ?_ ?_ ?_
    exact Nat.zero_le _
    exact ⟨rfl, rfl, trivial⟩
    rintro ⟨k0, v0⟩ hk0
    dsimp only at hk0 ⊢
    have hl9 : (((l.take k0).map BoxM.d).map icell).length = k0 := by (simp; omega)
    by_cases hlt0 : k0 < l.length
    case' pos => (obtain ⟨b, hb2⟩ := get_of_lt hlt0; have heb := get_map hb2 BoxM.cells)
    case' neg => (have hkall : ((l.take k0).map BoxM.d).map icell = (l.map BoxM.d).map icell := (by rw [List.take_of_length_le zb]))
    all_goals
     refine zcu ?_; refine zcW ?_; refine G.cond rfl (fun hc => ?_) (fun hc => ?_)
     · all_goals
        replace hc := of_decide_eq_true hc
        simp only [List.length_map] at hc
        try (exfalso; omega)
        all_goals
         refine za3 ?_; refine zdH ?_; refine G.v (rv_indexH rfl rfl ze rfl zX) rfl ?_; refine zcg ?_; refine G.v (rv_loadE rfl ze zX rfl) rfl ?_; refine za2 (fun vl _ => ?_); refine zbI (fun va _ => ?_); refine zbb ?_; refine zaO ?_; refine G.backK (k0 + 1, va) 1 (one_eq (congrArg (fun z => Ch.row va 3 1 z) (dsnoc hb2))) (.cons rfl (.cons rfl (.cons rfl (.nil)))) ?_ ?_ ?_
         exact ⟨rfl, rfl, trivial⟩
         dsimp only; omega
         dsimp only; omega
     · all_goals
        replace hc := of_decide_eq_false hc
        simp only [List.length_map] at hc
        try (exfalso; omega)
        all_goals
         refine zaW ?_; refine zaN ?_
         first | (refine G.op (og_callF1 rfl rfl (fun w hh => ssortDown_any (ks := l.map BoxM.d) w zp zb)) rfl ?_; rintro vo hvo; try dsimp only) | (refine G.op (og_callF2 rfl rfl (fun w hh => ssortDown_any (ks := l.map BoxM.d) w zp zb)) rfl ?_; rintro vo hvo; try dsimp only) | (refine G.op (og_callF3 rfl rfl (fun w hh => ssortDown_any (ks := l.map BoxM.d) w zp zb)) rfl ?_; rintro vo hvo; try dsimp only) | (refine G.op (og_callF0 rfl rfl (fun w hh => ssortDown_any (ks := l.map BoxM.d) w zp zb)) rfl ?_; rintro vo hvo; try dsimp only) | (refine G.op (og_callF rfl rfl (fun w hh => ssortDown_any (ks := l.map BoxM.d) w zp zb)) rfl ?_; rintro vo hvo; try dsimp only)
         refine zd8 ?_; refine G.frontR2 vs rfl ?_; refine zcf ?_
         have hoL := ordM_len (keyM (l.map BoxM.d)) l.length
         have hol2 : ((ordM (keyM (l.map BoxM.d)) (l.map BoxM.d).length).map ncell).length = l.length := by rw [List.length_map, ordM_len, hlk0]
         refine G.loopK (ι := Nat × List (ShelfM × Value) × Value) (ks := [1, 2, 8]) (fun x => [(5, x.2.2), (9, .int .i64 (x.1 : Int))]) (fun x => [.grp 3 1 (x.2.1.map (sub ShelfM.l)), .row x.2.2 131 5 (x.2.1.map ShelfM.cells)]) (fun x => x.1 ≤ l.length ∧ x.2.1.map Prod.fst = ((shelfXs l).take x.1).foldl (pileStep (shelfRoom p) shelfAdd shelfZ) []) (fun x => l.length - x.1) (0, [], vs) (.cons rfl (.cons rfl (.cons rfl (.nil)))) rfl ?_ ?_ ?_
         exact ⟨Nat.zero_le _, rfl⟩
         exact ⟨rfl, rfl, trivial⟩
         rintro ⟨k, ts, v2⟩ ⟨hk, hM⟩
         dsimp only at hk hM ⊢
         by_cases hlt : k < l.length
         case' pos => (obtain ⟨x, hx⟩ := get_of_lt (l := ordM (keyM (l.map BoxM.d)) l.length) (k := k) zb; have hxl : x < l.length := ordM_mem.1 (List.mem_of_getElem? hx); have heo : ((ordM (keyM (l.map BoxM.d)) (l.map BoxM.d).length).map ncell)[k]? = some (ncell x) := get_map (by rw [hlk0]; exact hx) ncell; obtain ⟨b, hb2⟩ := get_of_lt hxl; have heb := get_map hb2 BoxM.cells; have hobb := box_in (ok_at hok hb2).2; have hz := xs_get hx hb2; have hl0 : (ts.map ShelfM.cells).length = ts.length := zD; have hlk : ts.length ≤ k := (by (have := pile_len (room := shelfRoom p) (add := shelfAdd) (z := shelfZ) ((shelfXs l).take k) []; rw [← hM] at this; simp only [List.length_map, List.length_nil, List.length_take] at this; omega)); rcases nil_or_snoc ts with hts | ⟨tp, t, hts⟩; have hn0 : ts.length = 0 := (by rw [hts]; rfl); rotate_left; have hn1 : ts.length = tp.length + 1 := zaB; obtain ⟨q, hq⟩ : ∃ y, y = tp.length := ⟨_, rfl⟩; have htq : ts[q]? = some t := zab; have he := get_map htq ShelfM.cells; have hgi : (ts.map (sub ShelfM.l))[q]? = some (t.2, t.1.l.map icell) := get_mapS htq; have hbt : 0 ≤ t.1.w ∧ t.1.w ≤ p.w ∧ 0 ≤ t.1.d ∧ t.1.d ≤ p.d ∧ 0 ≤ t.1.h ∧ t.1.h ≤ p.h ∧ 0 ≤ t.1.g ∧ t.1.g ≤ p.g := (by (have := shelf_bd (p := p) (l := l) (bnot_no hok) k; rw [← hM] at this; exact this t.1 (List.mem_map.2 ⟨t, List.mem_of_getElem? htq, rfl⟩))); refine zc5 (fun hov2 => ?_); have hlb : t.1.l.length ≤ 1048576 := (by (have := pile_lens (shelfXs l) k; rw [← hM] at this; have := this t.1 (List.mem_map.2 ⟨t, List.mem_of_getElem? htq, rfl⟩); omega)))
         all_goals
          refine zcu ?_; refine zdG ?_; refine zaT ?_; refine G.cond rfl (fun hc => ?_) (fun hc => ?_)
          · all_goals
             replace hc := of_decide_eq_true hc
             simp only [List.length_map] at hc
             try (exfalso; omega)
             all_goals
              refine za3 ?_; refine zaZ ?_; refine zaM ?_; refine zdV ?_; refine zb9 (fun bk10 _ => ?_); refine zbT (fun _ _ => ?_); refine zeC ?_; refine zdG ?_; refine zbk ?_; refine zcs (fun _ _ => ?_); refine GE.ol 1 za rfl rfl (og_runs (rv_gtr rfl rfl)) rfl zd (fun _ _ => ?_); refine zcl (fun _ _ => ?_)
              all_goals (((with_reducible refine GE.part (t := 52) rfl (fun hg => ?_) (fun hg => ?_)) <;> (try exact Bool.noConfusion hg) <;> (try (exfalso; first | (have hq := of_decide_eq_false hg; omega) | (have hq := of_decide_eq_true hg; omega); done)) <;> (first | refine zbO ?_ | refine zfD ?_)))
              all_goals ((first | refine zbU ?_ | refine zeI ?_))
              all_goals ((first | (refine zfK ?_) | refine zeJ ?_))
              all_goals ((first | (refine zeH ?_) | refine zeK ?_))
              all_goals ((first | (refine GE.q 7 rfl za rfl (qg_runs (rv_fieldE rfl)) rfl ?_) | refine zeL ?_))
              all_goals ((first | refine GE.q 8 rfl za rfl (qg_runs (rv_loadE rfl zF zU rfl)) rfl ?_ | refine zd9 ?_))
              all_goals ((first | (refine zeo ?_) | refine zea ?_))
              all_goals ((first | (refine zfu ?_) | refine zdT ?_))
              all_goals ((first | (refine zfA ?_) | refine zdF ?_))
              all_goals ((first | (refine GE.q 12 rfl za rfl (qg_runs (rv_field rfl)) rfl ?_) | refine zdq ?_))
              all_goals ((first | (refine GE.q 13 rfl za rfl (qg_runs (rv_load1 5 rfl rfl rfl)) rfl ?_) | refine zdr ?_))
              all_goals ((first | refine GE.q 14 rfl za rfl (qg_runs (rv_leq rfl rfl)) rfl ?_ | refine zey ?_))
              all_goals ((first | refine zev (fun _ _ => ?_) | refine zew (fun _ _ => ?_)))
              all_goals (refine zeU (fun _ _ => ?_))
              all_goals (((with_reducible refine GE.part (t := 66) rfl (fun hg => ?_) (fun hg => ?_)) <;> (try exact Bool.noConfusion hg) <;> (try (exfalso; (have hq := of_decide_eq_false hg; omega))) <;> (first | refine zdg ?_ | refine zeh ?_)))
              all_goals ((first | refine GE.q 18 rfl za rfl (qg_runs (rv_move rfl)) rfl ?_ | refine zfm ?_))
              all_goals ((first | (refine GE.q 19 rfl za rfl (qg_runs (rv_decr rfl rfl zb zb)) rfl ?_) | refine zfW ?_))
              all_goals ((first | (refine GE.q 20 rfl za rfl (qg_runs (rv_indexH (k := q) rfl rfl zm zb zq)) rfl ?_) | refine zfh ?_))
              all_goals ((first | (refine GE.q 21 rfl za rfl (qg_runs (rv_fieldE rfl)) rfl ?_) | refine zfi ?_))
              all_goals ((first | refine GE.q 22 rfl za rfl (qg_runs (rv_loadE rfl zF zU rfl)) rfl ?_ | refine zfj ?_))
              all_goals ((first | (refine GE.q 23 rfl za rfl (qg_runs (rv_field rfl)) rfl ?_) | refine zfk ?_))
              all_goals ((first | (refine GE.q 24 rfl za rfl (qg_runs (rv_load1 0 rfl rfl rfl)) rfl ?_) | refine GE.qn 24 rfl za rfl rfl ?_))
              all_goals ((first | (refine GE.q 25 rfl za rfl (qg_runs (rv_addB rfl rfl zb zb)) rfl ?_) | refine GE.qn 25 rfl za rfl rfl ?_))
              all_goals ((first | (refine ze5 ?_) | refine zfl ?_))
              all_goals ((first | (refine GE.q 27 rfl za rfl (qg_runs (rv_load1 5 rfl rfl rfl)) rfl ?_) | refine GE.qn 27 rfl za rfl rfl ?_))
              all_goals ((first | refine GE.q 28 rfl za rfl (qg_runs (rv_leq rfl rfl)) rfl ?_ | refine GE.qn 28 rfl za rfl rfl ?_))
              all_goals ((first | refine GE.ol 29 za rfl rfl (og_runs (rv_pickT rfl rfl)) rfl zd (fun _ _ => ?_) | refine GE.ol 29 za rfl rfl (og_runs (rv_pickF rfl rfl)) rfl zd (fun _ _ => ?_)))
              all_goals
               refine zbm ?_; refine G.cond rfl (fun hc => ?_) (fun hc => ?_)
               · try exact Bool.noConfusion hc
                 all_goals
                  replace hc := of_decide_eq_true hc
                  all_goals
                   obtain ⟨us, hus⟩ : ∃ y, y = ts := ⟨_, rfl⟩
                   obtain ⟨vr, hvr⟩ : ∃ y, y = v2 := ⟨_, rfl⟩
                   have hl1 : (us.map ShelfM.cells).length = q + 1 := by rw [hus]; omega
                   have hst : pileStep (shelfRoom p) shelfAdd shelfZ (ts.map Prod.fst) (b, x) = (us.map Prod.fst).set q (shelfAdd t.1 x b) := by
                     rw [hus]; exact pile_room (fst_at htq) zY (by simp only [shelfRoom, Bool.and_eq_true, decide_eq_true_eq]; ((have hq9 := of_decide_eq_true hg; omega)))
                   subst hvr hus
                   all_goals
                    refine G.drawL [14, 15] ?_; refine za4 ?_; refine GE.q 2 rfl za rfl (qg_runs (rv_decr rfl rfl zb zb)) rfl ?_; refine zbO ?_; refine zbU ?_; refine zfK ?_; refine zeH ?_; refine GE.q 7 rfl za rfl (qg_runs (rv_loadEW rfl zm zq rfl)) rfl ?_; refine zfe ?_; refine GE.q 9 rfl za rfl (qg_runs (rv_move rfl)) rfl ?_; refine GE.q 10 rfl za rfl (qg_runs (rv_indexH rfl rfl zA rfl zaq)) rfl ?_; refine GE.q 11 rfl za rfl (qg_runs (rv_loadE rfl zA zaq rfl)) rfl ?_; refine GE.ol 12 za rfl rfl (og_runs (rv_loadW 0 rfl rfl rfl)) rfl zd (fun _ _ => ?_)
                    refine GE.ol 13 za rfl rfl (og_callF1 rfl rfl (fun w hh => l10Add_any t.1 x b w hov2 (by exact Rd.grp 1 rfl (List.mem_of_getElem? hgi) _ hh) hlb zb zb)) rfl zj ?_; rintro vn hvn; try dsimp only
                    refine GE.t 14 za rfl rfl rfl (og_runs (rv_indexH (k := q) rfl rfl zA zb zq)) rfl (fun _ _ => ?_); refine GE.t0 15 za rfl rfl rfl (og_stE3 rfl rfl rfl zq rfl rfl (by repeat (first | rfl | refine one_cons zc ?_)) rfl (.zero (.cons (.cons (.cons (.cons (.cons .nil))))))) (fun _ _ => ?_); refine zb3 ?_; refine zaO ?_
                    (refine G.frontR3 vr rfl ?_); (refine G.frontG3 _ rfl ?_); (refine G.frontR2 vn rfl ?_); refine G.swapRow ((us.set q (shelfAdd t.1 x b, vn)).map (sub ShelfM.l)) hgi (sub_set rfl) rfl ?_
                    refine G.keep2 1 rfl ?_; refine G.backK (k + 1, us.set q (shelfAdd t.1 x b, vn), vr) 0 (by exact two_eq rfl (congrArg (fun z => Ch.row vr 131 5 z) (cells_set rfl))) (.cons rfl (.cons rfl (.cons rfl (.nil)))) ?_ ?_ ?_
                    exact ⟨rfl, rfl, trivial⟩
                    exact ⟨hlt, by rw [foldl_take_succ hz, ← hM, hst, List.map_set]⟩
                    omega
               · all_goals
                  try replace hc := of_decide_eq_false hc
                  try simp only [List.length_map] at hc
                  all_goals
                   have hst2 : pileStep (shelfRoom p) shelfAdd shelfZ (ts.map Prod.fst) (b, x) = ts.map Prod.fst ++ [shelfAdd shelfZ x b] := by
                     exact pile_new2 (room := shelfRoom p) (add := shelfAdd) (z := shelfZ) (out := ts.map Prod.fst) (s := b) (k := x) (by intro t2 ht2; first | (rw [hts] at ht2; simp at ht2; done) | (rw [last_of hts] at ht2; obtain rfl := Option.some.inj ht2; simp only [shelfRoom, Bool.and_eq_false_iff, decide_eq_false_iff_not]; (first | (have hq9 := of_decide_eq_false hg; omega) | omega)))
                   all_goals
                    refine G.frontR2 v2 rfl ?_; refine G.drawD1 [10] rfl ?_; refine zdA ?_; refine GE.q2 1 rfl za rfl (qg_runs (rv_build2 rfl .nil .nil)) zn rfl ?_; refine zeZ ?_; refine GE.q2 3 rfl za rfl (qg_runs (rv_move rfl)) zn rfl ?_; refine GE.q2 4 rfl za rfl (qg_runs (rv_indexH rfl rfl zm rfl zaq)) zn rfl ?_; refine GE.q2 5 rfl za rfl (qg_runs (rv_loadE rfl zm zaq rfl)) zn rfl ?_; refine GE.ol 6 za rfl rfl (og_runs (rv_loadW 1 rfl rfl rfl)) rfl zj (fun _ _ => ?_); refine GE.ol 7 za rfl rfl (og_callF1 rfl rfl (fun w hh => l10Add_any shelfZ x b w rfl (Rd.nil_ _ _) (Nat.zero_le _) (by dsimp only [shelfZ]; omega) zb)) rfl zf ?_; rintro vn hvn; try dsimp only
                    refine GE.ol 8 za rfl rfl (og_lit rfl (.cons rfl .nil) (by (simp only [List.all_cons, List.all_nil, Bool.and_true, Bool.and_eq_true]; refine ⟨rfl, ?_⟩; (repeat (first | rfl | refine one_cons zc ?_)))) rfl rfl rfl rfl rfl) rfl zk (fun vl _ => ?_); refine GE.ol 9 za rfl rfl (og_app2 rfl rfl rfl zg rfl rfl zh zh) rfl zk (fun va _ => ?_); refine GE.t 10 za rfl rfl rfl (og_runs (rv_assign rfl)) rfl (fun _ _ => ?_); refine zb3 ?_; refine zaO ?_
                    (refine G.frontR2 va rfl ?_); (refine G.frontG4 _ rfl ?_); (refine G.frontR3 vn rfl ?_); refine G.pushRow ((ts ++ [(shelfAdd shelfZ x b, vn)]).map (sub ShelfM.l)) zL rfl ?_
                    refine G.keep2 2 rfl ?_; refine G.backK (k + 1, ts ++ [(shelfAdd shelfZ x b, vn)], va) 0 (by (exact two_eq rfl (congrArg (fun z => Ch.row va 131 5 z) zL))) (.cons rfl (.cons rfl (.cons rfl (.nil)))) ?_ ?_ ?_
                    exact ⟨rfl, rfl, trivial⟩
                    exact ⟨hlt, by rw [foldl_take_succ hz, ← hM, hst2, List.map_append]; rfl⟩
                    omega
          · all_goals
             replace hc := of_decide_eq_false hc
             simp only [List.length_map] at hc
             try (exfalso; omega)
             all_goals
              refine zcX ?_; refine G.know (fun w hw => (Rd.owned 1 rfl w hw).one_) (fun hone => G.retF (v2, ts) ⟨hone, shelf_end (bnot_no hok) hM hlt⟩ rfl rfl rfl (fun w hw => hw.sublist (by repeat (first | exact List.Sublist.refl _ | refine List.Sublist.cons_cons _ ?_ | refine List.Sublist.cons _ ?_)))); done
end Go.Proofs.YtglpgohilfoecaaGreat

/-
  What piles keep: their order, their need, their sums. No program is in sight here.
-/
namespace Go.Proofs.YtglpgohilfoecaaGreat
open Go.RowKit
section
variable {M S : Type} {room : M → S → Bool} {add : M → Nat → S → M} {z : M} (f : M → List Int) (hz : f z = []) (ha : ∀ t k s, f (add t k s) = f t ++ [(k : Int)])
include hz ha
theorem step_flat (out : List M) (x : S × Nat) : ((pileStep room add z out x).map f).flatten = (out.map f).flatten ++ [(x.2 : Int)] := by
  rcases List.eq_nil_or_concat out with h | ⟨o, t, h⟩
  · subst h; simp [pileStep, ha, hz]
  · rw [List.concat_eq_append] at h
    subst h
    unfold pileStep
    simp only [List.getLast?_concat]
    split
    · rw [List.length_append, List.length_singleton, Nat.add_sub_cancel, List.set_append_right _ _ (Nat.le_refl _), Nat.sub_self, List.set_cons_zero]
      simp [ha]
    · simp [ha, hz]
theorem pile_flat : ∀ (xs : List (S × Nat)) (out : List M), ((xs.foldl (pileStep room add z) out).map f).flatten = (out.map f).flatten ++ xs.map fun x => (x.2 : Int)
  | [], out => by simp
  | x :: r, out => by rw [List.foldl_cons, pile_flat r, step_flat f hz ha]; simp
theorem pile_ne (xs : List (S × Nat)) : ∀ t ∈ xs.foldl (pileStep room add z) [], f t ≠ [] :=
  pile_inv (P := fun t => f t ≠ []) xs [] (fun x _ => ⟨by have := hz; simp [ha], fun t _ _ => by simp [ha]⟩) zD
end
/-! ### Shelves -/
def wAt (l : List BoxM) (n : Int) : Int := (boxAt l n.toNat).w
def gAt (l : List BoxM) (n : Int) : Int := (boxAt l n.toNat).g
structure ShOk (p : PalletM) (l : List BoxM) (t : ShelfM) : Prop where
  at_ : ∀ n ∈ t.l, ∃ j : Nat, n = (j : Int) ∧ j < l.length ∧ (boxAt l j).d ≤ t.d ∧ (boxAt l j).h ≤ t.h
  ws : (t.l.map (wAt l)).sum = t.w
  gs : (t.l.map (gAt l)).sum = t.g
  wb : t.w ≤ p.w
  gb : t.g ≤ p.g
theorem shOk_add {p : PalletM} {l : List BoxM} {t : ShelfM} {x : BoxM × Nat} (hx : l[x.2]? = some x.1) (h : ∀ n ∈ t.l, ∃ j : Nat, n = (j : Int) ∧ j < l.length ∧ (boxAt l j).d ≤ t.d ∧ (boxAt l j).h ≤ t.h) (hw : (t.l.map (wAt l)).sum = t.w) (hg : (t.l.map (gAt l)).sum = t.g) (h1 : t.w + x.1.w ≤ p.w) (h2 : t.g + x.1.g ≤ p.g) : ShOk p l (shelfAdd t x.2 x.1) := by
  have hlt : x.2 < l.length := by
    rcases Nat.lt_or_ge x.2 l.length with h | h
    · exact h
    · rw [List.getElem?_eq_none h] at hx; cases hx
  have hb := boxAt_get hx
  refine ⟨fun n hn => ?_, ?_, ?_, h1, h2⟩
  · simp only [shelfAdd] at hn ⊢
    rcases List.mem_append.1 hn with hn | hn
    · obtain ⟨j, e, j1, j2, j3⟩ := h n hn
      exact ⟨j, e, j1, by omega, by omega⟩
    · exact ⟨x.2, List.mem_singleton.1 hn, hlt, by rw [hb]; omega, by rw [hb]; omega⟩
  · simp only [shelfAdd, List.map_append, List.sum_append, List.map_cons, List.map_nil, List.sum_cons, List.sum_nil, hw, wAt, Int.toNat_natCast, hb]; omega
  · simp only [shelfAdd, List.map_append, List.sum_append, List.map_cons, List.map_nil, List.sum_cons, List.sum_nil, hg, gAt, Int.toNat_natCast, hb]; omega
theorem shelf_ok {p : PalletM} {l : List BoxM} (hok : boxesOkM p l = true) : ∀ t ∈ shelvesM p l, ShOk p l t := by
  rw [shelvesM, if_pos hok]
  refine pile_inv (P := ShOk p l) _ _ (fun x hx => ?_) zD
  have hx' := xs_mem hx
  have hm : x.1 ∈ l := List.mem_of_getElem? hx'
  simp only [boxesOkM, Bool.and_eq_true, List.all_eq_true] at hok
  have hh := box_in (hok.2 x.1 hm)
  refine ⟨shOk_add hx' (by simp [shelfZ]) (by simp [shelfZ]) (by simp [shelfZ]) (by simp only [shelfZ]; omega) (by simp only [shelfZ]; omega), fun t ht hr => ?_⟩
  simp only [shelfRoom, Bool.and_eq_true, decide_eq_true_eq] at hr
  exact shOk_add hx' ht.at_ ht.ws ht.gs hr.1 hr.2
theorem shelf_flat {p : PalletM} {l : List BoxM} (hok : boxesOkM p l = true) : ((shelvesM p l).map ShelfM.l).flatten = (ordM (keyM (l.map BoxM.d)) l.length).map fun (j : Nat) => (j : Int) := by
  rw [shelvesM, if_pos hok, pile, pile_flat ShelfM.l rfl (fun _ _ _ => rfl)]
  simp [shelfXs]
theorem shelf_ne {p : PalletM} {l : List BoxM} : ∀ t ∈ shelvesM p l, t.l ≠ [] := by
  unfold shelvesM; split
  · exact pile_ne ShelfM.l rfl (fun _ _ _ => rfl) _
  · simp
structure Dsc (l : List BoxM) (out : List ShelfM) (xs : List (BoxM × Nat)) : Prop where
  pw : out.Pairwise fun s t => t.d ≤ s.d
  nx : ∀ t ∈ out, ∀ x ∈ xs, x.1.d ≤ t.d
  hd : ∀ t ∈ out, ∃ j : Nat, t.l[0]? = some (j : Int) ∧ t.d = (boxAt l j).d
theorem lay_ok {p : PalletM} {ss : List ShelfM} (hok : shelvesOkM p ss = true) : ∀ t ∈ layersM p ss, 1 ≤ t.d ∧ t.d ≤ p.d ∧ 1 ≤ t.h ∧ t.h ≤ p.h ∧ 1 ≤ t.g ∧ t.g ≤ p.g := by
  rw [layersM, if_pos hok]
  refine pile_inv _ _ (fun x hx => ?_) zD
  have hx' : x.1 ∈ ss := (List.mem_zipIdx' hx).2 ▸ List.getElem_mem _
  simp only [shelvesOkM, Bool.and_eq_true, List.all_eq_true] at hok
  have hh := heap_in (hok.2 x.1 hx')
  refine ⟨by simp only [layAdd, layZ]; omega, fun t ht hr => ?_⟩
  simp only [layRoom, Bool.and_eq_true, decide_eq_true_eq] at hr
  simp only [layAdd]; omega
theorem lay_stacks {p : PalletM} {ss : List ShelfM} (hok : shelvesOkM p ss = true) : stacksOkM p (layersM p ss) = true := by
  have hp : palletOkM p = true := by simp only [shelvesOkM, Bool.and_eq_true] at hok; exact hok.1
  simp only [stacksOkM, Bool.and_eq_true, List.all_eq_true]
  refine ⟨hp, fun t ht => ?_⟩
  have := lay_ok hok t ht
  simp only [heapOkM, inB, Bool.and_eq_true, decide_eq_true_eq]; omega
theorem load_ok {p : PalletM} {ss : List LayerM} (hok : stacksOkM p ss = true) : ∀ t ∈ loadsM p ss, 1 ≤ t.h ∧ t.h ≤ p.h ∧ 1 ≤ t.g ∧ t.g ≤ p.g := by
  rw [loadsM, if_pos hok]
  refine pile_inv _ _ (fun x hx => ?_) zD
  have hx' : x.1 ∈ ss := (List.mem_zipIdx' hx).2 ▸ List.getElem_mem _
  simp only [stacksOkM, Bool.and_eq_true, List.all_eq_true] at hok
  have hh := heap_in (hok.2 x.1 hx')
  refine ⟨by simp only [loadAdd, loadZ]; omega, fun t ht hr => ?_⟩
  simp only [loadRoom, Bool.and_eq_true, decide_eq_true_eq] at hr
  simp only [loadAdd]; omega
theorem zip_snd {α : Type} (l : List α) : (l.zipIdx.map fun x => (x.2 : Int)) = (List.range l.length).map fun (j : Nat) => (j : Int) := by
  have : l.zipIdx.map Prod.snd = List.range l.length := by rw [List.zipIdx_map_snd, List.range_eq_range']
  rw [← this, List.map_map]; rfl
theorem zip_mem {α : Type} {l : List α} {x : α × Nat} (h : x ∈ l.zipIdx) : l[x.2]? = some x.1 := by
  have := List.mem_zipIdx' h
  rw [List.getElem?_eq_getElem this.1]; exact congrArg some this.2.symm
theorem lay_flat {p : PalletM} {ss : List ShelfM} (hok : shelvesOkM p ss = true) : ((layersM p ss).map LayerM.l).flatten = (List.range ss.length).map fun (j : Nat) => (j : Int) := by
  rw [layersM, if_pos hok, pile, pile_flat LayerM.l rfl (fun _ _ _ => rfl), zip_snd]; simp
theorem load_flat {p : PalletM} {ss : List LayerM} (hok : stacksOkM p ss = true) : ((loadsM p ss).map LoadM.l).flatten = (List.range ss.length).map fun (j : Nat) => (j : Int) := by
  rw [loadsM, if_pos hok, pile, pile_flat LoadM.l rfl (fun _ _ _ => rfl), zip_snd]; simp
theorem lay_ne {p : PalletM} {ss : List ShelfM} : ∀ t ∈ layersM p ss, t.l ≠ [] := by
  unfold layersM; split
  · exact pile_ne LayerM.l rfl (fun _ _ _ => rfl) _
  · simp
theorem load_ne {p : PalletM} {ss : List LayerM} : ∀ t ∈ loadsM p ss, t.l ≠ [] := by
  unfold loadsM; split
  · exact pile_ne LoadM.l rfl (fun _ _ _ => rfl) _
  · simp
section
variable {M : Type} {f : M → List Int} {m : List M} {i k N : Nat} {t : M} {x : Int}
def offM (f : M → List Int) (m : List M) (i : Nat) : Nat := ((m.take i).map f).flatten.length
theorem off_at (h : (m.map f).flatten = (List.range N).map fun (j : Nat) => (j : Int)) (ht : m[i]? = some t) (hx : (f t)[k]? = some x) : x = ((offM f m i + k : Nat) : Int) ∧ offM f m i + k < N := by
  have hi : i < m.length := by
    rcases Nat.lt_or_ge i m.length with h1 | h1
    · exact h1
    · rw [List.getElem?_eq_none h1] at ht; cases ht
  have e : (m.map f).flatten = ((m.take i).map f).flatten ++ (f t ++ ((m.drop (i + 1)).map f).flatten) := by
    have e2 : m = m.take i ++ t :: m.drop (i + 1) := by
      rw [List.getElem?_eq_getElem hi] at ht
      conv => lhs; rw [← List.take_append_drop i m, List.drop_eq_getElem_cons hi]
      rw [Option.some.inj ht]
    conv => lhs; rw [e2]
    simp
  have hk : k < (f t).length := by
    rcases Nat.lt_or_ge k (f t).length with h1 | h1
    · exact h1
    · rw [List.getElem?_eq_none h1] at hx; cases hx
  have hz : (m.map f).flatten[offM f m i + k]? = some x := by
    rw [e, List.getElem?_append_right (by unfold offM; omega), show offM f m i + k - ((m.take i).map f).flatten.length = k from by unfold offM; omega, List.getElem?_append_left hk]
    exact hx
  rw [h] at hz
  have hN : offM f m i + k < N := by
    rcases Nat.lt_or_ge (offM f m i + k) N with h1 | h1
    · exact h1
    · rw [List.getElem?_eq_none (by simpa using h1)] at hz; cases hz
  rw [List.getElem?_map, List.getElem?_range hN] at hz
  exact ⟨(Option.some.inj hz).symm, hN⟩
end
def shAt (ss : List ShelfM) (n : Int) : ShelfM := ss.getD n.toNat shelfZ
def lyAt (ls : List LayerM) (n : Int) : LayerM := ls.getD n.toNat layZ
def boxStep (l : List BoxM) (o y z : Int) (st : List SpotM × Int) (b : Int) : List SpotM × Int := (st.1.set b.toNat ⟨o, st.2, y, z⟩, IntKind.i64.wrap (st.2 + (boxAt l b.toNat).w))
def shelfStep (l : List BoxM) (ss : List ShelfM) (o z : Int) (st : List SpotM × Int) (s : Int) : List SpotM × Int := (((shAt ss s).l.foldl (boxStep l o st.2 z) (st.1, 0)).1, IntKind.i64.wrap (st.2 + (shAt ss s).d))
def layerStep (l : List BoxM) (ss : List ShelfM) (ls : List LayerM) (o : Int) (st : List SpotM × Int) (i : Int) : List SpotM × Int := (((lyAt ls i).l.foldl (shelfStep l ss o st.2) (st.1, 0)).1, IntKind.i64.wrap (st.2 + (lyAt ls i).h))
def loadStep (l : List BoxM) (ss : List ShelfM) (ls : List LayerM) (out : List SpotM) (x : LoadM × Nat) : List SpotM := (x.1.l.foldl (layerStep l ss ls (x.2 : Int)) (out, 0)).1
def spotsM (p : PalletM) (l : List BoxM) : List SpotM :=
  if boxesOkM p l then (loadsM p (layersM p (shelvesM p l))).zipIdx.foldl (loadStep l (shelvesM p l) (layersM p (shelvesM p l))) (List.replicate l.length ⟨0, 0, 0, 0⟩) else []
theorem shAt_get {ss : List ShelfM} {j : Nat} {t : ShelfM} (h : ss[j]? = some t) : shAt ss (j : Int) = t := by simp [shAt, List.getD_eq_getElem?_getD, h]
theorem lyAt_get {ls : List LayerM} {j : Nat} {t : LayerM} (h : ls[j]? = some t) : lyAt ls (j : Int) = t := by simp [lyAt, List.getD_eq_getElem?_getD, h]
section
variable {l : List BoxM} {ss : List ShelfM} {ls : List LayerM} {o y z : Int}
theorem box_len : ∀ (bs : List Int) (st : List SpotM × Int), (bs.foldl (boxStep l o y z) st).1.length = st.1.length
  | [], _ => rfl
  | b :: r, st => by rw [List.foldl_cons, box_len r]; simp [boxStep]
theorem shelf_lenS : ∀ (bs : List Int) (st : List SpotM × Int), (bs.foldl (shelfStep l ss o z) st).1.length = st.1.length
  | [], _ => rfl
  | b :: r, st => by rw [List.foldl_cons, shelf_lenS r]; simp [shelfStep, box_len]
theorem layer_lenS : ∀ (bs : List Int) (st : List SpotM × Int), (bs.foldl (layerStep l ss ls o) st).1.length = st.1.length
  | [], _ => rfl
  | b :: r, st => by rw [List.foldl_cons, layer_lenS r]; simp [layerStep, shelf_lenS]
theorem load_lenS : ∀ (xs : List (LoadM × Nat)) (out : List SpotM), (xs.foldl (loadStep l ss ls) out).length = out.length
  | [], _ => rfl
  | x :: r, out => by rw [List.foldl_cons, load_lenS r]; simp [loadStep, layer_lenS]
end
theorem spots_len {p : PalletM} {l : List BoxM} (hok : boxesOkM p l = true) : (spotsM p l).length = l.length := by
  rw [spotsM, if_pos hok, load_lenS, List.length_replicate]
theorem spots_le (p : PalletM) (l : List BoxM) : (spotsM p l).length ≤ l.length := by
  cases h : boxesOkM p l with
  | true => rw [spots_len h]; exact Nat.le_refl _
  | false => rw [spotsM, h]; simp
theorem shelf_ge {p : PalletM} {l : List BoxM} (hok : boxesOkM p l = true) : ∀ t ∈ shelvesM p l, 1 ≤ t.w ∧ t.w ≤ p.w ∧ 1 ≤ t.d ∧ t.d ≤ p.d ∧ 1 ≤ t.h ∧ t.h ≤ p.h ∧ 1 ≤ t.g ∧ t.g ≤ p.g := by
  rw [shelvesM, if_pos hok]
  refine pile_inv _ _ (fun x hx => ?_) zD
  have hx' : x.1 ∈ l := List.mem_of_getElem? (xs_mem hx)
  simp only [boxesOkM, Bool.and_eq_true, List.all_eq_true] at hok
  have hh := box_in (hok.2 x.1 hx')
  refine ⟨by simp only [shelfAdd, shelfZ]; omega, fun t ht hr => ?_⟩
  simp only [shelfRoom, Bool.and_eq_true, decide_eq_true_eq] at hr
  simp only [shelfAdd]; omega
theorem shelves_okL {p : PalletM} {l : List BoxM} (hok : boxesOkM p l = true) : shelvesOkM p (shelvesM p l) = true := by
  have hp : palletOkM p = true := by simp only [boxesOkM, Bool.and_eq_true] at hok; exact hok.1
  simp only [shelvesOkM, Bool.and_eq_true, List.all_eq_true]
  refine ⟨hp, fun t ht => ?_⟩
  have := shelf_ge hok t ht
  simp only [heapOkM, inB, Bool.and_eq_true, decide_eq_true_eq]; omega
theorem set_cellsP {bs : List SpotM} {i : Nat} {a b c d : Int} : (bs.map SpotM.cells).set i [.int .i64 a, .int .i64 b, .int .i64 c, .int .i64 d] = (bs.set i ⟨a, b, c, d⟩).map SpotM.cells := by rw [List.map_set]; rfl
end Go.Proofs.YtglpgohilfoecaaGreat

/-
  Where boxes stand: the program's way.
-/
namespace Go.Proofs.YtglpgohilfoecaaGreat
open Go.RowKit
attribute [local irreducible] Go.wpList Go.Code.wp Go.Exit.then Go.Exit.inBlock Go.bodyPost Go.Calls pE pB G RunsV FnV Fn FnM
set_option maxRecDepth 100000
set_option maxHeartbeats 4000000
theorem implSpotsOf_any (p : PalletM) {v : Value} {l : List BoxM} (w : World) (h : Rd w v 4 (l.map BoxM.cells)) (hb : l.length ≤ 1048576) :
    Fn Tryz.prog 37 [p.val, v] w (fun x : Value => x.oneCell' = true) (fun x => x) (fun x => [.row x 86 4 ((spotsM p l).map SpotM.cells)]) := by
  have hln : (l.map BoxM.cells).length = l.length := by simp
  refine Fn.of (n := 102) Tryz.func37 rfl rfl ?_; refine zaU (fun bk2 _ => ?_); refine zbk ?_; refine za7 ?_; refine zaM ?_; refine G.op (og_callV rfl rfl (fun w hh => boxesOk_any _ w zH)) rfl (fun _ _ => ?_); refine zcI ?_; refine G.cond rfl (fun hc => ?_) (fun hc => ?_); refine zdM ?_
  exact G.retF (.slice none 0 0) rfl rfl rfl rfl (fun w hw => by rw [spotsM, if_neg (by intro hq; rw [hq] at hc; exact Bool.noConfusion hc)]; exact hw.none.nilRow _ _)
  · refine G.skip ?_
    refine G.thenN ?_; refine za7 ?_; refine zaM ?_; refine G.op (og_callF2 rfl rfl (fun w hh => implShelves_any p w zH zb)) rfl ?_; rintro ⟨vg, gs⟩ ⟨hvg, hgs⟩; try dsimp only
    dsimp only at hgs hvg
    have hgl : gs.length = (shelvesM p l).length := by rw [← hgs, List.length_map]
    have hsl := shelves_len p l
    refine zfC ?_; refine G.v (rv_loadW 2 rfl rfl rfl) rfl ?_; refine zaM ?_; refine G.op (og_callF2 rfl rfl (fun w hh => implLayersOf_any p w zax zb)) rfl ?_; rintro ⟨vy, ys⟩ ⟨hvy, hys⟩; try dsimp only
    dsimp only at hys hvy
    rw [hgs] at hys
    have hyl : ys.length = (layersM p (shelvesM p l)).length := by rw [← hys, List.length_map]
    have hyl2 := layers_len p (shelvesM p l)
    refine zdS ?_; refine zbg ?_; refine G.op (og_make rfl rfl rfl rfl rfl zb zb) rfl (fun vm _ => ?_); refine zbk ?_; refine zct ?_; refine G.v (rv_loadW 5 rfl rfl rfl) rfl ?_; refine zaM ?_; refine G.op (og_callF2 rfl rfl (fun w hh => implLoadsOf_any p w zan zb)) rfl ?_; rintro ⟨vj, js⟩ ⟨hvj, hjs⟩; try dsimp only
    dsimp only at hjs hvj
    rw [hys] at hjs
    have hjl : js.length = (loadsM p (layersM p (shelvesM p l))).length := by rw [← hjs, List.length_map]
    have hjl2 := loads_len p (layersM p (shelvesM p l))
    have hjl3 : (js.map LoadM.cells).length = js.length := by simp
    refine zc0 ?_; refine zby ?_
    have hok : boxesOkM p l = true := by simpa using hc
    have hso := shelves_okL hok
    have hst := lay_stacks hso
    have hlf := lay_flat hso
    have hof := load_flat hst
    refine G.frontR2 vm rfl ?_; refine G.rowEq ((List.replicate l.length (⟨0, 0, 0, 0⟩ : SpotM)).map SpotM.cells) (by simp [SpotM.cells]) rfl ?_; refine G.loopK (ι := Nat × List SpotM) (ks := [1, 5, 6, 7, 34, 35]) (fun x => [(36, .int .i64 (x.1 : Int))]) (fun x => [.row vm 86 4 (x.2.map SpotM.cells)]) (fun x => x.1 ≤ js.length ∧ x.2.length = l.length ∧ x.2 = ((loadsM p (layersM p (shelvesM p l))).zipIdx.take x.1).foldl (loadStep l (shelvesM p l) (layersM p (shelvesM p l))) (List.replicate l.length ⟨0, 0, 0, 0⟩)) (fun x => js.length - x.1) (0, List.replicate l.length ⟨0, 0, 0, 0⟩) (.cons rfl (.cons rfl (.cons rfl (.cons rfl (.cons rfl (.cons rfl (.nil))))))) rfl ?_ ?_ ?_
    exact ⟨Nat.zero_le _, by simp, rfl⟩
    exact ⟨rfl, trivial⟩
    rintro ⟨q, out0⟩ ⟨hq0, hol0, hoe0⟩
    dsimp only at hq0 hol0 hoe0 ⊢
    by_cases hlt0 : q < js.length
    case' pos => (obtain ⟨t, hgt⟩ := get_of_lt hlt0; have het := get_map hgt LoadM.cells; have hg1 : (js.map (sub LoadM.l))[q]? = some (t.2, t.1.l.map icell) := get_mapS hgt; have hm1 : (loadsM p (layersM p (shelvesM p l)))[q]? = some t.1 := hjs ▸ fst_at hgt; have hz1 := zip_get hm1; have hlc1 : (t.1.l.map icell).length = t.1.l.length := zD; refine G.know (fun w hw => (Rd.grp 1 rfl (List.mem_of_getElem? hg1) w hw).one_) (fun hov1 => ?_); refine G.know (fun w hw => (Rd.grp 1 rfl (List.mem_of_getElem? hg1) w hw).le_map) (fun hbn1 => ?_))
    all_goals
     refine zbs ?_; refine G.cond rfl (fun hc => ?_) (fun hc => ?_)
     · all_goals
        replace hc := of_decide_eq_true hc
        try (exfalso; omega)
        all_goals
         refine zee ?_; refine G.v (rv_indexH rfl rfl zm rfl (by exact het)) rfl ?_; refine G.v (rv_loadEW rfl zm (by exact het) rfl) rfl ?_; refine zbu (fun bk9 _ => ?_); refine zcD ?_; refine G.op0 (og_st0 rfl rfl rfl rfl rfl (by repeat (first | rfl | refine one_cons zc ?_)) (.zero (.cons (.cons (.cons .nil))))) (fun _ _ => ?_); refine zbe ?_; refine zaR ?_; refine G.seq ?_; refine zbx ?_; refine G.v (rv_len rfl (by exact Rd.grp 2 rfl (List.mem_of_getElem? hg1))) rfl ?_; refine zby ?_; refine G.frontR1 vm rfl ?_
         refine G.loopK (ι := Nat × List SpotM × Int) (ks := [1, 5, 6, 7, 8, 34, 35, 36, 42, 43]) (fun x => [(10, .int .i64 x.2.2), (44, .int .i64 (x.1 : Int))]) (fun x => [.row vm 86 4 (x.2.1.map SpotM.cells)]) (fun x => x.1 ≤ t.1.l.length ∧ x.2.1.length = l.length ∧ (x.2.1, x.2.2) = (t.1.l.take x.1).foldl (layerStep l (shelvesM p l) (layersM p (shelvesM p l)) (q : Int)) (out0, 0)) (fun x => t.1.l.length - x.1) (0, out0, 0) (.cons rfl (.cons rfl (.cons rfl (.cons rfl (.cons rfl (.cons rfl (.cons rfl (.cons rfl (.cons rfl (.cons rfl (.nil))))))))))) rfl ?_ ?_ ?_
         exact ⟨Nat.zero_le _, hol0, rfl⟩
         exact ⟨rfl, rfl, trivial⟩
         rintro ⟨j, out1, z⟩ ⟨hj0, hol1, hoe1⟩
         dsimp only at hj0 hol1 hoe1 ⊢
         by_cases hlt1 : j < t.1.l.length
         case' pos => (obtain ⟨xj, hxj⟩ := get_of_lt hlt1; have hej := get_map hxj icell; obtain ⟨hxe, hxb⟩ := off_at hof hm1 hxj; generalize hz9 : offM LoadM.l (loadsM p (layersM p (shelvesM p l))) q + j = j1 at hxe hxb; subst hxe; obtain ⟨yy, hgy⟩ := get_of_lt (l := ys) (k := j1) zb; have hey := get_map hgy LayerM.cells; have hg2 : (ys.map (sub LayerM.l))[j1]? = some (yy.2, yy.1.l.map icell) := get_mapS hgy; have hm2 : (layersM p (shelvesM p l))[j1]? = some yy.1 := hys ▸ fst_at hgy; have hya := lyAt_get hm2; have hlc2 : (yy.1.l.map icell).length = yy.1.l.length := zD; have hfs1 := foldl_take_succ hxj (layerStep l (shelvesM p l) (layersM p (shelvesM p l)) (q : Int)) (out0, 0); rw [← hoe1] at hfs1; refine G.know (fun w hw => (Rd.grp 4 rfl (List.mem_of_getElem? hg2) w hw).le_map) (fun hbn2 => ?_))
         all_goals
          refine zbs ?_; refine G.cond rfl (fun hc => ?_) (fun hc => ?_)
          · all_goals
             replace hc := of_decide_eq_true hc
             try (exfalso; omega)
             all_goals
              refine zdx ?_; refine G.v (rv_indexH rfl rfl (by exact Rd.grp 2 rfl (List.mem_of_getElem? hg1)) rfl (by exact hej)) rfl ?_; refine G.v (rv_loadE rfl (by exact Rd.grp 2 rfl (List.mem_of_getElem? hg1)) (by exact hej) rfl) rfl ?_; refine zaL ?_; refine zaR ?_; refine zcu ?_; refine G.v (rv_indexH rfl rfl z6 rfl (by exact hey)) rfl ?_; refine zcg ?_; refine G.v (rv_loadE rfl z6 (by exact hey) rfl) rfl ?_; refine G.v (rv_len rfl (by exact Rd.grp 4 rfl (List.mem_of_getElem? hg2))) rfl ?_; refine zby ?_; refine G.frontR0 vm rfl ?_
              refine G.loopK (ι := Nat × List SpotM × Int) (ks := [1, 5, 6, 7, 8, 10, 12, 34, 35, 36, 42, 43, 44, 52, 53]) (fun x => [(13, .int .i64 x.2.2), (54, .int .i64 (x.1 : Int))]) (fun x => [.row vm 86 4 (x.2.1.map SpotM.cells)]) (fun x => x.1 ≤ yy.1.l.length ∧ x.2.1.length = l.length ∧ (x.2.1, x.2.2) = (yy.1.l.take x.1).foldl (shelfStep l (shelvesM p l) (q : Int) z) (out1, 0)) (fun x => yy.1.l.length - x.1) (0, out1, 0) (.cons rfl (.cons rfl (.cons rfl (.cons rfl (.cons rfl (.cons rfl (.cons rfl (.cons rfl (.cons rfl (.cons rfl (.cons rfl (.cons rfl (.cons rfl (.cons rfl (.cons rfl (.nil)))))))))))))))) rfl ?_ ?_ ?_
              exact ⟨Nat.zero_le _, hol1, rfl⟩
              exact ⟨rfl, rfl, trivial⟩
              rintro ⟨k, out2, y⟩ ⟨hk0, hol2, hoe2⟩
              dsimp only at hk0 hol2 hoe2 ⊢
              by_cases hlt2 : k < yy.1.l.length
              case' pos => (obtain ⟨xk, hxk⟩ := get_of_lt hlt2; have hek := get_map hxk icell; obtain ⟨hxe, hxb⟩ := off_at hlf hm2 hxk; generalize hz8 : offM LayerM.l (layersM p (shelvesM p l)) j1 + k = k1 at hxe hxb; subst hxe; obtain ⟨sh, hgs2⟩ := get_of_lt (l := gs) (k := k1) zb; have hes := get_map hgs2 ShelfM.cells; have hg3 : (gs.map (sub ShelfM.l))[k1]? = some (sh.2, sh.1.l.map icell) := get_mapS hgs2; have hm3 : (shelvesM p l)[k1]? = some sh.1 := hgs ▸ fst_at hgs2; have hsa := shAt_get hm3; have hlc3 : (sh.1.l.map icell).length = sh.1.l.length := zD; have hsk := shelf_ok hok sh.1 (List.mem_of_getElem? hm3); have hfs2 := foldl_take_succ hxk (shelfStep l (shelvesM p l) (q : Int) z) (out1, 0); rw [← hoe2] at hfs2; refine G.know (fun w hw => (Rd.grp 6 rfl (List.mem_of_getElem? hg3) w hw).le_map) (fun hbn3 => ?_))
              all_goals
               refine zbs ?_; refine G.cond rfl (fun hc => ?_) (fun hc => ?_)
               · all_goals
                  replace hc := of_decide_eq_true hc
                  try (exfalso; omega)
                  all_goals
                   refine zdx ?_; refine zeE ?_; refine zaL ?_; refine zaR ?_; refine zcu ?_; refine G.v (rv_indexH rfl rfl zaj rfl (by exact hes)) rfl ?_; refine zcg ?_; refine G.v (rv_loadE rfl zaj (by exact hes) rfl) rfl ?_; refine G.v (rv_len rfl (by exact Rd.grp 6 rfl (List.mem_of_getElem? hg3))) rfl ?_; refine zby ?_; refine G.frontR0 vm rfl ?_
                   refine G.loopK (ι := Nat × List SpotM × Int) (ks := [1, 5, 6, 7, 8, 10, 12, 13, 15, 34, 35, 36, 42, 43, 44, 52, 53, 54, 62, 63]) (fun x => [(16, .int .i64 x.2.2), (64, .int .i64 (x.1 : Int))]) (fun x => [.row vm 86 4 (x.2.1.map SpotM.cells)]) (fun x => x.1 ≤ sh.1.l.length ∧ x.2.1.length = l.length ∧ (x.2.1, x.2.2) = (sh.1.l.take x.1).foldl (boxStep l (q : Int) y z) (out2, 0)) (fun x => sh.1.l.length - x.1) (0, out2, 0) (.cons rfl (.cons rfl (.cons rfl (.cons rfl (.cons rfl (.cons rfl (.cons rfl (.cons rfl (.cons rfl (.cons rfl (.cons rfl (.cons rfl (.cons rfl (.cons rfl (.cons rfl (.cons rfl (.cons rfl (.cons rfl (.cons rfl (.cons rfl (.nil))))))))))))))))))))) rfl ?_ ?_ ?_
                   exact ⟨Nat.zero_le _, hol2, rfl⟩
                   exact ⟨rfl, rfl, trivial⟩
                   rintro ⟨m, out3, x⟩ ⟨hm0, hol3, hoe3⟩
                   dsimp only at hm0 hol3 hoe3 ⊢
                   by_cases hlt3 : m < sh.1.l.length
                   case' pos => (obtain ⟨xm, hxm⟩ := get_of_lt hlt3; have hem := get_map hxm icell; obtain ⟨b1, hbe, hbl, _, _⟩ := hsk.at_ xm (List.mem_of_getElem? hxm); subst hbe; obtain ⟨b, hb2⟩ := get_of_lt hbl; have heb := get_map hb2 BoxM.cells; have hba := boxAt_get hb2; obtain ⟨s0, hs0⟩ := get_of_lt (l := out3) (k := b1) zb; have heo := get_map hs0 SpotM.cells; have hfs3 := foldl_take_succ hxm (boxStep l (q : Int) y z) (out2, 0); rw [← hoe3] at hfs3)
                   all_goals
                    refine zbs ?_; refine G.cond rfl (fun hc => ?_) (fun hc => ?_)
                    · all_goals
                       replace hc := of_decide_eq_true hc
                       try (exfalso; omega)
                       all_goals
                        refine zdx ?_; refine G.v (rv_indexH rfl rfl (by exact Rd.grp 6 rfl (List.mem_of_getElem? hg3)) rfl (by exact hem)) rfl ?_; refine G.v (rv_loadE rfl (by exact Rd.grp 6 rfl (List.mem_of_getElem? hg3)) (by exact hem) rfl) rfl ?_; refine zcQ ?_; refine zbH ?_; refine zbH ?_; refine zbG ?_; refine zfV (fun _ _ => ?_); refine zbe ?_; refine zdH ?_; refine G.v (rv_indexH rfl rfl ze rfl zX) rfl ?_; refine zcg ?_
                        refine G.v (rv_loadE rfl ze zX rfl) rfl ?_; refine zej ?_; refine zbb ?_; refine zaX ?_; refine G.backK (m + 1, out3.set b1 ⟨(q : Int), x, y, z⟩, IntKind.i64.wrap (x + b.w)) 0 (one_eq (congrArg (fun z => Ch.row vm 86 4 z) set_cellsP)) (.cons rfl (.cons rfl (.cons rfl (.cons rfl (.cons rfl (.cons rfl (.cons rfl (.cons rfl (.cons rfl (.cons rfl (.cons rfl (.cons rfl (.cons rfl (.cons rfl (.cons rfl (.cons rfl (.cons rfl (.cons rfl (.cons rfl (.cons rfl (.nil))))))))))))))))))))) ?_ ?_ ?_
                        exact ⟨rfl, rfl, trivial⟩
                        exact ⟨hlt3, by simp [hol3], by rw [hfs3]; simp [boxStep, hba]⟩
                        dsimp only; omega
                    · all_goals
                       replace hc := of_decide_eq_false hc
                       try (exfalso; omega)
                       all_goals
                        refine zaW ?_; refine zdH ?_; refine G.v (rv_indexH rfl rfl zaj rfl (by exact hes)) rfl ?_; refine zcg ?_; refine G.v (rv_loadE rfl zaj (by exact hes) rfl) rfl ?_; refine zej ?_; refine zbb ?_; refine zaX ?_; refine G.backK (k + 1, out3, IntKind.i64.wrap (y + sh.1.d)) 0 rfl (.cons rfl (.cons rfl (.cons rfl (.cons rfl (.cons rfl (.cons rfl (.cons rfl (.cons rfl (.cons rfl (.cons rfl (.cons rfl (.cons rfl (.cons rfl (.cons rfl (.cons rfl (.nil)))))))))))))))) ?_ ?_ ?_
                        exact ⟨rfl, rfl, trivial⟩
                        exact ⟨hlt2, hol3, by rw [List.take_of_length_le zb] at hoe3; rw [hfs2]; simp only [shelfStep, hsa, ← hoe3]⟩
                        dsimp only; omega
               · all_goals
                  replace hc := of_decide_eq_false hc
                  try (exfalso; omega)
                  all_goals
                   refine zaW ?_; refine zdH ?_; refine G.v (rv_indexH rfl rfl z6 rfl (by exact hey)) rfl ?_; refine zcg ?_; refine G.v (rv_loadE rfl z6 (by exact hey) rfl) rfl ?_; refine zej ?_; refine zbb ?_; refine zaX ?_; refine G.backK (j + 1, out2, IntKind.i64.wrap (z + yy.1.h)) 0 rfl (.cons rfl (.cons rfl (.cons rfl (.cons rfl (.cons rfl (.cons rfl (.cons rfl (.cons rfl (.cons rfl (.cons rfl (.nil))))))))))) ?_ ?_ ?_
                   exact ⟨rfl, rfl, trivial⟩
                   exact ⟨hlt1, hol2, by rw [List.take_of_length_le zb] at hoe2; rw [hfs1]; simp only [layerStep, hya, ← hoe2]⟩
                   dsimp only; omega
          · all_goals
             replace hc := of_decide_eq_false hc
             try (exfalso; omega)
             all_goals
              refine zcZ ?_; refine zaX ?_; refine G.keep1 1 rfl ?_; refine G.backK (q + 1, out1) 0 rfl (.cons rfl (.cons rfl (.cons rfl (.cons rfl (.cons rfl (.cons rfl (.nil))))))) ?_ ?_ ?_
              exact ⟨rfl, trivial⟩
              exact ⟨hlt0, hol1, by rw [List.take_of_length_le zb] at hoe1; rw [foldl_take_succ hz1, ← hoe0]; simp only [loadStep, ← hoe1]⟩
              dsimp only; omega
     · all_goals
        replace hc := of_decide_eq_false hc
        try (exfalso; omega)
        all_goals
         refine zcX ?_; refine G.know (fun w hw => (Rd.owned 0 rfl w hw).one_) (fun hone => G.retF vm hone rfl rfl rfl (fun w hw => by rw [List.take_of_length_le z8] at hoe0; rw [spotsM, if_pos hok, ← hoe0]; exact hw.sublist (by repeat (first | exact List.Sublist.refl _ | refine List.Sublist.cons_cons _ ?_ | refine List.Sublist.cons _ ?_)))); done
theorem specSpotsOf_any (p : PalletM) {v : Value} {l : List BoxM} (w : World) (h : Rd w v 4 (l.map BoxM.cells)) (hb : l.length ≤ 1048576) :
    Fn Tryz.prog 49 [p.val, v] w (fun x : Value => x.oneCell' = true) (fun x => x) (fun x => [.row x 86 4 ((spotsM p l).map SpotM.cells)]) := by
  have hln : (l.map BoxM.cells).length = l.length := by simp
  refine Fn.of (n := 116) Tryz.func49 rfl rfl ?_; refine zaU (fun bk2 _ => ?_); refine zdS ?_; refine zbg ?_; refine G.op (og_make rfl rfl rfl rfl rfl zb zb) rfl (fun vm _ => ?_); refine zbk ?_; refine G.seq ?_; refine zbM ?_; refine zaM ?_; refine G.op (og_callV rfl rfl (fun w hh => sboxesOk_any _ w zH)) rfl (fun _ _ => ?_); refine zcI ?_; refine G.cond rfl (fun hc => ?_) (fun hc => ?_); refine za6 (fun vl _ => ?_); refine zco ?_; refine G.thenR ?_; refine G.know (fun w hw => (Rd.owned 0 rfl w hw).one_) (fun hone => G.retF vl hone rfl rfl rfl (fun w hw => by rw [spotsM, if_neg (by intro hq; rw [hq] at hc; exact Bool.noConfusion hc)]; exact hw.sublist (by repeat (first | exact List.Sublist.refl _ | refine List.Sublist.cons_cons _ ?_ | refine List.Sublist.cons _ ?_))))
  · refine G.skip ?_
    refine G.thenN (G.seq ?_); refine zbM ?_; refine zaM ?_; refine G.op (og_callF2 rfl rfl (fun w hh => specShelves_any p w zH zb)) rfl ?_; rintro ⟨vg, gs⟩ ⟨hvg, hgs⟩; try dsimp only
    dsimp only at hgs hvg
    have hgl : gs.length = (shelvesM p l).length := by rw [← hgs, List.length_map]
    have hsl := shelves_len p l
    refine zfC ?_; refine zd6 ?_; refine zaM ?_; refine G.op (og_callF2 rfl rfl (fun w hh => specLayersOf_any p w zax zb)) rfl ?_; rintro ⟨vy, ys⟩ ⟨hvy, hys⟩; try dsimp only
    dsimp only at hys hvy
    rw [hgs] at hys
    have hyl : ys.length = (layersM p (shelvesM p l)).length := by rw [← hys, List.length_map]
    have hyl2 := layers_len p (shelvesM p l)
    refine zfC ?_; refine G.v (rv_loadW 5 rfl rfl rfl) rfl ?_; refine zaM ?_; refine G.op (og_callF2 rfl rfl (fun w hh => specLoadsOf_any p w zax zb)) rfl ?_; rintro ⟨vj, js⟩ ⟨hvj, hjs⟩; try dsimp only
    dsimp only at hjs hvj
    rw [hys] at hjs
    have hjl : js.length = (loadsM p (layersM p (shelvesM p l))).length := by rw [← hjs, List.length_map]
    have hjl2 := loads_len p (layersM p (shelvesM p l))
    have hjl3 : (js.map LoadM.cells).length = js.length := by simp
    refine zd8 ?_
    have hok : boxesOkM p l = true := by simpa using hc
    have hso := shelves_okL hok
    have hst := lay_stacks hso
    have hlf := lay_flat hso
    have hof := load_flat hst
    refine G.frontR6 vm rfl ?_; refine G.rowEq ((List.replicate l.length (⟨0, 0, 0, 0⟩ : SpotM)).map SpotM.cells) (by simp [SpotM.cells]) rfl ?_; refine G.loopK (ι := Nat × List SpotM) (ks := [1, 5, 6, 7, 8]) (fun x => [(9, .int .i64 (x.1 : Int))]) (fun x => [.row vm 86 4 (x.2.map SpotM.cells)]) (fun x => x.1 ≤ js.length ∧ x.2.length = l.length ∧ x.2 = ((loadsM p (layersM p (shelvesM p l))).zipIdx.take x.1).foldl (loadStep l (shelvesM p l) (layersM p (shelvesM p l))) (List.replicate l.length ⟨0, 0, 0, 0⟩)) (fun x => js.length - x.1) (0, List.replicate l.length ⟨0, 0, 0, 0⟩) (.cons rfl (.cons rfl (.cons rfl (.cons rfl (.cons rfl (.nil)))))) rfl ?_ ?_ ?_
    exact ⟨Nat.zero_le _, by simp, rfl⟩
    exact ⟨rfl, trivial⟩
    rintro ⟨q, out0⟩ ⟨hq0, hol0, hoe0⟩
    dsimp only at hq0 hol0 hoe0 ⊢
    by_cases hlt0 : q < js.length
    case' pos => (obtain ⟨t, hgt⟩ := get_of_lt hlt0; have het := get_map hgt LoadM.cells; have hg1 : (js.map (sub LoadM.l))[q]? = some (t.2, t.1.l.map icell) := get_mapS hgt; have hm1 : (loadsM p (layersM p (shelvesM p l)))[q]? = some t.1 := hjs ▸ fst_at hgt; have hz1 := zip_get hm1; have hlc1 : (t.1.l.map icell).length = t.1.l.length := zD; refine G.know (fun w hw => (Rd.grp 1 rfl (List.mem_of_getElem? hg1) w hw).le_map) (fun hbn1 => ?_))
    all_goals
     refine zcu ?_; refine zdG ?_; refine zaT ?_; refine G.cond rfl (fun hc => ?_) (fun hc => ?_)
     · all_goals
        replace hc := of_decide_eq_true hc
        try (exfalso; omega)
        all_goals
         refine za3 ?_; refine zaR ?_; refine zb8 ?_; refine G.frontR0 vm rfl ?_; refine G.loopK (ι := Nat × List SpotM × Int) (ks := [1, 5, 6, 7, 8, 9]) (fun x => [(10, .int .i64 x.2.2), (11, .int .i64 (x.1 : Int))]) (fun x => [.row vm 86 4 (x.2.1.map SpotM.cells)]) (fun x => x.1 ≤ t.1.l.length ∧ x.2.1.length = l.length ∧ (x.2.1, x.2.2) = (t.1.l.take x.1).foldl (layerStep l (shelvesM p l) (layersM p (shelvesM p l)) (q : Int)) (out0, 0)) (fun x => t.1.l.length - x.1) (0, out0, 0) (.cons rfl (.cons rfl (.cons rfl (.cons rfl (.cons rfl (.cons rfl (.nil))))))) rfl ?_ ?_ ?_
         exact ⟨Nat.zero_le _, hol0, rfl⟩
         exact ⟨rfl, rfl, trivial⟩
         rintro ⟨j, out1, z⟩ ⟨hj0, hol1, hoe1⟩
         dsimp only at hj0 hol1 hoe1 ⊢
         by_cases hlt1 : j < t.1.l.length
         case' pos => (obtain ⟨xj, hxj⟩ := get_of_lt hlt1; have hej := get_map hxj icell; obtain ⟨hxe, hxb⟩ := off_at hof hm1 hxj; generalize hz9 : offM LoadM.l (loadsM p (layersM p (shelvesM p l))) q + j = j1 at hxe hxb; subst hxe; obtain ⟨yy, hgy⟩ := get_of_lt (l := ys) (k := j1) zb; have hey := get_map hgy LayerM.cells; have hg2 : (ys.map (sub LayerM.l))[j1]? = some (yy.2, yy.1.l.map icell) := get_mapS hgy; have hm2 : (layersM p (shelvesM p l))[j1]? = some yy.1 := hys ▸ fst_at hgy; have hya := lyAt_get hm2; have hlc2 : (yy.1.l.map icell).length = yy.1.l.length := zD; have hfs1 := foldl_take_succ hxj (layerStep l (shelvesM p l) (layersM p (shelvesM p l)) (q : Int)) (out0, 0); rw [← hoe1] at hfs1; (refine G.know (fun w hw => (Rd.grp 3 rfl (List.mem_of_getElem? hg2) w hw).one_) (fun hov2 => ?_)); refine G.know (fun w hw => (Rd.grp 3 rfl (List.mem_of_getElem? hg2) w hw).le_map) (fun hbn2 => ?_))
         all_goals
          refine zcu ?_; refine zaM ?_; refine G.v (rv_indexH rfl rfl zm rfl (by exact het)) rfl ?_; refine zcg ?_; refine G.v (rv_loadE rfl zm (by exact het) rfl) rfl ?_; refine G.v (rv_len rfl (by exact Rd.grp 1 rfl (List.mem_of_getElem? hg1))) rfl ?_; refine zaT ?_; refine G.cond rfl (fun hc => ?_) (fun hc => ?_)
          · all_goals
             replace hc := of_decide_eq_true hc
             try (exfalso; omega)
             all_goals
              refine za3 ?_; refine zaZ ?_; refine zaM ?_; refine G.v (rv_indexH rfl rfl zm rfl (by exact het)) rfl ?_; refine zcg ?_; refine G.v (rv_loadE rfl zm (by exact het) rfl) rfl ?_; refine zaM ?_; refine G.v (rv_indexH rfl rfl (by exact Rd.grp 1 rfl (List.mem_of_getElem? hg1)) rfl (by exact hej)) rfl ?_; refine G.v (rv_loadE rfl (by exact Rd.grp 1 rfl (List.mem_of_getElem? hg1)) (by exact hej) rfl) rfl ?_; refine G.v (rv_indexH rfl rfl zT rfl (by exact hey)) rfl ?_; refine G.v (rv_loadEW rfl zT (by exact hey) rfl) rfl ?_; refine zbu (fun bk12 _ => ?_); refine G.op0 (og_st0 rfl rfl rfl rfl rfl (by repeat (first | rfl | refine one_cons zc ?_)) (.zero (.cons (.cons (.cons (.cons .nil)))))) (fun _ _ => ?_); refine zbe ?_; refine zf2 ?_; refine G.frontR1 vm rfl ?_
              refine G.loopK (ι := Nat × List SpotM × Int) (ks := [1, 5, 6, 7, 8, 9, 10, 11, 12]) (fun x => [(13, .int .i64 x.2.2), (14, .int .i64 (x.1 : Int))]) (fun x => [.row vm 86 4 (x.2.1.map SpotM.cells)]) (fun x => x.1 ≤ yy.1.l.length ∧ x.2.1.length = l.length ∧ (x.2.1, x.2.2) = (yy.1.l.take x.1).foldl (shelfStep l (shelvesM p l) (q : Int) z) (out1, 0)) (fun x => yy.1.l.length - x.1) (0, out1, 0) (.cons rfl (.cons rfl (.cons rfl (.cons rfl (.cons rfl (.cons rfl (.cons rfl (.cons rfl (.cons rfl (.nil)))))))))) rfl ?_ ?_ ?_
              exact ⟨Nat.zero_le _, hol1, rfl⟩
              exact ⟨rfl, rfl, trivial⟩
              rintro ⟨k, out2, y⟩ ⟨hk0, hol2, hoe2⟩
              dsimp only at hk0 hol2 hoe2 ⊢
              by_cases hlt2 : k < yy.1.l.length
              case' pos => (obtain ⟨xk, hxk⟩ := get_of_lt hlt2; have hek := get_map hxk icell; obtain ⟨hxe, hxb⟩ := off_at hlf hm2 hxk; generalize hz8 : offM LayerM.l (layersM p (shelvesM p l)) j1 + k = k1 at hxe hxb; subst hxe; obtain ⟨sh, hgs2⟩ := get_of_lt (l := gs) (k := k1) zb; have hes := get_map hgs2 ShelfM.cells; have hg3 : (gs.map (sub ShelfM.l))[k1]? = some (sh.2, sh.1.l.map icell) := get_mapS hgs2; have hm3 : (shelvesM p l)[k1]? = some sh.1 := hgs ▸ fst_at hgs2; have hsa := shAt_get hm3; have hlc3 : (sh.1.l.map icell).length = sh.1.l.length := zD; have hsk := shelf_ok hok sh.1 (List.mem_of_getElem? hm3); have hfs2 := foldl_take_succ hxk (shelfStep l (shelvesM p l) (q : Int) z) (out1, 0); rw [← hoe2] at hfs2; (refine G.know (fun w hw => (Rd.grp 6 rfl (List.mem_of_getElem? hg3) w hw).one_) (fun hov3 => ?_)); refine G.know (fun w hw => (Rd.grp 6 rfl (List.mem_of_getElem? hg3) w hw).le_map) (fun hbn3 => ?_))
              all_goals
               refine zeA ?_; refine zbl ?_; refine G.v (rv_len rfl (by exact Rd.grp 4 rfl (List.mem_of_getElem? hg2))) rfl ?_; refine zaT ?_; refine G.cond rfl (fun hc => ?_) (fun hc => ?_)
               · all_goals
                  replace hc := of_decide_eq_true hc
                  try (exfalso; omega)
                  all_goals
                   refine zee ?_; refine zbl ?_; refine zaM ?_; refine zeE ?_; refine G.v (rv_indexH rfl rfl zaj rfl (by exact hes)) rfl ?_; refine G.v (rv_loadEW rfl zaj (by exact hes) rfl) rfl ?_; refine zbu (fun bk15 _ => ?_); refine G.op0 (og_st0 rfl rfl rfl rfl rfl (by repeat (first | rfl | refine one_cons zc ?_)) (.zero (.cons (.cons (.cons (.cons (.cons .nil))))))) (fun _ _ => ?_); refine zbe ?_; refine zf2 ?_; refine G.frontR1 vm rfl ?_
                   refine G.loopK (ι := Nat × List SpotM × Int) (ks := [1, 5, 6, 7, 8, 9, 10, 11, 12, 13, 14, 15]) (fun x => [(16, .int .i64 x.2.2), (17, .int .i64 (x.1 : Int))]) (fun x => [.row vm 86 4 (x.2.1.map SpotM.cells)]) (fun x => x.1 ≤ sh.1.l.length ∧ x.2.1.length = l.length ∧ (x.2.1, x.2.2) = (sh.1.l.take x.1).foldl (boxStep l (q : Int) y z) (out2, 0)) (fun x => sh.1.l.length - x.1) (0, out2, 0) (.cons rfl (.cons rfl (.cons rfl (.cons rfl (.cons rfl (.cons rfl (.cons rfl (.cons rfl (.cons rfl (.cons rfl (.cons rfl (.cons rfl (.nil))))))))))))) rfl ?_ ?_ ?_
                   exact ⟨Nat.zero_le _, hol2, rfl⟩
                   exact ⟨rfl, rfl, trivial⟩
                   rintro ⟨m, out3, x⟩ ⟨hm0, hol3, hoe3⟩
                   dsimp only at hm0 hol3 hoe3 ⊢
                   by_cases hlt3 : m < sh.1.l.length
                   case' pos => (obtain ⟨xm, hxm⟩ := get_of_lt hlt3; have hem := get_map hxm icell; obtain ⟨b1, hbe, hbl, _, _⟩ := hsk.at_ xm (List.mem_of_getElem? hxm); subst hbe; obtain ⟨b, hb2⟩ := get_of_lt hbl; have heb := get_map hb2 BoxM.cells; have hba := boxAt_get hb2; obtain ⟨s0, hs0⟩ := get_of_lt (l := out3) (k := b1) zb; have heo := get_map hs0 SpotM.cells; have hfs3 := foldl_take_succ hxm (boxStep l (q : Int) y z) (out2, 0); rw [← hoe3] at hfs3)
                   all_goals
                    refine zeA ?_; refine zbl ?_; refine G.v (rv_len rfl (by exact Rd.grp 7 rfl (List.mem_of_getElem? hg3))) rfl ?_; refine zaT ?_; refine G.cond rfl (fun hc => ?_) (fun hc => ?_)
                    · all_goals
                       replace hc := of_decide_eq_true hc
                       try (exfalso; omega)
                       all_goals
                        refine zee ?_; refine zbl ?_; refine zaM ?_; refine G.v (rv_indexH rfl rfl (by exact Rd.grp 7 rfl (List.mem_of_getElem? hg3)) rfl (by exact hem)) rfl ?_; refine G.v (rv_loadE rfl (by exact Rd.grp 7 rfl (List.mem_of_getElem? hg3)) (by exact hem) rfl) rfl ?_; refine zbH ?_; refine zbH ?_; refine zbG ?_; refine zfV (fun _ _ => ?_); refine zbe ?_; refine zdR ?_; refine zbl ?_; refine zaM ?_; refine G.v (rv_indexH rfl rfl (by exact Rd.grp 7 rfl (List.mem_of_getElem? hg3)) rfl (by exact hem)) rfl ?_
                        refine G.v (rv_loadE rfl (by exact Rd.grp 7 rfl (List.mem_of_getElem? hg3)) (by exact hem) rfl) rfl ?_; refine G.v (rv_indexH rfl rfl ze rfl zX) rfl ?_; refine zcg ?_; refine G.v (rv_loadE rfl ze zX rfl) rfl ?_; refine zej ?_; refine zbb ?_; refine zaO ?_; refine G.backK (m + 1, out3.set b1 ⟨(q : Int), x, y, z⟩, IntKind.i64.wrap (x + b.w)) 0 (one_eq (congrArg (fun z => Ch.row vm 86 4 z) set_cellsP)) (.cons rfl (.cons rfl (.cons rfl (.cons rfl (.cons rfl (.cons rfl (.cons rfl (.cons rfl (.cons rfl (.cons rfl (.cons rfl (.cons rfl (.nil))))))))))))) ?_ ?_ ?_
                        exact ⟨rfl, rfl, trivial⟩
                        exact ⟨hlt3, by simp [hol3], by rw [hfs3]; simp [boxStep, hba]⟩
                        dsimp only; omega
                    · all_goals
                       replace hc := of_decide_eq_false hc
                       try (exfalso; omega)
                       all_goals
                        refine zaW ?_; refine zbq ?_; refine zbl ?_; refine zej ?_; refine zbb ?_; refine zaO ?_; refine G.keep1 1 rfl ?_; refine G.backK (k + 1, out3, IntKind.i64.wrap (y + sh.1.d)) 0 rfl (.cons rfl (.cons rfl (.cons rfl (.cons rfl (.cons rfl (.cons rfl (.cons rfl (.cons rfl (.cons rfl (.nil)))))))))) ?_ ?_ ?_
                        exact ⟨rfl, rfl, trivial⟩
                        exact ⟨hlt2, hol3, by rw [List.take_of_length_le zb] at hoe3; rw [hfs2]; simp only [shelfStep, hsa, ← hoe3]⟩
                        dsimp only; omega
               · all_goals
                  replace hc := of_decide_eq_false hc
                  try (exfalso; omega)
                  all_goals
                   refine zaW ?_; refine zbq ?_; refine zbl ?_; refine zej ?_; refine zbb ?_; refine zaO ?_; refine G.keep1 1 rfl ?_; refine G.backK (j + 1, out2, IntKind.i64.wrap (z + yy.1.h)) 0 rfl (.cons rfl (.cons rfl (.cons rfl (.cons rfl (.cons rfl (.cons rfl (.nil))))))) ?_ ?_ ?_
                   exact ⟨rfl, rfl, trivial⟩
                   exact ⟨hlt1, hol2, by rw [List.take_of_length_le zb] at hoe2; rw [hfs1]; simp only [layerStep, hya, ← hoe2]⟩
                   dsimp only; omega
          · all_goals
             replace hc := of_decide_eq_false hc
             try (exfalso; omega)
             all_goals
              refine zcZ ?_; refine zaO ?_; refine G.keep1 0 rfl ?_; refine G.backK (q + 1, out1) 0 rfl (.cons rfl (.cons rfl (.cons rfl (.cons rfl (.cons rfl (.nil)))))) ?_ ?_ ?_
              exact ⟨rfl, trivial⟩
              exact ⟨hlt0, hol1, by rw [List.take_of_length_le zb] at hoe1; rw [foldl_take_succ hz1, ← hoe0]; simp only [loadStep, ← hoe1]⟩
              dsimp only; omega
     · all_goals
        replace hc := of_decide_eq_false hc
        try (exfalso; omega)
        all_goals
         refine zcX ?_; refine G.know (fun w hw => (Rd.owned 0 rfl w hw).one_) (fun hone => G.retF vm hone rfl rfl rfl (fun w hw => by rw [List.take_of_length_le z8] at hoe0; rw [spotsM, if_pos hok, ← hoe0]; exact hw.sublist (by repeat (first | exact List.Sublist.refl _ | refine List.Sublist.cons_cons _ ?_ | refine List.Sublist.cons _ ?_)))); done
end Go.Proofs.YtglpgohilfoecaaGreat

/-
  The cartons of both ways are a packing.
-/
namespace Go.Proofs.YtglpgohilfoecaaGreat
theorem last_perm (p : List Int → Bool) (x : Int) (l : List (List Int)) : (lastM p l x).flatten.Perm (l.flatten ++ [x]) := by
  rw [lastM]
  cases hl : l.getLast? with
  | none => simp only [List.flatten_append, List.flatten_cons, List.flatten_nil, List.append_nil]; exact List.Perm.refl _
  | some g =>
    obtain ⟨ys, rfl⟩ := List.getLast?_eq_some_iff.1 hl
    by_cases hp : p g = true
    · simp only [hp, if_true]
      have e : (ys ++ [g]).set ((ys ++ [g]).length - 1) (g ++ [x]) = ys ++ [g ++ [x]] := by simp
      rw [e]; simp
    · simp only [hp]; simp
theorem lastAll_perm (p : List Int → Int → Bool) (l : List Int) : (lastAll p l).flatten.Perm l := by
  have : ∀ (l : List Int) (out : List (List Int)), (l.foldl (fun out x => lastM (fun g => p g x) out x) out).flatten.Perm (out.flatten ++ l) := by
    intro l
    induction l with
    | nil => intro out; simp
    | cons x r ih =>
      intro out
      rw [List.foldl_cons]
      refine (ih _).trans ?_; refine ((last_perm _ x out).append_right r).trans ?_
      simp
  have h := this l []
  rw [lastAll]; simpa using h
theorem put_perm (p : List Int → Bool) (x : Int) : ∀ l : List (List Int), (putM p l x).flatten.Perm (l.flatten ++ [x])
  | [] => by simp [putM]
  | g :: r => by
    have ih := put_perm p x r
    rw [putM]
    split
    · simp only [List.flatten_cons, List.append_assoc]
      exact List.Perm.append_left g (List.perm_append_comm)
    · simp only [List.flatten_cons, List.append_assoc]
      exact List.Perm.append_left g ih
theorem putAll_perm (p : List Int → Int → Bool) (l : List Int) : (putAll p l).flatten.Perm l := by
  have : ∀ (l : List Int) (out : List (List Int)), (l.foldl (fun out x => putM (fun g => p g x) out x) out).flatten.Perm (out.flatten ++ l) := by
    intro l
    induction l with
    | nil => intro out; simp
    | cons x r ih =>
      intro out
      rw [List.foldl_cons]
      refine (ih _).trans ?_; refine ((put_perm _ x out).append_right r).trans ?_
      simp
  have h := this l []
  rw [putAll]; simpa using h
theorem ordU_perm (r : ReqM) (t : List Int) : (ordU r t).Perm t := by
  have h := (ordM_perm (keyM (t.map (vOf r))) t.length).map (fun i => t.getD i 0)
  refine h.trans (List.Perm.of_eq ?_); refine List.ext_getElem zD (fun i h1 h2 => ?_)
  simp only [List.getElem_map, List.getElem_range]
  rw [List.getD_eq_getElem?_getD, List.getElem?_eq_getElem h2]; rfl
theorem last_all {Q : List Int → Prop} {p : List Int → Bool} {x : Int} {l : List (List Int)} (h1 : Q [x]) (h2 : ∀ g, p g = true → Q (g ++ [x])) (hl : ∀ g ∈ l, Q g) : ∀ g ∈ lastM p l x, Q g := by
  intro g hg
  rw [lastM] at hg
  cases h : l.getLast? with
  | none =>
    rw [h] at hg
    rcases List.mem_append.1 hg with hg | hg
    · exact hl g hg
    · rw [List.mem_singleton.1 hg]; exact h1
  | some b =>
    rw [h] at hg
    dsimp only at hg
    split at hg
    · rename_i hp
      rcases List.mem_or_eq_of_mem_set hg with hg | rfl
      · exact hl g hg
      · exact h2 b hp
    · rcases List.mem_append.1 hg with hg | hg
      · exact hl g hg
      · rw [List.mem_singleton.1 hg]; exact h1
theorem put_all {Q : List Int → Prop} {p : List Int → Bool} {x : Int} (h1 : Q [x]) (h2 : ∀ g, p g = true → Q (g ++ [x])) : ∀ {l : List (List Int)}, (∀ g ∈ l, Q g) → ∀ g ∈ putM p l x, Q g
  | [], _, g, hg => by rw [putM, List.mem_singleton] at hg; rw [hg]; exact h1
  | b :: r, hl, g, hg => by
    rw [putM] at hg
    split at hg
    · rename_i hp
      rcases List.mem_cons.1 hg with rfl | hg
      · exact h2 b hp
      · exact hl g (List.mem_cons_of_mem _ hg)
    · rcases List.mem_cons.1 hg with rfl | hg
      · exact hl g List.mem_cons_self
      · exact put_all h1 h2 (fun c hc => hl c (List.mem_cons_of_mem _ hc)) g hg
theorem fold_all {Q : List Int → Prop} {f : List (List Int) → Int → List (List Int)} : ∀ {l : List Int} {out : List (List Int)}, (∀ x ∈ l, ∀ o : List (List Int), (∀ g ∈ o, Q g) → ∀ g ∈ f o x, Q g) → (∀ g ∈ out, Q g) → ∀ g ∈ l.foldl f out, Q g
  | [], _, _, ho => ho
  | x :: r, out, hs, ho => by
    rw [List.foldl_cons]
    exact fold_all (fun y hy => hs y (List.mem_cons_of_mem _ hy)) (hs x List.mem_cons_self out ho)
theorem itemAt_mem {r : ReqM} {u : Int} {x : ItemM} (h : itemAt r u = some x) : x ∈ r.items := by
  rw [itemAt] at h
  split at h
  · obtain ⟨i, _, h2⟩ := Option.bind_eq_some_iff.1 h; exact List.mem_of_getElem? h2
  · cases h
theorem cls_fits {r : ReqM} (h : classM r = 0) : ∀ x ∈ r.items, fitsM x (mst r) = true := by
  intro x hx
  cases hb : r.items.any (fun x => !fitsM x (typeAt r r.master).1) with
  | false => have := List.any_eq_false.1 hb x hx; rw [mst]; simpa using this
  | true =>
    exfalso
    rw [classM] at h
    split at h
    · omega
    · split at h
      · omega
      · split at h
        · omega
        · first | omega | (rw [if_pos hb] at h; omega)
theorem perm_prod {xs ys : List Int} (h : xs.Perm ys) : xs.foldr (· * ·) 1 = ys.foldr (· * ·) 1 := by
  induction h with
  | nil => rfl
  | cons x _ ih => simp only [List.foldr_cons, ih]
  | swap x y l => simp only [List.foldr_cons]; exact Int.mul_left_comm _ _ _
  | trans _ _ ih1 ih2 => rw [ih1, ih2]
theorem prod3_le {a b c a' b' c' : Int} (ha : 1 ≤ a ∧ a ≤ a') (hb : 1 ≤ b ∧ b ≤ b') (hc : 1 ≤ c ∧ c ≤ c') : a * (b * (c * 1)) ≤ a' * (b' * (c' * 1)) := by
  rw [Int.mul_one, Int.mul_one]
  have h1 : b * c ≤ b' * c' := Int.mul_le_mul hb.2 hc.2 zb zb
  have h2 : 0 ≤ b * c := Int.mul_nonneg zb zb
  exact Int.mul_le_mul ha.2 h1 h2 zb
theorem volM_val {w h d : Int} (hw : 1 ≤ w ∧ w ≤ 2000) (hh : 1 ≤ h ∧ h ≤ 2000) (hd : 1 ≤ d ∧ d ≤ 2000) : volM w h d = w * (h * (d * 1)) := by
  have e : (inB w 0 2000 && inB h 0 2000 && inB d 0 2000) = true := by simp only [inB, Bool.and_eq_true, decide_eq_true_eq]; omega
  have a1 : 1 ≤ w * h := by have := Int.mul_le_mul hw.1 hh.1 zb zb; omega
  have a2 : w * h ≤ 4000000 := by have := Int.mul_le_mul hw.2 hh.2 zb zb; omega
  have a3 : 1 ≤ w * h * d := by have := Int.mul_le_mul a1 hd.1 zb zb; omega
  have a4 : w * h * d ≤ 8000000000 := by have := Int.mul_le_mul a2 hd.2 zb zb; omega
  have e1 : IntKind.i64.wrap (w * h) = w * h := wrap64_id zb zb
  have e2 : IntKind.i64.wrap (w * h * d) = w * h * d := wrap64_id zb zb
  rw [volM, if_pos e, e1, e2, Int.mul_one, Int.mul_assoc]
theorem fits_vol {x : ItemM} {t : TypeM} (h : fitsM x t = true) (hx : itemOkM x = true) (ht : typeOkM t = true) : vI x ≤ volM t.w t.h t.d ∧ x.g ≤ t.g := by
  simp only [itemOkM, typeOkM, inB, Bool.and_eq_true, decide_eq_true_eq] at hx ht
  obtain ⟨a0, a1, a2, ha⟩ := three (sortM_len [x.w, x.h, x.d])
  obtain ⟨b0, b1, b2, hb⟩ := three (sortM_len [t.w, t.h, t.d])
  simp only [fitsM, ha, hb, le3, Bool.and_eq_true, decide_eq_true_eq] at h
  have pa := perm_prod (sortM_perm [x.w, x.h, x.d])
  have pb := perm_prod (sortM_perm [t.w, t.h, t.d])
  rw [ha] at pa
  rw [hb] at pb
  have hm : ∀ y ∈ [a0, a1, a2], 1 ≤ y := fun y hy => by
    have := (sortM_perm [x.w, x.h, x.d]).mem_iff.1 (ha ▸ hy)
    simp only [List.mem_cons, List.not_mem_nil, or_false] at this
    omega
  have q0 := hm a0 zD
  have q1 := hm a1 zD
  have q2 := hm a2 zD
  refine ⟨?_, h.2⟩
  rw [vI, volM_val zb zb zb, volM_val zb zb zb]
  simp only [List.foldr_cons, List.foldr_nil] at pa pb
  rw [← pa, ← pb]
  exact prod3_le ⟨q0, h.1.1.1⟩ ⟨q1, h.1.1.2⟩ ⟨q2, h.1.2⟩
/-- A unit alone is held by the master carton. -/
theorem one_holds {r : ReqM} {u : Int} (hc : classM r = 0) (hu : hereM r u = true) : holdsM r [u] = true := by
  obtain ⟨m, i, x, _, _, _, hx⟩ := item_in (r := r) (u := u) (by rw [List.length_map]; exact hu)
  have hf := fits_vol (cls_fits hc x (itemAt_mem hx)) (List.all_eq_true.1 (bounds_items (cls_sound hc)) x (itemAt_mem hx)) (mst_ok hc)
  rw [holdsM]
  simp only [volUS, gramM, List.map_cons, List.map_nil, List.sum_cons, List.sum_nil, vOf, gOf, hx, Bool.and_eq_true, decide_eq_true_eq]
  omega
theorem okCs_of {r : ReqM} {cs : List (List Int)} (h : ∀ g ∈ cs, g.length ≠ 0 ∧ holdsM r g = true) : okCs r cs = true := by
  rw [okCs, List.all_eq_true]
  intro g hg
  rw [Bool.and_eq_true, decide_eq_true_eq]
  exact h g hg
theorem next_pack {r : ReqM} (hc : classM r = 0) (us : List Int) : packM r us (nextM r us) = true := by
  have h1 : okCs r (nextM r us) = true := okCs_of (fold_all (Q := fun g => g.length ≠ 0 ∧ holdsM r g = true) (fun x hx o ho => last_all ⟨by simp, one_holds hc (List.mem_filter.1 hx).2⟩ (fun g hp => ⟨by simp, by rw [← room_yes hc]; exact hp⟩) ho) (fun g hg => absurd hg List.not_mem_nil))
  rw [packM_ok hc h1, decide_eq_true_eq, sortM_eq]
  exact lastAll_perm _ _
theorem first_pack {r : ReqM} (hc : classM r = 0) (us : List Int) : packM r us (firstM r us) = true := by
  have h1 : okCs r (firstM r us) = true := okCs_of (fold_all (Q := fun g => g.length ≠ 0 ∧ holdsM r g = true) (fun x hx o ho => put_all ⟨by simp, one_holds hc (List.mem_filter.1 ((ordU_perm r (thereM r us)).mem_iff.1 hx)).2⟩ (fun g hp => ⟨by simp, by rw [← room_yes hc]; exact hp⟩) ho) (fun g hg => absurd hg List.not_mem_nil))
  rw [packM_ok hc h1, decide_eq_true_eq, sortM_eq]
  exact (putAll_perm _ _).trans (ordU_perm r _)
theorem perm_sumL {xs ys : List Int} (h : xs.Perm ys) : xs.sum = ys.sum := by
  induction h with
  | nil => rfl
  | cons x _ ih => simp only [List.sum_cons, ih]
  | swap x y l => simp only [List.sum_cons]; omega
  | trans _ _ ih1 ih2 => rw [ih1, ih2]
theorem sum_ge0 {f : Int → Int} (hf : ∀ u, 0 ≤ f u) : ∀ g : List Int, 0 ≤ (g.map f).sum
  | [] => by simp
  | x :: r => by have := sum_ge0 hf r; have := hf x; rw [List.map_cons, List.sum_cons]; omega
theorem way_pack {r : ReqM} (hc : classM r = 0) (us : List Int) : packM r us (wayM r us) = true := by
  rw [wayM]; split
  · exact next_pack hc us
  · exact first_pack hc us
theorem pack_parts {r : ReqM} {us : List Int} {cs : List (List Int)} (h : packM r us cs = true) : (∀ c ∈ cs, c ≠ [] ∧ holdsM r c = true) ∧ cs.flatten.Perm (thereM r us) := by
  rw [packM] at h
  simp only [Bool.and_eq_true, decide_eq_true_eq] at h
  obtain ⟨_, ho, hs⟩ := h
  rw [okCs, List.all_eq_true] at ho
  refine ⟨fun c hcm => ?_, sortM_eq.1 hs⟩
  have := ho c hcm
  rw [Bool.and_eq_true, decide_eq_true_eq] at this
  exact ⟨fun e => this.1 (by rw [e]; rfl), this.2⟩
theorem withinT_perm {r : ReqM} {a b : List Int} (h : a.Perm b) (t : TypeM) : withinT r a t = withinT r b t := by
  rw [withinT, withinT, volUS, volUS, gramM, gramM, perm_sumL (h.map (vOf r)), perm_sumL (h.map (gOf r))]
theorem all_permB {f : Int → Bool} {a b : List Int} (h : a.Perm b) : a.all f = b.all f := by
  rw [Bool.eq_iff_iff, List.all_eq_true, List.all_eq_true]
  exact ⟨fun k x hx => k x (h.mem_iff.2 hx), fun k x hx => k x (h.mem_iff.1 hx)⟩
theorem hold_permT {r : ReqM} {a b : List Int} (h : a.Perm b) (t : TypeM) : holdM r a t = holdM r b t := by
  rw [holdM, holdM, all_permB h, withinT_perm h]
theorem cheap_perm {r : ReqM} {a b : List Int} (h : a.Perm b) : cheapM r a = cheapM r b := by
  rw [cheapM, cheapM]
  have : cheapStep r a = cheapStep r b := by funext x t; rw [cheapStep, cheapStep, hold_permT h]
  rw [this]
theorem cheap_inv {r : ReqM} {c : List Int} : ∀ (ts : List TypeM) (a : TypeM × Bool), (a.2 = true → a.1 ∈ r.types ∧ holdM r c a.1 = true) → (∀ t ∈ ts, t ∈ r.types) →
    ((ts.foldl (cheapStep r c) a).2 = true → (ts.foldl (cheapStep r c) a).1 ∈ r.types ∧ holdM r c (ts.foldl (cheapStep r c) a).1 = true) ∧ (a.2 = true → (ts.foldl (cheapStep r c) a).2 = true ∧ (ts.foldl (cheapStep r c) a).1.cost ≤ a.1.cost) ∧ (∀ t ∈ ts, holdM r c t = true → (ts.foldl (cheapStep r c) a).2 = true ∧ (ts.foldl (cheapStep r c) a).1.cost ≤ t.cost)
  | [], a, h, _ => ⟨h, fun k => ⟨k, Int.le_refl _⟩, fun t ht => absurd ht List.not_mem_nil⟩
  | t :: ts, a, h, hts => by
    rw [List.foldl_cons]
    by_cases hb : (holdM r c t && betterM a t) = true
    · have e : cheapStep r c a t = (t, true) := by rw [cheapStep, if_pos hb]
      rw [e]
      rw [Bool.and_eq_true] at hb
      obtain ⟨i1, i2, i3⟩ := cheap_inv (r := r) (c := c) ts (t, true) (fun _ => ⟨hts t List.mem_cons_self, hb.1⟩) (fun s hs => hts s (List.mem_cons_of_mem _ hs))
      obtain ⟨j1, j2⟩ := i2 rfl
      refine ⟨i1, fun ha => ⟨j1, ?_⟩, fun s hs hh => ?_⟩
      · have h2 := hb.2
        rw [betterM, ha] at h2
        simp only [Bool.not_true, Bool.false_or, Bool.or_eq_true, Bool.and_eq_true, decide_eq_true_eq] at h2
        dsimp only at j2
        omega
      · rcases List.mem_cons.1 hs with rfl | hs
        · exact ⟨j1, j2⟩
        · exact i3 s hs hh
    · have e : cheapStep r c a t = a := by rw [cheapStep, if_neg hb]
      rw [e]
      obtain ⟨i1, i2, i3⟩ := cheap_inv (r := r) (c := c) ts a h (fun s hs => hts s (List.mem_cons_of_mem _ hs))
      refine ⟨i1, i2, fun s hs hh => ?_⟩
      rcases List.mem_cons.1 hs with rfl | hs
      · rw [hh, Bool.true_and, betterM] at hb
        simp only [Bool.or_eq_true, Bool.not_eq_true', Bool.and_eq_true, decide_eq_true_eq, not_or] at hb
        have ha : a.2 = true := by
          cases h2 : a.2 with
          | true => rfl
          | false => exact absurd h2 hb.1.1
        obtain ⟨j1, j2⟩ := i2 ha
        exact ⟨j1, by omega⟩
      · exact i3 s hs hh
theorem cheap_is {r : ReqM} {c : List Int} {t : TypeM} (ht : t ∈ r.types) (h : holdM r c t = true) : (cheapM r c).2 = true ∧ (cheapM r c).1 ∈ r.types ∧ holdM r c (cheapM r c).1 = true ∧ (cheapM r c).1.cost ≤ t.cost := by
  obtain ⟨i1, _, i3⟩ := cheap_inv (r := r) (c := c) r.types (typeZ, false) (fun h => by cases h) (fun t ht => ht)
  obtain ⟨j1, j2⟩ := i3 t ht h
  obtain ⟨k1, k2⟩ := i1 j1
  exact ⟨j1, k1, k2, j2⟩
theorem names_of {r : ReqM} (h : classM r = 0) : namesM r = true := by
  have hb := cls_sound h
  cases hn : namesM r with
  | true => rfl
  | false => rw [classM, if_neg (by simp [hb]), if_pos hn] at h; omega
theorem type_uniq {r : ReqM} (hc : classM r = 0) {t : TypeM} (ht : t ∈ r.types) : typeAt r t.id = (t, true) := by
  have hn := names_of hc
  simp only [namesM, Bool.and_eq_true, List.all_eq_true, List.mem_range] at hn
  obtain ⟨i, hi, rfl⟩ := List.getElem_of_mem ht
  have hd := hn.1.1.1 i hi
  rw [dup_at (List.getElem?_eq_getElem hi)] at hd
  refine typeAt_yes (List.find?_eq_some_iff_append.2 ⟨by simp, r.types.take i, r.types.drop (i + 1), ?_, fun s hs => ?_⟩)
  · rw [← List.drop_eq_getElem_cons hi, List.take_append_drop]
  · cases he : decide (s.id = r.types[i].id) with
    | false => rfl
    | true =>
      exfalso
      have : (r.types.take i).any (fun q => decide (q.id = r.types[i].id)) = true := List.any_eq_true.2 ⟨s, hs, he⟩
      rw [this] at hd
      cases hd
theorem mst_is {r : ReqM} (hc : classM r = 0) : mst r ∈ r.types ∧ (mst r).id = r.master ∧ (typeAt r r.master).2 = true := by
  have hn := names_of hc
  simp only [namesM, Bool.and_eq_true] at hn
  have h2 := hn.2
  rw [mst]
  rw [typeAt] at h2 ⊢
  cases hf : typeByM r r.master with
  | none => rw [hf] at h2; cases h2
  | some t =>
    refine ⟨List.mem_of_find?_eq_some hf, ?_, rfl⟩
    have := List.find?_some hf
    simpa using this
theorem mst_holds {r : ReqM} (hc : classM r = 0) {l : List Int} (hh : ∀ u ∈ l, hereM r u = true) (hl : holdsM r l = true) : holdM r l (mst r) = true := by
  rw [holdM, within_mst, hl, decide_eq_true hc, Bool.true_and, Bool.and_true, List.all_eq_true]
  intro u hu
  have h1 := hh u hu
  rw [here_item] at h1
  rw [unitFits]
  cases hx : itemAt r u with
  | none => rw [hx] at h1; cases h1
  | some x => exact cls_fits hc x (itemAt_mem hx)
theorem cart_mem {r : ReqM} (hc : classM r = 0) {x : CartonM} (hx : x ∈ cartonsM r) : ∃ (k : Nat) (l : List Int), k < (groupsOfM r).length ∧ x = cartonM r k l ∧ l ∈ wayM r (unitsI r k) ∧ l ≠ [] ∧ holdsM r l = true ∧ (∀ u ∈ l, hereM r u = true) := by
  rw [cartonsM, List.mem_flatMap] at hx
  obtain ⟨k, hk, hx⟩ := hx
  rw [cartonsAt, List.mem_map] at hx
  obtain ⟨l, hl, rfl⟩ := hx
  obtain ⟨p1, p2⟩ := pack_parts (way_pack hc (unitsI r k))
  obtain ⟨q1, q2⟩ := p1 l hl
  refine ⟨k, l, List.mem_range.1 hk, rfl, hl, q1, q2, fun u hu => ?_⟩
  have : u ∈ thereM r (unitsI r k) := p2.mem_iff.1 (List.mem_flatten.2 ⟨l, hl, hu⟩)
  exact (List.mem_filter.1 this).2
/-- What is so of each carton. -/
theorem cart_ok {r : ReqM} (hc : classM r = 0) {x : CartonM} (hx : x ∈ cartonsM r) : x.l ≠ [] ∧ (cheapM r x.l).2 = true ∧ (cheapM r x.l).1.id = x.t ∧ typeAt r x.t = ((cheapM r x.l).1, true) ∧ (cheapM r x.l).1 ∈ r.types ∧ holdM r x.l (cheapM r x.l).1 = true ∧ grossM r x = (cheapM r x.l).1.tare + gramM r x.l ∧ grossM r x ≤ (cheapM r x.l).1.tare + (cheapM r x.l).1.g ∧ (cheapM r x.l).1.cost ≤ (mst r).cost := by
  obtain ⟨k, l, hk, rfl, hl, hne, hh, hu⟩ := cart_mem hc hx
  have hp : (sortM l).Perm l := sortM_perm l
  have ec : cheapM r (sortM l) = cheapM r l := cheap_perm hp
  obtain ⟨c1, c2, c3, c4⟩ := cheap_is (mst_is hc).1 (mst_holds hc hu hh)
  have et := type_uniq hc c2
  have eg : grossM r (cartonM r k l) = (cheapM r l).1.tare + gramM r (sortM l) := by
    rw [grossM, cartonM, et]
    dsimp only
    rw [if_pos ⟨rfl, hc⟩]
  refine ⟨?_, ?_, ?_, ?_, ?_, ?_, ?_, ?_, ?_⟩
  · intro e
    have e2 : sortM l = [] := e
    exact hne (List.length_eq_zero_iff.1 (by rw [← sortM_len l, e2]; rfl))
  · show (cheapM r (sortM l)).2 = true
    rw [ec]; exact c1
  · show (cheapM r (sortM l)).1.id = (cheapM r l).1.id
    rw [ec]
  · show typeAt r (cheapM r l).1.id = ((cheapM r (sortM l)).1, true)
    rw [ec]; exact et
  · show (cheapM r (sortM l)).1 ∈ r.types
    rw [ec]; exact c2
  · show holdM r (sortM l) (cheapM r (sortM l)).1 = true
    rw [ec, hold_permT hp]; exact c3
  · show grossM r (cartonM r k l) = (cheapM r (sortM l)).1.tare + gramM r (sortM l)
    rw [ec]; exact eg
  · show grossM r (cartonM r k l) ≤ (cheapM r (sortM l)).1.tare + (cheapM r (sortM l)).1.g
    rw [ec, eg, gramM, perm_sumL (hp.map (gOf r))]
    rw [holdM] at c3
    simp only [Bool.and_eq_true, withinT, decide_eq_true_eq] at c3
    have := c3.2.2.2
    rw [gramM] at this
    omega
  · show (cheapM r (sortM l)).1.cost ≤ (mst r).cost
    rw [ec]; exact c4
/-- All units of an order. -/
def allU (r : ReqM) : List Int := (List.range (unitsM r).length).map (fun n : Nat => (n : Int))
theorem groups_flat (r : ReqM) : (groupsOfM r).flatten.Perm (presI r) := putAll_perm _ _
theorem unitsI_here {r : ReqM} (k : Nat) : ∀ u ∈ unitsI r k, hereM r u = true := by
  intro u hu
  rw [unitsI, List.mem_map] at hu
  obtain ⟨n, hn, rfl⟩ := hu
  rw [unitsOfM] at hn
  split at hn
  · rw [unitsIn, List.mem_map] at hn
    obtain ⟨p, hp, rfl⟩ := hn
    have := List.mem_zipIdx (List.mem_filter.1 hp).1
    simp only [hereM, inB, Bool.and_eq_true, decide_eq_true_eq]
    omega
  · exact absurd hn List.not_mem_nil
theorem there_all {r : ReqM} {us : List Int} (h : ∀ u ∈ us, hereM r u = true) : thereM r us = us := List.filter_eq_self.2 h
theorem way_flat {r : ReqM} (hc : classM r = 0) (k : Nat) : (wayM r (unitsI r k)).flatten.Perm (unitsI r k) := by
  have := (pack_parts (way_pack hc (unitsI r k))).2
  rwa [there_all (unitsI_here k)] at this
end Go.Proofs.YtglpgohilfoecaaGreat
