/-
  Texts of this proof, one behind the other: LessLaw, BestC.
-/
import Derived.Test.YtibkggjbkgdnkaaGreatPkvG
import Derived.Test.YtibkggjbkgdnkaaGreatPkvJ

/-
  The best of a part is no more than the best of all, and that no more than both parts' together.
-/
namespace Go.Proofs.YtibkggjbkgdnkaaGreat
theorem take_one {r : ReqM} {u : Int} {s : List Int} {C : List (List Int)} (hC : ∀ c ∈ C, holdsM r c = true) (hp : C.flatten.Perm (u :: s)) : ∃ B : List (List Int), B.length = C.length ∧ (∀ b ∈ B, holdsM r b = true) ∧ B.flatten.Perm s := by
  have hu : u ∈ C.flatten := hp.mem_iff.2 List.mem_cons_self
  obtain ⟨b, hb, hub⟩ := List.mem_flatten.1 hu
  obtain ⟨B1, B2, rfl⟩ := List.append_of_mem hb
  have pe : b.Perm (u :: b.erase u) := List.perm_cons_erase hub
  refine ⟨B1 ++ b.erase u :: B2, by simp, fun c hc => ?_, ?_⟩
  · rcases List.mem_append.1 hc with h | h
    · exact hC c (List.mem_append_left _ h)
    · rcases List.mem_cons.1 h with rfl | h
      · exact holds_left (b := [u]) (holds_perm ((List.perm_append_comm (l₁ := b.erase u) (l₂ := [u])).trans pe.symm) (hC b (by simp)))
      · exact hC c (List.mem_append_right _ (List.mem_cons_of_mem _ h))
  · simp only [List.flatten_append, List.flatten_cons] at hp ⊢
    refine List.Perm.cons_inv (a := u) (List.Perm.trans ?_ hp); refine (List.perm_middle (a := u)).symm.trans ?_; refine List.Perm.append_left _ ?_
    rw [← List.cons_append]
    exact List.Perm.append_right _ pe.symm
theorem take_all_of {r : ReqM} : ∀ (t s : List Int) (C : List (List Int)), (∀ c ∈ C, holdsM r c = true) → C.flatten.Perm (t ++ s) → ∃ B : List (List Int), B.length = C.length ∧ (∀ b ∈ B, holdsM r b = true) ∧ B.flatten.Perm s
  | [], _, C, hC, hp => ⟨C, rfl, hC, hp⟩
  | _ :: t, s, _, hC, hp => by
    obtain ⟨B, h1, h2, h3⟩ := take_one hC hp
    obtain ⟨D, g1, g2, g3⟩ := take_all_of t s B h2 h3
    exact ⟨D, g1.trans h1, g2, g3⟩
theorem pack_of {r : ReqM} (hc : classM r = 0) (us : List Int) : ∃ C : List (List Int), C.length = fewU r (thereM r us) [] ∧ (∀ c ∈ C, holdsM r c = true) ∧ C.flatten.Perm (thereM r us) := by
  obtain ⟨C, h1, h2, h3⟩ := few_is_pack hc (thereM r us) [] (fun l hl => absurd hl List.not_mem_nil) (fun u hu => one_holds hc (List.mem_filter.1 hu).2)
  exact ⟨C, h1, fun c hcc => (h2 c hcc).2, by simpa using h3⟩
theorem few_of {r : ReqM} (hc : classM r = 0) {t : List Int} {B : List (List Int)} (hB : ∀ b ∈ B, holdsM r b = true) (hp : B.flatten.Perm t) : fewU r t [] ≤ B.length := by
  have := few_le_pack hc t [] [] B rfl (fun i l a hl _ => by simp at hl) hB (by simpa using hp)
  simpa using this
theorem there_parts (r : ReqM) (us : List Int) (k : Nat) : thereM r us = thereM r (us.take k) ++ thereM r (us.drop k) := by
  rw [thereM, thereM, thereM, ← List.filter_append, List.take_append_drop]
/-- What the best of two parts has to do with the best of all. -/
theorem best_parts {r : ReqM} (hc : classM r = 0) (us : List Int) (k : Nat) : fewU r (thereM r (us.take k)) [] ≤ fewU r (thereM r us) [] ∧ fewU r (thereM r (us.drop k)) [] ≤ fewU r (thereM r us) [] ∧ fewU r (thereM r us) [] ≤ fewU r (thereM r (us.take k)) [] + fewU r (thereM r (us.drop k)) [] := by
  obtain ⟨C, h1, h2, h3⟩ := pack_of hc us
  rw [there_parts r us k] at h3
  refine ⟨?_, ?_, ?_⟩
  · obtain ⟨B, g1, g2, g3⟩ := take_all_of (thereM r (us.drop k)) (thereM r (us.take k)) C h2 (h3.trans List.perm_append_comm)
    have := few_of hc g2 g3
    omega
  · obtain ⟨B, g1, g2, g3⟩ := take_all_of (thereM r (us.take k)) (thereM r (us.drop k)) C h2 h3
    have := few_of hc g2 g3
    omega
  · obtain ⟨C1, a1, a2, a3⟩ := pack_of hc (us.take k)
    obtain ⟨C2, b1, b2, b3⟩ := pack_of hc (us.drop k)
    have := few_of hc (t := thereM r us) (B := C1 ++ C2) (fun b hb => by
      rcases List.mem_append.1 hb with h | h
      · exact a2 b h
      · exact b2 b h) (by rw [List.flatten_append, there_parts r us k]; exact a3.append b3)
    rw [List.length_append] at this
    omega
theorem upBy_mono {a b c : Int} (h0 : 0 ≤ a) (h : a ≤ c) (hb : 1 ≤ b) : upByM a b ≤ upByM c b := by
  rw [upByM, upByM, Int.tdiv_eq_ediv_of_nonneg (by omega), Int.tdiv_eq_ediv_of_nonneg (by omega)]
  exact Int.ediv_le_ediv (by omega) (by omega)
theorem part_sum {f : Int → Int} (hf : ∀ u, 0 ≤ f u) (us : List Int) (k : Nat) : ((us.take k).map f).sum ≤ (us.map f).sum := by
  have e := congrArg (fun l => (l.map f).sum) (List.take_append_drop k us)
  rw [List.map_append, List.sum_append] at e
  have := sum_ge0 hf (us.drop k)
  omega
theorem low_part (r : ReqM) (us : List Int) (k : Nat) : lowM r (us.take k) ≤ lowM r us := by
  by_cases hc : classM r = 0
  · have hm := mst_ok hc
    have v := upBy_mono (sum_ge0 (f := vOf r) (fun u => (vOf_in r u).1) (us.take k)) (part_sum (f := vOf r) (fun u => (vOf_in r u).1) us k) (type_vol hm).1
    have g := upBy_mono (sum_ge0 (f := gOf r) (fun u => (gOf_in r u).1) (us.take k)) (part_sum (f := gOf r) (fun u => (gOf_in r u).1) us k) (type_in hm).2.2.1
    have hs : (itemsM r (us.take k)).Sublist (itemsM r us) := (List.take_sublist k us).filterMap _
    have w := hs.countP_le (p := wideP r)
    have y := hs.countP_le (p := heavyP r)
    rw [lowM, lowM, lowVolM, lowVolM, lowGramM, lowGramM, greatM, greatM, if_pos hc, if_pos hc, if_pos hc, if_pos hc, if_pos hc, if_pos hc, volUS, volUS, gramM, gramM]
    omega
  · rw [lowM, lowM, lowVolM, lowVolM, lowGramM, lowGramM, greatM, greatM, if_neg hc, if_neg hc, if_neg hc, if_neg hc, if_neg hc, if_neg hc]
    exact Int.le_refl _
end Go.Proofs.YtibkggjbkgdnkaaGreat

/-
  The law of the best of parts.
-/
namespace Go.Proofs.YtibkggjbkgdnkaaGreat
open Go.RowKit
theorem bestM_le (r : ReqM) (us : List Int) : bestM r us ≤ 8 ∧ -1 ≤ bestM r us := by
  rw [bestM]
  split
  · rename_i h
    have := few_le (p := roomM r) (add := fun l u => l ++ [u]) (one := fun u => [u]) (thereM r us) []
    rw [fewU]; simp only [List.length_nil] at this; omega
  · omega
theorem less_facts {r : ReqM} (us : List Int) (k : Nat) : lowM r (us.take k) ≤ lowM r us ∧ (bestM r us < 0 → classM r = 0 → 8 < us.length) ∧ (¬ bestM r us < 0 → 0 ≤ bestM r (us.take k) ∧ 0 ≤ bestM r (us.drop k) ∧ bestM r (us.take k) ≤ bestM r us ∧ bestM r (us.drop k) ≤ bestM r us ∧ bestM r us ≤ bestM r (us.take k) + bestM r (us.drop k)) := by
  refine ⟨low_part r us k, fun h hc => ?_, fun h => ?_⟩
  · rw [bestM] at h
    split at h
    · omega
    · rename_i hn
      have := thereM_len r us
      have : ¬ (thereM r us).length ≤ 8 := fun h8 => hn ⟨hc, h8⟩
      omega
  · rw [bestM] at h
    split at h
    · rename_i hn
      obtain ⟨hc, h8⟩ := hn
      have hl := congrArg List.length (there_parts r us k)
      rw [List.length_append] at hl
      obtain ⟨p1, p2, p3⟩ := best_parts hc us k
      rw [show bestM r us = (fewU r (thereM r us) [] : Int) from if_pos ⟨hc, h8⟩, show bestM r (us.take k) = (fewU r (thereM r (us.take k)) [] : Int) from if_pos ⟨hc, by omega⟩, show bestM r (us.drop k) = (fewU r (thereM r (us.drop k)) [] : Int) from if_pos ⟨hc, by omega⟩]
      omega
    · omega
theorem byte_of {z : Int} (h : (Lit.int .u8 z).wf = true) : 0 ≤ z ∧ z ≤ 255 := by
  simp [Lit.wf, IntKind.min, IntKind.max, IntKind.signed, IntKind.bits] at h
  omega
attribute [local irreducible] Go.wpList Go.Code.wp Go.Exit.then Go.Exit.inBlock Go.bodyPost Go.Calls pE pB G RunsV FnV Fn FnM
set_option maxRecDepth 100000
set_option maxHeartbeats 4000000
theorem at0B_any {v : Value} {l : List Int} (i : Nat) (w : World) (h : Rd w v 1 (l.map bcell)) (hq : ∀ z ∈ l, 0 ≤ z ∧ z ≤ 255) (hi : i ≤ 100) (hl : l.length ≤ 1048576) : Fn Tryz.prog 62 [v, .int .i64 (i : Int)] w (fun z : Int => 0 ≤ z ∧ z ≤ 255) (fun z => .int .i64 z) (fun _ => []) := by
  have hln : (l.map bcell).length = l.length := by simp
  refine Fn.of (n := 20) Tryz.func62 rfl rfl ?_
  by_cases hlt : i < l.length
  case' pos => (obtain ⟨z, hz⟩ := get_of_lt hlt; have he := get_map hz bcell; have hzq := hq z (List.mem_of_getElem? hz))
  all_goals
  refine G.seq (G.region (G.v (rv_assign rfl) rfl (G.done (G.thenN (G.seq (G.seq (G.region (G.v (rv_move rfl) rfl (G.v (rv_move rfl) rfl ?_))))))))); refine G.v (rv_len rfl (by exact Rd.stays (by assumption))) rfl ?_; refine G.v (rv_lss rfl rfl) rfl (G.done (G.thenN ?_)); refine G.cond rfl (fun hc => ?_) (fun hc => ?_)
  · try exact Bool.noConfusion hc
    all_goals
     try replace hc := of_decide_eq_true hc
     try (exfalso; omega)
     all_goals
      refine G.seq (G.region (G.v (rv_move rfl) rfl (G.v (rv_move rfl) rfl ?_))); refine G.v (rv_indexH rfl rfl (by exact Rd.stays (by assumption)) rfl (by assumption)) rfl ?_; refine G.v (rv_loadE rfl (by exact Rd.stays (by assumption)) (by assumption) rfl) rfl ?_; refine G.v (rv_conv rfl) rfl (G.v (rv_assign rfl) rfl (G.done (G.thenN (G.ret (G.thenR ?_)))))
      (exact G.retF _ ⟨by rw [wrap64_id (by omega) (by omega)]; omega, by rw [wrap64_id (by omega) (by omega)]; omega⟩ rfl rfl rfl (fun w hw => hw.none))
  · try exact Bool.noConfusion hc
    all_goals
     try replace hc := of_decide_eq_false hc
     try (exfalso; omega)
     all_goals
      refine G.skip (G.thenN (G.seq (G.region (G.v (rv_move rfl) rfl ?_)))); refine G.v (rv_mulB rfl rfl (by omega) (by omega)) rfl ?_; refine G.v (rv_move rfl) rfl ?_; refine G.v (rv_len rfl (by exact Rd.stays (by assumption))) rfl ?_; refine G.v (rv_addB rfl rfl (by omega) (by omega)) rfl ?_; refine G.v (rv_rem rfl rfl (by omega)) rfl ?_; refine G.v (rv_assign rfl) rfl (G.done (G.thenN (G.ret ?_)))
      (exact G.retF _ ⟨Int.tmod_nonneg _ (by omega), by have := Int.tmod_lt_of_pos ((i : Int) * 7 + ((l.map bcell).length : Int)) (b := 256) (by omega); omega⟩ rfl rfl rfl (fun w hw => hw.none))
theorem fnBestLess_any {v : Value} {l : List Int} {w : World} (h : Rd w v 1 (l.map bcell)) (hq8 : ∀ z ∈ l, 0 ≤ z ∧ z ≤ 255) : FnV Tryz.prog 14 [v] w (.bool true) := by
  have hlb : (l.map bcell).length = l.length := List.length_map ..
  refine FnV.of (n := 82) Tryz.func14 rfl rfl ?_; refine G.seq (G.region (G.v (rv_assign rfl) rfl (G.done (G.thenN (G.seq (G.seq (G.region (G.v (rv_move rfl) rfl ?_)))))))); refine G.op (og_callV rfl rfl (fun w hh => big_any w (by exact Rd.stays (by assumption) _ hh))) rfl (fun _ _ => ?_); refine G.done (G.thenN ?_); refine G.cond rfl (fun hc => ?_) (fun hc => ?_)
  · try exact Bool.noConfusion hc
    all_goals
     try replace hc := of_decide_eq_true hc
     try (exfalso; contradiction)
     all_goals
      refine G.seq (G.region (G.v (rv_assign rfl) rfl (G.done (G.thenN (G.ret (G.thenR ?_))))))
      exact G.retFV rfl rfl rfl
  · try exact Bool.noConfusion hc
    all_goals
     try replace hc := of_decide_eq_false hc
     try (exfalso; contradiction)
     all_goals
      refine G.skip (G.thenN (G.seq (G.region (G.v (rv_move rfl) rfl ?_))))
      (refine G.op (og_callF4 rfl rfl (fun w hh => dDrawBest_any w (by exact Rd.stays (by assumption) _ hh))) rfl ?_; rintro ⟨⟨⟨r, pv, tv, iv⟩, pv0, es0⟩, lv, us⟩ ⟨hdr, holv, hul⟩; try dsimp only)
      have hopv := hdr.1.1; have hotv := hdr.1.2.1; have hoiv := hdr.1.2.2; dsimp only at hopv hotv hoiv hul
      have hul3 : (us.map icell).length = us.length := List.length_map ..
      refine G.v (rv_move rfl) rfl (G.v (rv_extract rfl rfl) rfl (G.v (rv_extract rfl rfl) rfl ?_)); refine G.op (og_alloc) rfl (fun bk3 _ => ?_); refine G.op0 (og_st0 rfl rfl rfl rfl rfl (by repeat (first | rfl | refine one_cons (by first | rfl | assumption) ?_)) (.zero (.cons (.cons (.cons (.cons (.cons (.cons (.cons (.cons (.cons (.cons .nil)))))))))))) (fun _ _ => ?_); refine G.v (rv_assign rfl) rfl (G.done (G.thenN (G.seq (G.region (G.v (rv_loadW 0 rfl rfl rfl) rfl (G.v (rv_move rfl) rfl ?_)))))); refine G.op (og_callV rfl rfl (fun w hh => best_any (r := r) (us := us) w (hdr.2.1 _ (by exact Rd.owned 4 rfl _ hh)) (by exact Rd.owned 3 rfl _ hh) (by exact Rd.owned 2 rfl _ hh) (by exact Rd.owned 1 rfl _ hh) (by omega))) rfl (fun _ _ => ?_); refine G.v (rv_assign rfl) rfl (G.done (G.thenN (G.seq (G.seq (G.region (G.v (rv_move rfl) rfl (G.v (rv_loadW 0 rfl rfl rfl) rfl (G.v (rv_move rfl) rfl ?_)))))))); refine G.op (og_callV rfl rfl (fun w hh => sbest_any (r := r) (us := us) w (hdr.2.1 _ (by exact Rd.owned 4 rfl _ hh)) (by exact Rd.owned 3 rfl _ hh) (by exact Rd.owned 2 rfl _ hh) (by exact Rd.owned 1 rfl _ hh) (by omega))) rfl (fun _ _ => ?_); refine G.v (rv_neq rfl rfl) rfl (G.done (G.thenN ?_)); refine G.cond rfl (fun hc => ?_) (fun hc => ?_)
      · try exact Bool.noConfusion hc
        all_goals
         try replace hc := of_decide_eq_true hc
         try (exfalso; contradiction)
         all_goals
          refine G.seq (G.region (G.v (rv_assign rfl) rfl (G.done (G.thenN (G.ret (G.thenR ?_))))))
          exact G.retFV rfl rfl rfl
      · try exact Bool.noConfusion hc
        all_goals
         try replace hc := of_decide_eq_false hc
         try (exfalso; contradiction)
         all_goals
          refine G.skip (G.thenN (G.seq (G.region (G.v (rv_move rfl) rfl ?_))))
          (refine G.op (og_callF0 rfl rfl (fun w hh => at0B_any 2 w (by exact Rd.stays (by assumption) _ hh) hq8 (by omega) (by omega))) rfl ?_; rintro z8 ⟨hz0, hz1⟩; try dsimp only)
          refine G.v (rv_move rfl) rfl ?_; refine G.v (rv_len rfl (by exact Rd.owned 1 rfl)) rfl ?_; refine G.v (rv_incr rfl rfl (by omega)) rfl ?_; refine G.v (rv_rem rfl rfl (by omega)) rfl ?_
          obtain ⟨k, hk⟩ := Int.eq_ofNat_of_zero_le (Int.tmod_nonneg (((us.map icell).length + 1 : Nat) : Int) hz0); have hkl := Int.tmod_lt_of_pos z8 (b := (((us.map icell).length + 1 : Nat) : Int)) (by omega); rw [hk] at hkl ⊢; have hku : k ≤ us.length := (by omega); obtain ⟨f1, f2, f3⟩ := less_facts (r := r) us k; have f4 := bestM_le r us; have f5 := bestM_le r (us.take k); have f6 := bestM_le r (us.drop k)
          refine G.v (rv_assign rfl) rfl (G.done (G.thenN (G.seq ?_))); refine G.drawL [5] ?_; refine GE.q 0 rfl (by as_aux_lemma => kernel_rfl) rfl (qg_runs (rv_loadW 0 rfl rfl rfl)) rfl ?_; refine GE.q 1 rfl (by as_aux_lemma => kernel_rfl) rfl (qg_runs (rv_move rfl)) rfl ?_; refine GE.ol 2 (by as_aux_lemma => kernel_rfl) rfl rfl (og_runs (rv_move rfl)) rfl (fun _ _ h => by exact h) (fun _ _ => ?_); refine GE.ol 3 (by as_aux_lemma => kernel_rfl) rfl rfl (og_runs (rv_sliceH rfl rfl (by exact Rd.owned 1 rfl) (by omega))) rfl (fun _ _ h => by exact h) (fun _ _ => ?_); refine GE.ol 4 (by as_aux_lemma => kernel_rfl) rfl rfl (og_callV rfl rfl (fun w hh => best_any (r := r) (us := us.take k) w (hdr.2.1 _ (by exact Rd.owned 4 rfl _ hh)) (by exact Rd.owned 3 rfl _ hh) (by exact Rd.owned 2 rfl _ hh) (Rd.subH (by exact Rd.owned 1 rfl _ hh) hku) (by rw [List.length_take]; omega))) rfl (fun _ _ h => by exact h) (fun _ _ => ?_); refine GE.t 5 (by as_aux_lemma => kernel_rfl) rfl rfl rfl (og_runs (rv_assign rfl)) rfl (fun _ _ => ?_); refine GE.done (by as_aux_lemma => kernel_rfl) ?_; refine G.thenN (G.seq ?_); refine G.drawL [5] ?_; refine GE.q 0 rfl (by as_aux_lemma => kernel_rfl) rfl (qg_runs (rv_loadW 0 rfl rfl rfl)) rfl ?_; refine GE.q 1 rfl (by as_aux_lemma => kernel_rfl) rfl (qg_runs (rv_move rfl)) rfl ?_; refine GE.ol 2 (by as_aux_lemma => kernel_rfl) rfl rfl (og_runs (rv_move rfl)) rfl (fun _ _ h => by exact h) (fun _ _ => ?_)
          refine GE.ol 3 (by as_aux_lemma => kernel_rfl) rfl rfl (og_runs (rv_sliceL rfl rfl (by exact Rd.owned 1 rfl) (by omega))) rfl (fun _ _ h => by exact h) (fun _ _ => ?_); refine GE.ol 4 (by as_aux_lemma => kernel_rfl) rfl rfl (og_callV rfl rfl (fun w hh => best_any (r := r) (us := us.drop k) w (hdr.2.1 _ (by exact Rd.owned 4 rfl _ hh)) (by exact Rd.owned 3 rfl _ hh) (by exact Rd.owned 2 rfl _ hh) (Rd.subL (by exact Rd.owned 1 rfl _ hh) hku) (by rw [List.length_drop]; omega))) rfl (fun _ _ h => by exact h) (fun _ _ => ?_); refine GE.t 5 (by as_aux_lemma => kernel_rfl) rfl rfl rfl (og_runs (rv_assign rfl)) rfl (fun _ _ => ?_); refine GE.done (by as_aux_lemma => kernel_rfl) ?_; refine G.thenN (G.seq (G.seq ?_)); refine G.drawL [] ?_; refine GE.q 0 rfl (by as_aux_lemma => kernel_rfl) rfl (qg_runs (rv_loadW 0 rfl rfl rfl)) rfl ?_; refine GE.q 1 rfl (by as_aux_lemma => kernel_rfl) rfl (qg_runs (rv_move rfl)) rfl ?_; refine GE.q 2 rfl (by as_aux_lemma => kernel_rfl) rfl (qg_runs (rv_move rfl)) rfl ?_; refine GE.q 3 rfl (by as_aux_lemma => kernel_rfl) rfl (qg_runs (rv_sliceH rfl rfl (by exact Rd.owned 1 rfl) (by omega))) rfl ?_; refine GE.q 4 rfl (by as_aux_lemma => kernel_rfl) rfl (qg_call rfl rfl (fun w hh => lower_any (r := r) (us := us.take k) w (hdr.2.1 _ (by exact Rd.owned 4 rfl _ hh)) (by exact Rd.owned 3 rfl _ hh) (by exact Rd.owned 2 rfl _ hh) (Rd.subH (by exact Rd.owned 1 rfl _ hh) hku) (by rw [List.length_take]; omega))) rfl ?_
          refine GE.q 5 rfl (by as_aux_lemma => kernel_rfl) rfl (qg_runs (rv_loadW 0 rfl rfl rfl)) rfl ?_; refine GE.ol 6 (by as_aux_lemma => kernel_rfl) rfl rfl (og_runs (rv_move rfl)) rfl (fun _ _ h => by exact h) (fun _ _ => ?_); refine GE.ol 7 (by as_aux_lemma => kernel_rfl) rfl rfl (og_callV rfl rfl (fun w hh => lower_any (r := r) (us := us) w (hdr.2.1 _ (by exact Rd.owned 4 rfl _ hh)) (by exact Rd.owned 3 rfl _ hh) (by exact Rd.owned 2 rfl _ hh) (by exact Rd.owned 1 rfl _ hh) (by omega))) rfl (fun _ _ h => by exact h) (fun _ _ => ?_); refine GE.ol 8 (by as_aux_lemma => kernel_rfl) rfl rfl (og_runs (rv_gtr rfl rfl)) rfl (fun _ _ h => by exact h) (fun _ _ => ?_); refine GE.done (by as_aux_lemma => kernel_rfl) ?_; refine G.thenN ?_; refine G.cond rfl (fun hc => ?_) (fun hc => ?_)
          · try exact Bool.noConfusion hc
            all_goals
             try replace hc := of_decide_eq_true hc
             try (exfalso; omega)
             all_goals
              refine G.seq (G.region (G.v (rv_assign rfl) rfl (G.done (G.thenN (G.ret (G.thenR ?_))))))
              exact G.retFV rfl rfl rfl
          · try exact Bool.noConfusion hc
            all_goals
             try replace hc := of_decide_eq_false hc
             try (exfalso; contradiction)
             all_goals
              refine G.skip (G.thenN (G.seq (G.seq (G.region (G.v (rv_move rfl) rfl (G.v (rv_lss rfl rfl) rfl (G.done (G.thenN ?_)))))))); refine G.cond rfl (fun hc => ?_) (fun hc => ?_)
              · try exact Bool.noConfusion hc
                all_goals
                 try replace hc := of_decide_eq_true hc
                 try (exfalso; contradiction)
                 all_goals
                  refine G.seq (G.region (G.v (rv_loadW 0 rfl rfl rfl) rfl ?_)); refine G.op (og_callV rfl rfl (fun w hh => sclass_any (r := r) w (hdr.2.1 _ (by exact Rd.owned 4 rfl _ hh)) (by exact Rd.owned 3 rfl _ hh) (by exact Rd.owned 2 rfl _ hh))) rfl (fun _ _ => ?_); refine G.v (rv_neq rfl rfl) rfl (G.v (rv_move rfl) rfl ?_)
                  all_goals (((with_reducible refine G.gP rfl rfl (fun hg => ?_) (fun hg => ?_)) <;> (try exact Bool.noConfusion hg) <;> (try (exfalso; (have hq := of_decide_eq_false hg; omega))) <;> (first | (refine G.gY rfl rfl ?_; refine G.v (rv_move rfl) rfl ?_) | refine G.gN rfl rfl rfl ?_)))
                  all_goals ((first | (refine G.gY rfl rfl ?_; refine G.v (rv_len rfl (by exact Rd.owned 1 rfl)) rfl ?_) | refine G.gN rfl rfl rfl ?_))
                  all_goals ((first | (refine G.gY rfl rfl ?_; refine G.v (rv_gtr rfl rfl) rfl ?_) | refine G.gN rfl rfl rfl ?_))
                  all_goals ((first | refine G.v (rv_pickT rfl rfl) rfl ?_ | refine G.v (rv_pickF rfl rfl) rfl ?_))
                  all_goals (refine G.v (rv_assign rfl) rfl ?_)
                  all_goals
                   refine G.done (G.thenN (G.ret (G.thenR ?_)))
                   first | exact G.retFV rfl rfl rfl | exact G.retFV rfl rfl (by (congr 1; exact decide_eq_true (by (simp only [decide_eq_true_eq, decide_eq_false_iff_not] at *; omega))))
              · try exact Bool.noConfusion hc
                all_goals
                 try replace hc := of_decide_eq_false hc
                 try (exfalso; contradiction)
                 all_goals
                  obtain ⟨g1, g2, g3, g4, g5⟩ := f3 hc
                  all_goals
                   refine G.skip (G.thenN (G.seq (G.region (G.v (rv_move rfl) rfl (G.v (rv_geq rfl rfl) rfl (G.v (rv_move rfl) rfl ?_))))))
                   all_goals (((with_reducible refine G.gP rfl rfl (fun hg => ?_) (fun hg => ?_)) <;> (try exact Bool.noConfusion hg) <;> (try (exfalso; (have hq := of_decide_eq_false hg; omega))) <;> ((refine G.gY rfl rfl ?_; refine G.v (rv_move rfl) rfl ?_))))
                   all_goals (((refine G.gY rfl rfl ?_; refine G.v (rv_geq rfl rfl) rfl ?_)))
                   all_goals ((refine G.v (rv_pickT rfl rfl) rfl ?_))
                   all_goals (refine G.v (rv_move rfl) rfl ?_)
                   all_goals (((with_reducible refine G.gP rfl rfl (fun hg => ?_) (fun hg => ?_)) <;> (try exact Bool.noConfusion hg) <;> (try (exfalso; (have hq := of_decide_eq_false hg; omega))) <;> ((refine G.gY rfl rfl ?_; refine G.v (rv_move rfl) rfl ?_))))
                   all_goals (((refine G.gY rfl rfl ?_; refine G.v (rv_move rfl) rfl ?_)))
                   all_goals (((refine G.gY rfl rfl ?_; refine G.v (rv_leq rfl rfl) rfl ?_)))
                   all_goals ((refine G.v (rv_pickT rfl rfl) rfl ?_))
                   all_goals (refine G.v (rv_move rfl) rfl ?_)
                   all_goals (((with_reducible refine G.gP rfl rfl (fun hg => ?_) (fun hg => ?_)) <;> (try exact Bool.noConfusion hg) <;> (try (exfalso; (have hq := of_decide_eq_false hg; omega))) <;> ((refine G.gY rfl rfl ?_; refine G.v (rv_move rfl) rfl ?_))))
                   all_goals (((refine G.gY rfl rfl ?_; refine G.v (rv_move rfl) rfl ?_)))
                   all_goals (((refine G.gY rfl rfl ?_; refine G.v (rv_leq rfl rfl) rfl ?_)))
                   all_goals ((refine G.v (rv_pickT rfl rfl) rfl ?_))
                   all_goals (refine G.v (rv_move rfl) rfl ?_)
                   all_goals (((with_reducible refine G.gP rfl rfl (fun hg => ?_) (fun hg => ?_)) <;> (try exact Bool.noConfusion hg) <;> (try (exfalso; (have hq := of_decide_eq_false hg; omega))) <;> ((refine G.gY rfl rfl ?_; refine G.v (rv_move rfl) rfl ?_))))
                   all_goals (((refine G.gY rfl rfl ?_; refine G.v (rv_move rfl) rfl ?_)))
                   all_goals (((refine G.gY rfl rfl ?_; refine G.v (rv_move rfl) rfl ?_)))
                   all_goals (((refine G.gY rfl rfl ?_; (refine G.v (rv_addB rfl rfl (by omega) (by omega)) rfl ?_))))
                   all_goals (((refine G.gY rfl rfl ?_; refine G.v (rv_leq rfl rfl) rfl ?_)))
                   all_goals ((refine G.v (rv_pickT rfl rfl) rfl ?_))
                   all_goals (refine G.v (rv_assign rfl) rfl ?_)
                   all_goals
                    refine G.done (G.thenN (G.ret ?_))
                    (exact G.retFV rfl rfl (by (congr 1; exact decide_eq_true (by omega))))
end Go.Proofs.YtibkggjbkgdnkaaGreat
