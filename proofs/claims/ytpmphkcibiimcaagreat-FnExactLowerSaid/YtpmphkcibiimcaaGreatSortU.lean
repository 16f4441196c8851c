/-
  Short lists that are sorted: the library's insertion, the reference's merging.
-/
import Derived.Test.YtpmphkcibiimcaaGreatSorts
import Derived.Test.YtpmphkcibiimcaaGreatSlc
namespace Go.Proofs.YtpmphkcibiimcaaGreat
open Go.RowKit
theorem bytes_get {s : ByteArray} {m : Nat} (h : m < s.size) : s[m]? = some (s[m]'h) := getElem?_pos s m h
theorem wrap_small {k : IntKind} {p : Int} (h0 : 0 ≤ p) (h1 : p ≤ 12) : k.wrap p = p := by
  obtain ⟨m, rfl⟩ : ∃ m : Nat, p = m := ⟨p.toNat, by omega⟩
  have : m ≤ 12 := by omega
  match m, this with
  | 0, _ | 1, _ | 2, _ | 3, _ | 4, _ | 5, _ | 6, _ | 7, _ | 8, _ | 9, _ | 10, _ | 11, _ | 12, _ => cases k <;> rfl
  | m + 13, h => omega
section
variable {P : Program} {n : Nat} {w0 : World} {fr : Fr} {H : List Ch} {x y : Operand} {t t' : TypeId} {k : IntKind} {p : Int}
theorem rv_convS {src dst : TypeId} {k2 : IntKind} [hs : TyInt P src k] [hd : TyInt P dst k2] (hx : opv fr x = some (.int k p)) (h0 : 0 ≤ p) (h1 : p ≤ 12) : RunsV P n w0 fr H (.convert src dst x) (.int k2 p) := by
  have := rv_conv (P := P) (n := n) (w0 := w0) (H := H) (src := src) (dst := dst) (k2 := k2) hx
  rwa [wrap_small h0 h1] at this
theorem rv_indexS {s : ByteArray} (hT : P.underlying t = some .string) (hx : opv fr x = some (.string s)) (hy : opv fr y = some (.int k p)) (h0 : 0 ≤ p) {b : UInt8} (hb : s[p.toNat]? = some b) : RunsV P n w0 fr H (.index t x y) (.int .u8 b.toNat) := fun a w hr _ _ _ _ _ _ => by
  simp [execOp, hr.opv hx, hr.opv hy, Instr.index, asIntOf, run_underlying hT, h0, hb]
end
attribute [local irreducible] Go.wpList Go.Code.wp Go.Exit.then Go.Exit.inBlock Go.bodyPost Go.Calls pE pB G RunsV FnV Fn FnM
set_option maxRecDepth 100000
set_option maxHeartbeats 4000000
def keyU (ks : List Int) (j : Nat) : Int := (ks[j]?).getD 0
theorem keyU_get {ks : List Int} {j : Nat} {a : Int} (h : ks[j]? = some a) : keyU ks j = a := by rw [keyU, h]; rfl
def sortM (ks : List Int) : List Int := (ordM (keyU ks) ks.length).map (keyU ks)
theorem sortM_len (ks : List Int) : (sortM ks).length = ks.length := by rw [sortM, List.length_map, ordM_len]
theorem range_key (ks : List Int) : (List.range ks.length).map (keyU ks) = ks := by
  apply List.ext_getElem (by simp)
  intro i h1 h2
  rw [List.getElem_map, List.getElem_range, keyU_get (List.getElem?_eq_getElem h2)]
theorem sortM_perm (ks : List Int) : (sortM ks).Perm ks := by
  have := (ordM_perm (keyU ks) ks.length).map (keyU ks)
  rwa [range_key] at this
theorem sortM_srt (ks : List Int) : (sortM ks).Pairwise (· ≤ ·) := by
  rw [sortM, List.pairwise_map]
  exact (ordM_srt (keyU ks) ks.length).imp (fun h => by unfold bef at h; omega)
def rowK (n : Nat) (K : Nat → Int) (f : Nat → Nat) : List (List Value) := (List.range n).map fun j => icell (K (f j))
theorem rowK_len (n : Nat) (K : Nat → Int) (f : Nat → Nat) : (rowK n K f).length = n := by simp [rowK]
theorem rowK_get {n k : Nat} {K : Nat → Int} {f : Nat → Nat} (h : k < n) : (rowK n K f)[k]? = some (icell (K (f k))) := by
  simp [rowK, h]
theorem rowK_set {n k z : Nat} {K : Nat → Int} {f : Nat → Nat} : (rowK n K f).set k (icell (K z)) = rowK n K (upd f k z) := by
  apply List.ext_getElem?
  intro j
  rw [List.getElem?_set]
  by_cases hj : j < n
  · rw [rowK_get (f := upd f k z) hj]
    by_cases h : k = j
    · subst h; simp [rowK_len, hj, upd]
    · rw [if_neg h, rowK_get hj]; simp [upd, Ne.symm h]
  · rw [List.getElem?_eq_none (l := rowK n K (upd f k z)) (by rw [rowK_len]; omega), List.getElem?_eq_none (l := rowK n K f) (by rw [rowK_len]; omega), rowK_len]
    split
    · rw [if_neg (by omega)]
    · rfl
theorem rowK_dn {n m k : Nat} {K : Nat → Int} {f : Nat → Nat} (h : k < m) : ((rowK n K (rotF f (k + 1) m (m + 1))).set (k + 1) (icell (K (f k)))).set k (icell (K (f m))) = rowK n K (rotF f k m (m + 1)) := by
  have e1 : rotF f (k + 1) m (m + 1) k = f k := rot_out (by omega) (by omega) (.inl (by omega))
  have e2 : rotF f (k + 1) m (m + 1) (k + 1) = f m := by
    rw [rot_lo (by omega) (by omega)]; congr 1; omega
  have := rot_dn (f := f) h
  rw [e1, e2] at this
  rw [rowK_set, rowK_set, this]
theorem rowK_list (ks : List Int) : rowK ks.length (keyU ks) (fun j => j) = ks.map icell := by
  have := congrArg (List.map icell) (range_key ks)
  rw [List.map_map] at this
  exact this
theorem rowK_seg {ks : List Int} {f : Nat → Nat} (h : Seg (keyU ks) 0 ks.length f) : rowK ks.length (keyU ks) f = (sortM ks).map icell := by
  have e : (List.range ks.length).map f = ordM (keyU ks) ks.length := by
    refine ord_of_srt ?_ (by simp) (fun x hx => ?_)
    · rw [List.pairwise_iff_getElem]
      intro i j hi hj hij
      simp only [List.getElem_map, List.getElem_range]
      exact h.1 i j (Nat.zero_le _) hij (by simpa using hj)
    · obtain ⟨j, hj, rfl⟩ := List.mem_map.1 hx
      exact (h.2 j (Nat.zero_le _) (List.mem_range.1 hj)).2
  rw [sortM, ← e, List.map_map, List.map_map]; rfl
theorem isNaN_any (a : Int) (w : World) : FnV Tryz.prog 163 [.int .i64 a] w (.bool false) := by
  refine FnV.of (n := 6) Tryz.func163 rfl rfl ?_
  refine G.seq ?_
  refine G.region ?_
  refine G.v (rv_assign rfl) rfl ?_
  refine G.done ?_
  refine G.thenN ?_
  refine G.seq ?_
  refine G.region ?_
  refine G.v (rv_move rfl) rfl ?_
  refine G.v (rv_move rfl) rfl ?_
  refine G.v (rv_neq rfl rfl) rfl ?_
  refine G.v (rv_assign rfl) rfl ?_
  refine G.done ?_
  refine G.thenN ?_
  refine G.ret ?_
  exact G.retFV rfl rfl (congrArg Value.bool (by simp))
theorem less_any (a b : Int) (w : World) : FnV Tryz.prog 152 [.int .i64 a, .int .i64 b] w (.bool (decide (a < b))) := by
  refine FnV.of (n := 17) Tryz.func152 rfl rfl ?_
  refine G.seq ?_
  refine G.region ?_
  refine G.v (rv_assign rfl) rfl ?_
  refine G.done ?_
  refine G.thenN ?_
  refine G.seq ?_
  refine G.region ?_
  refine G.v (rv_move rfl) rfl ?_
  refine G.op (og_callV rfl rfl (fun w _ => isNaN_any _ w)) rfl (fun _ _ => ?_)
  refine G.v (rv_move rfl) rfl ?_
  all_goals (((with_reducible refine G.gP rfl rfl (fun hg => ?_) (fun hg => ?_)) <;> (try exact Bool.noConfusion hg) <;> (first | (refine G.gY rfl rfl ?_; refine G.v (rv_move rfl) rfl ?_) | refine G.gN rfl rfl rfl ?_ | refine G.gU rfl rfl rfl ?_)))
  all_goals ((first | (refine G.gY rfl rfl ?_; refine G.op (og_callV rfl rfl (fun w _ => isNaN_any _ w)) rfl (fun _ _ => ?_)) | refine G.gN rfl rfl rfl ?_ | refine G.gU rfl rfl rfl ?_))
  all_goals ((first | (refine G.gY rfl rfl ?_; refine G.v (rv_not rfl) rfl ?_) | refine G.gN rfl rfl rfl ?_ | refine G.gU rfl rfl rfl ?_))
  all_goals ((first | refine G.v (rv_pickT rfl rfl) rfl ?_ | refine G.v (rv_pickF rfl rfl) rfl ?_))
  all_goals (refine G.v (rv_move rfl) rfl ?_)
  all_goals (((with_reducible refine G.gP rfl rfl (fun hg => ?_) (fun hg => ?_)) <;> (try exact Bool.noConfusion hg) <;> (first | (refine G.gY rfl rfl ?_; refine G.v (rv_move rfl) rfl ?_) | refine G.gN rfl rfl rfl ?_ | refine G.gU rfl rfl rfl ?_)))
  all_goals ((first | (refine G.gY rfl rfl ?_; refine G.v (rv_move rfl) rfl ?_) | refine G.gN rfl rfl rfl ?_ | refine G.gU rfl rfl rfl ?_))
  all_goals ((first | (refine G.gY rfl rfl ?_; refine G.v (rv_lss rfl rfl) rfl ?_) | refine G.gN rfl rfl rfl ?_ | refine G.gU rfl rfl rfl ?_))
  all_goals ((first | refine G.v (rv_pickT rfl rfl) rfl ?_ | refine G.v (rv_pickF rfl rfl) rfl ?_))
  all_goals (refine G.v (rv_assign rfl) rfl ?_)
  all_goals
   refine G.done ?_
   refine G.thenN ?_
   refine G.ret ?_
   exact G.retFV rfl rfl rfl
section
variable {w0 : World} {F : List Ch} {v u : Value} {n : Nat} {K : Nat → Int}
theorem insOrd_any {f : Nat → Nat} {a b : Nat} (h1 : a ≤ b) (h2 : b ≤ n) (hn : n ≤ 1048576) (hid : ∀ j, a ≤ j → j < b → f j = j) :
    FnMF Tryz.prog 146 [v, .int .i64 (a : Int), .int .i64 (b : Int)] w0 [.row v 3 1 (rowK n K f)] F (fun f' : Nat → Nat => (∀ j, j < a ∨ b ≤ j → f' j = f j) ∧ Seg K a b f') (fun _ => .tuple #[]) (fun f' => [.row v 3 1 (rowK n K f')]) := by
  refine FnMF.of (n := 49) Tryz.func146 rfl rfl ?_
  refine G.seq ?_
  refine G.region ?_
  refine G.v (rv_move rfl) rfl ?_
  (first | refine G.v (rv_incr rfl rfl (by omega)) rfl ?_ | refine G.v (rv_addN rfl rfl (by omega)) rfl ?_)
  refine G.v (rv_assign rfl) rfl ?_
  refine G.done ?_
  refine G.thenN ?_
  refine G.block ?_
  -- loop 0: turned [6], kept [0, 1, 2]
  refine G.loopK (ι := Nat × (Nat → Nat)) (ks := [0, 1, 2]) (fun x => [(6, .int .i64 (x.1 : Int))]) (fun x => [.row v 3 1 (rowK n K x.2)]) (fun x => a + 1 ≤ x.1 ∧ x.1 ≤ b + 1 ∧ (∀ j, j < a ∨ b ≤ j ∨ x.1 ≤ j → x.2 j = f j) ∧ Seg K a (min x.1 b) x.2) (fun x => b - x.1) (a + 1, f) (.cons rfl (.cons rfl (.cons rfl (.nil)))) rfl ?_ ?_ ?_
  · exact ⟨Nat.le_refl _, by dsimp only; omega, fun _ _ => rfl, fun j k _ _ _ => by omega, fun j j1 j2 => by dsimp only at j2 ⊢; rw [hid j j1 (by omega)]; omega⟩
  · exact ⟨rfl, trivial⟩
  rintro ⟨i, g0⟩ ⟨hai, hib, hout, hseg⟩
  dsimp only at hai hib hout hseg ⊢
  by_cases hlt : i < b
  case' pos => (have hgi0 : g0 i = i := (hout i (.inr (.inr (Nat.le_refl _)))).trans (hid i (by omega) hlt); rw [Nat.min_eq_left (by omega)] at hseg)
  all_goals
   refine G.seq ?_
   refine G.seq ?_
   refine G.region ?_
   refine G.v (rv_move rfl) rfl ?_
   refine G.v (rv_move rfl) rfl ?_
   refine G.v (rv_lss rfl rfl) rfl ?_
   refine G.done ?_
   refine G.thenN ?_
   refine G.cond rfl (fun hc => ?_) (fun hc => ?_)
   · try exact Bool.noConfusion hc
     all_goals
      try replace hc := of_decide_eq_true hc
      try (exfalso; first | contradiction | omega)
      all_goals
       refine G.skip ?_
       refine G.thenN ?_
       refine G.seq ?_
       refine G.block ?_
       refine G.seq ?_
       refine G.region ?_
       refine G.v (rv_move rfl) rfl ?_
       refine G.v (rv_assign rfl) rfl ?_
       refine G.done ?_
       refine G.thenN ?_
       refine G.block ?_
       -- loop 1: turned [7], kept [0, 1, 2, 6]
       refine G.rowEq (rowK n K (rotF g0 i i (i + 1))) (by rw [rot_id (Nat.le_refl _) (by omega) (.inl rfl)]) rfl ?_
       refine G.loopK (ι := Nat) (ks := [0, 1, 2, 6]) (fun j => [(7, .int .i64 (j : Int))]) (fun j => [.row v 3 1 (rowK n K (rotF g0 j i (i + 1)))]) (fun j => a ≤ j ∧ j ≤ i ∧ (j = i ∨ K (g0 i) < K (g0 j))) (fun j => j) i (.cons rfl (.cons rfl (.cons rfl (.cons rfl (.nil))))) rfl ?_ ?_ ?_
       · exact ⟨by omega, Nat.le_refl _, .inl rfl⟩
       · exact ⟨rfl, trivial⟩
       rintro j ⟨haj, hji, hjr⟩
       have e1 : (rowK n K (rotF g0 j i (i + 1)))[j]? = some (icell (K (g0 i))) := by rw [rowK_get (by omega), rot_lo (Nat.le_refl _) (by omega)]; congr 4; omega
       have e2 : a < j → (rowK n K (rotF g0 j i (i + 1)))[j - 1]? = some (icell (K (g0 (j - 1)))) := fun h => by rw [rowK_get (by omega), rot_out hji (by omega) (.inl (by omega))]
       by_cases hja : a < j
       case' pos => (replace e2 := e2 hja)
       all_goals
        refine G.seq ?_
        refine G.seq ?_
        refine G.drawL [] ?_
        refine GE.q 0 rfl (by as_aux_lemma => kernel_rfl) rfl (qg_runs (rv_move rfl)) rfl ?_
        refine GE.ol 1 (by as_aux_lemma => kernel_rfl) rfl rfl (og_runs (rv_move rfl)) rfl (fun _ _ h => by first | exact h | exact h.drop 1 | exact h.drop 2 | exact h.drop 3 | exact h.drop 4 | exact h.drop 5 | exact h.drop 6 | exact h.drop 7 | exact h.drop 8 | exact h.drop 9 | exact h.drop 10 | exact h.drop 11 | exact h.drop 12 | exact h.drop 13) (fun _ _ => ?_)
        refine GE.ol 2 (by as_aux_lemma => kernel_rfl) rfl rfl (og_runs (rv_gtr rfl rfl)) rfl (fun _ _ h => by first | exact h | exact h.drop 1 | exact h.drop 2 | exact h.drop 3 | exact h.drop 4 | exact h.drop 5 | exact h.drop 6 | exact h.drop 7 | exact h.drop 8 | exact h.drop 9 | exact h.drop 10 | exact h.drop 11 | exact h.drop 12 | exact h.drop 13) (fun _ _ => ?_)
        refine GE.ol 3 (by as_aux_lemma => kernel_rfl) rfl rfl (og_runs (rv_move rfl)) rfl (fun _ _ h => by first | exact h | exact h.drop 1 | exact h.drop 2 | exact h.drop 3 | exact h.drop 4 | exact h.drop 5 | exact h.drop 6 | exact h.drop 7 | exact h.drop 8 | exact h.drop 9 | exact h.drop 10 | exact h.drop 11 | exact h.drop 12 | exact h.drop 13) (fun _ _ => ?_)
        all_goals (((with_reducible refine GE.part (t := 19) rfl (fun hg => ?_) (fun hg => ?_)) <;> (try exact Bool.noConfusion hg) <;> (try (exfalso; first | (have hq := of_decide_eq_false hg; omega) | (have hq := of_decide_eq_true hg; omega); done)) <;> (first | refine GE.q 4 rfl (by as_aux_lemma => kernel_rfl) rfl (qg_runs (rv_move rfl)) rfl ?_ | refine GE.qn 4 rfl (by as_aux_lemma => kernel_rfl) rfl rfl ?_)))
        all_goals ((first | refine GE.q 5 rfl (by as_aux_lemma => kernel_rfl) rfl (qg_runs (rv_move rfl)) rfl ?_ | refine GE.qn 5 rfl (by as_aux_lemma => kernel_rfl) rfl rfl ?_))
        all_goals ((first | (first | refine GE.q 6 rfl (by as_aux_lemma => kernel_rfl) rfl (qg_runs (rv_indexH rfl rfl (by first | exact Rd.stays (by assumption) | exact Rd.owned 0 rfl) rfl (by first | exact e1 | exact e2 | exact get_setN (by omega) e2))) rfl ?_ | refine GE.q 6 rfl (by as_aux_lemma => kernel_rfl) rfl (qg_runs (rv_index rfl rfl (by first | exact Rd.stays (by assumption) | exact Rd.owned 0 rfl) rfl (by assumption))) rfl ?_) | refine GE.qn 6 rfl (by as_aux_lemma => kernel_rfl) rfl rfl ?_))
        all_goals ((first | refine GE.q 7 rfl (by as_aux_lemma => kernel_rfl) rfl (qg_runs (rv_loadE rfl (by first | exact Rd.stays (by assumption) | exact Rd.owned 0 rfl) (by first | exact e1 | exact e2 | exact get_setN (by omega) e2) rfl)) rfl ?_ | refine GE.qn 7 rfl (by as_aux_lemma => kernel_rfl) rfl rfl ?_))
        all_goals ((first | refine GE.q 8 rfl (by as_aux_lemma => kernel_rfl) rfl (qg_runs (rv_move rfl)) rfl ?_ | refine GE.qn 8 rfl (by as_aux_lemma => kernel_rfl) rfl rfl ?_))
        all_goals ((first | refine GE.q 9 rfl (by as_aux_lemma => kernel_rfl) rfl (qg_runs (rv_move rfl)) rfl ?_ | refine GE.qn 9 rfl (by as_aux_lemma => kernel_rfl) rfl rfl ?_))
        all_goals ((first | (first | refine GE.q 10 rfl (by as_aux_lemma => kernel_rfl) rfl (qg_runs (rv_decr rfl rfl (by omega) (by omega))) rfl ?_ | refine GE.q 10 rfl (by as_aux_lemma => kernel_rfl) rfl (qg_runs (rv_subN rfl rfl (by omega) (by omega))) rfl ?_) | refine GE.qn 10 rfl (by as_aux_lemma => kernel_rfl) rfl rfl ?_))
        all_goals ((first | (first | refine GE.q 11 rfl (by as_aux_lemma => kernel_rfl) rfl (qg_runs (rv_indexH rfl rfl (by first | exact Rd.stays (by assumption) | exact Rd.owned 0 rfl) rfl (by first | exact e1 | exact e2 | exact get_setN (by omega) e2))) rfl ?_ | refine GE.q 11 rfl (by as_aux_lemma => kernel_rfl) rfl (qg_runs (rv_index rfl rfl (by first | exact Rd.stays (by assumption) | exact Rd.owned 0 rfl) rfl (by assumption))) rfl ?_) | refine GE.qn 11 rfl (by as_aux_lemma => kernel_rfl) rfl rfl ?_))
        all_goals ((first | refine GE.q 12 rfl (by as_aux_lemma => kernel_rfl) rfl (qg_runs (rv_loadE rfl (by first | exact Rd.stays (by assumption) | exact Rd.owned 0 rfl) (by first | exact e1 | exact e2 | exact get_setN (by omega) e2) rfl)) rfl ?_ | refine GE.qn 12 rfl (by as_aux_lemma => kernel_rfl) rfl rfl ?_))
        all_goals ((first | refine GE.q 13 rfl (by as_aux_lemma => kernel_rfl) rfl (qg_call rfl rfl (fun w _ => less_any _ _ w)) rfl ?_ | refine GE.qn 13 rfl (by as_aux_lemma => kernel_rfl) rfl rfl ?_))
        all_goals ((first | refine GE.ol 14 (by as_aux_lemma => kernel_rfl) rfl rfl (og_runs (rv_pickT rfl rfl)) rfl (fun _ _ h => by first | exact h | exact h.drop 1 | exact h.drop 2 | exact h.drop 3 | exact h.drop 4 | exact h.drop 5 | exact h.drop 6 | exact h.drop 7 | exact h.drop 8 | exact h.drop 9 | exact h.drop 10 | exact h.drop 11 | exact h.drop 12 | exact h.drop 13) (fun _ _ => ?_) | refine GE.ol 14 (by as_aux_lemma => kernel_rfl) rfl rfl (og_runs (rv_pickF rfl rfl)) rfl (fun _ _ h => by first | exact h | exact h.drop 1 | exact h.drop 2 | exact h.drop 3 | exact h.drop 4 | exact h.drop 5 | exact h.drop 6 | exact h.drop 7 | exact h.drop 8 | exact h.drop 9 | exact h.drop 10 | exact h.drop 11 | exact h.drop 12 | exact h.drop 13) (fun _ _ => ?_)))
        all_goals
         refine GE.done (by as_aux_lemma => kernel_rfl) ?_
         refine G.thenN ?_
         refine G.cond rfl (fun hc => ?_) (fun hc => ?_)
         · try exact Bool.noConfusion hc
           all_goals
            try replace hc := of_decide_eq_true hc
            try (exfalso; first | contradiction | omega)
            all_goals
             refine G.skip ?_
             refine G.thenN ?_
             refine G.seq ?_
             refine G.block ?_
             refine G.drawS [15, 17] rfl ?_
             refine GS.p 0 rfl (by as_aux_lemma => kernel_rfl) (qg_runs (rv_move rfl)) (fun _ h => h.drop 1) rfl ?_
             refine GS.p 1 rfl (by as_aux_lemma => kernel_rfl) (qg_runs (rv_move rfl)) (fun _ h => h.drop 1) rfl ?_
             refine GS.p 2 rfl (by as_aux_lemma => kernel_rfl) (qg_runs (rv_move rfl)) (fun _ h => h.drop 1) rfl ?_
             refine GS.p 3 rfl (by as_aux_lemma => kernel_rfl) (qg_runs (rv_move rfl)) (fun _ h => h.drop 1) rfl ?_
             (first | refine GS.p 4 rfl (by as_aux_lemma => kernel_rfl) (qg_runs (rv_decr rfl rfl (by omega) (by omega))) (fun _ h => h.drop 1) rfl ?_ | refine GS.p 4 rfl (by as_aux_lemma => kernel_rfl) (qg_runs (rv_subN rfl rfl (by omega) (by omega))) (fun _ h => h.drop 1) rfl ?_)
             refine GS.p 5 rfl (by as_aux_lemma => kernel_rfl) (qg_runs (rv_move rfl)) (fun _ h => h.drop 1) rfl ?_
             refine GS.p 6 rfl (by as_aux_lemma => kernel_rfl) (qg_runs (rv_move rfl)) (fun _ h => h.drop 1) rfl ?_
             (first | refine GS.p 7 rfl (by as_aux_lemma => kernel_rfl) (qg_runs (rv_decr rfl rfl (by omega) (by omega))) (fun _ h => h.drop 1) rfl ?_ | refine GS.p 7 rfl (by as_aux_lemma => kernel_rfl) (qg_runs (rv_subN rfl rfl (by omega) (by omega))) (fun _ h => h.drop 1) rfl ?_)
             (first | refine GS.q 8 [9, 14, 15, 16, 17] rfl (by as_aux_lemma => kernel_rfl) (by as_aux_lemma => kernel_rfl) (qg_runs (rv_indexH rfl rfl (by first | exact Rd.stays (by assumption) | exact Rd.owned 0 rfl) rfl (by first | exact e1 | exact e2 | exact get_setN (by omega) e2))) rfl ?_ | refine GS.q 8 [9, 14, 15, 16, 17] rfl (by as_aux_lemma => kernel_rfl) (by as_aux_lemma => kernel_rfl) (qg_runs (rv_index rfl rfl (by first | exact Rd.stays (by assumption) | exact Rd.owned 0 rfl) rfl (by assumption))) rfl ?_)
             refine GS.q 9 [14, 15, 16, 17] rfl (by as_aux_lemma => kernel_rfl) (by as_aux_lemma => kernel_rfl) (qg_runs (rv_loadE rfl (by first | exact Rd.stays (by assumption) | exact Rd.owned 0 rfl) (by first | exact e1 | exact e2 | exact get_setN (by omega) e2) rfl)) rfl ?_
             refine GS.p 10 rfl (by as_aux_lemma => kernel_rfl) (qg_runs (rv_move rfl)) (fun _ h => h.drop 1) rfl ?_
             refine GS.p 11 rfl (by as_aux_lemma => kernel_rfl) (qg_runs (rv_move rfl)) (fun _ h => h.drop 1) rfl ?_
             (first | refine GS.q 12 [13, 14, 15, 16, 17] rfl (by as_aux_lemma => kernel_rfl) (by as_aux_lemma => kernel_rfl) (qg_runs (rv_indexH rfl rfl (by first | exact Rd.stays (by assumption) | exact Rd.owned 0 rfl) rfl (by first | exact e1 | exact e2 | exact get_setN (by omega) e2))) rfl ?_ | refine GS.q 12 [13, 14, 15, 16, 17] rfl (by as_aux_lemma => kernel_rfl) (by as_aux_lemma => kernel_rfl) (qg_runs (rv_index rfl rfl (by first | exact Rd.stays (by assumption) | exact Rd.owned 0 rfl) rfl (by assumption))) rfl ?_)
             refine GS.q 13 [14, 15, 16, 17] rfl (by as_aux_lemma => kernel_rfl) (by as_aux_lemma => kernel_rfl) (qg_runs (rv_loadE rfl (by first | exact Rd.stays (by assumption) | exact Rd.owned 0 rfl) (by first | exact e1 | exact e2 | exact get_setN (by omega) e2) rfl)) rfl ?_
             (first | refine GS.q 14 [15, 16, 17] rfl (by as_aux_lemma => kernel_rfl) (by as_aux_lemma => kernel_rfl) (qg_runs (rv_indexH rfl rfl (by first | exact Rd.stays (by assumption) | exact Rd.owned 0 rfl) rfl (by first | exact e1 | exact e2 | exact get_setN (by omega) e2))) rfl ?_ | refine GS.q 14 [15, 16, 17] rfl (by as_aux_lemma => kernel_rfl) (by as_aux_lemma => kernel_rfl) (qg_runs (rv_index rfl rfl (by first | exact Rd.stays (by assumption) | exact Rd.owned 0 rfl) rfl (by assumption))) rfl ?_)
             refine GS.o0 15 (by as_aux_lemma => kernel_rfl) rfl rfl (og_stE0 rfl rfl rfl (by first | exact e1 | exact e2 | exact get_setN (by omega) e2) rfl rfl rfl rfl (.zero (.cons .nil))) (fun _ _ h => h.drop 1) (fun _ _ => ?_)
             (first | refine GS.q 16 [17] rfl (by as_aux_lemma => kernel_rfl) (by as_aux_lemma => kernel_rfl) (qg_runs (rv_indexH rfl rfl (by first | exact Rd.stays (by assumption) | exact Rd.owned 0 rfl) rfl (by first | exact e1 | exact e2 | exact get_setN (by omega) e2))) rfl ?_ | refine GS.q 16 [17] rfl (by as_aux_lemma => kernel_rfl) (by as_aux_lemma => kernel_rfl) (qg_runs (rv_index rfl rfl (by first | exact Rd.stays (by assumption) | exact Rd.owned 0 rfl) rfl (by assumption))) rfl ?_)
             refine GS.o0 17 (by as_aux_lemma => kernel_rfl) rfl rfl (og_stE0 rfl rfl rfl (by first | exact e1 | exact e2 | exact get_setN (by omega) e2) rfl rfl rfl rfl (.zero (.cons .nil))) (fun _ _ h => h.drop 1) (fun _ _ => ?_)
             refine GS.done (by as_aux_lemma => kernel_rfl) ?_
             refine G.inN ?_
             refine G.thenN ?_
             refine G.region ?_
             refine G.v (rv_move rfl) rfl ?_
             (first | refine G.v (rv_decr rfl rfl (by omega) (by omega)) rfl ?_ | refine G.v (rv_subN rfl rfl (by omega) (by omega)) rfl ?_)
             refine G.v (rv_assign rfl) rfl ?_
             refine G.done ?_
             first | refine G.backK (j - 1) 0 (one_eq (congrArg (fun z => Ch.row v 3 1 z) (by obtain ⟨q, rfl⟩ : ∃ q, j = q + 1 := ⟨j - 1, by omega⟩; exact rowK_dn (by omega)))) (.cons rfl (.cons rfl (.cons rfl (.cons rfl (.nil))))) ?_ ?_ ?_
             · exact ⟨rfl, trivial⟩
             · exact ⟨by omega, by omega, .inr (by simpa using hc)⟩
             · omega
         · try exact Bool.noConfusion hc
           all_goals
            try replace hc := of_decide_eq_false hc
            try (exfalso; first | contradiction | omega)
            all_goals
             refine G.exit ?_
             refine G.thenX ?_
             refine G.thenX ?_
             refine G.inX ?_
             refine G.inN ?_
             refine G.thenN ?_
             refine G.region ?_
             refine G.v (rv_move rfl) rfl ?_
             (first | refine G.v (rv_incr rfl rfl (by omega)) rfl ?_ | refine G.v (rv_addN rfl rfl (by omega)) rfl ?_)
             refine G.v (rv_assign rfl) rfl ?_
             refine G.done ?_
             first | refine G.backK (i + 1, rotF g0 j i (i + 1)) 0 rfl (.cons rfl (.cons rfl (.cons rfl (.nil)))) ?_ ?_ ?_
             · exact ⟨rfl, trivial⟩
             · refine ⟨by dsimp only; omega, by dsimp only; omega, fun l hl => ?_, ?_⟩
               · dsimp only at hl ⊢; rw [rot_out hji (by omega) (by omega)]; exact hout l (by omega)
               · dsimp only; rw [Nat.min_eq_left (by omega)]; exact ins_next hseg hgi0 haj hji (by first | exact .inl (by omega) | exact .inr (by simpa using hc)) hjr
             · dsimp only; omega
   · try exact Bool.noConfusion hc
     all_goals
      try replace hc := of_decide_eq_false hc
      try (exfalso; first | contradiction | omega)
      all_goals
       refine G.exit ?_
       refine G.thenX ?_
       refine G.thenX ?_
       refine G.inX ?_
       exact G.endF0 g0 ⟨fun j hj => hout j (by omega), by rw [Nat.min_eq_right (by omega)] at hseg; exact hseg⟩ rfl rfl (fun w hw => hw)
theorem len64_any {p : Int} (w : World) (h0 : 0 ≤ p) (h1 : p ≤ 12) : Fn Tryz.prog 156 [.int .u64 p] w (fun _ : Int => True) (fun z => .int .i64 z) (fun _ => []) := by
  refine Fn.of (n := 25) Tryz.func156 rfl rfl ?_
  refine G.seq ?_
  refine G.region ?_
  refine G.v (rv_assign rfl) rfl ?_
  refine G.done ?_
  refine G.thenN ?_
  refine G.seq ?_
  refine G.seq ?_
  refine G.region ?_
  refine G.v (rv_move rfl) rfl ?_
  refine G.v (rv_geq rfl rfl) rfl ?_
  refine G.done ?_
  refine G.thenN ?_
  refine G.cond rfl (fun hc => ?_) (fun hc => ?_)
  · try exact Bool.noConfusion hc
    all_goals
     try replace hc := of_decide_eq_true hc
     try (exfalso; first | contradiction | omega)
     all_goals
      exfalso; have hq := of_decide_eq_true hc; omega
  · try exact Bool.noConfusion hc
    all_goals
     try replace hc := of_decide_eq_false hc
     try (exfalso; first | contradiction | omega)
     all_goals
      refine G.skip ?_
      refine G.thenN ?_
      refine G.seq ?_
      refine G.seq ?_
      refine G.region ?_
      refine G.v (rv_move rfl) rfl ?_
      refine G.v (rv_geq rfl rfl) rfl ?_
      refine G.done ?_
      refine G.thenN ?_
      refine G.cond rfl (fun hc => ?_) (fun hc => ?_)
      · try exact Bool.noConfusion hc
        all_goals
         try replace hc := of_decide_eq_true hc
         try (exfalso; first | contradiction | omega)
         all_goals
          exfalso; have hq := of_decide_eq_true hc; omega
      · try exact Bool.noConfusion hc
        all_goals
         try replace hc := of_decide_eq_false hc
         try (exfalso; first | contradiction | omega)
         all_goals
          refine G.skip ?_
          refine G.thenN ?_
          refine G.seq ?_
          refine G.seq ?_
          refine G.region ?_
          refine G.v (rv_move rfl) rfl ?_
          refine G.v (rv_geq rfl rfl) rfl ?_
          refine G.done ?_
          refine G.thenN ?_
          refine G.cond rfl (fun hc => ?_) (fun hc => ?_)
          · try exact Bool.noConfusion hc
            all_goals
             try replace hc := of_decide_eq_true hc
             try (exfalso; first | contradiction | omega)
             all_goals
              exfalso; have hq := of_decide_eq_true hc; omega
          · try exact Bool.noConfusion hc
            all_goals
             try replace hc := of_decide_eq_false hc
             try (exfalso; first | contradiction | omega)
             all_goals
              refine G.skip ?_
              refine G.thenN ?_
              refine G.seq ?_
              refine G.region ?_
              refine G.v (rv_move rfl) rfl ?_
              refine G.v (rv_move rfl) rfl ?_
              refine G.v (rv_convS rfl h0 h1) rfl ?_
              refine G.v (rv_indexS (by kernel_rfl) rfl rfl h0 (bytes_get (Nat.lt_of_le_of_lt (show p.toNat ≤ 12 by omega) (by decide)))) rfl ?_
              refine G.v (rv_conv rfl) rfl ?_
              refine G.v (rv_add rfl rfl) rfl ?_
              refine G.v (rv_assign rfl) rfl ?_
              refine G.done ?_
              refine G.thenN ?_
              refine G.ret ?_
              exact G.retF _ trivial rfl rfl rfl (fun w h => h.none)
theorem bitsLen_any {p : Int} (w : World) (h0 : 0 ≤ p) (h1 : p ≤ 12) : Fn Tryz.prog 138 [.int .u64 p] w (fun _ : Int => True) (fun z => .int .i64 z) (fun _ => []) := by
  refine Fn.of (n := 8) Tryz.func138 rfl rfl ?_
  refine G.seq ?_
  refine G.region ?_
  refine G.v (rv_assign rfl) rfl ?_
  refine G.done ?_
  refine G.thenN ?_
  refine G.seq ?_
  refine G.cond rfl (fun hc => ?_) (fun hc => ?_)
  · exact Bool.noConfusion hc
  · try exact Bool.noConfusion hc
    all_goals
     try replace hc := of_decide_eq_false hc
     try (exfalso; first | contradiction | omega)
     all_goals
      refine G.skip ?_
      refine G.thenN ?_
      refine G.seq ?_
      refine G.region ?_
      refine G.v (rv_move rfl) rfl ?_
      (refine G.op (og_callF0 rfl rfl (fun w hh => len64_any w h0 h1)) rfl ?_; rintro z hz; try dsimp only)
      refine G.v (rv_assign rfl) rfl ?_
      refine G.done ?_
      refine G.thenN ?_
      refine G.ret ?_
      exact G.retF _ trivial rfl rfl rfl (fun w h => h.none)
theorem pdq_any {lim : Int} (h2 : n ≤ 12) :
    FnMF Tryz.prog 137 [v, .int .i64 0, .int .i64 (n : Int), .int .i64 lim] w0 [.row v 3 1 (rowK n K (fun j => j))] F (fun f' : Nat → Nat => Seg K 0 n f') (fun _ => .tuple #[]) (fun f' => [.row v 3 1 (rowK n K f')]) := by
  refine FnMF.of (n := 134) Tryz.func137 rfl rfl ?_
  refine G.seq ?_
  refine G.region ?_
  refine G.v (rv_assign rfl) rfl ?_
  refine G.done ?_
  refine G.thenN ?_
  refine G.seq ?_
  refine G.region ?_
  refine G.v (rv_assign rfl) rfl ?_
  refine G.done ?_
  refine G.thenN ?_
  refine G.block ?_
  -- loop 0: turned [1, 2, 3, 8, 9], kept [0]
  refine G.loopK (ι := Unit) (ks := [0]) (fun _ => [(1, .int .i64 0), (2, .int .i64 (n : Int)), (3, .int .i64 lim), (8, .bool true), (9, .bool true)]) (fun _ => [.row v 3 1 (rowK n K (fun j => j))]) (fun _ => True) (fun _ => 0) () (.cons rfl (.nil)) rfl ?_ ?_ ?_
  · exact trivial
  · exact ⟨rfl, rfl, rfl, rfl, rfl, trivial⟩
  rintro i hi
  skip
  all_goals
   refine G.block ?_
   refine G.seq ?_
   refine G.region ?_
   refine G.v (rv_move rfl) rfl ?_
   refine G.v (rv_move rfl) rfl ?_
   (first | refine G.v (rv_decr rfl rfl (by omega) (by omega)) rfl ?_ | refine G.v (rv_subB rfl rfl (by omega) (by omega)) rfl ?_)
   refine G.v (rv_assign rfl) rfl ?_
   refine G.done ?_
   refine G.thenN ?_
   refine G.seq ?_
   refine G.seq ?_
   refine G.region ?_
   refine G.v (rv_move rfl) rfl ?_
   refine G.v (rv_leq rfl rfl) rfl ?_
   refine G.done ?_
   refine G.thenN ?_
   refine G.cond rfl (fun hc => ?_) (fun hc => ?_)
   · try exact Bool.noConfusion hc
     all_goals
      try replace hc := of_decide_eq_true hc
      try (exfalso; first | contradiction | omega)
      all_goals
       refine G.seq ?_
       refine G.region ?_
       refine G.v (rv_move rfl) rfl ?_
       refine G.v (rv_move rfl) rfl ?_
       refine G.v (rv_move rfl) rfl ?_
       ((first | refine G.frontR0 (v) rfl ?_ | refine G.frontR1 (v) rfl ?_ | refine G.frontR2 (v) rfl ?_ | refine G.frontR3 (v) rfl ?_ | refine G.frontR4 (v) rfl ?_ | refine G.frontR5 (v) rfl ?_ | refine G.frontR6 (v) rfl ?_ | refine G.frontR7 (v) rfl ?_ | refine G.frontR8 (v) rfl ?_ | refine G.frontR9 (v) rfl ?_ | refine G.frontR10 (v) rfl ?_ | refine G.frontR11 (v) rfl ?_ | refine G.frontR12 (v) rfl ?_ | refine G.frontR13 (v) rfl ?_ | refine G.frontR14 (v) rfl ?_ | refine G.frontR15 (v) rfl ?_); refine G.op (og_callMM1 rfl rfl rfl (insOrd_any (Nat.zero_le _) (Nat.le_refl _) (by omega) (fun j _ _ => rfl))) rfl ?_; rintro f1 hf1; try dsimp only)
       refine G.done ?_
       refine G.thenN ?_
       refine G.ret ?_
       refine G.thenR ?_
       refine G.inR ?_
       refine G.thenR ?_
       refine G.inR ?_
       exact G.retF0 f1 hf1.2 rfl rfl (fun w hw => hw)
   · try exact Bool.noConfusion hc
     all_goals
      try replace hc := of_decide_eq_false hc
      try (exfalso; first | contradiction | omega)
      all_goals
       exfalso; omega
theorem sort_any {ks : List Int} (h2 : ks.length ≤ 12) :
    FnMF Tryz.prog 120 [v] w0 [.row v 3 1 (ks.map icell)] F (fun _ : Unit => True) (fun _ => .tuple #[]) (fun _ => [.row v 3 1 ((sortM ks).map icell)]) := by
  have hln : (ks.map icell).length = ks.length := by simp
  refine FnMF.of (n := 11) Tryz.func120 rfl rfl ?_
  refine G.seq ?_
  refine G.region ?_
  refine G.v (rv_move rfl) rfl ?_
  refine G.v (rv_len rfl (by first | exact Rd.stays (by assumption) | exact Rd.owned 0 rfl)) rfl ?_
  refine G.v (rv_assign rfl) rfl ?_
  refine G.done ?_
  refine G.thenN ?_
  refine G.region ?_
  refine G.v (rv_move rfl) rfl ?_
  refine G.v (rv_move rfl) rfl ?_
  refine G.v (rv_move rfl) rfl ?_
  refine G.v (rv_convS rfl (by omega) (by omega)) rfl ?_
  (refine G.op (og_callF0 rfl rfl (fun w hh => bitsLen_any w (by rw [hln]; omega) (by rw [hln]; omega))) rfl ?_; rintro z hz; try dsimp only)
  ((first | refine G.frontR0 (v) rfl ?_ | refine G.frontR1 (v) rfl ?_ | refine G.frontR2 (v) rfl ?_ | refine G.frontR3 (v) rfl ?_ | refine G.frontR4 (v) rfl ?_ | refine G.frontR5 (v) rfl ?_ | refine G.frontR6 (v) rfl ?_ | refine G.frontR7 (v) rfl ?_ | refine G.frontR8 (v) rfl ?_ | refine G.frontR9 (v) rfl ?_ | refine G.frontR10 (v) rfl ?_ | refine G.frontR11 (v) rfl ?_ | refine G.frontR12 (v) rfl ?_ | refine G.frontR13 (v) rfl ?_ | refine G.frontR14 (v) rfl ?_ | refine G.frontR15 (v) rfl ?_); refine G.op (og_callMM1 rfl rfl rfl (by rw [hln, ← rowK_list]; exact pdq_any (n := ks.length) (K := keyU ks) h2)) rfl ?_; rintro f1 hf1; try dsimp only)
  refine G.done ?_
  exact G.endF0 () trivial rfl rfl (fun w hw => by rw [← rowK_seg hf1]; exact hw)
end
end Go.Proofs.YtpmphkcibiimcaaGreat
