/-
  Texts of this proof, one behind the other: Cls, Copy, Rep, Units, Gram, Open, OpenR, MarkR, Facts, Grp1, Kinds, Kinds2, Kinds3, PresP, Pres, Grp2, Grp3, MarkSS, PutM, Push, Low1, Low2.
-/
import Derived.Test.YtglpgohilfoecaaGreatPkpB
import Derived.Test.YtglpgohilfoecaaGreatPkpA
import Derived.ProofKit
import Derived.OpenShut
import Derived.ShutString
import Derived.ChangeOld
import Derived.Deep.Slices
import Derived.Deep.Fields
import Derived.Test.YtglpgohilfoecaaGreatRows
import Derived.JoinedOf
set_option linter.unusedVariables false
set_option linter.unusedSimpArgs false

/-
  What is wrong with an order.
-/
namespace Go.Proofs.YtglpgohilfoecaaGreat
open Go.RowKit
attribute [local irreducible] Go.wpList Go.Code.wp Go.Exit.then Go.Exit.inBlock Go.bodyPost Go.Calls pE pB G RunsV FnV Fn FnM
set_option maxRecDepth 100000
set_option maxHeartbeats 4000000
def tooBig (p : PalletM) (t : TypeM) : Bool := decide (t.w > p.w) || decide (t.d > p.d) || decide (t.h > p.h) || decide (t.tare + t.g > p.g)
def classM (r : ReqM) : Int :=
  if boundsOkM r = false then 2 else if namesM r = false then 3 else if tableOkM r.pairs r.classes = false then 4
  else if (r.items.any fun x => !fitsM x (typeAt r r.master).1) = true then 5 else if (r.types.any (tooBig r.pal)) = true then 6 else 0
theorem dj {r : ReqM} (h : boundsOkM r = true) : ∀ t ∈ r.types, typeOkM t = true := by
  simp only [boundsOkM, Bool.and_eq_true, List.all_eq_true] at h
  exact h.1.1.1.1.2
theorem b9 {r : ReqM} (h : boundsOkM r = true) : r.items.all itemOkM = true := by
  simp only [boundsOkM, Bool.and_eq_true] at h
  exact h.1.2
theorem cr {r : ReqM} (h : boundsOkM r = true) : r.items.length ≤ 8 ∧ cntSum r.items ≤ 12 := by
  simp only [boundsOkM, Bool.and_eq_true, decide_eq_true_eq] at h
  have h1 := h.1.1.2
  exact ⟨by omega, h.2⟩
theorem type_in {t : TypeM} (h : typeOkM t = true) : 0 ≤ t.tare ∧ t.tare ≤ 100000 ∧ 1 ≤ t.g ∧ t.g ≤ 100000 := by
  simp only [typeOkM, Bool.and_eq_true, inB, decide_eq_true_eq] at h
  exact ⟨h.1.1.2.1, h.1.1.2.2, h.1.2.1, h.1.2.2⟩
theorem bR {r : ReqM} (h : classM r = 0) : boundsOkM r = true := by
  cases hb : boundsOkM r with
  | true => rfl
  | false => rw [classM, if_pos hb] at h; omega
theorem any_at {α : Type} {f : α → Bool} {l : List α} {k : Nat} {b : α} (hb : l[k]? = some b) (hp : f b = true) : l.any f = true :=
  List.any_eq_true.2 ⟨b, List.mem_of_getElem? hb, hp⟩
theorem any_end {α : Type} {f : α → Bool} {l : List α} {k : Nat} (h : (l.take k).any f = false) (hk : ¬ k < l.length) : l.any f = false := by rwa [List.take_of_length_le (by omega)] at h
theorem class1_any (t : TypeM) (b : ItemM) {q : Nat} (w : World) (h : Rd w (.slice (some ⟨q, 0, none⟩) 1 1) 7 [t.cells]) : FnV Tryz.prog 173 [.agg (ItemM.cells b).toArray, pB q 0] w (.bool (!fitsM b t)) := by
  rw [cp q 7]
  refine FnV.of (n := 8) Tryz.func173 rfl rfl ?_; refine G.seq (G.region ?_); refine G.op (bE rfl rfl) rfl (fun bk2 _ => ?_); refine G.v (bb rfl) rfl (G.I (G.E (G.seq (G.region (G.v (bj 0 rfl rfl rfl) rfl ?_))))); refine G.v (bN rfl (by exact Rd.stays (by assumption)) rfl rfl) rfl ?_; refine G.op (bh rfl rfl (fun w hh => fits_any b t w)) rfl (fun _ _ => ?_); refine G.v (bF rfl) rfl (G.v (bb rfl) rfl (G.I (G.E (G.ret ?_))))
  exact G.U rfl rfl rfl
theorem class2_any (p : PalletM) (t : TypeM) {q : Nat} (w : World) (ht : typeOkM t = true) (h : Rd w (.slice (some ⟨q, 0, none⟩) 1 1) 4 [p.cells]) : FnV Tryz.prog 175 [.agg (TypeM.cells t).toArray, pB q 0] w (.bool (tooBig p t)) := by
  rw [cp q 4]
  have htb := type_in ht
  refine FnV.of (n := 33) Tryz.func175 rfl rfl ?_; refine G.seq (G.region ?_); refine G.op (bE rfl rfl) rfl (fun bk2 _ => ?_); refine G.v (bb rfl) rfl (G.I (G.E (G.seq (G.region (G.v (be rfl) rfl (G.v (bf 0 rfl rfl rfl) rfl (G.v (bo rfl) rfl ?_))))))); refine G.v (bi rfl (by exact Rd.stays (by assumption)) rfl rfl) rfl ?_; refine G.v (b6 rfl rfl) rfl (G.v (ba rfl) rfl ?_)
  (with_reducible refine G.gP rfl rfl (fun hg => ?_) (fun hg => ?_)) <;> (try exact Bool.noConfusion hg) <;> (first | (refine G.gY rfl rfl ?_; (refine G.v (be rfl) rfl ?_)) | refine G.gN rfl rfl rfl ?_)
  all_goals ((first | (refine G.gY rfl rfl ?_; refine G.v (bf 0 rfl rfl rfl) rfl ?_) | refine G.gN rfl rfl rfl ?_))
  all_goals ((first | (refine G.gY rfl rfl ?_; (refine G.v (bo rfl) rfl ?_)) | refine G.gN rfl rfl rfl ?_))
  all_goals ((first | (refine G.gY rfl rfl ?_; (refine G.v (bi rfl (by exact Rd.stays (by assumption)) rfl rfl) rfl ?_)) | refine G.gN rfl rfl rfl ?_))
  all_goals ((first | (refine G.gY rfl rfl ?_; refine G.v (b6 rfl rfl) rfl ?_) | refine G.gN rfl rfl rfl ?_))
  all_goals ((first | refine G.v (bk rfl rfl) rfl ?_ | refine G.v (bm rfl rfl) rfl ?_))
  all_goals (refine G.v (ba rfl) rfl ?_)
  all_goals (((with_reducible refine G.gP rfl rfl (fun hg => ?_) (fun hg => ?_)) <;> (try exact Bool.noConfusion hg) <;> (first | (refine G.gY rfl rfl ?_; (refine G.v (be rfl) rfl ?_)) | refine G.gN rfl rfl rfl ?_)))
  all_goals ((first | (refine G.gY rfl rfl ?_; refine G.v (bf 0 rfl rfl rfl) rfl ?_) | refine G.gN rfl rfl rfl ?_))
  all_goals ((first | (refine G.gY rfl rfl ?_; (refine G.v (bo rfl) rfl ?_)) | refine G.gN rfl rfl rfl ?_))
  all_goals ((first | (refine G.gY rfl rfl ?_; (refine G.v (bi rfl (by exact Rd.stays (by assumption)) rfl rfl) rfl ?_)) | refine G.gN rfl rfl rfl ?_))
  all_goals ((first | (refine G.gY rfl rfl ?_; refine G.v (b6 rfl rfl) rfl ?_) | refine G.gN rfl rfl rfl ?_))
  all_goals ((first | refine G.v (bk rfl rfl) rfl ?_ | refine G.v (bm rfl rfl) rfl ?_))
  all_goals (refine G.v (ba rfl) rfl ?_)
  all_goals (((with_reducible refine G.gP rfl rfl (fun hg => ?_) (fun hg => ?_)) <;> (try exact Bool.noConfusion hg) <;> (first | (refine G.gY rfl rfl ?_; (refine G.v (be rfl) rfl ?_)) | refine G.gN rfl rfl rfl ?_)))
  all_goals ((first | (refine G.gY rfl rfl ?_; refine G.v (bf 0 rfl rfl rfl) rfl ?_) | refine G.gN rfl rfl rfl ?_))
  all_goals ((first | (refine G.gY rfl rfl ?_; (refine G.v (be rfl) rfl ?_)) | refine G.gN rfl rfl rfl ?_))
  all_goals ((first | (refine G.gY rfl rfl ?_; refine G.v (bf 0 rfl rfl rfl) rfl ?_) | refine G.gN rfl rfl rfl ?_))
  all_goals ((first | (refine G.gY rfl rfl ?_; (refine G.v (bD rfl rfl (by omega) (by omega)) rfl ?_)) | refine G.gN rfl rfl rfl ?_))
  all_goals ((first | (refine G.gY rfl rfl ?_; (refine G.v (bo rfl) rfl ?_)) | refine G.gN rfl rfl rfl ?_))
  all_goals ((first | (refine G.gY rfl rfl ?_; (refine G.v (bi rfl (by exact Rd.stays (by assumption)) rfl rfl) rfl ?_)) | refine G.gN rfl rfl rfl ?_))
  all_goals ((first | (refine G.gY rfl rfl ?_; refine G.v (b6 rfl rfl) rfl ?_) | refine G.gN rfl rfl rfl ?_))
  all_goals ((first | refine G.v (bk rfl rfl) rfl ?_ | refine G.v (bm rfl rfl) rfl ?_))
  all_goals (refine G.v (bb rfl) rfl ?_)
  all_goals
   refine G.I (G.E (G.ret ?_)); refine G.U rfl rfl (congrArg Value.bool ?_); simp_all [tooBig] <;> (intros; omega)
theorem class_any {r : ReqM} {pv tv iv : Value} (w : World) (h : Rd w pv 2 (r.pairs.map PairM.cells)) (h2 : Rd w tv 7 (r.types.map TypeM.cells)) (h3 : Rd w iv 7 (r.items.map ItemM.cells)) :
    FnV Tryz.prog 115 [.agg (r.cells pv tv iv).toArray] w (.int .i64 (classM r)) := by
  refine FnV.of (n := 38) Tryz.func115 rfl rfl ?_; refine G.seq (G.region ?_); refine G.op (bE rfl rfl) rfl (fun bk1 _ => ?_); refine G.v (bb rfl) rfl (G.I (G.E (G.seq (G.region (G.v (bj 0 rfl rfl rfl) rfl ?_))))); refine G.op (bh rfl rfl (fun w hh => masterOf_any (r := r) w (Rd.stays h2 _ hh))) rfl (fun _ _ => ?_); refine G.v (ba rfl) rfl (G.v (bC rfl rfl) rfl (G.v (bC rfl rfl) rfl ?_)); refine G.op (bu) rfl (fun bk3 _ => ?_); refine G.bk (bL rfl rfl rfl rfl rfl rfl (.zero (.cons (.cons (.cons (.cons (.cons (.cons (.cons .nil))))))))) (fun _ _ => ?_); refine G.v (bb rfl) rfl (G.I (G.E (G.seq (G.region (G.v (be rfl) rfl ?_))))); refine G.v (dg 1 rfl rfl (.skip (.one (.one (.one (.one .nil)))))) rfl ?_; refine G.op (bu) rfl (fun bk5 _ => ?_); refine G.bk (bL rfl rfl rfl rfl rfl rfl (.zero (.cons (.cons (.cons (.cons .nil)))))) (fun _ _ => ?_); refine G.I (G.E (G.seq (G.block (G.seq (G.region (G.v (bj 2 rfl rfl rfl) rfl ?_)))))); refine G.op (bh rfl rfl (fun w hh => boundsOk_any (r := r) w (Rd.stays h _ hh) (Rd.stays h2 _ hh) (Rd.stays h3 _ hh))) rfl (fun _ _ => ?_); refine G.v (bF rfl) rfl (G.v (bb rfl) rfl (G.I (G.E ?_)))
  refine G.cond rfl (fun hc => ?_) (fun hc => ?_); refine G.seq (G.region (G.v (bb rfl) rfl (G.I (G.E (G.ret (G.bq (G.O ?_)))))))
  exact G.U rfl rfl (congrArg (Value.int .i64) (by rw [classM, if_pos (by simpa using hc)]))
  have hbo : boundsOkM r = true := by simpa using hc
  refine G.seq (G.region (G.v (bj 2 rfl rfl rfl) rfl ?_)); refine G.op (bh rfl rfl (fun w hh => namesOk_any (r := r) w (Rd.stays h _ hh) (Rd.stays h2 _ hh) (Rd.stays h3 _ hh))) rfl (fun _ _ => ?_); refine G.v (bF rfl) rfl (G.v (bb rfl) rfl (G.I (G.E ?_))); refine G.cond rfl (fun hc => ?_) (fun hc => ?_); refine G.seq (G.region (G.v (bb rfl) rfl (G.I (G.E (G.ret (G.bq (G.O ?_)))))))
  exact G.U rfl rfl (congrArg (Value.int .i64) (by rw [classM, if_neg (by simp [hbo]), if_pos (by simpa using hc)]))
  have hna : namesM r = true := by simpa using hc
  refine G.seq (G.region (G.v (be rfl) rfl (G.v (bf 2 rfl rfl rfl) rfl (G.v (be rfl) rfl (G.v (bf 2 rfl rfl rfl) rfl ?_))))); refine G.op (bh rfl rfl (fun w hh => tableOk_any (l := r.pairs) r.classes w (Rd.stays h _ hh))) rfl (fun _ _ => ?_); refine G.v (bF rfl) rfl (G.v (bb rfl) rfl (G.I (G.E ?_))); refine G.cond rfl (fun hc => ?_) (fun hc => ?_); refine G.seq (G.region (G.v (bb rfl) rfl (G.I (G.E (G.ret (G.bq (G.O ?_)))))))
  exact G.U rfl rfl (congrArg (Value.int .i64) (by rw [classM, if_neg (by simp [hbo]), if_neg (by simp [hna]), if_pos (by simpa using hc)]))
  have hta : tableOkM r.pairs r.classes = true := by simpa using hc
  refine G.seq (G.region (G.v (be rfl) rfl (G.v (bf 2 rfl rfl rfl) rfl (G.v (bY rfl rfl) rfl ?_)))); refine G.op (bh rfl rfl (fun w hh => containsItem_any (l := r.items) w (Rd.stays h3 _ hh) (fun w' j c hw hb => class1_any (typeAt r r.master).1 c w' (Rd.stays (by exact Rd.bb 1 rfl rfl w hh) w' hw)))) rfl (fun _ _ => ?_); refine G.v (bb rfl) rfl (G.I (G.E ?_)); refine G.cond rfl (fun hc => ?_) (fun hc => ?_); refine G.seq (G.region (G.v (bb rfl) rfl (G.I (G.E (G.ret (G.bq (G.O ?_)))))))
  exact G.U rfl rfl (congrArg (Value.int .i64) (by rw [classM, if_neg (by simp [hbo]), if_neg (by simp [hna]), if_neg (by simp [hta]), if_pos hc]))
  have hfi := hc
  refine G.seq (G.region (G.v (be rfl) rfl (G.v (bf 2 rfl rfl rfl) rfl (G.v (bY rfl rfl) rfl ?_)))); refine G.op (bh rfl rfl (fun w hh => containsType_any (l := r.types) w (Rd.stays h2 _ hh) (fun w' j c hw hb => class2_any r.pal c w' (dj hbo c (List.mem_of_getElem? hb)) (Rd.stays (by exact Rd.bb 0 rfl rfl w hh) w' hw)))) rfl (fun _ _ => ?_); refine G.v (bb rfl) rfl (G.I (G.E ?_)); refine G.cond rfl (fun hc => ?_) (fun hc => ?_); refine G.seq (G.region (G.v (bb rfl) rfl (G.I (G.E (G.ret (G.bq (G.O ?_)))))))
  exact G.U rfl rfl (congrArg (Value.int .i64) (by rw [classM, if_neg (by simp [hbo]), if_neg (by simp [hna]), if_neg (by simp [hta]), if_neg (by rw [hfi]; decide), if_pos hc]))
  have hpa := hc
  refine G.skip (G.bc (G.E (G.seq (G.region (G.v (bb rfl) rfl (G.I (G.E (G.ret ?_))))))))
  exact G.U rfl rfl (congrArg (Value.int .i64) (by rw [classM, if_neg (by simp [hbo]), if_neg (by simp [hna]), if_neg (by simp [hta]), if_neg (by rw [hfi]; decide), if_neg (by rw [hpa]; decide)]))
theorem dc {r : ReqM} {pv tv iv : Value} (w : World) (h : Rd w pv 2 (r.pairs.map PairM.cells)) (h2 : Rd w tv 7 (r.types.map TypeM.cells)) (h3 : Rd w iv 7 (r.items.map ItemM.cells)) :
    FnV Tryz.prog 55 [.agg (r.cells pv tv iv).toArray] w (.bool (decide (classM r = 0))) := by
  refine FnV.of (n := 6) Tryz.func55 rfl rfl ?_; refine G.seq (G.region ?_); refine G.op (bE rfl rfl) rfl (fun bk1 _ => ?_); refine G.v (bb rfl) rfl (G.I (G.E (G.seq (G.region (G.v (bj 0 rfl rfl rfl) rfl ?_))))); refine G.op (bh rfl rfl (fun w hh => class_any (r := r) w (Rd.stays h _ hh) (Rd.stays h2 _ hh) (Rd.stays h3 _ hh))) rfl (fun _ _ => ?_); refine G.v (bQ rfl rfl) rfl (G.v (bb rfl) rfl (G.I (G.E (G.ret ?_))))
  exact G.U rfl rfl rfl
theorem cJ {r : ReqM} {pv tv iv : Value} (w : World) (h : Rd w pv 2 (r.pairs.map PairM.cells)) (h2 : Rd w tv 7 (r.types.map TypeM.cells)) (h3 : Rd w iv 7 (r.items.map ItemM.cells)) :
    FnV Tryz.prog 31 [.agg (r.cells pv tv iv).toArray] w (.int .i64 (classM r)) := by
  have hle2 := h2.le_map
  have hle3 := h3.le_map
  refine FnV.of (n := 85) Tryz.func31 rfl rfl ?_; refine G.seq (G.region ?_); refine G.op (bE rfl rfl) rfl (fun bk1 _ => ?_); refine G.v (bb rfl) rfl (G.I (G.E (G.seq (G.seq (G.region (G.v (bj 0 rfl rfl rfl) rfl ?_)))))); refine G.op (bh rfl rfl (fun w hh => sboundsOk_any (r := r) w (Rd.stays h _ hh) (Rd.stays h2 _ hh) (Rd.stays h3 _ hh))) rfl (fun _ _ => ?_); refine G.v (bF rfl) rfl (G.I (G.E ?_)); refine G.cond rfl (fun hc => ?_) (fun hc => ?_); refine G.seq (G.region (G.v (bb rfl) rfl (G.I (G.E (G.ret (G.O ?_))))))
  exact G.U rfl rfl (congrArg (Value.int .i64) (by rw [classM, if_pos (by simpa using hc)]))
  have hbo : boundsOkM r = true := by simpa using hc
  refine G.skip (G.E (G.seq (G.seq (G.region (G.v (bj 0 rfl rfl rfl) rfl ?_))))); refine G.op (bh rfl rfl (fun w hh => snamesOk_any (r := r) w (Rd.stays h _ hh) (Rd.stays h2 _ hh) (Rd.stays h3 _ hh))) rfl (fun _ _ => ?_); refine G.v (bF rfl) rfl (G.I (G.E ?_)); refine G.cond rfl (fun hc => ?_) (fun hc => ?_); refine G.seq (G.region (G.v (bb rfl) rfl (G.I (G.E (G.ret (G.O ?_))))))
  exact G.U rfl rfl (congrArg (Value.int .i64) (by rw [classM, if_neg (by simp [hbo]), if_pos (by simpa using hc)]))
  have hna : namesM r = true := by simpa using hc
  refine G.skip (G.E (G.seq (G.seq (G.region (G.v (be rfl) rfl (G.v (bf 0 rfl rfl rfl) rfl (G.v (be rfl) rfl (G.v (bf 0 rfl rfl rfl) rfl ?_)))))))); refine G.op (bh rfl rfl (fun w hh => stableOk_any (l := r.pairs) r.classes w (Rd.stays h _ hh))) rfl (fun _ _ => ?_); refine G.v (bF rfl) rfl (G.I (G.E ?_)); refine G.cond rfl (fun hc => ?_) (fun hc => ?_); refine G.seq (G.region (G.v (bb rfl) rfl (G.I (G.E (G.ret (G.O ?_))))))
  exact G.U rfl rfl (congrArg (Value.int .i64) (by rw [classM, if_neg (by simp [hbo]), if_neg (by simp [hna]), if_pos (by simpa using hc)]))
  · have hta : tableOkM r.pairs r.classes = true := by simpa using hc
    refine G.skip (G.E (G.seq (G.region (G.v (bj 0 rfl rfl rfl) rfl ?_)))); refine G.op (bh rfl rfl (fun w hh => cX (r := r) w (Rd.stays h2 _ hh))) rfl (fun _ _ => ?_); refine G.v (ba rfl) rfl (G.v (bC rfl rfl) rfl (G.v (bC rfl rfl) rfl ?_)); refine G.op (bu) rfl (fun bk3 _ => ?_); refine G.bk (bL rfl rfl rfl rfl rfl rfl (.zero (.cons (.cons (.cons (.cons (.cons (.cons (.cons .nil))))))))) (fun _ _ => ?_); refine G.v (bb rfl) rfl (G.I (G.E (G.seq (G.seq (G.region (G.v (bb rfl) rfl (G.I (G.E (G.block ?_))))))))); refine G.Y (ι := Nat) (ks := [1, 3]) (fun k => [(5, .int .i64 k)]) (fun _ => []) (fun k => k ≤ r.items.length ∧ (r.items.take k).any (fun x => !fitsM x (typeAt r r.master).1) = false) (fun k => r.items.length - k) 0 (.cons rfl (.cons rfl (.nil))) rfl ?_ ?_ ?_
    exact ⟨Nat.zero_le _, rfl⟩
    exact ⟨rfl, trivial⟩
    rintro k ⟨hk, ht⟩
    by_cases hlt : k < r.items.length
    case' pos => (obtain ⟨b, hb⟩ := bn hlt; have he := bt hb ItemM.cells)
    case' neg => (have hfi := any_end ht hlt)
    all_goals
     refine G.seq (G.seq (G.region (G.v (ba rfl) rfl (G.v (be rfl) rfl (G.v (bf 1 rfl rfl rfl) rfl ?_))))); refine G.v (bz rfl (by exact Rd.stays (by assumption))) rfl ?_; refine G.v (br rfl rfl) rfl (G.I (G.E ?_)); refine G.cond rfl (fun hc => ?_) (fun hc => ?_)
     · all_goals
        replace hc := of_decide_eq_true hc
        simp only [List.length_map] at hc
        try (exfalso; omega)
        all_goals
         refine G.skip (G.E (G.seq (G.block (G.seq ?_)))); refine G.ba [] ?_; refine GE.q 0 rfl (by as_aux_lemma => kernel_rfl) rfl (bc (be rfl)) rfl ?_; refine GE.q 1 rfl (by as_aux_lemma => kernel_rfl) rfl (bc (bf 1 rfl rfl rfl)) rfl ?_; refine GE.q 2 rfl (by as_aux_lemma => kernel_rfl) rfl (bc (ba rfl)) rfl ?_; refine GE.q 3 rfl (by as_aux_lemma => kernel_rfl) rfl (bc (bg rfl rfl (by exact Rd.stays (by assumption)) rfl (by assumption))) rfl ?_; refine GE.q 4 rfl (by as_aux_lemma => kernel_rfl) rfl (bc (bN rfl (by exact Rd.stays (by assumption)) (by assumption) rfl)) rfl ?_; refine GE.V 5 (by as_aux_lemma => kernel_rfl) rfl rfl (bd (bj 0 rfl rfl rfl)) rfl (fun _ _ h => by exact h) (fun _ _ => ?_); refine GE.V 6 (by as_aux_lemma => kernel_rfl) rfl rfl (bh rfl rfl (fun w hh => sfits_any b (typeAt r r.master).1 w)) rfl (fun _ _ h => by exact h) (fun _ _ => ?_); refine GE.V 7 (by as_aux_lemma => kernel_rfl) rfl rfl (bd (bF rfl)) rfl (fun _ _ h => by exact h) (fun _ _ => ?_); refine GE.E (by as_aux_lemma => kernel_rfl) ?_; refine G.E ?_; refine G.cond rfl (fun hc => ?_) (fun hc => ?_)
         · all_goals
            all_goals
             refine G.seq (G.region (G.v (bb rfl) rfl (G.I (G.E (G.ret (G.bq (G.O (G.O (G.bq (G.O ?_))))))))))
             exact G.U rfl rfl (congrArg (Value.int .i64) (by rw [classM, if_neg (by simp [hbo]), if_neg (by simp [hna]), if_neg (by simp [hta]), if_pos (any_at hb hc)]))
         · all_goals
            all_goals
             refine G.skip (G.bc (G.E (G.region (G.v (ba rfl) rfl ?_)))); refine G.v (bp rfl rfl (by omega)) rfl ?_; refine G.v (bb rfl) rfl (G.I ?_); refine G.V (k + 1) 0 rfl (.cons rfl (.cons rfl (.nil))) ?_ ?_ ?_
             exact ⟨rfl, trivial⟩
             exact ⟨hlt, cc ht hb hc⟩
             omega
     · all_goals
        replace hc := of_decide_eq_false hc
        simp only [List.length_map] at hc
        try (exfalso; omega)
        all_goals
         refine G.exit (G.L (G.L (G.bn (G.E (G.seq (G.seq (G.region (G.v (bb rfl) rfl (G.I (G.E (G.block ?_))))))))))); refine G.Y (ι := Nat) (ks := [1]) (fun k => [(6, .int .i64 k)]) (fun _ => []) (fun k => k ≤ r.types.length ∧ (r.types.take k).any (tooBig r.pal) = false) (fun k => r.types.length - k) 0 (.cons rfl (.nil)) rfl ?_ ?_ ?_
         exact ⟨Nat.zero_le _, rfl⟩
         exact ⟨rfl, trivial⟩
         rintro k1 ⟨hk1, ht1⟩
         by_cases hlt1 : k1 < r.types.length
         case' pos => (obtain ⟨b1, hb1⟩ := bn hlt1; have he := bt hb1 TypeM.cells; have htb := type_in (dj hbo b1 (List.mem_of_getElem? hb1)))
         case' neg => (have hpa := any_end ht1 hlt1)
         all_goals
          refine G.seq (G.seq (G.region (G.v (ba rfl) rfl (G.v (be rfl) rfl (G.v (bf 1 rfl rfl rfl) rfl ?_))))); refine G.v (bz rfl (by exact Rd.stays (by assumption))) rfl ?_; refine G.v (br rfl rfl) rfl (G.I (G.E ?_)); refine G.cond rfl (fun hc => ?_) (fun hc => ?_)
          · all_goals
             replace hc := of_decide_eq_true hc
             simp only [List.length_map] at hc
             try (exfalso; omega)
             all_goals
              refine G.skip (G.E (G.seq (G.block (G.seq (G.region (G.v (be rfl) rfl (G.v (bf 1 rfl rfl rfl) rfl (G.v (ba rfl) rfl ?_)))))))); refine G.v (bg rfl rfl (by exact Rd.stays (by assumption)) rfl (by assumption)) rfl ?_; refine G.v (bN rfl (by exact Rd.stays (by assumption)) (by assumption) rfl) rfl ?_; refine G.op (bu) rfl (fun bk7 _ => ?_); refine G.bk (bL rfl rfl rfl rfl rfl rfl (.zero (.cons (.cons (.cons (.cons (.cons (.cons (.cons .nil))))))))) (fun _ _ => ?_); refine G.I (G.E (G.seq (G.region (G.v (be rfl) rfl (G.v (bf 0 rfl rfl rfl) rfl (G.v (be rfl) rfl (G.v (be rfl) rfl (G.v (bf 2 rfl rfl rfl) rfl (G.v (b6 rfl rfl) rfl (G.v (ba rfl) rfl ?_))))))))))
              all_goals (((with_reducible refine G.gP rfl rfl (fun hg => ?_) (fun hg => ?_)) <;> (try exact Bool.noConfusion hg) <;> (first | (refine G.gY rfl rfl ?_; (refine G.v (be rfl) rfl ?_)) | refine G.gN rfl rfl rfl ?_)))
              all_goals ((first | (refine G.gY rfl rfl ?_; (refine G.v (bf 0 rfl rfl rfl) rfl ?_)) | refine G.gN rfl rfl rfl ?_))
              all_goals ((first | (refine G.gY rfl rfl ?_; (refine G.v (be rfl) rfl ?_)) | refine G.gN rfl rfl rfl ?_))
              all_goals ((first | (refine G.gY rfl rfl ?_; (refine G.v (be rfl) rfl ?_)) | refine G.gN rfl rfl rfl ?_))
              all_goals ((first | (refine G.gY rfl rfl ?_; (refine G.v (bf 2 rfl rfl rfl) rfl ?_)) | refine G.gN rfl rfl rfl ?_))
              all_goals ((first | (refine G.gY rfl rfl ?_; refine G.v (b6 rfl rfl) rfl ?_) | refine G.gN rfl rfl rfl ?_))
              all_goals ((first | refine G.v (bk rfl rfl) rfl ?_ | refine G.v (bm rfl rfl) rfl ?_))
              all_goals (refine G.v (ba rfl) rfl ?_)
              all_goals (((with_reducible refine G.gP rfl rfl (fun hg => ?_) (fun hg => ?_)) <;> (try exact Bool.noConfusion hg) <;> (first | (refine G.gY rfl rfl ?_; (refine G.v (be rfl) rfl ?_)) | refine G.gN rfl rfl rfl ?_)))
              all_goals ((first | (refine G.gY rfl rfl ?_; (refine G.v (bf 0 rfl rfl rfl) rfl ?_)) | refine G.gN rfl rfl rfl ?_))
              all_goals ((first | (refine G.gY rfl rfl ?_; (refine G.v (be rfl) rfl ?_)) | refine G.gN rfl rfl rfl ?_))
              all_goals ((first | (refine G.gY rfl rfl ?_; (refine G.v (be rfl) rfl ?_)) | refine G.gN rfl rfl rfl ?_))
              all_goals ((first | (refine G.gY rfl rfl ?_; (refine G.v (bf 2 rfl rfl rfl) rfl ?_)) | refine G.gN rfl rfl rfl ?_))
              all_goals ((first | (refine G.gY rfl rfl ?_; refine G.v (b6 rfl rfl) rfl ?_) | refine G.gN rfl rfl rfl ?_))
              all_goals ((first | refine G.v (bk rfl rfl) rfl ?_ | refine G.v (bm rfl rfl) rfl ?_))
              all_goals (refine G.v (ba rfl) rfl ?_)
              all_goals (((with_reducible refine G.gP rfl rfl (fun hg => ?_) (fun hg => ?_)) <;> (try exact Bool.noConfusion hg) <;> (first | (refine G.gY rfl rfl ?_; (refine G.v (be rfl) rfl ?_)) | refine G.gN rfl rfl rfl ?_)))
              all_goals ((first | (refine G.gY rfl rfl ?_; (refine G.v (bf 0 rfl rfl rfl) rfl ?_)) | refine G.gN rfl rfl rfl ?_))
              all_goals ((first | (refine G.gY rfl rfl ?_; (refine G.v (be rfl) rfl ?_)) | refine G.gN rfl rfl rfl ?_))
              all_goals ((first | (refine G.gY rfl rfl ?_; (refine G.v (bf 0 rfl rfl rfl) rfl ?_)) | refine G.gN rfl rfl rfl ?_))
              all_goals ((first | (refine G.gY rfl rfl ?_; (refine G.v (bD rfl rfl (by omega) (by omega)) rfl ?_)) | refine G.gN rfl rfl rfl ?_))
              all_goals ((first | (refine G.gY rfl rfl ?_; (refine G.v (be rfl) rfl ?_)) | refine G.gN rfl rfl rfl ?_))
              all_goals ((first | (refine G.gY rfl rfl ?_; (refine G.v (be rfl) rfl ?_)) | refine G.gN rfl rfl rfl ?_))
              all_goals ((first | (refine G.gY rfl rfl ?_; (refine G.v (bf 2 rfl rfl rfl) rfl ?_)) | refine G.gN rfl rfl rfl ?_))
              all_goals ((first | (refine G.gY rfl rfl ?_; refine G.v (b6 rfl rfl) rfl ?_) | refine G.gN rfl rfl rfl ?_))
              all_goals ((first | refine G.v (bk rfl rfl) rfl ?_ | refine G.v (bm rfl rfl) rfl ?_))
              all_goals
               refine G.I (G.E ?_); refine G.cond rfl (fun hc => ?_) (fun hc => ?_)
               · all_goals
                  try replace hc := of_decide_eq_true hc
                  try simp only [List.length_map] at hc
                  all_goals
                   refine G.seq (G.region (G.v (bb rfl) rfl (G.I (G.E (G.ret (G.bq (G.O (G.O (G.bq (G.O ?_))))))))))
                   exact G.U rfl rfl (congrArg (Value.int .i64) (by rw [classM, if_neg (by simp [hbo]), if_neg (by simp [hna]), if_neg (by simp [hta]), if_neg (by rw [hfi]; decide), if_pos (any_at (f := tooBig r.pal) hb1 (by simp_all [tooBig]; done))]))
               · try exact Bool.noConfusion hc
                 all_goals
                  replace hc := of_decide_eq_false hc
                  all_goals
                   refine G.skip (G.bc (G.E (G.region (G.v (ba rfl) rfl ?_)))); refine G.v (bp rfl rfl (by omega)) rfl ?_; refine G.v (bb rfl) rfl (G.I ?_); refine G.V (k1 + 1) 1 rfl (.cons rfl (.nil)) ?_ ?_ ?_
                   exact ⟨rfl, trivial⟩
                   exact ⟨hlt1, cc ht1 hb1 (by simp_all [tooBig]; try omega)⟩
                   omega
          · all_goals
             replace hc := of_decide_eq_false hc
             simp only [List.length_map] at hc
             try (exfalso; omega)
             all_goals
              refine G.exit (G.L (G.L (G.bn (G.E (G.seq (G.region (G.v (bb rfl) rfl (G.I (G.E (G.ret ?_))))))))))
              exact G.U rfl rfl (congrArg (Value.int .i64) (by rw [classM, if_neg (by simp [hbo]), if_neg (by simp [hna]), if_neg (by simp [hta]), if_neg (by rw [hfi]; decide), if_neg (by rw [hpa]; decide)]))
end Go.Proofs.YtglpgohilfoecaaGreat

/-
  The built-in copy, into an owned slice.
-/
namespace Go.Proofs.YtglpgohilfoecaaGreat
open Go.RowKit
section
variable {P : Program} {n : Nat} {w0 : World} {fr : Fr} {H : List Ch}
theorem d1 {s : Nat} : ∀ {es : List (List Value)} (m : Nat), (∀ e ∈ es, e.length = s) → (es.take m).flatten = es.flatten.take (m * s)
  | [], m, _ => by simp
  | e :: es, 0, _ => by simp
  | e :: es, m + 1, h => by
    have := d1 (es := es) m (fun x hx => h x (List.mem_cons_of_mem _ hx))
    have he := h e (List.mem_cons_self)
    rw [List.take_succ_cons, List.flatten_cons, List.flatten_cons, this, List.take_append, he]
    rw [List.take_of_length_le (l := e) (by rw [he, Nat.succ_mul]; omega), show (m + 1) * s - s = m * s by rw [Nat.succ_mul]; omega]
theorem drop_flat {s : Nat} : ∀ {es : List (List Value)} (m : Nat), (∀ e ∈ es, e.length = s) → (es.drop m).flatten = es.flatten.drop (m * s)
  | [], m, _ => by simp
  | e :: es, 0, _ => by simp
  | e :: es, m + 1, h => by
    have := drop_flat (es := es) m (fun x hx => h x (List.mem_cons_of_mem _ hx))
    have he := h e (List.mem_cons_self)
    rw [List.drop_succ_cons, List.flatten_cons, this, List.drop_append, he]
    have hd0 : e.drop ((m + 1) * s) = [] := List.drop_eq_nil_of_le (by rw [he, Nat.succ_mul]; omega)
    rw [hd0, show (m + 1) * s - s = m * s by rw [Nat.succ_mul]; omega, List.nil_append]
/-- What a copy leaves. -/
def copyM {α : Type} (es es2 : List α) (p : Nat) : List α := es.take p ++ es2.take (es.length - p) ++ es.drop (p + min es2.length (es.length - p))
theorem copy_len {α : Type} {es es2 : List α} {p : Nat} (hp : p ≤ es.length) : (copyM es es2 p).length = es.length := by
  simp only [copyM, List.length_append, List.length_take, List.length_drop]; omega
theorem og_copy {x y : Operand} {t e : TypeId} {s bs : Nat} {zs : List Value} [hT : TySlice P t e] [hI : TyInfo P e s zs bs] (i : Nat) {v dst src : Value} {es es2 : List (List Value)} (p : Nat)
    (hx : opv fr x = some dst) (hy : opv fr y = some src) (hi : H[i]? = some (.row v e s es)) (hd : (dst = v ∧ p = 0) ∨ dst = subV v s p es.length) (hp : p < es.length) (h2 : ∀ w, HeapOk w0 w H → Rd w src s es2) :
    OpG P n w0 fr H (.call ⟨.builtin .copy, #[x, y], #[t, t]⟩) Triv (fun _ : Unit => .int .i64 (min es2.length (es.length - p) : Nat)) (fun _ => H.set i (.row v e s (copyM es es2 p))) :=
  fun a w hr hh d T pos af gd K hK => by
    have hf := hh.front hi
    obtain ⟨hrow, hgood⟩ := hf.ok _ (List.mem_cons_self)
    have hlen := fun e he => (hgood e he).1
    have hfl := cm hlen
    have hsrc := h2 w hh
    obtain ⟨ii, zz, g1, g2, g3, g4, g5⟩ := hI.get
    rcases hrow.2 with ⟨rfl, hn⟩ | ⟨g, cap, cur, rfl, hB, hg, hle, hcm, hsz, htk⟩
    · omega
    · obtain ⟨cap', hd'⟩ : ∃ cap', dst = .slice (some ⟨g, p * s, none⟩) (es.length - p) cap' := by
        rcases hd with ⟨rfl, rfl⟩ | rfl
        · exact ⟨cap, by simp⟩
        · refine ⟨cap - p, ?_⟩
          simp only [subV, sliced, if_neg (show ¬ cap = p by omega), Option.map_some, Addr.add_lit, Nat.zero_add]
      subst hd'
      have hcap : es.length * s ≤ cap * s := Nat.mul_le_mul_right s hle
      obtain ⟨m, hmd⟩ : ∃ m, m = min es2.length (es.length - p) := ⟨_, rfl⟩
      obtain ⟨us, hus⟩ : ∃ us, us = (es2.take m).flatten := ⟨_, rfl⟩
      have hg2 : ∀ e ∈ es2, e.length = s := fun e he => (hsrc.good e he).1
      have hgm : ∀ e ∈ es2.take m, e.length = s := fun e he => hg2 e (List.mem_of_mem_take he)
      have husl : us.length = m * s := by rw [hus, cm hgm, List.length_take]; congr 1; omega
      have h1 : ∀ u ∈ us, u.oneCell' = true := by
        intro u hu
        rw [hus] at hu
        obtain ⟨e', he, hue⟩ := List.mem_flatten.1 hu
        exact (hsrc.good e' (List.mem_of_mem_take he)).2 u hue
      have hpm : p * s + m * s ≤ es.length * s := by
        rw [← Nat.add_mul]; exact Nat.mul_le_mul_right s (by omega)
      have hfirst : (Builtin.firstCells s m src).run P w = .ok us.toArray w := by
        obtain ⟨ad, cap2, rfl, k1, k2, k3⟩ := hsrc.form
        cases ad with
        | none =>
          have h0 : es2.length = 0 := by
            rcases Nat.eq_zero_or_pos es2.length with h | h
            · exact h
            · obtain ⟨b, o, hbo⟩ := k3 h; cases hbo
          have : us = [] := by rw [hus, List.eq_nil_of_length_eq_zero h0]; simp
          rw [this]; rfl
        | some ad =>
          have hl := run_loadCells_list (P := P) w ad us (fun j u hj => by
            have hpos : 0 < es2.length := by
              rcases Nat.eq_zero_or_pos es2.length with h | h
              · rw [hus, List.eq_nil_of_length_eq_zero h] at hj; simp at hj
              · exact h
            obtain ⟨b, o, hbo⟩ := k3 hpos
            injection hbo with hbo
            subst hbo
            rw [hus, d1 m hg2] at hj
            have hj2 : es2.flatten[j]? = some u := by
              have hlt : j < m * s := by
                rcases Nat.lt_or_ge j (m * s) with h | h
                · exact h
                · rw [List.getElem?_eq_none (by rw [List.length_take]; omega)] at hj; cases hj
              rwa [List.getElem?_take_of_lt hlt] at hj
            have := hsrc.cells j u hj2
            rw [Addr.add_lit]
            exact this)
          rw [husl] at hl
          exact hl
      have hlenOf : (Builtin.lenOf src).run P w = .ok es2.length w := by
        obtain ⟨ad, cap2, rfl, k1, k2, k3⟩ := hsrc.form
        rfl
      have hst := run_storeCells_at P g (p * s) e us 0 cur w hg (by omega) h1
      simp only [Nat.add_zero] at hst
      have hrun : (execOp a.eval ⟨d, .call ⟨.builtin .copy, #[x, y], #[t, t]⟩, T, pos, af, gd⟩).run P w = .ok (.value (.int .i64 (m : Nat))) (w.setRow g (cur.toList.take (p * s) ++ us ++ cur.toList.drop (p * s + us.length)).toArray) := by
        have hz : (Builtin.copy_ #[t, t] T #[.slice (some ⟨g, p * s, none⟩) (es.length - p) cap', src]).run P w = .ok (.int .i64 (m : Nat)) (w.setRow g (cur.toList.take (p * s) ++ us ++ cur.toList.drop (p * s + us.length)).toArray) := by
          have hmm : Nat.min es2.length (es.length - p) = m := hmd.symm
          simp only [Builtin.copy_, List.getElem?_toArray, List.getElem?_cons_zero, List.getElem?_cons_succ, Sem.run_bind, Sem.run_pure, run_underlying hT.h, Result.andThen_ok, sizeOf, typeInfo, run_program, g1, g2, hlenOf, hmm, hfirst, List.toList_toArray, hst]
          rfl
        simp only [execOp, resolve, invoke, builtin, Sem.run_bind, Sem.run_pure, Result.andThen_ok, List.map_toArray, List.map_cons, List.map_nil, hr.opv hx, hr.opv hy, hz]
      unfold okAt; rw [hrun]
      rw [hmd]
      refine hK () _ trivial (HeapOk.perm ?_ (dS hi))
      have hnewlen : (cur.toList.take (p * s) ++ us ++ cur.toList.drop (p * s + us.length)).length = cur.size := by
        simp only [List.length_append, List.length_take, List.length_drop, Array.length_toList]; omega
      have hcgood : ∀ e0 ∈ copyM es es2 p, e0.length = s ∧ ∀ u ∈ e0, u.oneCell' = true := by
        intro e0 he0
        rcases List.mem_append.1 he0 with he0 | he0
        · rcases List.mem_append.1 he0 with he0 | he0
          · exact hgood e0 (List.mem_of_mem_take he0)
          · exact hsrc.good e0 (List.mem_of_mem_take he0)
        · exact hgood e0 (List.mem_of_mem_drop he0)
      have hcl : (copyM es es2 p).length = es.length := copy_len (by omega)
      have hcf : (copyM es es2 p).flatten = (cur.toList.take (p * s) ++ us ++ cur.toList.drop (p * s + us.length)).take (es.length * s) := by
        have ht : es2.take (es.length - p) = es2.take m := by
          apply List.ext_getElem?
          intro j
          rw [List.getElem?_take, List.getElem?_take]
          by_cases c : j < es2.length
          · by_cases c2 : j < es.length - p
            · rw [if_pos c2, if_pos (by omega)]
            · rw [if_neg c2, if_neg (by omega)]
          · rw [List.getElem?_eq_none (by omega)]; simp
        rw [copyM, ht, List.flatten_append, List.flatten_append, d1 p hlen, drop_flat _ hlen, ← hus, ← hmd, ← htk, List.take_take, Nat.min_eq_left (Nat.mul_le_mul_right s (Nat.le_of_lt hp)), List.drop_take, husl, Nat.add_mul]
        rw [List.take_append, List.take_append]
        simp only [List.length_append, List.length_take, Array.length_toList, husl]
        rw [Nat.min_eq_left (by omega : p * s ≤ cur.size), List.take_take, Nat.min_eq_right (by omega : p * s ≤ es.length * s), List.take_of_length_le (l := us) (by omega)]
        try (congr 2; omega)
      refine ⟨hf.below.trans ⟨rfl, rfl, rfl, by simp, fun q hq => setRow_other w g q _ (by omega)⟩, fun d hd => ?_, ?_⟩
      · rcases List.mem_cons.1 hd with rfl | hd
        · refine ⟨⟨?_, .inr ⟨g, cap, _, by rw [hcl], hB, setRow_heap w g cur _ e _ hg, by rw [hcl]; exact hle, hcm, by rw [List.size_toArray, hnewlen, hsz], ?_⟩⟩, hcgood⟩
          · rw [cm (fun e he => (hcgood e he).1)]
          · rw [hcf, List.toList_toArray, hcl]
        · have hd' := hf.ok d (List.mem_cons_of_mem _ hd)
          refine Ch.ok_of hd' fun q hq => setRow_other w g q _ ?_
          have := (List.pairwise_cons.1 hf.ap).1 d hd g rfl
          rintro rfl
          exact this hq
      · have := List.pairwise_cons.1 hf.ap
        exact List.pairwise_cons.2 ⟨fun d hd q hq => this.1 d hd q hq, this.2⟩
theorem og_copy0 {x y : Operand} {t e : TypeId} {s bs : Nat} {zs : List Value} [hT : TySlice P t e] [hI : TyInfo P e s zs bs] {F : List Ch} {v dst src : Value} {es es2 : List (List Value)} (p : Nat)
    (hx : opv fr x = some dst) (hy : opv fr y = some src) (hH : H = .row v e s es :: F) (hd : (dst = v ∧ p = 0) ∨ dst = subV v s p es.length) (hp : p < es.length) (h2 : ∀ w, HeapOk w0 w H → Rd w src s es2) :
    OpG P n w0 fr H (.call ⟨.builtin .copy, #[x, y], #[t, t]⟩) Triv (fun _ : Unit => .int .i64 (min es2.length (es.length - p) : Nat)) (fun _ => .row v e s (copyM es es2 p) :: F) := by
  subst hH; exact og_copy 0 p hx hy rfl hd hp h2
theorem og_copy1 {x y : Operand} {t e : TypeId} {s bs : Nat} {zs : List Value} [hT : TySlice P t e] [hI : TyInfo P e s zs bs] {a1 : Ch} {F : List Ch} {v dst src : Value} {es es2 : List (List Value)} (p : Nat)
    (hx : opv fr x = some dst) (hy : opv fr y = some src) (hH : H = a1 :: .row v e s es :: F) (hd : (dst = v ∧ p = 0) ∨ dst = subV v s p es.length) (hp : p < es.length) (h2 : ∀ w, HeapOk w0 w H → Rd w src s es2) :
    OpG P n w0 fr H (.call ⟨.builtin .copy, #[x, y], #[t, t]⟩) Triv (fun _ : Unit => .int .i64 (min es2.length (es.length - p) : Nat)) (fun _ => a1 :: .row v e s (copyM es es2 p) :: F) := by
  subst hH; exact og_copy 1 p hx hy rfl hd hp h2
theorem GS.o1 {HC : List Ch} {Q : Exit → Act → World → Prop} {ops : Array Oper} {ls : List Nat} {f d : Nat} {listed : Array Bool} {o : Op} {T : TypeId} {pos : String} {af : Array Edge} (i : Nat) {X : Type} {φ : X → Prop} {val : X → Value} {H' : X → List Ch} (hB : onlyL ops listed i = true) (hL : ls.contains i = true) (hi : ops[i]? = some ⟨some d, o, T, pos, af, none⟩)
    (ho : OpG P n w0 fr H o φ val H') (hd : Nat.ble (d + 1) n = true) (hH : ∀ x w, HeapOk w0 w (H' x) → HeapOk w0 w HC) (h : ∀ x, φ x → GS P ops Q ls n w0 HC f (listed.setIfInBounds i true) ((d, val x) :: fr) (H' x)) : GS P ops Q ls n w0 HC (f + 1) listed fr H := by
  intro a w hra hh
  have hr : Region.ready .any ops listed = [i] := by simpa [onlyL] using hB
  refine wpS_all hr (by simp) fun w1 he j hj => ?_
  simp only [List.mem_singleton] at hj
  subst hj
  unfold okOp
  simp only [hi, Region.wanted, if_true]
  exact ho a w1 hra (hh.ext he) _ _ _ _ _ _ fun x w' hx hw => ⟨fun h => (by rw [hL] at h; cases h), fun _ => hH x w' hw, h x hx _ _ (hra.put (Nat.le_of_ble_eq_true hd) _) hw⟩
end
end Go.Proofs.YtglpgohilfoecaaGreat

/-
  A slice that is repeated; the units of an order.
-/
namespace Go.Proofs.YtglpgohilfoecaaGreat
open Go.RowKit
attribute [local irreducible] Go.wpList Go.Code.wp Go.Exit.then Go.Exit.inBlock Go.bodyPost Go.Calls pE pB G RunsV FnV Fn FnM
set_option maxRecDepth 100000
set_option maxHeartbeats 4000000
theorem small13 {c : Nat} (h : c ≤ 12) : c = 0 ∨ c = 1 ∨ c = 2 ∨ c = 3 ∨ c = 4 ∨ c = 5 ∨ c = 6 ∨ c = 7 ∨ c = 8 ∨ c = 9 ∨ c = 10 ∨ c = 11 ∨ c = 12 := by omega
theorem mul64_any {c : Nat} (w : World) (h : c ≤ 12) : FnV Tryz.prog 205 [.int .u64 1, .int .u64 (c : Int)] w (.tuple #[.int .u64 0, .int .u64 (c : Int)]) := by
  refine FnV.of (n := 51) Tryz.func205 rfl rfl ?_; refine G.seq (G.region (G.v (bb rfl) rfl (G.v (bb rfl) rfl (G.I (G.E (G.seq (G.region (G.v (ba rfl) rfl ?_)))))))); refine G.v (rv_and rfl rfl) rfl ?_; refine G.v (bb rfl) rfl (G.I (G.E (G.seq (G.region (G.v (ba rfl) rfl ?_))))); refine G.v (dz rfl rfl (by omega)) rfl ?_; refine G.v (bb rfl) rfl (G.I (G.E (G.seq (G.region (G.v (ba rfl) rfl ?_))))); refine G.v (rv_and rfl rfl) rfl ?_; refine G.v (bb rfl) rfl (G.I (G.E (G.seq (G.region (G.v (ba rfl) rfl ?_))))); refine G.v (dz rfl rfl (by omega)) rfl ?_; refine G.v (bb rfl) rfl (G.I (G.E (G.seq (G.region (G.v (ba rfl) rfl (G.v (ba rfl) rfl ?_)))))); refine G.v (dy rfl rfl) rfl ?_; refine G.v (bb rfl) rfl (G.I (G.E (G.seq (G.region (G.v (ba rfl) rfl (G.v (ba rfl) rfl ?_)))))); refine G.v (dy rfl rfl) rfl ?_; refine G.v (ba rfl) rfl ?_; refine G.v (dz rfl rfl (by omega)) rfl ?_; refine G.v (df rfl rfl) rfl ?_; refine G.v (bb rfl) rfl (G.I (G.E (G.seq ?_)))
  refine G.region (G.v (ba rfl) rfl ?_); refine G.v (rv_and rfl rfl) rfl ?_; refine G.v (bb rfl) rfl (G.I (G.E (G.seq (G.region (G.v (ba rfl) rfl ?_))))); refine G.v (dz rfl rfl (by omega)) rfl ?_; refine G.v (bb rfl) rfl (G.I (G.E (G.seq (G.region (G.v (ba rfl) rfl (G.v (ba rfl) rfl (G.v (ba rfl) rfl ?_))))))); refine G.v (dy rfl rfl) rfl ?_; refine G.v (df rfl rfl) rfl ?_; refine G.v (bb rfl) rfl (G.I (G.E (G.seq (G.region (G.v (ba rfl) rfl (G.v (ba rfl) rfl ?_)))))); refine G.v (dy rfl rfl) rfl ?_; refine G.v (ba rfl) rfl ?_; refine G.v (df rfl rfl) rfl ?_; refine G.v (ba rfl) rfl ?_; refine G.v (dz rfl rfl (by omega)) rfl ?_; refine G.v (df rfl rfl) rfl ?_; refine G.v (bb rfl) rfl (G.I (G.E (G.seq (G.region (G.v (ba rfl) rfl (G.v (ba rfl) rfl ?_)))))); refine G.v (dy rfl rfl) rfl ?_; refine G.v (bb rfl) rfl (G.I (G.E (G.ret ?_))); refine G.bI rfl (.cons (.tmp rfl) (.cons (.tmp rfl) .nil)) ?_; rcases small13 h with rfl | rfl | rfl | rfl | rfl | rfl | rfl | rfl | rfl | rfl | rfl | rfl | rfl <;> rfl
theorem bitsMul_any {c : Nat} (w : World) (h : c ≤ 12) : FnV Tryz.prog 144 [.int .u64 1, .int .u64 (c : Int)] w (.tuple #[.int .u64 0, .int .u64 (c : Int)]) := by
  refine FnV.of (n := 30) Tryz.func144 rfl rfl ?_; refine G.seq (G.region (G.v (bb rfl) rfl (G.v (bb rfl) rfl (G.I (G.E (G.seq ?_)))))); refine G.cond rfl (fun hc => ?_) (fun hc => ?_)
  exact Bool.noConfusion hc
  refine G.skip (G.E (G.seq (G.region (G.v (ba rfl) rfl (G.v (ba rfl) rfl ?_))))); refine G.op (bh rfl rfl (fun w hh => mul64_any w h)) rfl (fun _ _ => ?_); refine G.v (ba rfl) rfl (G.v (bC rfl rfl) rfl (G.v (bC rfl rfl) rfl (G.v (bb rfl) rfl (G.v (bb rfl) rfl (G.I (G.E (G.seq (G.region (G.v (ba rfl) rfl (G.v (ba rfl) rfl (G.v (bb rfl) rfl ?_))))))))))); refine G.v (bb rfl) rfl (G.I (G.E (G.ret ?_)))
  exact G.bI rfl (.cons (.tmp rfl) (.cons (.tmp rfl) .nil)) rfl
def repRow (z : Int) (c k : Nat) : List (List Value) := List.replicate k [.int .i64 z] ++ List.replicate (c - k) [.int .i64 0]
theorem repRow_len {z : Int} {c k : Nat} (h : k ≤ c) : (repRow z c k).length = c := by simp [repRow]; omega
theorem rep_first {z : Int} {c : Nat} (h : 1 ≤ c) : copyM (List.replicate c [Value.int .i64 0]) [[.int .i64 z]] 0 = repRow z c 1 := by
  have h1 : min 1 c = 1 := by omega
  simp only [copyM, repRow, List.take_zero, List.length_replicate, Nat.sub_zero, List.length_cons, List.length_nil, List.nil_append, Nat.zero_add, List.drop_replicate, h1, List.replicate_one]
  rw [List.take_of_length_le (by simp; omega)]
theorem rep_next {z : Int} {c k : Nat} (h : k < c) : copyM (repRow z c k) ((repRow z c k).take k) k = repRow z c (k + min k (c - k)) := by
  have hl := repRow_len (z := z) (Nat.le_of_lt h)
  have ht : (repRow z c k).take k = List.replicate k [.int .i64 z] := by simp [repRow, List.take_append]
  have hd : (repRow z c k).drop (k + min k (c - k)) = List.replicate (c - (k + min k (c - k))) [.int .i64 0] := by
    simp only [repRow, List.drop_append, List.drop_replicate, List.length_replicate]
    rw [show k - (k + min k (c - k)) = 0 by omega, show c - k - (k + min k (c - k) - k) = c - (k + min k (c - k)) by omega]; simp
  rw [copyM, hl, ht, List.length_replicate, hd, List.take_replicate, repRow]
  congr 1
  rw [List.replicate_append_replicate]; congr 1; omega
theorem rep_one {z : Int} {c : Nat} (h : 1 ≤ c) : min ([[Value.int .i64 z]] : List (List Value)).length ((List.replicate c [Value.int .i64 0]).length - 0) = 1 := by simp; omega
theorem rep_all {z : Int} {c : Nat} : repRow z c c = List.replicate c [.int .i64 z] := by simp [repRow]
theorem repeat_any {x : Value} {z : Int} {c : Nat} (w : World) (h : Rd w x 1 [[.int .i64 z]]) (h1 : 1 ≤ c) (h2 : c ≤ 12) : Fn Tryz.prog 80 [x, .int .i64 (c : Int)] w (fun v : Value => v.oneCell' = true) (fun v => v) (fun v => [.row v 3 1 (List.replicate c [.int .i64 z])]) := by
  refine Fn.of (n := 48) Tryz.func80 rfl rfl ?_; refine G.seq (G.region (G.v (bb rfl) rfl (G.I (G.E (G.seq (G.seq (G.region (G.v (ba rfl) rfl (G.v (br rfl rfl) rfl (G.I (G.E ?_))))))))))); refine G.cond rfl (fun hc => ?_) (fun hc => ?_)
  exact Bool.noConfusion hc
  · replace hc := of_decide_eq_false hc
    refine G.skip (G.E (G.seq (G.region (G.v (ba rfl) rfl ?_)))); refine G.v (bz rfl (by first | exact Rd.stays (by assumption) | exact Rd.ba 0 rfl | exact Rd.ba 1 rfl)) rfl ?_; refine G.v (rv_convS rfl (by simp) (by simp)) rfl ?_; refine G.v (ba rfl) rfl ?_; refine G.v (rv_convS rfl (by omega) (by omega)) rfl ?_; refine G.op (bh rfl rfl (fun w hh => bitsMul_any w h2)) rfl (fun _ _ => ?_); refine G.v (ba rfl) rfl (G.v (bC rfl rfl) rfl (G.v (bC rfl rfl) rfl (G.v (bb rfl) rfl (G.v (bb rfl) rfl (G.I (G.E (G.seq (G.seq (G.region (G.v (ba rfl) rfl (G.v (b6 rfl rfl) rfl ?_))))))))))); refine G.v (ba rfl) rfl ?_
    (with_reducible refine G.gP rfl rfl (fun hg => ?_) (fun hg => ?_)) <;> (try exact Bool.noConfusion hg) <;> (try (exfalso; first | (have hq := of_decide_eq_true hg; omega); done)) <;> (first | (refine G.gY rfl rfl ?_; refine G.v (ba rfl) rfl ?_) | refine G.gN rfl rfl rfl ?_ | refine G.gU rfl rfl rfl ?_)
    first | (refine G.gY rfl rfl ?_; refine G.v (b6 rfl rfl) rfl ?_) | refine G.gN rfl rfl rfl ?_ | refine G.gU rfl rfl rfl ?_
    first | refine G.v (bk rfl rfl) rfl ?_ | refine G.v (bm rfl rfl) rfl ?_
    refine G.I (G.E ?_); refine G.bd rfl (fun hc => ?_) (fun hc => ?_)
    exfalso; first | contradiction | omega
    refine G.skip (G.E (G.seq (G.region (G.v (ba rfl) rfl ?_)))); refine G.v (rv_convS rfl (by omega) (by omega)) rfl ?_; refine G.op (og_make rfl rfl rfl rfl rfl (by first | omega | (simp; omega)) (by first | omega | (simp; omega))) rfl (fun v _ => ?_); refine G.v (bb rfl) rfl (G.I (G.E (G.seq (G.region (G.v (ba rfl) rfl (G.v (ba rfl) rfl ?_))))))
    first | refine G.op (og_copy0 (0) rfl rfl rfl (by first | exact .inl ⟨rfl, rfl⟩ | exact .inr rfl) (by first | omega | (simp; omega)) (by first | exact Rd.stays (by assumption) | exact Rd.ba 0 rfl | exact Rd.ba 1 rfl)) rfl (fun _ _ => ?_) | refine G.op (og_copy1 (0) rfl rfl rfl (by first | exact .inl ⟨rfl, rfl⟩ | exact .inr rfl) (by first | omega | (simp; omega)) (by first | exact Rd.stays (by assumption) | exact Rd.ba 0 rfl | exact Rd.ba 1 rfl)) rfl (fun _ _ => ?_)
    refine G.v (bb rfl) rfl (G.I (G.E (G.seq (G.block ?_)))); refine G.bo (repRow z c 1) (rep_first h1) rfl ?_; refine G.Y (ι := Nat) (ks := [7]) (fun k => [(8, .int .i64 (k : Int))]) (fun k => [.row v 3 1 (repRow z c k)]) (fun k => 1 ≤ k ∧ k ≤ c) (fun k => c - k) 1 (.cons rfl (.nil)) rfl ?_ ?_ ?_
    exact ⟨Nat.le_refl _, h1⟩
    exact ⟨congrArg (fun q : Nat => some (Value.int .i64 (q : Int))) (rep_one h1), trivial⟩
    rintro k ⟨hk1, hkc⟩
    have hrl := repRow_len (z := z) hkc
    have hrt : ((repRow z c k).take k).length = k := by rw [List.length_take]; omega
    refine G.seq (G.seq (G.region (G.v (ba rfl) rfl (G.v (ba rfl) rfl ?_)))); refine G.v (bz rfl (by first | exact Rd.stays (by assumption) | exact Rd.ba 0 rfl | exact Rd.ba 1 rfl)) rfl ?_; refine G.v (br rfl rfl) rfl (G.I (G.E ?_)); refine G.bd rfl (fun hc => ?_) (fun hc => ?_); refine G.skip (G.E (G.block ?_)); refine G.drawS [7] rfl ?_; refine GS.p 0 rfl (by as_aux_lemma => kernel_rfl) (bc (ba rfl)) (fun _ h => h.drop 1) rfl ?_; refine GS.p 1 rfl (by as_aux_lemma => kernel_rfl) (bc (ba rfl)) (fun _ h => h.drop 1) rfl ?_; refine GS.p 2 rfl (by as_aux_lemma => kernel_rfl) (bc (ba rfl)) (fun _ h => h.drop 1) rfl ?_; refine GS.q 3 [7, 8, 9] rfl (by as_aux_lemma => kernel_rfl) (by as_aux_lemma => kernel_rfl) (bc (dq rfl rfl (by first | exact Rd.stays (by assumption) | exact Rd.ba 0 rfl | exact Rd.ba 1 rfl) (by omega))) rfl ?_; refine GS.p 4 rfl (by as_aux_lemma => kernel_rfl) (bc (ba rfl)) (fun _ h => h.drop 1) rfl ?_; refine GS.p 5 rfl (by as_aux_lemma => kernel_rfl) (bc (ba rfl)) (fun _ h => h.drop 1) rfl ?_; refine GS.q 6 [7, 8, 9] rfl (by as_aux_lemma => kernel_rfl) (by as_aux_lemma => kernel_rfl) (bc (dp rfl rfl (by first | exact Rd.stays (by assumption) | exact Rd.ba 0 rfl | exact Rd.ba 1 rfl) (by omega))) rfl ?_
    refine GS.o1 7 (by as_aux_lemma => kernel_rfl) rfl rfl (og_copy0 (k) rfl rfl rfl (by first | exact .inl ⟨rfl, rfl⟩ | exact .inr rfl) (by first | omega | (simp; omega)) (fun w hw => by have q := (Rd.ba 0 rfl w hw).sub (l := 0) (k := k) (Nat.zero_le _) (by omega); rw [List.drop_zero, Nat.sub_zero] at q; exact q)) rfl (fun _ _ h => h.drop 1) (fun _ _ => ?_)
    first | refine GS.p 8 rfl (by as_aux_lemma => kernel_rfl) (bc (bp rfl rfl (by omega))) (fun _ h => h.drop 1) rfl ?_ | refine GS.p 8 rfl (by as_aux_lemma => kernel_rfl) (bc (cH rfl rfl (by omega))) (fun _ h => h.drop 1) rfl ?_
    refine GS.p 9 rfl (by as_aux_lemma => kernel_rfl) (bc (bb rfl)) (fun _ h => h.drop 1) rfl ?_; refine GS.done (by as_aux_lemma => kernel_rfl) ?_; refine G.bc ?_
    first | refine G.V (k + min k (c - k)) 0 (congrArg (fun y => [Ch.row v 3 1 y]) (rep_next (by omega))) (.cons rfl (.nil)) ?_ ?_ ?_ | refine G.V (k + min k (c - k)) 1 (congrArg (fun y => [Ch.row v 3 1 y]) (rep_next (by omega))) (.cons rfl (.nil)) ?_ ?_ ?_
    exact ⟨congrArg (fun q : Nat => some (Value.int .i64 ((k + q : Nat) : Int))) (by rw [hrt, hrl]), trivial⟩
    exact ⟨by omega, by omega⟩
    omega
    refine G.exit (G.L (G.L (G.bn (G.E (G.seq (G.region (G.v (ba rfl) rfl (G.v (bb rfl) rfl (G.I (G.E (G.ret ?_))))))))))); refine G.know (fun w hw => (Rd.ba 0 rfl w hw).one_) (fun hone => G.bg v hone rfl rfl rfl (fun w hw => by rw [show k = c by omega, rep_all] at hw; exact hw))
def unitsU (l : List ItemM) : List Nat := l.zipIdx.flatMap fun p => List.replicate p.1.cnt.toNat p.2
theorem units_next {l : List ItemM} {k : Nat} {b : ItemM} (hb : l[k]? = some b) : unitsU (l.take (k + 1)) = unitsU (l.take k) ++ List.replicate b.cnt.toNat k := by
  have hk := (List.getElem?_eq_some_iff.1 hb).1
  simp only [unitsU, List.take_add_one, hb, Option.toList_some, List.zipIdx_append, List.flatMap_append, List.length_take]
  rw [Nat.min_eq_left (by omega)]; simp
theorem dr {l : List ItemM} (h : l.all itemOkM = true) : ∀ k, k ≤ l.length → (unitsU (l.take k)).length ≤ 6 * k
  | 0, _ => by simp [unitsU]
  | k + 1, hk => by
    obtain ⟨b, hb⟩ := bn (l := l) (k := k) (by omega)
    have h1 := dr h k (by omega)
    have h2 := dZ (List.all_eq_true.1 h b (List.mem_of_getElem? hb))
    rw [units_next hb, List.length_append, List.length_replicate]; omega
theorem units_lt {l : List ItemM} : ∀ k, k ≤ l.length → ∀ x ∈ unitsU (l.take k), x < k
  | 0, _ => by simp [unitsU]
  | k + 1, hk => by
    obtain ⟨b, hb⟩ := bn (l := l) (k := k) (by omega)
    have h1 := units_lt (l := l) k (by omega)
    rw [units_next hb]
    intro x hx
    rcases List.mem_append.1 hx with hx | hx
    · have := h1 x hx; omega
    · have := (List.mem_replicate.1 hx).2; omega
def unitsM (r : ReqM) : List Nat := if classM r = 0 then unitsU r.items else []
theorem dD {r : ReqM} (h : ¬ classM r = 0) : unitsM r = [] := by rw [unitsM, if_neg h]
theorem cw {r : ReqM} (h : classM r = 0) : unitsM r = unitsU r.items := by rw [unitsM, if_pos h]
theorem c6 (r : ReqM) : (unitsM r).length ≤ 48 := by
  by_cases h : classM r = 0
  · rw [cw h]
    have hb := bR h
    have := dr (b9 hb) r.items.length (Nat.le_refl _)
    rw [List.take_of_length_le (Nat.le_refl _)] at this
    have := (cr hb).1
    omega
  · rw [dD h]; simp
theorem unitsM_lt {r : ReqM} : ∀ x ∈ unitsM r, x < r.items.length := by
  intro x hx
  by_cases h : classM r = 0
  · rw [cw h] at hx
    have := units_lt (l := r.items) r.items.length (Nat.le_refl _)
    rw [List.take_of_length_le (Nat.le_refl _)] at this
    exact this x hx
  · rw [dD h] at hx; simp at hx
theorem units_snoc {l : List ItemM} {k : Nat} {b : ItemM} {c : Nat} (hb : l[k]? = some b) (hc : b.cnt = c) : (unitsU (l.take k)).map ncell ++ List.replicate c [Value.int .i64 (k : Int)] = (unitsU (l.take (k + 1))).map ncell := by
  rw [units_next hb, List.map_append, List.map_replicate, hc, Int.toNat_natCast]; rfl
theorem units_any {r : ReqM} {pv tv iv : Value} (w : World) (h : Rd w pv 2 (r.pairs.map PairM.cells)) (h2 : Rd w tv 7 (r.types.map TypeM.cells)) (h3 : Rd w iv 7 (r.items.map ItemM.cells)) :
    Fn Tryz.prog 25 [.agg (r.cells pv tv iv).toArray] w (fun v : Value => v.oneCell' = true) (fun v => v) (fun v => [.row v 3 1 ((unitsM r).map ncell)]) := by
  have hle3 := h3.le_map
  refine Fn.of (n := 27) Tryz.func25 rfl rfl ?_; refine G.seq (G.region ?_); refine G.op (bE rfl rfl) rfl (fun bk1 _ => ?_); refine G.v (bb rfl) rfl (G.I (G.E (G.seq (G.seq (G.region (G.v (bj 0 rfl rfl rfl) rfl ?_)))))); refine G.op (bh rfl rfl (fun w hh => dc (r := r) w (Rd.stays h _ hh) (Rd.stays h2 _ hh) (Rd.stays h3 _ hh))) rfl (fun _ _ => ?_); refine G.v (bF rfl) rfl (G.I (G.E ?_)); refine G.cond rfl (fun hc => ?_) (fun hc => ?_); refine G.seq (G.region (G.v (bb rfl) rfl (G.I (G.E (G.ret (G.O ?_))))))
  exact G.bg (.slice none 0 0) rfl rfl rfl rfl (fun w hw => by rw [dD (by exact of_decide_eq_false (by simpa using hc))]; exact (hw.none).nilRow _ _)
  · refine G.skip ?_
    refine G.E (G.seq (G.region ?_)); refine G.op (bq rfl .nil rfl rfl rfl rfl rfl rfl) rfl (fun vl _ => ?_); refine G.v (bb rfl) rfl (G.I (G.E (G.seq (G.seq (G.region (G.v (be rfl) rfl (G.v (bf 1 rfl rfl rfl) rfl ?_))))))); refine G.v (bz rfl (by exact Rd.stays (by assumption))) rfl ?_; refine G.v (ba rfl) rfl (G.I (G.E (G.block ?_)))
    have hcl : classM r = 0 := (by exact of_decide_eq_true (by simpa using hc))
    have hit := b9 (bR hcl)
    have h8 := (cr (bR hcl)).1
    refine G.Y (ι := Nat × Value) (ks := [11, 12]) (fun x => [(3, x.2), (13, .int .i64 (x.1 : Int))]) (fun x => [.row x.2 3 1 ((unitsU (r.items.take x.1)).map ncell)]) (fun x => x.1 ≤ r.items.length) (fun x => r.items.length - x.1) (0, vl) (.cons rfl (.cons rfl (.nil))) rfl ?_ ?_ ?_
    exact Nat.zero_le _
    exact ⟨rfl, rfl, trivial⟩
    rintro ⟨k, v⟩ hk
    dsimp only at hk ⊢
    have hul : ((unitsU (r.items.take k)).map ncell).length ≤ 6 * k := (by rw [List.length_map]; exact dr hit k hk)
    have hul2 := dr hit k hk
    by_cases hlt : k < r.items.length
    case' pos => (obtain ⟨b, hb⟩ := bn hlt; have he := bt hb ItemM.cells; have hbc := dZ (List.all_eq_true.1 hit b (List.mem_of_getElem? hb)); obtain ⟨c, hcc⟩ : ∃ c : Nat, b.cnt = c := ⟨b.cnt.toNat, by omega⟩)
    all_goals
     refine G.seq (G.region (G.v (br rfl rfl) rfl (G.I (G.E (G.seq ?_))))); refine G.cond rfl (fun hc => ?_) (fun hc => ?_)
     · all_goals
        replace hc := of_decide_eq_true hc
        simp only [List.length_map] at hc
        try (exfalso; omega)
        all_goals
         refine G.skip (G.E (G.seq (G.block (G.seq (G.region (G.v (ba rfl) rfl ?_)))))); refine G.v (bg rfl rfl (by exact Rd.stays (by assumption)) rfl (by assumption)) rfl ?_; refine G.v (bN rfl (by exact Rd.stays (by assumption)) (by assumption) rfl) rfl ?_; refine G.op (bu) rfl (fun bk5 _ => ?_); refine G.v (bb rfl) rfl ?_; refine G.bk (bL rfl rfl rfl rfl rfl rfl (.zero (.cons (.cons (.cons (.cons (.cons (.cons (.cons .nil))))))))) (fun _ _ => ?_); refine G.I (G.E (G.region (G.v (ba rfl) rfl (G.v (ba rfl) rfl ?_)))); refine G.op (bq rfl (.cons rfl .nil) rfl rfl rfl rfl rfl rfl) rfl (fun vl _ => ?_); refine G.v (be rfl) rfl (G.v (bf 1 rfl rfl rfl) rfl ?_); refine G.op (bH rfl rfl (fun w hh => by rw [hcc]; exact repeat_any (z := (k : Int)) w (by exact Rd.ba 0 rfl _ hh) (by omega) (by omega))) rfl ?_; rintro vr hvr; try dsimp only
         refine G.op (dt rfl rfl rfl (by exact Rd.ba 0 rfl) rfl rfl (by (simp; omega)) (by (simp; omega))) rfl (fun va _ => ?_); refine G.v (bb rfl) rfl (G.I (G.bc (G.E (G.region ?_)))); refine G.v (bp rfl rfl (by omega)) rfl ?_; refine G.v (ba rfl) rfl (G.I ?_); refine G.V (k + 1, va) 3 (bV (congrArg (fun z => Ch.row va 3 1 z) (units_snoc hb hcc))) (.cons rfl (.cons rfl (.nil))) ?_ ?_ ?_
         exact ⟨rfl, rfl, trivial⟩
         exact hlt
         dsimp only; omega
     · all_goals
        replace hc := of_decide_eq_false hc
        simp only [List.length_map] at hc
        try (exfalso; omega)
        all_goals
         refine G.exit (G.L (G.L (G.bn (G.E (G.seq (G.region (G.v (ba rfl) rfl (G.v (bb rfl) rfl (G.I (G.E (G.ret ?_))))))))))); refine G.know (fun w hw => (Rd.ba 0 rfl w hw).one_) (fun hone => G.bg v hone rfl rfl rfl (fun w hw => by rw [cw hcl]; rw [bZ hlt] at hw; exact hw.sublist (by repeat (first | exact List.Sublist.refl _ | refine List.Sublist.cons_cons _ ?_ | refine List.Sublist.cons _ ?_)))); done
theorem rep_snoc {l : List ItemM} {k j : Nat} : ((unitsU (l.take k)).map ncell ++ List.replicate j [Value.int .i64 (k : Int)]) ++ [[.int .i64 (k : Int)]] = (unitsU (l.take k)).map ncell ++ List.replicate (j + 1) [Value.int .i64 (k : Int)] := by
  rw [List.append_assoc, List.replicate_succ']
theorem cK {r : ReqM} {pv tv iv : Value} (w : World) (hit : r.items.all itemOkM = true) (h8 : r.items.length ≤ 8) (h3 : Rd w iv 7 (r.items.map ItemM.cells)) :
    Fn Tryz.prog 134 [.agg (r.cells pv tv iv).toArray] w (fun v : Value => v.oneCell' = true) (fun v => v) (fun v => [.row v 3 1 ((unitsU r.items).map ncell)]) := by
  have hle3 := h3.le_map
  refine Fn.of (n := 29) Tryz.func134 rfl rfl ?_; refine G.seq (G.region ?_); refine G.op (bE rfl rfl) rfl (fun bk1 _ => ?_); refine G.v (bb rfl) rfl (G.I (G.E (G.seq (G.region ?_)))); refine G.op (bq rfl .nil rfl rfl rfl rfl rfl rfl) rfl (fun vl _ => ?_); refine G.v (bb rfl) rfl (G.I (G.E (G.seq (G.seq (G.region (G.v (bb rfl) rfl (G.I (G.E (G.block ?_))))))))); refine G.Y (ι := Nat × Value) (ks := [1]) (fun x => [(3, x.2), (4, .int .i64 (x.1 : Int))]) (fun x => [.row x.2 3 1 ((unitsU (r.items.take x.1)).map ncell)]) (fun x => x.1 ≤ r.items.length) (fun x => r.items.length - x.1) (0, vl) (.cons rfl (.nil)) rfl ?_ ?_ ?_
  exact Nat.zero_le _
  exact ⟨rfl, rfl, trivial⟩
  rintro ⟨k, v⟩ hk
  dsimp only at hk ⊢
  have hul : ((unitsU (r.items.take k)).map ncell).length ≤ 6 * k := (by rw [List.length_map]; exact dr hit k hk)
  have hul2 := dr hit k hk
  by_cases hlt : k < r.items.length
  case' pos => (obtain ⟨b, hb⟩ := bn hlt; have he := bt hb ItemM.cells; have hbc := dZ (List.all_eq_true.1 hit b (List.mem_of_getElem? hb)); obtain ⟨c, hcc⟩ : ∃ c : Nat, b.cnt = c := ⟨b.cnt.toNat, by omega⟩)
  all_goals
   refine G.seq (G.seq (G.region (G.v (ba rfl) rfl (G.v (be rfl) rfl (G.v (bf 1 rfl rfl rfl) rfl ?_))))); refine G.v (bz rfl (by exact Rd.stays (by assumption))) rfl ?_; refine G.v (br rfl rfl) rfl (G.I (G.E ?_)); refine G.cond rfl (fun hc => ?_) (fun hc => ?_)
   · all_goals
      replace hc := of_decide_eq_true hc
      simp only [List.length_map] at hc
      try (exfalso; omega)
      all_goals
       refine G.skip (G.E (G.seq (G.block (G.seq (G.region (G.v (bb rfl) rfl (G.I (G.E (G.block ?_))))))))); refine G.bo ((unitsU (r.items.take k)).map ncell ++ List.replicate 0 [Value.int .i64 (k : Int)]) (by simp) rfl ?_; refine G.Y (ι := Nat × Value) (ks := [1, 4]) (fun x => [(3, x.2), (5, .int .i64 (x.1 : Int))]) (fun x => [.row x.2 3 1 ((unitsU (r.items.take k)).map ncell ++ List.replicate x.1 [Value.int .i64 (k : Int)])]) (fun x => x.1 ≤ c) (fun x => c - x.1) (0, v) (.cons rfl (.cons rfl (.nil))) rfl ?_ ?_ ?_
       exact Nat.zero_le _
       exact ⟨rfl, rfl, trivial⟩
       rintro ⟨j, v1⟩ hj
       dsimp only at hj ⊢
       have hjl : ((unitsU (r.items.take k)).map ncell ++ List.replicate j [Value.int .i64 (k : Int)]).length ≤ 6 * k + j := (by rw [List.length_append, List.length_replicate]; omega)
       have hul3 := dr hit k hk
       all_goals
        refine G.seq (G.seq (G.region (G.v (ba rfl) rfl (G.v (be rfl) rfl (G.v (bf 1 rfl rfl rfl) rfl (G.v (ba rfl) rfl ?_)))))); refine G.v (bg rfl rfl (by exact Rd.stays (by assumption)) rfl (by assumption)) rfl ?_; refine G.v (bo rfl) rfl ?_; refine G.v (bi rfl (by exact Rd.stays (by assumption)) (by assumption) rfl) rfl ?_; refine G.v (br rfl rfl) rfl (G.I (G.E ?_)); refine G.cond rfl (fun hc => ?_) (fun hc => ?_)
        · all_goals
           replace hc := of_decide_eq_true hc
           all_goals
            refine G.skip (G.E (G.seq (G.block (G.region (G.v (ba rfl) rfl (G.v (ba rfl) rfl ?_)))))); refine G.op (bq rfl (.cons rfl .nil) rfl rfl rfl rfl rfl rfl) rfl (fun vl _ => ?_); refine G.op (bU rfl rfl rfl (by exact Rd.ba 0 rfl) rfl rfl (by (simp; omega)) (by (simp; omega))) rfl (fun va _ => ?_); refine G.v (bb rfl) rfl (G.I (G.bc (G.E (G.region (G.v (ba rfl) rfl ?_))))); refine G.v (bp rfl rfl (by omega)) rfl ?_; refine G.v (bb rfl) rfl (G.I ?_); refine G.V (j + 1, va) 1 (bV (congrArg (fun z => Ch.row va 3 1 z) rep_snoc)) (.cons rfl (.cons rfl (.nil))) ?_ ?_ ?_
            exact ⟨rfl, rfl, trivial⟩
            dsimp only; omega
            dsimp only; omega
        · all_goals
           replace hc := of_decide_eq_false hc
           all_goals
            refine G.exit (G.L (G.L (G.bn (G.bc (G.E (G.region (G.v (ba rfl) rfl ?_))))))); refine G.v (bp rfl rfl (by omega)) rfl ?_; refine G.v (bb rfl) rfl (G.I ?_); refine G.V (k + 1, v1) 0 (bV (congrArg (fun z => Ch.row v1 3 1 z) (by rw [show j = c by omega]; exact units_snoc hb hcc))) (.cons rfl (.nil)) ?_ ?_ ?_
            exact ⟨rfl, rfl, trivial⟩
            exact hlt
            dsimp only; omega
   · all_goals
      replace hc := of_decide_eq_false hc
      simp only [List.length_map] at hc
      try (exfalso; omega)
      all_goals
       refine G.exit (G.L (G.L (G.bn (G.E (G.seq (G.region (G.v (ba rfl) rfl (G.v (bb rfl) rfl (G.I (G.E (G.ret ?_))))))))))); refine G.know (fun w hw => (Rd.ba 0 rfl w hw).one_) (fun hone => G.bg v hone rfl rfl rfl (fun w hw => by rw [bZ hlt] at hw; exact hw.sublist (by repeat (first | exact List.Sublist.refl _ | refine List.Sublist.cons_cons _ ?_ | refine List.Sublist.cons _ ?_))))
theorem sunits_any {r : ReqM} {pv tv iv : Value} (w : World) (h : Rd w pv 2 (r.pairs.map PairM.cells)) (h2 : Rd w tv 7 (r.types.map TypeM.cells)) (h3 : Rd w iv 7 (r.items.map ItemM.cells)) :
    Fn Tryz.prog 208 [.agg (r.cells pv tv iv).toArray] w (fun v : Value => v.oneCell' = true) (fun v => v) (fun v => [.row v 3 1 ((unitsM r).map ncell)]) := by
  refine Fn.of (n := 9) Tryz.func208 rfl rfl ?_; refine G.seq (G.region ?_); refine G.op (bE rfl rfl) rfl (fun bk1 _ => ?_); refine G.v (bb rfl) rfl (G.I (G.E (G.seq (G.seq (G.region (G.v (bj 0 rfl rfl rfl) rfl ?_)))))); refine G.op (bh rfl rfl (fun w hh => cJ (r := r) w (Rd.stays h _ hh) (Rd.stays h2 _ hh) (Rd.stays h3 _ hh))) rfl (fun _ _ => ?_); refine G.v (dk rfl rfl) rfl (G.I (G.E ?_)); refine G.bd rfl (fun hc => ?_) (fun hc => ?_)
  · refine G.seq ?_
    refine G.region ?_; refine G.op (bq rfl .nil rfl rfl rfl rfl rfl rfl) rfl (fun vl _ => ?_); refine G.v (bb rfl) rfl (G.I (G.E (G.ret (G.O ?_)))); refine G.know (fun w hw => (Rd.ba 0 rfl w hw).one_) (fun hone => G.bg vl hone rfl rfl rfl (fun w hw => by rw [dD hc]; exact hw.sublist (by repeat (first | exact List.Sublist.refl _ | refine List.Sublist.cons_cons _ ?_ | refine List.Sublist.cons _ ?_)))); done
  refine G.skip (G.E (G.seq (G.region (G.v (bj 0 rfl rfl rfl) rfl ?_)))); refine G.op (bH rfl rfl (fun w hh => cK (r := r) w (b9 (bR (by omega))) (cr (bR (by omega))).1 (Rd.stays h3 _ hh))) rfl ?_; rintro vu hvu; try dsimp only
  refine G.v (bb rfl) rfl (G.I (G.E (G.ret ?_)))
  exact G.bg vu hvu rfl rfl rfl (fun w hw => by rw [cw (by omega)]; exact hw.sublist (by repeat (first | exact List.Sublist.refl _ | refine List.Sublist.cons_cons _ ?_ | refine List.Sublist.cons _ ?_)))
def itemAt (r : ReqM) (u : Int) : Option ItemM := if 0 ≤ u then ((unitsM r)[u.toNat]?).bind (fun i => r.items[i]?) else none
def itemZ : ItemM := ⟨0, 0, 0, 0, 0, 0, 0⟩
def itemsM (r : ReqM) (us : List Int) : List ItemM := us.filterMap (itemAt r)
def gOf (r : ReqM) (u : Int) : Int := match itemAt r u with | some x => x.g | none => 0
def gramM (r : ReqM) (us : List Int) : Int := (us.map (gOf r)).sum
theorem item_in {r : ReqM} {u : Int} (h : inB u 0 ((((unitsM r).map ncell).length : Int) - 1) = true) : ∃ (m i : Nat) (x : ItemM), u = m ∧ ((unitsM r).map ncell)[m]? = some (ncell i) ∧ (r.items.map ItemM.cells)[i]? = some x.cells ∧ itemAt r u = some x := by
  simp only [inB, Bool.and_eq_true, decide_eq_true_eq, List.length_map] at h
  obtain ⟨m, rfl⟩ : ∃ m : Nat, u = m := ⟨u.toNat, by omega⟩
  obtain ⟨i, hi⟩ := bn (l := unitsM r) (k := m) (by omega)
  obtain ⟨x, hx⟩ := bn (unitsM_lt i (List.mem_of_getElem? hi))
  refine ⟨m, i, x, rfl, bt hi ncell, bt hx ItemM.cells, ?_⟩
  rw [itemAt, if_pos (by omega), Int.toNat_natCast, hi]
  exact hx
theorem item_out {r : ReqM} {u : Int} (h : ¬ inB u 0 ((((unitsM r).map ncell).length : Int) - 1) = true) : itemAt r u = none := by
  rw [itemAt]
  split
  · have : ¬ u.toNat < (unitsM r).length := fun hl => h (by simp only [inB, Bool.and_eq_true, decide_eq_true_eq, List.length_map]; omega)
    rw [List.getElem?_eq_none (by omega)]; rfl
  · rfl
theorem items_yes {r : ReqM} {us : List Int} {k : Nat} {u : Int} {x : ItemM} (hb : us[k]? = some u) (h : itemAt r u = some x) : (itemsM r (us.take k)).map ItemM.cells ++ [x.cells] = (itemsM r (us.take (k + 1))).map ItemM.cells := by
  simp [itemsM, List.take_add_one, hb, List.filterMap_append, h]
theorem items_no {r : ReqM} {us : List Int} {k : Nat} {u : Int} (hb : us[k]? = some u) (h : itemAt r u = none) : (itemsM r (us.take k)).map ItemM.cells = (itemsM r (us.take (k + 1))).map ItemM.cells := by
  simp [itemsM, List.take_add_one, hb, List.filterMap_append, h]
theorem items_len (r : ReqM) (us : List Int) : (itemsM r us).length ≤ us.length := List.length_filterMap_le _ _
theorem item_g {x : ItemM} (h : itemOkM x = true) : 1 ≤ x.g ∧ x.g ≤ 100000 := by
  simp only [itemOkM, Bool.and_eq_true, inB, decide_eq_true_eq] at h
  exact h.1.1.2
theorem itemAt_ok {r : ReqM} {u : Int} {x : ItemM} (h : itemAt r u = some x) : itemOkM x = true := by
  by_cases hc : classM r = 0
  · rw [itemAt] at h
    split at h
    · cases hu : (unitsM r)[u.toNat]? with
      | none => rw [hu] at h; cases h
      | some i => rw [hu] at h; exact List.all_eq_true.1 (b9 (bR hc)) x (List.mem_of_getElem? h)
    · cases h
  · rw [itemAt, dD hc] at h; simp at h
theorem gOf_in (r : ReqM) (u : Int) : 0 ≤ gOf r u ∧ gOf r u ≤ 100000 := by
  unfold gOf
  cases h : itemAt r u with
  | none => simp
  | some x => have := item_g (itemAt_ok h); dsimp only; omega
theorem gram_take {r : ReqM} {us : List Int} {k : Nat} {u : Int} (hb : us[k]? = some u) : gramM r (us.take (k + 1)) = gramM r (us.take k) + gOf r u := by
  simp [gramM, List.take_add_one, hb, List.sum_append]
theorem gram_in (r : ReqM) : ∀ us : List Int, 0 ≤ gramM r us ∧ gramM r us ≤ 100000 * us.length
  | [] => by simp [gramM]
  | u :: us => by
    have h1 := gram_in r us
    have h2 := gOf_in r u
    simp only [gramM, List.map_cons, List.sum_cons, List.length_cons] at *
    omega
def gSum (l : List ItemM) : Int := (l.map ItemM.g).sum
theorem gSum_take {l : List ItemM} {k : Nat} {b : ItemM} (h : l[k]? = some b) : gSum (l.take (k + 1)) = gSum (l.take k) + b.g := by
  simp [gSum, List.take_add_one, h, List.sum_append]
theorem gSum_items (r : ReqM) : ∀ us : List Int, gSum (itemsM r us) = gramM r us
  | [] => rfl
  | u :: us => by
    have h1 := gSum_items r us
    simp only [itemsM, gramM, gSum, List.filterMap_cons, List.map_cons, List.sum_cons] at *
    cases h : itemAt r u with
    | none => simp only [gOf, h]; omega
    | some x => simp only [gOf, h, List.map_cons, List.sum_cons]; omega
theorem gSum_in : ∀ {l : List ItemM}, (∀ x ∈ l, itemOkM x = true) → 0 ≤ gSum l ∧ gSum l ≤ 100000 * l.length
  | [], _ => by simp [gSum]
  | x :: l, h => by
    have h1 := gSum_in (fun y hy => h y (List.mem_cons_of_mem _ hy))
    have h2 := item_g (h x (List.mem_cons_self))
    simp only [gSum, List.map_cons, List.sum_cons, List.length_cons] at *
    omega
theorem items_ok {r : ReqM} {us : List Int} : ∀ x ∈ itemsM r us, itemOkM x = true := by
  intro x hx
  obtain ⟨u, _, hu⟩ := List.mem_filterMap.1 hx
  exact itemAt_ok hu
theorem itemsOf_any {r : ReqM} {pv tv iv uv : Value} {us : List Int} (w : World) (h : Rd w pv 2 (r.pairs.map PairM.cells)) (h2 : Rd w tv 7 (r.types.map TypeM.cells)) (h3 : Rd w iv 7 (r.items.map ItemM.cells)) (h4 : Rd w uv 1 (us.map icell)) (hul : us.length ≤ 1048576) :
    Fn Tryz.prog 88 [.agg (r.cells pv tv iv).toArray, uv] w (fun v : Value => v.oneCell' = true) (fun v => v) (fun v => [.row v 111 7 ((itemsM r us).map ItemM.cells)]) := by
  have hle3 := h3.le_map
  have hul2 : (us.map icell).length = us.length := by simp
  have hun := c6 r
  have hun2 : ((unitsM r).map ncell).length = (unitsM r).length := by simp
  refine Fn.of (n := 36) Tryz.func88 rfl rfl ?_; refine G.seq (G.region ?_); refine G.op (bE rfl rfl) rfl (fun bk2 _ => ?_); refine G.v (bb rfl) rfl (G.I (G.E (G.seq (G.region (G.v (bj 0 rfl rfl rfl) rfl ?_))))); refine G.op (bH rfl rfl (fun w hh => units_any (r := r) w (Rd.stays h _ hh) (Rd.stays h2 _ hh) (Rd.stays h3 _ hh))) rfl ?_; rintro vu hvu; try dsimp only
  refine G.v (bb rfl) rfl (G.I (G.E (G.seq (G.region ?_)))); refine G.op (bq rfl .nil rfl rfl rfl rfl rfl rfl) rfl (fun vl _ => ?_); refine G.v (bb rfl) rfl (G.I (G.E (G.seq (G.seq (G.region (G.v (ba rfl) rfl ?_)))))); refine G.v (bz rfl (by exact Rd.stays (by assumption))) rfl ?_; refine G.v (ba rfl) rfl (G.I (G.E (G.block ?_))); refine G.Y (ι := Nat × Value) (ks := [2, 5, 12, 13]) (fun x => [(6, x.2), (14, .int .i64 (x.1 : Int))]) (fun x => [.row x.2 111 7 ((itemsM r (us.take x.1)).map ItemM.cells)]) (fun x => x.1 ≤ us.length) (fun x => us.length - x.1) (0, vl) (.cons rfl (.cons rfl (.cons rfl (.cons rfl (.nil))))) rfl ?_ ?_ ?_
  exact Nat.zero_le _
  exact ⟨rfl, rfl, trivial⟩
  rintro ⟨k, v⟩ hk
  dsimp only at hk ⊢
  have hil := items_len r (us.take k)
  have hil2 : ((itemsM r (us.take k)).map ItemM.cells).length = (itemsM r (us.take k)).length := by simp
  rw [List.length_take] at hil
  by_cases hlt : k < us.length
  case' pos => (obtain ⟨u, hb⟩ := bn hlt; have e1 := bt hb icell)
  all_goals
   refine G.seq (G.region (G.v (br rfl rfl) rfl (G.I (G.E (G.seq ?_))))); refine G.cond rfl (fun hc => ?_) (fun hc => ?_)
   · all_goals
      replace hc := of_decide_eq_true hc
      try (exfalso; omega)
      all_goals
       refine G.skip (G.E (G.seq (G.block (G.seq (G.region ?_))))); refine G.v (bg rfl rfl (by exact Rd.stays (by assumption)) rfl (by exact e1)) rfl ?_; refine G.v (bi rfl (by exact Rd.stays (by assumption)) (by exact e1) rfl) rfl ?_; refine G.v (bb rfl) rfl (G.I (G.E (G.seq (G.region (G.v (ba rfl) rfl (G.v (ba rfl) rfl ?_)))))); refine G.v (bz rfl (by exact Rd.ba 1 rfl)) rfl ?_; refine G.v (b8 rfl rfl (by omega) (by omega)) rfl ?_; refine G.op (bh rfl rfl (fun w _ => b5 _ _ _ w)) rfl (fun _ _ => ?_); refine G.I (G.E ?_); refine G.cond rfl (fun hc => ?_) (fun hc => ?_)
       · all_goals
          all_goals
           obtain ⟨m, i, x, rfl, e2, e3, hit⟩ := item_in hc
           all_goals
            refine G.bb v rfl ?_; refine G.bG [11] rfl ?_; refine GE.Y 0 rfl (by as_aux_lemma => kernel_rfl) rfl (bc (ba rfl)) (fun _ h => by exact h.drop 1) rfl ?_; refine GE.Y 1 rfl (by as_aux_lemma => kernel_rfl) rfl (bc (be rfl)) (fun _ h => by exact h.drop 1) rfl ?_; refine GE.Y 2 rfl (by as_aux_lemma => kernel_rfl) rfl (bc (bf 1 rfl rfl rfl)) (fun _ h => by exact h.drop 1) rfl ?_; refine GE.Y 3 rfl (by as_aux_lemma => kernel_rfl) rfl (bc (ba rfl)) (fun _ h => by exact h.drop 1) rfl ?_; refine GE.V 4 (by as_aux_lemma => kernel_rfl) rfl rfl (bd (ba rfl)) rfl (fun _ _ h => by exact h.drop 1) (fun _ _ => ?_); refine GE.V 5 (by as_aux_lemma => kernel_rfl) rfl rfl (bd (bg rfl rfl (by exact Rd.ba 1 rfl) rfl (by exact e2))) rfl (fun _ _ h => by exact h.drop 1) (fun _ _ => ?_); refine GE.V 6 (by as_aux_lemma => kernel_rfl) rfl rfl (bd (bi rfl (by exact Rd.ba 1 rfl) (by exact e2) rfl)) rfl (fun _ _ h => by exact h.drop 1) (fun _ _ => ?_); refine GE.V 7 (by as_aux_lemma => kernel_rfl) rfl rfl (bd (bg rfl rfl (by exact Rd.stays (by assumption)) rfl (by exact e3))) rfl (fun _ _ h => by exact h.drop 1) (fun _ _ => ?_); refine GE.V 8 (by as_aux_lemma => kernel_rfl) rfl rfl (bd (bN rfl (by exact Rd.stays (by assumption)) (by exact e3) rfl)) rfl (fun _ _ h => by exact h.drop 1) (fun _ _ => ?_)
            refine GE.V 9 (by as_aux_lemma => kernel_rfl) rfl rfl (bq rfl (.cons rfl .nil) rfl rfl rfl rfl rfl rfl) rfl (fun _ _ h => by exact h.drop 2) (fun vx _ => ?_); refine GE.V 10 (by as_aux_lemma => kernel_rfl) rfl rfl (bU rfl rfl rfl (by exact Rd.ba 0 rfl) rfl rfl (by (simp; omega)) (by (simp; omega))) rfl (fun _ _ h => by exact h.drop 2) (fun va _ => ?_); refine GE.t 11 (by as_aux_lemma => kernel_rfl) rfl rfl rfl (bd (bb rfl)) rfl (fun _ _ => ?_); refine GE.E (by as_aux_lemma => kernel_rfl) ?_; refine G.bc (G.E (G.region ?_)); refine G.v (bp rfl rfl (by omega)) rfl ?_; refine G.v (ba rfl) rfl (G.I ?_); refine G.V (k + 1, va) 1 (by exact bV (congrArg (fun z => Ch.row va 111 7 z) (items_yes hb hit))) (.cons rfl (.cons rfl (.cons rfl (.cons rfl (.nil))))) (⟨rfl, rfl, trivial⟩) ?_ ?_
            exact hlt
            dsimp only; omega
       · all_goals
          all_goals
           have hno := item_out (by simpa using hc)
           all_goals
            refine G.skip (G.bc (G.E (G.region ?_))); refine G.v (bp rfl rfl (by omega)) rfl ?_; refine G.v (ba rfl) rfl (G.I ?_); refine G.V (k + 1, v) 0 (by exact bV (congrArg (fun z => Ch.row v 111 7 z) (items_no hb hno))) (.cons rfl (.cons rfl (.cons rfl (.cons rfl (.nil))))) (⟨rfl, rfl, trivial⟩) ?_ ?_
            exact hlt
            dsimp only; omega
   · all_goals
      replace hc := of_decide_eq_false hc
      try (exfalso; omega)
      all_goals
       refine G.exit (G.L (G.L (G.bn (G.E (G.seq (G.region (G.v (ba rfl) rfl (G.v (bb rfl) rfl (G.I (G.E (G.ret ?_))))))))))); refine G.know (fun w hw => (Rd.ba 0 rfl w hw).one_) (fun hone => G.bg v hone rfl rfl rfl (fun w hw => by rw [bZ (l := us) (by omega)] at hw; exact hw.sublist (by repeat (first | exact List.Sublist.refl _ | refine List.Sublist.cons_cons _ ?_ | refine List.Sublist.cons _ ?_))))
theorem gramOf_any {r : ReqM} {pv tv iv uv : Value} {us : List Int} (w : World) (h : Rd w pv 2 (r.pairs.map PairM.cells)) (h2 : Rd w tv 7 (r.types.map TypeM.cells)) (h3 : Rd w iv 7 (r.items.map ItemM.cells)) (h4 : Rd w uv 1 (us.map icell)) (hul : us.length ≤ 1048576) :
    FnV Tryz.prog 32 [.agg (r.cells pv tv iv).toArray, uv] w (.int .i64 (gramM r us)) := by
  have hil := items_len r us
  have hil2 : ((itemsM r us).map ItemM.cells).length = (itemsM r us).length := by simp
  refine FnV.of (n := 22) Tryz.func32 rfl rfl ?_; refine G.seq (G.region ?_); refine G.op (bE rfl rfl) rfl (fun bk2 _ => ?_); refine G.v (bb rfl) rfl (G.I (G.E (G.seq (G.region (G.v (bb rfl) rfl (G.I (G.E (G.seq (G.seq (G.region (G.v (bj 0 rfl rfl rfl) rfl ?_))))))))))); refine G.v (ba rfl) rfl ?_; refine G.op (bH rfl rfl (fun w hh => itemsOf_any (r := r) (us := us) w (Rd.stays h _ hh) (Rd.stays h2 _ hh) (Rd.stays h3 _ hh) (Rd.stays h4 _ hh) hul)) rfl ?_; rintro vs hvs; try dsimp only
  refine G.v (bz rfl (by exact Rd.ba 0 rfl)) rfl ?_; refine G.v (ba rfl) rfl (G.I (G.E (G.block ?_))); refine G.Y (ι := Nat) (ks := [10, 11]) (fun k => [(5, .int .i64 (gSum ((itemsM r us).take k))), (12, .int .i64 k)]) (fun _ => []) (fun k => k ≤ (itemsM r us).length) (fun k => (itemsM r us).length - k) 0 (.cons rfl (.cons rfl (.nil))) rfl ?_ ?_ ?_
  exact Nat.zero_le _
  exact ⟨rfl, rfl, trivial⟩
  rintro k hk
  have hgi := gSum_in (l := (itemsM r us).take k) (fun x hx => items_ok x (List.mem_of_mem_take hx))
  rw [List.length_take, Nat.min_eq_left hk] at hgi
  by_cases hlt : k < (itemsM r us).length
  case' pos => (obtain ⟨b, hb⟩ := bn hlt; have he := bt hb ItemM.cells; have hbg := item_g (items_ok b (List.mem_of_getElem? hb)); have hgt := gSum_take hb)
  all_goals
   refine G.seq (G.region (G.v (br rfl rfl) rfl (G.I (G.E (G.seq ?_))))); refine G.cond rfl (fun hc => ?_) (fun hc => ?_)
   · all_goals
      replace hc := of_decide_eq_true hc
      try (exfalso; omega)
      all_goals
       refine G.skip (G.E (G.seq (G.block (G.seq (G.region ?_))))); refine G.v (bg rfl rfl (by exact Rd.ba 0 rfl) rfl (by assumption)) rfl ?_; refine G.v (bN rfl (by exact Rd.ba 0 rfl) (by assumption) rfl) rfl ?_; refine G.op (bu) rfl (fun bk7 _ => ?_); refine G.bk (bL rfl rfl rfl rfl rfl rfl (.zero (.cons (.cons (.cons (.cons (.cons (.cons (.cons .nil))))))))) (fun _ _ => ?_); refine G.I (G.E (G.region (G.v (ba rfl) rfl (G.v (be rfl) rfl (G.v (bf 0 rfl rfl rfl) rfl ?_))))); refine G.v (bD rfl rfl (by omega) (by omega)) rfl ?_; refine G.v (bb rfl) rfl (G.I (G.bc (G.E (G.region ?_)))); refine G.v (bp rfl rfl (by omega)) rfl ?_; refine G.v (ba rfl) rfl (G.I ?_); refine G.V (k + 1) 1 rfl (.cons rfl (.cons rfl (.nil))) ?_ ?_ ?_
       exact ⟨congrArg (fun z => some (Value.int .i64 z)) hgt.symm, rfl, trivial⟩
       exact hlt
       omega
   · all_goals
      replace hc := of_decide_eq_false hc
      try (exfalso; omega)
      all_goals
       refine G.exit (G.L (G.L (G.bn (G.E (G.seq (G.region (G.v (ba rfl) rfl (G.v (bb rfl) rfl (G.I (G.E (G.ret ?_)))))))))))
       exact G.U rfl rfl (congrArg (Value.int .i64) (by rw [bZ (by omega)]; exact gSum_items r us))
def itemOr (r : ReqM) (u : Int) : ItemM := (itemAt r u).getD itemZ
theorem itemOr_g (r : ReqM) (u : Int) : (itemOr r u).g = gOf r u := by
  rw [itemOr, gOf]; cases itemAt r u <;> rfl
theorem l6Item_any {r : ReqM} {pv tv iv uv : Value} (u : Int) (w : World) (h3 : Rd w iv 7 (r.items.map ItemM.cells)) (h4 : Rd w uv 1 ((unitsM r).map ncell)) :
    FnV Tryz.prog 196 [.agg (r.cells pv tv iv).toArray, uv, .int .i64 u] w (.tuple #[(itemOr r u).val, .bool (itemAt r u).isSome]) := by
  have hun := c6 r
  have hun2 : ((unitsM r).map ncell).length = (unitsM r).length := by simp
  refine FnV.of (n := 23) Tryz.func196 rfl rfl ?_; refine G.seq (G.region ?_); refine G.op (bE rfl rfl) rfl (fun bk3 _ => ?_); refine G.op (bu) rfl (fun bk6 _ => ?_); refine G.v (bb rfl) rfl (G.I (G.E (G.seq (G.seq (G.region (G.v (ba rfl) rfl (G.v (ba rfl) rfl ?_))))))); refine G.v (bz rfl (by exact Rd.stays (by assumption))) rfl ?_; refine G.v (b8 rfl rfl (by omega) (by omega)) rfl ?_; refine G.op (bh rfl rfl (fun w _ => b7 _ _ _ w)) rfl (fun _ _ => ?_); refine G.v (bF rfl) rfl (G.I (G.E ?_)); refine G.cond rfl (fun hc => ?_) (fun hc => ?_)
  have hno := item_out (r := r) (u := u) (by simpa using hc)
  refine G.seq (G.region ?_); refine G.v (bJ rfl .nil .nil) rfl ?_; refine G.bk (bL rfl rfl rfl rfl rfl rfl (.zero (.cons (.cons (.cons (.cons (.cons (.cons (.cons .nil))))))))) (fun _ _ => ?_); refine G.v (bb rfl) rfl (G.I (G.E (G.ret (G.O ?_))))
  rw [itemOr, hno]; exact G.bI rfl (.cons (by exact .cell 0 rfl rfl rfl) (.cons (.tmp rfl) .nil)) rfl
  obtain ⟨m, i, x, rfl, e2, e3, hit⟩ := item_in (r := r) (u := u) (by simpa using hc)
  refine G.skip (G.E (G.seq ?_)); refine G.ba [8, 9] ?_; refine GE.q 0 rfl (by as_aux_lemma => kernel_rfl) rfl (bc (be rfl)) rfl ?_; refine GE.q 1 rfl (by as_aux_lemma => kernel_rfl) rfl (bc (bf 1 rfl rfl rfl)) rfl ?_; refine GE.q 2 rfl (by as_aux_lemma => kernel_rfl) rfl (bc (ba rfl)) rfl ?_; refine GE.V 3 (by as_aux_lemma => kernel_rfl) rfl rfl (bd (ba rfl)) rfl (fun _ _ h => by exact h) (fun _ _ => ?_); refine GE.V 4 (by as_aux_lemma => kernel_rfl) rfl rfl (bd (bg rfl rfl (by exact Rd.stays (by assumption)) rfl (by exact e2))) rfl (fun _ _ h => by exact h) (fun _ _ => ?_); refine GE.V 5 (by as_aux_lemma => kernel_rfl) rfl rfl (bd (bi rfl (by exact Rd.stays (by assumption)) (by exact e2) rfl)) rfl (fun _ _ h => by exact h) (fun _ _ => ?_); refine GE.V 6 (by as_aux_lemma => kernel_rfl) rfl rfl (bd (bg rfl rfl (by exact Rd.stays (by assumption)) rfl (by exact e3))) rfl (fun _ _ h => by exact h) (fun _ _ => ?_); refine GE.V 7 (by as_aux_lemma => kernel_rfl) rfl rfl (bd (bN rfl (by exact Rd.stays (by assumption)) (by exact e3) rfl)) rfl (fun _ _ h => by exact h) (fun _ _ => ?_); refine GE.U 8 (by as_aux_lemma => kernel_rfl) rfl rfl rfl (bL rfl rfl rfl rfl rfl rfl (.zero (.cons (.cons (.cons (.cons (.cons (.cons (.cons .nil))))))))) (fun _ _ => ?_); refine GE.t 9 (by as_aux_lemma => kernel_rfl) rfl rfl rfl (bd (bb rfl)) rfl (fun _ _ => ?_)
  refine GE.E (by as_aux_lemma => kernel_rfl) ?_; refine G.E (G.ret ?_)
  rw [itemOr, hit]; exact G.bI rfl (.cons (by exact .cell 0 rfl rfl rfl) (.cons (.tmp rfl) .nil)) rfl
theorem sgramOf_any {r : ReqM} {pv tv iv uv : Value} {us : List Int} (w : World) (h : Rd w pv 2 (r.pairs.map PairM.cells)) (h2 : Rd w tv 7 (r.types.map TypeM.cells)) (h3 : Rd w iv 7 (r.items.map ItemM.cells)) (h4 : Rd w uv 1 (us.map icell)) (hul : us.length ≤ 1048576) :
    FnV Tryz.prog 153 [.agg (r.cells pv tv iv).toArray, uv] w (.int .i64 (gramM r us)) := by
  have hul2 : (us.map icell).length = us.length := by simp
  refine FnV.of (n := 33) Tryz.func153 rfl rfl ?_; refine G.seq (G.region ?_); refine G.op (bE rfl rfl) rfl (fun bk2 _ => ?_); refine G.v (bb rfl) rfl (G.I (G.E (G.seq (G.region (G.v (bj 0 rfl rfl rfl) rfl ?_))))); refine G.op (bH rfl rfl (fun w hh => sunits_any (r := r) w (Rd.stays h _ hh) (Rd.stays h2 _ hh) (Rd.stays h3 _ hh))) rfl ?_; rintro vu hvu; try dsimp only
  refine G.v (bb rfl) rfl (G.I (G.E (G.seq (G.region (G.v (bb rfl) rfl (G.I (G.E (G.seq (G.seq (G.region (G.v (bb rfl) rfl ?_))))))))))); refine G.I (G.E (G.block ?_)); refine G.Y (ι := Nat) (ks := [1, 2, 5]) (fun k => [(6, .int .i64 (gramM r (us.take k))), (7, .int .i64 k)]) (fun _ => []) (fun k => k ≤ us.length) (fun k => us.length - k) 0 (.cons rfl (.cons rfl (.cons rfl (.nil)))) rfl ?_ ?_ ?_
  exact Nat.zero_le _
  exact ⟨rfl, rfl, trivial⟩
  rintro k hk
  have hgi := gram_in r (us.take k)
  rw [List.length_take, Nat.min_eq_left hk] at hgi
  by_cases hlt : k < us.length
  case' pos => (obtain ⟨u, hb⟩ := bn hlt; have e1 := bt hb icell; have hbg := gOf_in r u; have hgt := gram_take (r := r) hb; have hog := itemOr_g r u)
  all_goals
   refine G.seq (G.seq (G.region (G.v (ba rfl) rfl (G.v (ba rfl) rfl ?_)))); refine G.v (bz rfl (by exact Rd.stays (by assumption))) rfl ?_; refine G.v (br rfl rfl) rfl (G.I (G.E ?_)); refine G.cond rfl (fun hc => ?_) (fun hc => ?_)
   · all_goals
      replace hc := of_decide_eq_true hc
      try (exfalso; omega)
      all_goals
       refine G.skip (G.E (G.seq (G.block (G.seq ?_)))); refine G.ba [12] ?_; refine GE.q 0 rfl (by as_aux_lemma => kernel_rfl) rfl (bc (bj 1 rfl rfl rfl)) rfl ?_; refine GE.q 1 rfl (by as_aux_lemma => kernel_rfl) rfl (bc (ba rfl)) rfl ?_; refine GE.q 2 rfl (by as_aux_lemma => kernel_rfl) rfl (bc (ba rfl)) rfl ?_; refine GE.q 3 rfl (by as_aux_lemma => kernel_rfl) rfl (bc (ba rfl)) rfl ?_; refine GE.q 4 rfl (by as_aux_lemma => kernel_rfl) rfl (bc (bg rfl rfl (by exact Rd.stays (by assumption)) rfl (by assumption))) rfl ?_; refine GE.q 5 rfl (by as_aux_lemma => kernel_rfl) rfl (bc (bi rfl (by exact Rd.stays (by assumption)) (by assumption) rfl)) rfl ?_; refine GE.q 6 rfl (by as_aux_lemma => kernel_rfl) rfl (cY rfl rfl (fun w hh => l6Item_any (r := r) u w (Rd.stays h3 _ hh) (by exact Rd.ba 0 rfl _ hh))) rfl ?_; refine GE.q 7 rfl (by as_aux_lemma => kernel_rfl) rfl (bc (ba rfl)) rfl ?_; refine GE.q 8 rfl (by as_aux_lemma => kernel_rfl) rfl (bc (bC rfl rfl)) rfl ?_; refine GE.q 9 rfl (by as_aux_lemma => kernel_rfl) rfl (bc (bC rfl rfl)) rfl ?_; refine GE.V 10 (by as_aux_lemma => kernel_rfl) rfl rfl (bu) rfl (fun _ _ h => by exact h.drop 1) (fun bk8 _ => ?_)
       refine GE.ol0 11 (by as_aux_lemma => kernel_rfl) rfl rfl (bL rfl rfl rfl rfl rfl rfl (.zero (.cons (.cons (.cons (.cons (.cons (.cons (.cons .nil))))))))) (fun _ _ h => by exact h.drop 1) (fun _ _ => ?_); refine GE.t 12 (by as_aux_lemma => kernel_rfl) rfl rfl rfl (bd (bb rfl)) rfl (fun _ _ => ?_); refine GE.E (by as_aux_lemma => kernel_rfl) ?_; refine G.E (G.region (G.v (ba rfl) rfl (G.v (be rfl) rfl (G.v (bf 0 rfl rfl rfl) rfl ?_)))); refine G.v (bD rfl rfl (by omega) (by omega)) rfl ?_; refine G.v (bb rfl) rfl (G.I (G.bc (G.E (G.region (G.v (ba rfl) rfl ?_))))); refine G.v (bp rfl rfl (by omega)) rfl ?_; refine G.v (bb rfl) rfl (G.I ?_); refine G.V (k + 1) 1 rfl (.cons rfl (.cons rfl (.cons rfl (.nil)))) ?_ ?_ ?_
       exact ⟨congrArg (fun z => some (Value.int .i64 z)) (by rw [hgt, ← hog]), rfl, trivial⟩
       exact hlt
       omega
   · all_goals
      replace hc := of_decide_eq_false hc
      try (exfalso; omega)
      all_goals
       refine G.exit (G.L (G.L (G.bn (G.E (G.seq (G.region (G.v (ba rfl) rfl (G.v (bb rfl) rfl (G.I (G.E (G.ret ?_)))))))))))
       exact G.U rfl rfl (congrArg (Value.int .i64) (by rw [bZ (by omega)]))
end Go.Proofs.YtglpgohilfoecaaGreat

/-
  The arguments of a law, opened: what can be read as data reads as lists of cells.
-/
namespace Go.Proofs.YtglpgohilfoecaaGreat
open Go.RowKit Go.ChangeShapes Go.WideShapes Go.Deep

section
variable {H : Type} {enc : TypeId × Value → H} {P : Program} {w : World} {base : Nat} {spare : Nat → Bool} {held : Bool}

/-- Every element reads: then the slice reads as a list. -/
theorem open_rdQ {α : Type} (mk : α → List Value) (Q : α → Prop) {s : Nat} {t e : TypeId} {fuel : Nat} {v : Value} {x : DataW H × List MemPlace} (ht : P.underlying t = some (.slice e)) (hC : P.cellsOf e = s) (hs : 0 < s)
    (hel : ∀ n cs y, DataW.trod enc P w base spare held n e cs = some y → ∃ b : α, cs = mk b ∧ Q b) (hg : ∀ b, Q b → (mk b).length = s ∧ ∀ u ∈ mk b, u.oneCell' = true)
    (h : DataW.trod enc P w base spare held fuel t [v] = some x) : ∃ bs : List α, Rd w v s (bs.map mk) ∧ ∀ b ∈ bs, Q b := by
  rcases open_slice ht h with ⟨h0, _⟩ | ⟨a, len, cap, m, n, D, Pl, h0, hb, hl, hm, hmm, hx, hi⟩
  · simp only [List.cons.injEq, and_true] at h0
    subst h0
    exact ⟨[], Rd.nil_ w s, by simp⟩
  · simp only [List.cons.injEq, and_true] at h0
    subst h0
    have hlm : len ≤ m := by rw [hmm]; split <;> omega
    have hb : ∀ i, i < len → ∃ b : α, Q b ∧ ∀ j u, (mk b)[j]? = some u → w.cell? (a.add (i * s + j)) = some u := by
      intro i hil
      obtain ⟨cs', h1, h2⟩ := hi i (by omega)
      obtain ⟨b, rfl, hq⟩ := hel _ _ _ h2
      obtain ⟨_, hcl, hat⟩ := World.cells?_some h1
      rw [hC] at hat
      refine ⟨b, hq, fun j u hj => ?_⟩
      have hjl : j < s := by
        have := (hg b hq).1
        rcases Nat.lt_or_ge j (mk b).length with h | h
        · omega
        · rw [List.getElem?_eq_none h] at hj; cases hj
      have := hat j hjl
      rw [hj] at this
      rw [← Go.Deep.add_add]; exact this
    have hall : ∀ k, k ≤ len → ∃ bs : List α, bs.length = k ∧ (∀ b ∈ bs, Q b) ∧ ∀ i b, bs[i]? = some b → ∀ j u, (mk b)[j]? = some u → w.cell? (a.add (i * s + j)) = some u := by
      intro k
      induction k with
      | zero => intro _; exact ⟨[], rfl, by simp, by simp⟩
      | succ k ih =>
        intro hk
        obtain ⟨bs, hbl, hQ, hbs⟩ := ih (by omega)
        obtain ⟨b, hq, hb'⟩ := hb k (by omega)
        refine ⟨bs ++ [b], by simp [hbl], fun x hx => (by rcases List.mem_append.1 hx with hx | hx; · exact hQ x hx
                                                          · rw [List.mem_singleton.1 hx]; exact hq), fun i b' hib => ?_⟩
        rcases Nat.lt_or_ge i bs.length with hlt | hge
        · rw [List.getElem?_append_left hlt] at hib; exact hbs i b' hib
        · rw [List.getElem?_append_right hge] at hib
          have : i - bs.length = 0 := by
            rcases Nat.eq_zero_or_pos (i - bs.length) with h | h
            · exact h
            · rw [List.getElem?_eq_none (by simp; omega)] at hib; cases hib
          rw [this] at hib
          simp only [List.getElem?_cons_zero, Option.some.injEq] at hib
          subst hib
          have : i = k := by omega
          subst this
          exact hb'
    obtain ⟨bs, hbl, hQ, hbs⟩ := hall len (Nat.le_refl _)
    have hgood : ∀ e ∈ bs.map mk, e.length = s ∧ ∀ u ∈ e, u.oneCell' = true := by
      intro e he
      obtain ⟨b, hbm, rfl⟩ := List.mem_map.1 he
      exact hg b (hQ b hbm)
    have hsp : 0 < len → ∃ b o, a = ⟨b, o, none⟩ := by
      intro hpos
      have hb0 : 0 < bs.length := by omega
      have h0 : bs[0]? = some (bs[0]'hb0) := List.getElem?_eq_getElem hb0
      have hm0 : (mk (bs[0]'hb0))[0]? = some ((mk (bs[0]'hb0))[0]'(by have := (hg (bs[0]'hb0) (hQ _ (List.getElem_mem hb0))).1; omega)) := List.getElem?_eq_getElem _
      have := hbs 0 _ h0 0 _ hm0
      obtain ⟨ab, ao, asp⟩ := a
      cases asp with
      | none => exact ⟨ab, ao, rfl⟩
      | some q =>
        simp [World.cell?, Addr.add] at this
        split at this <;> cases this
    refine ⟨bs, ⟨⟨some a, cap, by simp [hbl], by simpa [hbl] using hl, hm, fun hpos => ?_⟩, hgood, ?_⟩, hQ⟩
    · obtain ⟨b, o, rfl⟩ := hsp (by simpa [hbl] using hpos)
      exact ⟨b, o, rfl⟩
    · intro j u hj
      have hlen := cm (es := bs.map mk) (fun e he => (hgood e he).1)
      have hjl : j < bs.length * s := by
        rcases Nat.lt_or_ge j ((bs.map mk).flatten.length) with h | h
        · rw [hlen] at h; simpa using h
        · rw [List.getElem?_eq_none h] at hj; cases hj
      have hpos : 0 < len := by
        rcases Nat.eq_zero_or_pos bs.length with h | h
        · rw [h] at hjl; omega
        · omega
      obtain ⟨b, o, rfl⟩ := hsp hpos
      have hk : j / s < bs.length := (Nat.div_lt_iff_lt_mul hs).2 hjl
      have hbk : bs[j / s]? = some (bs[j / s]'hk) := List.getElem?_eq_getElem hk
      have hc : j % s < (mk (bs[j / s]'hk)).length := by rw [(hg _ (hQ _ (List.getElem_mem hk))).1]; exact Nat.mod_lt _ hs
      have hck := List.getElem?_eq_getElem hc
      have h1 := hbs _ _ hbk _ _ hck
      have h2 := flatten_get (fun e he => (hgood e he).1) (k := j / s) (by rw [List.getElem?_map, hbk]; rfl) hck
      rw [show j / s * s + j % s = j from by rw [Nat.mul_comm]; exact Nat.div_add_mod j s] at h1 h2
      rw [h2] at hj
      simp only [Option.some.injEq] at hj
      subst hj
      simpa [blkOf, offOf, Addr.add_lit] using h1

theorem open_rd {α : Type} (mk : α → List Value) {s : Nat} {t e : TypeId} {fuel : Nat} {v : Value} {x : DataW H × List MemPlace} (ht : P.underlying t = some (.slice e)) (hC : P.cellsOf e = s) (hs : 0 < s)
    (hel : ∀ n cs y, DataW.trod enc P w base spare held n e cs = some y → ∃ b : α, cs = mk b) (hg : ∀ b, (mk b).length = s ∧ ∀ u ∈ mk b, u.oneCell' = true)
    (h : DataW.trod enc P w base spare held fuel t [v] = some x) : ∃ bs : List α, Rd w v s (bs.map mk) := by
  obtain ⟨bs, hb, _⟩ := open_rdQ mk (fun _ => True) ht hC hs (fun n cs y hy => by obtain ⟨b, hb⟩ := hel n cs y hy; exact ⟨b, hb, trivial⟩) (fun b _ => hg b) h
  exact ⟨bs, hb⟩

section
variable {t ti e t3 : TypeId} {fs : Array Field} {fuel : Nat} {cs : List Value} {x : DataW H × List MemPlace}
end
/-- All fields are int64. -/
def intsB (P : Program) (t : TypeId) (n : Nat) : Bool :=
  match P.underlying t with
  | some (.struct fs) => fs.size == n && oneCellFields P fs && P.cellsOf t == n && fs.toList.all fun f => match P.underlying f.type with | some (.int .i64) => true | _ => false
  | _ => false

theorem open_slv {r : Reach} {b0 : Nat} {t e : TypeId} {v : Value} {d : DataW H} {p : List MemPlace} (hs : P.underlying t = some (.slice e)) (hv : Value.okWide P w r b0 t v) (h : DataW.Trod enc P w base spare held t v d p) :
    ∃ fuel : Nat, DataW.trod enc P w base spare held fuel t [v] = some (d, p) := by
  obtain ⟨a, l, c, rfl⟩ := okWide_slice hs hv
  obtain ⟨fuel, hf⟩ := h
  exact ⟨fuel, hf⟩
end
section
variable {H : Type} {enc : TypeId × Value → H} {P : Program} {w : World} {base : Nat} {spare : Nat → Bool} {held : Bool}
end
end Go.Proofs.YtglpgohilfoecaaGreat

/-
  An order that is marked by numbers that go up.
-/
namespace Go.Proofs.YtglpgohilfoecaaGreat
open Go.RowKit
attribute [local irreducible] Go.wpList Go.Code.wp Go.Exit.then Go.Exit.inBlock Go.bodyPost Go.Calls pE pB G RunsV FnV Fn FnM
set_option maxRecDepth 100000
set_option maxHeartbeats 1000000
def mkPairM (k : Int) (_ : PairM) : PairM := ⟨k, k + 1⟩
def cntPairM (_ : PairM) : Nat := 2
def mkTypeM (k : Int) (_ : TypeM) : TypeM := ⟨k, k + 1, k + 1 + 1, k + 1 + 1 + 1, k + 1 + 1 + 1 + 1, k + 1 + 1 + 1 + 1 + 1, k + 1 + 1 + 1 + 1 + 1 + 1⟩
def cntTypeM (_ : TypeM) : Nat := 7
def mkItemM (k : Int) (_ : ItemM) : ItemM := ⟨k, k + 1, k + 1 + 1, k + 1 + 1 + 1, k + 1 + 1 + 1 + 1, k + 1 + 1 + 1 + 1 + 1, k + 1 + 1 + 1 + 1 + 1 + 1⟩
def cntItemM (_ : ItemM) : Nat := 7
def cntR (r : ReqM) : Nat := cntG cntPairM r.pairs + cntG cntTypeM r.types + cntG cntItemM r.items
def mkR (k : Int) (r : ReqM) : ReqM := { r with pairs := markG mkPairM cntPairM k r.pairs, types := markG mkTypeM cntTypeM (k + cntG cntPairM r.pairs) r.types, items := markG mkItemM cntItemM (k + cntG cntPairM r.pairs + cntG cntTypeM r.types) r.items }
end Go.Proofs.YtglpgohilfoecaaGreat

/-
  What hangs on the program alone, of what is asked of a law's row.
-/
namespace Go.Proofs.YtglpgohilfoecaaGreat
theorem c8 {a b : Bool} (h : a = true) (k : b = true) : (a && b) = true := by rw [h, k]; rfl
theorem pfLaid : laidOutB Tryz.prog = true := by kernel_rfl
theorem pfMaps : mapsRowed Tryz.prog = true := by kernel_rfl
theorem pfStops : (Tryz.prog.stops == []) = true := by kernel_rfl
theorem pfKnobs : (Tryz.prog.stopKnobs == []) = true := by kernel_rfl
theorem pfHeard : Tryz.prog.stopsHeard = true := by kernel_rfl
theorem pfEnter : Tryz.prog.mayEnter = true := by kernel_rfl
theorem pfLift : Tryz.prog.liftsFinal = false := by kernel_rfl
end Go.Proofs.YtglpgohilfoecaaGreat

/-
  Kinds that lie in a group; the kinds that are there.
-/
namespace Go.Proofs.YtglpgohilfoecaaGreat
open Go.RowKit
attribute [local irreducible] Go.wpList Go.Code.wp Go.Exit.then Go.Exit.inBlock Go.bodyPost Go.Calls pE pB G RunsV FnV Fn FnM
set_option maxRecDepth 100000
set_option maxHeartbeats 4000000
def mutM (ps : List PairM) (a b : Int) : Bool := besideM ps a b && besideM ps b a
theorem mutual_any {v : Value} {l : List PairM} (a b : Int) (w : World) (h : Rd w v 2 (l.map PairM.cells)) : FnV Tryz.prog 164 [v, .int .i64 a, .int .i64 b] w (.bool (mutM l a b)) := by
  refine FnV.of (n := 17) Tryz.func164 rfl rfl ?_; refine G.seq (G.region (G.v (bb rfl) rfl (G.I (G.E (G.seq (G.region (G.v (ba rfl) rfl (G.v (ba rfl) rfl (G.v (ba rfl) rfl ?_))))))))); refine G.op (bh rfl rfl (fun w hh => dK _ _ w (Rd.stays h _ hh))) rfl (fun _ _ => ?_); refine G.v (ba rfl) rfl ?_
  (with_reducible refine G.gP rfl rfl (fun hg => ?_) (fun hg => ?_)) <;> (try exact Bool.noConfusion hg) <;> (first | (refine G.gY rfl rfl ?_; refine G.v (ba rfl) rfl ?_) | refine G.gN rfl rfl rfl ?_)
  all_goals ((first | (refine G.gY rfl rfl ?_; refine G.v (ba rfl) rfl ?_) | refine G.gN rfl rfl rfl ?_))
  all_goals ((first | (refine G.gY rfl rfl ?_; refine G.v (ba rfl) rfl ?_) | refine G.gN rfl rfl rfl ?_))
  all_goals ((first | (refine G.gY rfl rfl ?_; refine G.op (bh rfl rfl (fun w hh => dK _ _ w (Rd.stays h _ hh))) rfl (fun _ _ => ?_)) | refine G.gN rfl rfl rfl ?_))
  all_goals ((first | refine G.v (bk rfl rfl) rfl ?_ | refine G.v (bm rfl rfl) rfl ?_))
  all_goals (refine G.v (bb rfl) rfl ?_)
  all_goals
   refine G.I (G.E (G.ret ?_)); refine G.U rfl rfl (congrArg Value.bool ?_); simp_all [mutM]
def hasM (l : List Int) (x : Int) : Bool := l.any fun y => decide (y = x)
theorem l1Has_any {v : Value} {l : List Int} (x : Int) (w : World) (h : Rd w v 1 (l.map icell)) : FnV Tryz.prog 135 [v, .int .i64 x] w (.bool (hasM l x)) := by
  have hle := h.le_map
  refine FnV.of (n := 18) Tryz.func135 rfl rfl ?_; refine G.seq (G.region (G.v (bb rfl) rfl (G.I (G.E (G.seq (G.seq (G.region (G.v (bb rfl) rfl (G.I (G.E (G.block ?_))))))))))); refine G.Y (ι := Nat) (ks := [0, 1]) (fun k => [(5, .int .i64 k)]) (fun _ => []) (fun k => k ≤ l.length ∧ (l.take k).any (fun y => decide (y = x)) = false) (fun k => l.length - k) 0 (.cons rfl (.cons rfl (.nil))) rfl ?_ ?_ ?_
  exact ⟨Nat.zero_le _, rfl⟩
  exact ⟨rfl, trivial⟩
  rintro k ⟨hk, ht⟩
  by_cases hlt : k < l.length
  case' pos => (obtain ⟨b, hb⟩ := bn hlt; have he := bt hb icell)
  all_goals
   refine G.seq (G.seq (G.region (G.v (ba rfl) rfl (G.v (ba rfl) rfl ?_)))); refine G.v (bz rfl (by exact Rd.stays (by assumption))) rfl ?_; refine G.v (br rfl rfl) rfl (G.I (G.E ?_)); refine G.cond rfl (fun hc => ?_) (fun hc => ?_)
   · all_goals
      replace hc := of_decide_eq_true hc
      simp only [List.length_map] at hc
      try (exfalso; omega)
      all_goals
       refine G.skip (G.E (G.seq (G.block (G.seq (G.region (G.v (ba rfl) rfl (G.v (ba rfl) rfl ?_))))))); refine G.v (bg rfl rfl (by exact Rd.stays (by assumption)) rfl (by assumption)) rfl ?_; refine G.v (bi rfl (by exact Rd.stays (by assumption)) (by assumption) rfl) rfl ?_; refine G.v (ba rfl) rfl (G.v (bQ rfl rfl) rfl (G.I (G.E ?_))); refine G.cond rfl (fun hc => ?_) (fun hc => ?_)
       · all_goals
          replace hc := of_decide_eq_true hc
          all_goals
           refine G.seq (G.region (G.v (bb rfl) rfl (G.I (G.E (G.ret (G.bq (G.O (G.O (G.bq (G.O ?_))))))))))
           exact G.U rfl rfl (congrArg Value.bool (any_at (f := fun y => decide (y = x)) hb (decide_eq_true hc)).symm)
       · all_goals
          replace hc := of_decide_eq_false hc
          all_goals
           refine G.skip (G.bc (G.E (G.region (G.v (ba rfl) rfl ?_)))); refine G.v (bp rfl rfl (by omega)) rfl ?_; refine G.v (bb rfl) rfl (G.I ?_); refine G.V (k + 1) 0 rfl (.cons rfl (.cons rfl (.nil))) ?_ ?_ ?_
           exact ⟨rfl, trivial⟩
           exact ⟨hlt, cc ht hb (decide_eq_false hc)⟩
           omega
   · all_goals
      replace hc := of_decide_eq_false hc
      simp only [List.length_map] at hc
      try (exfalso; omega)
      all_goals
       refine G.exit (G.L (G.L (G.bn (G.E (G.seq (G.region (G.v (bb rfl) rfl (G.I (G.E (G.ret ?_))))))))))
       exact G.U rfl rfl (congrArg Value.bool (any_end ht hlt).symm)
theorem findInt_any {v : Value} {l : List Int} (x : Int) (w : World) (h : Rd w v 1 (l.map icell)) : FnV Tryz.prog 181 [v, .int .i64 x] w (.int .i64 (idxM (fun y => decide (x = y)) l)) := by
  have hle := h.le_map
  refine FnV.of (n := 19) Tryz.func181 rfl rfl ?_; refine G.seq (G.region (G.v (bb rfl) rfl (G.I (G.E (G.seq (G.seq (G.region (G.v (ba rfl) rfl ?_)))))))); refine G.v (bz rfl (by exact Rd.stays (by assumption))) rfl ?_; refine G.v (ba rfl) rfl (G.I (G.E (G.block ?_))); refine G.Y (ι := Nat) (ks := [0, 1, 7]) (fun k => [(8, .int .i64 k)]) (fun _ => []) (fun k => k ≤ l.length ∧ (l.take k).any (fun y => decide (x = y)) = false) (fun k => l.length - k) 0 (.cons rfl (.cons rfl (.cons rfl (.nil)))) rfl ?_ ?_ ?_
  exact ⟨Nat.zero_le _, rfl⟩
  exact ⟨rfl, trivial⟩
  rintro k ⟨hk, ht⟩
  by_cases hlt : k < l.length
  case' pos => (obtain ⟨b, hb⟩ := bn hlt; have he := bt hb icell)
  all_goals
   refine G.seq (G.region (G.v (br rfl rfl) rfl (G.I (G.E (G.seq ?_))))); refine G.cond rfl (fun hc => ?_) (fun hc => ?_)
   · all_goals
      replace hc := of_decide_eq_true hc
      simp only [List.length_map] at hc
      try (exfalso; omega)
      all_goals
       refine G.skip (G.E (G.seq (G.block (G.seq (G.region (G.v (ba rfl) rfl (G.v (bb rfl) rfl (G.I (G.E (G.seq (G.region ?_))))))))))); refine G.v (ba rfl) rfl (G.v (ba rfl) rfl (G.v (ba rfl) rfl ?_)); refine G.v (bg rfl rfl (by exact Rd.stays (by assumption)) rfl (by assumption)) rfl ?_; refine G.v (bi rfl (by exact Rd.stays (by assumption)) (by assumption) rfl) rfl ?_; refine G.v (bQ rfl rfl) rfl (G.I (G.E ?_)); refine G.cond rfl (fun hc => ?_) (fun hc => ?_)
       · all_goals
          replace hc := of_decide_eq_true hc
          all_goals
           refine G.seq (G.region (G.v (ba rfl) rfl (G.v (bb rfl) rfl (G.I (G.E (G.ret (G.bq (G.O (G.O (G.bq (G.O ?_)))))))))))
           exact G.U rfl rfl (congrArg (Value.int .i64) (di ht hb (decide_eq_true hc)).symm)
       · all_goals
          replace hc := of_decide_eq_false hc
          all_goals
           refine G.skip (G.bc (G.E (G.region ?_))); refine G.v (bp rfl rfl (by omega)) rfl ?_; refine G.v (ba rfl) rfl (G.I ?_); refine G.V (k + 1) 0 rfl (.cons rfl (.cons rfl (.cons rfl (.nil)))) ?_ ?_ ?_
           exact ⟨rfl, trivial⟩
           exact ⟨hlt, cc ht hb (decide_eq_false hc)⟩
           omega
   · all_goals
      replace hc := of_decide_eq_false hc
      simp only [List.length_map] at hc
      try (exfalso; omega)
      all_goals
       refine G.exit (G.L (G.L (G.bn (G.E (G.seq (G.region (G.v (bb rfl) rfl (G.I (G.E (G.ret ?_))))))))))
       exact G.U rfl rfl (congrArg (Value.int .i64) (cy ht hlt).symm)
theorem hasInt_any {v : Value} {l : List Int} (x : Int) (w : World) (h : Rd w v 1 (l.map icell)) : FnV Tryz.prog 129 [v, .int .i64 x] w (.bool (hasM l x)) := by
  refine FnV.of (n := 9) Tryz.func129 rfl rfl ?_; refine G.seq (G.region (G.v (bb rfl) rfl (G.I (G.E (G.seq (G.region (G.v (ba rfl) rfl (G.v (ba rfl) rfl ?_)))))))); refine G.op (bh rfl rfl (fun w hh => findInt_any x w (Rd.stays h _ hh))) rfl (fun _ _ => ?_); refine G.v (cu rfl rfl) rfl (G.v (bb rfl) rfl (G.I (G.E (G.ret ?_))))
  exact G.U rfl rfl (congrArg Value.bool ((cT _ l).trans (by rw [hasM]; congr 1; funext y; exact decide_eq_decide.2 eq_comm)))
/-- Whether a kind may lie beside all of a group. -/
def joinsM (ps : List PairM) (g : List Int) (x : Int) : Bool := g.all fun y => mutM ps x y
theorem l3Joins_any {v u : Value} {ps : List PairM} {l : List Int} (x : Int) (w : World) (h : Rd w v 2 (ps.map PairM.cells)) (h2 : Rd w u 1 (l.map icell)) : FnV Tryz.prog 165 [v, u, .int .i64 x] w (.bool (joinsM ps l x)) := by
  have hle := h2.le_map
  refine FnV.of (n := 32) Tryz.func165 rfl rfl ?_; refine G.seq (G.region (G.v (bb rfl) rfl (G.I (G.E (G.seq (G.seq (G.region (G.v (bb rfl) rfl (G.I (G.E (G.block ?_))))))))))); refine G.Y (ι := Nat) (ks := [0, 1, 2]) (fun k => [(7, .int .i64 k)]) (fun _ => []) (fun k => k ≤ l.length ∧ (l.take k).all (fun y => mutM ps x y) = true) (fun k => l.length - k) 0 (.cons rfl (.cons rfl (.cons rfl (.nil)))) rfl ?_ ?_ ?_
  exact ⟨Nat.zero_le _, rfl⟩
  exact ⟨rfl, trivial⟩
  rintro k ⟨hk, ht⟩
  by_cases hlt : k < l.length
  case' pos => (obtain ⟨b, hb⟩ := bn hlt; have he := bt hb icell)
  all_goals
   refine G.seq (G.seq (G.region (G.v (ba rfl) rfl (G.v (ba rfl) rfl ?_)))); refine G.v (bz rfl (by exact Rd.stays (by assumption))) rfl ?_; refine G.v (br rfl rfl) rfl (G.I (G.E ?_)); refine G.cond rfl (fun hc => ?_) (fun hc => ?_)
   · all_goals
      replace hc := of_decide_eq_true hc
      simp only [List.length_map] at hc
      try (exfalso; omega)
      all_goals
       refine G.skip (G.E (G.seq (G.block (G.seq (G.region (G.v (ba rfl) rfl (G.v (ba rfl) rfl (G.v (ba rfl) rfl ?_)))))))); refine G.v (bg rfl rfl (by exact Rd.stays (by assumption)) rfl (by assumption)) rfl ?_; refine G.v (bi rfl (by exact Rd.stays (by assumption)) (by assumption) rfl) rfl ?_; refine G.v (ba rfl) rfl ?_; refine G.op (bh rfl rfl (fun w hh => dw _ _ w (Rd.stays h _ hh))) rfl (fun _ _ => ?_); refine G.v (bF rfl) rfl (G.v (ba rfl) rfl ?_)
       all_goals (((with_reducible refine G.gP rfl rfl (fun hg => ?_) (fun hg => ?_)) <;> (try exact Bool.noConfusion hg) <;> (first | (refine G.gY rfl rfl ?_; refine G.v (ba rfl) rfl ?_) | refine G.gN rfl rfl rfl ?_)))
       all_goals ((first | (refine G.gY rfl rfl ?_; refine G.v (ba rfl) rfl ?_) | refine G.gN rfl rfl rfl ?_))
       all_goals ((first | (refine G.gY rfl rfl ?_; refine G.v (ba rfl) rfl ?_) | refine G.gN rfl rfl rfl ?_))
       all_goals ((first | (refine G.gY rfl rfl ?_; refine G.v (ba rfl) rfl ?_) | refine G.gN rfl rfl rfl ?_))
       all_goals ((first | (refine G.gY rfl rfl ?_; (refine G.v (bg rfl rfl (by exact Rd.stays (by assumption)) rfl (by assumption)) rfl ?_)) | refine G.gN rfl rfl rfl ?_))
       all_goals ((first | (refine G.gY rfl rfl ?_; refine G.v (bi rfl (by exact Rd.stays (by assumption)) (by assumption) rfl) rfl ?_) | refine G.gN rfl rfl rfl ?_))
       all_goals ((first | (refine G.gY rfl rfl ?_; refine G.op (bh rfl rfl (fun w hh => dw _ _ w (Rd.stays h _ hh))) rfl (fun _ _ => ?_)) | refine G.gN rfl rfl rfl ?_))
       all_goals ((first | (refine G.gY rfl rfl ?_; refine G.v (bF rfl) rfl ?_) | refine G.gN rfl rfl rfl ?_))
       all_goals ((first | refine G.v (bk rfl rfl) rfl ?_ | refine G.v (bm rfl rfl) rfl ?_))
       all_goals
        refine G.I (G.E ?_); refine G.cond rfl (fun hc => ?_) (fun hc => ?_)
        · all_goals
           try simp only [List.length_map] at hc
           all_goals
            refine G.seq (G.region (G.v (bb rfl) rfl (G.I (G.E (G.ret (G.bq (G.O (G.O (G.bq (G.O ?_))))))))))
            exact G.U rfl rfl (congrArg Value.bool (all_no (f := fun y => mutM ps x y) hb (by (simp_all [mutM]; done))).symm)
        · try exact Bool.noConfusion hc
          all_goals
           all_goals
            refine G.skip (G.bc (G.E (G.region (G.v (ba rfl) rfl ?_)))); refine G.v (bp rfl rfl (by omega)) rfl ?_; refine G.v (bb rfl) rfl (G.I ?_); refine G.V (k + 1) 0 rfl (.cons rfl (.cons rfl (.cons rfl (.nil)))) ?_ ?_ ?_
            exact ⟨rfl, trivial⟩
            exact ⟨hlt, dG ht hb (by (simp_all [mutM]))⟩
            omega
   · all_goals
      replace hc := of_decide_eq_false hc
      simp only [List.length_map] at hc
      try (exfalso; omega)
      all_goals
       refine G.exit (G.L (G.L (G.bn (G.E (G.seq (G.region (G.v (bb rfl) rfl (G.I (G.E (G.ret ?_))))))))))
       exact G.U rfl rfl (congrArg Value.bool (d5 ht hlt).symm)
def kindHere (r : ReqM) (c : Nat) : Bool := r.items.any fun x => decide (x.cls = (c : Int))
def presL (r : ReqM) (n : Nat) : List Nat := (List.range n).filter (kindHere r)
/-- The kinds that are there. -/
def presM (r : ReqM) : List Nat := if classM r = 0 then presL r 4 else []
theorem pres_next {r : ReqM} {n : Nat} : presL r (n + 1) = if kindHere r n then presL r n ++ [n] else presL r n := by
  rw [presL, List.range_succ, List.filter_append]
  cases h : kindHere r n <;> simp [presL, h]
theorem pres_len (r : ReqM) (n : Nat) : (presL r n).length ≤ n := by
  have := List.length_filter_le (kindHere r) (List.range n); rwa [List.length_range] at this
theorem pres_yes {r : ReqM} {n : Nat} (h : kindHere r n = true) : (presL r n).map ncell ++ [[.int .i64 (n : Int)]] = (presL r (n + 1)).map ncell := by rw [pres_next, if_pos h, List.map_append]; rfl
theorem pres_no {r : ReqM} {n : Nat} (h : kindHere r n = false) : (presL r n).map ncell = (presL r (n + 1)).map ncell := by rw [pres_next, if_neg (by rw [h]; decide)]
theorem spresent_any {r : ReqM} {pv tv iv : Value} (w : World) (h : Rd w pv 2 (r.pairs.map PairM.cells)) (h2 : Rd w tv 7 (r.types.map TypeM.cells)) (h3 : Rd w iv 7 (r.items.map ItemM.cells)) :
    Fn Tryz.prog 105 [.agg (r.cells pv tv iv).toArray] w (fun v : Value => v.oneCell' = true) (fun v => v) (fun v => [.row v 3 1 ((presM r).map ncell)]) := by
  have hle3 := h3.le_map
  refine Fn.of (n := 40) Tryz.func105 rfl rfl ?_; refine G.seq (G.region ?_); refine G.op (bE rfl rfl) rfl (fun bk1 _ => ?_); refine G.v (bb rfl) rfl (G.I (G.E (G.seq (G.region ?_)))); refine G.op (bq rfl .nil rfl rfl rfl rfl rfl rfl) rfl (fun vl _ => ?_); refine G.v (bb rfl) rfl (G.I (G.E (G.seq (G.seq (G.region (G.v (bj 1 rfl rfl rfl) rfl ?_)))))); refine G.op (bh rfl rfl (fun w hh => cJ (r := r) w (Rd.stays h _ hh) (Rd.stays h2 _ hh) (Rd.stays h3 _ hh))) rfl (fun _ _ => ?_); refine G.v (dk rfl rfl) rfl (G.I (G.E ?_)); refine G.bd rfl (fun hc => ?_) (fun hc => ?_)
  · refine G.seq ?_
    refine G.region (G.v (ba rfl) rfl (G.v (bb rfl) rfl (G.I (G.E (G.ret (G.O ?_)))))); refine G.know (fun w hw => (Rd.ba 0 rfl w hw).one_) (fun hone => G.bg vl hone rfl rfl rfl (fun w hw => by rw [presM, if_neg hc]; exact hw.sublist (by repeat (first | exact List.Sublist.refl _ | refine List.Sublist.cons_cons _ ?_ | refine List.Sublist.cons _ ?_)))); done
  refine G.skip (G.E (G.seq (G.seq (G.region (G.v (bb rfl) rfl (G.I (G.E (G.block ?_))))))))
  have hyes : classM r = 0 := by omega
  refine G.Y (ι := Nat × Value) (ks := [1]) (fun x => [(3, x.2), (4, .int .i64 (x.1 : Int))]) (fun x => [.row x.2 3 1 ((presL r x.1).map ncell)]) (fun x => x.1 ≤ 4) (fun x => 4 - x.1) (0, vl) (.cons rfl (.nil)) rfl ?_ ?_ ?_
  exact Nat.zero_le _
  exact ⟨rfl, rfl, trivial⟩
  rintro ⟨c, v⟩ hcl
  dsimp only at hcl ⊢
  have hpl := pres_len r c
  have hpl2 : ((presL r c).map ncell).length = (presL r c).length := by simp
  refine G.seq (G.seq (G.region (G.v (ba rfl) rfl (G.v (br rfl rfl) rfl (G.I (G.E ?_)))))); refine G.bd rfl (fun hc => ?_) (fun hc => ?_)
  · refine G.skip ?_
    refine G.E (G.seq (G.block (G.seq (G.region (G.v (bb rfl) rfl (G.I (G.E (G.seq (G.seq (G.region (G.v (bb rfl) rfl ?_))))))))))); refine G.I (G.E (G.block ?_)); refine G.Y (ι := Nat) (ks := [1, 3, 4]) (fun k => [(5, .bool ((r.items.take k).any fun x => decide (x.cls = (c : Int)))), (6, .int .i64 k)]) (fun _ => []) (fun k => k ≤ r.items.length) (fun k => r.items.length - k) 0 (.cons rfl (.cons rfl (.cons rfl (.nil)))) rfl ?_ ?_ ?_
    exact Nat.zero_le _
    exact ⟨rfl, rfl, trivial⟩
    rintro k hk
    by_cases hlt : k < r.items.length
    case' pos => (obtain ⟨b, hb⟩ := bn hlt; have he := bt hb ItemM.cells)
    case' neg => (have ht : ((r.items.take k).any fun x => decide (x.cls = (c : Int))) = kindHere r c := (by rw [kindHere, List.take_of_length_le (by omega)]))
    all_goals
     refine G.seq (G.seq (G.region (G.v (ba rfl) rfl (G.v (be rfl) rfl (G.v (bf 1 rfl rfl rfl) rfl ?_))))); refine G.v (bz rfl (by exact Rd.stays (by assumption))) rfl ?_; refine G.v (br rfl rfl) rfl (G.I (G.E ?_)); refine G.cond rfl (fun hc => ?_) (fun hc => ?_)
     · all_goals
        replace hc := of_decide_eq_true hc
        simp only [List.length_map] at hc
        try (exfalso; omega)
        all_goals
         refine G.skip (G.E (G.seq (G.block (G.region (G.v (ba rfl) rfl (G.v (ba rfl) rfl ?_))))))
         all_goals (((with_reducible refine G.gP rfl rfl (fun hg => ?_) (fun hg => ?_)) <;> (try exact Bool.noConfusion hg) <;> (first | (refine G.gY rfl rfl ?_; (refine G.v (be rfl) rfl ?_)) | refine G.gN rfl rfl rfl ?_)))
         all_goals ((first | (refine G.gY rfl rfl ?_; (refine G.v (bf 1 rfl rfl rfl) rfl ?_)) | refine G.gN rfl rfl rfl ?_))
         all_goals ((first | (refine G.gY rfl rfl ?_; refine G.v (ba rfl) rfl ?_) | refine G.gN rfl rfl rfl ?_))
         all_goals ((first | (refine G.gY rfl rfl ?_; (refine G.v (bg rfl rfl (by exact Rd.stays (by assumption)) rfl (by assumption)) rfl ?_)) | refine G.gN rfl rfl rfl ?_))
         all_goals ((first | (refine G.gY rfl rfl ?_; (refine G.v (bo rfl) rfl ?_)) | refine G.gN rfl rfl rfl ?_))
         all_goals ((first | (refine G.gY rfl rfl ?_; refine G.v (bi rfl (by exact Rd.stays (by assumption)) (by assumption) rfl) rfl ?_) | refine G.gN rfl rfl rfl ?_))
         all_goals ((first | (refine G.gY rfl rfl ?_; refine G.v (ba rfl) rfl ?_) | refine G.gN rfl rfl rfl ?_))
         all_goals ((first | (refine G.gY rfl rfl ?_; refine G.v (bQ rfl rfl) rfl ?_) | refine G.gN rfl rfl rfl ?_))
         all_goals ((first | refine G.v (bk rfl rfl) rfl ?_ | refine G.v (bm rfl rfl) rfl ?_))
         all_goals (refine G.v (bb rfl) rfl ?_)
         all_goals
          refine G.I (G.bc (G.E (G.region (G.v (ba rfl) rfl ?_)))); refine G.v (bp rfl rfl (by omega)) rfl ?_; refine G.v (bb rfl) rfl (G.I ?_); refine G.V (k + 1) 0 rfl (.cons rfl (.cons rfl (.cons rfl (.nil)))) ?_ ?_ ?_
          exact ⟨congrArg (fun z => some (Value.bool z)) (by rw [List.take_add_one, hb, List.any_append]; simp_all), rfl, trivial⟩
          exact hlt
          omega
     · all_goals
        replace hc := of_decide_eq_false hc
        simp only [List.length_map] at hc
        try (exfalso; omega)
        all_goals
         refine G.exit (G.L (G.L (G.bn (G.E (G.seq (G.region (G.v (ba rfl) rfl (G.I (G.E ?_))))))))); refine G.cond rfl (fun hc => ?_) (fun hc => ?_)
         · all_goals
            all_goals
             refine G.region (G.v (ba rfl) rfl (G.v (ba rfl) rfl ?_)); refine G.op (bq rfl (.cons rfl .nil) rfl rfl rfl rfl rfl rfl) rfl (fun vl _ => ?_); refine G.op (bU rfl rfl rfl (by exact Rd.ba 0 rfl) rfl rfl (by (simp; omega)) (by (simp; omega))) rfl (fun va _ => ?_); refine G.v (bb rfl) rfl (G.I (G.bc (G.E (G.region (G.v (ba rfl) rfl ?_))))); refine G.v (bp rfl rfl (by omega)) rfl ?_; refine G.v (bb rfl) rfl (G.I ?_); refine G.V (c + 1, va) 1 (by exact bV (congrArg (fun z => Ch.row va 3 1 z) (pres_yes (ht.symm.trans hc)))) (.cons rfl (.nil)) (⟨rfl, rfl, trivial⟩) ?_ ?_
             dsimp only; omega
             dsimp only; omega
         · all_goals
            all_goals
             refine G.skip (G.bc (G.E (G.region (G.v (ba rfl) rfl ?_)))); refine G.v (bp rfl rfl (by omega)) rfl ?_; refine G.v (bb rfl) rfl (G.I ?_); refine G.V (c + 1, v) 0 (by exact bV (congrArg (fun z => Ch.row v 3 1 z) (pres_no (ht.symm.trans hc)))) (.cons rfl (.nil)) (⟨rfl, rfl, trivial⟩) ?_ ?_
             dsimp only; omega
             dsimp only; omega
  · refine G.exit ?_
    refine G.L (G.L (G.bn (G.E (G.seq (G.region (G.v (ba rfl) rfl (G.v (bb rfl) rfl (G.I (G.E (G.ret ?_)))))))))); refine G.know (fun w hw => (Rd.ba 0 rfl w hw).one_) (fun hone => G.bg v hone rfl rfl rfl (fun w hw => by rw [presM, if_pos hyes]; rw [show c = 4 by omega] at hw; exact hw.sublist (by repeat (first | exact List.Sublist.refl _ | refine List.Sublist.cons_cons _ ?_ | refine List.Sublist.cons _ ?_)))); done
end Go.Proofs.YtglpgohilfoecaaGreat

/-
  Owned slices that are cut short, and cleared.
-/
namespace Go.Proofs.YtglpgohilfoecaaGreat
open Go.RowKit
section
variable {P : Program} {n : Nat} {w0 : World} {fr : Fr} {H : List Ch}
theorem sub_head {g m cap s k : Nat} : subV (.slice (some ⟨g, 0, none⟩) m cap) s 0 k = .slice (some ⟨g, 0, none⟩) k cap := by simp [subV, sliced, Addr.add_lit]
theorem HeapOk.cutRow {w : World} {v : Value} {t : TypeId} {s : Nat} {es : List (List Value)} (h : HeapOk w0 w (.row v t s es :: H)) (k : Nat) (hk : k ≤ es.length) : HeapOk w0 w (.row (subV v s 0 k) t s (es.take k) :: H) := by
  obtain ⟨hrow, hgood⟩ := h.ok _ (List.mem_cons_self)
  have hlen := fun e he => (hgood e he).1
  have hkl : (es.take k).length = k := by rw [List.length_take]; omega
  have hf : (es.take k).flatten = es.flatten.take (k * s) := d1 k hlen
  have hks : k * s ≤ es.length * s := Nat.mul_le_mul_right s hk
  have hfl := cm hlen
  have hp := List.pairwise_cons.1 h.ap
  rcases hrow.2 with ⟨rfl, hn⟩ | ⟨g, cap, cur, rfl, hB, hg, hle, hcm, hsz, htk⟩
  · obtain rfl : k = 0 := by omega
    have e0 : es = [] := List.eq_nil_of_length_eq_zero hn
    subst e0
    exact h
  · rw [sub_head]
    refine ⟨h.below, fun c hc => ?_, List.pairwise_cons.2 ⟨fun d hd q hq => hp.1 d hd q hq, hp.2⟩⟩
    rcases List.mem_cons.1 hc with rfl | hc
    · refine ⟨⟨?_, .inr ⟨g, cap, cur, by rw [hkl], hB, hg, by rw [hkl]; omega, hcm, hsz, ?_⟩⟩, fun e he => hgood e (List.mem_of_mem_take he)⟩
      · rw [hkl, hf, List.length_take, hfl]; omega
      · rw [hkl, hf, ← htk, List.take_take, Nat.min_eq_left hks]
    · exact h.ok c (List.mem_cons_of_mem _ hc)
theorem G.cutRow {F : List Ch} {v : Value} {t : TypeId} {s : Nat} {es : List (List Value)} (k : Nat) {K : Act → World → Prop} (hk : k ≤ es.length) (hH : H = .row v t s es :: F) (h : G n w0 fr (.row (subV v s 0 k) t s (es.take k) :: F) K) : G n w0 fr H K :=
  G.heap (fun w hh => by subst hH; exact hh.cutRow k hk) h
theorem og_clear0 {x : Operand} {t e : TypeId} {bs : Nat} {z0 : Value} [hT : TySlice P t e] [hI : TyInfo P e 1 [z0] bs] {F : List Ch} {v dst : Value} {es : List (List Value)} (p : Nat)
    (hx : opv fr x = some dst) (hH : H = .row v e 1 es :: F) (hd : dst = subV v 1 p es.length) (hp : p < es.length) (hz1 : z0.oneCell' = true) :
    OpG P n w0 fr H (.call ⟨.builtin .clear, #[x], #[t]⟩) Triv (fun _ : Unit => .tuple #[]) (fun _ => .row v e 1 (es.take p ++ List.replicate (es.length - p) [z0]) :: F) :=
  fun a w hr hh d T pos af gd K hK => by
    subst hH
    obtain ⟨hrow, hgood⟩ := hh.ok _ (List.mem_cons_self)
    have hlen := fun e he => (hgood e he).1
    have hfl := cm hlen
    obtain ⟨ii, zz, g1, g2, g3, g4, g5⟩ := hI.get
    rcases hrow.2 with ⟨rfl, hn⟩ | ⟨g, cap, cur, rfl, hB, hg, hle, hcm, hsz, htk⟩
    · omega
    · have hd' : dst = .slice (some ⟨g, p, none⟩) (es.length - p) (cap - p) := by
        rw [hd]
        simp only [subV, sliced, if_neg (show ¬ cap = p by omega), Option.map_some, Addr.add_lit, Nat.zero_add, Nat.mul_one]
      subst hd'
      obtain ⟨q, hq⟩ : ∃ q, es.length - p = q + 1 := ⟨es.length - p - 1, by omega⟩
      have hzc : (Builtin.zeroCells #[z0] (es.length - p)).toList = List.replicate (es.length - p) z0 := by
        apply List.ext_getElem
        · simp [Builtin.zeroCells]
        · intro j h1 h2
          simp [Builtin.zeroCells, Nat.mod_one]
      have hst := run_storeCells_at P g p e (List.replicate (es.length - p) z0) 0 cur w hg (by simp; omega) (fun u hu => by rw [(List.mem_replicate.1 hu).2]; exact hz1)
      simp only [Nat.add_zero, List.length_replicate] at hst
      have hrun : (execOp a.eval ⟨d, .call ⟨.builtin .clear, #[x], #[t]⟩, T, pos, af, gd⟩).run P w = .ok (.value (.tuple #[])) (w.setRow g (cur.toList.take p ++ List.replicate (es.length - p) z0 ++ cur.toList.drop (p + (es.length - p))).toArray) := by
        have hz : (Builtin.clear_ #[t] T #[.slice (some ⟨g, p, none⟩) (es.length - p) (cap - p)]).run P w = .ok (.tuple #[]) (w.setRow g (cur.toList.take p ++ List.replicate (es.length - p) z0 ++ cur.toList.drop (p + (es.length - p))).toArray) := by
          rw [hq] at hst hzc ⊢
          simp [Builtin.clear_, run_underlying hT.h, zeroValue, typeInfo, g1, g4, g5, hzc, hst]
        simp only [execOp, resolve, invoke, builtin, Sem.run_bind, Sem.run_pure, Result.andThen_ok, List.map_toArray, List.map_cons, List.map_nil, hr.opv hx, hz]
      unfold okAt; rw [hrun]
      refine hK () _ trivial ?_
      have hnewlen : (cur.toList.take p ++ List.replicate (es.length - p) z0 ++ cur.toList.drop (p + (es.length - p))).length = cur.size := by
        simp only [List.length_append, List.length_take, List.length_drop, Array.length_toList, List.length_replicate]; omega
      have hcl : (es.take p ++ List.replicate (es.length - p) [z0]).length = es.length := by simp; omega
      have hcg : ∀ e0 ∈ es.take p ++ List.replicate (es.length - p) [z0], e0.length = 1 ∧ ∀ u ∈ e0, u.oneCell' = true := by
        intro e0 he0
        rcases List.mem_append.1 he0 with he0 | he0
        · exact hgood e0 (List.mem_of_mem_take he0)
        · rw [(List.mem_replicate.1 he0).2]; exact ⟨rfl, fun u hu => by rw [List.mem_singleton.1 hu]; exact hz1⟩
      have hrep : ∀ m : Nat, (List.replicate m [z0]).flatten = List.replicate m z0 := fun m => by
        induction m with
        | zero => rfl
        | succ m ih => rw [List.replicate_succ, List.flatten_cons, ih, List.replicate_succ]; rfl
      have htp : (es.take p).flatten = cur.toList.take p := by
        rw [d1 p hlen, ← htk, List.take_take]; congr 1; omega
      refine ⟨hh.below.trans ⟨rfl, rfl, rfl, by simp, fun q hq => setRow_other w g q _ (by omega)⟩, fun d hd => ?_, ?_⟩
      · rcases List.mem_cons.1 hd with rfl | hd
        · refine ⟨⟨?_, .inr ⟨g, cap, _, by rw [hcl], hB, setRow_heap w g cur _ e _ hg, by rw [hcl]; exact hle, hcm, by rw [List.size_toArray, hnewlen, hsz], ?_⟩⟩, hcg⟩
          · rw [cm (fun e he => (hcg e he).1)]
          · rw [List.flatten_append, hrep, htp, hcl, List.toList_toArray, List.take_append]
            simp only [List.length_append, List.length_take, Array.length_toList, List.length_replicate]
            rw [List.take_of_length_le (l := List.take p cur.toList ++ List.replicate (es.length - p) z0) (by simp; omega), show es.length * 1 - (min p cur.size + (es.length - p)) = 0 by omega]; simp
        · have hd' := hh.ok d (List.mem_cons_of_mem _ hd)
          refine Ch.ok_of hd' fun q hq => setRow_other w g q _ ?_
          have := (List.pairwise_cons.1 hh.ap).1 d hd g rfl
          rintro rfl
          exact this hq
      · have := List.pairwise_cons.1 hh.ap
        exact List.pairwise_cons.2 ⟨fun d hd q hq => this.1 d hd q hq, this.2⟩
end
end Go.Proofs.YtglpgohilfoecaaGreat

/-
  Equal neighbours that are dropped.
-/
namespace Go.Proofs.YtglpgohilfoecaaGreat
open Go.RowKit
attribute [local irreducible] Go.wpList Go.Code.wp Go.Exit.then Go.Exit.inBlock Go.bodyPost Go.Calls pE pB G RunsV FnV Fn FnM
set_option maxRecDepth 100000
set_option maxHeartbeats 4000000
def ddStep (acc : List Int) (x : Int) : List Int := if acc.getLast? = some x then acc else acc ++ [x]
def ddM (l : List Int) : List Int := l.foldl ddStep []
theorem dd_next {l : List Int} {k : Nat} {b : Int} (hb : l[k]? = some b) : ddM (l.take (k + 1)) = ddStep (ddM (l.take k)) b := bP hb ddStep []
theorem ddStep_last (acc : List Int) (x : Int) : (ddStep acc x).getLast? = some x := by
  unfold ddStep; split
  · assumption
  · simp
theorem dd_last {l : List Int} {k : Nat} {a : Int} (ha : l[k]? = some a) : (ddM (l.take (k + 1))).getLast? = some a := by rw [dd_next ha, ddStep_last]
theorem dd_len (l : List Int) : ∀ k, k ≤ l.length → (ddM (l.take k)).length ≤ k
  | 0, _ => by simp [ddM]
  | k + 1, hk => by
    obtain ⟨b, hb⟩ := bn (l := l) (k := k) (by omega)
    have := dd_len l k (by omega)
    rw [dd_next hb, ddStep]; split
    · omega
    · simp; omega
theorem dd_same {l : List Int} {k : Nat} {a b : Int} (ha : l[k]? = some a) (hb : l[k + 1]? = some b) (h : b = a) : ddM (l.take (k + 1 + 1)) = ddM (l.take (k + 1)) := by
  rw [dd_next hb, ddStep, if_pos (by rw [dd_last ha, h])]
theorem dd_diff {l : List Int} {k : Nat} {a b : Int} (ha : l[k]? = some a) (hb : l[k + 1]? = some b) (h : ¬ b = a) : ddM (l.take (k + 1 + 1)) = ddM (l.take (k + 1)) ++ [b] := by
  rw [dd_next hb, ddStep, if_neg (by rw [dd_last ha]; intro e; exact h (Option.some.inj e).symm)]
/-- The row while it is pressed together. -/
def ddRow (l : List Int) (m : Nat) : List Int := ddM (l.take m) ++ l.drop (ddM (l.take m)).length
theorem ddRow_len {l : List Int} {m : Nat} (h : m ≤ l.length) : (ddRow l m).length = l.length := by
  have := dd_len l m h
  rw [ddRow, List.length_append, List.length_drop]; omega
theorem ddRow_get {l : List Int} {m j : Nat} (h : (ddM (l.take m)).length ≤ j) : (ddRow l m)[j]? = l[j]? := by
  rw [ddRow, List.getElem?_append_right h, List.getElem?_drop]; congr 1; omega
theorem ddRow_set {l : List Int} {k : Nat} {a b : Int} (ha : l[k]? = some a) (hb : l[k + 1]? = some b) (h : ¬ b = a) : (ddRow l (k + 1)).set (ddM (l.take (k + 1))).length b = ddRow l (k + 1 + 1) := by
  have hk := (List.getElem?_eq_some_iff.1 hb).1
  have hl := dd_len l (k + 1) (by omega)
  rw [ddRow, ddRow, dd_diff ha hb h, List.set_append_right _ _ (Nat.le_refl _), Nat.sub_self, List.length_append, List.append_assoc]
  congr 1
  rw [List.drop_eq_getElem_cons (show (ddM (l.take (k + 1))).length < l.length by omega), List.set_cons_zero]
  rfl
theorem dd_one {l : List Int} {b : Int} (hb : l[0]? = some b) : ddM (l.take 1) = l.take 1 := by
  rw [dd_next hb]
  cases l with
  | nil => cases hb
  | cons x r => obtain rfl : x = b := by simpa using hb
                simp [ddM, ddStep]
theorem dd_short {l : List Int} (h : l.length < 2) : ddM l = l := by
  match l, h with
  | [], _ => rfl
  | [x], _ => simp [ddM, ddStep]
theorem dd_go {l : List Int} {j : Nat} {a b : Int} (hd : ddM (l.take (j + 1)) = l.take (j + 1)) (ha : l[j]? = some a) (hb : l[j + 1]? = some b) (h : ¬ b = a) : ddM (l.take (j + 1 + 1)) = l.take (j + 1 + 1) := by
  rw [dd_diff ha hb h, hd, List.take_add_one (i := j + 1), hb]; rfl
theorem s2_rd {w : World} {v : Value} {l : List Int} {m p : Nat} (h : Rd w v 1 ((ddRow l m).map icell)) (hm : m ≤ l.length) (hp : p ≤ l.length) : Rd w (subV v 1 p (l.map icell).length) 1 (((ddRow l m).drop p).map icell) := by
  have := Rd.subL h (k := p) (by rw [ddRow_len hm]; exact hp)
  rwa [List.length_map, ddRow_len hm, ← List.length_map (f := icell)] at this
theorem s2_get {l : List Int} {m p i : Nat} {b : Int} (h : (ddM (l.take m)).length ≤ p + i) (hb : l[p + i]? = some b) : (((ddRow l m).drop p).map icell)[i]? = some (icell b) := by
  rw [List.getElem?_map, List.getElem?_drop, ddRow_get h, hb]; rfl
theorem dd_cut {l : List Int} {m q : Nat} {z : List Value} : ((((ddRow l m).map icell).take (ddM (l.take m)).length) ++ List.replicate q z).take (ddM (l.take m)).length = (ddM (l.take m)).map icell := by
  have e : ((ddRow l m).map icell).take (ddM (l.take m)).length = (ddM (l.take m)).map icell := by
    rw [← List.map_take, ddRow, List.take_left']; rfl
  rw [e, List.take_left']; simp
section
variable {w0 : World} {F : List Ch} {v : Value}
theorem compact_any {l : List Int} (hn : l.length ≤ 1048576) :
    FnMF Tryz.prog 217 [v] w0 [.row v 3 1 (l.map icell)] F (fun x : Value => x.oneCell' = true) (fun x => x) (fun x => [.row x 3 1 ((ddM l).map icell)]) := by
  have hln : (l.map icell).length = l.length := by simp
  refine FnMF.of (n := 61) Tryz.func217 rfl rfl ?_; refine G.know (fun w hw => (Rd.ba 0 rfl w hw).one_) (fun hone => ?_); refine G.seq (G.region (G.v (bb rfl) rfl (G.I (G.E (G.seq (G.seq (G.region (G.v (ba rfl) rfl ?_)))))))); refine G.v (bz rfl (by exact Rd.ba 0 rfl)) rfl ?_; refine G.v (br rfl rfl) rfl (G.I (G.E ?_)); refine G.bd rfl (fun hc => ?_) (fun hc => ?_)
  simp only [List.length_map] at hc
  refine G.seq (G.region (G.v (ba rfl) rfl (G.v (bb rfl) rfl (G.I (G.E (G.ret (G.O ?_)))))))
  exact G.bg v hone rfl rfl rfl (fun w hw => by rw [dd_short (by omega)]; exact hw)
  · simp only [List.length_map] at hc
    refine G.skip (G.E (G.seq (G.seq (G.region (G.v (bb rfl) rfl (G.I (G.E (G.block ?_))))))))
    obtain ⟨b0, hb0⟩ := bn (l := l) (k := 0) (by omega)
    refine G.Y (ι := Nat) (ks := [0]) (fun j => [(3, .int .i64 ((j + 1 : Nat) : Int))]) (fun _ => [.row v 3 1 (l.map icell)]) (fun j => j + 1 ≤ l.length ∧ ddM (l.take (j + 1)) = l.take (j + 1)) (fun j => l.length - j) 0 (.cons rfl (.nil)) rfl ?_ ?_ ?_
    exact ⟨by omega, dd_one hb0⟩
    exact ⟨rfl, trivial⟩
    rintro j ⟨hj, hd⟩
    by_cases hlt : j + 1 < l.length
    case' pos => (obtain ⟨a, ha⟩ := bn (l := l) (k := j) (by omega); obtain ⟨b, hb⟩ := bn hlt; have e1 := bt hb icell; have e2 : (l.map icell)[j + 1 - 1]? = some (icell a) := bt ha icell)
    all_goals
     refine G.seq (G.seq (G.region (G.v (ba rfl) rfl (G.v (ba rfl) rfl ?_)))); refine G.v (bz rfl (by exact Rd.ba 0 rfl)) rfl ?_; refine G.v (br rfl rfl) rfl (G.I (G.E ?_)); refine G.cond rfl (fun hc => ?_) (fun hc => ?_)
     · all_goals
        replace hc := of_decide_eq_true hc
        simp only [List.length_map] at hc
        try (exfalso; omega)
        all_goals
         refine G.skip (G.E (G.seq (G.block (G.seq ?_)))); refine G.ba [] ?_; refine GE.q 0 rfl (by as_aux_lemma => kernel_rfl) rfl (bc (ba rfl)) rfl ?_; refine GE.q 1 rfl (by as_aux_lemma => kernel_rfl) rfl (bc (ba rfl)) rfl ?_; refine GE.q 2 rfl (by as_aux_lemma => kernel_rfl) rfl (bc (bg rfl rfl (by exact Rd.ba 0 rfl) rfl (by exact e1))) rfl ?_; refine GE.q 3 rfl (by as_aux_lemma => kernel_rfl) rfl (bc (bi rfl (by exact Rd.ba 0 rfl) (by exact e1) rfl)) rfl ?_; refine GE.q 4 rfl (by as_aux_lemma => kernel_rfl) rfl (bc (ba rfl)) rfl ?_; refine GE.V 5 (by as_aux_lemma => kernel_rfl) rfl rfl (bd (ba rfl)) rfl (fun _ _ h => by exact h) (fun _ _ => ?_); refine GE.V 6 (by as_aux_lemma => kernel_rfl) rfl rfl (bd (cq rfl rfl (by omega) (by omega))) rfl (fun _ _ h => by exact h) (fun _ _ => ?_); refine GE.V 7 (by as_aux_lemma => kernel_rfl) rfl rfl (bd (bg rfl rfl (by exact Rd.ba 0 rfl) rfl (by exact e2))) rfl (fun _ _ h => by exact h) (fun _ _ => ?_); refine GE.V 8 (by as_aux_lemma => kernel_rfl) rfl rfl (bd (bi rfl (by exact Rd.ba 0 rfl) (by exact e2) rfl)) rfl (fun _ _ h => by exact h) (fun _ _ => ?_); refine GE.V 9 (by as_aux_lemma => kernel_rfl) rfl rfl (bd (bQ rfl rfl)) rfl (fun _ _ h => by exact h) (fun _ _ => ?_); refine GE.E (by as_aux_lemma => kernel_rfl) ?_; refine G.E ?_
         refine G.cond rfl (fun hc => ?_) (fun hc => ?_)
         · all_goals
            replace hc := of_decide_eq_true hc
            all_goals
             refine G.seq (G.region (G.v (ba rfl) rfl (G.v (ba rfl) rfl ?_))); refine G.v (dq rfl rfl (by exact Rd.ba 0 rfl) (by omega)) rfl ?_; refine G.v (bb rfl) rfl (G.I (G.E (G.seq (G.seq (G.region (G.v (bb rfl) rfl (G.I (G.E (G.block ?_)))))))))
             have hD0 : ddM (l.take (j + 1 + 1)) = l.take (j + 1) := (dd_same ha hb hc).trans hd
             have hDl : (ddM (l.take (j + 1 + 1))).length = j + 1 := by rw [hD0, List.length_take]; omega
             refine G.bo ((ddRow l (j + 0 + 1 + 1)).map icell) (by rw [ddRow, show j + 0 + 1 + 1 = j + 1 + 1 from rfl, hDl, hD0, List.take_append_drop]) rfl ?_; refine G.Y (ι := Nat) (ks := [0, 4]) (fun i => [(3, .int .i64 ((ddM (l.take (j + i + 1 + 1))).length : Int)), (5, .int .i64 ((i + 1 : Nat) : Int))]) (fun i => [.row v 3 1 ((ddRow l (j + i + 1 + 1)).map icell)]) (fun i => j + i + 1 + 1 ≤ l.length ∧ (ddM (l.take (j + i + 1 + 1))).length + 1 ≤ j + i + 1 + 1) (fun i => l.length - i) 0 (.cons rfl (.cons rfl (.nil))) rfl ?_ ?_ ?_
             exact ⟨hlt, by rw [show j + 0 + 1 + 1 = j + 1 + 1 from rfl, hDl]; omega⟩
             exact ⟨congrArg (fun z : Nat => some (Value.int .i64 (z : Int))) hDl.symm, rfl, trivial⟩
             rintro i ⟨hi, hDi⟩
             have hrl := ddRow_len hi
             have hrl2 : ((ddRow l (j + i + 1 + 1)).map icell).length = l.length := by rw [List.length_map, hrl]
             have hsl : (((ddRow l (j + i + 1 + 1)).drop (j + 1)).map icell).length = l.length - (j + 1) := by rw [List.length_map, List.length_drop, hrl]
             have hsl3 : ((ddRow l (j + i + 1 + 1)).drop (j + 1)).length = l.length - (j + 1) := by rw [List.length_drop, hrl]
             by_cases hlt2 : j + i + 1 + 1 < l.length
             case' pos => (obtain ⟨a2, ha2⟩ := bn (l := l) (k := j + i + 1) (by omega); obtain ⟨b2, hb2⟩ := bn hlt2; replace e1 : (((ddRow l (j + i + 1 + 1)).drop (j + 1)).map icell)[i + 1]? = some (icell b2) := s2_get (by omega) (by rw [show j + 1 + (i + 1) = j + i + 1 + 1 by omega]; exact hb2); replace e2 : (((ddRow l (j + i + 1 + 1)).drop (j + 1)).map icell)[i + 1 - 1]? = some (icell a2) := s2_get (by omega) (by rw [show j + 1 + (i + 1 - 1) = j + i + 1 by omega]; exact ha2); obtain ⟨c3, hc3⟩ := bn (l := ddRow l (j + i + 1 + 1)) (k := (ddM (l.take (j + i + 1 + 1))).length) (by omega); have e3 := bt hc3 icell)
             all_goals
              refine G.seq (G.seq (G.region (G.v (ba rfl) rfl (G.v (ba rfl) rfl ?_)))); refine G.v (bz rfl (by exact (fun w hw => s2_rd (Rd.ba 0 rfl w hw) (by omega) (by omega)))) rfl ?_; refine G.v (br rfl rfl) rfl (G.I (G.E ?_)); refine G.cond rfl (fun hc => ?_) (fun hc => ?_)
              · all_goals
                 replace hc := of_decide_eq_true hc
                 simp only [List.length_map] at hc
                 try (exfalso; omega)
                 all_goals
                  refine G.skip (G.E (G.seq (G.block (G.seq ?_)))); refine G.ba [] ?_; refine GE.q 0 rfl (by as_aux_lemma => kernel_rfl) rfl (bc (ba rfl)) rfl ?_; refine GE.q 1 rfl (by as_aux_lemma => kernel_rfl) rfl (bc (ba rfl)) rfl ?_; refine GE.q 2 rfl (by as_aux_lemma => kernel_rfl) rfl (bc (bg rfl rfl (by exact (fun w hw => s2_rd (Rd.ba 0 rfl w hw) (by omega) (by omega))) rfl (by exact e1))) rfl ?_; refine GE.q 3 rfl (by as_aux_lemma => kernel_rfl) rfl (bc (bi rfl (by exact (fun w hw => s2_rd (Rd.ba 0 rfl w hw) (by omega) (by omega))) (by exact e1) rfl)) rfl ?_; refine GE.q 4 rfl (by as_aux_lemma => kernel_rfl) rfl (bc (ba rfl)) rfl ?_; refine GE.V 5 (by as_aux_lemma => kernel_rfl) rfl rfl (bd (ba rfl)) rfl (fun _ _ h => by exact h) (fun _ _ => ?_); refine GE.V 6 (by as_aux_lemma => kernel_rfl) rfl rfl (bd (cq rfl rfl (by omega) (by omega))) rfl (fun _ _ h => by exact h) (fun _ _ => ?_); refine GE.V 7 (by as_aux_lemma => kernel_rfl) rfl rfl (bd (bg rfl rfl (by exact (fun w hw => s2_rd (Rd.ba 0 rfl w hw) (by omega) (by omega))) rfl (by exact e2))) rfl (fun _ _ h => by exact h) (fun _ _ => ?_); refine GE.V 8 (by as_aux_lemma => kernel_rfl) rfl rfl (bd (bi rfl (by exact (fun w hw => s2_rd (Rd.ba 0 rfl w hw) (by omega) (by omega))) (by exact e2) rfl)) rfl (fun _ _ h => by exact h) (fun _ _ => ?_)
                  refine GE.V 9 (by as_aux_lemma => kernel_rfl) rfl rfl (bd (dk rfl rfl)) rfl (fun _ _ h => by exact h) (fun _ _ => ?_); refine GE.E (by as_aux_lemma => kernel_rfl) ?_; refine G.E ?_; refine G.cond rfl (fun hc => ?_) (fun hc => ?_)
                  · all_goals
                     replace hc := of_decide_eq_true hc
                     all_goals
                      refine G.seq (G.region (G.v (ba rfl) rfl (G.v (ba rfl) rfl (G.v (ba rfl) rfl (G.v (ba rfl) rfl ?_))))); refine G.v (bg rfl rfl (by exact (fun w hw => s2_rd (Rd.ba 0 rfl w hw) (by omega) (by omega))) rfl (by exact e1)) rfl ?_; refine G.v (bi rfl (by exact (fun w hw => s2_rd (Rd.ba 0 rfl w hw) (by omega) (by omega))) (by exact e1) rfl) rfl ?_; refine G.v (bg rfl rfl (by exact Rd.ba 0 rfl) rfl (by exact e3)) rfl ?_; refine G.bk (cR rfl rfl rfl (by exact e3) rfl rfl rfl rfl (.zero (.cons .nil))) (fun _ _ => ?_); refine G.I (G.E (G.region (G.v (ba rfl) rfl ?_))); refine G.v (bp rfl rfl (by omega)) rfl ?_; refine G.v (bb rfl) rfl (G.I (G.bc (G.E (G.region (G.v (ba rfl) rfl ?_))))); refine G.v (bp rfl rfl (by omega)) rfl ?_; refine G.v (bb rfl) rfl (G.I ?_); refine G.V (i + 1) 0 (by exact bV (congrArg (fun z => Ch.row v 3 1 z) ((List.map_set (f := icell)).symm.trans (congrArg (List.map icell) (ddRow_set ha2 hb2 hc))))) (.cons rfl (.cons rfl (.nil))) ?_ ?_ ?_
                      exact ⟨congrArg (fun z : Nat => some (Value.int .i64 (z : Int))) (by rw [show j + (i + 1) + 1 + 1 = j + i + 1 + 1 + 1 from rfl, dd_diff ha2 hb2 hc, List.length_append]; rfl), rfl, trivial⟩
                      refine ⟨by omega, ?_⟩; (rw [show j + (i + 1) + 1 + 1 = j + i + 1 + 1 + 1 from rfl, dd_diff ha2 hb2 hc, List.length_append]; simp; omega)
                      omega
                  · all_goals
                     replace hc := of_decide_eq_false hc
                     all_goals
                      refine G.skip (G.bc (G.E (G.region (G.v (ba rfl) rfl ?_)))); refine G.v (bp rfl rfl (by omega)) rfl ?_; refine G.v (bb rfl) rfl (G.I ?_); refine G.V (i + 1) 0 (by (exact bV (congrArg (fun z : List Int => Ch.row v 3 1 (z.map icell)) (show ddRow l (j + i + 1 + 1) = ddRow l (j + i + 1 + 1 + 1) by simp only [ddRow]; rw [dd_same ha2 hb2 (by omega)])))) (.cons rfl (.cons rfl (.nil))) ?_ ?_ ?_
                      exact ⟨congrArg (fun z : Nat => some (Value.int .i64 (z : Int))) (by rw [show j + (i + 1) + 1 + 1 = j + i + 1 + 1 + 1 from rfl, dd_same ha2 hb2 (by omega)]), rfl, trivial⟩
                      refine ⟨by omega, ?_⟩; (rw [show j + (i + 1) + 1 + 1 = j + i + 1 + 1 + 1 from rfl, dd_same ha2 hb2 (by omega)]; omega)
                      omega
              · all_goals
                 replace hc := of_decide_eq_false hc
                 simp only [List.length_map] at hc
                 try (exfalso; omega)
                 all_goals
                  refine G.exit (G.L (G.L (G.bn (G.E (G.seq (G.region (G.v (ba rfl) rfl (G.v (ba rfl) rfl ?_)))))))); refine G.v (dq rfl rfl (by exact Rd.ba 0 rfl) (by omega)) rfl ?_; refine G.bk (og_clear0 ((ddM (l.take (j + i + 1 + 1))).length) rfl rfl rfl (by omega) rfl) (fun _ _ => ?_); refine G.I (G.E (G.seq (G.region (G.v (ba rfl) rfl (G.v (ba rfl) rfl ?_))))); refine G.v (dp rfl rfl (Rd.ba 0 rfl) (by simp; omega)) rfl ?_; refine G.v (bb rfl) rfl (G.I (G.E (G.ret (G.bq (G.O (G.O (G.bq (G.O ?_)))))))); refine G.cutRow (ddM (l.take (j + i + 1 + 1))).length (by simp; omega) rfl ?_; refine G.know (fun w hw => (Rd.ba 0 rfl w hw).one_) (fun hone2 => ?_); exact G.bg _ hone2 rfl rfl rfl (fun w hw => by rw [dd_cut] at hw; rw [← (show ddM (l.take (j + i + 1 + 1)) = ddM l by rw [bZ (l := l) (k := j + i + 1 + 1) (by omega)])]; exact hw)
         · all_goals
            replace hc := of_decide_eq_false hc
            all_goals
             refine G.skip (G.bc (G.E (G.region (G.v (ba rfl) rfl ?_)))); refine G.v (bp rfl rfl (by omega)) rfl ?_; refine G.v (bb rfl) rfl (G.I ?_); refine G.V (j + 1) 0 rfl (.cons rfl (.nil)) ?_ ?_ ?_
             exact ⟨rfl, trivial⟩
             exact ⟨by omega, dd_go hd ha hb hc⟩
             omega
     · all_goals
        replace hc := of_decide_eq_false hc
        simp only [List.length_map] at hc
        try (exfalso; omega)
        all_goals
         refine G.exit (G.L (G.L (G.bn (G.E (G.seq (G.region (G.v (ba rfl) rfl (G.v (bb rfl) rfl (G.I (G.E (G.ret ?_)))))))))))
         have he : ddM l = l := (by rw [List.take_of_length_le (by omega)] at hd; exact hd); exact G.bg v hone rfl rfl rfl (fun w hw => by rw [he]; exact hw)
end
end Go.Proofs.YtglpgohilfoecaaGreat

/-
  Slices that are nil; a list's kinds.
-/
namespace Go.Proofs.YtglpgohilfoecaaGreat
open Go.RowKit
section
variable {P : Program} {n : Nat} {w0 : World} {fr : Fr} {H : List Ch}
theorem run_eqNilD {t e : TypeId} (hT : P.underlying t = some (.slice e)) (d : Nat) (b : Option Addr) (m c m2 c2 : Nat) (w : World) : (Op.equalIn (d + 1) t (.slice b m c) (.slice none m2 c2)).run P w = .ok b.isNone w := by
  cases b <;> simp [Op.equalIn, run_underlying hT]
theorem run_eqNil {t e : TypeId} (hT : P.underlying t = some (.slice e)) (b : Option Addr) (m c m2 c2 : Nat) (w : World) : (Op.equal t (.slice b m c) (.slice none m2 c2)).run P w = .ok b.isNone w := by
  exact run_eqNilD hT 9999 b m c m2 c2 w
theorem rv_eqNil {x y : Operand} {t t' e : TypeId} [hT : TySlice P t e] {b : Option Addr} {m c m2 c2 : Nat} (hx : opv fr x = some (.slice b m c)) (hy : opv fr y = some (.slice none m2 c2)) : RunsV P n w0 fr H (.binOp .eql t x y t') (.bool b.isNone) := fun a w hr _ _ _ _ _ _ => by
  have h := run_eqNil hT.h b m c m2 c2 w
  simp only [execOp, hr.opv hx, hr.opv hy, Sem.run_bind, eqGuard_at_slice, Sem.run_pure, Result.andThen_ok]
  have e : binOp .eql t (.slice b m c) (.slice none m2 c2) = (do pure (.bool (← Op.equal t (.slice b m c) (.slice none m2 c2)))) := rfl
  rw [e]
  simp only [Sem.run_bind, h, Result.andThen_ok, Sem.run_pure]
end
attribute [local irreducible] Go.wpList Go.Code.wp Go.Exit.then Go.Exit.inBlock Go.bodyPost Go.Calls pE pB G RunsV FnV Fn FnM
set_option maxRecDepth 100000
set_option maxHeartbeats 4000000
theorem clone_any {v : Value} {l : List Int} (w : World) (h : Rd w v 1 (l.map icell)) (hn : l.length ≤ 1048576) : Fn Tryz.prog 200 [v] w (fun v : Value => v.oneCell' = true) (fun v => v) (fun v => [.row v 3 1 (l.map icell)]) := by
  have hln : (l.map icell).length = l.length := by simp
  obtain ⟨ad, cap, e, h1, h2, h3⟩ := h.form
  refine Fn.of (n := 8) Tryz.func200 rfl rfl ?_; refine G.seq (G.region (G.v (bb rfl) rfl (G.I (G.E (G.seq (G.seq (G.region (G.v (ba rfl) rfl ?_)))))))); refine G.v (rv_eqNil (by rw [e]; rfl) rfl) rfl ?_; refine G.I (G.E ?_); refine G.cond rfl (fun hc => ?_) (fun hc => ?_)
  have hl0 : l = [] := by (cases ad with | none => (rcases Nat.eq_zero_or_pos (l.map icell).length with hz | hz; (exact List.eq_nil_of_length_eq_zero (by omega)); (obtain ⟨b, o, hbo⟩ := h3 hz; cases hbo)) | some a => cases hc)
  refine G.seq (G.region (G.v (bb rfl) rfl (G.I (G.E (G.ret (G.O ?_))))))
  first | exact G.bg (.slice none 0 0) rfl rfl rfl rfl (fun w hw => by rw [hl0]; exact (hw.none).nilRow _ _) | (refine G.know (fun w hw => (Rd.ba 0 rfl w hw).one_) (fun hone => G.bg va hone rfl rfl rfl (fun w hw => hw.sublist (by repeat (first | exact List.Sublist.refl _ | refine List.Sublist.cons_cons _ ?_ | refine List.Sublist.cons _ ?_)))))
  refine G.skip (G.E (G.seq (G.region ?_))); refine G.op (bq rfl .nil rfl rfl rfl rfl rfl rfl) rfl (fun vl _ => ?_); refine G.v (ba rfl) rfl ?_
  first | refine G.op (cS rfl rfl rfl (by first | exact Rd.stays (by assumption) | exact Rd.ba 0 rfl | exact Rd.ba 1 rfl) rfl rfl (by first | (simp; done) | (simp; omega)) (by first | (simp; done) | (simp; omega))) rfl (fun va _ => ?_) | refine G.op (bU rfl rfl rfl (by first | exact Rd.stays (by assumption) | exact Rd.ba 0 rfl | exact Rd.ba 1 rfl) rfl rfl (by first | (simp; done) | (simp; omega)) (by first | (simp; done) | (simp; omega))) rfl (fun va _ => ?_)
  refine G.v (bb rfl) rfl (G.I (G.E (G.ret ?_)))
  first | exact G.bg (.slice none 0 0) rfl rfl rfl rfl (fun w hw => by rw [hl0]; exact (hw.none).nilRow _ _) | (refine G.know (fun w hw => (Rd.ba 0 rfl w hw).one_) (fun hone => G.bg va hone rfl rfl rfl (fun w hw => hw.sublist (by repeat (first | exact List.Sublist.refl _ | refine List.Sublist.cons_cons _ ?_ | refine List.Sublist.cons _ ?_)))))
theorem kinds_any {v : Value} {l : List Int} (w : World) (h : Rd w v 1 (l.map icell)) (hn : l.length ≤ 12) : Fn Tryz.prog 159 [v] w (fun v : Value => v.oneCell' = true) (fun v => v) (fun v => [.row v 3 1 ((ddM (sortM l)).map icell)]) := by
  refine Fn.of (n := 10) Tryz.func159 rfl rfl ?_; refine G.seq (G.region (G.v (bb rfl) rfl (G.I (G.E (G.seq (G.region (G.v (ba rfl) rfl ?_))))))); refine G.op (bH rfl rfl (fun w hh => clone_any w (Rd.stays h _ hh) (by omega))) rfl ?_; rintro v1 hv1; try dsimp only
  refine G.v (bb rfl) rfl (G.I (G.E (G.seq (G.region (G.v (ba rfl) rfl ?_)))))
  (first | refine G.bb (v1) rfl ?_ | refine G.bm (v1) rfl ?_ | refine G.be (v1) rfl ?_ | refine G.bi (v1) rfl ?_ | refine G.bp (v1) rfl ?_ | refine G.bB (v1) rfl ?_ | refine G.bf (v1) rfl ?_ | refine G.bj (v1) rfl ?_ | refine G.frontR8 (v1) rfl ?_ | refine G.frontR9 (v1) rfl ?_ | refine G.frontR10 (v1) rfl ?_ | refine G.frontR11 (v1) rfl ?_ | refine G.frontR12 (v1) rfl ?_ | refine G.frontR13 (v1) rfl ?_ | refine G.frontR14 (v1) rfl ?_ | refine G.frontR15 (v1) rfl ?_); refine G.op (bO rfl rfl rfl (sort_any (ks := l) hn)) rfl ?_; rintro ⟨⟩ _; try dsimp only
  refine G.I (G.E (G.seq (G.region (G.v (ba rfl) rfl ?_))))
  (first | refine G.bb (v1) rfl ?_ | refine G.bm (v1) rfl ?_ | refine G.be (v1) rfl ?_ | refine G.bi (v1) rfl ?_ | refine G.bp (v1) rfl ?_ | refine G.bB (v1) rfl ?_ | refine G.bf (v1) rfl ?_ | refine G.bj (v1) rfl ?_ | refine G.frontR8 (v1) rfl ?_ | refine G.frontR9 (v1) rfl ?_ | refine G.frontR10 (v1) rfl ?_ | refine G.frontR11 (v1) rfl ?_ | refine G.frontR12 (v1) rfl ?_ | refine G.frontR13 (v1) rfl ?_ | refine G.frontR14 (v1) rfl ?_ | refine G.frontR15 (v1) rfl ?_); refine G.op (bO rfl rfl rfl (compact_any (l := sortM l) (by rw [cB]; omega))) rfl ?_; rintro v2 hv2; try dsimp only
  refine G.v (bb rfl) rfl (G.I (G.E (G.ret ?_)))
  exact G.bg v2 hv2 rfl rfl rfl (fun w hw => hw.sublist (by repeat (first | exact List.Sublist.refl _ | refine List.Sublist.cons_cons _ ?_ | refine List.Sublist.cons _ ?_)))
end Go.Proofs.YtglpgohilfoecaaGreat

/-
  Kinds, ascending, each once: no program is in sight here.
-/
namespace Go.Proofs.YtglpgohilfoecaaGreat
open Go.RowKit
theorem ddStep_mem {acc : List Int} {y x : Int} : x ∈ ddStep acc y ↔ x ∈ acc ∨ x = y := by
  unfold ddStep
  split
  · rename_i h
    have : y ∈ acc := List.mem_of_getLast? h
    constructor
    · exact .inl
    · rintro (h1 | rfl)
      · exact h1
      · exact this
  · simp
theorem dd_memG : ∀ (l acc : List Int) (x : Int), x ∈ l.foldl ddStep acc ↔ x ∈ acc ∨ x ∈ l
  | [], acc, x => by simp
  | y :: r, acc, x => by rw [List.foldl_cons, dd_memG r, ddStep_mem, List.mem_cons, or_assoc]
theorem dd_mem {l : List Int} {x : Int} : x ∈ ddM l ↔ x ∈ l := by rw [ddM, dd_memG]; simp
theorem last_max {acc : List Int} {a y : Int} (h : acc.Pairwise (· < ·)) (hl : acc.getLast? = some y) (ha : a ∈ acc) : a ≤ y := by
  obtain ⟨ys, rfl⟩ := List.getLast?_eq_some_iff.1 hl
  rcases List.mem_append.1 ha with h1 | h1
  · have := (List.pairwise_append.1 h).2.2 a h1 y (by simp); omega
  · simp at h1; omega
theorem dd_ascG : ∀ (l acc : List Int), acc.Pairwise (· < ·) → l.Pairwise (· ≤ ·) → (∀ a ∈ acc, ∀ x ∈ l, a ≤ x) → (l.foldl ddStep acc).Pairwise (· < ·)
  | [], acc, h, _, _ => h
  | y :: r, acc, h, hl, hx => by
    rw [List.foldl_cons]
    have hr := List.pairwise_cons.1 hl
    refine dd_ascG r _ ?_ hr.2 (fun a ha x hxr => ?_)
    · unfold ddStep
      split
      · exact h
      · rename_i hn
        refine List.pairwise_append.2 ⟨h, List.pairwise_singleton _ _, fun a ha b hb => ?_⟩
        obtain rfl : b = y := by simpa using hb
        have h1 := hx a ha b (List.mem_cons_self)
        rcases Int.lt_or_eq_of_le h1 with h2 | h2
        · exact h2
        · exfalso
          cases hq : acc.getLast? with
          | none => rw [List.getLast?_eq_none_iff.1 hq] at ha; simp at ha
          | some z =>
            have h3 := last_max h hq ha
            have h4 := hx z (List.mem_of_getLast? hq) b (List.mem_cons_self)
            exact hn (by rw [hq]; congr 1; omega)
    · rcases ddStep_mem.1 ha with h1 | rfl
      · exact hx a h1 x (List.mem_cons_of_mem _ hxr)
      · exact hr.1 x hxr
theorem dd_asc {l : List Int} (h : l.Pairwise (· ≤ ·)) : (ddM l).Pairwise (· < ·) := dd_ascG l [] List.Pairwise.nil h (fun a ha => by simp at ha)
theorem asc_uniq : ∀ {xs ys : List Int}, xs.Pairwise (· < ·) → ys.Pairwise (· < ·) → (∀ x, x ∈ xs ↔ x ∈ ys) → xs = ys
  | [], [], _, _, _ => rfl
  | [], y :: ys, _, _, h => absurd ((h y).2 (List.mem_cons_self)) (by simp)
  | x :: xs, [], _, _, h => absurd ((h x).1 (List.mem_cons_self)) (by simp)
  | x :: xs, y :: ys, h1, h2, h => by
    have p1 := List.pairwise_cons.1 h1
    have p2 := List.pairwise_cons.1 h2
    have e : x = y := by
      rcases List.mem_cons.1 ((h x).1 (List.mem_cons_self)) with e | e
      · exact e
      · rcases List.mem_cons.1 ((h y).2 (List.mem_cons_self)) with e2 | e2
        · exact e2.symm
        · have := p2.1 x e; have := p1.1 y e2; omega
    subst e
    rw [asc_uniq p1.2 p2.2 (fun z => ⟨fun hz => ?_, fun hz => ?_⟩)]
    · rcases List.mem_cons.1 ((h z).1 (List.mem_cons_of_mem _ hz)) with e | e
      · have := p1.1 z hz; omega
      · exact e
    · rcases List.mem_cons.1 ((h z).2 (List.mem_cons_of_mem _ hz)) with e | e
      · have := p2.1 z hz; omega
      · exact e
theorem kinds_pres {r : ReqM} (h : r.items.all itemOkM = true) : ddM (sortM (r.items.map ItemM.cls)) = (presL r 4).map (fun n : Nat => (n : Int)) := by
  refine asc_uniq (dd_asc (dY _)) ?_ (fun x => ?_)
  · rw [List.pairwise_map]
    exact (List.pairwise_lt_range.sublist (List.filter_sublist)).imp (fun h => by omega)
  · rw [dd_mem, (co _).mem_iff]
    simp only [presL, kindHere, List.mem_map, List.mem_filter, List.mem_range, List.any_eq_true, decide_eq_true_eq]
    constructor
    · rintro ⟨b, hb, rfl⟩
      have hc := List.all_eq_true.1 h b hb
      simp only [itemOkM, Bool.and_eq_true, inB, decide_eq_true_eq] at hc
      have h3 := hc.1.2
      exact ⟨b.cls.toNat, ⟨by omega, b, hb, by omega⟩, by omega⟩
    · rintro ⟨n, ⟨_, b, hb, e⟩, rfl⟩
      exact ⟨b, hb, e⟩
end Go.Proofs.YtglpgohilfoecaaGreat

/-
  The kinds that are there: the program's way.
-/
namespace Go.Proofs.YtglpgohilfoecaaGreat
open Go.RowKit
attribute [local irreducible] Go.wpList Go.Code.wp Go.Exit.then Go.Exit.inBlock Go.bodyPost Go.Calls pE pB G RunsV FnV Fn FnM
set_option maxRecDepth 100000
set_option maxHeartbeats 4000000
theorem cls_snoc {l : List ItemM} {k : Nat} {b : ItemM} (hb : l[k]? = some b) : ((l.take k).map ItemM.cls).map icell ++ [[.int .i64 b.cls]] = ((l.take (k + 1)).map ItemM.cls).map icell := by
  simp [List.take_add_one, hb, icell]
theorem present_any {r : ReqM} {pv tv iv : Value} (w : World) (h : Rd w pv 2 (r.pairs.map PairM.cells)) (h2 : Rd w tv 7 (r.types.map TypeM.cells)) (h3 : Rd w iv 7 (r.items.map ItemM.cells)) :
    Fn Tryz.prog 99 [.agg (r.cells pv tv iv).toArray] w (fun v : Value => v.oneCell' = true) (fun v => v) (fun v => [.row v 3 1 ((presM r).map ncell)]) := by
  have hle3 := h3.le_map
  refine Fn.of (n := 25) Tryz.func99 rfl rfl ?_; refine G.seq (G.region ?_); refine G.op (bE rfl rfl) rfl (fun bk1 _ => ?_); refine G.v (bb rfl) rfl (G.I (G.E (G.seq (G.seq (G.region ?_)))))
  first | refine G.v (bj 0 rfl rfl rfl) rfl ?_ | refine G.v (bj 1 rfl rfl rfl) rfl ?_ | refine G.v (bj 2 rfl rfl rfl) rfl ?_ | refine G.v (bj 3 rfl rfl rfl) rfl ?_ | refine G.v (dg 0 rfl rfl (.one (.one (.one (.one (.one (.one (.one (.one (.one (.one .nil))))))))))) rfl ?_ | refine G.v (dg 1 rfl rfl (.one (.one (.one (.one (.one (.one (.one (.one (.one (.one .nil))))))))))) rfl ?_ | refine G.v (dg 2 rfl rfl (.one (.one (.one (.one (.one (.one (.one (.one (.one (.one .nil))))))))))) rfl ?_ | refine G.v (dg 3 rfl rfl (.one (.one (.one (.one (.one (.one (.one (.one (.one (.one .nil))))))))))) rfl ?_
  refine G.op (bh rfl rfl (fun w hh => dc (r := r) w (Rd.stays h _ hh) (Rd.stays h2 _ hh) (Rd.stays h3 _ hh))) rfl (fun _ _ => ?_); refine G.v (bF rfl) rfl (G.I (G.E ?_)); refine G.cond rfl (fun hc => ?_) (fun hc => ?_); refine G.seq (G.region (G.v (bb rfl) rfl (G.I (G.E (G.ret (G.O ?_))))))
  first | exact G.bg vk hvk rfl rfl rfl (fun w hw => by rw [bZ (by omega), kinds_pres hit] at hw; rw [presM, if_pos hcl]; rw [List.map_map] at hw; exact hw.sublist (by repeat (first | exact List.Sublist.refl _ | refine List.Sublist.cons_cons _ ?_ | refine List.Sublist.cons _ ?_))) | exact G.bg (.slice none 0 0) rfl rfl rfl rfl (fun w hw => by rw [presM, if_neg (by first | exact of_decide_eq_false (by simpa using hc) | simpa using hc)]; exact (hw.none).nilRow _ _)
  · refine G.skip ?_
    refine G.E (G.seq (G.region ?_)); refine G.op (bq rfl .nil rfl rfl rfl rfl rfl rfl) rfl (fun vl _ => ?_); refine G.v (bb rfl) rfl (G.I (G.E (G.seq (G.seq (G.region ?_)))))
    first | refine G.v (be rfl) rfl ?_ | refine G.v (bo rfl) rfl ?_
    first | refine G.v (bf 0 rfl rfl rfl) rfl ?_ | refine G.v (bf 1 rfl rfl rfl) rfl ?_ | refine G.v (bf 2 rfl rfl rfl) rfl ?_ | refine G.v (bf 3 rfl rfl rfl) rfl ?_
    refine G.v (bz rfl (by first | exact Rd.stays (by assumption) | exact Rd.ba 0 rfl | exact Rd.ba 1 rfl | exact Rd.ba 2 rfl | exact Rd.ba 3 rfl)) rfl ?_; refine G.v (ba rfl) rfl (G.I (G.E (G.block ?_)))
    have hcl : classM r = 0 := (by first | exact of_decide_eq_true (by simpa using hc) | simpa using hc)
    have hit := b9 (bR hcl)
    have h8 := (cr (bR hcl)).1
    refine G.Y (ι := Nat × Value) (ks := [11, 12]) (fun x => [(3, x.2), (13, .int .i64 (x.1 : Int))]) (fun x => [.row x.2 3 1 (((r.items.take x.1).map ItemM.cls).map icell)]) (fun x => x.1 ≤ r.items.length) (fun x => r.items.length - x.1) (0, vl) (.cons rfl (.cons rfl (.nil))) rfl ?_ ?_ ?_
    exact Nat.zero_le _
    exact ⟨rfl, rfl, trivial⟩
    rintro ⟨k, v⟩ hk
    dsimp only at hk ⊢
    have hul : (((r.items.take k).map ItemM.cls).map icell).length = k := (by rw [List.length_map, List.length_map, List.length_take]; omega)
    have hul2 : ((r.items.take k).map ItemM.cls).length = k := (by rw [List.length_map, List.length_take]; omega)
    have hul3 : (r.items.take k).length = k := (by rw [List.length_take]; omega)
    by_cases hlt : k < r.items.length
    case' pos => (obtain ⟨b, hb⟩ := bn hlt; have he := bt hb ItemM.cells)
    all_goals
     refine G.seq (G.region (G.v (br rfl rfl) rfl (G.I (G.E (G.seq ?_))))); refine G.cond rfl (fun hc => ?_) (fun hc => ?_)
     · all_goals
        replace hc := of_decide_eq_true hc
        simp only [List.length_map] at hc
        try (exfalso; first | contradiction | omega)
        all_goals
         refine G.skip (G.E (G.seq (G.block (G.seq (G.region ?_)))))
         first | refine G.v (bg rfl rfl (by first | exact Rd.stays (by assumption) | exact Rd.ba 0 rfl | exact Rd.ba 1 rfl | exact Rd.ba 2 rfl | exact Rd.ba 3 rfl) rfl (by assumption)) rfl ?_ | refine G.v (rv_index rfl rfl (by first | exact Rd.stays (by assumption) | exact Rd.ba 0 rfl | exact Rd.ba 1 rfl | exact Rd.ba 2 rfl | exact Rd.ba 3 rfl) rfl (by assumption)) rfl ?_
         first | refine G.v (bN rfl (by first | exact Rd.stays (by assumption) | exact Rd.ba 0 rfl | exact Rd.ba 1 rfl | exact Rd.ba 2 rfl | exact Rd.ba 3 rfl) (by assumption) rfl) rfl ?_ | refine G.v (rv_loadEP rfl (by first | exact Rd.stays (by assumption) | exact Rd.ba 0 rfl | exact Rd.ba 1 rfl | exact Rd.ba 2 rfl | exact Rd.ba 3 rfl) (by assumption) (.one (.one (.one (.one (.one (.one (.one .nil)))))))) rfl ?_
         refine G.op (bu) rfl (fun bk5 _ => ?_)
         first | refine G.bk (bL rfl rfl rfl rfl rfl rfl (.zero (.cons (.cons (.cons (.cons (.cons (.cons (.cons .nil))))))))) (fun _ _ => ?_) | refine G.bk (cf rfl rfl rfl rfl rfl rfl (.zero (.cons (.cons (.cons (.cons (.cons (.cons (.cons .nil))))))))) (fun _ _ => ?_) | refine G.bk (dN rfl rfl rfl rfl rfl rfl (.zero (.cons (.cons (.cons (.cons (.cons (.cons (.cons .nil))))))))) (fun _ _ => ?_) | refine G.bk (og_st3 rfl rfl rfl rfl rfl rfl (.zero (.cons (.cons (.cons (.cons (.cons (.cons (.cons .nil))))))))) (fun _ _ => ?_)
         refine G.I (G.E (G.region (G.v (ba rfl) rfl ?_)))
         first | refine G.v (be rfl) rfl ?_ | refine G.v (bo rfl) rfl ?_
         first | refine G.v (bf 0 rfl rfl rfl) rfl ?_ | refine G.v (bf 1 rfl rfl rfl) rfl ?_ | refine G.v (bf 2 rfl rfl rfl) rfl ?_ | refine G.v (bf 3 rfl rfl rfl) rfl ?_
         refine G.op (bq rfl (.cons rfl .nil) rfl rfl rfl rfl rfl rfl) rfl (fun vl _ => ?_)
         first | refine G.op (cS rfl rfl rfl (by first | exact Rd.stays (by assumption) | exact Rd.ba 0 rfl | exact Rd.ba 1 rfl | exact Rd.ba 2 rfl | exact Rd.ba 3 rfl) rfl rfl (by first | (simp; done) | (simp; omega)) (by first | (simp; done) | (simp; omega))) rfl (fun va _ => ?_) | refine G.op (bU rfl rfl rfl (by first | exact Rd.stays (by assumption) | exact Rd.ba 0 rfl | exact Rd.ba 1 rfl | exact Rd.ba 2 rfl | exact Rd.ba 3 rfl) rfl rfl (by first | (simp; done) | (simp; omega)) (by first | (simp; done) | (simp; omega))) rfl (fun va _ => ?_) | refine G.op (cC rfl rfl rfl (by first | exact Rd.stays (by assumption) | exact Rd.ba 0 rfl | exact Rd.ba 1 rfl | exact Rd.ba 2 rfl | exact Rd.ba 3 rfl) rfl rfl (by first | (simp; done) | (simp; omega)) (by first | (simp; done) | (simp; omega))) rfl (fun va _ => ?_) | refine G.op (dt rfl rfl rfl (by first | exact Rd.stays (by assumption) | exact Rd.ba 0 rfl | exact Rd.ba 1 rfl | exact Rd.ba 2 rfl | exact Rd.ba 3 rfl) rfl rfl (by first | (simp; done) | (simp; omega)) (by first | (simp; done) | (simp; omega))) rfl (fun va _ => ?_)
         refine G.v (bb rfl) rfl (G.I (G.bc (G.E (G.region ?_))))
         first | refine G.v (bp rfl rfl (by omega)) rfl ?_ | refine G.v (bD rfl rfl (by omega) (by omega)) rfl ?_
         refine G.v (ba rfl) rfl (G.I ?_)
         first | refine G.V (k + 1, va) 0 (bV (congrArg (fun z => Ch.row va 3 1 z) (cls_snoc hb))) (.cons rfl (.cons rfl (.nil))) ?_ ?_ ?_ | refine G.V (k + 1, va) 1 (bV (congrArg (fun z => Ch.row va 3 1 z) (cls_snoc hb))) (.cons rfl (.cons rfl (.nil))) ?_ ?_ ?_ | refine G.V (k + 1, va) 2 (bV (congrArg (fun z => Ch.row va 3 1 z) (cls_snoc hb))) (.cons rfl (.cons rfl (.nil))) ?_ ?_ ?_ | refine G.V (k + 1, va) 3 (bV (congrArg (fun z => Ch.row va 3 1 z) (cls_snoc hb))) (.cons rfl (.cons rfl (.nil))) ?_ ?_ ?_
         exact ⟨rfl, rfl, trivial⟩
         exact hlt
         dsimp only; omega
     · all_goals
        replace hc := of_decide_eq_false hc
        simp only [List.length_map] at hc
        try (exfalso; first | contradiction | omega)
        all_goals
         refine G.exit (G.L (G.L (G.bn (G.E (G.seq (G.region (G.v (ba rfl) rfl ?_))))))); refine G.op (bH rfl rfl (fun w hh => kinds_any (l := (r.items.take k).map ItemM.cls) w (by first | exact Rd.ba 0 rfl _ hh | exact Rd.ba 1 rfl _ hh) (by omega))) rfl ?_; rintro vk hvk; try dsimp only
         refine G.v (bb rfl) rfl (G.I (G.E (G.ret ?_)))
         first | exact G.bg vk hvk rfl rfl rfl (fun w hw => by rw [bZ (by omega), kinds_pres hit] at hw; rw [presM, if_pos hcl]; rw [List.map_map] at hw; exact hw.sublist (by repeat (first | exact List.Sublist.refl _ | refine List.Sublist.cons_cons _ ?_ | refine List.Sublist.cons _ ?_))) | exact G.bg (.slice none 0 0) rfl rfl rfl rfl (fun w hw => by rw [presM, if_neg (by first | exact of_decide_eq_false (by simpa using hc) | simpa using hc)]; exact (hw.none).nilRow _ _)
theorem indexInt_any {g : Nat} [FnOk Tryz.prog g] {cap : List Value} {v : Value} {l : List Int} {p : Int → Bool} (w : World) (h : Rd w v 1 (l.map icell)) (hf : ∀ (w' : World) (k : Nat) (b : Int), HeapOk w w' [] → l[k]? = some b → FnV Tryz.prog g ([.int .i64 b] ++ cap) w' (.bool (p b))) :
    FnV Tryz.prog 218 [v, .func (.func g) #[] cap.toArray] w (.int .i64 (idxM p l)) := by
  have hle := h.le_map
  have hln : (l.map icell).length = l.length := by simp
  refine FnV.of (n := 19) Tryz.func218 rfl rfl ?_; refine G.seq (G.region (G.v (bb rfl) rfl (G.I (G.E (G.seq (G.seq (G.region (G.v (ba rfl) rfl ?_)))))))); refine G.v (bz rfl (by first | exact Rd.stays (by assumption))) rfl ?_; refine G.v (ba rfl) rfl (G.I (G.E (G.block ?_))); refine G.Y (ι := Nat) (ks := [0, 1, 7]) (fun k => [(8, .int .i64 k)]) (fun _ => []) (fun k => k ≤ l.length ∧ (l.take k).any p = false) (fun k => l.length - k) 0 (.cons rfl (.cons rfl (.cons rfl (.nil)))) rfl ?_ ?_ ?_
  exact ⟨Nat.zero_le _, rfl⟩
  exact ⟨rfl, trivial⟩
  rintro k ⟨hk, ht⟩
  by_cases hlt : k < l.length
  case' pos => (obtain ⟨b, hb⟩ := bn hlt; have he := bt hb icell)
  all_goals
   refine G.seq (G.region (G.v (br rfl rfl) rfl (G.I (G.E (G.seq ?_))))); refine G.cond rfl (fun hc => ?_) (fun hc => ?_)
   · all_goals
      replace hc := of_decide_eq_true hc
      try (exfalso; first | contradiction | omega)
      all_goals
       refine G.skip (G.E (G.seq (G.block (G.seq (G.region (G.v (ba rfl) rfl (G.v (bb rfl) rfl (G.I (G.E (G.seq (G.region ?_))))))))))); refine G.v (ba rfl) rfl (G.v (ba rfl) rfl (G.v (ba rfl) rfl ?_))
       first | refine G.v (bg rfl rfl (by first | exact Rd.stays (by assumption)) rfl (by assumption)) rfl ?_ | refine G.v (rv_index rfl rfl (by first | exact Rd.stays (by assumption)) rfl (by assumption)) rfl ?_
       refine G.v (bi rfl (by first | exact Rd.stays (by assumption)) (by assumption) rfl) rfl ?_; refine G.op (bh rfl rfl (fun w hh => hf w k b hh.none hb)) rfl (fun _ _ => ?_); refine G.I (G.E ?_); refine G.cond rfl (fun hc => ?_) (fun hc => ?_)
       · all_goals
          all_goals
           refine G.seq (G.region (G.v (ba rfl) rfl (G.v (bb rfl) rfl (G.I (G.E (G.ret (G.bq (G.O (G.O (G.bq (G.O ?_)))))))))))
           first | exact G.U rfl rfl (congrArg (Value.int .i64) (di ht hb hc).symm) | exact G.U rfl rfl (congrArg (Value.int .i64) (cy ht hlt).symm)
       · all_goals
          all_goals
           refine G.skip (G.bc (G.E (G.region ?_)))
           first | refine G.v (bp rfl rfl (by omega)) rfl ?_ | refine G.v (bD rfl rfl (by omega) (by omega)) rfl ?_
           refine G.v (ba rfl) rfl (G.I ?_)
           first | refine G.V (k + 1) 0 rfl (.cons rfl (.cons rfl (.cons rfl (.nil)))) ?_ ?_ ?_
           exact ⟨rfl, trivial⟩
           exact ⟨hlt, cc ht hb hc⟩
           omega
   · all_goals
      replace hc := of_decide_eq_false hc
      try (exfalso; first | contradiction | omega)
      all_goals
       refine G.exit (G.L (G.L (G.bn (G.E (G.seq (G.region (G.v (bb rfl) rfl (G.I (G.E (G.ret ?_))))))))))
       first | exact G.U rfl rfl (congrArg (Value.int .i64) (di ht hb hc).symm) | exact G.U rfl rfl (congrArg (Value.int .i64) (cy ht hlt).symm)
theorem containsInt_any {g : Nat} [FnOk Tryz.prog g] {cap : List Value} {v : Value} {l : List Int} {p : Int → Bool} (w : World) (h : Rd w v 1 (l.map icell)) (hf : ∀ (w' : World) (k : Nat) (b : Int), HeapOk w w' [] → l[k]? = some b → FnV Tryz.prog g ([.int .i64 b] ++ cap) w' (.bool (p b))) :
    FnV Tryz.prog 162 [v, .func (.func g) #[] cap.toArray] w (.bool (l.any p)) := by
  refine FnV.of (n := 9) Tryz.func162 rfl rfl ?_; refine G.seq (G.region (G.v (bb rfl) rfl (G.I (G.E (G.seq (G.region (G.v (ba rfl) rfl (G.v (ba rfl) rfl ?_)))))))); refine G.op (bh rfl rfl (fun w hh => indexInt_any w (Rd.stays h _ hh) (fun w' k b hw hb => hf w' k b ((hh.call hw).none) hb))) rfl (fun _ _ => ?_); refine G.v (cu rfl rfl) rfl (G.v (bb rfl) rfl (G.I (G.E (G.ret ?_))))
  exact G.U rfl rfl (congrArg Value.bool (cT p l))
theorem groups11_any {ps : List PairM} {pv : Value} (k x : Int) {q1 q2 : Nat} (w : World) (h : Rd w pv 2 (ps.map PairM.cells)) (h1 : Rd w (.slice (some ⟨q1, 0, none⟩) 1 1) 1 [[pv]]) (h2 : Rd w (.slice (some ⟨q2, 0, none⟩) 1 1) 1 [[.int .i64 k]]) : FnV Tryz.prog 163 [.int .i64 x, pB q1 0, pB q2 0] w (.bool (!mutM ps k x)) := by
  rw [cp q1 1, cp q2 1]
  refine FnV.of (n := 10) Tryz.func163 rfl rfl ?_; refine G.seq (G.region (G.v (bb rfl) rfl (G.I (G.E (G.seq (G.region ?_))))))
  first | refine G.v (bf 0 rfl rfl rfl) rfl ?_ | refine G.v (bi rfl (by first | exact Rd.stays (by assumption) | exact Rd.ba 0 rfl) rfl rfl) rfl ?_
  first | refine G.v (bf 0 rfl rfl rfl) rfl ?_ | refine G.v (bi rfl (by first | exact Rd.stays (by assumption) | exact Rd.ba 0 rfl) rfl rfl) rfl ?_
  refine G.v (ba rfl) rfl ?_; refine G.op (bh rfl rfl (fun w hh => mutual_any _ _ w (Rd.stays h _ hh))) rfl (fun _ _ => ?_); refine G.v (bF rfl) rfl (G.v (bb rfl) rfl (G.I (G.E (G.ret ?_))))
  exact G.U rfl rfl rfl
theorem groups1_any {ps : List PairM} {pv u : Value} {l : List Int} (k : Int) {q1 q2 : Nat} (w : World) (h : Rd w pv 2 (ps.map PairM.cells)) (h3 : Rd w u 1 (l.map icell)) (h1 : Rd w (.slice (some ⟨q1, 0, none⟩) 1 1) 1 [[pv]]) (h2 : Rd w (.slice (some ⟨q2, 0, none⟩) 1 1) 1 [[.int .i64 k]]) : FnV Tryz.prog 161 [u, pB q1 0, pB q2 0] w (.bool (joinsM ps l k)) := by
  refine FnV.of (n := 9) Tryz.func161 rfl rfl ?_; refine G.seq (G.region (G.v (bb rfl) rfl (G.I (G.E (G.seq (G.region (G.v (ba rfl) rfl (G.v (bY rfl rfl) rfl ?_)))))))); refine G.op (bh rfl rfl (fun w hh => (containsInt_any (l := l) w (Rd.stays h3 _ hh) (fun w' j x hw hb => groups11_any (ps := ps) (pv := pv) k x w' (Rd.stays (Rd.stays h _ hh) w' hw) (Rd.stays (Rd.stays h1 _ hh) w' hw) (Rd.stays (Rd.stays h2 _ hh) w' hw))).mono (congrArg Value.bool any_not))) rfl (fun _ _ => ?_); refine G.v (bF rfl) rfl (G.v (bb rfl) rfl (G.I (G.E (G.ret ?_)))); refine G.U rfl rfl (congrArg Value.bool ?_); rw [joinsM, Bool.not_not]
def gcell (x : List Int × Value) : List Value := [x.2]
theorem indexTbl_any {g : Nat} [FnOk Tryz.prog g] {cap : List Value} {v : Value} {l : List (List Int × Value)} {p : List Int → Bool} (w : World) (h : Rd w v 1 (l.map gcell)) (hf : ∀ (w' : World) (k : Nat) (b : List Int × Value), HeapOk w w' [] → l[k]? = some b → FnV Tryz.prog g ([b.2] ++ cap) w' (.bool (p b.1))) :
    FnV Tryz.prog 160 [v, .func (.func g) #[] cap.toArray] w (.int .i64 (idxM (fun b => p b.1) l)) := by
  have hle := h.le_map
  have hln : (l.map gcell).length = l.length := by simp
  refine FnV.of (n := 19) Tryz.func160 rfl rfl ?_; refine G.seq (G.region (G.v (bb rfl) rfl (G.I (G.E (G.seq (G.seq (G.region (G.v (ba rfl) rfl ?_)))))))); refine G.v (bz rfl (by first | exact Rd.stays (by assumption))) rfl ?_; refine G.v (ba rfl) rfl (G.I (G.E (G.block ?_))); refine G.Y (ι := Nat) (ks := [0, 1, 7]) (fun k => [(8, .int .i64 k)]) (fun _ => []) (fun k => k ≤ l.length ∧ (l.take k).any (fun b => p b.1) = false) (fun k => l.length - k) 0 (.cons rfl (.cons rfl (.cons rfl (.nil)))) rfl ?_ ?_ ?_
  exact ⟨Nat.zero_le _, rfl⟩
  exact ⟨rfl, trivial⟩
  rintro k ⟨hk, ht⟩
  by_cases hlt : k < l.length
  case' pos => (obtain ⟨b, hb⟩ := bn hlt; have he := bt hb gcell)
  all_goals
   refine G.seq (G.region (G.v (br rfl rfl) rfl (G.I (G.E (G.seq ?_))))); refine G.cond rfl (fun hc => ?_) (fun hc => ?_)
   · all_goals
      replace hc := of_decide_eq_true hc
      try (exfalso; first | contradiction | omega)
      all_goals
       refine G.skip (G.E (G.seq (G.block (G.seq (G.region (G.v (ba rfl) rfl (G.v (bb rfl) rfl (G.I (G.E (G.seq (G.region ?_))))))))))); refine G.v (ba rfl) rfl (G.v (ba rfl) rfl (G.v (ba rfl) rfl ?_))
       first | refine G.v (bg rfl rfl (by first | exact Rd.stays (by assumption)) rfl (by assumption)) rfl ?_ | refine G.v (rv_index rfl rfl (by first | exact Rd.stays (by assumption)) rfl (by assumption)) rfl ?_
       refine G.v (bi rfl (by first | exact Rd.stays (by assumption)) (by assumption) rfl) rfl ?_; refine G.op (bh rfl rfl (fun w hh => hf w k b hh.none hb)) rfl (fun _ _ => ?_); refine G.I (G.E ?_); refine G.cond rfl (fun hc => ?_) (fun hc => ?_)
       · all_goals
          all_goals
           refine G.seq (G.region (G.v (ba rfl) rfl (G.v (bb rfl) rfl (G.I (G.E (G.ret (G.bq (G.O (G.O (G.bq (G.O ?_)))))))))))
           first | exact G.U rfl rfl (congrArg (Value.int .i64) (di ht hb hc).symm) | exact G.U rfl rfl (congrArg (Value.int .i64) (cy ht hlt).symm)
       · all_goals
          all_goals
           refine G.skip (G.bc (G.E (G.region ?_)))
           first | refine G.v (bp rfl rfl (by omega)) rfl ?_ | refine G.v (bD rfl rfl (by omega) (by omega)) rfl ?_
           refine G.v (ba rfl) rfl (G.I ?_)
           first | refine G.V (k + 1) 0 rfl (.cons rfl (.cons rfl (.cons rfl (.nil)))) ?_ ?_ ?_
           exact ⟨rfl, trivial⟩
           exact ⟨hlt, cc ht hb hc⟩
           omega
   · all_goals
      replace hc := of_decide_eq_false hc
      try (exfalso; first | contradiction | omega)
      all_goals
       refine G.exit (G.L (G.L (G.bn (G.E (G.seq (G.region (G.v (bb rfl) rfl (G.I (G.E (G.ret ?_))))))))))
       first | exact G.U rfl rfl (congrArg (Value.int .i64) (di ht hb hc).symm) | exact G.U rfl rfl (congrArg (Value.int .i64) (cy ht hlt).symm)
end Go.Proofs.YtglpgohilfoecaaGreat

/-
  A table of numbers that is marked by numbers that go up.
-/
namespace Go.Proofs.YtglpgohilfoecaaGreat
open Go.RowKit
attribute [local irreducible] Go.wpList Go.Code.wp Go.Exit.then Go.Exit.inBlock Go.bodyPost Go.Calls pE pB G RunsV FnV Fn FnM
set_option maxRecDepth 100000
set_option maxHeartbeats 1000000
def mkSS (k : Int) (t : List Int × Value) : List Int × Value := (markG mkI cntI k t.1, t.2)
def cntSS (t : List Int × Value) : Nat := cntG cntI t.1
end Go.Proofs.YtglpgohilfoecaaGreat

/-
  Tables of groups: what is put where. No program is in sight here.
-/
namespace Go.Proofs.YtglpgohilfoecaaGreat
open Go.RowKit
/-- x is put into the first list that p holds of, or into a list of its own. -/
def putM (p : List Int → Bool) : List (List Int) → Int → List (List Int)
  | [], x => [[x]]
  | g :: r, x => if p g then (g ++ [x]) :: r else g :: putM p r x
theorem put_no {p : List Int → Bool} {x : Int} : ∀ {l : List (List Int)}, l.any p = false → putM p l x = l ++ [[x]]
  | [], _ => rfl
  | g :: r, h => by
    simp only [List.any_cons, Bool.or_eq_false_iff] at h
    rw [putM, h.1, put_no h.2]; simp
theorem put_at {p : List Int → Bool} {x : Int} : ∀ {l : List (List Int)} {k : Nat} {b : List Int}, (l.take k).any p = false → l[k]? = some b → p b = true → putM p l x = l.set k (b ++ [x])
  | [], k, b, _, h, _ => by simp at h
  | g :: r, 0, b, _, h, hb => by
    simp at h; subst h; rw [putM, if_pos hb]; rfl
  | g :: r, k + 1, b, h0, h, hb => by
    simp only [List.take_succ_cons, List.any_cons, Bool.or_eq_false_iff] at h0
    simp only [List.getElem?_cons_succ] at h
    rw [putM, h0.1, put_at h0.2 h hb]; simp
theorem d2 {α : Type} (p : α → Bool) : ∀ l : List α, (idxM p l = -1 ∧ l.any p = false) ∨ ∃ (k : Nat) (b : α), idxM p l = (k : Int) ∧ l[k]? = some b ∧ p b = true ∧ (l.take k).any p = false
  | [] => .inl ⟨rfl, rfl⟩
  | x :: r => by
    by_cases hx : p x = true
    · exact .inr ⟨0, x, by rw [idxM, if_pos hx]; rfl, rfl, hx, rfl⟩
    · have hx2 : p x = false := by simpa using hx
      rcases d2 p r with ⟨h1, h2⟩ | ⟨k, b, h1, h2, h3, h4⟩
      · exact .inl ⟨by rw [idxM, if_neg hx, if_pos (by omega)], by rw [List.any_cons, hx2, h2]; rfl⟩
      · exact .inr ⟨k + 1, b, by rw [idxM, if_neg hx, if_neg (by omega), h1]; omega, h2, h3, by rw [List.take_succ_cons, List.any_cons, hx2, h4]; rfl⟩
/-- The first place from i on that p holds of. -/
def idxFrom {α : Type} (p : α → Bool) (l : List α) (i : Nat) : Int := if idxM p (l.drop i) < 0 then -1 else idxM p (l.drop i) + i
theorem from_end {α : Type} {p : α → Bool} {l : List α} : idxFrom p l l.length = -1 := by
  rw [idxFrom, List.drop_length]; rfl
theorem from_yes {α : Type} {p : α → Bool} {l : List α} {i : Nat} {b : α} (hb : l[i]? = some b) (h : p b = true) : (i : Int) = idxFrom p l i := by
  obtain ⟨h1, rfl⟩ := List.getElem?_eq_some_iff.1 hb
  rw [idxFrom, List.drop_eq_getElem_cons h1, idxM, if_pos h]; simp
theorem from_no {α : Type} {p : α → Bool} {l : List α} {i : Nat} {b : α} (hb : l[i]? = some b) (h : p b = false) : idxFrom p l (i + 1) = idxFrom p l i := by
  obtain ⟨h1, rfl⟩ := List.getElem?_eq_some_iff.1 hb
  have e : idxM p (l.drop i) = if idxM p (l.drop (i + 1)) < 0 then -1 else idxM p (l.drop (i + 1)) + 1 := by
    rw [List.drop_eq_getElem_cons h1, idxM, if_neg (by rw [h]; decide)]
  unfold idxFrom
  rw [e]
  have hg := idx_ge p (l.drop (i + 1))
  split <;> split <;> omega
theorem dE {α : Type} {p : α → Bool} {l : List α} : idxFrom p l 0 = idxM p l := by
  rw [idxFrom, List.drop_zero]
  have := idx_ge p l
  split
  · omega
  · simp
def putAll (p : List Int → Int → Bool) (l : List Int) : List (List Int) := l.foldl (fun out x => putM (fun g => p g x) out x) []
theorem dd {p : List Int → Int → Bool} {l : List Int} {k : Nat} {x : Int} (h : l[k]? = some x) : putAll p (l.take (k + 1)) = putM (fun g => p g x) (putAll p (l.take k)) x := bP h _ []
theorem put_sum (p : List Int → Bool) (x : Int) : ∀ l : List (List Int), ((putM p l x).map List.length).sum = (l.map List.length).sum + 1
  | [] => rfl
  | g :: r => by
    have := put_sum p x r
    rw [putM]; split
    · simp only [List.map_cons, List.sum_cons, List.length_append, List.length_singleton]; omega
    · simp only [List.map_cons, List.sum_cons]; omega
theorem put_lenle (p : List Int → Bool) (x : Int) : ∀ l : List (List Int), (putM p l x).length ≤ l.length + 1
  | [] => Nat.le_refl _
  | g :: r => by
    have := put_lenle p x r
    rw [putM]; split
    · simp only [List.length_cons]; omega
    · simp only [List.length_cons]; omega
theorem putAll_sumG (p : List Int → Int → Bool) : ∀ (l : List Int) (out : List (List Int)), ((l.foldl (fun out x => putM (fun g => p g x) out x) out).map List.length).sum = (out.map List.length).sum + l.length
  | [], out => by simp
  | x :: r, out => by
    rw [List.foldl_cons, putAll_sumG p r, put_sum, List.length_cons]; omega
theorem putAll_lenG (p : List Int → Int → Bool) : ∀ (l : List Int) (out : List (List Int)), (l.foldl (fun out x => putM (fun g => p g x) out x) out).length ≤ out.length + l.length
  | [], out => by simp
  | x :: r, out => by
    have h1 := putAll_lenG p r (putM (fun g => p g x) out x)
    have h2 := put_lenle (fun g => p g x) x out
    rw [List.foldl_cons, List.length_cons]; omega
theorem putAll_sum (p : List Int → Int → Bool) (l : List Int) : ((putAll p l).map List.length).sum = l.length := by rw [putAll, putAll_sumG]; simp
theorem cQ (p : List Int → Int → Bool) (l : List Int) : (putAll p l).length ≤ l.length := by have := putAll_lenG p l []; simpa [putAll] using this
theorem len_le_sum : ∀ {l : List (List Int)} {g : List Int}, g ∈ l → g.length ≤ (l.map List.length).sum
  | [], g, h => by simp at h
  | a :: r, g, h => by
    rw [List.map_cons, List.sum_cons]
    rcases List.mem_cons.1 h with rfl | h
    · omega
    · have := len_le_sum h; omega
theorem putAll_at {p : List Int → Int → Bool} {l : List Int} {q : Nat} {g : List Int} (h : (putAll p l)[q]? = some g) : g.length ≤ l.length := by
  have := len_le_sum (List.mem_of_getElem? h); rwa [putAll_sum] at this
/-- The groups of kinds: each kind is put into the first group that it may lie beside. -/
def groupsM (ps : List PairM) (l : List Int) : List (List Int) := putAll (fun g x => joinsM ps g x) l
/-- The kinds that are there, as numbers. -/
def presI (r : ReqM) : List Int := (presM r).map (fun n : Nat => (n : Int))
theorem presI_cells (r : ReqM) : (presM r).map ncell = (presI r).map icell := by rw [presI, List.map_map]; rfl
theorem presI_asc (r : ReqM) : (presI r).Pairwise (· < ·) := by
  rw [presI, presM]
  split
  · rw [List.pairwise_map]
    exact (List.pairwise_lt_range.sublist (List.filter_sublist)).imp (fun h => by omega)
  · exact List.Pairwise.nil
theorem presI_len (r : ReqM) : (presI r).length ≤ 4 := by
  rw [presI, List.length_map, presM]
  split
  · exact pres_len r 4
  · simp
theorem presI_in {r : ReqM} {x : Int} (h : x ∈ presI r) : 0 ≤ x ∧ x ≤ 3 := by
  rw [presI, presM] at h
  split at h
  · obtain ⟨n, hn, rfl⟩ := List.mem_map.1 h
    have := List.mem_range.1 (List.mem_filter.1 hn).1
    omega
  · simp at h
theorem dd_sorted {l : List Int} (h : l.Pairwise (· < ·)) : ddM (sortM l) = l :=
  asc_uniq (dd_asc (dY _)) h (fun x => by rw [dd_mem, (co _).mem_iff])
/-- The kinds below n that are in a list. -/
def below (l : List Int) (n : Nat) : List Int := ((List.range n).map (fun n : Nat => (n : Int))).filter (hasM l)
theorem below_next {l : List Int} {n : Nat} : below l (n + 1) = below l n ++ (if hasM l (n : Int) then [(n : Int)] else []) := by
  rw [below, List.range_succ, List.map_append, List.filter_append]
  cases h : hasM l (n : Int) <;> simp [below, h]
theorem hasM_iff {l : List Int} {x : Int} : hasM l x = true ↔ x ∈ l := by simp [hasM]
theorem below_all {l : List Int} (h : l.Pairwise (· < ·)) (hb : ∀ x ∈ l, 0 ≤ x ∧ x ≤ 3) : below l 4 = l := by
  refine asc_uniq ?_ h (fun x => ?_)
  · refine List.Pairwise.sublist List.filter_sublist ?_
    rw [List.pairwise_map]
    exact List.pairwise_lt_range.imp (fun h => by omega)
  · simp only [below, List.mem_filter, List.mem_map, List.mem_range, hasM_iff]
    constructor
    · rintro ⟨_, h2⟩; exact h2
    · intro hx
      have := hb x hx
      exact ⟨⟨x.toNat, by omega, by omega⟩, hx⟩
theorem below_len (l : List Int) (n : Nat) : (below l n).length ≤ n := by
  have := List.length_filter_le (hasM l) ((List.range n).map (fun n : Nat => (n : Int)))
  rwa [List.length_map, List.length_range] at this
theorem putAll_snoc {p : List Int → Int → Bool} {l : List Int} {x : Int} : putAll p (l ++ [x]) = putM (fun g => p g x) (putAll p l) x := by
  rw [putAll, List.foldl_append]; rfl
theorem G.bF {n : Nat} {w0 : World} {fr : Fr} {H F : List Ch} {t : TypeId} {s : Nat} {v : Value} {es : List (List Value)} {rs : List (Value × List (List Value))} (rs' : List (Value × List (List Value))) {K : Act → World → Prop} (e : rs ++ [(v, es)] = rs') (hH : H = .row v t s es :: .grp t s rs :: F) (h : G n w0 fr (.grp t s rs' :: F) K) : G n w0 fr H K :=
  G.heap (fun w hh => by subst e hH; exact hh.push) h
theorem G.bt {n : Nat} {w0 : World} {fr : Fr} {H : List Ch} (m : Nat) {c1 c2 : Ch} {J : List Ch} {K : Act → World → Prop} (hH : H = c1 :: c2 :: J) (h : G n w0 fr (c1 :: c2 :: J.drop m) K) : G n w0 fr H K := G.heap (fun w hh => by subst hH; exact hh.sublist (List.Sublist.cons_cons _ (List.Sublist.cons_cons _ (List.drop_sublist m J)))) h
theorem dx {α : Type} (l : List α) : l = [] ∨ ∃ tp t, l = tp ++ [t] := by
  rcases List.eq_nil_or_concat l with h | ⟨a, b, h⟩
  · exact .inl h
  · exact .inr ⟨a, b, by rw [h, List.concat_eq_append]⟩
theorem G.keep1 {n : Nat} {w0 : World} {fr : Fr} {H : List Ch} (m : Nat) {c1 : Ch} {J : List Ch} {K : Act → World → Prop} (hH : H = c1 :: J) (h : G n w0 fr (c1 :: J.drop m) K) : G n w0 fr H K := G.heap (fun w hh => by subst hH; exact hh.sublist (List.Sublist.cons_cons _ (List.drop_sublist m J))) h
section
variable {P : Program} {n : Nat} {w0 : World} {fr : Fr} {H : List Ch} {x y : Operand} {t t' : TypeId} {p q : Int}
end
attribute [local irreducible] Go.wpList Go.Code.wp Go.Exit.then Go.Exit.inBlock Go.bodyPost Go.Calls pE pB G RunsV FnV Fn FnM
set_option maxRecDepth 100000
set_option maxHeartbeats 4000000
def vI (x : ItemM) : Int := volM x.w x.h x.d
theorem vol_in {w h d : Int} (hw : 1 ≤ w ∧ w ≤ 2000) (hh : 1 ≤ h ∧ h ≤ 2000) (hd : 1 ≤ d ∧ d ≤ 2000) : 1 ≤ volM w h d ∧ volM w h d ≤ 8000000000 := by
  have e : (inB w 0 2000 && inB h 0 2000 && inB d 0 2000) = true := by simp only [inB, Bool.and_eq_true, decide_eq_true_eq]; omega
  have a1 : 1 ≤ w * h := by have := Int.mul_le_mul hw.1 hh.1 (by omega) (by omega); omega
  have a2 : w * h ≤ 4000000 := by have := Int.mul_le_mul hw.2 hh.2 (by omega) (by omega); omega
  have b1 : 1 ≤ w * h * d := by have := Int.mul_le_mul a1 hd.1 (by omega) (by omega); omega
  have b2 : w * h * d ≤ 8000000000 := by have := Int.mul_le_mul a2 hd.2 (by omega) (by omega); omega
  have e2 : IntKind.i64.wrap (w * h) = w * h := cN (by omega) (by omega)
  rw [volM, if_pos e, e2, cN (by omega) (by omega)]
  exact ⟨b1, b2⟩
theorem item_vol {x : ItemM} (h : itemOkM x = true) : 1 ≤ vI x ∧ vI x ≤ 8000000000 := by
  simp only [itemOkM, Bool.and_eq_true, inB, decide_eq_true_eq] at h
  exact vol_in h.1.1.1.1.1.2 h.1.1.1.1.2 h.1.1.1.2
def mst (r : ReqM) : TypeM := (typeAt r r.master).1
theorem mst_ok {r : ReqM} (h : classM r = 0) : typeOkM (mst r) = true := by
  have hb := bR h
  have hn : namesM r = true := by
    cases hn : namesM r with
    | true => rfl
    | false => rw [classM, if_neg (by simp [hb]), if_pos hn] at h; omega
  simp only [namesM, Bool.and_eq_true] at hn
  have h2 := hn.2
  rw [mst]
  rw [typeAt] at h2 ⊢
  cases hf : typeByM r r.master with
  | none => rw [hf] at h2; cases h2
  | some t => exact dj hb t (List.mem_of_find?_eq_some hf)
def vOf (r : ReqM) (u : Int) : Int := match itemAt r u with | some x => vI x | none => 0
def volUS (r : ReqM) (us : List Int) : Int := (us.map (vOf r)).sum
theorem vOf_in (r : ReqM) (u : Int) : 0 ≤ vOf r u ∧ vOf r u ≤ 8000000000 := by
  unfold vOf
  cases h : itemAt r u with
  | none => simp
  | some x => have := item_vol (itemAt_ok h); dsimp only; omega
theorem volUS_take {r : ReqM} {us : List Int} {k : Nat} {u : Int} (hb : us[k]? = some u) : volUS r (us.take (k + 1)) = volUS r (us.take k) + vOf r u := by
  simp [volUS, List.take_add_one, hb, List.sum_append]
theorem volUS_in (r : ReqM) : ∀ us : List Int, 0 ≤ volUS r us ∧ volUS r us ≤ 8000000000 * us.length
  | [] => by simp [volUS]
  | u :: us => by
    have h1 := volUS_in r us
    have h2 := vOf_in r u
    simp only [volUS, List.map_cons, List.sum_cons, List.length_cons] at *
    omega
def vSum (l : List ItemM) : Int := (l.map vI).sum
theorem vSum_take {l : List ItemM} {k : Nat} {b : ItemM} (h : l[k]? = some b) : vSum (l.take (k + 1)) = vSum (l.take k) + vI b := by
  simp [vSum, List.take_add_one, h, List.sum_append]
theorem vSum_items (r : ReqM) : ∀ us : List Int, vSum (itemsM r us) = volUS r us
  | [] => rfl
  | u :: us => by
    have h1 := vSum_items r us
    simp only [itemsM, volUS, vSum, List.filterMap_cons, List.map_cons, List.sum_cons] at *
    cases h : itemAt r u with
    | none => simp only [vOf, h]; omega
    | some x => simp only [vOf, h, List.map_cons, List.sum_cons]; omega
theorem vSum_in : ∀ {l : List ItemM}, (∀ x ∈ l, itemOkM x = true) → 0 ≤ vSum l ∧ vSum l ≤ 8000000000 * l.length
  | [], _ => by simp [vSum]
  | x :: l, h => by
    have h1 := vSum_in (fun y hy => h y (List.mem_cons_of_mem _ hy))
    have h2 := item_vol (h x (List.mem_cons_self))
    simp only [vSum, List.map_cons, List.sum_cons, List.length_cons] at *
    omega
def upByM (a b : Int) : Int := (a + b - 1).tdiv b
def lowVolM (r : ReqM) (us : List Int) : Int := if classM r = 0 then upByM (volUS r us) (volM (mst r).w (mst r).h (mst r).d) else 0
def lowGramM (r : ReqM) (us : List Int) : Int := if classM r = 0 then upByM (gramM r us) (mst r).g else 0
def wideP (r : ReqM) (x : ItemM) : Bool := decide (2 * vI x > volM (mst r).w (mst r).h (mst r).d)
def heavyP (r : ReqM) (x : ItemM) : Bool := decide (2 * x.g > (mst r).g)
def greatM (r : ReqM) (us : List Int) : Int := if classM r = 0 then max ((itemsM r us).countP (wideP r) : Int) ((itemsM r us).countP (heavyP r) : Int) else 0
def lowM (r : ReqM) (us : List Int) : Int := max (max (lowVolM r us) (lowGramM r us)) (greatM r us)
theorem volumeOf_any {r : ReqM} {pv tv iv uv : Value} {us : List Int} (w : World) (h : Rd w pv 2 (r.pairs.map PairM.cells)) (h2 : Rd w tv 7 (r.types.map TypeM.cells)) (h3 : Rd w iv 7 (r.items.map ItemM.cells)) (h4 : Rd w uv 1 (us.map icell)) (hul : us.length ≤ 1048576) :
    FnV Tryz.prog 179 [.agg (r.cells pv tv iv).toArray, uv] w (.int .i64 (volUS r us)) := by
  have hil := items_len r us
  have hil2 : ((itemsM r us).map ItemM.cells).length = (itemsM r us).length := by simp
  refine FnV.of (n := 27) Tryz.func179 rfl rfl ?_; refine G.seq (G.region ?_); refine G.op (bE rfl rfl) rfl (fun bk2 _ => ?_); refine G.v (bb rfl) rfl (G.I (G.E (G.seq (G.region (G.v (bb rfl) rfl (G.I (G.E (G.seq (G.seq (G.region (G.v (bj 0 rfl rfl rfl) rfl ?_))))))))))); refine G.v (ba rfl) rfl ?_; refine G.op (bH rfl rfl (fun w hh => itemsOf_any (r := r) (us := us) w (Rd.stays h _ hh) (Rd.stays h2 _ hh) (Rd.stays h3 _ hh) (Rd.stays h4 _ hh) hul)) rfl ?_; rintro vs hvs; try dsimp only
  refine G.v (bz rfl (by exact Rd.ba 0 rfl)) rfl ?_; refine G.v (ba rfl) rfl (G.I (G.E (G.block ?_))); refine G.Y (ι := Nat) (ks := [10, 11]) (fun k => [(5, .int .i64 (vSum ((itemsM r us).take k))), (12, .int .i64 k)]) (fun _ => []) (fun k => k ≤ (itemsM r us).length) (fun k => (itemsM r us).length - k) 0 (.cons rfl (.cons rfl (.nil))) rfl ?_ ?_ ?_
  exact Nat.zero_le _
  exact ⟨rfl, rfl, trivial⟩
  rintro k hk
  have hgi := vSum_in (l := (itemsM r us).take k) (fun x hx => items_ok x (List.mem_of_mem_take hx))
  rw [List.length_take, Nat.min_eq_left hk] at hgi
  by_cases hlt : k < (itemsM r us).length
  case' pos => (obtain ⟨b, hb⟩ := bn hlt; have he := bt hb ItemM.cells; have hbg : 1 ≤ volM b.w b.h b.d ∧ volM b.w b.h b.d ≤ 8000000000 := item_vol (items_ok b (List.mem_of_getElem? hb)); have hgt := vSum_take hb)
  all_goals
   refine G.seq (G.region (G.v (br rfl rfl) rfl (G.I (G.E (G.seq ?_))))); refine G.cond rfl (fun hc => ?_) (fun hc => ?_)
   · all_goals
      replace hc := of_decide_eq_true hc
      try (exfalso; omega)
      all_goals
       refine G.skip (G.E (G.seq (G.block (G.seq (G.region ?_))))); refine G.v (bg rfl rfl (by exact Rd.ba 0 rfl) rfl (by assumption)) rfl ?_; refine G.v (bN rfl (by exact Rd.ba 0 rfl) (by assumption) rfl) rfl ?_; refine G.op (bu) rfl (fun bk7 _ => ?_); refine G.bk (bL rfl rfl rfl rfl rfl rfl (.zero (.cons (.cons (.cons (.cons (.cons (.cons (.cons .nil))))))))) (fun _ _ => ?_); refine G.I (G.E (G.region (G.v (ba rfl) rfl (G.v (be rfl) rfl (G.v (bf 0 rfl rfl rfl) rfl (G.v (be rfl) rfl (G.v (bf 0 rfl rfl rfl) rfl (G.v (be rfl) rfl (G.v (bf 0 rfl rfl rfl) rfl ?_))))))))); refine G.op (bh rfl rfl (fun w hh => volume_any b.w b.h b.d w)) rfl (fun _ _ => ?_); refine G.v (bD rfl rfl (by omega) (by omega)) rfl ?_; refine G.v (bb rfl) rfl (G.I (G.bc (G.E (G.region ?_)))); refine G.v (bp rfl rfl (by omega)) rfl ?_; refine G.v (ba rfl) rfl (G.I ?_); refine G.V (k + 1) 1 rfl (.cons rfl (.cons rfl (.nil))) ?_ ?_ ?_
       exact ⟨congrArg (fun z => some (Value.int .i64 z)) hgt.symm, rfl, trivial⟩
       exact hlt
       omega
   · all_goals
      replace hc := of_decide_eq_false hc
      try (exfalso; omega)
      all_goals
       refine G.exit (G.L (G.L (G.bn (G.E (G.seq (G.region (G.v (ba rfl) rfl (G.v (bb rfl) rfl (G.I (G.E (G.ret ?_)))))))))))
       exact G.U rfl rfl (congrArg (Value.int .i64) (by rw [bZ (by omega)]; exact vSum_items r us))
section
variable {r : ReqM} {pv tv iv uv : Value} {us : List Int} (w : World) (h : Rd w pv 2 (r.pairs.map PairM.cells)) (h2 : Rd w tv 7 (r.types.map TypeM.cells)) (h3 : Rd w iv 7 (r.items.map ItemM.cells)) (h4 : Rd w uv 1 (us.map icell)) (hul : us.length ≤ 1048576)
include h h2 h3 h4 hul
end
end Go.Proofs.YtglpgohilfoecaaGreat

/-
  What no packing is below: the reference's way, and the law.
-/
namespace Go.Proofs.YtglpgohilfoecaaGreat
open Go.RowKit
section
variable {P : Program} {n : Nat} {w0 : World} {fr : Fr} {H : List Ch}
def fieldOne (P : Program) (t : TypeId) (i : Nat) : Option Nat :=
  match P.underlying t with
  | some (.struct fs) => match fs[i]? with
    | some f => if (P.underlying f.type).map aggB = some false then some f.offset else none
    | none => none
  | _ => none
theorem rv_fieldV {x : Operand} {t : TypeId} {i : Nat} {cs : List Value} {v : Value} (off : Nat) (hx : opv fr x = some (.agg cs.toArray)) (hF : fieldOne P t i = some off) (hv : cs[off]? = some v) : RunsV P n w0 fr H (.field t x i) v := fun a w hr _ _ _ _ _ _ => by
  unfold fieldOne at hF
  split at hF
  · rename_i fs hs
    split at hF
    · rename_i f hf
      split at hF
      · rename_i h1
        injection hF with hF
        subst hF
        simp [execOp, hr.opv hx, Instr.field, run_underlying hs, hf, asAgg, part, run_isAgg_one h1, hv]
      · cases hF
    · cases hF
  · cases hF
theorem rv_sliceLH {x y z : Operand} {t e : TypeId} {s bs : Nat} {zs : List Value} [hT : TySlice P t e] [hI : TyInfo P e s zs bs] {v : Value} {es : List (List Value)} {k k2 : IntKind} {l h : Nat} {q : Int} (hx : opv fr x = some v) (hy : opv fr y = some (.int k (l : Int))) (hz : opv fr z = some (.int k2 q)) (hq : q = (h : Int)) (hv : ∀ w, HeapOk w0 w H → Rd w v s es) (hl : l ≤ h) (hh : h ≤ es.length) :
    RunsV P n w0 fr H (.slice t x (some y) (some z) none) (subV v s l h) := fun a w hr hw _ _ _ _ _ => by
  subst hq
  obtain ⟨ad, cap, rfl, h1, h2, h3⟩ := (hv w hw).form
  obtain ⟨i, z, g1, g2, g3, g4, g5⟩ := hI.get
  have e1 : (l : Int) ≤ (h : Int) := by omega
  have e2 : (0 : Int) ≤ (l : Int) := by omega
  have e3 : (h : Int) ≤ (cap : Int) := by omega
  have e4 : (0 : Int) ≤ (h : Int) := by omega
  simp [execOp, hr.opv hx, hr.opv hy, hr.opv hz, Instr.sliceAt, Instr.slice, run_underlying hT.h, Instr.sliceBounds, run_sliceBound, sizeOf, typeInfo, g1, g2, subV, sliced, e1, e2, e3, e4]
theorem FnV.toFn {f : FuncId} {vs : List Value} {w : World} {v : Value} (h : FnV P f vs w v) : Fn P f vs w (fun _ : Unit => True) (fun _ => v) (fun _ => []) :=
  Calls.mono h fun e w' he => ⟨(), trivial, he.1, he.2⟩
end
attribute [local irreducible] Go.wpList Go.Code.wp Go.Exit.then Go.Exit.inBlock Go.bodyPost Go.Calls pE pB G RunsV FnV Fn FnM
set_option maxRecDepth 100000
set_option maxHeartbeats 4000000
theorem itemOr_v (r : ReqM) (u : Int) : volM (itemOr r u).w (itemOr r u).h (itemOr r u).d = vOf r u := by
  rw [itemOr, vOf]; cases itemAt r u <;> rfl
theorem load_eq {r : ReqM} {us : List Int} {k : Nat} {u : Int} (hb : us[k]? = some u) : [Value.int .i64 (volUS r (us.take k) + volM (itemOr r u).w (itemOr r u).h (itemOr r u).d), Value.int .i64 (gramM r (us.take k) + (itemOr r u).g)] = [Value.int .i64 (volUS r (us.take (k + 1))), Value.int .i64 (gramM r (us.take (k + 1)))] := by
  rw [volUS_take hb, gram_take hb, itemOr_v, itemOr_g]
theorem one_sub {us : List Int} {k : Nat} {u : Int} (hb : us[k]? = some u) : ((us.map icell).drop k).take (k + 1 - k) = [u].map icell := by
  have hk := (List.getElem?_eq_some_iff.1 hb)
  obtain ⟨h1, rfl⟩ := hk
  rw [show k + 1 - k = 1 by omega, ← List.map_drop, List.drop_eq_getElem_cons h1]; rfl
theorem volUS_one (r : ReqM) (u : Int) : volUS r [u] = vOf r u := by simp [volUS]
section
variable {r : ReqM} {pv tv iv uv : Value} {us : List Int} (w : World) (h : Rd w pv 2 (r.pairs.map PairM.cells)) (h2 : Rd w tv 7 (r.types.map TypeM.cells)) (h3 : Rd w iv 7 (r.items.map ItemM.cells)) (h4 : Rd w uv 1 (us.map icell)) (hul : us.length ≤ 1048576)
include h3 h4 hul in
theorem ca {av : Value} (h5 : Rd w av 1 ((unitsM r).map ncell)) : FnV Tryz.prog 197 [.agg (r.cells pv tv iv).toArray, av, uv] w (.agg [.int .i64 (volUS r us), .int .i64 (gramM r us)].toArray) := by
  refine FnV.of (n := 46) Tryz.func197 rfl rfl ?_; refine G.seq (G.region ?_); refine G.op (bE rfl rfl) rfl (fun bk3 _ => ?_); refine G.op (bu) rfl (fun bk6 _ => ?_); refine G.I (G.E (G.seq (G.region ?_))); refine G.v (bJ rfl .nil .nil) rfl ?_; refine G.op (bu) rfl (fun bk7 _ => ?_); refine G.bk (bL rfl rfl rfl rfl rfl rfl (.zero (.cons (.cons .nil)))) (fun _ _ => ?_); refine G.I (G.E (G.seq (G.seq (G.region (G.v (bb rfl) rfl (G.I (G.E (G.block ?_)))))))); refine G.Y (ι := Nat) (ks := [1, 2, 3, 6, 7]) (fun k => [(8, .int .i64 k)]) (fun k => [.blk bk7 201 [.int .i64 (volUS r (us.take k)), .int .i64 (gramM r (us.take k))]]) (fun k => k ≤ us.length) (fun k => us.length - k) 0 (.cons rfl (.cons rfl (.cons rfl (.cons rfl (.cons rfl (.nil)))))) rfl ?_ ?_ ?_
  exact Nat.zero_le _
  exact ⟨rfl, trivial⟩
  rintro k hk
  have hgi := gram_in r (us.take k)
  have hvi := volUS_in r (us.take k)
  rw [List.length_take, Nat.min_eq_left hk] at hgi hvi
  by_cases hlt : k < us.length
  case' pos => (obtain ⟨u, hb⟩ := bn hlt; have e1 := bt hb icell; have hog := itemOr_g r u; have hov := itemOr_v r u; have hg2 := gOf_in r u; have hv2 := vOf_in r u)
  all_goals
   refine G.seq (G.seq (G.region (G.v (ba rfl) rfl (G.v (ba rfl) rfl ?_)))); refine G.v (bz rfl (by exact Rd.stays (by assumption))) rfl ?_; refine G.v (br rfl rfl) rfl (G.I (G.E ?_)); refine G.cond rfl (fun hc => ?_) (fun hc => ?_)
   · all_goals
      replace hc := of_decide_eq_true hc
      simp only [List.length_map] at hc
      try (exfalso; omega)
      all_goals
       refine G.skip (G.E (G.seq (G.block (G.seq ?_)))); refine G.ba [12] ?_; refine GE.q 0 rfl (by as_aux_lemma => kernel_rfl) rfl (bc (bj 2 rfl rfl rfl)) rfl ?_; refine GE.q 1 rfl (by as_aux_lemma => kernel_rfl) rfl (bc (ba rfl)) rfl ?_; refine GE.q 2 rfl (by as_aux_lemma => kernel_rfl) rfl (bc (ba rfl)) rfl ?_; refine GE.q 3 rfl (by as_aux_lemma => kernel_rfl) rfl (bc (ba rfl)) rfl ?_; refine GE.q 4 rfl (by as_aux_lemma => kernel_rfl) rfl (bc (bg rfl rfl (by exact Rd.stays (by assumption)) rfl (by assumption))) rfl ?_; refine GE.q 5 rfl (by as_aux_lemma => kernel_rfl) rfl (bc (bi rfl (by exact Rd.stays (by assumption)) (by assumption) rfl)) rfl ?_; refine GE.q 6 rfl (by as_aux_lemma => kernel_rfl) rfl (cY rfl rfl (fun w hh => l6Item_any (r := r) u w (Rd.stays h3 _ hh) (Rd.stays h5 _ hh))) rfl ?_; refine GE.q 7 rfl (by as_aux_lemma => kernel_rfl) rfl (bc (ba rfl)) rfl ?_; refine GE.q 8 rfl (by as_aux_lemma => kernel_rfl) rfl (bc (bC rfl rfl)) rfl ?_; refine GE.q 9 rfl (by as_aux_lemma => kernel_rfl) rfl (bc (bC rfl rfl)) rfl ?_; refine GE.V 10 (by as_aux_lemma => kernel_rfl) rfl rfl (bu) rfl (fun _ _ h => by exact h.drop 1) (fun bk9 _ => ?_)
       refine GE.ol0 11 (by as_aux_lemma => kernel_rfl) rfl rfl (bL rfl rfl rfl rfl rfl rfl (.zero (.cons (.cons (.cons (.cons (.cons (.cons (.cons .nil))))))))) (fun _ _ h => by exact h.drop 1) (fun _ _ => ?_); refine GE.t 12 (by as_aux_lemma => kernel_rfl) rfl rfl rfl (bd (bb rfl)) rfl (fun _ _ => ?_); refine GE.E (by as_aux_lemma => kernel_rfl) ?_; refine G.E (G.seq ?_); refine G.ba [10, 11] ?_; refine GE.q 0 rfl (by as_aux_lemma => kernel_rfl) rfl (bc (be rfl)) rfl ?_; refine GE.q 1 rfl (by as_aux_lemma => kernel_rfl) rfl (bc (bf 1 rfl rfl rfl)) rfl ?_; refine GE.q 2 rfl (by as_aux_lemma => kernel_rfl) rfl (bc (be rfl)) rfl ?_; refine GE.q 3 rfl (by as_aux_lemma => kernel_rfl) rfl (bc (bf 0 rfl rfl rfl)) rfl ?_; refine GE.q 4 rfl (by as_aux_lemma => kernel_rfl) rfl (bc (be rfl)) rfl ?_; refine GE.q 5 rfl (by as_aux_lemma => kernel_rfl) rfl (bc (bf 0 rfl rfl rfl)) rfl ?_; refine GE.V 6 (by as_aux_lemma => kernel_rfl) rfl rfl (bd (be rfl)) rfl (fun _ _ h => by exact h) (fun _ _ => ?_); refine GE.V 7 (by as_aux_lemma => kernel_rfl) rfl rfl (bd (bf 0 rfl rfl rfl)) rfl (fun _ _ h => by exact h) (fun _ _ => ?_); refine GE.V 8 (by as_aux_lemma => kernel_rfl) rfl rfl (bh rfl rfl (fun w hh => svolume_any (itemOr r u).w (itemOr r u).h (itemOr r u).d w)) rfl (fun _ _ h => by exact h) (fun _ _ => ?_)
       refine GE.V 9 (by as_aux_lemma => kernel_rfl) rfl rfl (bd (bD rfl rfl (by omega) (by omega))) rfl (fun _ _ h => by exact h) (fun _ _ => ?_); refine GE.t 10 (by as_aux_lemma => kernel_rfl) rfl rfl rfl (bd (be rfl)) rfl (fun _ _ => ?_); refine GE.U 11 (by as_aux_lemma => kernel_rfl) rfl rfl rfl (cf rfl rfl rfl rfl rfl rfl (.zero (.cons .nil))) (fun _ _ => ?_); refine GE.E (by as_aux_lemma => kernel_rfl) ?_; refine G.E (G.region (G.v (be rfl) rfl (G.v (bf 1 rfl rfl rfl) rfl (G.v (be rfl) rfl (G.v (bf 0 rfl rfl rfl) rfl ?_))))); refine G.v (bD rfl rfl (by omega) (by omega)) rfl ?_; refine G.v (be rfl) rfl ?_; refine G.bk (cf rfl rfl rfl rfl rfl rfl (.succ (.zero (.cons .nil)))) (fun _ _ => ?_); refine G.I (G.bc (G.E (G.region (G.v (ba rfl) rfl ?_)))); refine G.v (bp rfl rfl (by omega)) rfl ?_; refine G.v (bb rfl) rfl (G.I ?_); refine G.V (k + 1) 1 (bV (congrArg (fun z => Ch.blk bk7 201 z) (load_eq hb))) (.cons rfl (.cons rfl (.cons rfl (.cons rfl (.cons rfl (.nil)))))) ?_ ?_ ?_
       exact ⟨rfl, trivial⟩
       exact hlt
       omega
   · all_goals
      replace hc := of_decide_eq_false hc
      simp only [List.length_map] at hc
      try (exfalso; omega)
      all_goals
       refine G.exit (G.L (G.L (G.bn (G.E (G.seq (G.region (G.v (bj 0 rfl rfl rfl) rfl ?_))))))); refine G.bk (cf rfl rfl rfl rfl rfl rfl (.zero (.cons (.cons .nil)))) (fun _ _ => ?_); refine G.I (G.E (G.ret ?_))
       rw [bZ (l := us) (k := k) (by omega)]; exact G.retFVc 1 rfl rfl rfl rfl rfl
include h h2 h3 h4 hul
end
end Go.Proofs.YtglpgohilfoecaaGreat
