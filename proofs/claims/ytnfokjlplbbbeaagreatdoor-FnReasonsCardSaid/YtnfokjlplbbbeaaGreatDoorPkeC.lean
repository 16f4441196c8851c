/-
  Texts of this proof, one behind the other: Cls, Push.
-/
import Derived.Test.YtnfokjlplbbbeaaGreatDoorPkeB
import Derived.Test.YtnfokjlplbbbeaaGreatDoorPkeA

/-
  What is wrong with an order.
-/
namespace Go.Proofs.YtnfokjlplbbbeaaGreatDoor
open Go.RowKit
attribute [local irreducible] Go.wpList Go.Code.wp Go.Exit.then Go.Exit.inBlock Go.bodyPost Go.Calls pE pB G RunsV FnV Fn FnM
set_option maxRecDepth 100000
set_option maxHeartbeats 4000000
def tooBig (p : PalletM) (t : TypeM) : Bool := decide (t.w > p.w) || decide (t.d > p.d) || decide (t.h > p.h) || decide (t.tare + t.g > p.g)
def classM (r : ReqM) : Int :=
  if boundsOkM r = false then 2 else if namesM r = false then 3 else if tableOkM r.pairs r.classes = false then 4
  else if (r.items.any fun x => !fitsM x (typeAt r r.master).1) = true then 5 else if (r.types.any (tooBig r.pal)) = true then 6 else 0
theorem bounds_types {r : ReqM} (h : boundsOkM r = true) : ∀ t ∈ r.types, typeOkM t = true := by
  simp only [boundsOkM, Bool.and_eq_true, List.all_eq_true] at h
  exact h.1.1.1.1.2
theorem type_in {t : TypeM} (h : typeOkM t = true) : 0 ≤ t.tare ∧ t.tare ≤ 100000 ∧ 1 ≤ t.g ∧ t.g ≤ 100000 := by
  simp only [typeOkM, Bool.and_eq_true, inB, decide_eq_true_eq] at h
  exact ⟨h.1.1.2.1, h.1.1.2.2, h.1.2.1, h.1.2.2⟩
theorem cls_sound {r : ReqM} (h : classM r = 0) : boundsOkM r = true := by
  cases hb : boundsOkM r with
  | true => rfl
  | false => rw [classM, if_pos hb] at h; omega
theorem any_at {α : Type} {f : α → Bool} {l : List α} {k : Nat} {b : α} (hb : l[k]? = some b) (hp : f b = true) : l.any f = true :=
  List.any_eq_true.2 ⟨b, List.mem_of_getElem? hb, hp⟩
theorem any_end {α : Type} {f : α → Bool} {l : List α} {k : Nat} (h : (l.take k).any f = false) (hk : ¬ k < l.length) : l.any f = false := by rwa [List.take_of_length_le (by omega)] at h
theorem class1_any (t : TypeM) (b : ItemM) {q : Nat} (w : World) (h : Rd w (.slice (some ⟨q, 0, none⟩) 1 1) 7 [t.cells]) : FnV Tryz.prog 25 [.agg (ItemM.cells b).toArray, pB q 0] w (.bool (!fitsM b t)) := by
  rw [pB_eq_pE q 7]
  refine FnV.of (n := 8) Tryz.func25 rfl rfl ?_; refine G.seq (G.region ?_); refine G.op (og_box rfl rfl) rfl (fun bk2 _ => ?_); refine G.v (rv_assign rfl) rfl (G.done (G.thenN (G.seq (G.region ?_))))
  (first | refine G.v (rv_loadW 0 rfl rfl rfl) rfl ?_ | refine G.v (rv_loadP 0 rfl rfl (.one (.one (.one (.one (.one (.one (.one .nil)))))))) rfl ?_)
  (first | refine G.v (rv_loadW 0 rfl rfl rfl) rfl ?_ | refine G.v (rv_loadEW rfl (by first | exact Rd.stays (by assumption) | exact Rd.owned 0 rfl) rfl rfl) rfl ?_ | refine G.v (rv_loadP 0 rfl rfl (.one (.one (.one (.one (.one (.one (.one .nil)))))))) rfl ?_ | refine G.v (rv_loadEP rfl (by first | exact Rd.stays (by assumption) | exact Rd.owned 0 rfl) rfl (.one (.one (.one (.one (.one (.one (.one .nil)))))))) rfl ?_)
  refine G.op (og_callV rfl rfl (fun w hh => fits_any b t w)) rfl (fun _ _ => ?_); refine G.v (rv_not rfl) rfl (G.v (rv_assign rfl) rfl (G.done (G.thenN (G.ret ?_))))
  exact G.retFV rfl rfl rfl
theorem class2_any (p : PalletM) (t : TypeM) {q : Nat} (w : World) (ht : typeOkM t = true) (h : Rd w (.slice (some ⟨q, 0, none⟩) 1 1) 4 [p.cells]) : FnV Tryz.prog 27 [.agg (TypeM.cells t).toArray, pB q 0] w (.bool (tooBig p t)) := by
  rw [pB_eq_pE q 4]
  have htb := type_in ht
  refine FnV.of (n := 33) Tryz.func27 rfl rfl ?_; refine G.seq (G.region ?_); refine G.op (og_box rfl rfl) rfl (fun bk2 _ => ?_); refine G.v (rv_assign rfl) rfl (G.done (G.thenN (G.seq (G.region ?_))))
  (first | refine G.v (rv_field rfl) rfl ?_ | refine G.v (rv_fieldE rfl) rfl ?_)
  refine G.v (rv_load1 0 rfl rfl rfl) rfl ?_
  (first | refine G.v (rv_field rfl) rfl ?_ | refine G.v (rv_fieldE rfl) rfl ?_)
  (first | refine G.v (rv_load1 0 rfl rfl rfl) rfl ?_ | refine G.v (rv_loadE rfl (by first | exact Rd.stays (by assumption) | exact Rd.owned 0 rfl) rfl rfl) rfl ?_)
  refine G.v (rv_gtr rfl rfl) rfl (G.v (rv_move rfl) rfl ?_)
  all_goals (((with_reducible refine G.gP rfl rfl (fun hg => ?_) (fun hg => ?_)) <;> (try exact Bool.noConfusion hg) <;> (first | (refine G.gY rfl rfl ?_; (first | refine G.v (rv_field rfl) rfl ?_ | refine G.v (rv_fieldE rfl) rfl ?_)) | refine G.gN rfl rfl rfl ?_ | refine G.gU rfl rfl rfl ?_)))
  all_goals ((first | (refine G.gY rfl rfl ?_; refine G.v (rv_load1 0 rfl rfl rfl) rfl ?_) | refine G.gN rfl rfl rfl ?_ | refine G.gU rfl rfl rfl ?_))
  all_goals ((first | (refine G.gY rfl rfl ?_; (first | refine G.v (rv_field rfl) rfl ?_ | refine G.v (rv_fieldE rfl) rfl ?_)) | refine G.gN rfl rfl rfl ?_ | refine G.gU rfl rfl rfl ?_))
  all_goals ((first | (refine G.gY rfl rfl ?_; (first | refine G.v (rv_load1 0 rfl rfl rfl) rfl ?_ | refine G.v (rv_loadE rfl (by first | exact Rd.stays (by assumption) | exact Rd.owned 0 rfl) rfl rfl) rfl ?_)) | refine G.gN rfl rfl rfl ?_ | refine G.gU rfl rfl rfl ?_))
  all_goals ((first | (refine G.gY rfl rfl ?_; refine G.v (rv_gtr rfl rfl) rfl ?_) | refine G.gN rfl rfl rfl ?_ | refine G.gU rfl rfl rfl ?_))
  all_goals ((first | refine G.v (rv_pickT rfl rfl) rfl ?_ | refine G.v (rv_pickF rfl rfl) rfl ?_))
  all_goals (refine G.v (rv_move rfl) rfl ?_)
  all_goals (((with_reducible refine G.gP rfl rfl (fun hg => ?_) (fun hg => ?_)) <;> (try exact Bool.noConfusion hg) <;> (first | (refine G.gY rfl rfl ?_; (first | refine G.v (rv_field rfl) rfl ?_ | refine G.v (rv_fieldE rfl) rfl ?_)) | refine G.gN rfl rfl rfl ?_ | refine G.gU rfl rfl rfl ?_)))
  all_goals ((first | (refine G.gY rfl rfl ?_; refine G.v (rv_load1 0 rfl rfl rfl) rfl ?_) | refine G.gN rfl rfl rfl ?_ | refine G.gU rfl rfl rfl ?_))
  all_goals ((first | (refine G.gY rfl rfl ?_; (first | refine G.v (rv_field rfl) rfl ?_ | refine G.v (rv_fieldE rfl) rfl ?_)) | refine G.gN rfl rfl rfl ?_ | refine G.gU rfl rfl rfl ?_))
  all_goals ((first | (refine G.gY rfl rfl ?_; (first | refine G.v (rv_load1 0 rfl rfl rfl) rfl ?_ | refine G.v (rv_loadE rfl (by first | exact Rd.stays (by assumption) | exact Rd.owned 0 rfl) rfl rfl) rfl ?_)) | refine G.gN rfl rfl rfl ?_ | refine G.gU rfl rfl rfl ?_))
  all_goals ((first | (refine G.gY rfl rfl ?_; refine G.v (rv_gtr rfl rfl) rfl ?_) | refine G.gN rfl rfl rfl ?_ | refine G.gU rfl rfl rfl ?_))
  all_goals ((first | refine G.v (rv_pickT rfl rfl) rfl ?_ | refine G.v (rv_pickF rfl rfl) rfl ?_))
  all_goals (refine G.v (rv_move rfl) rfl ?_)
  all_goals (((with_reducible refine G.gP rfl rfl (fun hg => ?_) (fun hg => ?_)) <;> (try exact Bool.noConfusion hg) <;> (first | (refine G.gY rfl rfl ?_; (first | refine G.v (rv_field rfl) rfl ?_ | refine G.v (rv_fieldE rfl) rfl ?_)) | refine G.gN rfl rfl rfl ?_ | refine G.gU rfl rfl rfl ?_)))
  all_goals ((first | (refine G.gY rfl rfl ?_; refine G.v (rv_load1 0 rfl rfl rfl) rfl ?_) | refine G.gN rfl rfl rfl ?_ | refine G.gU rfl rfl rfl ?_))
  all_goals ((first | (refine G.gY rfl rfl ?_; (first | refine G.v (rv_field rfl) rfl ?_ | refine G.v (rv_fieldE rfl) rfl ?_)) | refine G.gN rfl rfl rfl ?_ | refine G.gU rfl rfl rfl ?_))
  all_goals ((first | (refine G.gY rfl rfl ?_; refine G.v (rv_load1 0 rfl rfl rfl) rfl ?_) | refine G.gN rfl rfl rfl ?_ | refine G.gU rfl rfl rfl ?_))
  all_goals ((first | (refine G.gY rfl rfl ?_; (first | refine G.v (rv_incr rfl rfl (by omega)) rfl ?_ | refine G.v (rv_addB rfl rfl (by omega) (by omega)) rfl ?_)) | refine G.gN rfl rfl rfl ?_ | refine G.gU rfl rfl rfl ?_))
  all_goals ((first | (refine G.gY rfl rfl ?_; (first | refine G.v (rv_field rfl) rfl ?_ | refine G.v (rv_fieldE rfl) rfl ?_)) | refine G.gN rfl rfl rfl ?_ | refine G.gU rfl rfl rfl ?_))
  all_goals ((first | (refine G.gY rfl rfl ?_; (first | refine G.v (rv_load1 0 rfl rfl rfl) rfl ?_ | refine G.v (rv_loadE rfl (by first | exact Rd.stays (by assumption) | exact Rd.owned 0 rfl) rfl rfl) rfl ?_)) | refine G.gN rfl rfl rfl ?_ | refine G.gU rfl rfl rfl ?_))
  all_goals ((first | (refine G.gY rfl rfl ?_; refine G.v (rv_gtr rfl rfl) rfl ?_) | refine G.gN rfl rfl rfl ?_ | refine G.gU rfl rfl rfl ?_))
  all_goals ((first | refine G.v (rv_pickT rfl rfl) rfl ?_ | refine G.v (rv_pickF rfl rfl) rfl ?_))
  all_goals (refine G.v (rv_assign rfl) rfl ?_)
  all_goals
   refine G.done (G.thenN (G.ret ?_)); refine G.retFV rfl rfl (congrArg Value.bool ?_); simp_all [tooBig] <;> (intros; omega)
theorem class_any {r : ReqM} {pv tv iv : Value} (w : World) (h : Rd w pv 2 (r.pairs.map PairM.cells)) (h2 : Rd w tv 7 (r.types.map TypeM.cells)) (h3 : Rd w iv 7 (r.items.map ItemM.cells)) :
    FnV Tryz.prog 9 [.agg (r.cells pv tv iv).toArray] w (.int .i64 (classM r)) := by
  refine FnV.of (n := 38) Tryz.func9 rfl rfl ?_; refine G.seq (G.region ?_); refine G.op (og_box rfl rfl) rfl (fun bk1 _ => ?_); refine G.v (rv_assign rfl) rfl (G.done (G.thenN (G.seq (G.region ?_))))
  (first | refine G.v (rv_loadW 0 rfl rfl rfl) rfl ?_ | refine G.v (rv_loadW 1 rfl rfl rfl) rfl ?_ | refine G.v (rv_loadW 2 rfl rfl rfl) rfl ?_ | refine G.v (rv_loadP 0 rfl rfl (.one (.one (.one (.one (.one (.one (.one (.one (.one (.one .nil))))))))))) rfl ?_ | refine G.v (rv_loadP 1 rfl rfl (.one (.one (.one (.one (.one (.one (.one (.one (.one (.one .nil))))))))))) rfl ?_ | refine G.v (rv_loadP 2 rfl rfl (.one (.one (.one (.one (.one (.one (.one (.one (.one (.one .nil))))))))))) rfl ?_)
  refine G.op (og_callV rfl rfl (fun w hh => masterOf_any (r := r) w (Rd.stays h2 _ hh))) rfl (fun _ _ => ?_); refine G.v (rv_move rfl) rfl (G.v (rv_extract rfl rfl) rfl (G.v (rv_extract rfl rfl) rfl ?_)); refine G.op (og_alloc) rfl (fun bk3 _ => ?_)
  (first | refine G.op0 (og_st0 rfl rfl rfl rfl rfl rfl (.zero (.cons (.cons (.cons (.cons (.cons (.cons (.cons .nil))))))))) (fun _ _ => ?_) | refine G.op0 (og_st1 rfl rfl rfl rfl rfl rfl (.zero (.cons (.cons (.cons (.cons (.cons (.cons (.cons .nil))))))))) (fun _ _ => ?_) | refine G.op0 (og_st2 rfl rfl rfl rfl rfl rfl (.zero (.cons (.cons (.cons (.cons (.cons (.cons (.cons .nil))))))))) (fun _ _ => ?_))
  refine G.v (rv_assign rfl) rfl (G.done (G.thenN (G.seq (G.region ?_))))
  (first | refine G.v (rv_field rfl) rfl ?_ | refine G.v (rv_fieldE rfl) rfl ?_)
  (first | refine G.v (rv_loadW 0 rfl rfl rfl) rfl ?_ | refine G.v (rv_loadW 1 rfl rfl rfl) rfl ?_ | refine G.v (rv_loadW 2 rfl rfl rfl) rfl ?_ | refine G.v (rv_loadP 0 rfl rfl (.skip (.one (.one (.one (.one .nil)))))) rfl ?_ | refine G.v (rv_loadP 1 rfl rfl (.skip (.one (.one (.one (.one .nil)))))) rfl ?_ | refine G.v (rv_loadP 2 rfl rfl (.skip (.one (.one (.one (.one .nil)))))) rfl ?_)
  refine G.op (og_alloc) rfl (fun bk5 _ => ?_)
  (first | refine G.op0 (og_st0 rfl rfl rfl rfl rfl rfl (.zero (.cons (.cons (.cons (.cons .nil)))))) (fun _ _ => ?_) | refine G.op0 (og_st1 rfl rfl rfl rfl rfl rfl (.zero (.cons (.cons (.cons (.cons .nil)))))) (fun _ _ => ?_) | refine G.op0 (og_st2 rfl rfl rfl rfl rfl rfl (.zero (.cons (.cons (.cons (.cons .nil)))))) (fun _ _ => ?_))
  refine G.done (G.thenN (G.seq (G.block (G.seq (G.region ?_)))))
  (first | refine G.v (rv_loadW 0 rfl rfl rfl) rfl ?_ | refine G.v (rv_loadW 1 rfl rfl rfl) rfl ?_ | refine G.v (rv_loadW 2 rfl rfl rfl) rfl ?_ | refine G.v (rv_loadP 0 rfl rfl (.one (.one (.one (.one (.one (.one (.one (.one (.one (.one .nil))))))))))) rfl ?_ | refine G.v (rv_loadP 1 rfl rfl (.one (.one (.one (.one (.one (.one (.one (.one (.one (.one .nil))))))))))) rfl ?_ | refine G.v (rv_loadP 2 rfl rfl (.one (.one (.one (.one (.one (.one (.one (.one (.one (.one .nil))))))))))) rfl ?_)
  refine G.op (og_callV rfl rfl (fun w hh => boundsOk_any (r := r) w (Rd.stays h _ hh) (Rd.stays h2 _ hh) (Rd.stays h3 _ hh))) rfl (fun _ _ => ?_); refine G.v (rv_not rfl) rfl (G.v (rv_assign rfl) rfl (G.done (G.thenN ?_))); refine G.cond rfl (fun hc => ?_) (fun hc => ?_)
  · try exact Bool.noConfusion hc
    all_goals
     try replace hc := of_decide_eq_true hc
     try (exfalso; first | contradiction | omega)
     all_goals
      refine G.seq (G.region (G.v (rv_assign rfl) rfl (G.done (G.thenN (G.ret (G.inR (G.thenR ?_)))))))
      first | exact G.retFV rfl rfl (congrArg (Value.int .i64) (by rw [classM, if_neg (by simp [hbo]), if_neg (by simp [hna]), if_neg (by simp [hta]), if_neg (by rw [hfi]; decide), if_neg (by rw [hpa]; decide)])) | exact G.retFV rfl rfl (congrArg (Value.int .i64) (by rw [classM, if_neg (by simp [hbo]), if_neg (by simp [hna]), if_neg (by simp [hta]), if_neg (by rw [hfi]; decide), if_pos hc])) | exact G.retFV rfl rfl (congrArg (Value.int .i64) (by rw [classM, if_neg (by simp [hbo]), if_neg (by simp [hna]), if_neg (by simp [hta]), if_pos hc])) | exact G.retFV rfl rfl (congrArg (Value.int .i64) (by rw [classM, if_neg (by simp [hbo]), if_neg (by simp [hna]), if_pos (by simpa using hc)])) | exact G.retFV rfl rfl (congrArg (Value.int .i64) (by rw [classM, if_neg (by simp [hbo]), if_pos (by simpa using hc)])) | exact G.retFV rfl rfl (congrArg (Value.int .i64) (by rw [classM, if_pos (by simpa using hc)]))
  · try exact Bool.noConfusion hc
    all_goals
     try replace hc := of_decide_eq_false hc
     try (exfalso; first | contradiction | omega)
     all_goals
      have hbo : boundsOkM r = true := by simpa using hc
      all_goals
       refine G.seq (G.region ?_)
       (first | refine G.v (rv_loadW 0 rfl rfl rfl) rfl ?_ | refine G.v (rv_loadW 1 rfl rfl rfl) rfl ?_ | refine G.v (rv_loadW 2 rfl rfl rfl) rfl ?_ | refine G.v (rv_loadP 0 rfl rfl (.one (.one (.one (.one (.one (.one (.one (.one (.one (.one .nil))))))))))) rfl ?_ | refine G.v (rv_loadP 1 rfl rfl (.one (.one (.one (.one (.one (.one (.one (.one (.one (.one .nil))))))))))) rfl ?_ | refine G.v (rv_loadP 2 rfl rfl (.one (.one (.one (.one (.one (.one (.one (.one (.one (.one .nil))))))))))) rfl ?_)
       refine G.op (og_callV rfl rfl (fun w hh => namesOk_any (r := r) w (Rd.stays h _ hh) (Rd.stays h2 _ hh) (Rd.stays h3 _ hh))) rfl (fun _ _ => ?_); refine G.v (rv_not rfl) rfl (G.v (rv_assign rfl) rfl (G.done (G.thenN ?_))); refine G.cond rfl (fun hc => ?_) (fun hc => ?_)
       · try exact Bool.noConfusion hc
         all_goals
          try replace hc := of_decide_eq_true hc
          try (exfalso; first | contradiction | omega)
          all_goals
           refine G.seq (G.region (G.v (rv_assign rfl) rfl (G.done (G.thenN (G.ret (G.inR (G.thenR ?_)))))))
           first | exact G.retFV rfl rfl (congrArg (Value.int .i64) (by rw [classM, if_neg (by simp [hbo]), if_neg (by simp [hna]), if_neg (by simp [hta]), if_neg (by rw [hfi]; decide), if_neg (by rw [hpa]; decide)])) | exact G.retFV rfl rfl (congrArg (Value.int .i64) (by rw [classM, if_neg (by simp [hbo]), if_neg (by simp [hna]), if_neg (by simp [hta]), if_neg (by rw [hfi]; decide), if_pos hc])) | exact G.retFV rfl rfl (congrArg (Value.int .i64) (by rw [classM, if_neg (by simp [hbo]), if_neg (by simp [hna]), if_neg (by simp [hta]), if_pos hc])) | exact G.retFV rfl rfl (congrArg (Value.int .i64) (by rw [classM, if_neg (by simp [hbo]), if_neg (by simp [hna]), if_pos (by simpa using hc)])) | exact G.retFV rfl rfl (congrArg (Value.int .i64) (by rw [classM, if_neg (by simp [hbo]), if_pos (by simpa using hc)])) | exact G.retFV rfl rfl (congrArg (Value.int .i64) (by rw [classM, if_pos (by simpa using hc)]))
       · try exact Bool.noConfusion hc
         all_goals
          try replace hc := of_decide_eq_false hc
          try (exfalso; first | contradiction | omega)
          all_goals
           have hna : namesM r = true := by simpa using hc
           all_goals
            refine G.seq (G.region ?_)
            (first | refine G.v (rv_field rfl) rfl ?_ | refine G.v (rv_fieldE rfl) rfl ?_)
            (first | refine G.v (rv_load1 0 rfl rfl rfl) rfl ?_ | refine G.v (rv_load1 1 rfl rfl rfl) rfl ?_ | refine G.v (rv_load1 2 rfl rfl rfl) rfl ?_)
            (first | refine G.v (rv_field rfl) rfl ?_ | refine G.v (rv_fieldE rfl) rfl ?_)
            (first | refine G.v (rv_load1 0 rfl rfl rfl) rfl ?_ | refine G.v (rv_load1 1 rfl rfl rfl) rfl ?_ | refine G.v (rv_load1 2 rfl rfl rfl) rfl ?_)
            refine G.op (og_callV rfl rfl (fun w hh => tableOk_any (l := r.pairs) r.classes w (Rd.stays h _ hh))) rfl (fun _ _ => ?_); refine G.v (rv_not rfl) rfl (G.v (rv_assign rfl) rfl (G.done (G.thenN ?_))); refine G.cond rfl (fun hc => ?_) (fun hc => ?_)
            · try exact Bool.noConfusion hc
              all_goals
               try replace hc := of_decide_eq_true hc
               try (exfalso; first | contradiction | omega)
               all_goals
                refine G.seq (G.region (G.v (rv_assign rfl) rfl (G.done (G.thenN (G.ret (G.inR (G.thenR ?_)))))))
                first | exact G.retFV rfl rfl (congrArg (Value.int .i64) (by rw [classM, if_neg (by simp [hbo]), if_neg (by simp [hna]), if_neg (by simp [hta]), if_neg (by rw [hfi]; decide), if_neg (by rw [hpa]; decide)])) | exact G.retFV rfl rfl (congrArg (Value.int .i64) (by rw [classM, if_neg (by simp [hbo]), if_neg (by simp [hna]), if_neg (by simp [hta]), if_neg (by rw [hfi]; decide), if_pos hc])) | exact G.retFV rfl rfl (congrArg (Value.int .i64) (by rw [classM, if_neg (by simp [hbo]), if_neg (by simp [hna]), if_neg (by simp [hta]), if_pos hc])) | exact G.retFV rfl rfl (congrArg (Value.int .i64) (by rw [classM, if_neg (by simp [hbo]), if_neg (by simp [hna]), if_pos (by simpa using hc)])) | exact G.retFV rfl rfl (congrArg (Value.int .i64) (by rw [classM, if_neg (by simp [hbo]), if_pos (by simpa using hc)])) | exact G.retFV rfl rfl (congrArg (Value.int .i64) (by rw [classM, if_pos (by simpa using hc)]))
            · try exact Bool.noConfusion hc
              all_goals
               try replace hc := of_decide_eq_false hc
               try (exfalso; first | contradiction | omega)
               all_goals
                have hta : tableOkM r.pairs r.classes = true := by simpa using hc
                all_goals
                 refine G.seq (G.region ?_)
                 (first | refine G.v (rv_field rfl) rfl ?_ | refine G.v (rv_fieldE rfl) rfl ?_)
                 (first | refine G.v (rv_load1 0 rfl rfl rfl) rfl ?_ | refine G.v (rv_load1 1 rfl rfl rfl) rfl ?_ | refine G.v (rv_load1 2 rfl rfl rfl) rfl ?_)
                 refine G.v (rv_makeFunc rfl rfl) rfl ?_; refine G.op (og_callV rfl rfl (fun w hh => containsItem_any (l := r.items) w (Rd.stays h3 _ hh) (fun w' j c hw hb => class1_any (typeAt r r.master).1 c w' (Rd.stays (by first | exact Rd.ofBlk 0 rfl rfl w hh | exact Rd.ofBlk 1 rfl rfl w hh | exact Rd.ofBlk 2 rfl rfl w hh) w' hw)))) rfl (fun _ _ => ?_); refine G.v (rv_assign rfl) rfl (G.done (G.thenN ?_)); refine G.cond rfl (fun hc => ?_) (fun hc => ?_)
                 · try exact Bool.noConfusion hc
                   all_goals
                    try replace hc := of_decide_eq_true hc
                    try (exfalso; first | contradiction | omega)
                    all_goals
                     refine G.seq (G.region (G.v (rv_assign rfl) rfl (G.done (G.thenN (G.ret (G.inR (G.thenR ?_)))))))
                     first | exact G.retFV rfl rfl (congrArg (Value.int .i64) (by rw [classM, if_neg (by simp [hbo]), if_neg (by simp [hna]), if_neg (by simp [hta]), if_neg (by rw [hfi]; decide), if_neg (by rw [hpa]; decide)])) | exact G.retFV rfl rfl (congrArg (Value.int .i64) (by rw [classM, if_neg (by simp [hbo]), if_neg (by simp [hna]), if_neg (by simp [hta]), if_neg (by rw [hfi]; decide), if_pos hc])) | exact G.retFV rfl rfl (congrArg (Value.int .i64) (by rw [classM, if_neg (by simp [hbo]), if_neg (by simp [hna]), if_neg (by simp [hta]), if_pos hc])) | exact G.retFV rfl rfl (congrArg (Value.int .i64) (by rw [classM, if_neg (by simp [hbo]), if_neg (by simp [hna]), if_pos (by simpa using hc)])) | exact G.retFV rfl rfl (congrArg (Value.int .i64) (by rw [classM, if_neg (by simp [hbo]), if_pos (by simpa using hc)])) | exact G.retFV rfl rfl (congrArg (Value.int .i64) (by rw [classM, if_pos (by simpa using hc)]))
                 · try exact Bool.noConfusion hc
                   all_goals
                    try replace hc := of_decide_eq_false hc
                    try (exfalso; first | contradiction | omega)
                    all_goals
                     have hfi := hc
                     all_goals
                      refine G.seq (G.region ?_)
                      (first | refine G.v (rv_field rfl) rfl ?_ | refine G.v (rv_fieldE rfl) rfl ?_)
                      (first | refine G.v (rv_load1 0 rfl rfl rfl) rfl ?_ | refine G.v (rv_load1 1 rfl rfl rfl) rfl ?_ | refine G.v (rv_load1 2 rfl rfl rfl) rfl ?_)
                      refine G.v (rv_makeFunc rfl rfl) rfl ?_; refine G.op (og_callV rfl rfl (fun w hh => containsType_any (l := r.types) w (Rd.stays h2 _ hh) (fun w' j c hw hb => class2_any r.pal c w' (bounds_types hbo c (List.mem_of_getElem? hb)) (Rd.stays (by first | exact Rd.ofBlk 0 rfl rfl w hh | exact Rd.ofBlk 1 rfl rfl w hh | exact Rd.ofBlk 2 rfl rfl w hh) w' hw)))) rfl (fun _ _ => ?_); refine G.v (rv_assign rfl) rfl (G.done (G.thenN ?_)); refine G.cond rfl (fun hc => ?_) (fun hc => ?_)
                      · try exact Bool.noConfusion hc
                        all_goals
                         try replace hc := of_decide_eq_true hc
                         try (exfalso; first | contradiction | omega)
                         all_goals
                          refine G.seq (G.region (G.v (rv_assign rfl) rfl (G.done (G.thenN (G.ret (G.inR (G.thenR ?_)))))))
                          first | exact G.retFV rfl rfl (congrArg (Value.int .i64) (by rw [classM, if_neg (by simp [hbo]), if_neg (by simp [hna]), if_neg (by simp [hta]), if_neg (by rw [hfi]; decide), if_neg (by rw [hpa]; decide)])) | exact G.retFV rfl rfl (congrArg (Value.int .i64) (by rw [classM, if_neg (by simp [hbo]), if_neg (by simp [hna]), if_neg (by simp [hta]), if_neg (by rw [hfi]; decide), if_pos hc])) | exact G.retFV rfl rfl (congrArg (Value.int .i64) (by rw [classM, if_neg (by simp [hbo]), if_neg (by simp [hna]), if_neg (by simp [hta]), if_pos hc])) | exact G.retFV rfl rfl (congrArg (Value.int .i64) (by rw [classM, if_neg (by simp [hbo]), if_neg (by simp [hna]), if_pos (by simpa using hc)])) | exact G.retFV rfl rfl (congrArg (Value.int .i64) (by rw [classM, if_neg (by simp [hbo]), if_pos (by simpa using hc)])) | exact G.retFV rfl rfl (congrArg (Value.int .i64) (by rw [classM, if_pos (by simpa using hc)]))
                      · try exact Bool.noConfusion hc
                        all_goals
                         try replace hc := of_decide_eq_false hc
                         try (exfalso; first | contradiction | omega)
                         all_goals
                          have hpa := hc
                          all_goals
                           refine G.skip (G.inN (G.thenN (G.seq (G.region (G.v (rv_assign rfl) rfl (G.done (G.thenN (G.ret ?_))))))))
                           first | exact G.retFV rfl rfl (congrArg (Value.int .i64) (by rw [classM, if_neg (by simp [hbo]), if_neg (by simp [hna]), if_neg (by simp [hta]), if_neg (by rw [hfi]; decide), if_neg (by rw [hpa]; decide)])) | exact G.retFV rfl rfl (congrArg (Value.int .i64) (by rw [classM, if_neg (by simp [hbo]), if_neg (by simp [hna]), if_neg (by simp [hta]), if_neg (by rw [hfi]; decide), if_pos hc])) | exact G.retFV rfl rfl (congrArg (Value.int .i64) (by rw [classM, if_neg (by simp [hbo]), if_neg (by simp [hna]), if_neg (by simp [hta]), if_pos hc])) | exact G.retFV rfl rfl (congrArg (Value.int .i64) (by rw [classM, if_neg (by simp [hbo]), if_neg (by simp [hna]), if_pos (by simpa using hc)])) | exact G.retFV rfl rfl (congrArg (Value.int .i64) (by rw [classM, if_neg (by simp [hbo]), if_pos (by simpa using hc)])) | exact G.retFV rfl rfl (congrArg (Value.int .i64) (by rw [classM, if_pos (by simpa using hc)]))
theorem sclass_any {r : ReqM} {pv tv iv : Value} (w : World) (h : Rd w pv 2 (r.pairs.map PairM.cells)) (h2 : Rd w tv 7 (r.types.map TypeM.cells)) (h3 : Rd w iv 7 (r.items.map ItemM.cells)) :
    FnV Tryz.prog 10 [.agg (r.cells pv tv iv).toArray] w (.int .i64 (classM r)) := by
  have hle2 := h2.le_map
  have hle3 := h3.le_map
  refine FnV.of (n := 85) Tryz.func10 rfl rfl ?_; refine G.seq (G.region ?_); refine G.op (og_box rfl rfl) rfl (fun bk1 _ => ?_); refine G.v (rv_assign rfl) rfl (G.done (G.thenN (G.seq (G.seq (G.region ?_)))))
  (first | refine G.v (rv_loadW 0 rfl rfl rfl) rfl ?_ | refine G.v (rv_loadW 1 rfl rfl rfl) rfl ?_ | refine G.v (rv_loadW 2 rfl rfl rfl) rfl ?_ | refine G.v (rv_loadW 3 rfl rfl rfl) rfl ?_ | refine G.v (rv_loadP 0 rfl rfl (.one (.one (.one (.one (.one (.one (.one (.one (.one (.one .nil))))))))))) rfl ?_ | refine G.v (rv_loadP 1 rfl rfl (.one (.one (.one (.one (.one (.one (.one (.one (.one (.one .nil))))))))))) rfl ?_ | refine G.v (rv_loadP 2 rfl rfl (.one (.one (.one (.one (.one (.one (.one (.one (.one (.one .nil))))))))))) rfl ?_ | refine G.v (rv_loadP 3 rfl rfl (.one (.one (.one (.one (.one (.one (.one (.one (.one (.one .nil))))))))))) rfl ?_)
  refine G.op (og_callV rfl rfl (fun w hh => sboundsOk_any (r := r) w (Rd.stays h _ hh) (Rd.stays h2 _ hh) (Rd.stays h3 _ hh))) rfl (fun _ _ => ?_); refine G.v (rv_not rfl) rfl (G.done (G.thenN ?_)); refine G.cond rfl (fun hc => ?_) (fun hc => ?_)
  · try exact Bool.noConfusion hc
    all_goals
     try replace hc := of_decide_eq_true hc
     try simp only [List.length_map] at hc
     try (exfalso; first | contradiction | omega)
     all_goals
      refine G.seq (G.region (G.v (rv_assign rfl) rfl (G.done (G.thenN (G.ret (G.thenR ?_))))))
      first | exact G.retFV rfl rfl (congrArg (Value.int .i64) (by rw [classM, if_neg (by simp [hbo]), if_neg (by simp [hna]), if_neg (by simp [hta]), if_neg (by rw [hfi]; decide), if_neg (by rw [hpa]; decide)])) | exact G.retFV rfl rfl (congrArg (Value.int .i64) (by rw [classM, if_neg (by simp [hbo]), if_neg (by simp [hna]), if_neg (by simp [hta]), if_neg (by rw [hfi]; decide), if_pos (any_at (f := tooBig r.pal) hb1 (by simp_all [tooBig]; done))])) | exact G.retFV rfl rfl (congrArg (Value.int .i64) (by rw [classM, if_neg (by simp [hbo]), if_neg (by simp [hna]), if_neg (by simp [hta]), if_pos (any_at hb hc)])) | exact G.retFV rfl rfl (congrArg (Value.int .i64) (by rw [classM, if_neg (by simp [hbo]), if_neg (by simp [hna]), if_pos (by simpa using hc)])) | exact G.retFV rfl rfl (congrArg (Value.int .i64) (by rw [classM, if_neg (by simp [hbo]), if_pos (by simpa using hc)])) | exact G.retFV rfl rfl (congrArg (Value.int .i64) (by rw [classM, if_pos (by simpa using hc)]))
  · try exact Bool.noConfusion hc
    all_goals
     try replace hc := of_decide_eq_false hc
     try simp only [List.length_map] at hc
     try (exfalso; first | contradiction | omega)
     all_goals
      have hbo : boundsOkM r = true := by simpa using hc
      all_goals
       refine G.skip (G.thenN (G.seq (G.seq (G.region ?_))))
       (first | refine G.v (rv_loadW 0 rfl rfl rfl) rfl ?_ | refine G.v (rv_loadW 1 rfl rfl rfl) rfl ?_ | refine G.v (rv_loadW 2 rfl rfl rfl) rfl ?_ | refine G.v (rv_loadW 3 rfl rfl rfl) rfl ?_ | refine G.v (rv_loadP 0 rfl rfl (.one (.one (.one (.one (.one (.one (.one (.one (.one (.one .nil))))))))))) rfl ?_ | refine G.v (rv_loadP 1 rfl rfl (.one (.one (.one (.one (.one (.one (.one (.one (.one (.one .nil))))))))))) rfl ?_ | refine G.v (rv_loadP 2 rfl rfl (.one (.one (.one (.one (.one (.one (.one (.one (.one (.one .nil))))))))))) rfl ?_ | refine G.v (rv_loadP 3 rfl rfl (.one (.one (.one (.one (.one (.one (.one (.one (.one (.one .nil))))))))))) rfl ?_)
       refine G.op (og_callV rfl rfl (fun w hh => snamesOk_any (r := r) w (Rd.stays h _ hh) (Rd.stays h2 _ hh) (Rd.stays h3 _ hh))) rfl (fun _ _ => ?_); refine G.v (rv_not rfl) rfl (G.done (G.thenN ?_)); refine G.cond rfl (fun hc => ?_) (fun hc => ?_)
       · try exact Bool.noConfusion hc
         all_goals
          try replace hc := of_decide_eq_true hc
          try simp only [List.length_map] at hc
          try (exfalso; first | contradiction | omega)
          all_goals
           refine G.seq (G.region (G.v (rv_assign rfl) rfl (G.done (G.thenN (G.ret (G.thenR ?_))))))
           first | exact G.retFV rfl rfl (congrArg (Value.int .i64) (by rw [classM, if_neg (by simp [hbo]), if_neg (by simp [hna]), if_neg (by simp [hta]), if_neg (by rw [hfi]; decide), if_neg (by rw [hpa]; decide)])) | exact G.retFV rfl rfl (congrArg (Value.int .i64) (by rw [classM, if_neg (by simp [hbo]), if_neg (by simp [hna]), if_neg (by simp [hta]), if_neg (by rw [hfi]; decide), if_pos (any_at (f := tooBig r.pal) hb1 (by simp_all [tooBig]; done))])) | exact G.retFV rfl rfl (congrArg (Value.int .i64) (by rw [classM, if_neg (by simp [hbo]), if_neg (by simp [hna]), if_neg (by simp [hta]), if_pos (any_at hb hc)])) | exact G.retFV rfl rfl (congrArg (Value.int .i64) (by rw [classM, if_neg (by simp [hbo]), if_neg (by simp [hna]), if_pos (by simpa using hc)])) | exact G.retFV rfl rfl (congrArg (Value.int .i64) (by rw [classM, if_neg (by simp [hbo]), if_pos (by simpa using hc)])) | exact G.retFV rfl rfl (congrArg (Value.int .i64) (by rw [classM, if_pos (by simpa using hc)]))
       · try exact Bool.noConfusion hc
         all_goals
          try replace hc := of_decide_eq_false hc
          try simp only [List.length_map] at hc
          try (exfalso; first | contradiction | omega)
          all_goals
           have hna : namesM r = true := by simpa using hc
           all_goals
            refine G.skip (G.thenN (G.seq (G.seq (G.region ?_))))
            (first | refine G.v (rv_field rfl) rfl ?_ | refine G.v (rv_fieldE rfl) rfl ?_)
            (first | refine G.v (rv_load1 0 rfl rfl rfl) rfl ?_ | refine G.v (rv_load1 1 rfl rfl rfl) rfl ?_ | refine G.v (rv_load1 2 rfl rfl rfl) rfl ?_ | refine G.v (rv_load1 3 rfl rfl rfl) rfl ?_)
            (first | refine G.v (rv_field rfl) rfl ?_ | refine G.v (rv_fieldE rfl) rfl ?_)
            (first | refine G.v (rv_load1 0 rfl rfl rfl) rfl ?_ | refine G.v (rv_load1 1 rfl rfl rfl) rfl ?_ | refine G.v (rv_load1 2 rfl rfl rfl) rfl ?_ | refine G.v (rv_load1 3 rfl rfl rfl) rfl ?_)
            refine G.op (og_callV rfl rfl (fun w hh => stableOk_any (l := r.pairs) r.classes w (Rd.stays h _ hh))) rfl (fun _ _ => ?_); refine G.v (rv_not rfl) rfl (G.done (G.thenN ?_)); refine G.cond rfl (fun hc => ?_) (fun hc => ?_)
            · try exact Bool.noConfusion hc
              all_goals
               try replace hc := of_decide_eq_true hc
               try simp only [List.length_map] at hc
               try (exfalso; first | contradiction | omega)
               all_goals
                refine G.seq (G.region (G.v (rv_assign rfl) rfl (G.done (G.thenN (G.ret (G.thenR ?_))))))
                first | exact G.retFV rfl rfl (congrArg (Value.int .i64) (by rw [classM, if_neg (by simp [hbo]), if_neg (by simp [hna]), if_neg (by simp [hta]), if_neg (by rw [hfi]; decide), if_neg (by rw [hpa]; decide)])) | exact G.retFV rfl rfl (congrArg (Value.int .i64) (by rw [classM, if_neg (by simp [hbo]), if_neg (by simp [hna]), if_neg (by simp [hta]), if_neg (by rw [hfi]; decide), if_pos (any_at (f := tooBig r.pal) hb1 (by simp_all [tooBig]; done))])) | exact G.retFV rfl rfl (congrArg (Value.int .i64) (by rw [classM, if_neg (by simp [hbo]), if_neg (by simp [hna]), if_neg (by simp [hta]), if_pos (any_at hb hc)])) | exact G.retFV rfl rfl (congrArg (Value.int .i64) (by rw [classM, if_neg (by simp [hbo]), if_neg (by simp [hna]), if_pos (by simpa using hc)])) | exact G.retFV rfl rfl (congrArg (Value.int .i64) (by rw [classM, if_neg (by simp [hbo]), if_pos (by simpa using hc)])) | exact G.retFV rfl rfl (congrArg (Value.int .i64) (by rw [classM, if_pos (by simpa using hc)]))
            · try exact Bool.noConfusion hc
              all_goals
               try replace hc := of_decide_eq_false hc
               try simp only [List.length_map] at hc
               try (exfalso; first | contradiction | omega)
               all_goals
                have hta : tableOkM r.pairs r.classes = true := by simpa using hc
                all_goals
                 refine G.skip (G.thenN (G.seq (G.region ?_)))
                 (first | refine G.v (rv_loadW 0 rfl rfl rfl) rfl ?_ | refine G.v (rv_loadW 1 rfl rfl rfl) rfl ?_ | refine G.v (rv_loadW 2 rfl rfl rfl) rfl ?_ | refine G.v (rv_loadW 3 rfl rfl rfl) rfl ?_ | refine G.v (rv_loadP 0 rfl rfl (.one (.one (.one (.one (.one (.one (.one (.one (.one (.one .nil))))))))))) rfl ?_ | refine G.v (rv_loadP 1 rfl rfl (.one (.one (.one (.one (.one (.one (.one (.one (.one (.one .nil))))))))))) rfl ?_ | refine G.v (rv_loadP 2 rfl rfl (.one (.one (.one (.one (.one (.one (.one (.one (.one (.one .nil))))))))))) rfl ?_ | refine G.v (rv_loadP 3 rfl rfl (.one (.one (.one (.one (.one (.one (.one (.one (.one (.one .nil))))))))))) rfl ?_)
                 refine G.op (og_callV rfl rfl (fun w hh => smasterOf_any (r := r) w (Rd.stays h2 _ hh))) rfl (fun _ _ => ?_); refine G.v (rv_move rfl) rfl (G.v (rv_extract rfl rfl) rfl (G.v (rv_extract rfl rfl) rfl ?_)); refine G.op (og_alloc) rfl (fun bk3 _ => ?_)
                 (first | refine G.op0 (og_st0 rfl rfl rfl rfl rfl rfl (.zero (.cons (.cons (.cons (.cons (.cons (.cons (.cons .nil))))))))) (fun _ _ => ?_) | refine G.op0 (og_st1 rfl rfl rfl rfl rfl rfl (.zero (.cons (.cons (.cons (.cons (.cons (.cons (.cons .nil))))))))) (fun _ _ => ?_) | refine G.op0 (og_st2 rfl rfl rfl rfl rfl rfl (.zero (.cons (.cons (.cons (.cons (.cons (.cons (.cons .nil))))))))) (fun _ _ => ?_) | refine G.op0 (og_st3 rfl rfl rfl rfl rfl rfl (.zero (.cons (.cons (.cons (.cons (.cons (.cons (.cons .nil))))))))) (fun _ _ => ?_))
                 refine G.v (rv_assign rfl) rfl (G.done (G.thenN (G.seq (G.seq (G.region (G.v (rv_assign rfl) rfl (G.done (G.thenN (G.block ?_)))))))))
                 -- loop 0: turned [5], kept [1, 3]
                 refine G.loopK (ι := Nat) (ks := [1, 3]) (fun k => [(5, .int .i64 k)]) (fun _ => []) (fun k => k ≤ r.items.length ∧ (r.items.take k).any (fun x => !fitsM x (typeAt r r.master).1) = false) (fun k => r.items.length - k) 0 (.cons rfl (.cons rfl (.nil))) rfl ?_ ?_ ?_
                 · exact ⟨Nat.zero_le _, rfl⟩
                 · exact ⟨rfl, trivial⟩
                 rintro k ⟨hk, ht⟩
                 by_cases hlt : k < r.items.length
                 case' pos => (obtain ⟨b, hb⟩ := get_of_lt hlt; have he := get_map hb ItemM.cells)
                 case' neg => (have hfi := any_end ht hlt)
                 all_goals
                  refine G.seq (G.seq (G.region (G.v (rv_move rfl) rfl ?_)))
                  (first | refine G.v (rv_field rfl) rfl ?_ | refine G.v (rv_fieldE rfl) rfl ?_)
                  (first | refine G.v (rv_load1 0 rfl rfl rfl) rfl ?_ | refine G.v (rv_load1 1 rfl rfl rfl) rfl ?_ | refine G.v (rv_load1 2 rfl rfl rfl) rfl ?_ | refine G.v (rv_load1 3 rfl rfl rfl) rfl ?_)
                  refine G.v (rv_len rfl (by first | exact Rd.stays (by assumption) | exact Rd.owned 0 rfl | exact Rd.owned 1 rfl | exact Rd.owned 2 rfl | exact Rd.owned 3 rfl)) rfl ?_; refine G.v (rv_lss rfl rfl) rfl (G.done (G.thenN ?_)); refine G.cond rfl (fun hc => ?_) (fun hc => ?_)
                  · try exact Bool.noConfusion hc
                    all_goals
                     try replace hc := of_decide_eq_true hc
                     try simp only [List.length_map] at hc
                     try (exfalso; first | contradiction | omega)
                     all_goals
                      refine G.skip (G.thenN (G.seq (G.block (G.seq ?_)))); refine G.drawL [] ?_
                      (first | refine GE.q 0 rfl (by as_aux_lemma => kernel_rfl) rfl (qg_runs (rv_field rfl)) rfl ?_ | refine GE.q 0 rfl (by as_aux_lemma => kernel_rfl) rfl (qg_runs (rv_fieldE rfl)) rfl ?_)
                      (first | refine GE.q 1 rfl (by as_aux_lemma => kernel_rfl) rfl (qg_runs (rv_load1 0 rfl rfl rfl)) rfl ?_ | refine GE.q 1 rfl (by as_aux_lemma => kernel_rfl) rfl (qg_runs (rv_load1 1 rfl rfl rfl)) rfl ?_ | refine GE.q 1 rfl (by as_aux_lemma => kernel_rfl) rfl (qg_runs (rv_load1 2 rfl rfl rfl)) rfl ?_ | refine GE.q 1 rfl (by as_aux_lemma => kernel_rfl) rfl (qg_runs (rv_load1 3 rfl rfl rfl)) rfl ?_)
                      refine GE.q 2 rfl (by as_aux_lemma => kernel_rfl) rfl (qg_runs (rv_move rfl)) rfl ?_
                      (first | refine GE.q 3 rfl (by as_aux_lemma => kernel_rfl) rfl (qg_runs (rv_indexH rfl rfl (by first | exact Rd.stays (by assumption) | exact Rd.owned 0 rfl | exact Rd.owned 1 rfl | exact Rd.owned 2 rfl | exact Rd.owned 3 rfl) rfl (by assumption))) rfl ?_ | refine GE.q 3 rfl (by as_aux_lemma => kernel_rfl) rfl (qg_runs (rv_index rfl rfl (by first | exact Rd.stays (by assumption) | exact Rd.owned 0 rfl | exact Rd.owned 1 rfl | exact Rd.owned 2 rfl | exact Rd.owned 3 rfl) rfl (by assumption))) rfl ?_)
                      (first | refine GE.q 4 rfl (by as_aux_lemma => kernel_rfl) rfl (qg_runs (rv_loadEW rfl (by first | exact Rd.stays (by assumption) | exact Rd.owned 0 rfl | exact Rd.owned 1 rfl | exact Rd.owned 2 rfl | exact Rd.owned 3 rfl) (by assumption) rfl)) rfl ?_ | refine GE.q 4 rfl (by as_aux_lemma => kernel_rfl) rfl (qg_runs (rv_loadEP rfl (by first | exact Rd.stays (by assumption) | exact Rd.owned 0 rfl | exact Rd.owned 1 rfl | exact Rd.owned 2 rfl | exact Rd.owned 3 rfl) (by assumption) (.one (.one (.one (.one (.one (.one (.one .nil))))))))) rfl ?_)
                      (first | refine GE.ol 5 (by as_aux_lemma => kernel_rfl) rfl rfl (og_runs (rv_loadW 0 rfl rfl rfl)) rfl (fun _ _ h => by first | exact h | exact h.drop 1 | exact h.drop 2 | exact h.drop 3 | exact h.drop 4 | exact h.drop 5 | exact h.drop 6 | exact h.drop 7 | exact h.drop 8 | exact h.drop 9 | exact h.drop 10 | exact h.drop 11 | exact h.drop 12 | exact h.drop 13) (fun _ _ => ?_) | refine GE.ol 5 (by as_aux_lemma => kernel_rfl) rfl rfl (og_runs (rv_loadW 1 rfl rfl rfl)) rfl (fun _ _ h => by first | exact h | exact h.drop 1 | exact h.drop 2 | exact h.drop 3 | exact h.drop 4 | exact h.drop 5 | exact h.drop 6 | exact h.drop 7 | exact h.drop 8 | exact h.drop 9 | exact h.drop 10 | exact h.drop 11 | exact h.drop 12 | exact h.drop 13) (fun _ _ => ?_) | refine GE.ol 5 (by as_aux_lemma => kernel_rfl) rfl rfl (og_runs (rv_loadW 2 rfl rfl rfl)) rfl (fun _ _ h => by first | exact h | exact h.drop 1 | exact h.drop 2 | exact h.drop 3 | exact h.drop 4 | exact h.drop 5 | exact h.drop 6 | exact h.drop 7 | exact h.drop 8 | exact h.drop 9 | exact h.drop 10 | exact h.drop 11 | exact h.drop 12 | exact h.drop 13) (fun _ _ => ?_) | refine GE.ol 5 (by as_aux_lemma => kernel_rfl) rfl rfl (og_runs (rv_loadW 3 rfl rfl rfl)) rfl (fun _ _ h => by first | exact h | exact h.drop 1 | exact h.drop 2 | exact h.drop 3 | exact h.drop 4 | exact h.drop 5 | exact h.drop 6 | exact h.drop 7 | exact h.drop 8 | exact h.drop 9 | exact h.drop 10 | exact h.drop 11 | exact h.drop 12 | exact h.drop 13) (fun _ _ => ?_) | refine GE.ol 5 (by as_aux_lemma => kernel_rfl) rfl rfl (og_runs (rv_loadP 0 rfl rfl (.one (.one (.one (.one (.one (.one (.one .nil))))))))) rfl (fun _ _ h => by first | exact h | exact h.drop 1 | exact h.drop 2 | exact h.drop 3 | exact h.drop 4 | exact h.drop 5 | exact h.drop 6 | exact h.drop 7 | exact h.drop 8 | exact h.drop 9 | exact h.drop 10 | exact h.drop 11 | exact h.drop 12 | exact h.drop 13) (fun _ _ => ?_) | refine GE.ol 5 (by as_aux_lemma => kernel_rfl) rfl rfl (og_runs (rv_loadP 1 rfl rfl (.one (.one (.one (.one (.one (.one (.one .nil))))))))) rfl (fun _ _ h => by first | exact h | exact h.drop 1 | exact h.drop 2 | exact h.drop 3 | exact h.drop 4 | exact h.drop 5 | exact h.drop 6 | exact h.drop 7 | exact h.drop 8 | exact h.drop 9 | exact h.drop 10 | exact h.drop 11 | exact h.drop 12 | exact h.drop 13) (fun _ _ => ?_) | refine GE.ol 5 (by as_aux_lemma => kernel_rfl) rfl rfl (og_runs (rv_loadP 2 rfl rfl (.one (.one (.one (.one (.one (.one (.one .nil))))))))) rfl (fun _ _ h => by first | exact h | exact h.drop 1 | exact h.drop 2 | exact h.drop 3 | exact h.drop 4 | exact h.drop 5 | exact h.drop 6 | exact h.drop 7 | exact h.drop 8 | exact h.drop 9 | exact h.drop 10 | exact h.drop 11 | exact h.drop 12 | exact h.drop 13) (fun _ _ => ?_) | refine GE.ol 5 (by as_aux_lemma => kernel_rfl) rfl rfl (og_runs (rv_loadP 3 rfl rfl (.one (.one (.one (.one (.one (.one (.one .nil))))))))) rfl (fun _ _ h => by first | exact h | exact h.drop 1 | exact h.drop 2 | exact h.drop 3 | exact h.drop 4 | exact h.drop 5 | exact h.drop 6 | exact h.drop 7 | exact h.drop 8 | exact h.drop 9 | exact h.drop 10 | exact h.drop 11 | exact h.drop 12 | exact h.drop 13) (fun _ _ => ?_))
                      refine GE.ol 6 (by as_aux_lemma => kernel_rfl) rfl rfl (og_callV rfl rfl (fun w hh => sfits_any b (typeAt r r.master).1 w)) rfl (fun _ _ h => by first | exact h | exact h.drop 1 | exact h.drop 2 | exact h.drop 3 | exact h.drop 4 | exact h.drop 5 | exact h.drop 6 | exact h.drop 7 | exact h.drop 8 | exact h.drop 9 | exact h.drop 10 | exact h.drop 11 | exact h.drop 12 | exact h.drop 13) (fun _ _ => ?_); refine GE.ol 7 (by as_aux_lemma => kernel_rfl) rfl rfl (og_runs (rv_not rfl)) rfl (fun _ _ h => by first | exact h | exact h.drop 1 | exact h.drop 2 | exact h.drop 3 | exact h.drop 4 | exact h.drop 5 | exact h.drop 6 | exact h.drop 7 | exact h.drop 8 | exact h.drop 9 | exact h.drop 10 | exact h.drop 11 | exact h.drop 12 | exact h.drop 13) (fun _ _ => ?_); refine GE.done (by as_aux_lemma => kernel_rfl) ?_; refine G.thenN ?_; refine G.cond rfl (fun hc => ?_) (fun hc => ?_)
                      · try exact Bool.noConfusion hc
                        all_goals
                         try replace hc := of_decide_eq_true hc
                         try simp only [List.length_map] at hc
                         try (exfalso; first | contradiction | omega)
                         all_goals
                          refine G.seq (G.region (G.v (rv_assign rfl) rfl (G.done (G.thenN (G.ret (G.inR (G.thenR (G.thenR (G.inR (G.thenR ?_))))))))))
                          first | exact G.retFV rfl rfl (congrArg (Value.int .i64) (by rw [classM, if_neg (by simp [hbo]), if_neg (by simp [hna]), if_neg (by simp [hta]), if_neg (by rw [hfi]; decide), if_neg (by rw [hpa]; decide)])) | exact G.retFV rfl rfl (congrArg (Value.int .i64) (by rw [classM, if_neg (by simp [hbo]), if_neg (by simp [hna]), if_neg (by simp [hta]), if_neg (by rw [hfi]; decide), if_pos (any_at (f := tooBig r.pal) hb1 (by simp_all [tooBig]; done))])) | exact G.retFV rfl rfl (congrArg (Value.int .i64) (by rw [classM, if_neg (by simp [hbo]), if_neg (by simp [hna]), if_neg (by simp [hta]), if_pos (any_at hb hc)])) | exact G.retFV rfl rfl (congrArg (Value.int .i64) (by rw [classM, if_neg (by simp [hbo]), if_neg (by simp [hna]), if_pos (by simpa using hc)])) | exact G.retFV rfl rfl (congrArg (Value.int .i64) (by rw [classM, if_neg (by simp [hbo]), if_pos (by simpa using hc)])) | exact G.retFV rfl rfl (congrArg (Value.int .i64) (by rw [classM, if_pos (by simpa using hc)]))
                      · try exact Bool.noConfusion hc
                        all_goals
                         try replace hc := of_decide_eq_false hc
                         try simp only [List.length_map] at hc
                         try (exfalso; first | contradiction | omega)
                         all_goals
                          refine G.skip (G.inN (G.thenN (G.region (G.v (rv_move rfl) rfl ?_))))
                          (first | refine G.v (rv_incr rfl rfl (by omega)) rfl ?_ | refine G.v (rv_addB rfl rfl (by omega) (by omega)) rfl ?_)
                          refine G.v (rv_assign rfl) rfl (G.done ?_)
                          first | refine G.backK (k + 1) 0 rfl (.cons rfl (.cons rfl (.nil))) ?_ ?_ ?_ | refine G.backK (k + 1) 1 rfl (.cons rfl (.cons rfl (.nil))) ?_ ?_ ?_ | refine G.backK (k + 1) 2 rfl (.cons rfl (.cons rfl (.nil))) ?_ ?_ ?_
                          · exact ⟨rfl, trivial⟩
                          · exact ⟨hlt, any_next ht hb hc⟩
                          · omega
                  · try exact Bool.noConfusion hc
                    all_goals
                     try replace hc := of_decide_eq_false hc
                     try simp only [List.length_map] at hc
                     try (exfalso; first | contradiction | omega)
                     all_goals
                      refine G.exit (G.thenX (G.thenX (G.inX (G.thenN (G.seq (G.seq (G.region (G.v (rv_assign rfl) rfl (G.done (G.thenN (G.block ?_)))))))))))
                      -- loop 1: turned [6], kept [1]
                      refine G.loopK (ι := Nat) (ks := [1]) (fun k => [(6, .int .i64 k)]) (fun _ => []) (fun k => k ≤ r.types.length ∧ (r.types.take k).any (tooBig r.pal) = false) (fun k => r.types.length - k) 0 (.cons rfl (.nil)) rfl ?_ ?_ ?_
                      · exact ⟨Nat.zero_le _, rfl⟩
                      · exact ⟨rfl, trivial⟩
                      rintro k1 ⟨hk1, ht1⟩
                      by_cases hlt1 : k1 < r.types.length
                      case' pos => (obtain ⟨b1, hb1⟩ := get_of_lt hlt1; have he := get_map hb1 TypeM.cells; have htb := type_in (bounds_types hbo b1 (List.mem_of_getElem? hb1)))
                      case' neg => (have hpa := any_end ht1 hlt1)
                      all_goals
                       refine G.seq (G.seq (G.region (G.v (rv_move rfl) rfl ?_)))
                       (first | refine G.v (rv_field rfl) rfl ?_ | refine G.v (rv_fieldE rfl) rfl ?_)
                       (first | refine G.v (rv_load1 0 rfl rfl rfl) rfl ?_ | refine G.v (rv_load1 1 rfl rfl rfl) rfl ?_ | refine G.v (rv_load1 2 rfl rfl rfl) rfl ?_ | refine G.v (rv_load1 3 rfl rfl rfl) rfl ?_)
                       refine G.v (rv_len rfl (by first | exact Rd.stays (by assumption) | exact Rd.owned 0 rfl | exact Rd.owned 1 rfl | exact Rd.owned 2 rfl | exact Rd.owned 3 rfl)) rfl ?_; refine G.v (rv_lss rfl rfl) rfl (G.done (G.thenN ?_)); refine G.cond rfl (fun hc => ?_) (fun hc => ?_)
                       · try exact Bool.noConfusion hc
                         all_goals
                          try replace hc := of_decide_eq_true hc
                          try simp only [List.length_map] at hc
                          try (exfalso; first | contradiction | omega)
                          all_goals
                           refine G.skip (G.thenN (G.seq (G.block (G.seq (G.region ?_)))))
                           (first | refine G.v (rv_field rfl) rfl ?_ | refine G.v (rv_fieldE rfl) rfl ?_)
                           (first | refine G.v (rv_load1 0 rfl rfl rfl) rfl ?_ | refine G.v (rv_load1 1 rfl rfl rfl) rfl ?_ | refine G.v (rv_load1 2 rfl rfl rfl) rfl ?_ | refine G.v (rv_load1 3 rfl rfl rfl) rfl ?_)
                           refine G.v (rv_move rfl) rfl ?_
                           (first | refine G.v (rv_indexH rfl rfl (by first | exact Rd.stays (by assumption) | exact Rd.owned 0 rfl | exact Rd.owned 1 rfl | exact Rd.owned 2 rfl | exact Rd.owned 3 rfl) rfl (by assumption)) rfl ?_ | refine G.v (rv_index rfl rfl (by first | exact Rd.stays (by assumption) | exact Rd.owned 0 rfl | exact Rd.owned 1 rfl | exact Rd.owned 2 rfl | exact Rd.owned 3 rfl) rfl (by assumption)) rfl ?_)
                           (first | refine G.v (rv_loadEW rfl (by first | exact Rd.stays (by assumption) | exact Rd.owned 0 rfl | exact Rd.owned 1 rfl | exact Rd.owned 2 rfl | exact Rd.owned 3 rfl) (by assumption) rfl) rfl ?_ | refine G.v (rv_loadEP rfl (by first | exact Rd.stays (by assumption) | exact Rd.owned 0 rfl | exact Rd.owned 1 rfl | exact Rd.owned 2 rfl | exact Rd.owned 3 rfl) (by assumption) (.one (.one (.one (.one (.one (.one (.one .nil)))))))) rfl ?_)
                           refine G.op (og_alloc) rfl (fun bk7 _ => ?_)
                           (first | refine G.op0 (og_st0 rfl rfl rfl rfl rfl rfl (.zero (.cons (.cons (.cons (.cons (.cons (.cons (.cons .nil))))))))) (fun _ _ => ?_) | refine G.op0 (og_st1 rfl rfl rfl rfl rfl rfl (.zero (.cons (.cons (.cons (.cons (.cons (.cons (.cons .nil))))))))) (fun _ _ => ?_) | refine G.op0 (og_st2 rfl rfl rfl rfl rfl rfl (.zero (.cons (.cons (.cons (.cons (.cons (.cons (.cons .nil))))))))) (fun _ _ => ?_) | refine G.op0 (og_st3 rfl rfl rfl rfl rfl rfl (.zero (.cons (.cons (.cons (.cons (.cons (.cons (.cons .nil))))))))) (fun _ _ => ?_))
                           refine G.done (G.thenN (G.seq (G.region ?_)))
                           (first | refine G.v (rv_field rfl) rfl ?_ | refine G.v (rv_fieldE rfl) rfl ?_)
                           (first | refine G.v (rv_load1 0 rfl rfl rfl) rfl ?_ | refine G.v (rv_load1 1 rfl rfl rfl) rfl ?_ | refine G.v (rv_load1 2 rfl rfl rfl) rfl ?_ | refine G.v (rv_load1 3 rfl rfl rfl) rfl ?_)
                           (first | refine G.v (rv_field rfl) rfl ?_ | refine G.v (rv_fieldE rfl) rfl ?_)
                           (first | refine G.v (rv_field rfl) rfl ?_ | refine G.v (rv_fieldE rfl) rfl ?_)
                           (first | refine G.v (rv_load1 0 rfl rfl rfl) rfl ?_ | refine G.v (rv_load1 1 rfl rfl rfl) rfl ?_ | refine G.v (rv_load1 2 rfl rfl rfl) rfl ?_ | refine G.v (rv_load1 3 rfl rfl rfl) rfl ?_)
                           refine G.v (rv_gtr rfl rfl) rfl (G.v (rv_move rfl) rfl ?_)
                           all_goals (((with_reducible refine G.gP rfl rfl (fun hg => ?_) (fun hg => ?_)) <;> (try exact Bool.noConfusion hg) <;> (first | (refine G.gY rfl rfl ?_; (first | refine G.v (rv_field rfl) rfl ?_ | refine G.v (rv_fieldE rfl) rfl ?_)) | refine G.gN rfl rfl rfl ?_ | refine G.gU rfl rfl rfl ?_)))
                           all_goals ((first | (refine G.gY rfl rfl ?_; (first | refine G.v (rv_load1 0 rfl rfl rfl) rfl ?_ | refine G.v (rv_load1 1 rfl rfl rfl) rfl ?_ | refine G.v (rv_load1 2 rfl rfl rfl) rfl ?_ | refine G.v (rv_load1 3 rfl rfl rfl) rfl ?_)) | refine G.gN rfl rfl rfl ?_ | refine G.gU rfl rfl rfl ?_))
                           all_goals ((first | (refine G.gY rfl rfl ?_; (first | refine G.v (rv_field rfl) rfl ?_ | refine G.v (rv_fieldE rfl) rfl ?_)) | refine G.gN rfl rfl rfl ?_ | refine G.gU rfl rfl rfl ?_))
                           all_goals ((first | (refine G.gY rfl rfl ?_; (first | refine G.v (rv_field rfl) rfl ?_ | refine G.v (rv_fieldE rfl) rfl ?_)) | refine G.gN rfl rfl rfl ?_ | refine G.gU rfl rfl rfl ?_))
                           all_goals ((first | (refine G.gY rfl rfl ?_; (first | refine G.v (rv_load1 0 rfl rfl rfl) rfl ?_ | refine G.v (rv_load1 1 rfl rfl rfl) rfl ?_ | refine G.v (rv_load1 2 rfl rfl rfl) rfl ?_ | refine G.v (rv_load1 3 rfl rfl rfl) rfl ?_)) | refine G.gN rfl rfl rfl ?_ | refine G.gU rfl rfl rfl ?_))
                           all_goals ((first | (refine G.gY rfl rfl ?_; refine G.v (rv_gtr rfl rfl) rfl ?_) | refine G.gN rfl rfl rfl ?_ | refine G.gU rfl rfl rfl ?_))
                           all_goals ((first | refine G.v (rv_pickT rfl rfl) rfl ?_ | refine G.v (rv_pickF rfl rfl) rfl ?_))
                           all_goals (refine G.v (rv_move rfl) rfl ?_)
                           all_goals (((with_reducible refine G.gP rfl rfl (fun hg => ?_) (fun hg => ?_)) <;> (try exact Bool.noConfusion hg) <;> (first | (refine G.gY rfl rfl ?_; (first | refine G.v (rv_field rfl) rfl ?_ | refine G.v (rv_fieldE rfl) rfl ?_)) | refine G.gN rfl rfl rfl ?_ | refine G.gU rfl rfl rfl ?_)))
                           all_goals ((first | (refine G.gY rfl rfl ?_; (first | refine G.v (rv_load1 0 rfl rfl rfl) rfl ?_ | refine G.v (rv_load1 1 rfl rfl rfl) rfl ?_ | refine G.v (rv_load1 2 rfl rfl rfl) rfl ?_ | refine G.v (rv_load1 3 rfl rfl rfl) rfl ?_)) | refine G.gN rfl rfl rfl ?_ | refine G.gU rfl rfl rfl ?_))
                           all_goals ((first | (refine G.gY rfl rfl ?_; (first | refine G.v (rv_field rfl) rfl ?_ | refine G.v (rv_fieldE rfl) rfl ?_)) | refine G.gN rfl rfl rfl ?_ | refine G.gU rfl rfl rfl ?_))
                           all_goals ((first | (refine G.gY rfl rfl ?_; (first | refine G.v (rv_field rfl) rfl ?_ | refine G.v (rv_fieldE rfl) rfl ?_)) | refine G.gN rfl rfl rfl ?_ | refine G.gU rfl rfl rfl ?_))
                           all_goals ((first | (refine G.gY rfl rfl ?_; (first | refine G.v (rv_load1 0 rfl rfl rfl) rfl ?_ | refine G.v (rv_load1 1 rfl rfl rfl) rfl ?_ | refine G.v (rv_load1 2 rfl rfl rfl) rfl ?_ | refine G.v (rv_load1 3 rfl rfl rfl) rfl ?_)) | refine G.gN rfl rfl rfl ?_ | refine G.gU rfl rfl rfl ?_))
                           all_goals ((first | (refine G.gY rfl rfl ?_; refine G.v (rv_gtr rfl rfl) rfl ?_) | refine G.gN rfl rfl rfl ?_ | refine G.gU rfl rfl rfl ?_))
                           all_goals ((first | refine G.v (rv_pickT rfl rfl) rfl ?_ | refine G.v (rv_pickF rfl rfl) rfl ?_))
                           all_goals (refine G.v (rv_move rfl) rfl ?_)
                           all_goals (((with_reducible refine G.gP rfl rfl (fun hg => ?_) (fun hg => ?_)) <;> (try exact Bool.noConfusion hg) <;> (first | (refine G.gY rfl rfl ?_; (first | refine G.v (rv_field rfl) rfl ?_ | refine G.v (rv_fieldE rfl) rfl ?_)) | refine G.gN rfl rfl rfl ?_ | refine G.gU rfl rfl rfl ?_)))
                           all_goals ((first | (refine G.gY rfl rfl ?_; (first | refine G.v (rv_load1 0 rfl rfl rfl) rfl ?_ | refine G.v (rv_load1 1 rfl rfl rfl) rfl ?_ | refine G.v (rv_load1 2 rfl rfl rfl) rfl ?_ | refine G.v (rv_load1 3 rfl rfl rfl) rfl ?_)) | refine G.gN rfl rfl rfl ?_ | refine G.gU rfl rfl rfl ?_))
                           all_goals ((first | (refine G.gY rfl rfl ?_; (first | refine G.v (rv_field rfl) rfl ?_ | refine G.v (rv_fieldE rfl) rfl ?_)) | refine G.gN rfl rfl rfl ?_ | refine G.gU rfl rfl rfl ?_))
                           all_goals ((first | (refine G.gY rfl rfl ?_; (first | refine G.v (rv_load1 0 rfl rfl rfl) rfl ?_ | refine G.v (rv_load1 1 rfl rfl rfl) rfl ?_ | refine G.v (rv_load1 2 rfl rfl rfl) rfl ?_ | refine G.v (rv_load1 3 rfl rfl rfl) rfl ?_)) | refine G.gN rfl rfl rfl ?_ | refine G.gU rfl rfl rfl ?_))
                           all_goals ((first | (refine G.gY rfl rfl ?_; (first | refine G.v (rv_incr rfl rfl (by omega)) rfl ?_ | refine G.v (rv_addB rfl rfl (by omega) (by omega)) rfl ?_)) | refine G.gN rfl rfl rfl ?_ | refine G.gU rfl rfl rfl ?_))
                           all_goals ((first | (refine G.gY rfl rfl ?_; (first | refine G.v (rv_field rfl) rfl ?_ | refine G.v (rv_fieldE rfl) rfl ?_)) | refine G.gN rfl rfl rfl ?_ | refine G.gU rfl rfl rfl ?_))
                           all_goals ((first | (refine G.gY rfl rfl ?_; (first | refine G.v (rv_field rfl) rfl ?_ | refine G.v (rv_fieldE rfl) rfl ?_)) | refine G.gN rfl rfl rfl ?_ | refine G.gU rfl rfl rfl ?_))
                           all_goals ((first | (refine G.gY rfl rfl ?_; (first | refine G.v (rv_load1 0 rfl rfl rfl) rfl ?_ | refine G.v (rv_load1 1 rfl rfl rfl) rfl ?_ | refine G.v (rv_load1 2 rfl rfl rfl) rfl ?_ | refine G.v (rv_load1 3 rfl rfl rfl) rfl ?_)) | refine G.gN rfl rfl rfl ?_ | refine G.gU rfl rfl rfl ?_))
                           all_goals ((first | (refine G.gY rfl rfl ?_; refine G.v (rv_gtr rfl rfl) rfl ?_) | refine G.gN rfl rfl rfl ?_ | refine G.gU rfl rfl rfl ?_))
                           all_goals ((first | refine G.v (rv_pickT rfl rfl) rfl ?_ | refine G.v (rv_pickF rfl rfl) rfl ?_))
                           all_goals
                            refine G.done (G.thenN ?_); refine G.cond rfl (fun hc => ?_) (fun hc => ?_)
                            · try exact Bool.noConfusion hc
                              all_goals
                               try replace hc := of_decide_eq_true hc
                               try simp only [List.length_map] at hc
                               try (exfalso; first | contradiction | omega)
                               all_goals
                                refine G.seq (G.region (G.v (rv_assign rfl) rfl (G.done (G.thenN (G.ret (G.inR (G.thenR (G.thenR (G.inR (G.thenR ?_))))))))))
                                first | exact G.retFV rfl rfl (congrArg (Value.int .i64) (by rw [classM, if_neg (by simp [hbo]), if_neg (by simp [hna]), if_neg (by simp [hta]), if_neg (by rw [hfi]; decide), if_neg (by rw [hpa]; decide)])) | exact G.retFV rfl rfl (congrArg (Value.int .i64) (by rw [classM, if_neg (by simp [hbo]), if_neg (by simp [hna]), if_neg (by simp [hta]), if_neg (by rw [hfi]; decide), if_pos (any_at (f := tooBig r.pal) hb1 (by simp_all [tooBig]; done))])) | exact G.retFV rfl rfl (congrArg (Value.int .i64) (by rw [classM, if_neg (by simp [hbo]), if_neg (by simp [hna]), if_neg (by simp [hta]), if_pos (any_at hb hc)])) | exact G.retFV rfl rfl (congrArg (Value.int .i64) (by rw [classM, if_neg (by simp [hbo]), if_neg (by simp [hna]), if_pos (by simpa using hc)])) | exact G.retFV rfl rfl (congrArg (Value.int .i64) (by rw [classM, if_neg (by simp [hbo]), if_pos (by simpa using hc)])) | exact G.retFV rfl rfl (congrArg (Value.int .i64) (by rw [classM, if_pos (by simpa using hc)]))
                            · try exact Bool.noConfusion hc
                              all_goals
                               try replace hc := of_decide_eq_false hc
                               try simp only [List.length_map] at hc
                               try (exfalso; first | contradiction | omega)
                               all_goals
                                refine G.skip (G.inN (G.thenN (G.region (G.v (rv_move rfl) rfl ?_))))
                                (first | refine G.v (rv_incr rfl rfl (by omega)) rfl ?_ | refine G.v (rv_addB rfl rfl (by omega) (by omega)) rfl ?_)
                                refine G.v (rv_assign rfl) rfl (G.done ?_)
                                first | refine G.backK (k1 + 1) 0 rfl (.cons rfl (.nil)) ?_ ?_ ?_ | refine G.backK (k1 + 1) 1 rfl (.cons rfl (.nil)) ?_ ?_ ?_ | refine G.backK (k1 + 1) 2 rfl (.cons rfl (.nil)) ?_ ?_ ?_ | refine G.backK (k1 + 1) 3 rfl (.cons rfl (.nil)) ?_ ?_ ?_
                                · exact ⟨rfl, trivial⟩
                                · exact ⟨hlt1, any_next ht1 hb1 (by simp_all [tooBig]; try omega)⟩
                                · omega
                       · try exact Bool.noConfusion hc
                         all_goals
                          try replace hc := of_decide_eq_false hc
                          try simp only [List.length_map] at hc
                          try (exfalso; first | contradiction | omega)
                          all_goals
                           refine G.exit (G.thenX (G.thenX (G.inX (G.thenN (G.seq (G.region (G.v (rv_assign rfl) rfl (G.done (G.thenN (G.ret ?_))))))))))
                           first | exact G.retFV rfl rfl (congrArg (Value.int .i64) (by rw [classM, if_neg (by simp [hbo]), if_neg (by simp [hna]), if_neg (by simp [hta]), if_neg (by rw [hfi]; decide), if_neg (by rw [hpa]; decide)])) | exact G.retFV rfl rfl (congrArg (Value.int .i64) (by rw [classM, if_neg (by simp [hbo]), if_neg (by simp [hna]), if_neg (by simp [hta]), if_neg (by rw [hfi]; decide), if_pos (any_at (f := tooBig r.pal) hb1 (by simp_all [tooBig]; done))])) | exact G.retFV rfl rfl (congrArg (Value.int .i64) (by rw [classM, if_neg (by simp [hbo]), if_neg (by simp [hna]), if_neg (by simp [hta]), if_pos (any_at hb hc)])) | exact G.retFV rfl rfl (congrArg (Value.int .i64) (by rw [classM, if_neg (by simp [hbo]), if_neg (by simp [hna]), if_pos (by simpa using hc)])) | exact G.retFV rfl rfl (congrArg (Value.int .i64) (by rw [classM, if_neg (by simp [hbo]), if_pos (by simpa using hc)])) | exact G.retFV rfl rfl (congrArg (Value.int .i64) (by rw [classM, if_pos (by simpa using hc)]))
end Go.Proofs.YtnfokjlplbbbeaaGreatDoor

/-
  Rows that are pushed into groups.
-/
namespace Go.Proofs.YtnfokjlplbbbeaaGreatDoor
open Go.RowKit
theorem G.keep2 {n : Nat} {w0 : World} {fr : Fr} {H : List Ch} (m : Nat) {c1 c2 : Ch} {J : List Ch} {K : Act → World → Prop} (hH : H = c1 :: c2 :: J) (h : G n w0 fr (c1 :: c2 :: J.drop m) K) : G n w0 fr H K := G.heap (fun w hh => by subst hH; exact hh.sublist (List.Sublist.cons_cons _ (List.Sublist.cons_cons _ (List.drop_sublist m J)))) h
theorem G.keep1 {n : Nat} {w0 : World} {fr : Fr} {H : List Ch} (m : Nat) {c1 : Ch} {J : List Ch} {K : Act → World → Prop} (hH : H = c1 :: J) (h : G n w0 fr (c1 :: J.drop m) K) : G n w0 fr H K := G.heap (fun w hh => by subst hH; exact hh.sublist (List.Sublist.cons_cons _ (List.drop_sublist m J))) h
end Go.Proofs.YtnfokjlplbbbeaaGreatDoor
