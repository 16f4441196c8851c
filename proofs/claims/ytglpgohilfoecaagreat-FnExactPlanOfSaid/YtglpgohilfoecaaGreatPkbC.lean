/-
  Texts of this proof, one behind the other: Req3, Req4, Req5, Req6, Req7, Req8, Cls, Copy, Rep, Units, Gram, Open, OpenR, MarkR, Facts, Grp1, Kinds, Kinds2.
-/
import Derived.Test.YtglpgohilfoecaaGreatPkbB
import Derived.Test.YtglpgohilfoecaaGreatPkbA
import Derived.ProofKit
import Derived.OpenShut
import Derived.ShutString
import Derived.ChangeOld
import Derived.Deep.Slices
import Derived.Deep.Fields
import Derived.Test.YtglpgohilfoecaaGreatRows
import Derived.JoinedOf
set_option linter.unusedVariables false
set_option linter.unusedSimpArgs false

/-
  What is found in an order, and its bounds.
-/
namespace Go.Proofs.YtglpgohilfoecaaGreat
open Go.RowKit
attribute [local irreducible] Go.wpList Go.Code.wp Go.Exit.then Go.Exit.inBlock Go.bodyPost Go.Calls pE pB G RunsV FnV Fn FnM
set_option maxRecDepth 100000
set_option maxHeartbeats 1000000
theorem find_at {α : Type} {p : α → Bool} {l : List α} {k : Nat} {b : α} (h : (l.take k).any p = false) (hb : l[k]? = some b) (hp : p b = true) : l.find? p = some b := by
  have h1 : l = l.take k ++ b :: l.drop (k + 1) := by
    obtain ⟨hk, rfl⟩ := List.getElem?_eq_some_iff.1 hb
    rw [← List.drop_eq_getElem_cons hk, List.take_append_drop]
  rw [h1, List.find?_append]
  have h2 : (l.take k).find? p = none := by
    rw [List.find?_eq_none]; intro x hx; have := List.any_eq_false.1 h x hx; exact this
  rw [h2, Option.none_or, List.find?_cons_of_pos hp]
theorem find_no {α : Type} {p : α → Bool} {l : List α} {k : Nat} (h : (l.take k).any p = false) (hk : ¬ k < l.length) : l.find? p = none := by
  rw [List.take_of_length_le zc] at h
  rw [List.find?_eq_none]; intro x hx; exact List.any_eq_false.1 h x hx
theorem idx_find {α : Type} (p : α → Bool) (l : List α) : (idxM p l = -1 ∧ l.find? p = none) ∨ ∃ (k : Nat) (b : α), idxM p l = k ∧ l[k]? = some b ∧ l.find? p = some b := by
  induction l with
  | nil => exact .inl ⟨rfl, rfl⟩
  | cons x r ih =>
    by_cases hx : p x = true
    · exact .inr ⟨0, x, by simp [idxM, hx], rfl, by simp [hx]⟩
    · have hx2 : p x = false := by simpa using hx
      rcases ih with ⟨h1, h2⟩ | ⟨k, b, h1, h2, h3⟩
      · exact .inl ⟨by simp [idxM, hx2, h1], by simp [hx2, h2]⟩
      · exact .inr ⟨k + 1, b, by simp only [idxM, hx2, h1]; simp; omega, by simpa using h2, by simp [hx2, h3]⟩
theorem any_not {α : Type} {p : α → Bool} {l : List α} : l.any (fun b => !p b) = !l.all p := by
  induction l with
  | nil => rfl
  | cons x r ih => simp only [List.any_cons, List.all_cons, ih, Bool.not_and]
/-- A type by its number. -/
def typeAt (r : ReqM) (id : Int) : TypeM × Bool := match typeByM r id with | some t => (t, true) | none => (typeZ, false)
theorem typeAt_no {r : ReqM} {id : Int} (h : r.types.find? (fun t => decide (t.id = id)) = none) : typeAt r id = (typeZ, false) := by rw [typeAt, typeByM, h]
theorem typeAt_yes {r : ReqM} {id : Int} {t : TypeM} (h : r.types.find? (fun t => decide (t.id = id)) = some t) : typeAt r id = (t, true) := by rw [typeAt, typeByM, h]
theorem typeById1_any (id : Int) (b : TypeM) {q : Nat} (w : World) (h : Rd w (.slice (some ⟨q, 0, none⟩) 1 1) 1 [[.int .i64 id]]) : FnV Tryz.prog 78 [.agg (TypeM.cells b).toArray, pB q 0] w (.bool (decide (b.id = id))) := by
  rw [pB_eq_pE q 1]
  refine FnV.of (n := 8) Tryz.func78 rfl rfl ?_; refine zaJ (fun bk2 _ => ?_); refine zcQ ?_; refine zbS ?_; refine zde ?_; refine zcf ?_
  exact G.retFV rfl rfl rfl
theorem typeById_no {r : ReqM} {pv tv iv : Value} (id : Int) (w : World) (h2 : Rd w tv 7 (r.types.map TypeM.cells)) (hi : idxM (fun t => decide (t.id = id)) r.types = -1) : FnV Tryz.prog 22 [.agg (r.cells pv tv iv).toArray, .int .i64 id] w (.tuple #[typeZ.val, .bool false]) := by
  refine FnV.of (n := 19) Tryz.func22 rfl rfl ?_; refine zaJ (fun bk2 _ => ?_); refine zcs (fun bk3 _ => ?_); refine zbn (fun bk4 _ => ?_); refine zaB ?_; refine za2 ?_; refine zdq ?_; refine zek (fun _ _ => ?_); refine zcY ?_; refine zaI ?_; refine G.cond rfl (fun hc => ?_) (fun hc => ?_)
  replace hc := of_decide_eq_true hc
  refine zdk ?_; refine zaN (fun _ _ => ?_); refine zcf ?_; refine G.thenR ?_
  exact G.retVL rfl (.cons zaa (.cons (.tmp rfl) .nil)) rfl
  exact Bool.noConfusion hc
theorem typeById_yes {r : ReqM} {pv tv iv : Value} (id : Int) (w : World) (h2 : Rd w tv 7 (r.types.map TypeM.cells)) {k : Nat} {b : TypeM} (hi : idxM (fun t => decide (t.id = id)) r.types = k) (hb : r.types[k]? = some b) : FnV Tryz.prog 22 [.agg (r.cells pv tv iv).toArray, .int .i64 id] w (.tuple #[b.val, .bool true]) := by
  have hle := h2.le_map
  have hlt := (List.getElem?_eq_some_iff.1 hb).1
  have he := get_map hb TypeM.cells
  refine FnV.of (n := 19) Tryz.func22 rfl rfl ?_; refine zaJ (fun bk2 _ => ?_); refine zcs (fun bk3 _ => ?_); refine zbn (fun bk4 _ => ?_); refine zaB ?_; refine za2 ?_; refine zdq ?_; refine zek (fun _ _ => ?_); refine zcY ?_; refine zaI ?_; refine G.cond rfl (fun hc => ?_) (fun hc => ?_)
  exact Bool.noConfusion hc
  replace hc := of_decide_eq_false hc
  refine zbR ?_; refine za2 ?_; refine zaC ?_; refine za5 ?_; refine zaN (fun _ _ => ?_); refine zcf ?_
  exact G.retVL rfl (.cons zaa (.cons (.tmp rfl) .nil)) rfl
theorem typeById_any {r : ReqM} {pv tv iv : Value} (id : Int) (w : World) (h2 : Rd w tv 7 (r.types.map TypeM.cells)) : FnV Tryz.prog 22 [.agg (r.cells pv tv iv).toArray, .int .i64 id] w (.tuple #[(typeAt r id).1.val, .bool (typeAt r id).2]) := by
  rcases idx_find (fun t => decide (t.id = id)) r.types with ⟨h, e⟩ | ⟨k, b, h, hb, e⟩
  · rw [typeAt_no e]; exact typeById_no id w h2 h
  · rw [typeAt_yes e]; exact typeById_yes id w h2 h hb
theorem stypeById_any {r : ReqM} {pv tv iv : Value} (id : Int) (w : World) (h2 : Rd w tv 7 (r.types.map TypeM.cells)) : FnV Tryz.prog 81 [.agg (r.cells pv tv iv).toArray, .int .i64 id] w (.tuple #[(typeAt r id).1.val, .bool (typeAt r id).2]) := by
  have hle := h2.le_map
  refine FnV.of (n := 28) Tryz.func81 rfl rfl ?_; refine zaJ (fun bk2 _ => ?_); refine zbn (fun bk4 _ => ?_); refine zdR ?_; refine G.loopK (ι := Nat) (ks := [1, 2, 4]) (fun k => [(6, .int .i64 k)]) (fun _ => []) (fun k => k ≤ r.types.length ∧ (r.types.take k).any (fun t => decide (t.id = id)) = false) (fun k => r.types.length - k) 0 (.cons rfl (.cons rfl (.cons rfl (.nil)))) rfl ?_ ?_ ?_
  exact ⟨Nat.zero_le _, rfl⟩
  exact ⟨rfl, trivial⟩
  rintro k ⟨hk, ht⟩
  by_cases hlt : k < r.types.length
  case' pos => (obtain ⟨b, hb⟩ := get_of_lt hlt; have he := get_map hb TypeM.cells)
  all_goals
   refine zfn ?_; refine zbe ?_; refine zfO ?_; refine G.cond rfl (fun hc => ?_) (fun hc => ?_)
   · all_goals
      replace hc := of_decide_eq_true hc
      simp only [List.length_map] at hc
      try (exfalso; omega)
      all_goals
       refine zdo ?_; refine zbe ?_; refine zaC ?_; refine zb4 ?_; refine zaC ?_; refine zde ?_; refine za1 ?_; refine G.cond rfl (fun hc => ?_) (fun hc => ?_)
       · all_goals
          replace hc := of_decide_eq_true hc
          all_goals
           refine zbZ ?_; refine zbe ?_; refine zaC ?_; refine za5 ?_; refine zaN (fun _ _ => ?_); refine zcf ?_; refine zbg ?_
           rw [typeAt_yes (find_at ht hb zr)]; exact G.retVL rfl (.cons zaa (.cons (.tmp rfl) .nil)) rfl
       · all_goals
          replace hc := of_decide_eq_false hc
          all_goals
           refine zff ?_; refine G.backK (k + 1) 0 rfl (.cons rfl (.cons rfl (.cons rfl (.nil)))) ?_ ?_ ?_
           exact ⟨rfl, trivial⟩
           exact ⟨hlt, any_next ht hb zr⟩
           omega
   · all_goals
      replace hc := of_decide_eq_false hc
      simp only [List.length_map] at hc
      try (exfalso; omega)
      all_goals
       refine zaL ?_; refine zdk ?_; refine zaN (fun _ _ => ?_); refine zcf ?_
       rw [typeAt_no (find_no ht hlt)]; exact G.retVL rfl (.cons zaa (.cons (.tmp rfl) .nil)) rfl
theorem masterOf_any {r : ReqM} {pv tv iv : Value} (w : World) (h2 : Rd w tv 7 (r.types.map TypeM.cells)) : FnV Tryz.prog 30 [.agg (r.cells pv tv iv).toArray] w (.tuple #[(typeAt r r.master).1.val, .bool (typeAt r r.master).2]) := by
  refine FnV.of (n := 10) Tryz.func30 rfl rfl ?_; refine zaJ (fun bk1 _ => ?_); refine zbn (fun bk2 _ => ?_); refine zba ?_; refine zbF ?_; refine zbe ?_; refine G.op (og_callV rfl rfl (fun w hh => typeById_any (r := r) r.master w (Rd.stays h2 _ hh))) rfl (fun _ _ => ?_); refine G.v (rv_extract rfl rfl) rfl (G.v (rv_extract rfl rfl) rfl ?_); refine zaN (fun _ _ => ?_); refine zcf ?_
  exact G.retVL rfl (.cons zaa (.cons (.tmp rfl) .nil)) rfl
theorem smasterOf_any {r : ReqM} {pv tv iv : Value} (w : World) (h2 : Rd w tv 7 (r.types.map TypeM.cells)) : FnV Tryz.prog 86 [.agg (r.cells pv tv iv).toArray] w (.tuple #[(typeAt r r.master).1.val, .bool (typeAt r r.master).2]) := by
  have hle := h2.le_map
  refine FnV.of (n := 27) Tryz.func86 rfl rfl ?_; refine zaJ (fun bk1 _ => ?_); refine zbn (fun bk2 _ => ?_); refine zdR ?_; refine G.loopK (ι := Nat) (ks := [1, 2]) (fun k => [(4, .int .i64 k)]) (fun _ => []) (fun k => k ≤ r.types.length ∧ (r.types.take k).any (fun t => decide (t.id = r.master)) = false) (fun k => r.types.length - k) 0 (.cons rfl (.cons rfl (.nil))) rfl ?_ ?_ ?_
  exact ⟨Nat.zero_le _, rfl⟩
  exact ⟨rfl, trivial⟩
  rintro k ⟨hk, ht⟩
  by_cases hlt : k < r.types.length
  case' pos => (obtain ⟨b, hb⟩ := get_of_lt hlt; have he := get_map hb TypeM.cells)
  all_goals
   refine zfn ?_; refine zbe ?_; refine zfO ?_; refine G.cond rfl (fun hc => ?_) (fun hc => ?_)
   · all_goals
      replace hc := of_decide_eq_true hc
      simp only [List.length_map] at hc
      try (exfalso; omega)
      all_goals
       refine zaQ ?_; refine zfo ?_; refine zct ?_; refine zc7 ?_; refine GE.q 3 rfl za rfl (qg_runs (rv_indexH rfl rfl zb rfl zf)) rfl ?_; refine GE.q 4 rfl za rfl (qg_runs (rv_fieldE rfl)) rfl ?_; refine GE.q 5 rfl za rfl (qg_runs (rv_loadE rfl zb zf rfl)) rfl ?_; refine zdU (fun _ _ => ?_); refine GE.ol 7 za rfl rfl (og_runs (rv_load1 1 rfl rfl rfl)) rfl zd (fun _ _ => ?_); refine GE.ol 8 za rfl rfl (og_runs (rv_eql rfl rfl)) rfl zd (fun _ _ => ?_); refine zbj ?_; refine G.cond rfl (fun hc => ?_) (fun hc => ?_)
       · all_goals
          replace hc := of_decide_eq_true hc
          all_goals
           refine zbZ ?_; refine zbe ?_; refine zaC ?_; refine za5 ?_; refine zaN (fun _ _ => ?_); refine zcf ?_; refine zbg ?_
           rw [typeAt_yes (find_at ht hb zr)]; exact G.retVL rfl (.cons zaa (.cons (.tmp rfl) .nil)) rfl
       · all_goals
          replace hc := of_decide_eq_false hc
          all_goals
           refine zff ?_; refine G.backK (k + 1) 0 rfl (.cons rfl (.cons rfl (.nil))) ?_ ?_ ?_
           exact ⟨rfl, trivial⟩
           exact ⟨hlt, any_next ht hb zr⟩
           omega
   · all_goals
      replace hc := of_decide_eq_false hc
      simp only [List.length_map] at hc
      try (exfalso; omega)
      all_goals
       refine zaL ?_; refine zdk ?_; refine zaN (fun _ _ => ?_); refine zcf ?_
       rw [typeAt_no (find_no ht hlt)]; exact G.retVL rfl (.cons zaa (.cons (.tmp rfl) .nil)) rfl
theorem cnt_take {l : List ItemM} {k : Nat} {b : ItemM} (h : l[k]? = some b) : cntSum (l.take (k + 1)) = cntSum (l.take k) + b.cnt := by
  simp only [cntSum, List.take_add_one, h, Option.toList_some, List.map_append, List.sum_append, List.map_cons, List.map_nil, List.sum_cons, List.sum_nil, Int.add_zero]
theorem item_cnt {b : ItemM} (h : itemOkM b = true) : 1 ≤ b.cnt ∧ b.cnt ≤ 6 := by
  simp only [itemOkM, Bool.and_eq_true] at h
  have := h.2
  simp only [inB, Bool.and_eq_true, decide_eq_true_eq] at this
  exact this
theorem cnt_in : ∀ {l : List ItemM}, l.all itemOkM = true → (l.length : Int) ≤ cntSum l ∧ cntSum l ≤ 6 * l.length
  | [], _ => by simp [cntSum]
  | b :: r, h => by
    rw [List.all_cons, Bool.and_eq_true] at h
    have h1 := cnt_in h.2
    have h2 := item_cnt h.1
    simp only [cntSum, List.map_cons, List.sum_cons, List.length_cons] at *
    omega
theorem boundsOk1_any (b : PairM) (w : World) : FnV Tryz.prog 222 [.agg (PairM.cells b).toArray] w (.bool (!pairOkM b)) := by
  refine FnV.of (n := 13) Tryz.func222 rfl rfl ?_; refine zaJ (fun bk1 _ => ?_); refine zcQ ?_; refine zaZ (fun _ _ => ?_); refine zdA ?_
  (with_reducible refine G.gP rfl rfl (fun hg => ?_) (fun hg => ?_)) <;> (try exact Bool.noConfusion hg) <;> (first | (refine zaH ?_; (refine zaS ?_)) | refine zaF ?_)
  all_goals ((first | (refine zbW ?_) | refine zaF ?_))
  all_goals ((first | (refine zer (fun _ _ => ?_)) | refine zaF ?_))
  all_goals ((first | (refine zcu ?_) | refine zaF ?_))
  all_goals ((first | refine za3 ?_ | refine za4 ?_))
  all_goals (refine zcB ?_)
  all_goals
   refine zdj ?_; simp_all [pairOkM]
theorem boundsOk2_any (b : TypeM) (w : World) : FnV Tryz.prog 223 [.agg (TypeM.cells b).toArray] w (.bool (!typeOkM b)) := by
  refine FnV.of (n := 6) Tryz.func223 rfl rfl ?_; refine zaJ (fun bk1 _ => ?_); refine zfN ?_; refine G.op (og_callV rfl rfl (fun w hh => typeOk_any b w)) rfl (fun _ _ => ?_); refine zbr ?_; refine zcf ?_
  exact G.retFV rfl rfl rfl
theorem boundsOk_any {r : ReqM} {pv tv iv : Value} (w : World) (h : Rd w pv 2 (r.pairs.map PairM.cells)) (h2 : Rd w tv 7 (r.types.map TypeM.cells)) (h3 : Rd w iv 7 (r.items.map ItemM.cells)) :
    FnV Tryz.prog 170 [.agg (r.cells pv tv iv).toArray] w (.bool (boundsOkM r)) := by
  have hle := h.le_map
  have hle2 := h2.le_map
  have hle3 := h3.le_map
  have hln : (r.pairs.map PairM.cells).length = r.pairs.length := by simp
  have hln2 : (r.types.map TypeM.cells).length = r.types.length := by simp
  have hln3 : (r.items.map ItemM.cells).length = r.items.length := by simp
  refine FnV.of (n := 70) Tryz.func170 rfl rfl ?_; refine zaJ (fun bk1 _ => ?_); refine zba ?_; refine zbZ ?_; refine zaK ?_; refine zaZ (fun _ _ => ?_); refine zdA ?_
  (with_reducible refine G.gP rfl rfl (fun hg => ?_) (fun hg => ?_)) <;> (try exact Bool.noConfusion hg) <;> (first | (refine zaH ?_; (refine zaS ?_)) | refine zaF ?_)
  all_goals ((first | (refine zaH ?_; (refine G.v (rv_loadP 0 rfl rfl (.skip (.one (.one (.one (.one .nil)))))) rfl ?_)) | refine zaF ?_))
  all_goals ((first | (refine zaH ?_; refine G.op (og_callV rfl rfl (fun w hh => palletOk_any r.pal w)) rfl (fun _ _ => ?_)) | refine zaF ?_))
  all_goals ((first | (refine zcu ?_) | refine zaF ?_))
  all_goals ((first | refine za3 ?_ | refine za4 ?_))
  all_goals (refine zaC ?_)
  all_goals (((with_reducible refine G.gP rfl rfl (fun hg => ?_) (fun hg => ?_)) <;> (try exact Bool.noConfusion hg) <;> (first | (refine zaH ?_; (refine zaS ?_)) | refine zaF ?_)))
  all_goals ((first | (refine zaH ?_; (refine za6 ?_)) | refine zaF ?_))
  all_goals ((first | (refine zer (fun _ _ => ?_)) | refine zaF ?_))
  all_goals ((first | (refine zcu ?_) | refine zaF ?_))
  all_goals ((first | refine za3 ?_ | refine za4 ?_))
  all_goals (refine zaC ?_)
  all_goals (((with_reducible refine G.gP rfl rfl (fun hg => ?_) (fun hg => ?_)) <;> (try exact Bool.noConfusion hg) <;> (first | (refine zaH ?_; (refine zaS ?_)) | refine zaF ?_)))
  all_goals ((first | (refine zaH ?_; (refine za6 ?_)) | refine zaF ?_))
  all_goals ((first | (refine zaH ?_; refine zaX ?_) | refine zaF ?_))
  all_goals ((first | (refine zds ?_) | refine zaF ?_))
  all_goals ((first | refine za3 ?_ | refine za4 ?_))
  all_goals
   refine za1 ?_; refine G.cond rfl (fun hc => ?_) (fun hc => ?_)
   · all_goals
      try replace hc := of_decide_eq_true hc
      simp only [List.length_map] at hc
      all_goals
       refine zbc ?_
       first | (have hcc : ¬ (r.pairs.length : Int) ≤ 16 := zc; refine G.retFV rfl rfl (congrArg Value.bool ?_); simp only [boundsOkM]; rw [decide_eq_false hcc]; simp; done) | (refine G.retFV rfl rfl (congrArg Value.bool ?_); simp only [Bool.not_eq_true', Bool.not_eq_false', List.length_map] at *; clear h h2 h3; simp only [boundsOkM, *, Bool.and_false, Bool.false_and]; done)
   · try exact Bool.noConfusion hc
     all_goals
      replace hc := of_decide_eq_false hc
      simp only [List.length_map] at hc
      all_goals
       refine zdN ?_; refine zaK ?_; refine G.op (og_callV rfl rfl (fun w hh => (containsPair_any w (Rd.stays h _ hh) (fun w' k b hw hb => boundsOk1_any b w')).mono (congrArg Value.bool any_not))) rfl (fun _ _ => ?_); refine za1 ?_; refine G.cond rfl (fun hc => ?_) (fun hc => ?_)
       · all_goals
          all_goals
           refine zbc ?_; refine G.retFV rfl rfl (congrArg Value.bool ?_); simp only [Bool.not_eq_true', Bool.not_eq_false', List.length_map] at *; clear h h2 h3; simp only [boundsOkM, *, Bool.and_false, Bool.false_and]; done
       · all_goals
          all_goals
           refine zdN ?_; refine zaK ?_; refine zaX ?_; refine zaZ (fun _ _ => ?_); refine zdA ?_
           all_goals (((with_reducible refine G.gP rfl rfl (fun hg => ?_) (fun hg => ?_)) <;> (try exact Bool.noConfusion hg) <;> (first | (refine zaH ?_; (refine zaS ?_)) | refine zaF ?_)))
           all_goals ((first | (refine zaH ?_; (refine za6 ?_)) | refine zaF ?_))
           all_goals ((first | (refine zaH ?_; refine G.op (og_callV rfl rfl (fun w hh => (containsType_any w (Rd.stays h2 _ hh) (fun w' k b hw hb => boundsOk2_any b w')).mono (congrArg Value.bool any_not))) rfl (fun _ _ => ?_)) | refine zaF ?_))
           all_goals ((first | refine za3 ?_ | refine za4 ?_))
           all_goals (refine zaC ?_)
           all_goals (((with_reducible refine G.gP rfl rfl (fun hg => ?_) (fun hg => ?_)) <;> (try exact Bool.noConfusion hg) <;> (first | (refine zaH ?_; (refine zaS ?_)) | refine zaF ?_)))
           all_goals ((first | (refine zaH ?_; (refine za6 ?_)) | refine zaF ?_))
           all_goals ((first | (refine zer (fun _ _ => ?_)) | refine zaF ?_))
           all_goals ((first | (refine zcu ?_) | refine zaF ?_))
           all_goals ((first | refine za3 ?_ | refine za4 ?_))
           all_goals (refine zaC ?_)
           all_goals (((with_reducible refine G.gP rfl rfl (fun hg => ?_) (fun hg => ?_)) <;> (try exact Bool.noConfusion hg) <;> (first | (refine zaH ?_; (refine zaS ?_)) | refine zaF ?_)))
           all_goals ((first | (refine zaH ?_; (refine za6 ?_)) | refine zaF ?_))
           all_goals ((first | (refine zaH ?_; refine zaX ?_) | refine zaF ?_))
           all_goals ((first | (refine zds ?_) | refine zaF ?_))
           all_goals ((first | refine za3 ?_ | refine za4 ?_))
           all_goals
            refine za1 ?_; refine G.cond rfl (fun hc => ?_) (fun hc => ?_)
            · all_goals
               try replace hc := of_decide_eq_true hc
               simp only [List.length_map] at hc
               all_goals
                refine zbc ?_
                first | (have hcc : ¬ (r.items.length : Int) ≤ 8 := zc; refine G.retFV rfl rfl (congrArg Value.bool ?_); simp only [boundsOkM]; rw [decide_eq_false hcc]; simp; done) | (refine G.retFV rfl rfl (congrArg Value.bool ?_); simp only [Bool.not_eq_true', Bool.not_eq_false', List.length_map] at *; clear h h2 h3; simp only [boundsOkM, *, Bool.and_false, Bool.false_and]; done)
            · try exact Bool.noConfusion hc
              all_goals
               replace hc := of_decide_eq_false hc
               simp only [List.length_map] at hc
               all_goals
                refine zbR ?_; refine zaG ?_; refine G.seq ?_; refine zbZ ?_; refine zaK ?_; refine zeO ?_
                have hi8 : r.items.length ≤ 8 := by (clear h h2 h3; simp_all; omega)
                refine G.loopK (ι := Nat) (ks := [54, 55]) (fun k => [(3, .int .i64 (cntSum (r.items.take k))), (56, .int .i64 k)]) (fun _ => []) (fun k => k ≤ r.items.length ∧ (r.items.take k).all itemOkM = true) (fun k => r.items.length - k) 0 (.cons rfl (.cons rfl (.nil))) rfl ?_ ?_ ?_
                exact ⟨Nat.zero_le _, rfl⟩
                exact ⟨rfl, rfl, trivial⟩
                rintro k ⟨hk, ht⟩
                have hcn := cnt_in ht
                rw [List.length_take, Nat.min_eq_left hk] at hcn
                by_cases hlt : k < r.items.length
                case' pos => (obtain ⟨b, hb⟩ := get_of_lt hlt; have he := get_map hb ItemM.cells; have hct := cnt_take hb)
                all_goals
                 refine zbo ?_; refine G.cond rfl (fun hc => ?_) (fun hc => ?_)
                 · all_goals
                    replace hc := of_decide_eq_true hc
                    simp only [List.length_map] at hc
                    try (exfalso; omega)
                    all_goals
                     refine zdo ?_; refine za5 ?_; refine zbn (fun bk5 _ => ?_); refine zaN (fun _ _ => ?_); refine za1 ?_; refine G.seq ?_; refine zaU ?_; refine G.op (og_callV rfl rfl (fun w hh => itemOk_any b w)) rfl (fun _ _ => ?_); refine zcl ?_; refine G.cond rfl (fun hc => ?_) (fun hc => ?_)
                     · all_goals
                        all_goals
                         refine zbc ?_; refine zbg ?_
                         have hno := all_no hb zr; refine G.retFV rfl rfl (congrArg Value.bool ?_); rw [boundsOkM, hno]; simp
                     · all_goals
                        all_goals
                         have hcb := item_cnt (b := b) zr
                         all_goals
                          refine zbR ?_; refine zbi ?_; refine zaK ?_; refine zbT ?_; refine za0 ?_; refine zaO ?_; refine G.backK (k + 1) 1 rfl (.cons rfl (.cons rfl (.nil))) ?_ ?_ ?_
                          exact ⟨congrArg (fun z => some (Value.int .i64 z)) hct.symm, rfl, trivial⟩
                          exact ⟨hlt, all_next ht hb zr⟩
                          omega
                 · all_goals
                    replace hc := of_decide_eq_false hc
                    simp only [List.length_map] at hc
                    try (exfalso; omega)
                    all_goals
                     refine zaL ?_; refine zaD ?_; refine G.v (rv_leq rfl rfl) rfl ?_; refine zcf ?_
                     have hal := all_end ht hlt; rw [take_all hlt]; refine G.retFV rfl rfl (congrArg Value.bool ?_); simp_all [boundsOkM]
theorem sboundsOk_any {r : ReqM} {pv tv iv : Value} (w : World) (h : Rd w pv 2 (r.pairs.map PairM.cells)) (h2 : Rd w tv 7 (r.types.map TypeM.cells)) (h3 : Rd w iv 7 (r.items.map ItemM.cells)) :
    FnV Tryz.prog 83 [.agg (r.cells pv tv iv).toArray] w (.bool (boundsOkM r)) := by
  have hle := h.le_map
  have hle2 := h2.le_map
  have hle3 := h3.le_map
  have hln : (r.pairs.map PairM.cells).length = r.pairs.length := by simp
  have hln2 : (r.types.map TypeM.cells).length = r.types.length := by simp
  have hln3 : (r.items.map ItemM.cells).length = r.items.length := by simp
  refine FnV.of (n := 111) Tryz.func83 rfl rfl ?_; refine zaJ (fun bk1 _ => ?_); refine zba ?_; refine zbZ ?_; refine zaK ?_; refine za8 (fun _ _ => ?_); refine zdA ?_
  (with_reducible refine G.gP rfl rfl (fun hg => ?_) (fun hg => ?_)) <;> (try exact Bool.noConfusion hg) <;> (first | (refine zaH ?_; (refine zaS ?_)) | refine zaF ?_)
  all_goals ((first | (refine zaH ?_; (refine G.v (rv_loadP 0 rfl rfl (.skip (.one (.one (.one (.one .nil)))))) rfl ?_)) | refine zaF ?_))
  all_goals ((first | (refine zaH ?_; refine G.op (og_callV rfl rfl (fun w hh => spalletOk_any r.pal w)) rfl (fun _ _ => ?_)) | refine zaF ?_))
  all_goals ((first | (refine zcu ?_) | refine zaF ?_))
  all_goals ((first | refine za3 ?_ | refine za4 ?_))
  all_goals (refine zaC ?_)
  all_goals (((with_reducible refine G.gP rfl rfl (fun hg => ?_) (fun hg => ?_)) <;> (try exact Bool.noConfusion hg) <;> (first | (refine zaH ?_; (refine zaS ?_)) | refine zaF ?_)))
  all_goals ((first | (refine zaH ?_; (refine za6 ?_)) | refine zaF ?_))
  all_goals ((first | (refine ze6 (fun _ _ => ?_)) | refine zaF ?_))
  all_goals ((first | (refine zcu ?_) | refine zaF ?_))
  all_goals ((first | refine za3 ?_ | refine za4 ?_))
  all_goals (refine zaC ?_)
  all_goals (((with_reducible refine G.gP rfl rfl (fun hg => ?_) (fun hg => ?_)) <;> (try exact Bool.noConfusion hg) <;> (first | (refine zaH ?_; (refine zaS ?_)) | refine zaF ?_)))
  all_goals ((first | (refine zaH ?_; (refine za6 ?_)) | refine zaF ?_))
  all_goals ((first | (refine zaH ?_; refine zaX ?_) | refine zaF ?_))
  all_goals ((first | (refine zds ?_) | refine zaF ?_))
  all_goals ((first | refine za3 ?_ | refine za4 ?_))
  all_goals (refine zaC ?_)
  all_goals (((with_reducible refine G.gP rfl rfl (fun hg => ?_) (fun hg => ?_)) <;> (try exact Bool.noConfusion hg) <;> (first | (refine zaH ?_; (refine zaS ?_)) | refine zaF ?_)))
  all_goals ((first | (refine zaH ?_; (refine za6 ?_)) | refine zaF ?_))
  all_goals ((first | (refine zaH ?_; refine zaX ?_) | refine zaF ?_))
  all_goals ((first | (refine ze6 (fun _ _ => ?_)) | refine zaF ?_))
  all_goals ((first | (refine zcu ?_) | refine zaF ?_))
  all_goals ((first | refine za3 ?_ | refine za4 ?_))
  all_goals (refine zaC ?_)
  all_goals (((with_reducible refine G.gP rfl rfl (fun hg => ?_) (fun hg => ?_)) <;> (try exact Bool.noConfusion hg) <;> (first | (refine zaH ?_; (refine zaS ?_)) | refine zaF ?_)))
  all_goals ((first | (refine zaH ?_; (refine za6 ?_)) | refine zaF ?_))
  all_goals ((first | (refine zaH ?_; refine G.op (og_callV rfl rfl (fun w _ => l2Id_any _ w)) rfl (fun _ _ => ?_)) | refine zaF ?_))
  all_goals ((first | (refine zcu ?_) | refine zaF ?_))
  all_goals ((first | refine za3 ?_ | refine za4 ?_))
  all_goals (refine zaC ?_)
  all_goals (((with_reducible refine G.gP rfl rfl (fun hg => ?_) (fun hg => ?_)) <;> (try exact Bool.noConfusion hg) <;> (first | (refine zaH ?_; (refine zaS ?_)) | refine zaF ?_)))
  all_goals ((first | (refine zaH ?_; (refine za6 ?_)) | refine zaF ?_))
  all_goals ((first | (refine zaH ?_; refine zaX ?_) | refine zaF ?_))
  all_goals ((first | (refine zds ?_) | refine zaF ?_))
  all_goals ((first | refine za3 ?_ | refine za4 ?_))
  all_goals
   refine za1 ?_; refine G.cond rfl (fun hc => ?_) (fun hc => ?_)
   · all_goals
      try replace hc := of_decide_eq_true hc
      simp only [List.length_map] at hc
      all_goals
       refine zbc ?_
       first | (have hcc : ¬ (r.pairs.length : Int) ≤ 16 := (by simp only [decide_eq_true_eq] at *; omega); refine G.retFV rfl rfl (congrArg Value.bool ?_); simp only [boundsOkM]; rw [decide_eq_false hcc]; simp; done) | (have hcc : ¬ (r.items.length : Int) ≤ 8 := zc; refine G.retFV rfl rfl (congrArg Value.bool ?_); simp only [boundsOkM]; rw [decide_eq_false hcc]; simp; done) | (refine G.retFV rfl rfl (congrArg Value.bool ?_); simp only [Bool.not_eq_true', Bool.not_eq_false', List.length_map] at *; clear h h2 h3; simp only [boundsOkM, *, Bool.and_false, Bool.false_and]; done)
   · try exact Bool.noConfusion hc
     all_goals
      replace hc := of_decide_eq_false hc
      simp only [List.length_map] at hc
      all_goals
       refine zbR ?_; refine G.seq ?_; refine zbL ?_
       have hi8 : r.items.length ≤ 8 := by omega
       refine G.loopK (ι := Nat) (ks := [1]) (fun k => [(3, .int .i64 k)]) (fun _ => []) (fun k => k ≤ r.pairs.length ∧ (r.pairs.take k).all pairOkM = true) (fun k => r.pairs.length - k) 0 (.cons rfl (.nil)) rfl ?_ ?_ ?_
       exact ⟨Nat.zero_le _, rfl⟩
       exact ⟨rfl, trivial⟩
       rintro k ⟨hk, ht⟩
       by_cases hlt : k < r.pairs.length
       case' pos => (obtain ⟨b, hb⟩ := get_of_lt hlt; have he := get_map hb PairM.cells)
       case' neg => (have hall := all_end ht hlt)
       all_goals
        refine zfn ?_; refine zaK ?_; refine zfO ?_; refine G.cond rfl (fun hc => ?_) (fun hc => ?_)
        · all_goals
           replace hc := of_decide_eq_true hc
           simp only [List.length_map] at hc
           try (exfalso; omega)
           all_goals
            refine zdo ?_; refine zaK ?_; refine zaC ?_; refine zb4 ?_; refine za8 (fun _ _ => ?_); refine zdA ?_
            all_goals (((with_reducible refine G.gP rfl rfl (fun hg => ?_) (fun hg => ?_)) <;> (try exact Bool.noConfusion hg) <;> (first | (refine zaH ?_; (refine zaS ?_)) | refine zaF ?_)))
            all_goals ((first | (refine zaH ?_; (refine za6 ?_)) | refine zaF ?_))
            all_goals ((first | (refine zbm ?_) | refine zaF ?_))
            all_goals ((first | (refine zaH ?_; (refine zeh ?_)) | refine zaF ?_))
            all_goals ((first | (refine zaH ?_; (refine zbq ?_)) | refine zaF ?_))
            all_goals ((first | (refine zaH ?_; refine zeH ?_) | refine zaF ?_))
            all_goals ((first | (refine ze6 (fun _ _ => ?_)) | refine zaF ?_))
            all_goals ((first | (refine zcu ?_) | refine zaF ?_))
            all_goals ((first | refine za3 ?_ | refine za4 ?_))
            all_goals
             refine za1 ?_; refine G.cond rfl (fun hc => ?_) (fun hc => ?_)
             · all_goals
                try simp only [List.length_map] at hc
                all_goals
                 refine zfa ?_
                 have hno := all_no (f := pairOkM) hb (by (simp_all [pairOkM]; done)); refine G.retFV rfl rfl (congrArg Value.bool ?_); rw [boundsOkM, hno]; simp; done
             · try exact Bool.noConfusion hc
               all_goals
                all_goals
                 refine zff ?_; refine G.backK (k + 1) 0 rfl (.cons rfl (.nil)) ?_ ?_ ?_
                 exact ⟨rfl, trivial⟩
                 exact ⟨hlt, all_next ht hb (by simp_all [pairOkM])⟩
                 omega
        · all_goals
           replace hc := of_decide_eq_false hc
           simp only [List.length_map] at hc
           try (exfalso; omega)
           all_goals
            refine zaL ?_; refine G.seq ?_; refine zbL ?_; refine G.loopK (ι := Nat) (ks := [1]) (fun k => [(4, .int .i64 k)]) (fun _ => []) (fun k => k ≤ r.types.length ∧ (r.types.take k).all typeOkM = true) (fun k => r.types.length - k) 0 (.cons rfl (.nil)) rfl ?_ ?_ ?_
            exact ⟨Nat.zero_le _, rfl⟩
            exact ⟨rfl, trivial⟩
            rintro k1 ⟨hk1, ht1⟩
            by_cases hlt1 : k1 < r.types.length
            case' pos => (obtain ⟨b1, hb1⟩ := get_of_lt hlt1; have he := get_map hb1 TypeM.cells)
            case' neg => (have hall1 := all_end ht1 hlt1)
            all_goals
             refine zfn ?_; refine zaK ?_; refine zfO ?_; refine G.cond rfl (fun hc => ?_) (fun hc => ?_)
             · all_goals
                replace hc := of_decide_eq_true hc
                simp only [List.length_map] at hc
                try (exfalso; omega)
                all_goals
                 refine zdo ?_; refine zaK ?_; refine zaC ?_; refine za5 ?_; refine G.op (og_callV rfl rfl (fun w hh => stypeOk_any b1 w)) rfl (fun _ _ => ?_); refine zcl ?_; refine G.cond rfl (fun hc => ?_) (fun hc => ?_)
                 · all_goals
                    all_goals
                     refine zfa ?_
                     have hno := all_no (f := typeOkM) hb1 zr; refine G.retFV rfl rfl (congrArg Value.bool ?_); rw [boundsOkM, hno]; simp; done
                 · all_goals
                    all_goals
                     refine zff ?_; refine G.backK (k1 + 1) 0 rfl (.cons rfl (.nil)) ?_ ?_ ?_
                     exact ⟨rfl, trivial⟩
                     exact ⟨hlt1, all_next ht1 hb1 zr⟩
                     omega
             · all_goals
                replace hc := of_decide_eq_false hc
                simp only [List.length_map] at hc
                try (exfalso; omega)
                all_goals
                 refine zaL ?_; refine zdi ?_; refine G.loopK (ι := Nat) (ks := [1]) (fun k => [(5, .int .i64 (cntSum (r.items.take k))), (6, .int .i64 k)]) (fun _ => []) (fun k => k ≤ r.items.length ∧ (r.items.take k).all itemOkM = true) (fun k => r.items.length - k) 0 (.cons rfl (.nil)) rfl ?_ ?_ ?_
                 exact ⟨Nat.zero_le _, rfl⟩
                 exact ⟨rfl, rfl, trivial⟩
                 rintro k2 ⟨hk2, ht2⟩
                 have hcn := cnt_in ht2
                 rw [List.length_take, Nat.min_eq_left hk2] at hcn
                 by_cases hlt2 : k2 < r.items.length
                 case' pos => (obtain ⟨b2, hb2⟩ := get_of_lt hlt2; have he := get_map hb2 ItemM.cells; have hct := cnt_take hb2)
                 all_goals
                  refine zfn ?_; refine zaK ?_; refine zfO ?_; refine G.cond rfl (fun hc => ?_) (fun hc => ?_)
                  · all_goals
                     replace hc := of_decide_eq_true hc
                     simp only [List.length_map] at hc
                     try (exfalso; omega)
                     all_goals
                      refine zaQ ?_; refine G.seq ?_; refine zbZ ?_; refine zaK ?_; refine zaC ?_; refine za5 ?_; refine G.op (og_callV rfl rfl (fun w hh => sitemOk_any b2 w)) rfl (fun _ _ => ?_); refine zcl ?_; refine G.cond rfl (fun hc => ?_) (fun hc => ?_)
                      · all_goals
                         all_goals
                          refine zbc ?_; refine zbg ?_
                          have hno := all_no (f := itemOkM) hb2 zr; refine G.retFV rfl rfl (congrArg Value.bool ?_); rw [boundsOkM, hno]; simp; done
                      · all_goals
                         all_goals
                          have hcb := item_cnt (b := b2) zr
                          all_goals
                           refine zbR ?_; refine zbi ?_; refine zaK ?_; refine zaC ?_; refine zb4 ?_; refine zbT ?_; refine zeC ?_; refine G.backK (k2 + 1) 0 rfl (.cons rfl (.nil)) ?_ ?_ ?_
                           exact ⟨congrArg (fun z => some (Value.int .i64 z)) hct.symm, rfl, trivial⟩
                           exact ⟨hlt2, all_next ht2 hb2 zr⟩
                           omega
                  · all_goals
                     replace hc := of_decide_eq_false hc
                     simp only [List.length_map] at hc
                     try (exfalso; omega)
                     all_goals
                      refine zaL ?_; refine zaD ?_; refine G.v (rv_leq rfl rfl) rfl ?_; refine zcf ?_
                      have hal := all_end ht2 hlt2; refine G.retFV rfl rfl (congrArg Value.bool ?_); rw [take_all hlt2]; simp only [Bool.not_eq_true', Bool.not_eq_false', List.length_map] at *; clear h h2 h3; have hd1 : (r.pairs.length : Int) ≤ 16 := (by simp only [decide_eq_false_iff_not] at *; omega); have hd2 : (r.items.length : Int) ≤ 8 := zc; simp only [boundsOkM, decide_eq_true hd1, decide_eq_true hd2, *, decide_true, Bool.and_true, Bool.true_and]; done
theorem rv_eqlPair {P : Program} {n : Nat} {w0 : World} {fr : Fr} {H : List Ch} {x y : Operand} {t t' : TypeId} [hT : TySI P t 2] {a b : PairM} (hx : opv fr x = some (.agg a.cells.toArray)) (hy : opv fr y = some (.agg b.cells.toArray)) : RunsV P n w0 fr H (.binOp .eql t x y t') (.bool (decide (a = b))) := by
  have := rv_eqlL (P := P) (n := n) (w0 := w0) (H := H) (t := t) (t' := t') (xs := [a.a, a.b]) (ys := [b.a, b.b]) hx hy rfl rfl
  rwa [show decide ([a.a, a.b] = [b.a, b.b]) = decide (a = b) from decide_eq_decide.2 (by cases a; cases b; simp)] at this
theorem beside_eq (l : List PairM) (a b : Int) : l.any (fun p => decide (PairM.mk a b = p)) = besideM l a b := by
  rw [besideM]
  congr 1
  funext p
  obtain ⟨x, y⟩ := p
  rw [← Bool.decide_and]
  exact decide_eq_decide.2 (by simp only [PairM.mk.injEq]; constructor <;> rintro ⟨rfl, rfl⟩ <;> exact ⟨rfl, rfl⟩)
theorem findPair_any {v : Value} {l : List PairM} (c : PairM) (w : World) (h : Rd w v 2 (l.map PairM.cells)) : FnV Tryz.prog 244 [v, c.val] w (.int .i64 (idxM (fun p => decide (c = p)) l)) := by
  have hle := h.le_map
  refine FnV.of (n := 19) Tryz.func244 rfl rfl ?_; refine zaJ (fun bk3 _ => ?_); refine zcY ?_; refine zeO ?_; refine G.loopK (ι := Nat) (ks := [0, 3, 7]) (fun k => [(8, .int .i64 k)]) (fun _ => []) (fun k => k ≤ l.length ∧ (l.take k).any (fun p => decide (c = p)) = false) (fun k => l.length - k) 0 (.cons rfl (.cons rfl (.cons rfl (.nil)))) rfl ?_ ?_ ?_
  exact ⟨Nat.zero_le _, rfl⟩
  exact ⟨rfl, trivial⟩
  rintro k ⟨hk, ht⟩
  by_cases hlt : k < l.length
  case' pos => (obtain ⟨b, hb⟩ := get_of_lt hlt; have he := get_map hb PairM.cells)
  all_goals
   refine zbo ?_; refine G.cond rfl (fun hc => ?_) (fun hc => ?_)
   · all_goals
      replace hc := of_decide_eq_true hc
      simp only [List.length_map] at hc
      try (exfalso; omega)
      all_goals
       refine zea ?_; refine zba ?_; refine G.drawL [] ?_; refine GE.q 0 rfl za rfl (qg_runs (rv_loadW 0 rfl rfl rfl)) rfl ?_; refine zcU ?_; refine zb9 (fun _ _ => ?_); refine GE.ol 3 za rfl rfl (og_runs (rv_indexH rfl rfl zb rfl zf)) rfl zd (fun _ _ => ?_); refine GE.ol 4 za rfl rfl (og_runs (rv_loadEW rfl zb zf rfl)) rfl zd (fun _ _ => ?_); refine GE.ol 5 za rfl rfl (og_runs (rv_eqlPair rfl rfl)) rfl zd (fun _ _ => ?_); refine zbj ?_; refine G.cond rfl (fun hc => ?_) (fun hc => ?_)
       · all_goals
          replace hc := of_decide_eq_true hc
          all_goals
           refine za9 ?_; refine zbg ?_
           exact G.retFV rfl rfl (congrArg (Value.int .i64) (idx_at ht hb zr).symm)
       · all_goals
          replace hc := of_decide_eq_false hc
          all_goals
           refine G.skip ?_; refine zaO ?_; refine G.backK (k + 1) 0 rfl (.cons rfl (.cons rfl (.cons rfl (.nil)))) ?_ ?_ ?_
           exact ⟨rfl, trivial⟩
           exact ⟨hlt, any_next ht hb zr⟩
           omega
   · all_goals
      replace hc := of_decide_eq_false hc
      simp only [List.length_map] at hc
      try (exfalso; omega)
      all_goals
       refine zd0 ?_
       exact G.retFV rfl rfl (congrArg (Value.int .i64) (idx_none ht hlt).symm)
theorem hasPair_any {v : Value} {l : List PairM} (c : PairM) (w : World) (h : Rd w v 2 (l.map PairM.cells)) : FnV Tryz.prog 239 [v, c.val] w (.bool (l.any (fun p => decide (c = p)))) := by
  refine FnV.of (n := 9) Tryz.func239 rfl rfl ?_; refine zaJ (fun bk3 _ => ?_); refine zeF ?_; refine zeG ?_; refine G.op (og_callV rfl rfl (fun w hh => findPair_any c w (Rd.stays h _ hh))) rfl (fun _ _ => ?_); refine zd6 ?_; refine zcf ?_
  exact G.retFV rfl rfl (congrArg Value.bool (idx_any _ l))
theorem beside_any {v : Value} {l : List PairM} (a b : Int) (w : World) (h : Rd w v 2 (l.map PairM.cells)) : FnV Tryz.prog 219 [v, .int .i64 a, .int .i64 b] w (.bool (besideM l a b)) := by
  refine FnV.of (n := 12) Tryz.func219 rfl rfl ?_; refine zaG ?_; refine zca ?_; refine G.v (rv_build2 rfl (.cons rfl (.cons rfl .nil)) (.cons rfl rfl (.zero (.cons .nil)) (.cons rfl rfl (.succ (.zero (.cons .nil))) .nil))) rfl (G.op (og_callV rfl rfl (fun w hh => hasPair_any ⟨a, b⟩ w (Rd.stays h _ hh))) rfl (fun _ _ => ?_)); refine zcf ?_
  exact G.retFV rfl rfl (congrArg Value.bool (beside_eq l a b))
theorem sbeside_any {v : Value} {l : List PairM} (a b : Int) (w : World) (h : Rd w v 2 (l.map PairM.cells)) : FnV Tryz.prog 151 [v, .int .i64 a, .int .i64 b] w (.bool (besideM l a b)) := by
  have hle := h.le_map
  refine FnV.of (n := 30) Tryz.func151 rfl rfl ?_; refine zdi ?_; refine G.loopK (ι := Nat) (ks := [0, 1, 2]) (fun k => [(7, .int .i64 k)]) (fun _ => []) (fun k => k ≤ l.length ∧ (l.take k).any (fun p => decide (p.a = a) && decide (p.b = b)) = false) (fun k => l.length - k) 0 (.cons rfl (.cons rfl (.cons rfl (.nil)))) rfl ?_ ?_ ?_
  exact ⟨Nat.zero_le _, rfl⟩
  exact ⟨rfl, trivial⟩
  rintro k ⟨hk, ht⟩
  by_cases hlt : k < l.length
  case' pos => (obtain ⟨c, hb⟩ := get_of_lt hlt; have he := get_map hb PairM.cells)
  all_goals
   refine zbv ?_; refine G.cond rfl (fun hc => ?_) (fun hc => ?_)
   · all_goals
      replace hc := of_decide_eq_true hc
      simp only [List.length_map] at hc
      try (exfalso; omega)
      all_goals
       refine zaQ ?_; refine zaM ?_; refine zb4 ?_; refine zaC ?_; refine zde ?_; refine zaC ?_
       all_goals (((with_reducible refine G.gP rfl rfl (fun hg => ?_) (fun hg => ?_)) <;> (try exact Bool.noConfusion hg) <;> (first | (refine zbm ?_) | refine zaF ?_)))
       all_goals ((first | (refine zbm ?_) | refine zaF ?_))
       all_goals ((first | (refine zaH ?_; (refine zeh ?_)) | refine zaF ?_))
       all_goals ((first | (refine zaH ?_; (refine zbq ?_)) | refine zaF ?_))
       all_goals ((first | (refine zaH ?_; refine zeH ?_) | refine zaF ?_))
       all_goals ((first | (refine zbm ?_) | refine zaF ?_))
       all_goals ((first | (refine zaH ?_; refine zde ?_) | refine zaF ?_))
       all_goals ((first | refine za3 ?_ | refine za4 ?_))
       all_goals
        refine za1 ?_; refine G.cond rfl (fun hc => ?_) (fun hc => ?_)
        · try exact Bool.noConfusion hc
          all_goals
           replace hc := of_decide_eq_true hc
           all_goals
            refine zfa ?_; refine G.retFV rfl rfl (congrArg Value.bool ?_); rw [besideM, ← idx_any, idx_at ht hb (by simp_all)]; exact (decide_eq_true zc).symm
        · all_goals
           try replace hc := of_decide_eq_false hc
           try simp only [List.length_map] at hc
           all_goals
            refine zff ?_; refine G.backK (k + 1) 0 rfl (.cons rfl (.cons rfl (.cons rfl (.nil)))) ?_ ?_ ?_
            exact ⟨rfl, trivial⟩
            exact ⟨hlt, any_next ht hb (by simp_all)⟩
            omega
   · all_goals
      replace hc := of_decide_eq_false hc
      simp only [List.length_map] at hc
      try (exfalso; omega)
      all_goals
       refine zd0 ?_; refine G.retFV rfl rfl (congrArg Value.bool ?_); rw [besideM, ← idx_any, idx_none ht hlt]; rfl
def tblRow (ps : List PairM) (m : Nat) (a : Nat) : Bool := besideM ps a a && (List.range m).all fun b => besideM ps a b == besideM ps b a
def tblCell (ps : List PairM) (a b : Nat) : Bool := (!decide (a = b) || besideM ps a a) && (besideM ps a b == besideM ps b a)
theorem tbl_row {ps : List PairM} {m a : Nat} (ha : a < m) : (List.range m).all (tblCell ps a) = tblRow ps m a := by
  rw [Bool.eq_iff_iff]
  simp only [List.all_eq_true, List.mem_range, tblRow, tblCell, Bool.and_eq_true, Bool.or_eq_true, Bool.not_eq_true', decide_eq_false_iff_not]
  constructor
  · intro h
    exact ⟨((h a ha).1).resolve_left (fun hn => hn rfl), fun b hb => (h b hb).2⟩
  · intro h b hb
    exact ⟨.inr h.1, h.2 b hb⟩
theorem tbl_in {ps : List PairM} {m : Nat} (h1 : 1 ≤ m) (h2 : m ≤ 4) : tableOkM ps (m : Int) = (List.range m).all (tblRow ps m) := by
  have : inB (m : Int) 1 4 = true := by simp [inB]; omega
  rw [tableOkM, this, Bool.true_and, Int.toNat_natCast]
  rfl
theorem rall_next {f : Nat → Bool} {k : Nat} (h : (List.range k).all f = true) (hk : f k = true) : (List.range (k + 1)).all f = true := by
  rw [List.range_succ, List.all_append, h]; simp [hk]
theorem rall_no {f : Nat → Bool} {m k : Nat} (h : k < m) (hk : f k = false) : (List.range m).all f = false := by
  rw [List.all_eq_false]; exact ⟨k, List.mem_range.2 h, by simp [hk]⟩
theorem classes_nat {n : Int} (h : inB n 1 4 = true) : ∃ m : Nat, n = m ∧ 1 ≤ m ∧ m ≤ 4 := by
  simp only [inB, Bool.and_eq_true, decide_eq_true_eq] at h
  exact ⟨n.toNat, by omega, by omega, by omega⟩
theorem tableOk_any {v : Value} {l : List PairM} (n : Int) (w : World) (h : Rd w v 2 (l.map PairM.cells)) : FnV Tryz.prog 172 [v, .int .i64 n] w (.bool (tableOkM l n)) := by
  refine FnV.of (n := 34) Tryz.func172 rfl rfl ?_; refine zcd ?_; refine zaZ (fun _ _ => ?_); refine zcl ?_; refine G.cond rfl (fun hc => ?_) (fun hc => ?_); refine zbc ?_; refine G.retFV rfl rfl (congrArg Value.bool ?_); rw [tableOkM, (by simpa using hc : inB n 1 4 = false)]; rfl
  · refine G.skip ?_
    refine G.thenN ?_; refine zcT ?_; refine za1 ?_; refine G.block ?_
    obtain ⟨m, hm, hm1, hm4⟩ := classes_nat (n := n) zr
    subst hm
    refine G.loopK (ι := Nat) (ks := [0, 1, 10]) (fun k => [(11, .int .i64 k)]) (fun _ => []) (fun k => k ≤ m ∧ (List.range k).all (tblRow l m) = true) (fun k => m - k) 0 (.cons rfl (.cons rfl (.cons rfl (.nil)))) rfl ?_ ?_ ?_
    exact ⟨Nat.zero_le _, rfl⟩
    exact ⟨rfl, trivial⟩
    rintro k ⟨hk, ht⟩
    by_cases hlt : k < m
    all_goals
     refine zbo ?_; refine G.cond rfl (fun hc => ?_) (fun hc => ?_)
     · all_goals
        replace hc := of_decide_eq_true hc
        try (exfalso; omega)
        all_goals
         refine zea ?_; refine zba ?_; refine zca ?_; refine G.op (og_callV rfl rfl (fun w hh => beside_any _ _ w zx)) rfl (fun _ _ => ?_); refine zcl ?_; refine G.cond rfl (fun hc => ?_) (fun hc => ?_)
         · all_goals
            all_goals
             refine zbc ?_; refine zbg ?_; refine G.retFV rfl rfl (congrArg Value.bool ?_); rw [tbl_in hm1 hm4, rall_no hlt (by rw [tblRow, (by simpa using hc : besideM l k k = false), Bool.false_and])]; done
         · all_goals
            all_goals
             have hbb := hc
             all_goals
              refine zbR ?_; refine zaM ?_; refine za1 ?_; refine G.block ?_; refine G.loopK (ι := Nat) (ks := [0, 1, 5, 10, 11, 19]) (fun k => [(20, .int .i64 k)]) (fun _ => []) (fun b => b ≤ m ∧ (List.range b).all (fun b => besideM l k b == besideM l b k) = true) (fun k => m - k) 0 (.cons rfl (.cons rfl (.cons rfl (.cons rfl (.cons rfl (.cons rfl (.nil))))))) rfl ?_ ?_ ?_
              exact ⟨Nat.zero_le _, rfl⟩
              exact ⟨rfl, trivial⟩
              rintro k2 ⟨hk2, ht2⟩
              by_cases hlt2 : k2 < m
              all_goals
               refine zbo ?_; refine G.cond rfl (fun hc => ?_) (fun hc => ?_)
               · all_goals
                  replace hc := of_decide_eq_true hc
                  try (exfalso; omega)
                  all_goals
                   refine zea ?_; refine zaB ?_; refine zca ?_; refine G.op (og_callV rfl rfl (fun w hh => beside_any _ _ w zx)) rfl (fun _ _ => ?_); refine zbA ?_; refine zaC ?_; refine G.op (og_callV rfl rfl (fun w hh => beside_any _ _ w zx)) rfl (fun _ _ => ?_); refine G.v (rv_neqb rfl rfl) rfl ?_; refine za1 ?_; refine G.cond rfl (fun hc => ?_) (fun hc => ?_)
                   · all_goals
                      replace hc := of_decide_eq_true hc
                      all_goals
                       refine zcr ?_; refine G.inR (G.thenR (G.thenR (G.inR ?_))); refine zbg ?_; refine G.retFV rfl rfl (congrArg Value.bool ?_); rw [tbl_in hm1 hm4, rall_no hlt (by rw [tblRow, rall_no hlt2 zr, Bool.and_false])]; done
                   · all_goals
                      replace hc := of_decide_eq_false hc
                      all_goals
                       refine G.skip ?_; refine zaO ?_; refine G.backK (k2 + 1) 0 rfl (.cons rfl (.cons rfl (.cons rfl (.cons rfl (.cons rfl (.cons rfl (.nil))))))) ?_ ?_ ?_
                       exact ⟨rfl, trivial⟩
                       exact ⟨hlt2, rall_next ht2 zr⟩
                       omega
               · all_goals
                  replace hc := of_decide_eq_false hc
                  try (exfalso; omega)
                  all_goals
                   refine zc0 ?_; refine zaO ?_; refine G.backK (k + 1) 0 rfl (.cons rfl (.cons rfl (.cons rfl (.nil)))) ?_ ?_ ?_
                   exact ⟨rfl, trivial⟩
                   exact ⟨hlt, rall_next ht (by rw [tblRow, (by simpa using hbb : besideM l k k = true), Bool.true_and]; exact (by rwa [show k2 = m by omega] at ht2))⟩
                   omega
     · all_goals
        replace hc := of_decide_eq_false hc
        try (exfalso; omega)
        all_goals
         refine zd0 ?_
         have hkm : k = m := zc; refine G.retFV rfl rfl (congrArg Value.bool ?_); rw [hkm] at ht; rw [tbl_in hm1 hm4]; exact ht.symm
theorem stableOk_any {v : Value} {l : List PairM} (n : Int) (w : World) (h : Rd w v 2 (l.map PairM.cells)) : FnV Tryz.prog 85 [v, .int .i64 n] w (.bool (tableOkM l n)) := by
  refine FnV.of (n := 41) Tryz.func85 rfl rfl ?_; refine zcd ?_; refine za8 (fun _ _ => ?_); refine zcl ?_; refine G.cond rfl (fun hc => ?_) (fun hc => ?_); refine zbc ?_; refine G.retFV rfl rfl (congrArg Value.bool ?_); rw [tableOkM, (by simpa using hc : inB n 1 4 = false)]; rfl
  · refine G.skip ?_
    refine G.thenN (G.seq ?_); refine zbL ?_
    obtain ⟨m, hm, hm1, hm4⟩ := classes_nat (n := n) zr
    subst hm
    refine G.loopK (ι := Nat) (ks := [0, 1]) (fun k => [(5, .int .i64 k)]) (fun _ => []) (fun k => k ≤ m ∧ (List.range k).all (tblRow l m) = true) (fun k => m - k) 0 (.cons rfl (.cons rfl (.nil))) rfl ?_ ?_ ?_
    exact ⟨Nat.zero_le _, rfl⟩
    exact ⟨rfl, trivial⟩
    rintro k ⟨hk, ht⟩
    by_cases hlt : k < m
    all_goals
     refine zcT ?_; refine zaI ?_; refine G.cond rfl (fun hc => ?_) (fun hc => ?_)
     · all_goals
        replace hc := of_decide_eq_true hc
        try (exfalso; omega)
        all_goals
         refine zaQ ?_; refine zbL ?_; refine G.loopK (ι := Nat) (ks := [0, 1, 5]) (fun k => [(6, .int .i64 k)]) (fun _ => []) (fun b => b ≤ m ∧ (List.range b).all (tblCell l k) = true) (fun k => m - k) 0 (.cons rfl (.cons rfl (.cons rfl (.nil)))) rfl ?_ ?_ ?_
         exact ⟨Nat.zero_le _, rfl⟩
         exact ⟨rfl, trivial⟩
         rintro k2 ⟨hk2, ht2⟩
         by_cases hlt2 : k2 < m
         all_goals
          refine zcT ?_; refine zaI ?_; refine G.cond rfl (fun hc => ?_) (fun hc => ?_)
          · all_goals
             replace hc := of_decide_eq_true hc
             try (exfalso; omega)
             all_goals
              refine zaQ ?_; refine zaM ?_; refine zde ?_; refine zaC ?_
              all_goals (((with_reducible refine G.gP rfl rfl (fun hg => ?_) (fun hg => ?_)) <;> (try exact Bool.noConfusion hg) <;> (first | (refine zbm ?_) | refine zaF ?_)))
              all_goals ((first | (refine zbm ?_) | refine zaF ?_))
              all_goals ((first | (refine zbm ?_) | refine zaF ?_))
              all_goals ((first | (refine zfD (fun _ _ => ?_)) | refine zaF ?_))
              all_goals ((first | (refine zcu ?_) | refine zaF ?_))
              all_goals ((first | refine za3 ?_ | refine za4 ?_))
              all_goals (refine zaC ?_)
              all_goals (((with_reducible refine G.gP rfl rfl (fun hg => ?_) (fun hg => ?_)) <;> (try exact Bool.noConfusion hg) <;> (first | (refine zbm ?_) | refine zaF ?_)))
              all_goals ((first | (refine zbm ?_) | refine zaF ?_))
              all_goals ((first | (refine zbm ?_) | refine zaF ?_))
              all_goals ((first | (refine zfD (fun _ _ => ?_)) | refine zaF ?_))
              all_goals ((first | (refine zbm ?_) | refine zaF ?_))
              all_goals ((first | (refine zbm ?_) | refine zaF ?_))
              all_goals ((first | (refine zbm ?_) | refine zaF ?_))
              all_goals ((first | (refine zfD (fun _ _ => ?_)) | refine zaF ?_))
              all_goals ((first | (refine zaH ?_; refine G.v (rv_neqb rfl rfl) rfl ?_) | refine zaF ?_))
              all_goals ((first | refine za3 ?_ | refine za4 ?_))
              all_goals
               refine za1 ?_; refine G.cond rfl (fun hc => ?_) (fun hc => ?_)
               · all_goals
                  try replace hc := of_decide_eq_true hc
                  all_goals
                   refine zcr ?_; refine G.inR (G.thenR (G.thenR (G.inR ?_))); refine zbg ?_; refine G.retFV rfl rfl (congrArg Value.bool ?_); rw [tbl_in hm1 hm4, rall_no hlt (by rw [← tbl_row hlt]; exact rall_no hlt2 (by simp only [tblCell]; simp_all <;> omega))]; done
               · try exact Bool.noConfusion hc
                 all_goals
                  replace hc := of_decide_eq_false hc
                  all_goals
                   refine zff ?_; refine G.backK (k2 + 1) 0 rfl (.cons rfl (.cons rfl (.cons rfl (.nil)))) ?_ ?_ ?_
                   exact ⟨rfl, trivial⟩
                   exact ⟨hlt2, rall_next ht2 (by simp only [tblCell]; simp_all <;> omega)⟩
                   omega
          · all_goals
             replace hc := of_decide_eq_false hc
             try (exfalso; omega)
             all_goals
              refine zc0 ?_; refine zaE ?_; refine G.backK (k + 1) 0 rfl (.cons rfl (.cons rfl (.nil))) ?_ ?_ ?_
              exact ⟨rfl, trivial⟩
              exact ⟨hlt, rall_next ht (by rw [← tbl_row hlt]; exact (by rwa [show k2 = m by omega] at ht2))⟩
              omega
     · all_goals
        replace hc := of_decide_eq_false hc
        try (exfalso; omega)
        all_goals
         refine zd0 ?_
         have hkm : k = m := zc; refine G.retFV rfl rfl (congrArg Value.bool ?_); rw [hkm] at ht; rw [tbl_in hm1 hm4]; exact ht.symm
/-- Whether a thing's number is one of those ahead of it. -/
def dupAt {α : Type} (f : α → Int) (l : List α) (i : Nat) : Bool := match l[i]? with | some t => (l.take i).any (fun q => decide (f q = f t)) | none => false
theorem dup_at {α : Type} {f : α → Int} {l : List α} {i : Nat} {t : α} (h : l[i]? = some t) : dupAt f l i = (l.take i).any (fun q => decide (f q = f t)) := by rw [dupAt, h]
def itemBad (r : ReqM) (i : Nat) : Bool := match r.items[i]? with | some x => decide (x.cls ≥ r.classes) || dupAt ItemM.id r.items i | none => false
theorem item_bad {r : ReqM} {i : Nat} {x : ItemM} (h : r.items[i]? = some x) : itemBad r i = (decide (x.cls ≥ r.classes) || dupAt ItemM.id r.items i) := by rw [itemBad, h]
def pairIn (r : ReqM) (p : PairM) : Bool := !(decide (p.a ≥ r.classes) || decide (p.b ≥ r.classes))
def namesM (r : ReqM) : Bool :=
  (List.range r.types.length).all (fun i => !dupAt TypeM.id r.types i) && (List.range r.items.length).all (fun i => !itemBad r i) && r.pairs.all (pairIn r) && (typeAt r r.master).2
theorem range_no {f : Nat → Bool} {n k : Nat} (h : k < n) (hf : f k = true) : (List.range n).all (fun i => !f i) = false := rall_no h (by rw [hf]; rfl)
theorem ReqM.good {r : ReqM} {pv tv iv : Value} (h1 : pv.oneCell' = true) (h2 : tv.oneCell' = true) (h3 : iv.oneCell' = true) : (r.cells pv tv iv).all Value.oneCell' = true := by
  simp only [ReqM.cells, List.all_cons, List.all_nil, h1, h2, h3]; rfl
theorem namesOk1_any (t b : TypeM) {q : Nat} (w : World) (h : Rd w (.slice (some ⟨q, 0, none⟩) 1 1) 7 [t.cells]) : FnV Tryz.prog 226 [.agg (TypeM.cells b).toArray, pB q 0] w (.bool (decide (b.id = t.id))) := by
  rw [pB_eq_pE q 7]
  refine FnV.of (n := 9) Tryz.func226 rfl rfl ?_; refine zaJ (fun bk2 _ => ?_); refine zcQ ?_; refine zbq ?_; refine zbS ?_; refine zde ?_; refine zcf ?_
  exact G.retFV rfl rfl rfl
theorem namesOk2_any (t b : ItemM) {q : Nat} (w : World) (h : Rd w (.slice (some ⟨q, 0, none⟩) 1 1) 7 [t.cells]) : FnV Tryz.prog 227 [.agg (ItemM.cells b).toArray, pB q 0] w (.bool (decide (b.id = t.id))) := by
  rw [pB_eq_pE q 7]
  refine FnV.of (n := 9) Tryz.func227 rfl rfl ?_; refine zaJ (fun bk2 _ => ?_); refine zcQ ?_; refine zbq ?_; refine zbS ?_; refine zde ?_; refine zcf ?_
  exact G.retFV rfl rfl rfl
theorem namesOk3_any {r : ReqM} {pv tv iv : Value} (b : PairM) {q : Nat} (w : World) (h : Rd w (.slice (some ⟨q, 0, none⟩) 1 1) 10 [r.cells pv tv iv]) : FnV Tryz.prog 228 [.agg (PairM.cells b).toArray, pB q 0] w (.bool (!pairIn r b)) := by
  rw [pB_eq_pE q 10]
  refine FnV.of (n := 16) Tryz.func228 rfl rfl ?_; refine zaJ (fun bk2 _ => ?_); refine zcQ ?_; refine zbq ?_; refine zbS ?_; refine zd6 ?_; refine zaC ?_
  (with_reducible refine G.gP rfl rfl (fun hg => ?_) (fun hg => ?_)) <;> (try exact Bool.noConfusion hg) <;> (first | (refine zaH ?_; (refine zaS ?_)) | refine zaF ?_)
  all_goals ((first | (refine zbW ?_) | refine zaF ?_))
  all_goals ((first | (refine zaH ?_; (refine zbq ?_)) | refine zaF ?_))
  all_goals ((first | (refine zaH ?_; (refine zbS ?_)) | refine zaF ?_))
  all_goals ((first | (refine zaH ?_; refine zd6 ?_) | refine zaF ?_))
  all_goals ((first | refine za3 ?_ | refine za4 ?_))
  all_goals (refine zcB ?_)
  all_goals
   refine zfF ?_; refine G.retFV rfl rfl (congrArg Value.bool ?_); simp_all [pairIn] <;> (intros; omega)
theorem namesOk_any {r : ReqM} {pv tv iv : Value} (w : World) (h : Rd w pv 2 (r.pairs.map PairM.cells)) (h2 : Rd w tv 7 (r.types.map TypeM.cells)) (h3 : Rd w iv 7 (r.items.map ItemM.cells)) :
    FnV Tryz.prog 171 [.agg (r.cells pv tv iv).toArray] w (.bool (namesM r)) := by
  have hle := h.le_map
  have hle2 := h2.le_map
  have hle3 := h3.le_map
  have hov1 : pv.oneCell' = true := h.one_
  have hov2 : tv.oneCell' = true := h2.one_
  have hov3 : iv.oneCell' = true := h3.one_
  have hln2 : (r.types.map TypeM.cells).length = r.types.length := by simp
  have hln3 : (r.items.map ItemM.cells).length = r.items.length := by simp
  refine FnV.of (n := 59) Tryz.func171 rfl rfl ?_; refine zaJ (fun bk1 _ => ?_); refine zba ?_; refine zbZ ?_; refine zaK ?_; refine zeO ?_; refine G.loopK (ι := Nat) (ks := [1, 10, 11]) (fun k => [(12, .int .i64 k)]) (fun _ => []) (fun k => k ≤ r.types.length ∧ (List.range k).all (fun i => !dupAt TypeM.id r.types i) = true) (fun k => r.types.length - k) 0 (.cons rfl (.cons rfl (.cons rfl (.nil)))) rfl ?_ ?_ ?_
  exact ⟨Nat.zero_le _, rfl⟩
  exact ⟨rfl, trivial⟩
  rintro k ⟨hk, ht⟩
  by_cases hlt : k < r.types.length
  case' pos => (obtain ⟨b, hb⟩ := get_of_lt hlt; have he := get_map hb TypeM.cells)
  case' neg => (have hall : (List.range r.types.length).all (fun i => !dupAt TypeM.id r.types i) = true := (by rwa [show k = r.types.length by omega] at ht))
  all_goals
   refine zbo ?_; refine G.cond rfl (fun hc => ?_) (fun hc => ?_)
   · all_goals
      replace hc := of_decide_eq_true hc
      simp only [List.length_map] at hc
      try (exfalso; omega)
      all_goals
       refine zea ?_; refine za5 ?_; refine zbn (fun bk4 _ => ?_); refine zcB ?_; refine zaN (fun _ _ => ?_); refine zdF ?_; refine zbe ?_; refine zaC ?_; refine G.v (rv_sliceH rfl rfl zb zc) rfl ?_; refine zdq ?_; refine G.op (og_callV rfl rfl (fun w hh => containsType_any (l := r.types.take k) w (Rd.subH (Rd.stays h2 _ hh) hk) (fun w' j c hw hb => namesOk1_any b c w' (Rd.stays zar w' hw)))) rfl (fun _ _ => ?_); refine za1 ?_; refine G.cond rfl (fun hc => ?_) (fun hc => ?_)
       · all_goals
          all_goals
           refine zfa ?_; refine G.retFV rfl rfl (congrArg Value.bool ?_); rw [namesM, range_no hlt (by rw [dup_at hb]; exact hc)]; simp; done
       · all_goals
          all_goals
           refine G.skip ?_; refine zaO ?_; refine G.backK (k + 1) 1 rfl (.cons rfl (.cons rfl (.cons rfl (.nil)))) ?_ ?_ ?_
           exact ⟨rfl, trivial⟩
           exact ⟨hlt, rall_next ht (by rw [dup_at hb, Bool.not_eq_true']; exact zr)⟩
           omega
   · all_goals
      replace hc := of_decide_eq_false hc
      simp only [List.length_map] at hc
      try (exfalso; omega)
      all_goals
       refine zaL ?_; refine G.seq ?_; refine zbZ ?_; refine zaK ?_; refine zeO ?_; refine G.loopK (ι := Nat) (ks := [1, 25, 26]) (fun k => [(27, .int .i64 k)]) (fun _ => []) (fun k => k ≤ r.items.length ∧ (List.range k).all (fun i => !itemBad r i) = true) (fun k => r.items.length - k) 0 (.cons rfl (.cons rfl (.cons rfl (.nil)))) rfl ?_ ?_ ?_
       exact ⟨Nat.zero_le _, rfl⟩
       exact ⟨rfl, trivial⟩
       rintro k1 ⟨hk1, ht1⟩
       by_cases hlt1 : k1 < r.items.length
       case' pos => (obtain ⟨b1, hb1⟩ := get_of_lt hlt1; have he := get_map hb1 ItemM.cells)
       case' neg => (have hall1 : (List.range r.items.length).all (fun i => !itemBad r i) = true := (by rwa [show k1 = r.items.length by omega] at ht1))
       all_goals
        refine zbo ?_; refine G.cond rfl (fun hc => ?_) (fun hc => ?_)
        · all_goals
           replace hc := of_decide_eq_true hc
           simp only [List.length_map] at hc
           try (exfalso; omega)
           all_goals
            refine zea ?_; refine za5 ?_; refine zbn (fun bk6 _ => ?_); refine zcB ?_; refine zaN (fun _ _ => ?_); refine zdF ?_; refine zaK ?_; refine zbe ?_; refine zd6 ?_; refine zaC ?_
            all_goals (((with_reducible refine G.gP rfl rfl (fun hg => ?_) (fun hg => ?_)) <;> (try exact Bool.noConfusion hg) <;> (first | (refine zaH ?_; (refine zaS ?_)) | refine zaF ?_)))
            all_goals ((first | (refine zaH ?_; (refine zcN ?_)) | refine zaF ?_))
            all_goals ((first | (refine zbm ?_) | refine zaF ?_))
            all_goals ((first | (refine zaH ?_; refine G.v (rv_sliceH rfl rfl zb zc) rfl ?_) | refine zaF ?_))
            all_goals ((first | (refine zaH ?_; refine zdq ?_) | refine zaF ?_))
            all_goals ((first | (refine zaH ?_; refine G.op (og_callV rfl rfl (fun w hh => containsItem_any (l := r.items.take k1) w (Rd.subH (Rd.stays h3 _ hh) hk1) (fun w' j c hw hb => namesOk2_any b1 c w' (Rd.stays zar w' hw)))) rfl (fun _ _ => ?_)) | refine zaF ?_))
            all_goals ((first | refine za3 ?_ | refine za4 ?_))
            all_goals
             refine za1 ?_; refine G.cond rfl (fun hc => ?_) (fun hc => ?_)
             · all_goals
                try simp only [List.length_map] at hc
                all_goals
                 refine zfa ?_; refine G.retFV rfl rfl (congrArg Value.bool ?_); rw [namesM, hall, range_no hlt1 (by rw [item_bad hb1, dup_at hb1]; simp only [Bool.or_eq_true]; first | exact .inl hg | exact .inr zr)]; simp; done
             · try exact Bool.noConfusion hc
               all_goals
                all_goals
                 refine G.skip ?_; refine zaO ?_; refine G.backK (k1 + 1) 1 rfl (.cons rfl (.cons rfl (.cons rfl (.nil)))) ?_ ?_ ?_
                 exact ⟨rfl, trivial⟩
                 exact ⟨hlt1, rall_next ht1 (by rw [item_bad hb1, dup_at hb1, Bool.not_eq_true', Bool.or_eq_false_iff]; exact ⟨(by exact hg), zr⟩)⟩
                 omega
        · all_goals
           replace hc := of_decide_eq_false hc
           simp only [List.length_map] at hc
           try (exfalso; omega)
           all_goals
            refine zaL ?_; refine zaU ?_; refine G.op (og_callV rfl rfl (fun w hh => masterOf_any w zx)) rfl (fun _ _ => ?_); refine zbb (fun bk7 _ => ?_); refine zaN (fun _ _ => ?_); refine zdn ?_
            all_goals (((with_reducible refine G.gP rfl rfl (fun hg => ?_) (fun hg => ?_)) <;> (try exact Bool.noConfusion hg) <;> (first | (refine zaH ?_; (refine zaS ?_)) | refine zaF ?_)))
            all_goals ((first | (refine zaH ?_; (refine zcN ?_)) | refine zaF ?_))
            all_goals ((first | (refine zaH ?_; refine zdq ?_) | refine zaF ?_))
            all_goals ((first | (refine zaH ?_; refine G.op (og_callV rfl rfl (fun w hh => (containsPair_any w (Rd.stays h _ hh) (fun w' j c hw hb => namesOk3_any (r := r) (pv := pv) (tv := tv) (iv := iv) c w' (Rd.stays (by exact Rd.ofBlk 1 rfl (ReqM.good hov1 hov2 hov3) w hh) w' hw))).mono (congrArg Value.bool any_not))) rfl (fun _ _ => ?_)) | refine zaF ?_))
            all_goals ((first | (refine zcu ?_) | refine zaF ?_))
            all_goals ((first | refine za3 ?_ | refine za4 ?_))
            all_goals (refine zcB ?_)
            all_goals
             refine zfF ?_; refine G.retFV rfl rfl (congrArg Value.bool ?_); rw [namesM, hall, hall1]; simp_all; done
theorem pairIn_no {r : ReqM} {p : PairM} (h : p.a ≥ r.classes ∨ p.b ≥ r.classes) : pairIn r p = false := by
  rw [pairIn]; rcases h with h | h <;> simp [h]
theorem pairIn_yes {r : ReqM} {p : PairM} (h : ¬ p.a ≥ r.classes) (h2 : ¬ p.b ≥ r.classes) : pairIn r p = true := by
  rw [pairIn, decide_eq_false h, decide_eq_false h2]; rfl
theorem snamesOk_any {r : ReqM} {pv tv iv : Value} (w : World) (h : Rd w pv 2 (r.pairs.map PairM.cells)) (h2 : Rd w tv 7 (r.types.map TypeM.cells)) (h3 : Rd w iv 7 (r.items.map ItemM.cells)) :
    FnV Tryz.prog 84 [.agg (r.cells pv tv iv).toArray] w (.bool (namesM r)) := by
  have hle := h.le_map
  have hle2 := h2.le_map
  have hle3 := h3.le_map
  refine FnV.of (n := 102) Tryz.func84 rfl rfl ?_; refine zaJ (fun bk1 _ => ?_); refine zdR ?_; refine G.loopK (ι := Nat) (ks := [1]) (fun k => [(3, .int .i64 k)]) (fun _ => []) (fun k => k ≤ r.types.length ∧ (List.range k).all (fun i => !dupAt TypeM.id r.types i) = true) (fun k => r.types.length - k) 0 (.cons rfl (.nil)) rfl ?_ ?_ ?_
  exact ⟨Nat.zero_le _, rfl⟩
  exact ⟨rfl, trivial⟩
  rintro k ⟨hk, ht⟩
  by_cases hlt : k < r.types.length
  case' pos => (obtain ⟨b, hb⟩ := get_of_lt hlt; have he := get_map hb TypeM.cells)
  case' neg => (have hall : (List.range r.types.length).all (fun i => !dupAt TypeM.id r.types i) = true := (by rwa [show k = r.types.length by omega] at ht))
  all_goals
   refine zfn ?_; refine zaK ?_; refine zfO ?_; refine G.cond rfl (fun hc => ?_) (fun hc => ?_)
   · all_goals
      replace hc := of_decide_eq_true hc
      simp only [List.length_map] at hc
      try (exfalso; omega)
      all_goals
       refine zaQ ?_; refine zbL ?_; refine G.loopK (ι := Nat) (ks := [1, 3]) (fun k => [(4, .int .i64 k)]) (fun _ => []) (fun j => j ≤ k ∧ (r.types.take j).any (fun q => decide (q.id = b.id)) = false) (fun j => k - j) 0 (.cons rfl (.cons rfl (.nil))) rfl ?_ ?_ ?_
       exact ⟨Nat.zero_le _, rfl⟩
       exact ⟨rfl, trivial⟩
       rintro j ⟨hj, htj⟩
       by_cases hltj : j < k
       case' pos => (obtain ⟨q, hq⟩ := get_of_lt (l := r.types) (k := j) zc; have he2 := get_map hq TypeM.cells)
       all_goals
        refine zcT ?_; refine zaI ?_; refine G.cond rfl (fun hc => ?_) (fun hc => ?_)
        · all_goals
           replace hc := of_decide_eq_true hc
           try (exfalso; omega)
           all_goals
            refine zaQ ?_; refine zbh ?_; refine zey (fun _ _ => ?_); refine GE.ol 9 za rfl rfl (og_runs (rv_indexH rfl rfl zb rfl (by exact he2))) rfl zd (fun _ _ => ?_); refine GE.ol 10 za rfl rfl (og_runs (rv_fieldE rfl)) rfl zd (fun _ _ => ?_)
            refine GE.ol 11 za rfl rfl (og_runs (rv_loadE rfl zb (by exact he2) rfl)) rfl zd (fun _ _ => ?_); refine GE.ol 12 za rfl rfl (og_runs (rv_eql rfl rfl)) rfl zd (fun _ _ => ?_); refine zbj ?_; refine G.cond rfl (fun hc => ?_) (fun hc => ?_)
            · all_goals
               replace hc := of_decide_eq_true hc
               all_goals
                refine zcr ?_; refine G.inR (G.thenR (G.thenR (G.inR ?_))); refine zbg ?_; refine G.retFV rfl rfl (congrArg Value.bool ?_); rw [namesM, range_no hlt (by rw [dup_at hb]; exact List.any_eq_true.2 ⟨q, List.mem_of_getElem? ((List.getElem?_take_of_lt hltj).trans hq), decide_eq_true hc.symm⟩)]; simp; done
            · all_goals
               replace hc := of_decide_eq_false hc
               all_goals
                refine zff ?_; refine G.backK (j + 1) 0 rfl (.cons rfl (.cons rfl (.nil))) ?_ ?_ ?_
                exact ⟨rfl, trivial⟩
                exact ⟨hltj, any_next htj hq (by simp only [decide_eq_false_iff_not]; exact fun e => hc e.symm)⟩
                omega
        · all_goals
           replace hc := of_decide_eq_false hc
           try (exfalso; omega)
           all_goals
            refine zc0 ?_; refine zaE ?_; refine G.backK (k + 1) 0 rfl (.cons rfl (.nil)) ?_ ?_ ?_
            exact ⟨rfl, trivial⟩
            exact ⟨hlt, rall_next ht (by rw [dup_at hb, Bool.not_eq_true']; exact (by rwa [show j = k by omega] at htj))⟩
            omega
   · all_goals
      replace hc := of_decide_eq_false hc
      simp only [List.length_map] at hc
      try (exfalso; omega)
      all_goals
       refine zaL ?_; refine G.seq ?_; refine zbL ?_; refine G.loopK (ι := Nat) (ks := [1]) (fun k => [(5, .int .i64 k)]) (fun _ => []) (fun k => k ≤ r.items.length ∧ (List.range k).all (fun i => !itemBad r i) = true) (fun k => r.items.length - k) 0 (.cons rfl (.nil)) rfl ?_ ?_ ?_
       exact ⟨Nat.zero_le _, rfl⟩
       exact ⟨rfl, trivial⟩
       rintro k1 ⟨hk1, ht1⟩
       by_cases hlt1 : k1 < r.items.length
       case' pos => (obtain ⟨b1, hb1⟩ := get_of_lt hlt1; have he := get_map hb1 ItemM.cells)
       case' neg => (have hall1 : (List.range r.items.length).all (fun i => !itemBad r i) = true := (by rwa [show k1 = r.items.length by omega] at ht1))
       all_goals
        refine zfn ?_; refine zaK ?_; refine zfO ?_; refine G.cond rfl (fun hc => ?_) (fun hc => ?_)
        · all_goals
           replace hc := of_decide_eq_true hc
           simp only [List.length_map] at hc
           try (exfalso; omega)
           all_goals
            refine zaQ ?_; refine G.seq ?_; refine zbh ?_; refine zdU (fun _ _ => ?_); refine GE.ol 7 za rfl rfl (og_runs (rv_load1 0 rfl rfl rfl)) rfl zd (fun _ _ => ?_); refine GE.ol 8 za rfl rfl (og_runs (rv_geq rfl rfl)) rfl zd (fun _ _ => ?_); refine zbj ?_; refine G.cond rfl (fun hc => ?_) (fun hc => ?_)
            · all_goals
               replace hc := of_decide_eq_true hc
               all_goals
                refine zbc ?_; refine zbg ?_; refine G.retFV rfl rfl (congrArg Value.bool ?_); rw [namesM, hall, range_no hlt1 (by rw [item_bad hb1, decide_eq_true hc]; rfl)]; simp; done
            · all_goals
               replace hc := of_decide_eq_false hc
               all_goals
                have hcls := hc
                all_goals
                 refine zbR ?_; refine zbL ?_; refine G.loopK (ι := Nat) (ks := [1, 5]) (fun k => [(6, .int .i64 k)]) (fun _ => []) (fun j => j ≤ k1 ∧ (r.items.take j).any (fun q => decide (q.id = b1.id)) = false) (fun j => k1 - j) 0 (.cons rfl (.cons rfl (.nil))) rfl ?_ ?_ ?_
                 exact ⟨Nat.zero_le _, rfl⟩
                 exact ⟨rfl, trivial⟩
                 rintro j1 ⟨hj1, htj1⟩
                 by_cases hltj1 : j1 < k1
                 case' pos => (obtain ⟨q1, hq1⟩ := get_of_lt (l := r.items) (k := j1) zc; have he2 := get_map hq1 ItemM.cells)
                 all_goals
                  refine zcT ?_; refine zaI ?_; refine G.cond rfl (fun hc => ?_) (fun hc => ?_)
                  · all_goals
                     replace hc := of_decide_eq_true hc
                     try (exfalso; omega)
                     all_goals
                      refine zaQ ?_; refine zbh ?_; refine zey (fun _ _ => ?_); refine GE.ol 9 za rfl rfl (og_runs (rv_indexH rfl rfl zb rfl (by exact he2))) rfl zd (fun _ _ => ?_); refine GE.ol 10 za rfl rfl (og_runs (rv_fieldE rfl)) rfl zd (fun _ _ => ?_)
                      refine GE.ol 11 za rfl rfl (og_runs (rv_loadE rfl zb (by exact he2) rfl)) rfl zd (fun _ _ => ?_); refine GE.ol 12 za rfl rfl (og_runs (rv_eql rfl rfl)) rfl zd (fun _ _ => ?_); refine zbj ?_; refine G.cond rfl (fun hc => ?_) (fun hc => ?_)
                      · all_goals
                         replace hc := of_decide_eq_true hc
                         all_goals
                          refine zcr ?_; refine G.inR (G.thenR (G.thenR (G.inR ?_))); refine zbg ?_; refine G.retFV rfl rfl (congrArg Value.bool ?_); rw [namesM, hall, range_no hlt1 (by rw [item_bad hb1, dup_at hb1, (List.any_eq_true.2 ⟨q1, List.mem_of_getElem? ((List.getElem?_take_of_lt hltj1).trans hq1), decide_eq_true hc.symm⟩ : (r.items.take k1).any (fun q => decide (q.id = b1.id)) = true), Bool.or_true])]; simp; done
                      · all_goals
                         replace hc := of_decide_eq_false hc
                         all_goals
                          refine zff ?_; refine G.backK (j1 + 1) 0 rfl (.cons rfl (.cons rfl (.nil))) ?_ ?_ ?_
                          exact ⟨rfl, trivial⟩
                          exact ⟨hltj1, any_next htj1 hq1 (by simp only [decide_eq_false_iff_not]; exact fun e => hc e.symm)⟩
                          omega
                  · all_goals
                     replace hc := of_decide_eq_false hc
                     try (exfalso; omega)
                     all_goals
                      refine zc0 ?_; refine zaE ?_; refine G.backK (k1 + 1) 0 rfl (.cons rfl (.nil)) ?_ ?_ ?_
                      exact ⟨rfl, trivial⟩
                      exact ⟨hlt1, rall_next ht1 (by rw [item_bad hb1, dup_at hb1, Bool.not_eq_true', Bool.or_eq_false_iff]; exact ⟨decide_eq_false hcls, (by rwa [show j1 = k1 by omega] at htj1)⟩)⟩
                      omega
        · all_goals
           replace hc := of_decide_eq_false hc
           simp only [List.length_map] at hc
           try (exfalso; omega)
           all_goals
            refine zaL ?_; refine G.seq ?_; refine zbL ?_; refine G.loopK (ι := Nat) (ks := [1]) (fun k => [(7, .int .i64 k)]) (fun _ => []) (fun k => k ≤ r.pairs.length ∧ (r.pairs.take k).all (pairIn r) = true) (fun k => r.pairs.length - k) 0 (.cons rfl (.nil)) rfl ?_ ?_ ?_
            exact ⟨Nat.zero_le _, rfl⟩
            exact ⟨rfl, trivial⟩
            rintro k4 ⟨hk4, ht4⟩
            by_cases hlt4 : k4 < r.pairs.length
            case' pos => (obtain ⟨b4, hb4⟩ := get_of_lt hlt4; have he := get_map hb4 PairM.cells)
            case' neg => (have hall4 := all_end ht4 hlt4)
            all_goals
             refine zfn ?_; refine zaK ?_; refine zfO ?_; refine G.cond rfl (fun hc => ?_) (fun hc => ?_)
             · all_goals
                replace hc := of_decide_eq_true hc
                simp only [List.length_map] at hc
                try (exfalso; omega)
                all_goals
                 refine zaQ ?_; refine zbh ?_; refine zdU (fun _ _ => ?_); refine GE.ol 7 za rfl rfl (og_runs (rv_load1 0 rfl rfl rfl)) rfl zd (fun _ _ => ?_); refine GE.ol 8 za rfl rfl (og_runs (rv_geq rfl rfl)) rfl zd (fun _ _ => ?_); refine GE.ol 9 za rfl rfl (og_runs (rv_move rfl)) rfl zd (fun _ _ => ?_)
                 all_goals (((with_reducible refine GE.part (t := 85) rfl (fun hg => ?_) (fun hg => ?_)) <;> (try exact Bool.noConfusion hg) <;> (first | (refine GE.q 10 rfl za rfl (qg_runs (rv_field rfl)) rfl ?_) | refine zdw ?_)))
                 all_goals ((first | (refine GE.q 11 rfl za rfl (qg_runs (rv_load1 0 rfl rfl rfl)) rfl ?_) | refine zdl ?_))
                 all_goals ((first | refine GE.q 12 rfl za rfl (qg_runs (rv_move rfl)) rfl ?_ | refine zdc ?_))
                 all_goals ((first | (refine GE.q 13 rfl za rfl (qg_runs (rv_indexH rfl rfl zb rfl zm)) rfl ?_) | refine zdd ?_))
                 all_goals ((first | (refine GE.q 14 rfl za rfl (qg_runs (rv_fieldE rfl)) rfl ?_) | refine zei ?_))
                 all_goals ((first | refine GE.q 15 rfl za rfl (qg_runs (rv_loadE rfl zb zm rfl)) rfl ?_ | refine GE.qn 15 rfl za rfl rfl ?_))
                 all_goals ((first | (refine GE.q 16 rfl za rfl (qg_runs (rv_field rfl)) rfl ?_) | refine GE.qn 16 rfl za rfl rfl ?_))
                 all_goals ((first | (refine GE.q 17 rfl za rfl (qg_runs (rv_load1 0 rfl rfl rfl)) rfl ?_) | refine zd5 ?_))
                 all_goals ((first | refine GE.q 18 rfl za rfl (qg_runs (rv_geq rfl rfl)) rfl ?_ | refine ze4 ?_))
                 all_goals ((first | refine GE.ol 19 za rfl rfl (og_runs (rv_pickT rfl rfl)) rfl zd (fun _ _ => ?_) | refine GE.ol 19 za rfl rfl (og_runs (rv_pickF rfl rfl)) rfl zd (fun _ _ => ?_)))
                 all_goals
                  refine zbj ?_; refine G.cond rfl (fun hc => ?_) (fun hc => ?_)
                  · all_goals
                     try replace hc := of_decide_eq_true hc
                     try simp only [List.length_map] at hc
                     all_goals
                      refine zfa ?_; refine G.retFV rfl rfl (congrArg Value.bool ?_); rw [namesM, all_no hb4 (pairIn_no (by first | exact .inr hc | exact .inl (of_decide_eq_true hg)))]; simp; done
                  · try exact Bool.noConfusion hc
                    all_goals
                     replace hc := of_decide_eq_false hc
                     all_goals
                      refine zff ?_; refine G.backK (k4 + 1) 0 rfl (.cons rfl (.nil)) ?_ ?_ ?_
                      exact ⟨rfl, trivial⟩
                      exact ⟨hlt4, all_next ht4 hb4 (pairIn_yes (by simp_all; try omega) (by simp_all; try omega))⟩
                      omega
             · all_goals
                replace hc := of_decide_eq_false hc
                simp only [List.length_map] at hc
                try (exfalso; omega)
                all_goals
                 refine zaL ?_; refine zaU ?_; refine G.op (og_callV rfl rfl (fun w hh => smasterOf_any w zx)) rfl (fun _ _ => ?_); refine zbb (fun bk8 _ => ?_); refine zaN (fun _ _ => ?_); refine zaB ?_; refine za9 ?_; refine G.retFV rfl rfl (congrArg Value.bool ?_); rw [namesM, hall, hall1, hall4]; simp; done
end Go.Proofs.YtglpgohilfoecaaGreat

/-
  What is wrong with an order.
-/
namespace Go.Proofs.YtglpgohilfoecaaGreat
open Go.RowKit
attribute [local irreducible] Go.wpList Go.Code.wp Go.Exit.then Go.Exit.inBlock Go.bodyPost Go.Calls pE pB G RunsV FnV Fn FnM
set_option maxRecDepth 100000
set_option maxHeartbeats 4000000
def tooBig (p : PalletM) (t : TypeM) : Bool := decide (t.w > p.w) || decide (t.d > p.d) || decide (t.h > p.h) || decide (t.tare + t.g > p.g)
def classM (r : ReqM) : Int :=
  if boundsOkM r = false then 2 else if namesM r = false then 3 else if tableOkM r.pairs r.classes = false then 4
  else if (r.items.any fun x => !fitsM x (typeAt r r.master).1) = true then 5 else if (r.types.any (tooBig r.pal)) = true then 6 else 0
theorem bounds_types {r : ReqM} (h : boundsOkM r = true) : ∀ t ∈ r.types, typeOkM t = true := by
  simp only [boundsOkM, Bool.and_eq_true, List.all_eq_true] at h
  exact h.1.1.1.1.2
theorem bounds_items {r : ReqM} (h : boundsOkM r = true) : r.items.all itemOkM = true := by
  simp only [boundsOkM, Bool.and_eq_true] at h
  exact h.1.2
theorem bounds_lens {r : ReqM} (h : boundsOkM r = true) : r.items.length ≤ 8 ∧ cntSum r.items ≤ 12 := by
  simp only [boundsOkM, Bool.and_eq_true, decide_eq_true_eq] at h
  have h1 := h.1.1.2
  exact ⟨by omega, h.2⟩
theorem type_in {t : TypeM} (h : typeOkM t = true) : 0 ≤ t.tare ∧ t.tare ≤ 100000 ∧ 1 ≤ t.g ∧ t.g ≤ 100000 := by
  simp only [typeOkM, Bool.and_eq_true, inB, decide_eq_true_eq] at h
  exact ⟨h.1.1.2.1, h.1.1.2.2, h.1.2.1, h.1.2.2⟩
theorem cls_sound {r : ReqM} (h : classM r = 0) : boundsOkM r = true := by
  cases hb : boundsOkM r with
  | true => rfl
  | false => rw [classM, if_pos hb] at h; omega
theorem any_at {α : Type} {f : α → Bool} {l : List α} {k : Nat} {b : α} (hb : l[k]? = some b) (hp : f b = true) : l.any f = true :=
  List.any_eq_true.2 ⟨b, List.mem_of_getElem? hb, hp⟩
theorem any_end {α : Type} {f : α → Bool} {l : List α} {k : Nat} (h : (l.take k).any f = false) (hk : ¬ k < l.length) : l.any f = false := by rwa [List.take_of_length_le (by omega)] at h
theorem class1_any (t : TypeM) (b : ItemM) {q : Nat} (w : World) (h : Rd w (.slice (some ⟨q, 0, none⟩) 1 1) 7 [t.cells]) : FnV Tryz.prog 173 [.agg (ItemM.cells b).toArray, pB q 0] w (.bool (!fitsM b t)) := by
  rw [pB_eq_pE q 7]
  refine FnV.of (n := 8) Tryz.func173 rfl rfl ?_; refine zaJ (fun bk2 _ => ?_); refine zfN ?_; refine G.v (rv_loadEW rfl zb rfl rfl) rfl ?_; refine G.op (og_callV rfl rfl (fun w hh => fits_any b t w)) rfl (fun _ _ => ?_); refine zbr ?_; refine zcf ?_
  exact G.retFV rfl rfl rfl
theorem class2_any (p : PalletM) (t : TypeM) {q : Nat} (w : World) (ht : typeOkM t = true) (h : Rd w (.slice (some ⟨q, 0, none⟩) 1 1) 4 [p.cells]) : FnV Tryz.prog 175 [.agg (TypeM.cells t).toArray, pB q 0] w (.bool (tooBig p t)) := by
  rw [pB_eq_pE q 4]
  have htb := type_in ht
  refine FnV.of (n := 33) Tryz.func175 rfl rfl ?_; refine zaJ (fun bk2 _ => ?_); refine zcQ ?_; refine zbq ?_; refine zbS ?_; refine G.v (rv_gtr rfl rfl) rfl ?_; refine zaC ?_
  (with_reducible refine G.gP rfl rfl (fun hg => ?_) (fun hg => ?_)) <;> (try exact Bool.noConfusion hg) <;> (first | (refine zaH ?_; (refine zaS ?_)) | refine zaF ?_)
  all_goals ((first | (refine zbW ?_) | refine zaF ?_))
  all_goals ((first | (refine zaH ?_; (refine zbq ?_)) | refine zaF ?_))
  all_goals ((first | (refine zaH ?_; (refine zbS ?_)) | refine zaF ?_))
  all_goals ((first | (refine zds ?_) | refine zaF ?_))
  all_goals ((first | refine za3 ?_ | refine za4 ?_))
  all_goals (refine zaC ?_)
  all_goals (((with_reducible refine G.gP rfl rfl (fun hg => ?_) (fun hg => ?_)) <;> (try exact Bool.noConfusion hg) <;> (first | (refine zaH ?_; (refine zaS ?_)) | refine zaF ?_)))
  all_goals ((first | (refine zbW ?_) | refine zaF ?_))
  all_goals ((first | (refine zaH ?_; (refine zbq ?_)) | refine zaF ?_))
  all_goals ((first | (refine zaH ?_; (refine zbS ?_)) | refine zaF ?_))
  all_goals ((first | (refine zds ?_) | refine zaF ?_))
  all_goals ((first | refine za3 ?_ | refine za4 ?_))
  all_goals (refine zaC ?_)
  all_goals (((with_reducible refine G.gP rfl rfl (fun hg => ?_) (fun hg => ?_)) <;> (try exact Bool.noConfusion hg) <;> (first | (refine zaH ?_; (refine zaS ?_)) | refine zaF ?_)))
  all_goals ((first | (refine zbW ?_) | refine zaF ?_))
  all_goals ((first | (refine zaH ?_; (refine zaS ?_)) | refine zaF ?_))
  all_goals ((first | (refine zbW ?_) | refine zaF ?_))
  all_goals ((first | (refine zaH ?_; (refine zbT ?_)) | refine zaF ?_))
  all_goals ((first | (refine zaH ?_; (refine zbq ?_)) | refine zaF ?_))
  all_goals ((first | (refine zaH ?_; (refine zbS ?_)) | refine zaF ?_))
  all_goals ((first | (refine zds ?_) | refine zaF ?_))
  all_goals ((first | refine za3 ?_ | refine za4 ?_))
  all_goals (refine zcB ?_)
  all_goals
   refine zfF ?_; refine G.retFV rfl rfl (congrArg Value.bool ?_); simp_all [tooBig] <;> (intros; omega)
theorem class_any {r : ReqM} {pv tv iv : Value} (w : World) (h : Rd w pv 2 (r.pairs.map PairM.cells)) (h2 : Rd w tv 7 (r.types.map TypeM.cells)) (h3 : Rd w iv 7 (r.items.map ItemM.cells)) :
    FnV Tryz.prog 115 [.agg (r.cells pv tv iv).toArray] w (.int .i64 (classM r)) := by
  refine FnV.of (n := 38) Tryz.func115 rfl rfl ?_; refine zaJ (fun bk1 _ => ?_); refine zfN ?_; refine zfg (fun _ _ => ?_); refine zbb (fun bk3 _ => ?_); refine zaN (fun _ _ => ?_); refine zba ?_; refine G.region ?_; refine zaS ?_; refine G.v (rv_loadP 1 rfl rfl (.skip (.one (.one (.one (.one .nil)))))) rfl ?_; refine zbn (fun bk5 _ => ?_); refine zb0 (fun _ _ => ?_); refine za1 ?_; refine G.seq (G.block ?_); refine zbZ ?_; refine zdP ?_; refine G.op (og_callV rfl rfl (fun w hh => boundsOk_any (r := r) w (Rd.stays h _ hh) (Rd.stays h2 _ hh) (Rd.stays h3 _ hh))) rfl (fun _ _ => ?_); refine zbr ?_; refine zaB ?_
  refine G.cond rfl (fun hc => ?_) (fun hc => ?_); refine zcr ?_; refine G.inR (G.thenR ?_)
  exact G.retFV rfl rfl (congrArg (Value.int .i64) (by rw [classM, if_pos zr]))
  have hbo : boundsOkM r = true := by simpa using hc
  refine zbZ ?_; refine zdP ?_; refine G.op (og_callV rfl rfl (fun w hh => namesOk_any (r := r) w (Rd.stays h _ hh) (Rd.stays h2 _ hh) (Rd.stays h3 _ hh))) rfl (fun _ _ => ?_); refine zbr ?_; refine zaB ?_; refine G.cond rfl (fun hc => ?_) (fun hc => ?_); refine zcr ?_; refine G.inR (G.thenR ?_)
  exact G.retFV rfl rfl (congrArg (Value.int .i64) (by rw [classM, if_neg (by simp [hbo]), if_pos zr]))
  have hna : namesM r = true := by simpa using hc
  refine za2 ?_; refine zaS ?_; refine zdp ?_; refine G.op (og_callV rfl rfl (fun w hh => tableOk_any (l := r.pairs) r.classes w (Rd.stays h _ hh))) rfl (fun _ _ => ?_); refine zbr ?_; refine zaB ?_; refine G.cond rfl (fun hc => ?_) (fun hc => ?_); refine zcr ?_; refine G.inR (G.thenR ?_)
  exact G.retFV rfl rfl (congrArg (Value.int .i64) (by rw [classM, if_neg (by simp [hbo]), if_neg (by simp [hna]), if_pos zr]))
  have hta : tableOkM r.pairs r.classes = true := by simpa using hc
  refine za2 ?_; refine zdq ?_; refine G.op (og_callV rfl rfl (fun w hh => containsItem_any (l := r.items) w (Rd.stays h3 _ hh) (fun w' j c hw hb => class1_any (typeAt r r.master).1 c w' (Rd.stays (by exact Rd.ofBlk 1 rfl rfl w hh) w' hw)))) rfl (fun _ _ => ?_); refine zaB ?_; refine G.cond rfl (fun hc => ?_) (fun hc => ?_); refine zcr ?_; refine G.inR (G.thenR ?_)
  exact G.retFV rfl rfl (congrArg (Value.int .i64) (by rw [classM, if_neg (by simp [hbo]), if_neg (by simp [hna]), if_neg (by simp [hta]), if_pos hc]))
  have hfi := hc
  refine za2 ?_; refine zdq ?_; refine G.op (og_callV rfl rfl (fun w hh => containsType_any (l := r.types) w (Rd.stays h2 _ hh) (fun w' j c hw hb => class2_any r.pal c w' (bounds_types hbo c (List.mem_of_getElem? hb)) (Rd.stays zar w' hw)))) rfl (fun _ _ => ?_); refine zaB ?_; refine G.cond rfl (fun hc => ?_) (fun hc => ?_); refine zcr ?_; refine G.inR (G.thenR ?_)
  exact G.retFV rfl rfl (congrArg (Value.int .i64) (by rw [classM, if_neg (by simp [hbo]), if_neg (by simp [hna]), if_neg (by simp [hta]), if_neg (by rw [hfi]; decide), if_pos hc]))
  have hpa := hc
  refine G.skip (G.inN (G.thenN ?_)); refine zcr ?_
  exact G.retFV rfl rfl (congrArg (Value.int .i64) zam)
theorem sound_any {r : ReqM} {pv tv iv : Value} (w : World) (h : Rd w pv 2 (r.pairs.map PairM.cells)) (h2 : Rd w tv 7 (r.types.map TypeM.cells)) (h3 : Rd w iv 7 (r.items.map ItemM.cells)) :
    FnV Tryz.prog 55 [.agg (r.cells pv tv iv).toArray] w (.bool (decide (classM r = 0))) := by
  refine FnV.of (n := 6) Tryz.func55 rfl rfl ?_; refine zaJ (fun bk1 _ => ?_); refine zfN ?_; refine G.op (og_callV rfl rfl (fun w hh => class_any (r := r) w (Rd.stays h _ hh) (Rd.stays h2 _ hh) (Rd.stays h3 _ hh))) rfl (fun _ _ => ?_); refine zde ?_; refine zcf ?_
  exact G.retFV rfl rfl rfl
theorem sclass_any {r : ReqM} {pv tv iv : Value} (w : World) (h : Rd w pv 2 (r.pairs.map PairM.cells)) (h2 : Rd w tv 7 (r.types.map TypeM.cells)) (h3 : Rd w iv 7 (r.items.map ItemM.cells)) :
    FnV Tryz.prog 31 [.agg (r.cells pv tv iv).toArray] w (.int .i64 (classM r)) := by
  have hle2 := h2.le_map
  have hle3 := h3.le_map
  refine FnV.of (n := 85) Tryz.func31 rfl rfl ?_; refine zaJ (fun bk1 _ => ?_); refine zba ?_; refine zaU ?_; refine G.op (og_callV rfl rfl (fun w hh => sboundsOk_any (r := r) w (Rd.stays h _ hh) (Rd.stays h2 _ hh) (Rd.stays h3 _ hh))) rfl (fun _ _ => ?_); refine zcl ?_; refine G.cond rfl (fun hc => ?_) (fun hc => ?_); refine zbc ?_
  exact G.retFV rfl rfl (congrArg (Value.int .i64) (by rw [classM, if_pos zr]))
  have hbo : boundsOkM r = true := by simpa using hc
  refine zbR ?_; refine G.seq ?_; refine zaU ?_; refine G.op (og_callV rfl rfl (fun w hh => snamesOk_any (r := r) w (Rd.stays h _ hh) (Rd.stays h2 _ hh) (Rd.stays h3 _ hh))) rfl (fun _ _ => ?_); refine zcl ?_; refine G.cond rfl (fun hc => ?_) (fun hc => ?_); refine zbc ?_
  exact G.retFV rfl rfl (congrArg (Value.int .i64) (by rw [classM, if_neg (by simp [hbo]), if_pos zr]))
  have hna : namesM r = true := by simpa using hc
  refine zdN ?_; refine zaK ?_; refine zaK ?_; refine G.op (og_callV rfl rfl (fun w hh => stableOk_any (l := r.pairs) r.classes w (Rd.stays h _ hh))) rfl (fun _ _ => ?_); refine zcl ?_; refine G.cond rfl (fun hc => ?_) (fun hc => ?_); refine zbc ?_
  exact G.retFV rfl rfl (congrArg (Value.int .i64) (by rw [classM, if_neg (by simp [hbo]), if_neg (by simp [hna]), if_pos zr]))
  · have hta : tableOkM r.pairs r.classes = true := by simpa using hc
    refine zbR ?_; refine zaU ?_; refine zfb (fun _ _ => ?_); refine zbb (fun bk3 _ => ?_); refine zaN (fun _ _ => ?_); refine zdR ?_; refine G.loopK (ι := Nat) (ks := [1, 3]) (fun k => [(5, .int .i64 k)]) (fun _ => []) (fun k => k ≤ r.items.length ∧ (r.items.take k).any (fun x => !fitsM x (typeAt r r.master).1) = false) (fun k => r.items.length - k) 0 (.cons rfl (.cons rfl (.nil))) rfl ?_ ?_ ?_
    exact ⟨Nat.zero_le _, rfl⟩
    exact ⟨rfl, trivial⟩
    rintro k ⟨hk, ht⟩
    by_cases hlt : k < r.items.length
    case' pos => (obtain ⟨b, hb⟩ := get_of_lt hlt; have he := get_map hb ItemM.cells)
    case' neg => (have hfi := any_end ht hlt)
    all_goals
     refine zfn ?_; refine zbe ?_; refine zfO ?_; refine G.cond rfl (fun hc => ?_) (fun hc => ?_)
     · all_goals
        replace hc := of_decide_eq_true hc
        simp only [List.length_map] at hc
        try (exfalso; omega)
        all_goals
         refine zaQ ?_; refine zfo ?_; refine zct ?_; refine zc7 ?_; refine GE.q 3 rfl za rfl (qg_runs (rv_indexH rfl rfl zb rfl zf)) rfl ?_; refine GE.q 4 rfl za rfl (qg_runs (rv_loadEW rfl zb zf rfl)) rfl ?_; refine GE.ol 5 za rfl rfl (og_runs (rv_loadW 0 rfl rfl rfl)) rfl zd (fun _ _ => ?_); refine GE.ol 6 za rfl rfl (og_callV rfl rfl (fun w hh => sfits_any b (typeAt r r.master).1 w)) rfl zd (fun _ _ => ?_); refine GE.ol 7 za rfl rfl (og_runs (rv_not rfl)) rfl zd (fun _ _ => ?_); refine zbj ?_; refine G.cond rfl (fun hc => ?_) (fun hc => ?_)
         · all_goals
            all_goals
             refine zfa ?_
             exact G.retFV rfl rfl (congrArg (Value.int .i64) (by rw [classM, if_neg (by simp [hbo]), if_neg (by simp [hna]), if_neg (by simp [hta]), if_pos (any_at hb hc)]))
         · all_goals
            all_goals
             refine zff ?_; refine G.backK (k + 1) 0 rfl (.cons rfl (.cons rfl (.nil))) ?_ ?_ ?_
             exact ⟨rfl, trivial⟩
             exact ⟨hlt, any_next ht hb hc⟩
             omega
     · all_goals
        replace hc := of_decide_eq_false hc
        simp only [List.length_map] at hc
        try (exfalso; omega)
        all_goals
         refine zaL ?_; refine G.seq ?_; refine zbL ?_; refine G.loopK (ι := Nat) (ks := [1]) (fun k => [(6, .int .i64 k)]) (fun _ => []) (fun k => k ≤ r.types.length ∧ (r.types.take k).any (tooBig r.pal) = false) (fun k => r.types.length - k) 0 (.cons rfl (.nil)) rfl ?_ ?_ ?_
         exact ⟨Nat.zero_le _, rfl⟩
         exact ⟨rfl, trivial⟩
         rintro k1 ⟨hk1, ht1⟩
         by_cases hlt1 : k1 < r.types.length
         case' pos => (obtain ⟨b1, hb1⟩ := get_of_lt hlt1; have he := get_map hb1 TypeM.cells; have htb := type_in (bounds_types hbo b1 (List.mem_of_getElem? hb1)))
         case' neg => (have hpa := any_end ht1 hlt1)
         all_goals
          refine zfn ?_; refine zbe ?_; refine zfO ?_; refine G.cond rfl (fun hc => ?_) (fun hc => ?_)
          · all_goals
             replace hc := of_decide_eq_true hc
             simp only [List.length_map] at hc
             try (exfalso; omega)
             all_goals
              refine zdo ?_; refine zbe ?_; refine zaC ?_; refine za5 ?_; refine zbn (fun bk7 _ => ?_); refine zaN (fun _ _ => ?_); refine zdF ?_; refine zaK ?_; refine zaS ?_; refine zaS ?_; refine zdp ?_; refine G.v (rv_gtr rfl rfl) rfl ?_; refine zaC ?_
              all_goals (((with_reducible refine G.gP rfl rfl (fun hg => ?_) (fun hg => ?_)) <;> (try exact Bool.noConfusion hg) <;> (first | (refine zaH ?_; (refine zaS ?_)) | refine zaF ?_)))
              all_goals ((first | (refine zaH ?_; (refine za6 ?_)) | refine zaF ?_))
              all_goals ((first | (refine zaH ?_; (refine zaS ?_)) | refine zaF ?_))
              all_goals ((first | (refine zaH ?_; (refine zaS ?_)) | refine zaF ?_))
              all_goals ((first | (refine zaH ?_; (refine zdp ?_)) | refine zaF ?_))
              all_goals ((first | (refine zds ?_) | refine zaF ?_))
              all_goals ((first | refine za3 ?_ | refine za4 ?_))
              all_goals (refine zaC ?_)
              all_goals (((with_reducible refine G.gP rfl rfl (fun hg => ?_) (fun hg => ?_)) <;> (try exact Bool.noConfusion hg) <;> (first | (refine zaH ?_; (refine zaS ?_)) | refine zaF ?_)))
              all_goals ((first | (refine zaH ?_; (refine za6 ?_)) | refine zaF ?_))
              all_goals ((first | (refine zaH ?_; (refine zaS ?_)) | refine zaF ?_))
              all_goals ((first | (refine zaH ?_; (refine zaS ?_)) | refine zaF ?_))
              all_goals ((first | (refine zaH ?_; (refine zdp ?_)) | refine zaF ?_))
              all_goals ((first | (refine zds ?_) | refine zaF ?_))
              all_goals ((first | refine za3 ?_ | refine za4 ?_))
              all_goals (refine zaC ?_)
              all_goals (((with_reducible refine G.gP rfl rfl (fun hg => ?_) (fun hg => ?_)) <;> (try exact Bool.noConfusion hg) <;> (first | (refine zaH ?_; (refine zaS ?_)) | refine zaF ?_)))
              all_goals ((first | (refine zaH ?_; (refine za6 ?_)) | refine zaF ?_))
              all_goals ((first | (refine zaH ?_; (refine zaS ?_)) | refine zaF ?_))
              all_goals ((first | (refine zaH ?_; (refine za6 ?_)) | refine zaF ?_))
              all_goals ((first | (refine zaH ?_; (refine zbT ?_)) | refine zaF ?_))
              all_goals ((first | (refine zaH ?_; (refine zaS ?_)) | refine zaF ?_))
              all_goals ((first | (refine zaH ?_; (refine zaS ?_)) | refine zaF ?_))
              all_goals ((first | (refine zaH ?_; (refine zdp ?_)) | refine zaF ?_))
              all_goals ((first | (refine zds ?_) | refine zaF ?_))
              all_goals ((first | refine za3 ?_ | refine za4 ?_))
              all_goals
               refine za1 ?_; refine G.cond rfl (fun hc => ?_) (fun hc => ?_)
               · all_goals
                  try replace hc := of_decide_eq_true hc
                  try simp only [List.length_map] at hc
                  all_goals
                   refine zfa ?_
                   exact G.retFV rfl rfl (congrArg (Value.int .i64) (by rw [classM, if_neg (by simp [hbo]), if_neg (by simp [hna]), if_neg (by simp [hta]), if_neg (by rw [hfi]; decide), if_pos (any_at (f := tooBig r.pal) hb1 (by simp_all [tooBig]; done))]))
               · try exact Bool.noConfusion hc
                 all_goals
                  replace hc := of_decide_eq_false hc
                  all_goals
                   refine zff ?_; refine G.backK (k1 + 1) 1 rfl (.cons rfl (.nil)) ?_ ?_ ?_
                   exact ⟨rfl, trivial⟩
                   exact ⟨hlt1, any_next ht1 hb1 (by simp_all [tooBig]; try omega)⟩
                   omega
          · all_goals
             replace hc := of_decide_eq_false hc
             simp only [List.length_map] at hc
             try (exfalso; omega)
             all_goals
              refine zd0 ?_
              exact G.retFV rfl rfl (congrArg (Value.int .i64) zam)
end Go.Proofs.YtglpgohilfoecaaGreat

/-
  The built-in copy, into an owned slice.
-/
namespace Go.Proofs.YtglpgohilfoecaaGreat
open Go.RowKit
section
variable {P : Program} {n : Nat} {w0 : World} {fr : Fr} {H : List Ch}
theorem take_flat {s : Nat} : ∀ {es : List (List Value)} (m : Nat), (∀ e ∈ es, e.length = s) → (es.take m).flatten = es.flatten.take (m * s)
  | [], m, _ => by simp
  | e :: es, 0, _ => by simp
  | e :: es, m + 1, h => by
    have := take_flat (es := es) m (fun x hx => h x (List.mem_cons_of_mem _ hx))
    have he := h e (List.mem_cons_self)
    rw [List.take_succ_cons, List.flatten_cons, List.flatten_cons, this, List.take_append, he]
    rw [List.take_of_length_le (l := e) (by rw [he, Nat.succ_mul]; omega), show (m + 1) * s - s = m * s by rw [Nat.succ_mul]; omega]
theorem drop_flat {s : Nat} : ∀ {es : List (List Value)} (m : Nat), (∀ e ∈ es, e.length = s) → (es.drop m).flatten = es.flatten.drop (m * s)
  | [], m, _ => by simp
  | e :: es, 0, _ => by simp
  | e :: es, m + 1, h => by
    have := drop_flat (es := es) m (fun x hx => h x (List.mem_cons_of_mem _ hx))
    have he := h e (List.mem_cons_self)
    rw [List.drop_succ_cons, List.flatten_cons, this, List.drop_append, he]
    have hd0 : e.drop ((m + 1) * s) = [] := List.drop_eq_nil_of_le (by rw [he, Nat.succ_mul]; omega)
    rw [hd0, show (m + 1) * s - s = m * s by rw [Nat.succ_mul]; omega, List.nil_append]
/-- What a copy leaves. -/
def copyM {α : Type} (es es2 : List α) (p : Nat) : List α := es.take p ++ es2.take (es.length - p) ++ es.drop (p + min es2.length (es.length - p))
theorem copy_len {α : Type} {es es2 : List α} {p : Nat} (hp : p ≤ es.length) : (copyM es es2 p).length = es.length := by
  simp only [copyM, List.length_append, List.length_take, List.length_drop]; omega
theorem og_copy {x y : Operand} {t e : TypeId} {s bs : Nat} {zs : List Value} [hT : TySlice P t e] [hI : TyInfo P e s zs bs] (i : Nat) {v dst src : Value} {es es2 : List (List Value)} (p : Nat)
    (hx : opv fr x = some dst) (hy : opv fr y = some src) (hi : H[i]? = some (.row v e s es)) (hd : (dst = v ∧ p = 0) ∨ dst = subV v s p es.length) (hp : p < es.length) (h2 : ∀ w, HeapOk w0 w H → Rd w src s es2) :
    OpG P n w0 fr H (.call ⟨.builtin .copy, #[x, y], #[t, t]⟩) Triv (fun _ : Unit => .int .i64 (min es2.length (es.length - p) : Nat)) (fun _ => H.set i (.row v e s (copyM es es2 p))) :=
  fun a w hr hh d T pos af gd K hK => by
    have hf := hh.front hi
    obtain ⟨hrow, hgood⟩ := hf.ok _ (List.mem_cons_self)
    have hlen := fun e he => (hgood e he).1
    have hfl := flatten_len hlen
    have hsrc := h2 w hh
    obtain ⟨ii, zz, g1, g2, g3, g4, g5⟩ := hI.get
    rcases hrow.2 with ⟨rfl, hn⟩ | ⟨g, cap, cur, rfl, hB, hg, hle, hcm, hsz, htk⟩
    · omega
    · obtain ⟨cap', hd'⟩ : ∃ cap', dst = .slice (some ⟨g, p * s, none⟩) (es.length - p) cap' := by
        rcases hd with ⟨rfl, rfl⟩ | rfl
        · exact ⟨cap, by simp⟩
        · refine ⟨cap - p, ?_⟩
          simp only [subV, sliced, if_neg (show ¬ cap = p by omega), Option.map_some, Addr.add_lit, Nat.zero_add]
      subst hd'
      have hcap : es.length * s ≤ cap * s := Nat.mul_le_mul_right s hle
      obtain ⟨m, hmd⟩ : ∃ m, m = min es2.length (es.length - p) := ⟨_, rfl⟩
      obtain ⟨us, hus⟩ : ∃ us, us = (es2.take m).flatten := ⟨_, rfl⟩
      have hg2 : ∀ e ∈ es2, e.length = s := fun e he => (hsrc.good e he).1
      have hgm : ∀ e ∈ es2.take m, e.length = s := fun e he => hg2 e (List.mem_of_mem_take he)
      have husl : us.length = m * s := by rw [hus, flatten_len hgm, List.length_take]; congr 1; omega
      have h1 : ∀ u ∈ us, u.oneCell' = true := by
        intro u hu
        rw [hus] at hu
        obtain ⟨e', he, hue⟩ := List.mem_flatten.1 hu
        exact (hsrc.good e' (List.mem_of_mem_take he)).2 u hue
      have hpm : p * s + m * s ≤ es.length * s := by
        rw [← Nat.add_mul]; exact Nat.mul_le_mul_right s zc
      have hfirst : (Builtin.firstCells s m src).run P w = .ok us.toArray w := by
        obtain ⟨ad, cap2, rfl, k1, k2, k3⟩ := hsrc.form
        cases ad with
        | none =>
          have h0 : es2.length = 0 := by
            rcases Nat.eq_zero_or_pos es2.length with h | h
            · exact h
            · obtain ⟨b, o, hbo⟩ := k3 h; cases hbo
          have : us = [] := by rw [hus, List.eq_nil_of_length_eq_zero h0]; simp
          rw [this]; rfl
        | some ad =>
          have hl := run_loadCells_list (P := P) w ad us (fun j u hj => by
            have hpos : 0 < es2.length := by
              rcases Nat.eq_zero_or_pos es2.length with h | h
              · rw [hus, List.eq_nil_of_length_eq_zero h] at hj; simp at hj
              · exact h
            obtain ⟨b, o, hbo⟩ := k3 hpos
            injection hbo with hbo
            subst hbo
            rw [hus, take_flat m hg2] at hj
            have hj2 : es2.flatten[j]? = some u := by
              have hlt : j < m * s := by
                rcases Nat.lt_or_ge j (m * s) with h | h
                · exact h
                · rw [List.getElem?_eq_none zab] at hj; cases hj
              rwa [List.getElem?_take_of_lt hlt] at hj
            have := hsrc.cells j u hj2
            rw [Addr.add_lit]
            exact this)
          rw [husl] at hl
          exact hl
      have hlenOf : (Builtin.lenOf src).run P w = .ok es2.length w := by
        obtain ⟨ad, cap2, rfl, k1, k2, k3⟩ := hsrc.form
        rfl
      have hst := run_storeCells_at P g (p * s) e us 0 cur w hg zc h1
      simp only [Nat.add_zero] at hst
      have hrun : (execOp a.eval ⟨d, .call ⟨.builtin .copy, #[x, y], #[t, t]⟩, T, pos, af, gd⟩).run P w = .ok (.value (.int .i64 (m : Nat))) (w.setRow g (cur.toList.take (p * s) ++ us ++ cur.toList.drop (p * s + us.length)).toArray) := by
        have hz : (Builtin.copy_ #[t, t] T #[.slice (some ⟨g, p * s, none⟩) (es.length - p) cap', src]).run P w = .ok (.int .i64 (m : Nat)) (w.setRow g (cur.toList.take (p * s) ++ us ++ cur.toList.drop (p * s + us.length)).toArray) := by
          have hmm : Nat.min es2.length (es.length - p) = m := hmd.symm
          simp only [Builtin.copy_, List.getElem?_toArray, List.getElem?_cons_zero, List.getElem?_cons_succ, Sem.run_bind, Sem.run_pure, run_underlying hT.h, Result.andThen_ok, sizeOf, typeInfo, run_program, g1, g2, hlenOf, hmm, hfirst, List.toList_toArray, hst]
          rfl
        simp only [execOp, resolve, invoke, builtin, Sem.run_bind, Sem.run_pure, Result.andThen_ok, List.map_toArray, List.map_cons, List.map_nil, hr.opv hx, hr.opv hy, hz]
      unfold okAt; rw [hrun]
      rw [hmd]
      refine hK () _ trivial (HeapOk.perm ?_ (perm_set hi))
      have hnewlen : (cur.toList.take (p * s) ++ us ++ cur.toList.drop (p * s + us.length)).length = cur.size := by
        simp only [List.length_append, List.length_take, List.length_drop, Array.length_toList]; omega
      have hcgood : ∀ e0 ∈ copyM es es2 p, e0.length = s ∧ ∀ u ∈ e0, u.oneCell' = true := by
        intro e0 he0
        rcases List.mem_append.1 he0 with he0 | he0
        · rcases List.mem_append.1 he0 with he0 | he0
          · exact hgood e0 (List.mem_of_mem_take he0)
          · exact hsrc.good e0 (List.mem_of_mem_take he0)
        · exact hgood e0 (List.mem_of_mem_drop he0)
      have hcl : (copyM es es2 p).length = es.length := copy_len zc
      have hcf : (copyM es es2 p).flatten = (cur.toList.take (p * s) ++ us ++ cur.toList.drop (p * s + us.length)).take (es.length * s) := by
        have ht : es2.take (es.length - p) = es2.take m := by
          apply List.ext_getElem?
          intro j
          rw [List.getElem?_take, List.getElem?_take]
          by_cases c : j < es2.length
          · by_cases c2 : j < es.length - p
            · rw [if_pos c2, if_pos zc]
            · rw [if_neg c2, if_neg zc]
          · rw [List.getElem?_eq_none zc]; simp
        rw [copyM, ht, List.flatten_append, List.flatten_append, take_flat p hlen, drop_flat _ hlen, ← hus, ← hmd, ← htk, List.take_take, Nat.min_eq_left (Nat.mul_le_mul_right s (Nat.le_of_lt hp)), List.drop_take, husl, Nat.add_mul]
        rw [List.take_append, List.take_append]
        simp only [List.length_append, List.length_take, Array.length_toList, husl]
        rw [Nat.min_eq_left (by omega : p * s ≤ cur.size), List.take_take, Nat.min_eq_right (by omega : p * s ≤ es.length * s), List.take_of_length_le (l := us) zc]
        try (congr 2; omega)
      refine ⟨hf.below.trans ⟨rfl, rfl, rfl, by simp, fun q hq => setRow_other w g q _ zc⟩, fun d hd => ?_, ?_⟩
      · rcases List.mem_cons.1 hd with rfl | hd
        · refine ⟨⟨?_, .inr ⟨g, cap, _, by rw [hcl], hB, setRow_heap w g cur _ e _ hg, by rw [hcl]; exact hle, hcm, by rw [List.size_toArray, hnewlen, hsz], ?_⟩⟩, hcgood⟩
          · rw [flatten_len (fun e he => (hcgood e he).1)]
          · rw [hcf, List.toList_toArray, hcl]
        · have hd' := hf.ok d (List.mem_cons_of_mem _ hd)
          refine Ch.ok_of hd' fun q hq => setRow_other w g q _ ?_
          have := (List.pairwise_cons.1 hf.ap).1 d hd g rfl
          rintro rfl
          exact this hq
      · have := List.pairwise_cons.1 hf.ap
        exact List.pairwise_cons.2 ⟨fun d hd q hq => this.1 d hd q hq, this.2⟩
theorem og_copy0 {x y : Operand} {t e : TypeId} {s bs : Nat} {zs : List Value} [hT : TySlice P t e] [hI : TyInfo P e s zs bs] {F : List Ch} {v dst src : Value} {es es2 : List (List Value)} (p : Nat)
    (hx : opv fr x = some dst) (hy : opv fr y = some src) (hH : H = .row v e s es :: F) (hd : (dst = v ∧ p = 0) ∨ dst = subV v s p es.length) (hp : p < es.length) (h2 : ∀ w, HeapOk w0 w H → Rd w src s es2) :
    OpG P n w0 fr H (.call ⟨.builtin .copy, #[x, y], #[t, t]⟩) Triv (fun _ : Unit => .int .i64 (min es2.length (es.length - p) : Nat)) (fun _ => .row v e s (copyM es es2 p) :: F) := by
  subst hH; exact og_copy 0 p hx hy rfl hd hp h2
theorem og_copy1 {x y : Operand} {t e : TypeId} {s bs : Nat} {zs : List Value} [hT : TySlice P t e] [hI : TyInfo P e s zs bs] {a1 : Ch} {F : List Ch} {v dst src : Value} {es es2 : List (List Value)} (p : Nat)
    (hx : opv fr x = some dst) (hy : opv fr y = some src) (hH : H = a1 :: .row v e s es :: F) (hd : (dst = v ∧ p = 0) ∨ dst = subV v s p es.length) (hp : p < es.length) (h2 : ∀ w, HeapOk w0 w H → Rd w src s es2) :
    OpG P n w0 fr H (.call ⟨.builtin .copy, #[x, y], #[t, t]⟩) Triv (fun _ : Unit => .int .i64 (min es2.length (es.length - p) : Nat)) (fun _ => a1 :: .row v e s (copyM es es2 p) :: F) := by
  subst hH; exact og_copy 1 p hx hy rfl hd hp h2
theorem GS.o1 {HC : List Ch} {Q : Exit → Act → World → Prop} {ops : Array Oper} {ls : List Nat} {f d : Nat} {listed : Array Bool} {o : Op} {T : TypeId} {pos : String} {af : Array Edge} (i : Nat) {X : Type} {φ : X → Prop} {val : X → Value} {H' : X → List Ch} (hB : onlyL ops listed i = true) (hL : ls.contains i = true) (hi : ops[i]? = some ⟨some d, o, T, pos, af, none⟩)
    (ho : OpG P n w0 fr H o φ val H') (hd : Nat.ble (d + 1) n = true) (hH : ∀ x w, HeapOk w0 w (H' x) → HeapOk w0 w HC) (h : ∀ x, φ x → GS P ops Q ls n w0 HC f (listed.setIfInBounds i true) ((d, val x) :: fr) (H' x)) : GS P ops Q ls n w0 HC (f + 1) listed fr H := by
  intro a w hra hh
  have hr : Region.ready .any ops listed = [i] := by simpa [onlyL] using hB
  refine wpS_all hr zC fun w1 he j hj => ?_
  simp only [List.mem_singleton] at hj
  subst hj
  unfold okOp
  simp only [hi, Region.wanted, if_true]
  exact ho a w1 hra (hh.ext he) _ _ _ _ _ _ fun x w' hx hw => ⟨fun h => (by rw [hL] at h; cases h), fun _ => hH x w' hw, h x hx _ _ (hra.put (Nat.le_of_ble_eq_true hd) _) hw⟩
end
end Go.Proofs.YtglpgohilfoecaaGreat

/-
  A slice that is repeated; the units of an order.
-/
namespace Go.Proofs.YtglpgohilfoecaaGreat
open Go.RowKit
attribute [local irreducible] Go.wpList Go.Code.wp Go.Exit.then Go.Exit.inBlock Go.bodyPost Go.Calls pE pB G RunsV FnV Fn FnM
set_option maxRecDepth 100000
set_option maxHeartbeats 4000000
theorem small13 {c : Nat} (h : c ≤ 12) : c = 0 ∨ c = 1 ∨ c = 2 ∨ c = 3 ∨ c = 4 ∨ c = 5 ∨ c = 6 ∨ c = 7 ∨ c = 8 ∨ c = 9 ∨ c = 10 ∨ c = 11 ∨ c = 12 := by omega
theorem mul64_any {c : Nat} (w : World) (h : c ≤ 12) : FnV Tryz.prog 205 [.int .u64 1, .int .u64 (c : Int)] w (.tuple #[.int .u64 0, .int .u64 (c : Int)]) := by
  refine FnV.of (n := 51) Tryz.func205 rfl rfl ?_; refine zbZ ?_; refine zcB ?_; refine zeF ?_; refine G.v (rv_and rfl rfl) rfl ?_; refine zeF ?_; refine G.v (rv_shr rfl rfl zc) rfl ?_; refine zeF ?_; refine G.v (rv_and rfl rfl) rfl ?_; refine zeF ?_; refine G.v (rv_shr rfl rfl zc) rfl ?_; refine zdn ?_; refine G.v (rv_mul rfl rfl) rfl ?_; refine zdn ?_; refine G.v (rv_mul rfl rfl) rfl ?_; refine zaC ?_; refine G.v (rv_shr rfl rfl zc) rfl ?_; refine zeU ?_; refine zba ?_
  refine zbi ?_; refine G.v (rv_and rfl rfl) rfl ?_; refine zeF ?_; refine G.v (rv_shr rfl rfl zc) rfl ?_; refine zaB ?_; refine zca ?_; refine G.v (rv_mul rfl rfl) rfl ?_; refine zeU ?_; refine zdn ?_; refine G.v (rv_mul rfl rfl) rfl ?_; refine zaC ?_; refine zeU ?_; refine zaC ?_; refine G.v (rv_shr rfl rfl zc) rfl ?_; refine zeU ?_; refine zdn ?_; refine G.v (rv_mul rfl rfl) rfl ?_; refine zcf ?_; refine G.retVL rfl (.cons (.tmp rfl) (.cons (.tmp rfl) .nil)) ?_; rcases small13 h with rfl | rfl | rfl | rfl | rfl | rfl | rfl | rfl | rfl | rfl | rfl | rfl | rfl <;> rfl
theorem bitsMul_any {c : Nat} (w : World) (h : c ≤ 12) : FnV Tryz.prog 144 [.int .u64 1, .int .u64 (c : Int)] w (.tuple #[.int .u64 0, .int .u64 (c : Int)]) := by
  refine FnV.of (n := 30) Tryz.func144 rfl rfl ?_; refine zbZ ?_; refine zcB ?_; refine zba ?_; refine G.cond rfl (fun hc => ?_) (fun hc => ?_)
  exact Bool.noConfusion hc
  refine zbR ?_; refine zaM ?_; refine G.op (og_callV rfl rfl (fun w hh => mul64_any w h)) rfl (fun _ _ => ?_); refine zaC ?_; refine G.v (rv_extract rfl rfl) rfl (G.v (rv_extract rfl rfl) rfl ?_); refine zcB ?_; refine zdn ?_; refine zcB ?_; refine zcf ?_
  exact G.retVL rfl (.cons (.tmp rfl) (.cons (.tmp rfl) .nil)) rfl
def repRow (z : Int) (c k : Nat) : List (List Value) := List.replicate k [.int .i64 z] ++ List.replicate (c - k) [.int .i64 0]
theorem repRow_len {z : Int} {c k : Nat} (h : k ≤ c) : (repRow z c k).length = c := by simp [repRow]; omega
theorem rep_first {z : Int} {c : Nat} (h : 1 ≤ c) : copyM (List.replicate c [Value.int .i64 0]) [[.int .i64 z]] 0 = repRow z c 1 := by
  have h1 : min 1 c = 1 := by omega
  simp only [copyM, repRow, List.take_zero, List.length_replicate, Nat.sub_zero, List.length_cons, List.length_nil, List.nil_append, Nat.zero_add, List.drop_replicate, h1, List.replicate_one]
  rw [List.take_of_length_le zac]
theorem rep_next {z : Int} {c k : Nat} (h : k < c) : copyM (repRow z c k) ((repRow z c k).take k) k = repRow z c (k + min k (c - k)) := by
  have hl := repRow_len (z := z) (Nat.le_of_lt h)
  have ht : (repRow z c k).take k = List.replicate k [.int .i64 z] := by simp [repRow, List.take_append]
  have hd : (repRow z c k).drop (k + min k (c - k)) = List.replicate (c - (k + min k (c - k))) [.int .i64 0] := by
    simp only [repRow, List.drop_append, List.drop_replicate, List.length_replicate]
    rw [show k - (k + min k (c - k)) = 0 by omega, show c - k - (k + min k (c - k) - k) = c - (k + min k (c - k)) by omega]; simp
  rw [copyM, hl, ht, List.length_replicate, hd, List.take_replicate, repRow]
  congr 1
  rw [List.replicate_append_replicate]; congr 1; omega
theorem rep_one {z : Int} {c : Nat} (h : 1 ≤ c) : min ([[Value.int .i64 z]] : List (List Value)).length ((List.replicate c [Value.int .i64 0]).length - 0) = 1 := by simp; omega
theorem rep_all {z : Int} {c : Nat} : repRow z c c = List.replicate c [.int .i64 z] := by simp [repRow]
theorem repeat_any {x : Value} {z : Int} {c : Nat} (w : World) (h : Rd w x 1 [[.int .i64 z]]) (h1 : 1 ≤ c) (h2 : c ≤ 12) : Fn Tryz.prog 80 [x, .int .i64 (c : Int)] w (fun v : Value => v.oneCell' = true) (fun v => v) (fun v => [.row v 3 1 (List.replicate c [.int .i64 z])]) := by
  refine Fn.of (n := 48) Tryz.func80 rfl rfl ?_; refine zcd ?_; refine zaI ?_; refine G.cond rfl (fun hc => ?_) (fun hc => ?_)
  exact Bool.noConfusion hc
  · replace hc := of_decide_eq_false hc
    refine zbR ?_; refine zaD ?_; refine G.v (rv_len rfl zD) rfl ?_; refine G.v (rv_convS rfl zC zC) rfl ?_; refine zaC ?_; refine G.v (rv_convS rfl zc zc) rfl (G.op (og_callV rfl rfl (fun w hh => bitsMul_any w h2)) rfl (fun _ _ => ?_)); refine zaC ?_; refine G.v (rv_extract rfl rfl) rfl (G.v (rv_extract rfl rfl) rfl ?_); refine zcB ?_; refine zcY ?_; refine G.v (rv_gtr rfl rfl) rfl ?_; refine zaC ?_
    (with_reducible refine G.gP rfl rfl (fun hg => ?_) (fun hg => ?_)) <;> (try exact Bool.noConfusion hg) <;> (try (exfalso; first | (have hq := of_decide_eq_true hg; omega); done)) <;> (first | (refine zbm ?_) | refine zaF ?_ | refine ze5 ?_)
    first | (refine zds ?_) | refine zaF ?_ | refine ze5 ?_
    first | refine za3 ?_ | refine za4 ?_
    refine za1 ?_; refine G.condD rfl (fun hc => ?_) (fun hc => ?_)
    exfalso; first | contradiction | omega
    refine zbR ?_; refine zaD ?_; refine G.v (rv_convS rfl zc zc) rfl (G.op (og_make rfl rfl rfl rfl rfl zas zas) rfl (fun v _ => ?_)); refine zdn ?_
    first | refine G.op (og_copy0 (0) rfl rfl rfl (by first | exact .inl ⟨rfl, rfl⟩ | exact .inr rfl) zas zD) rfl (fun _ _ => ?_) | refine G.op (og_copy1 (0) rfl rfl rfl (by first | exact .inl ⟨rfl, rfl⟩ | exact .inr rfl) zas zD) rfl (fun _ _ => ?_)
    refine zba ?_; refine G.block (G.rowEq (repRow z c 1) (rep_first h1) rfl ?_); refine G.loopK (ι := Nat) (ks := [7]) (fun k => [(8, .int .i64 (k : Int))]) (fun k => [.row v 3 1 (repRow z c k)]) (fun k => 1 ≤ k ∧ k ≤ c) (fun k => c - k) 1 (.cons rfl (.nil)) rfl ?_ ?_ ?_
    exact ⟨Nat.le_refl _, h1⟩
    exact ⟨congrArg (fun q : Nat => some (Value.int .i64 (q : Int))) (rep_one h1), trivial⟩
    rintro k ⟨hk1, hkc⟩
    have hrl := repRow_len (z := z) hkc
    have hrt : ((repRow z c k).take k).length = k := by rw [List.length_take]; omega
    refine zcT ?_; refine G.v (rv_len rfl zD) rfl ?_; refine zaI ?_; refine G.condD rfl (fun hc => ?_) (fun hc => ?_); refine zbR ?_; refine G.block (G.drawS [7] rfl ?_); refine zcx ?_; refine GS.q 3 [7, 8, 9] rfl za za (qg_runs (rv_sliceL rfl rfl zD zc)) rfl ?_; refine zfG ?_; refine GS.q 6 [7, 8, 9] rfl za za (qg_runs (rv_sliceH rfl rfl zD zc)) rfl ?_
    refine GS.o1 7 za rfl rfl (og_copy0 (k) rfl rfl rfl (by first | exact .inl ⟨rfl, rfl⟩ | exact .inr rfl) zas (fun w hw => by have q := (Rd.owned 0 rfl w hw).sub (l := 0) (k := k) (Nat.zero_le _) zc; rw [List.drop_zero, Nat.sub_zero] at q; exact q)) rfl (fun _ _ h => h.drop 1) (fun _ _ => ?_)
    first | refine GS.p 8 rfl za (qg_runs (rv_incr rfl rfl zc)) (fun _ h => h.drop 1) rfl ?_ | refine GS.p 8 rfl za (qg_runs (rv_addN rfl rfl zc)) (fun _ h => h.drop 1) rfl ?_
    refine GS.p 9 rfl za (qg_runs (rv_assign rfl)) (fun _ h => h.drop 1) rfl ?_; refine GS.done za ?_; refine G.inN ?_
    first | refine G.backK (k + min k (c - k)) 0 (congrArg (fun y => [Ch.row v 3 1 y]) (rep_next zc)) (.cons rfl (.nil)) ?_ ?_ ?_ | refine G.backK (k + min k (c - k)) 1 (congrArg (fun y => [Ch.row v 3 1 y]) (rep_next zc)) (.cons rfl (.nil)) ?_ ?_ ?_
    exact ⟨congrArg (fun q : Nat => some (Value.int .i64 ((k + q : Nat) : Int))) (by rw [hrt, hrl]), trivial⟩
    exact ⟨by omega, by omega⟩
    omega
    refine zce ?_; refine G.know (fun w hw => (Rd.owned 0 rfl w hw).one_) (fun hone => G.retF v hone rfl rfl rfl (fun w hw => by rw [show k = c by omega, rep_all] at hw; exact hw))
def unitsU (l : List ItemM) : List Nat := l.zipIdx.flatMap fun p => List.replicate p.1.cnt.toNat p.2
theorem units_next {l : List ItemM} {k : Nat} {b : ItemM} (hb : l[k]? = some b) : unitsU (l.take (k + 1)) = unitsU (l.take k) ++ List.replicate b.cnt.toNat k := by
  have hk := (List.getElem?_eq_some_iff.1 hb).1
  simp only [unitsU, List.take_add_one, hb, Option.toList_some, List.zipIdx_append, List.flatMap_append, List.length_take]
  rw [Nat.min_eq_left zc]; simp
theorem units_len {l : List ItemM} (h : l.all itemOkM = true) : ∀ k, k ≤ l.length → (unitsU (l.take k)).length ≤ 6 * k
  | 0, _ => by simp [unitsU]
  | k + 1, hk => by
    obtain ⟨b, hb⟩ := get_of_lt (l := l) (k := k) zc
    have h1 := units_len h k zc
    have h2 := item_cnt (List.all_eq_true.1 h b (List.mem_of_getElem? hb))
    rw [units_next hb, List.length_append, List.length_replicate]; omega
theorem units_lt {l : List ItemM} : ∀ k, k ≤ l.length → ∀ x ∈ unitsU (l.take k), x < k
  | 0, _ => by simp [unitsU]
  | k + 1, hk => by
    obtain ⟨b, hb⟩ := get_of_lt (l := l) (k := k) zc
    have h1 := units_lt (l := l) k zc
    rw [units_next hb]
    intro x hx
    rcases List.mem_append.1 hx with hx | hx
    · have := h1 x hx; omega
    · have := (List.mem_replicate.1 hx).2; omega
def unitsM (r : ReqM) : List Nat := if classM r = 0 then unitsU r.items else []
theorem unitsM_no {r : ReqM} (h : ¬ classM r = 0) : unitsM r = [] := by rw [unitsM, if_neg h]
theorem unitsM_yes {r : ReqM} (h : classM r = 0) : unitsM r = unitsU r.items := by rw [unitsM, if_pos h]
theorem unitsM_len (r : ReqM) : (unitsM r).length ≤ 48 := by
  by_cases h : classM r = 0
  · rw [unitsM_yes h]
    have hb := cls_sound h
    have := units_len (bounds_items hb) r.items.length (Nat.le_refl _)
    rw [List.take_of_length_le (Nat.le_refl _)] at this
    have := (bounds_lens hb).1
    omega
  · rw [unitsM_no h]; simp
theorem unitsM_lt {r : ReqM} : ∀ x ∈ unitsM r, x < r.items.length := by
  intro x hx
  by_cases h : classM r = 0
  · rw [unitsM_yes h] at hx
    have := units_lt (l := r.items) r.items.length (Nat.le_refl _)
    rw [List.take_of_length_le (Nat.le_refl _)] at this
    exact this x hx
  · rw [unitsM_no h] at hx; simp at hx
theorem units_snoc {l : List ItemM} {k : Nat} {b : ItemM} {c : Nat} (hb : l[k]? = some b) (hc : b.cnt = c) : (unitsU (l.take k)).map ncell ++ List.replicate c [Value.int .i64 (k : Int)] = (unitsU (l.take (k + 1))).map ncell := by
  rw [units_next hb, List.map_append, List.map_replicate, hc, Int.toNat_natCast]; rfl
theorem units_any {r : ReqM} {pv tv iv : Value} (w : World) (h : Rd w pv 2 (r.pairs.map PairM.cells)) (h2 : Rd w tv 7 (r.types.map TypeM.cells)) (h3 : Rd w iv 7 (r.items.map ItemM.cells)) :
    Fn Tryz.prog 25 [.agg (r.cells pv tv iv).toArray] w (fun v : Value => v.oneCell' = true) (fun v => v) (fun v => [.row v 3 1 ((unitsM r).map ncell)]) := by
  have hle3 := h3.le_map
  refine Fn.of (n := 27) Tryz.func25 rfl rfl ?_; refine zaJ (fun bk1 _ => ?_); refine zba ?_; refine zaU ?_; refine zbH (fun _ _ => ?_); refine zcl ?_; refine G.cond rfl (fun hc => ?_) (fun hc => ?_); refine zbc ?_
  exact G.retF (.slice none 0 0) rfl rfl rfl rfl (fun w hw => by rw [unitsM_no (by exact of_decide_eq_false zr)]; exact (hw.none).nilRow _ _)
  · refine G.skip ?_
    refine G.thenN ?_; refine zaW (fun vl _ => ?_); refine zba ?_; refine zbZ ?_; refine zbe ?_; refine zeO ?_
    have hcl : classM r = 0 := (by exact of_decide_eq_true zr)
    have hit := bounds_items (cls_sound hcl)
    have h8 := (bounds_lens (cls_sound hcl)).1
    refine G.loopK (ι := Nat × Value) (ks := [11, 12]) (fun x => [(3, x.2), (13, .int .i64 (x.1 : Int))]) (fun x => [.row x.2 3 1 ((unitsU (r.items.take x.1)).map ncell)]) (fun x => x.1 ≤ r.items.length) (fun x => r.items.length - x.1) (0, vl) (.cons rfl (.cons rfl (.nil))) rfl ?_ ?_ ?_
    exact Nat.zero_le _
    exact ⟨rfl, rfl, trivial⟩
    rintro ⟨k, v⟩ hk
    dsimp only at hk ⊢
    have hul : ((unitsU (r.items.take k)).map ncell).length ≤ 6 * k := (by rw [List.length_map]; exact units_len hit k hk)
    have hul2 := units_len hit k hk
    by_cases hlt : k < r.items.length
    case' pos => (obtain ⟨b, hb⟩ := get_of_lt hlt; have he := get_map hb ItemM.cells; have hbc := item_cnt (List.all_eq_true.1 hit b (List.mem_of_getElem? hb)); obtain ⟨c, hcc⟩ : ∃ c : Nat, b.cnt = c := ⟨b.cnt.toNat, by omega⟩)
    all_goals
     refine zbo ?_; refine G.cond rfl (fun hc => ?_) (fun hc => ?_)
     · all_goals
        replace hc := of_decide_eq_true hc
        simp only [List.length_map] at hc
        try (exfalso; omega)
        all_goals
         refine zea ?_; refine za5 ?_; refine zbn (fun bk5 _ => ?_); refine zcB ?_; refine zaN (fun _ _ => ?_); refine za1 ?_; refine zdX ?_; refine zaT (fun vl _ => ?_); refine zbe ?_; refine G.op (og_callF1 rfl rfl (fun w hh => by rw [hcc]; exact repeat_any (z := (k : Int)) w zF zc zc)) rfl ?_; rintro vr hvr; try dsimp only
         refine zcF (fun va _ => ?_); refine za0 ?_; refine zaO ?_; refine G.backK (k + 1, va) 3 (one_eq (congrArg (fun z => Ch.row va 3 1 z) (units_snoc hb hcc))) (.cons rfl (.cons rfl (.nil))) ?_ ?_ ?_
         exact ⟨rfl, rfl, trivial⟩
         exact hlt
         dsimp only; omega
     · all_goals
        replace hc := of_decide_eq_false hc
        simp only [List.length_map] at hc
        try (exfalso; omega)
        all_goals
         refine zce ?_; refine G.know (fun w hw => (Rd.owned 0 rfl w hw).one_) (fun hone => G.retF v hone rfl rfl rfl (fun w hw => by rw [unitsM_yes hcl]; rw [take_all hlt] at hw; exact hw.sublist (by repeat (first | exact List.Sublist.refl _ | refine List.Sublist.cons_cons _ ?_ | refine List.Sublist.cons _ ?_)))); done
theorem rep_snoc {l : List ItemM} {k j : Nat} : ((unitsU (l.take k)).map ncell ++ List.replicate j [Value.int .i64 (k : Int)]) ++ [[.int .i64 (k : Int)]] = (unitsU (l.take k)).map ncell ++ List.replicate (j + 1) [Value.int .i64 (k : Int)] := by
  rw [List.append_assoc, List.replicate_succ']
theorem sl6Units_any {r : ReqM} {pv tv iv : Value} (w : World) (hit : r.items.all itemOkM = true) (h8 : r.items.length ≤ 8) (h3 : Rd w iv 7 (r.items.map ItemM.cells)) :
    Fn Tryz.prog 134 [.agg (r.cells pv tv iv).toArray] w (fun v : Value => v.oneCell' = true) (fun v => v) (fun v => [.row v 3 1 ((unitsU r.items).map ncell)]) := by
  have hle3 := h3.le_map
  refine Fn.of (n := 29) Tryz.func134 rfl rfl ?_; refine zaJ (fun bk1 _ => ?_); refine zaB ?_; refine zaW (fun vl _ => ?_); refine zdR ?_; refine G.loopK (ι := Nat × Value) (ks := [1]) (fun x => [(3, x.2), (4, .int .i64 (x.1 : Int))]) (fun x => [.row x.2 3 1 ((unitsU (r.items.take x.1)).map ncell)]) (fun x => x.1 ≤ r.items.length) (fun x => r.items.length - x.1) (0, vl) (.cons rfl (.nil)) rfl ?_ ?_ ?_
  exact Nat.zero_le _
  exact ⟨rfl, rfl, trivial⟩
  rintro ⟨k, v⟩ hk
  dsimp only at hk ⊢
  have hul : ((unitsU (r.items.take k)).map ncell).length ≤ 6 * k := (by rw [List.length_map]; exact units_len hit k hk)
  have hul2 := units_len hit k hk
  by_cases hlt : k < r.items.length
  case' pos => (obtain ⟨b, hb⟩ := get_of_lt hlt; have he := get_map hb ItemM.cells; have hbc := item_cnt (List.all_eq_true.1 hit b (List.mem_of_getElem? hb)); obtain ⟨c, hcc⟩ : ∃ c : Nat, b.cnt = c := ⟨b.cnt.toNat, by omega⟩)
  all_goals
   refine zfn ?_; refine zbe ?_; refine zfO ?_; refine G.cond rfl (fun hc => ?_) (fun hc => ?_)
   · all_goals
      replace hc := of_decide_eq_true hc
      simp only [List.length_map] at hc
      try (exfalso; omega)
      all_goals
       refine zaQ ?_; refine zbL ?_; refine G.rowEq ((unitsU (r.items.take k)).map ncell ++ List.replicate 0 [Value.int .i64 (k : Int)]) zC rfl ?_; refine G.loopK (ι := Nat × Value) (ks := [1, 4]) (fun x => [(3, x.2), (5, .int .i64 (x.1 : Int))]) (fun x => [.row x.2 3 1 ((unitsU (r.items.take k)).map ncell ++ List.replicate x.1 [Value.int .i64 (k : Int)])]) (fun x => x.1 ≤ c) (fun x => c - x.1) (0, v) (.cons rfl (.cons rfl (.nil))) rfl ?_ ?_ ?_
       exact Nat.zero_le _
       exact ⟨rfl, rfl, trivial⟩
       rintro ⟨j, v1⟩ hj
       dsimp only at hj ⊢
       have hjl : ((unitsU (r.items.take k)).map ncell ++ List.replicate j [Value.int .i64 (k : Int)]).length ≤ 6 * k + j := (by rw [List.length_append, List.length_replicate]; omega)
       have hul3 := units_len hit k hk
       all_goals
        refine zfn ?_; refine zbe ?_; refine zaC ?_; refine zb4 ?_; refine zaI ?_; refine G.cond rfl (fun hc => ?_) (fun hc => ?_)
        · all_goals
           replace hc := of_decide_eq_true hc
           all_goals
            refine zaQ ?_; refine zdX ?_; refine zaT (fun vl _ => ?_); refine zbG (fun va _ => ?_); refine zeC ?_; refine G.backK (j + 1, va) 1 (one_eq (congrArg (fun z => Ch.row va 3 1 z) rep_snoc)) (.cons rfl (.cons rfl (.nil))) ?_ ?_ ?_
            exact ⟨rfl, rfl, trivial⟩
            dsimp only; omega
            dsimp only; omega
        · all_goals
           replace hc := of_decide_eq_false hc
           all_goals
            refine zc0 ?_; refine zaE ?_; refine G.backK (k + 1, v1) 0 (one_eq (congrArg (fun z => Ch.row v1 3 1 z) (by rw [show j = c by omega]; exact units_snoc hb hcc))) (.cons rfl (.nil)) ?_ ?_ ?_
            exact ⟨rfl, rfl, trivial⟩
            exact hlt
            dsimp only; omega
   · all_goals
      replace hc := of_decide_eq_false hc
      simp only [List.length_map] at hc
      try (exfalso; omega)
      all_goals
       refine zce ?_; refine G.know (fun w hw => (Rd.owned 0 rfl w hw).one_) (fun hone => G.retF v hone rfl rfl rfl (fun w hw => by rw [take_all hlt] at hw; exact hw.sublist (by repeat (first | exact List.Sublist.refl _ | refine List.Sublist.cons_cons _ ?_ | refine List.Sublist.cons _ ?_))))
theorem sunits_any {r : ReqM} {pv tv iv : Value} (w : World) (h : Rd w pv 2 (r.pairs.map PairM.cells)) (h2 : Rd w tv 7 (r.types.map TypeM.cells)) (h3 : Rd w iv 7 (r.items.map ItemM.cells)) :
    Fn Tryz.prog 208 [.agg (r.cells pv tv iv).toArray] w (fun v : Value => v.oneCell' = true) (fun v => v) (fun v => [.row v 3 1 ((unitsM r).map ncell)]) := by
  refine Fn.of (n := 9) Tryz.func208 rfl rfl ?_; refine zaJ (fun bk1 _ => ?_); refine zba ?_; refine zaU ?_; refine zbw (fun _ _ => ?_); refine zci ?_; refine G.condD rfl (fun hc => ?_) (fun hc => ?_)
  · refine G.seq ?_
    refine G.region (G.op (og_lit rfl .nil rfl rfl rfl rfl rfl rfl) rfl (fun vl _ => ?_)); refine zcf ?_; refine G.thenR ?_; refine G.know (fun w hw => (Rd.owned 0 rfl w hw).one_) (fun hone => G.retF vl hone rfl rfl rfl (fun w hw => by rw [unitsM_no hc]; exact hw.sublist (by repeat (first | exact List.Sublist.refl _ | refine List.Sublist.cons_cons _ ?_ | refine List.Sublist.cons _ ?_)))); done
  refine zbR ?_; refine zaU ?_; refine G.op (og_callF1 rfl rfl (fun w hh => sl6Units_any (r := r) w (bounds_items (cls_sound zc)) (bounds_lens (cls_sound zc)).1 (Rd.stays h3 _ hh))) rfl ?_; rintro vu hvu; try dsimp only
  refine zcf ?_
  exact G.retF vu hvu rfl rfl rfl (fun w hw => by rw [unitsM_yes zc]; exact hw.sublist (by repeat (first | exact List.Sublist.refl _ | refine List.Sublist.cons_cons _ ?_ | refine List.Sublist.cons _ ?_)))
def itemAt (r : ReqM) (u : Int) : Option ItemM := if 0 ≤ u then ((unitsM r)[u.toNat]?).bind (fun i => r.items[i]?) else none
def itemZ : ItemM := ⟨0, 0, 0, 0, 0, 0, 0⟩
def itemsM (r : ReqM) (us : List Int) : List ItemM := us.filterMap (itemAt r)
def gOf (r : ReqM) (u : Int) : Int := match itemAt r u with | some x => x.g | none => 0
def gramM (r : ReqM) (us : List Int) : Int := (us.map (gOf r)).sum
theorem item_in {r : ReqM} {u : Int} (h : inB u 0 ((((unitsM r).map ncell).length : Int) - 1) = true) : ∃ (m i : Nat) (x : ItemM), u = m ∧ ((unitsM r).map ncell)[m]? = some (ncell i) ∧ (r.items.map ItemM.cells)[i]? = some x.cells ∧ itemAt r u = some x := by
  simp only [inB, Bool.and_eq_true, decide_eq_true_eq, List.length_map] at h
  obtain ⟨m, rfl⟩ : ∃ m : Nat, u = m := ⟨u.toNat, by omega⟩
  obtain ⟨i, hi⟩ := get_of_lt (l := unitsM r) (k := m) zc
  obtain ⟨x, hx⟩ := get_of_lt (unitsM_lt i (List.mem_of_getElem? hi))
  refine ⟨m, i, x, rfl, get_map hi ncell, get_map hx ItemM.cells, ?_⟩
  rw [itemAt, if_pos zc, Int.toNat_natCast, hi]
  exact hx
theorem item_out {r : ReqM} {u : Int} (h : ¬ inB u 0 ((((unitsM r).map ncell).length : Int) - 1) = true) : itemAt r u = none := by
  rw [itemAt]
  split
  · have : ¬ u.toNat < (unitsM r).length := fun hl => h (by simp only [inB, Bool.and_eq_true, decide_eq_true_eq, List.length_map]; omega)
    rw [List.getElem?_eq_none zc]; rfl
  · rfl
theorem items_yes {r : ReqM} {us : List Int} {k : Nat} {u : Int} {x : ItemM} (hb : us[k]? = some u) (h : itemAt r u = some x) : (itemsM r (us.take k)).map ItemM.cells ++ [x.cells] = (itemsM r (us.take (k + 1))).map ItemM.cells := by
  simp [itemsM, List.take_add_one, hb, List.filterMap_append, h]
theorem items_no {r : ReqM} {us : List Int} {k : Nat} {u : Int} (hb : us[k]? = some u) (h : itemAt r u = none) : (itemsM r (us.take k)).map ItemM.cells = (itemsM r (us.take (k + 1))).map ItemM.cells := by
  simp [itemsM, List.take_add_one, hb, List.filterMap_append, h]
theorem items_len (r : ReqM) (us : List Int) : (itemsM r us).length ≤ us.length := List.length_filterMap_le _ _
theorem item_g {x : ItemM} (h : itemOkM x = true) : 1 ≤ x.g ∧ x.g ≤ 100000 := by
  simp only [itemOkM, Bool.and_eq_true, inB, decide_eq_true_eq] at h
  exact h.1.1.2
theorem itemAt_ok {r : ReqM} {u : Int} {x : ItemM} (h : itemAt r u = some x) : itemOkM x = true := by
  by_cases hc : classM r = 0
  · rw [itemAt] at h
    split at h
    · cases hu : (unitsM r)[u.toNat]? with
      | none => rw [hu] at h; cases h
      | some i => rw [hu] at h; exact List.all_eq_true.1 (bounds_items (cls_sound hc)) x (List.mem_of_getElem? h)
    · cases h
  · rw [itemAt, unitsM_no hc] at h; simp at h
theorem gOf_in (r : ReqM) (u : Int) : 0 ≤ gOf r u ∧ gOf r u ≤ 100000 := by
  unfold gOf
  cases h : itemAt r u with
  | none => simp
  | some x => have := item_g (itemAt_ok h); dsimp only; omega
theorem gram_take {r : ReqM} {us : List Int} {k : Nat} {u : Int} (hb : us[k]? = some u) : gramM r (us.take (k + 1)) = gramM r (us.take k) + gOf r u := by
  simp [gramM, List.take_add_one, hb, List.sum_append]
theorem gram_in (r : ReqM) : ∀ us : List Int, 0 ≤ gramM r us ∧ gramM r us ≤ 100000 * us.length
  | [] => by simp [gramM]
  | u :: us => by
    have h1 := gram_in r us
    have h2 := gOf_in r u
    simp only [gramM, List.map_cons, List.sum_cons, List.length_cons] at *
    omega
def gSum (l : List ItemM) : Int := (l.map ItemM.g).sum
theorem gSum_take {l : List ItemM} {k : Nat} {b : ItemM} (h : l[k]? = some b) : gSum (l.take (k + 1)) = gSum (l.take k) + b.g := by
  simp [gSum, List.take_add_one, h, List.sum_append]
theorem gSum_items (r : ReqM) : ∀ us : List Int, gSum (itemsM r us) = gramM r us
  | [] => rfl
  | u :: us => by
    have h1 := gSum_items r us
    simp only [itemsM, gramM, gSum, List.filterMap_cons, List.map_cons, List.sum_cons] at *
    cases h : itemAt r u with
    | none => simp only [gOf, h]; omega
    | some x => simp only [gOf, h, List.map_cons, List.sum_cons]; omega
theorem gSum_in : ∀ {l : List ItemM}, (∀ x ∈ l, itemOkM x = true) → 0 ≤ gSum l ∧ gSum l ≤ 100000 * l.length
  | [], _ => by simp [gSum]
  | x :: l, h => by
    have h1 := gSum_in (fun y hy => h y (List.mem_cons_of_mem _ hy))
    have h2 := item_g (h x (List.mem_cons_self))
    simp only [gSum, List.map_cons, List.sum_cons, List.length_cons] at *
    omega
theorem items_ok {r : ReqM} {us : List Int} : ∀ x ∈ itemsM r us, itemOkM x = true := by
  intro x hx
  obtain ⟨u, _, hu⟩ := List.mem_filterMap.1 hx
  exact itemAt_ok hu
theorem itemsOf_any {r : ReqM} {pv tv iv uv : Value} {us : List Int} (w : World) (h : Rd w pv 2 (r.pairs.map PairM.cells)) (h2 : Rd w tv 7 (r.types.map TypeM.cells)) (h3 : Rd w iv 7 (r.items.map ItemM.cells)) (h4 : Rd w uv 1 (us.map icell)) (hul : us.length ≤ 1048576) :
    Fn Tryz.prog 88 [.agg (r.cells pv tv iv).toArray, uv] w (fun v : Value => v.oneCell' = true) (fun v => v) (fun v => [.row v 111 7 ((itemsM r us).map ItemM.cells)]) := by
  have hle3 := h3.le_map
  have hul2 : (us.map icell).length = us.length := by simp
  have hun := unitsM_len r
  have hun2 : ((unitsM r).map ncell).length = (unitsM r).length := by simp
  refine Fn.of (n := 36) Tryz.func88 rfl rfl ?_; refine zaJ (fun bk2 _ => ?_); refine zfN ?_; refine zd2 ?_; rintro vu hvu; try dsimp only
  refine zaB ?_; refine zaW (fun vl _ => ?_); refine zcY ?_; refine zeO ?_; refine G.loopK (ι := Nat × Value) (ks := [2, 5, 12, 13]) (fun x => [(6, x.2), (14, .int .i64 (x.1 : Int))]) (fun x => [.row x.2 111 7 ((itemsM r (us.take x.1)).map ItemM.cells)]) (fun x => x.1 ≤ us.length) (fun x => us.length - x.1) (0, vl) (.cons rfl (.cons rfl (.cons rfl (.cons rfl (.nil))))) rfl ?_ ?_ ?_
  exact Nat.zero_le _
  exact ⟨rfl, rfl, trivial⟩
  rintro ⟨k, v⟩ hk
  dsimp only at hk ⊢
  have hil := items_len r (us.take k)
  have hil2 : ((itemsM r (us.take k)).map ItemM.cells).length = (itemsM r (us.take k)).length := by simp
  rw [List.length_take] at hil
  by_cases hlt : k < us.length
  case' pos => (obtain ⟨u, hb⟩ := get_of_lt hlt; have e1 := get_map hb icell)
  all_goals
   refine zbo ?_; refine G.cond rfl (fun hc => ?_) (fun hc => ?_)
   · all_goals
      replace hc := of_decide_eq_true hc
      try (exfalso; omega)
      all_goals
       refine zdo ?_; refine ze7 ?_; refine zdn ?_; refine zcP ?_; refine zcK ?_; refine zaZ (fun _ _ => ?_); refine za1 ?_; refine G.cond rfl (fun hc => ?_) (fun hc => ?_)
       · all_goals
          all_goals
           obtain ⟨m, i, x, rfl, e2, e3, hit⟩ := item_in hc
           all_goals
            refine G.frontR0 v rfl ?_; refine G.drawD1 [11] rfl ?_; refine zd1 ?_; refine GE.q2 1 rfl za rfl (qg_runs (rv_field rfl)) zn rfl ?_; refine GE.q2 2 rfl za rfl (qg_runs (rv_load1 1 rfl rfl rfl)) zn rfl ?_; refine GE.q2 3 rfl za rfl (qg_runs (rv_move rfl)) zn rfl ?_; refine GE.ol 4 za rfl rfl (og_runs (rv_move rfl)) rfl zk (fun _ _ => ?_); refine GE.ol 5 za rfl rfl (og_runs (rv_indexH rfl rfl zi rfl zK)) rfl zk (fun _ _ => ?_); refine GE.ol 6 za rfl rfl (og_runs (rv_loadE rfl zi zK rfl)) rfl zk (fun _ _ => ?_); refine GE.ol 7 za rfl rfl (og_runs (rv_indexH rfl rfl zb rfl zag)) rfl zk (fun _ _ => ?_); refine GE.ol 8 za rfl rfl (og_runs (rv_loadEW rfl zb zag rfl)) rfl zk (fun _ _ => ?_)
            refine GE.ol 9 za rfl rfl (og_lit rfl (.cons rfl .nil) rfl rfl rfl rfl rfl rfl) rfl zh (fun vx _ => ?_); refine GE.ol 10 za rfl rfl (og_app1 rfl rfl rfl ze rfl rfl zg zg) rfl zh (fun va _ => ?_); refine GE.t 11 za rfl rfl rfl (og_runs (rv_assign rfl)) rfl (fun _ _ => ?_); refine zcw ?_; refine zaO ?_; refine G.backK (k + 1, va) 1 (by exact one_eq (congrArg (fun z => Ch.row va 111 7 z) (items_yes hb hit))) (.cons rfl (.cons rfl (.cons rfl (.cons rfl (.nil))))) (⟨rfl, rfl, trivial⟩) ?_ ?_
            exact hlt
            dsimp only; omega
       · all_goals
          all_goals
           have hno := item_out zr
           all_goals
            refine G.skip ?_; refine zaO ?_; refine G.backK (k + 1, v) 0 (by exact one_eq (congrArg (fun z => Ch.row v 111 7 z) (items_no hb hno))) (.cons rfl (.cons rfl (.cons rfl (.cons rfl (.nil))))) (⟨rfl, rfl, trivial⟩) ?_ ?_
            exact hlt
            dsimp only; omega
   · all_goals
      replace hc := of_decide_eq_false hc
      try (exfalso; omega)
      all_goals
       refine zce ?_; refine G.know (fun w hw => (Rd.owned 0 rfl w hw).one_) (fun hone => G.retF v hone rfl rfl rfl (fun w hw => by rw [take_all (l := us) zc] at hw; exact hw.sublist (by repeat (first | exact List.Sublist.refl _ | refine List.Sublist.cons_cons _ ?_ | refine List.Sublist.cons _ ?_))))
theorem gramOf_any {r : ReqM} {pv tv iv uv : Value} {us : List Int} (w : World) (h : Rd w pv 2 (r.pairs.map PairM.cells)) (h2 : Rd w tv 7 (r.types.map TypeM.cells)) (h3 : Rd w iv 7 (r.items.map ItemM.cells)) (h4 : Rd w uv 1 (us.map icell)) (hul : us.length ≤ 1048576) :
    FnV Tryz.prog 32 [.agg (r.cells pv tv iv).toArray, uv] w (.int .i64 (gramM r us)) := by
  have hil := items_len r us
  have hil2 : ((itemsM r us).map ItemM.cells).length = (itemsM r us).length := by simp
  refine FnV.of (n := 22) Tryz.func32 rfl rfl ?_; refine zaJ (fun bk2 _ => ?_); refine zaB ?_; refine zaG ?_; refine G.seq ?_; refine zaU ?_; refine zcW ?_; rintro vs hvs; try dsimp only
  refine zcI ?_; refine zbt ?_; refine G.loopK (ι := Nat) (ks := [10, 11]) (fun k => [(5, .int .i64 (gSum ((itemsM r us).take k))), (12, .int .i64 k)]) (fun _ => []) (fun k => k ≤ (itemsM r us).length) (fun k => (itemsM r us).length - k) 0 (.cons rfl (.cons rfl (.nil))) rfl ?_ ?_ ?_
  exact Nat.zero_le _
  exact ⟨rfl, rfl, trivial⟩
  rintro k hk
  have hgi := gSum_in (l := (itemsM r us).take k) (fun x hx => items_ok x (List.mem_of_mem_take hx))
  rw [List.length_take, Nat.min_eq_left hk] at hgi
  by_cases hlt : k < (itemsM r us).length
  case' pos => (obtain ⟨b, hb⟩ := get_of_lt hlt; have he := get_map hb ItemM.cells; have hbg := item_g (items_ok b (List.mem_of_getElem? hb)); have hgt := gSum_take hb)
  all_goals
   refine zbo ?_; refine G.cond rfl (fun hc => ?_) (fun hc => ?_)
   · all_goals
      replace hc := of_decide_eq_true hc
      try (exfalso; omega)
      all_goals
       refine zdo ?_; refine G.v (rv_indexH rfl rfl ze rfl zf) rfl ?_; refine G.v (rv_loadEW rfl ze zf rfl) rfl ?_; refine zbn (fun bk7 _ => ?_); refine zaN (fun _ _ => ?_); refine za1 ?_; refine zbi ?_; refine zaK ?_; refine zbT ?_; refine za0 ?_; refine zaO ?_; refine G.backK (k + 1) 1 rfl (.cons rfl (.cons rfl (.nil))) ?_ ?_ ?_
       exact ⟨congrArg (fun z => some (Value.int .i64 z)) hgt.symm, rfl, trivial⟩
       exact hlt
       omega
   · all_goals
      replace hc := of_decide_eq_false hc
      try (exfalso; omega)
      all_goals
       refine zce ?_
       exact G.retFV rfl rfl (congrArg (Value.int .i64) (by rw [take_all zc]; exact gSum_items r us))
def itemOr (r : ReqM) (u : Int) : ItemM := (itemAt r u).getD itemZ
theorem itemOr_g (r : ReqM) (u : Int) : (itemOr r u).g = gOf r u := by
  rw [itemOr, gOf]; cases itemAt r u <;> rfl
theorem l6Item_any {r : ReqM} {pv tv iv uv : Value} (u : Int) (w : World) (h3 : Rd w iv 7 (r.items.map ItemM.cells)) (h4 : Rd w uv 1 ((unitsM r).map ncell)) :
    FnV Tryz.prog 196 [.agg (r.cells pv tv iv).toArray, uv, .int .i64 u] w (.tuple #[(itemOr r u).val, .bool (itemAt r u).isSome]) := by
  have hun := unitsM_len r
  have hun2 : ((unitsM r).map ncell).length = (unitsM r).length := by simp
  refine FnV.of (n := 23) Tryz.func196 rfl rfl ?_; refine zaJ (fun bk3 _ => ?_); refine zbn (fun bk6 _ => ?_); refine zba ?_; refine zaM ?_; refine zaX ?_; refine zcK ?_; refine za8 (fun _ _ => ?_); refine zcl ?_; refine G.cond rfl (fun hc => ?_) (fun hc => ?_)
  have hno := item_out (r := r) (u := u) zr
  refine zdk ?_; refine zaN (fun _ _ => ?_); refine zcf ?_; refine G.thenR ?_
  rw [itemOr, hno]; exact G.retVL rfl (.cons zaa (.cons (.tmp rfl) .nil)) rfl
  obtain ⟨m, i, x, rfl, e2, e3, hit⟩ := item_in (r := r) (u := u) zr
  refine zbR ?_; refine G.seq (G.drawL [8, 9] ?_); refine zct ?_; refine zc7 ?_; refine GE.ol 3 za rfl rfl (og_runs (rv_move rfl)) rfl zd (fun _ _ => ?_); refine GE.ol 4 za rfl rfl (og_runs (rv_indexH rfl rfl zb rfl zK)) rfl zd (fun _ _ => ?_); refine GE.ol 5 za rfl rfl (og_runs (rv_loadE rfl zb zK rfl)) rfl zd (fun _ _ => ?_); refine GE.ol 6 za rfl rfl (og_runs (rv_indexH rfl rfl zb rfl zag)) rfl zd (fun _ _ => ?_); refine GE.ol 7 za rfl rfl (og_runs (rv_loadEW rfl zb zag rfl)) rfl zd (fun _ _ => ?_); refine GE.t0 8 za rfl rfl rfl (og_st0 rfl rfl rfl rfl rfl rfl (.zero (.cons (.cons (.cons (.cons (.cons (.cons (.cons .nil))))))))) (fun _ _ => ?_); refine GE.t 9 za rfl rfl rfl (og_runs (rv_assign rfl)) rfl (fun _ _ => ?_)
  refine zbj ?_; refine G.ret ?_
  rw [itemOr, hit]; exact G.retVL rfl (.cons zaa (.cons (.tmp rfl) .nil)) rfl
theorem sgramOf_any {r : ReqM} {pv tv iv uv : Value} {us : List Int} (w : World) (h : Rd w pv 2 (r.pairs.map PairM.cells)) (h2 : Rd w tv 7 (r.types.map TypeM.cells)) (h3 : Rd w iv 7 (r.items.map ItemM.cells)) (h4 : Rd w uv 1 (us.map icell)) (hul : us.length ≤ 1048576) :
    FnV Tryz.prog 153 [.agg (r.cells pv tv iv).toArray, uv] w (.int .i64 (gramM r us)) := by
  have hul2 : (us.map icell).length = us.length := by simp
  refine FnV.of (n := 33) Tryz.func153 rfl rfl ?_; refine zaJ (fun bk2 _ => ?_); refine zfN ?_; refine G.op (og_callF1 rfl rfl (fun w hh => sunits_any (r := r) w (Rd.stays h _ hh) (Rd.stays h2 _ hh) (Rd.stays h3 _ hh))) rfl ?_; rintro vu hvu; try dsimp only
  refine zaB ?_; refine zdi ?_; refine G.loopK (ι := Nat) (ks := [1, 2, 5]) (fun k => [(6, .int .i64 (gramM r (us.take k))), (7, .int .i64 k)]) (fun _ => []) (fun k => k ≤ us.length) (fun k => us.length - k) 0 (.cons rfl (.cons rfl (.cons rfl (.nil)))) rfl ?_ ?_ ?_
  exact Nat.zero_le _
  exact ⟨rfl, rfl, trivial⟩
  rintro k hk
  have hgi := gram_in r (us.take k)
  rw [List.length_take, Nat.min_eq_left hk] at hgi
  by_cases hlt : k < us.length
  case' pos => (obtain ⟨u, hb⟩ := get_of_lt hlt; have e1 := get_map hb icell; have hbg := gOf_in r u; have hgt := gram_take (r := r) hb; have hog := itemOr_g r u)
  all_goals
   refine zbv ?_; refine G.cond rfl (fun hc => ?_) (fun hc => ?_)
   · all_goals
      replace hc := of_decide_eq_true hc
      try (exfalso; omega)
      all_goals
       refine zaQ ?_; refine G.seq (G.drawL [12] ?_); refine GE.q 0 rfl za rfl (qg_runs (rv_loadW 1 rfl rfl rfl)) rfl ?_; refine zcU ?_; refine zc7 ?_; refine zbN ?_; refine GE.q 4 rfl za rfl (qg_runs (rv_indexH rfl rfl zb rfl zf)) rfl ?_; refine GE.q 5 rfl za rfl (qg_runs (rv_loadE rfl zb zf rfl)) rfl ?_; refine GE.q 6 rfl za rfl (qg_call rfl rfl (fun w hh => l6Item_any (r := r) u w (Rd.stays h3 _ hh) zF)) rfl ?_; refine zcq (fun bk8 _ => ?_)
       refine zdI (fun _ _ => ?_); refine zc9 (fun _ _ => ?_); refine zbj ?_; refine zbi ?_; refine zaK ?_; refine zbT ?_; refine zeC ?_; refine G.backK (k + 1) 1 rfl (.cons rfl (.cons rfl (.cons rfl (.nil)))) ?_ ?_ ?_
       exact ⟨congrArg (fun z => some (Value.int .i64 z)) (by rw [hgt, ← hog]), rfl, trivial⟩
       exact hlt
       omega
   · all_goals
      replace hc := of_decide_eq_false hc
      try (exfalso; omega)
      all_goals
       refine zce ?_
       exact G.retFV rfl rfl (congrArg (Value.int .i64) (by rw [take_all zc]))
end Go.Proofs.YtglpgohilfoecaaGreat

/-
  The arguments of a law, opened: what can be read as data reads as lists of cells.
-/
namespace Go.Proofs.YtglpgohilfoecaaGreat
open Go.RowKit Go.ChangeShapes Go.WideShapes Go.Deep

section
variable {H : Type} {enc : TypeId × Value → H} {P : Program} {w : World} {base : Nat} {spare : Nat → Bool} {held : Bool}

/-- The cells of a struct whose fields have one cell each. -/
theorem struct_cells {t : TypeId} {fs : Array Field} {fuel : Nat} {cs : List Value} {x : DataW H × List MemPlace} (hs : P.underlying t = some (.struct fs)) (hone : oneCellFields P fs = true) (hC : P.cellsOf t = fs.size) (h : DataW.trod enc P w base spare held fuel t cs = some x) :
    cs.length = fs.size ∧ ∀ (i : Nat) (f : Field), fs[i]? = some f → ∃ v y n, cs[i]? = some v ∧ DataW.trod enc P w base spare held n f.type [v] = some y := by
  obtain ⟨xs, n, _, _, hl, hxl, hg⟩ := DataW.trod_struct hs h
  rw [hC] at hl
  refine ⟨hl, fun i f hf => ?_⟩
  obtain ⟨ho, hk⟩ := hone_of hone i f hf
  have hi : i < fs.size := (Array.getElem?_eq_some_iff.1 hf).1
  have h1 := hg i f hf
  rw [ho, hk] at h1
  have hci : cs[i]? = some (cs[i]'zc) := List.getElem?_eq_getElem zc
  have hd : (cs.drop i).take 1 = [cs[i]'zc] := by
    rw [List.drop_eq_getElem_cons zc]; rfl
  rw [hd] at h1
  have hx : xs[i]? = some (xs[i]'zc) := List.getElem?_eq_getElem zc
  exact ⟨_, _, n, hci, h1.trans hx⟩

theorem trod_int64 {t : TypeId} {fuel : Nat} {v : Value} {x : DataW H × List MemPlace} (ht : P.underlying t = some (.int .i64)) (h : DataW.trod enc P w base spare held fuel t [v] = some x) : ∃ z : Int, v = .int .i64 z ∧ -9223372036854775808 ≤ z ∧ z ≤ 9223372036854775807 := by
  obtain ⟨n, h1, _, h3⟩ := DataW.trod_int ht h
  simp only [List.cons.injEq, and_true] at h1
  refine ⟨n, h1, ?_⟩
  simp [Lit.wf, IntKind.min, IntKind.max, IntKind.signed, IntKind.bits] at h3
  omega

/-- Every element reads: then the slice reads as a list. -/
theorem open_rdQ {α : Type} (mk : α → List Value) (Q : α → Prop) {s : Nat} {t e : TypeId} {fuel : Nat} {v : Value} {x : DataW H × List MemPlace} (ht : P.underlying t = some (.slice e)) (hC : P.cellsOf e = s) (hs : 0 < s)
    (hel : ∀ n cs y, DataW.trod enc P w base spare held n e cs = some y → ∃ b : α, cs = mk b ∧ Q b) (hg : ∀ b, Q b → (mk b).length = s ∧ ∀ u ∈ mk b, u.oneCell' = true)
    (h : DataW.trod enc P w base spare held fuel t [v] = some x) : ∃ bs : List α, Rd w v s (bs.map mk) ∧ ∀ b ∈ bs, Q b := by
  rcases open_slice ht h with ⟨h0, _⟩ | ⟨a, len, cap, m, n, D, Pl, h0, hb, hl, hm, hmm, hx, hi⟩
  · simp only [List.cons.injEq, and_true] at h0
    subst h0
    exact ⟨[], Rd.nil_ w s, by simp⟩
  · simp only [List.cons.injEq, and_true] at h0
    subst h0
    have hlm : len ≤ m := by rw [hmm]; split <;> omega
    have hb : ∀ i, i < len → ∃ b : α, Q b ∧ ∀ j u, (mk b)[j]? = some u → w.cell? (a.add (i * s + j)) = some u := by
      intro i hil
      obtain ⟨cs', h1, h2⟩ := hi i zc
      obtain ⟨b, rfl, hq⟩ := hel _ _ _ h2
      obtain ⟨_, hcl, hat⟩ := World.cells?_some h1
      rw [hC] at hat
      refine ⟨b, hq, fun j u hj => ?_⟩
      have hjl : j < s := by
        have := (hg b hq).1
        rcases Nat.lt_or_ge j (mk b).length with h | h
        · omega
        · rw [List.getElem?_eq_none h] at hj; cases hj
      have := hat j hjl
      rw [hj] at this
      rw [← Go.Deep.add_add]; exact this
    have hall : ∀ k, k ≤ len → ∃ bs : List α, bs.length = k ∧ (∀ b ∈ bs, Q b) ∧ ∀ i b, bs[i]? = some b → ∀ j u, (mk b)[j]? = some u → w.cell? (a.add (i * s + j)) = some u := by
      intro k
      induction k with
      | zero => intro _; exact ⟨[], rfl, by simp, by simp⟩
      | succ k ih =>
        intro hk
        obtain ⟨bs, hbl, hQ, hbs⟩ := ih zc
        obtain ⟨b, hq, hb'⟩ := hb k zc
        refine ⟨bs ++ [b], by simp [hbl], fun x hx => (by rcases List.mem_append.1 hx with hx | hx; · exact hQ x hx
                                                          · rw [List.mem_singleton.1 hx]; exact hq), fun i b' hib => ?_⟩
        rcases Nat.lt_or_ge i bs.length with hlt | hge
        · rw [List.getElem?_append_left hlt] at hib; exact hbs i b' hib
        · rw [List.getElem?_append_right hge] at hib
          have : i - bs.length = 0 := by
            rcases Nat.eq_zero_or_pos (i - bs.length) with h | h
            · exact h
            · rw [List.getElem?_eq_none zac] at hib; cases hib
          rw [this] at hib
          simp only [List.getElem?_cons_zero, Option.some.injEq] at hib
          subst hib
          have : i = k := by omega
          subst this
          exact hb'
    obtain ⟨bs, hbl, hQ, hbs⟩ := hall len (Nat.le_refl _)
    have hgood : ∀ e ∈ bs.map mk, e.length = s ∧ ∀ u ∈ e, u.oneCell' = true := by
      intro e he
      obtain ⟨b, hbm, rfl⟩ := List.mem_map.1 he
      exact hg b (hQ b hbm)
    have hsp : 0 < len → ∃ b o, a = ⟨b, o, none⟩ := by
      intro hpos
      have hb0 : 0 < bs.length := by omega
      have h0 : bs[0]? = some (bs[0]'hb0) := List.getElem?_eq_getElem hb0
      have hm0 : (mk (bs[0]'hb0))[0]? = some ((mk (bs[0]'hb0))[0]'(by have := (hg (bs[0]'hb0) (hQ _ (List.getElem_mem hb0))).1; omega)) := List.getElem?_eq_getElem _
      have := hbs 0 _ h0 0 _ hm0
      obtain ⟨ab, ao, asp⟩ := a
      cases asp with
      | none => exact ⟨ab, ao, rfl⟩
      | some q =>
        simp [World.cell?, Addr.add] at this
        split at this <;> cases this
    refine ⟨bs, ⟨⟨some a, cap, by simp [hbl], by simpa [hbl] using hl, hm, fun hpos => ?_⟩, hgood, ?_⟩, hQ⟩
    · obtain ⟨b, o, rfl⟩ := hsp (by simpa [hbl] using hpos)
      exact ⟨b, o, rfl⟩
    · intro j u hj
      have hlen := flatten_len (es := bs.map mk) (fun e he => (hgood e he).1)
      have hjl : j < bs.length * s := by
        rcases Nat.lt_or_ge j ((bs.map mk).flatten.length) with h | h
        · rw [hlen] at h; simpa using h
        · rw [List.getElem?_eq_none h] at hj; cases hj
      have hpos : 0 < len := by
        rcases Nat.eq_zero_or_pos bs.length with h | h
        · rw [h] at hjl; omega
        · omega
      obtain ⟨b, o, rfl⟩ := hsp hpos
      have hk : j / s < bs.length := (Nat.div_lt_iff_lt_mul hs).2 hjl
      have hbk : bs[j / s]? = some (bs[j / s]'hk) := List.getElem?_eq_getElem hk
      have hc : j % s < (mk (bs[j / s]'hk)).length := by rw [(hg _ (hQ _ (List.getElem_mem hk))).1]; exact Nat.mod_lt _ hs
      have hck := List.getElem?_eq_getElem hc
      have h1 := hbs _ _ hbk _ _ hck
      have h2 := flatten_get (fun e he => (hgood e he).1) (k := j / s) (by rw [List.getElem?_map, hbk]; rfl) hck
      rw [show j / s * s + j % s = j from by rw [Nat.mul_comm]; exact Nat.div_add_mod j s] at h1 h2
      rw [h2] at hj
      simp only [Option.some.injEq] at hj
      subst hj
      simpa [blkOf, offOf, Addr.add_lit] using h1

theorem open_rd {α : Type} (mk : α → List Value) {s : Nat} {t e : TypeId} {fuel : Nat} {v : Value} {x : DataW H × List MemPlace} (ht : P.underlying t = some (.slice e)) (hC : P.cellsOf e = s) (hs : 0 < s)
    (hel : ∀ n cs y, DataW.trod enc P w base spare held n e cs = some y → ∃ b : α, cs = mk b) (hg : ∀ b, (mk b).length = s ∧ ∀ u ∈ mk b, u.oneCell' = true)
    (h : DataW.trod enc P w base spare held fuel t [v] = some x) : ∃ bs : List α, Rd w v s (bs.map mk) := by
  obtain ⟨bs, hb, _⟩ := open_rdQ mk (fun _ => True) ht hC hs (fun n cs y hy => by obtain ⟨b, hb⟩ := hel n cs y hy; exact ⟨b, hb, trivial⟩) (fun b _ => hg b) h
  exact ⟨bs, hb⟩

section
variable {t ti e t3 : TypeId} {fs : Array Field} {fuel : Nat} {cs : List Value} {x : DataW H × List MemPlace}
end
/-- All fields are int64. -/
def intsB (P : Program) (t : TypeId) (n : Nat) : Bool :=
  match P.underlying t with
  | some (.struct fs) => fs.size == n && oneCellFields P fs && P.cellsOf t == n && fs.toList.all fun f => match P.underlying f.type with | some (.int .i64) => true | _ => false
  | _ => false

theorem flat_ints {t : TypeId} {n : Nat} {fuel : Nat} {cs : List Value} {x : DataW H × List MemPlace} (hB : intsB P t n = true) (h : DataW.trod enc P w base spare held fuel t cs = some x) : ∃ zs : List Int, zs.length = n ∧ cs = zs.map (Value.int .i64) := by
  unfold intsB at hB
  split at hB
  · rename_i fs hs
    simp only [Bool.and_eq_true, beq_iff_eq, List.all_eq_true] at hB
    obtain ⟨⟨⟨h1, h2⟩, h3⟩, h4⟩ := hB
    obtain ⟨hl, hg⟩ := struct_cells hs h2 (h3.trans h1.symm) h
    have hall : ∀ i (hi : i < cs.length), ∃ z, cs[i] = Value.int .i64 z := by
      intro i hi
      have hf : fs[i]? = some (fs[i]'zc) := Array.getElem?_eq_getElem zc
      obtain ⟨v, y, m, hc, ht⟩ := hg i _ hf
      have hu := h4 (fs[i]'zc) (Array.getElem_mem_toList _)
      split at hu
      · rename_i hu'
        obtain ⟨z, hz, _⟩ := trod_int64 hu' ht
        rw [List.getElem?_eq_getElem hi] at hc
        simp only [Option.some.injEq] at hc
        exact ⟨z, hc.trans hz⟩
      · cases hu
    clear hg h
    have : ∃ zs : List Int, cs = zs.map (Value.int .i64) := by
      clear hl h1 h2 h3 h4
      induction cs with
      | nil => exact ⟨[], rfl⟩
      | cons c r ih =>
        obtain ⟨z, hz⟩ := hall 0 zC
        obtain ⟨zs, hzs⟩ := ih (fun i hi => hall (i + 1) (by simpa using hi))
        refine ⟨z :: zs, ?_⟩
        simp only [List.getElem_cons_zero] at hz
        rw [hz, hzs]; rfl
    obtain ⟨zs, hzs⟩ := this
    exact ⟨zs, by rw [hzs] at hl; simp at hl; omega, hzs⟩
  · cases hB

theorem flat_ints4 {t : TypeId} {fuel : Nat} {cs : List Value} {x : DataW H × List MemPlace} (hB : intsB P t 4 = true) (h : DataW.trod enc P w base spare held fuel t cs = some x) : ∃ a b c d : Int, cs = [.int .i64 a, .int .i64 b, .int .i64 c, .int .i64 d] := by
  obtain ⟨zs, hl, rfl⟩ := flat_ints hB h
  match zs, hl with
  | [a, b, c, d], _ => exact ⟨a, b, c, d, rfl⟩
theorem flat_ints2 {t : TypeId} {fuel : Nat} {cs : List Value} {x : DataW H × List MemPlace} (hB : intsB P t 2 = true) (h : DataW.trod enc P w base spare held fuel t cs = some x) : ∃ a b : Int, cs = [.int .i64 a, .int .i64 b] := by
  obtain ⟨zs, hl, rfl⟩ := flat_ints hB h
  match zs, hl with
  | [a, b], _ => exact ⟨a, b, rfl⟩
theorem flat_ints7 {t : TypeId} {fuel : Nat} {cs : List Value} {x : DataW H × List MemPlace} (hB : intsB P t 7 = true) (h : DataW.trod enc P w base spare held fuel t cs = some x) : ∃ a b c d e f g : Int, cs = [.int .i64 a, .int .i64 b, .int .i64 c, .int .i64 d, .int .i64 e, .int .i64 f, .int .i64 g] := by
  obtain ⟨zs, hl, rfl⟩ := flat_ints hB h
  match zs, hl with
  | [a, b, c, d, e, f, g], _ => exact ⟨a, b, c, d, e, f, g, rfl⟩

/-- A struct by value. -/
theorem open_val {r : Reach} {b0 : Nat} {t : TypeId} {v : Value} {d : DataW H} {p : List MemPlace} {fs : Array Field} (hs : P.underlying t = some (.struct fs)) (hv : Value.okWide P w r b0 t v) (h : DataW.Trod enc P w base spare held t v d p) :
    ∃ (cs : List Value) (fuel : Nat), v = .agg cs.toArray ∧ DataW.trod enc P w base spare held fuel t cs = some (d, p) := by
  obtain ⟨cs, rfl, _⟩ := okWide_struct hs hv
  obtain ⟨fuel, hf⟩ := h
  exact ⟨cs.toList, fuel, by simp, hf⟩
end
section
variable {H : Type} {enc : TypeId × Value → H} {P : Program} {w : World} {base : Nat} {spare : Nat → Bool} {held : Bool}
theorem fields_at {t : TypeId} {fs : Array Field} {ts : List (TypeId × Nat × Nat)} {m : Nat} {fuel : Nat} {cs : List Value} {x : DataW H × List MemPlace} (hs : P.underlying t = some (.struct fs)) (hC : P.cellsOf t = m) (hT : fs.toList.map (fun f => (f.type, f.offset, P.cellsOf f.type)) = ts)
    (h : DataW.trod enc P w base spare held fuel t cs = some x) : cs.length = m ∧ ∀ (i : Nat) (τ : TypeId) (o k : Nat), ts[i]? = some (τ, o, k) → ∃ y n, DataW.trod enc P w base spare held n τ ((cs.drop o).take k) = some y := by
  obtain ⟨xs, n, _, _, hl, hxl, hg⟩ := DataW.trod_struct hs h
  subst hT
  refine ⟨hl.trans hC, fun i τ o k hi => ?_⟩
  rw [List.getElem?_map] at hi
  cases hf : fs.toList[i]? with
  | none => rw [hf] at hi; cases hi
  | some f =>
    rw [hf] at hi
    simp only [Option.map_some, Option.some.injEq, Prod.mk.injEq] at hi
    obtain ⟨rfl, rfl, rfl⟩ := hi
    have hf' : fs[i]? = some f := by simpa using hf
    have hix : i < xs.length := by rw [hxl]; exact (Array.getElem?_eq_some_iff.1 hf').1
    exact ⟨_, n, (hg i f hf').trans (List.getElem?_eq_getElem hix)⟩
theorem flat_req {t t3 tp tpv ttv tiv : TypeId} {fs : Array Field} {fuel : Nat} {cs : List Value} {x : DataW H × List MemPlace} (hs : P.underlying t = some (.struct fs)) (hC : P.cellsOf t = 10)
    (hT : fs.toList.map (fun f => (f.type, f.offset, P.cellsOf f.type)) = [(t3, 0, 1), (tp, 1, 4), (t3, 5, 1), (tpv, 6, 1), (ttv, 7, 1), (t3, 8, 1), (tiv, 9, 1)]) (h3 : P.underlying t3 = some (.int .i64)) (hp : intsB P tp 4 = true)
    (h : DataW.trod enc P w base spare held fuel t cs = some x) : ∃ (way : Int) (a b c d : Int) (classes : Int) (pv tv : Value) (master : Int) (iv : Value), cs = [.int .i64 way, .int .i64 a, .int .i64 b, .int .i64 c, .int .i64 d, .int .i64 classes, pv, tv, .int .i64 master, iv] ∧
      (∃ n y, DataW.trod enc P w base spare held n tpv [pv] = some y) ∧ (∃ n y, DataW.trod enc P w base spare held n ttv [tv] = some y) ∧ ∃ n y, DataW.trod enc P w base spare held n tiv [iv] = some y := by
  obtain ⟨hl, hg⟩ := fields_at hs hC hT h
  match cs, hl with
  | [c0, c1, c2, c3, c4, c5, c6, c7, c8, c9], _ =>
    obtain ⟨_, _, k0⟩ := hg 0 _ _ _ rfl
    obtain ⟨_, _, k1⟩ := hg 1 _ _ _ rfl
    obtain ⟨_, _, k2⟩ := hg 2 _ _ _ rfl
    obtain ⟨_, _, k3⟩ := hg 3 _ _ _ rfl
    obtain ⟨_, _, k4⟩ := hg 4 _ _ _ rfl
    obtain ⟨_, _, k5⟩ := hg 5 _ _ _ rfl
    obtain ⟨_, _, k6⟩ := hg 6 _ _ _ rfl
    simp only [List.drop_zero, List.drop_succ_cons, List.take_succ_cons, List.take_zero] at k0 k1 k2 k3 k4 k5 k6
    obtain ⟨z0, rfl, _⟩ := trod_int64 h3 k0
    obtain ⟨a, b, c, d, e⟩ := flat_ints4 hp k1
    simp only [List.cons.injEq, and_true] at e
    obtain ⟨rfl, rfl, rfl, rfl⟩ := e
    obtain ⟨z2, rfl, _⟩ := trod_int64 h3 k2
    obtain ⟨z5, rfl, _⟩ := trod_int64 h3 k5
    exact ⟨_, _, _, _, _, _, _, _, _, _, rfl, ⟨_, _, k3⟩, ⟨_, _, k4⟩, ⟨_, _, k6⟩⟩
end
end Go.Proofs.YtglpgohilfoecaaGreat

/-
  An order that is marked by numbers that go up.
-/
namespace Go.Proofs.YtglpgohilfoecaaGreat
open Go.RowKit
attribute [local irreducible] Go.wpList Go.Code.wp Go.Exit.then Go.Exit.inBlock Go.bodyPost Go.Calls pE pB G RunsV FnV Fn FnM
set_option maxRecDepth 100000
set_option maxHeartbeats 1000000
def mkPairM (k : Int) (_ : PairM) : PairM := ⟨k, k + 1⟩
def cntPairM (_ : PairM) : Nat := 2
theorem markPairS_any {w0 : World} {v : Value} {l : List PairM} {k : Int} (hk : 0 ≤ k) (hb : k + cntG cntPairM l ≤ 4611686018427387904) :
    FnM Tryz.prog 62 [v, .int .i64 k] w0 [.row v 138 2 (l.map PairM.cells)] (fun _ : Unit => True) (fun _ => .int .i64 (k + cntG cntPairM l)) (fun _ => [.row v 138 2 ((markG mkPairM cntPairM k l).map PairM.cells)]) := by
  refine FnM.of (n := 27) Tryz.func62 rfl rfl (fun F => ?_); refine zeB (fun hle => ?_); refine zdi ?_; refine G.loopK (ι := Nat) (ks := [0]) (fun i => [(1, .int .i64 (k + cntG cntPairM (l.take i))), (5, .int .i64 i)]) (fun i => [.row v 138 2 ((mixG mkPairM cntPairM k i l).map PairM.cells)]) (fun i => i ≤ l.length) (fun i => l.length - i) 0 (.cons rfl (.nil)) rfl ?_ ?_ ?_
  exact Nat.zero_le _
  exact ⟨congrArg (fun z => some (Value.int .i64 z)) (by simp [cntG]), rfl, trivial⟩
  rintro i hi
  have hml : (mixG mkPairM cntPairM k i l).length = l.length := mix_len
  have hcl : cntG cntPairM (l.take (i + 1)) ≤ cntG cntPairM l := cnt_le _
  by_cases hlt : i < l.length
  case' pos => (obtain ⟨x, hx⟩ := get_of_lt hlt; have he := get_map (mix_get (mk := mkPairM) (cnt := cntPairM) (k := k) hx) PairM.cells; have hcn : cntG cntPairM (l.take (i + 1)) = cntG cntPairM (l.take i) + 2 := cnt_next hx)
  case' neg => (have hal : cntG cntPairM (l.take i) = cntG cntPairM l := cnt_all hlt)
  all_goals
   refine zcT ?_; refine zcI ?_; refine zaI ?_; refine G.cond rfl (fun hc => ?_) (fun hc => ?_)
   · all_goals
      replace hc := of_decide_eq_true hc
      simp only [List.length_map, hml] at hc
      try (exfalso; omega)
      all_goals
       refine zaQ ?_; refine zca ?_; refine zcJ (fun _ _ => ?_); refine zbf ?_; refine zcH (fun _ _ => ?_); refine za1 ?_; refine zbi ?_; refine zbT ?_; refine zeC ?_
       refine G.backK (i + 1) 0 (one_eq (congrArg (fun z => Ch.row v 138 2 z) (by rw [List.set_set]; exact mix_map hx))) (.cons rfl (.nil)) ?_ ?_ ?_
       exact ⟨congrArg (fun z => some (Value.int .i64 z)) zc, rfl, trivial⟩
       exact hlt
       omega
   · all_goals
      replace hc := of_decide_eq_false hc
      simp only [List.length_map, hml] at hc
      try (exfalso; omega)
      all_goals
       refine zce ?_
       exact G.retF () trivial rfl rfl (congrArg (Value.int .i64) (by rw [hal])) (fun w hw => by rw [mix_all hlt] at hw; exact hw)
def mkTypeM (k : Int) (_ : TypeM) : TypeM := ⟨k, k + 1, k + 1 + 1, k + 1 + 1 + 1, k + 1 + 1 + 1 + 1, k + 1 + 1 + 1 + 1 + 1, k + 1 + 1 + 1 + 1 + 1 + 1⟩
def cntTypeM (_ : TypeM) : Nat := 7
theorem markTypeS_any {w0 : World} {v : Value} {l : List TypeM} {k : Int} (hk : 0 ≤ k) (hb : k + cntG cntTypeM l ≤ 4611686018427387904) :
    FnM Tryz.prog 63 [v, .int .i64 k] w0 [.row v 56 7 (l.map TypeM.cells)] (fun _ : Unit => True) (fun _ => .int .i64 (k + cntG cntTypeM l)) (fun _ => [.row v 56 7 ((markG mkTypeM cntTypeM k l).map TypeM.cells)]) := by
  refine FnM.of (n := 62) Tryz.func63 rfl rfl (fun F => ?_); refine zeB (fun hle => ?_); refine zdi ?_; refine G.loopK (ι := Nat) (ks := [0]) (fun i => [(1, .int .i64 (k + cntG cntTypeM (l.take i))), (5, .int .i64 i)]) (fun i => [.row v 56 7 ((mixG mkTypeM cntTypeM k i l).map TypeM.cells)]) (fun i => i ≤ l.length) (fun i => l.length - i) 0 (.cons rfl (.nil)) rfl ?_ ?_ ?_
  exact Nat.zero_le _
  exact ⟨congrArg (fun z => some (Value.int .i64 z)) (by simp [cntG]), rfl, trivial⟩
  rintro i hi
  have hml : (mixG mkTypeM cntTypeM k i l).length = l.length := mix_len
  have hcl : cntG cntTypeM (l.take (i + 1)) ≤ cntG cntTypeM l := cnt_le _
  by_cases hlt : i < l.length
  case' pos => (obtain ⟨x, hx⟩ := get_of_lt hlt; have he := get_map (mix_get (mk := mkTypeM) (cnt := cntTypeM) (k := k) hx) TypeM.cells; have hcn : cntG cntTypeM (l.take (i + 1)) = cntG cntTypeM (l.take i) + 7 := cnt_next hx)
  case' neg => (have hal : cntG cntTypeM (l.take i) = cntG cntTypeM l := cnt_all hlt)
  all_goals
   refine zcT ?_; refine zcI ?_; refine zaI ?_; refine G.cond rfl (fun hc => ?_) (fun hc => ?_)
   · all_goals
      replace hc := of_decide_eq_true hc
      simp only [List.length_map, hml] at hc
      try (exfalso; omega)
      all_goals
       refine zaQ ?_; refine zca ?_; refine zcJ (fun _ _ => ?_); refine zbf ?_; refine zcH (fun _ _ => ?_); refine zbf ?_
       refine zdh (fun _ _ => ?_); refine zbf ?_; refine zc8 (fun _ _ => ?_); refine zbf ?_; refine G.v (rv_indexH rfl rfl ze rfl zL) rfl ?_; refine zbq ?_
       refine G.op0 (og_stE0 rfl rfl rfl zL rfl rfl rfl rfl (.succ (.succ (.succ (.succ (.zero (.cons .nil))))))) (fun _ _ => ?_); refine zbf ?_; refine ze9 (fun _ _ => ?_); refine zbf ?_; refine G.v (rv_indexH rfl rfl ze rfl z7) rfl ?_; refine zbq ?_
       refine G.op0 (og_stE0 rfl rfl rfl z7 rfl rfl rfl rfl (.succ (.succ (.succ (.succ (.succ (.succ (.zero (.cons .nil))))))))) (fun _ _ => ?_); refine za1 ?_; refine zbi ?_; refine zbT ?_; refine zeC ?_; refine G.backK (i + 1) 0 (one_eq (congrArg (fun z => Ch.row v 56 7 z) (by rw [List.set_set, List.set_set, List.set_set, List.set_set, List.set_set, List.set_set]; exact mix_map hx))) (.cons rfl (.nil)) ?_ ?_ ?_
       exact ⟨congrArg (fun z => some (Value.int .i64 z)) zc, rfl, trivial⟩
       exact hlt
       omega
   · all_goals
      replace hc := of_decide_eq_false hc
      simp only [List.length_map, hml] at hc
      try (exfalso; omega)
      all_goals
       refine zce ?_
       exact G.retF () trivial rfl rfl (congrArg (Value.int .i64) (by rw [hal])) (fun w hw => by rw [mix_all hlt] at hw; exact hw)
def mkItemM (k : Int) (_ : ItemM) : ItemM := ⟨k, k + 1, k + 1 + 1, k + 1 + 1 + 1, k + 1 + 1 + 1 + 1, k + 1 + 1 + 1 + 1 + 1, k + 1 + 1 + 1 + 1 + 1 + 1⟩
def cntItemM (_ : ItemM) : Nat := 7
theorem markItemS_any {w0 : World} {v : Value} {l : List ItemM} {k : Int} (hk : 0 ≤ k) (hb : k + cntG cntItemM l ≤ 4611686018427387904) :
    FnM Tryz.prog 64 [v, .int .i64 k] w0 [.row v 111 7 (l.map ItemM.cells)] (fun _ : Unit => True) (fun _ => .int .i64 (k + cntG cntItemM l)) (fun _ => [.row v 111 7 ((markG mkItemM cntItemM k l).map ItemM.cells)]) := by
  refine FnM.of (n := 62) Tryz.func64 rfl rfl (fun F => ?_); refine zeB (fun hle => ?_); refine zdi ?_; refine G.loopK (ι := Nat) (ks := [0]) (fun i => [(1, .int .i64 (k + cntG cntItemM (l.take i))), (5, .int .i64 i)]) (fun i => [.row v 111 7 ((mixG mkItemM cntItemM k i l).map ItemM.cells)]) (fun i => i ≤ l.length) (fun i => l.length - i) 0 (.cons rfl (.nil)) rfl ?_ ?_ ?_
  exact Nat.zero_le _
  exact ⟨congrArg (fun z => some (Value.int .i64 z)) (by simp [cntG]), rfl, trivial⟩
  rintro i hi
  have hml : (mixG mkItemM cntItemM k i l).length = l.length := mix_len
  have hcl : cntG cntItemM (l.take (i + 1)) ≤ cntG cntItemM l := cnt_le _
  by_cases hlt : i < l.length
  case' pos => (obtain ⟨x, hx⟩ := get_of_lt hlt; have he := get_map (mix_get (mk := mkItemM) (cnt := cntItemM) (k := k) hx) ItemM.cells; have hcn : cntG cntItemM (l.take (i + 1)) = cntG cntItemM (l.take i) + 7 := cnt_next hx)
  case' neg => (have hal : cntG cntItemM (l.take i) = cntG cntItemM l := cnt_all hlt)
  all_goals
   refine zcT ?_; refine zcI ?_; refine zaI ?_; refine G.cond rfl (fun hc => ?_) (fun hc => ?_)
   · all_goals
      replace hc := of_decide_eq_true hc
      simp only [List.length_map, hml] at hc
      try (exfalso; omega)
      all_goals
       refine zaQ ?_; refine zca ?_; refine zcJ (fun _ _ => ?_); refine zbf ?_; refine zcH (fun _ _ => ?_); refine zbf ?_
       refine zdh (fun _ _ => ?_); refine zbf ?_; refine zc8 (fun _ _ => ?_); refine zbf ?_; refine G.v (rv_indexH rfl rfl ze rfl zL) rfl ?_; refine zbq ?_
       refine G.op0 (og_stE0 rfl rfl rfl zL rfl rfl rfl rfl (.succ (.succ (.succ (.succ (.zero (.cons .nil))))))) (fun _ _ => ?_); refine zbf ?_; refine ze9 (fun _ _ => ?_); refine zbf ?_; refine G.v (rv_indexH rfl rfl ze rfl z7) rfl ?_; refine zbq ?_
       refine G.op0 (og_stE0 rfl rfl rfl z7 rfl rfl rfl rfl (.succ (.succ (.succ (.succ (.succ (.succ (.zero (.cons .nil))))))))) (fun _ _ => ?_); refine za1 ?_; refine zbi ?_; refine zbT ?_; refine zeC ?_; refine G.backK (i + 1) 0 (one_eq (congrArg (fun z => Ch.row v 111 7 z) (by rw [List.set_set, List.set_set, List.set_set, List.set_set, List.set_set, List.set_set]; exact mix_map hx))) (.cons rfl (.nil)) ?_ ?_ ?_
       exact ⟨congrArg (fun z => some (Value.int .i64 z)) zc, rfl, trivial⟩
       exact hlt
       omega
   · all_goals
      replace hc := of_decide_eq_false hc
      simp only [List.length_map, hml] at hc
      try (exfalso; omega)
      all_goals
       refine zce ?_
       exact G.retF () trivial rfl rfl (congrArg (Value.int .i64) (by rw [hal])) (fun w hw => by rw [mix_all hlt] at hw; exact hw)
def cntR (r : ReqM) : Nat := cntG cntPairM r.pairs + cntG cntTypeM r.types + cntG cntItemM r.items
theorem cntR_in {r : ReqM} : cntR r ≤ 7 * reqN r := by
  have h1 := cnt_const (cnt := cntPairM) (m := 2) (fun _ => rfl) r.pairs
  have h2 := cnt_const (cnt := cntTypeM) (m := 7) (fun _ => rfl) r.types
  have h3 := cnt_const (cnt := cntItemM) (m := 7) (fun _ => rfl) r.items
  simp only [cntR, reqN]; omega
def mkR (k : Int) (r : ReqM) : ReqM := { r with pairs := markG mkPairM cntPairM k r.pairs, types := markG mkTypeM cntTypeM (k + cntG cntPairM r.pairs) r.types, items := markG mkItemM cntItemM (k + cntG cntPairM r.pairs + cntG cntTypeM r.types) r.items }
theorem markRequest_any {w0 : World} {r : ReqM} {pv tv iv : Value} {k : Int} (hk : 0 ≤ k) (hb : k + cntR r ≤ 4611686018427387904) :
    FnM Tryz.prog 15 [.agg (r.cells pv tv iv).toArray, .int .i64 k] w0 [.row iv 111 7 (r.items.map ItemM.cells), .row tv 56 7 (r.types.map TypeM.cells), .row pv 138 2 (r.pairs.map PairM.cells)] (fun _ : Unit => True) (fun _ => .int .i64 (k + cntR r))
      (fun _ => [.row iv 111 7 ((mkR k r).items.map ItemM.cells), .row tv 56 7 ((mkR k r).types.map TypeM.cells), .row pv 138 2 ((mkR k r).pairs.map PairM.cells)]) := by
  refine FnM.of (n := 18) Tryz.func15 rfl rfl (fun F => ?_)
  simp only [cntR] at hb
  refine zaJ (fun bk2 _ => ?_); refine zcQ ?_; refine zaC ?_
  (refine G.frontR3 (pv) rfl ?_); refine G.op (og_callMM1 rfl rfl rfl (markPairS_any (l := r.pairs) hk zc).toF) rfl ?_; rintro ⟨⟩ _; try dsimp only
  refine zba ?_; refine G.region ?_; refine zbe ?_; refine zaC ?_
  (refine G.frontR3 (tv) rfl ?_); refine G.op (og_callMM1 rfl rfl rfl (markTypeS_any (l := r.types) zc zc).toF) rfl ?_; rintro ⟨⟩ _; try dsimp only
  refine zaB ?_; refine za2 ?_; refine zaC ?_
  (refine G.frontR3 (iv) rfl ?_); refine G.op (og_callMM1 rfl rfl rfl (markItemS_any (l := r.items) zc zc).toF) rfl ?_; rintro ⟨⟩ _; try dsimp only
  refine zaB ?_; refine za9 ?_
  exact G.retF () trivial rfl rfl (congrArg (Value.int .i64) (by simp only [cntR]; omega)) (fun w hw => hw.sublist (by repeat (first | exact List.Sublist.refl _ | refine List.Sublist.cons_cons _ ?_ | refine List.Sublist.cons _ ?_)))
end Go.Proofs.YtglpgohilfoecaaGreat

/-
  What hangs on the program alone, of what is asked of a law's row.
-/
namespace Go.Proofs.YtglpgohilfoecaaGreat
theorem both {a b : Bool} (h : a = true) (k : b = true) : (a && b) = true := by rw [h, k]; rfl
end Go.Proofs.YtglpgohilfoecaaGreat

/-
  Kinds that lie in a group; the kinds that are there.
-/
namespace Go.Proofs.YtglpgohilfoecaaGreat
open Go.RowKit
attribute [local irreducible] Go.wpList Go.Code.wp Go.Exit.then Go.Exit.inBlock Go.bodyPost Go.Calls pE pB G RunsV FnV Fn FnM
set_option maxRecDepth 100000
set_option maxHeartbeats 4000000
def mutM (ps : List PairM) (a b : Int) : Bool := besideM ps a b && besideM ps b a
theorem mutual_any {v : Value} {l : List PairM} (a b : Int) (w : World) (h : Rd w v 2 (l.map PairM.cells)) : FnV Tryz.prog 164 [v, .int .i64 a, .int .i64 b] w (.bool (mutM l a b)) := by
  refine FnV.of (n := 17) Tryz.func164 rfl rfl ?_; refine zaG ?_; refine zca ?_; refine G.op (og_callV rfl rfl (fun w hh => beside_any _ _ w (Rd.stays h _ hh))) rfl (fun _ _ => ?_); refine zaC ?_
  (with_reducible refine G.gP rfl rfl (fun hg => ?_) (fun hg => ?_)) <;> (try exact Bool.noConfusion hg) <;> (first | (refine zbm ?_) | refine zaF ?_)
  all_goals ((first | (refine zbm ?_) | refine zaF ?_))
  all_goals ((first | (refine zbm ?_) | refine zaF ?_))
  all_goals ((first | (refine zaH ?_; refine G.op (og_callV rfl rfl (fun w hh => beside_any _ _ w (Rd.stays h _ hh))) rfl (fun _ _ => ?_)) | refine zaF ?_))
  all_goals ((first | refine za3 ?_ | refine za4 ?_))
  all_goals (refine zcB ?_)
  all_goals
   refine zfF ?_; refine G.retFV rfl rfl (congrArg Value.bool ?_); simp_all [mutM]
def hasM (l : List Int) (x : Int) : Bool := l.any fun y => decide (y = x)
theorem l1Has_any {v : Value} {l : List Int} (x : Int) (w : World) (h : Rd w v 1 (l.map icell)) : FnV Tryz.prog 135 [v, .int .i64 x] w (.bool (hasM l x)) := by
  have hle := h.le_map
  refine FnV.of (n := 18) Tryz.func135 rfl rfl ?_; refine zdi ?_; refine G.loopK (ι := Nat) (ks := [0, 1]) (fun k => [(5, .int .i64 k)]) (fun _ => []) (fun k => k ≤ l.length ∧ (l.take k).any (fun y => decide (y = x)) = false) (fun k => l.length - k) 0 (.cons rfl (.cons rfl (.nil))) rfl ?_ ?_ ?_
  exact ⟨Nat.zero_le _, rfl⟩
  exact ⟨rfl, trivial⟩
  rintro k ⟨hk, ht⟩
  by_cases hlt : k < l.length
  case' pos => (obtain ⟨b, hb⟩ := get_of_lt hlt; have he := get_map hb icell)
  all_goals
   refine zbv ?_; refine G.cond rfl (fun hc => ?_) (fun hc => ?_)
   · all_goals
      replace hc := of_decide_eq_true hc
      simp only [List.length_map] at hc
      try (exfalso; omega)
      all_goals
       refine zaQ ?_; refine zaM ?_; refine zeh ?_; refine zeH ?_; refine zaC ?_; refine zde ?_; refine za1 ?_; refine G.cond rfl (fun hc => ?_) (fun hc => ?_)
       · all_goals
          replace hc := of_decide_eq_true hc
          all_goals
           refine zfa ?_
           exact G.retFV rfl rfl (congrArg Value.bool (any_at (f := fun y => decide (y = x)) hb (decide_eq_true hc)).symm)
       · all_goals
          replace hc := of_decide_eq_false hc
          all_goals
           refine zff ?_; refine G.backK (k + 1) 0 rfl (.cons rfl (.cons rfl (.nil))) ?_ ?_ ?_
           exact ⟨rfl, trivial⟩
           exact ⟨hlt, any_next ht hb (decide_eq_false hc)⟩
           omega
   · all_goals
      replace hc := of_decide_eq_false hc
      simp only [List.length_map] at hc
      try (exfalso; omega)
      all_goals
       refine zd0 ?_
       exact G.retFV rfl rfl (congrArg Value.bool (any_end ht hlt).symm)
theorem findInt_any {v : Value} {l : List Int} (x : Int) (w : World) (h : Rd w v 1 (l.map icell)) : FnV Tryz.prog 181 [v, .int .i64 x] w (.int .i64 (idxM (fun y => decide (x = y)) l)) := by
  have hle := h.le_map
  refine FnV.of (n := 19) Tryz.func181 rfl rfl ?_; refine zcd ?_; refine zeO ?_; refine G.loopK (ι := Nat) (ks := [0, 1, 7]) (fun k => [(8, .int .i64 k)]) (fun _ => []) (fun k => k ≤ l.length ∧ (l.take k).any (fun y => decide (x = y)) = false) (fun k => l.length - k) 0 (.cons rfl (.cons rfl (.cons rfl (.nil)))) rfl ?_ ?_ ?_
  exact ⟨Nat.zero_le _, rfl⟩
  exact ⟨rfl, trivial⟩
  rintro k ⟨hk, ht⟩
  by_cases hlt : k < l.length
  case' pos => (obtain ⟨b, hb⟩ := get_of_lt hlt; have he := get_map hb icell)
  all_goals
   refine zbo ?_; refine G.cond rfl (fun hc => ?_) (fun hc => ?_)
   · all_goals
      replace hc := of_decide_eq_true hc
      simp only [List.length_map] at hc
      try (exfalso; omega)
      all_goals
       refine zea ?_; refine zaB ?_; refine zca ?_; refine zeh ?_; refine zeH ?_; refine zde ?_; refine za1 ?_; refine G.cond rfl (fun hc => ?_) (fun hc => ?_)
       · all_goals
          replace hc := of_decide_eq_true hc
          all_goals
           refine za9 ?_; refine zbg ?_
           exact G.retFV rfl rfl (congrArg (Value.int .i64) (idx_at ht hb (decide_eq_true hc)).symm)
       · all_goals
          replace hc := of_decide_eq_false hc
          all_goals
           refine G.skip ?_; refine zaO ?_; refine G.backK (k + 1) 0 rfl (.cons rfl (.cons rfl (.cons rfl (.nil)))) ?_ ?_ ?_
           exact ⟨rfl, trivial⟩
           exact ⟨hlt, any_next ht hb (decide_eq_false hc)⟩
           omega
   · all_goals
      replace hc := of_decide_eq_false hc
      simp only [List.length_map] at hc
      try (exfalso; omega)
      all_goals
       refine zd0 ?_
       exact G.retFV rfl rfl (congrArg (Value.int .i64) (idx_none ht hlt).symm)
theorem hasInt_any {v : Value} {l : List Int} (x : Int) (w : World) (h : Rd w v 1 (l.map icell)) : FnV Tryz.prog 129 [v, .int .i64 x] w (.bool (hasM l x)) := by
  refine FnV.of (n := 9) Tryz.func129 rfl rfl ?_; refine zaG ?_; refine zaM ?_; refine G.op (og_callV rfl rfl (fun w hh => findInt_any x w (Rd.stays h _ hh))) rfl (fun _ _ => ?_); refine zd6 ?_; refine zcf ?_
  exact G.retFV rfl rfl (congrArg Value.bool ((idx_any _ l).trans (by rw [hasM]; congr 1; funext y; exact decide_eq_decide.2 eq_comm)))
/-- Whether a kind may lie beside all of a group. -/
def joinsM (ps : List PairM) (g : List Int) (x : Int) : Bool := g.all fun y => mutM ps x y
theorem l3Joins_any {v u : Value} {ps : List PairM} {l : List Int} (x : Int) (w : World) (h : Rd w v 2 (ps.map PairM.cells)) (h2 : Rd w u 1 (l.map icell)) : FnV Tryz.prog 165 [v, u, .int .i64 x] w (.bool (joinsM ps l x)) := by
  have hle := h2.le_map
  refine FnV.of (n := 32) Tryz.func165 rfl rfl ?_; refine zdi ?_; refine G.loopK (ι := Nat) (ks := [0, 1, 2]) (fun k => [(7, .int .i64 k)]) (fun _ => []) (fun k => k ≤ l.length ∧ (l.take k).all (fun y => mutM ps x y) = true) (fun k => l.length - k) 0 (.cons rfl (.cons rfl (.cons rfl (.nil)))) rfl ?_ ?_ ?_
  exact ⟨Nat.zero_le _, rfl⟩
  exact ⟨rfl, trivial⟩
  rintro k ⟨hk, ht⟩
  by_cases hlt : k < l.length
  case' pos => (obtain ⟨b, hb⟩ := get_of_lt hlt; have he := get_map hb icell)
  all_goals
   refine zbv ?_; refine G.cond rfl (fun hc => ?_) (fun hc => ?_)
   · all_goals
      replace hc := of_decide_eq_true hc
      simp only [List.length_map] at hc
      try (exfalso; omega)
      all_goals
       refine zaQ ?_; refine zca ?_; refine zeh ?_; refine zeH ?_; refine zaC ?_; refine G.op (og_callV rfl rfl (fun w hh => sbeside_any _ _ w (Rd.stays h _ hh))) rfl (fun _ _ => ?_); refine zdA ?_
       all_goals (((with_reducible refine G.gP rfl rfl (fun hg => ?_) (fun hg => ?_)) <;> (try exact Bool.noConfusion hg) <;> (first | (refine zbm ?_) | refine zaF ?_)))
       all_goals ((first | (refine zbm ?_) | refine zaF ?_))
       all_goals ((first | (refine zbm ?_) | refine zaF ?_))
       all_goals ((first | (refine zbm ?_) | refine zaF ?_))
       all_goals ((first | (refine zaH ?_; (refine zeh ?_)) | refine zaF ?_))
       all_goals ((first | (refine zaH ?_; refine zeH ?_) | refine zaF ?_))
       all_goals ((first | (refine zaH ?_; refine G.op (og_callV rfl rfl (fun w hh => sbeside_any _ _ w (Rd.stays h _ hh))) rfl (fun _ _ => ?_)) | refine zaF ?_))
       all_goals ((first | (refine zcu ?_) | refine zaF ?_))
       all_goals ((first | refine za3 ?_ | refine za4 ?_))
       all_goals
        refine za1 ?_; refine G.cond rfl (fun hc => ?_) (fun hc => ?_)
        · all_goals
           try simp only [List.length_map] at hc
           all_goals
            refine zfa ?_
            exact G.retFV rfl rfl (congrArg Value.bool (all_no (f := fun y => mutM ps x y) hb (by (simp_all [mutM]; done))).symm)
        · try exact Bool.noConfusion hc
          all_goals
           all_goals
            refine zff ?_; refine G.backK (k + 1) 0 rfl (.cons rfl (.cons rfl (.cons rfl (.nil)))) ?_ ?_ ?_
            exact ⟨rfl, trivial⟩
            exact ⟨hlt, all_next ht hb (by (simp_all [mutM]))⟩
            omega
   · all_goals
      replace hc := of_decide_eq_false hc
      simp only [List.length_map] at hc
      try (exfalso; omega)
      all_goals
       refine zd0 ?_
       exact G.retFV rfl rfl (congrArg Value.bool (all_end ht hlt).symm)
def kindHere (r : ReqM) (c : Nat) : Bool := r.items.any fun x => decide (x.cls = (c : Int))
def presL (r : ReqM) (n : Nat) : List Nat := (List.range n).filter (kindHere r)
/-- The kinds that are there. -/
def presM (r : ReqM) : List Nat := if classM r = 0 then presL r 4 else []
theorem pres_next {r : ReqM} {n : Nat} : presL r (n + 1) = if kindHere r n then presL r n ++ [n] else presL r n := by
  rw [presL, List.range_succ, List.filter_append]
  cases h : kindHere r n <;> simp [presL, h]
theorem pres_len (r : ReqM) (n : Nat) : (presL r n).length ≤ n := by
  have := List.length_filter_le (kindHere r) (List.range n); rwa [List.length_range] at this
theorem pres_yes {r : ReqM} {n : Nat} (h : kindHere r n = true) : (presL r n).map ncell ++ [[.int .i64 (n : Int)]] = (presL r (n + 1)).map ncell := by rw [pres_next, if_pos h, List.map_append]; rfl
theorem pres_no {r : ReqM} {n : Nat} (h : kindHere r n = false) : (presL r n).map ncell = (presL r (n + 1)).map ncell := by rw [pres_next, if_neg (by rw [h]; decide)]
theorem spresent_any {r : ReqM} {pv tv iv : Value} (w : World) (h : Rd w pv 2 (r.pairs.map PairM.cells)) (h2 : Rd w tv 7 (r.types.map TypeM.cells)) (h3 : Rd w iv 7 (r.items.map ItemM.cells)) :
    Fn Tryz.prog 105 [.agg (r.cells pv tv iv).toArray] w (fun v : Value => v.oneCell' = true) (fun v => v) (fun v => [.row v 3 1 ((presM r).map ncell)]) := by
  have hle3 := h3.le_map
  refine Fn.of (n := 40) Tryz.func105 rfl rfl ?_; refine zaJ (fun bk1 _ => ?_); refine zaB ?_; refine zaW (fun vl _ => ?_); refine zba ?_; refine G.seq ?_; refine zbF ?_; refine zbw (fun _ _ => ?_); refine zci ?_; refine G.condD rfl (fun hc => ?_) (fun hc => ?_)
  · refine G.seq ?_
    refine zbi ?_; refine zcf ?_; refine G.thenR ?_; refine G.know (fun w hw => (Rd.owned 0 rfl w hw).one_) (fun hone => G.retF vl hone rfl rfl rfl (fun w hw => by rw [presM, if_neg hc]; exact hw.sublist (by repeat (first | exact List.Sublist.refl _ | refine List.Sublist.cons_cons _ ?_ | refine List.Sublist.cons _ ?_)))); done
  refine zbR ?_; refine G.seq ?_; refine zbL ?_
  have hyes : classM r = 0 := by omega
  refine G.loopK (ι := Nat × Value) (ks := [1]) (fun x => [(3, x.2), (4, .int .i64 (x.1 : Int))]) (fun x => [.row x.2 3 1 ((presL r x.1).map ncell)]) (fun x => x.1 ≤ 4) (fun x => 4 - x.1) (0, vl) (.cons rfl (.nil)) rfl ?_ ?_ ?_
  exact Nat.zero_le _
  exact ⟨rfl, rfl, trivial⟩
  rintro ⟨c, v⟩ hcl
  dsimp only at hcl ⊢
  have hpl := pres_len r c
  have hpl2 : ((presL r c).map ncell).length = (presL r c).length := by simp
  refine zfn ?_; refine zaI ?_; refine G.condD rfl (fun hc => ?_) (fun hc => ?_)
  · refine G.skip ?_
    refine G.thenN (G.seq (G.block ?_)); refine zdi ?_; refine G.loopK (ι := Nat) (ks := [1, 3, 4]) (fun k => [(5, .bool ((r.items.take k).any fun x => decide (x.cls = (c : Int)))), (6, .int .i64 k)]) (fun _ => []) (fun k => k ≤ r.items.length) (fun k => r.items.length - k) 0 (.cons rfl (.cons rfl (.cons rfl (.nil)))) rfl ?_ ?_ ?_
    exact Nat.zero_le _
    exact ⟨rfl, rfl, trivial⟩
    rintro k hk
    by_cases hlt : k < r.items.length
    case' pos => (obtain ⟨b, hb⟩ := get_of_lt hlt; have he := get_map hb ItemM.cells)
    case' neg => (have ht : ((r.items.take k).any fun x => decide (x.cls = (c : Int))) = kindHere r c := (by rw [kindHere, List.take_of_length_le zc]))
    all_goals
     refine zfn ?_; refine zbe ?_; refine zfO ?_; refine G.cond rfl (fun hc => ?_) (fun hc => ?_)
     · all_goals
        replace hc := of_decide_eq_true hc
        simp only [List.length_map] at hc
        try (exfalso; omega)
        all_goals
         refine zaQ ?_; refine zdX ?_
         all_goals (((with_reducible refine G.gP rfl rfl (fun hg => ?_) (fun hg => ?_)) <;> (try exact Bool.noConfusion hg) <;> (first | (refine zaH ?_; (refine zaS ?_)) | refine zaF ?_)))
         all_goals ((first | (refine zaH ?_; (refine zcN ?_)) | refine zaF ?_))
         all_goals ((first | (refine zbm ?_) | refine zaF ?_))
         all_goals ((first | (refine zaH ?_; (refine zeh ?_)) | refine zaF ?_))
         all_goals ((first | (refine zaH ?_; (refine zbq ?_)) | refine zaF ?_))
         all_goals ((first | (refine zaH ?_; refine zeH ?_) | refine zaF ?_))
         all_goals ((first | (refine zbm ?_) | refine zaF ?_))
         all_goals ((first | (refine zaH ?_; refine zde ?_) | refine zaF ?_))
         all_goals ((first | refine za3 ?_ | refine za4 ?_))
         all_goals (refine zcB ?_)
         all_goals
          refine G.done ?_; refine zaE ?_; refine G.backK (k + 1) 0 rfl (.cons rfl (.cons rfl (.cons rfl (.nil)))) ?_ ?_ ?_
          exact ⟨congrArg (fun z => some (Value.bool z)) (by rw [List.take_add_one, hb, List.any_append]; simp_all), rfl, trivial⟩
          exact hlt
          omega
     · all_goals
        replace hc := of_decide_eq_false hc
        simp only [List.length_map] at hc
        try (exfalso; omega)
        all_goals
         refine zaL ?_; refine zaD ?_; refine za1 ?_; refine G.cond rfl (fun hc => ?_) (fun hc => ?_)
         · all_goals
            all_goals
             refine zdX ?_; refine zaT (fun vl _ => ?_); refine zbG (fun va _ => ?_); refine zeC ?_; refine G.backK (c + 1, va) 1 (by exact one_eq (congrArg (fun z => Ch.row va 3 1 z) (pres_yes (ht.symm.trans hc)))) (.cons rfl (.nil)) (⟨rfl, rfl, trivial⟩) ?_ ?_
             dsimp only; omega
             dsimp only; omega
         · all_goals
            all_goals
             refine zff ?_; refine G.backK (c + 1, v) 0 (by exact one_eq (congrArg (fun z => Ch.row v 3 1 z) (pres_no (ht.symm.trans hc)))) (.cons rfl (.nil)) (⟨rfl, rfl, trivial⟩) ?_ ?_
             dsimp only; omega
             dsimp only; omega
  · refine G.exit ?_
    refine G.thenX (G.thenX (G.inX (G.thenN ?_))); refine za9 ?_; refine G.know (fun w hw => (Rd.owned 0 rfl w hw).one_) (fun hone => G.retF v hone rfl rfl rfl (fun w hw => by rw [presM, if_pos hyes]; rw [show c = 4 by omega] at hw; exact hw.sublist (by repeat (first | exact List.Sublist.refl _ | refine List.Sublist.cons_cons _ ?_ | refine List.Sublist.cons _ ?_)))); done
end Go.Proofs.YtglpgohilfoecaaGreat

/-
  Owned slices that are cut short, and cleared.
-/
namespace Go.Proofs.YtglpgohilfoecaaGreat
open Go.RowKit
section
variable {P : Program} {n : Nat} {w0 : World} {fr : Fr} {H : List Ch}
theorem sub_head {g m cap s k : Nat} : subV (.slice (some ⟨g, 0, none⟩) m cap) s 0 k = .slice (some ⟨g, 0, none⟩) k cap := by simp [subV, sliced, Addr.add_lit]
theorem HeapOk.cutRow {w : World} {v : Value} {t : TypeId} {s : Nat} {es : List (List Value)} (h : HeapOk w0 w (.row v t s es :: H)) (k : Nat) (hk : k ≤ es.length) : HeapOk w0 w (.row (subV v s 0 k) t s (es.take k) :: H) := by
  obtain ⟨hrow, hgood⟩ := h.ok _ (List.mem_cons_self)
  have hlen := fun e he => (hgood e he).1
  have hkl : (es.take k).length = k := by rw [List.length_take]; omega
  have hf : (es.take k).flatten = es.flatten.take (k * s) := take_flat k hlen
  have hks : k * s ≤ es.length * s := Nat.mul_le_mul_right s hk
  have hfl := flatten_len hlen
  have hp := List.pairwise_cons.1 h.ap
  rcases hrow.2 with ⟨rfl, hn⟩ | ⟨g, cap, cur, rfl, hB, hg, hle, hcm, hsz, htk⟩
  · obtain rfl : k = 0 := by omega
    have e0 : es = [] := List.eq_nil_of_length_eq_zero hn
    subst e0
    exact h
  · rw [sub_head]
    refine ⟨h.below, fun c hc => ?_, List.pairwise_cons.2 ⟨fun d hd q hq => hp.1 d hd q hq, hp.2⟩⟩
    rcases List.mem_cons.1 hc with rfl | hc
    · refine ⟨⟨?_, .inr ⟨g, cap, cur, by rw [hkl], hB, hg, by rw [hkl]; omega, hcm, hsz, ?_⟩⟩, fun e he => hgood e (List.mem_of_mem_take he)⟩
      · rw [hkl, hf, List.length_take, hfl]; omega
      · rw [hkl, hf, ← htk, List.take_take, Nat.min_eq_left hks]
    · exact h.ok c (List.mem_cons_of_mem _ hc)
theorem G.cutRow {F : List Ch} {v : Value} {t : TypeId} {s : Nat} {es : List (List Value)} (k : Nat) {K : Act → World → Prop} (hk : k ≤ es.length) (hH : H = .row v t s es :: F) (h : G n w0 fr (.row (subV v s 0 k) t s (es.take k) :: F) K) : G n w0 fr H K :=
  G.heap (fun w hh => by subst hH; exact hh.cutRow k hk) h
theorem og_clear0 {x : Operand} {t e : TypeId} {bs : Nat} {z0 : Value} [hT : TySlice P t e] [hI : TyInfo P e 1 [z0] bs] {F : List Ch} {v dst : Value} {es : List (List Value)} (p : Nat)
    (hx : opv fr x = some dst) (hH : H = .row v e 1 es :: F) (hd : dst = subV v 1 p es.length) (hp : p < es.length) (hz1 : z0.oneCell' = true) :
    OpG P n w0 fr H (.call ⟨.builtin .clear, #[x], #[t]⟩) Triv (fun _ : Unit => .tuple #[]) (fun _ => .row v e 1 (es.take p ++ List.replicate (es.length - p) [z0]) :: F) :=
  fun a w hr hh d T pos af gd K hK => by
    subst hH
    obtain ⟨hrow, hgood⟩ := hh.ok _ (List.mem_cons_self)
    have hlen := fun e he => (hgood e he).1
    have hfl := flatten_len hlen
    obtain ⟨ii, zz, g1, g2, g3, g4, g5⟩ := hI.get
    rcases hrow.2 with ⟨rfl, hn⟩ | ⟨g, cap, cur, rfl, hB, hg, hle, hcm, hsz, htk⟩
    · omega
    · have hd' : dst = .slice (some ⟨g, p, none⟩) (es.length - p) (cap - p) := by
        rw [hd]
        simp only [subV, sliced, if_neg (show ¬ cap = p by omega), Option.map_some, Addr.add_lit, Nat.zero_add, Nat.mul_one]
      subst hd'
      obtain ⟨q, hq⟩ : ∃ q, es.length - p = q + 1 := ⟨es.length - p - 1, by omega⟩
      have hzc : (Builtin.zeroCells #[z0] (es.length - p)).toList = List.replicate (es.length - p) z0 := by
        apply List.ext_getElem
        · simp [Builtin.zeroCells]
        · intro j h1 h2
          simp [Builtin.zeroCells, Nat.mod_one]
      have hst := run_storeCells_at P g p e (List.replicate (es.length - p) z0) 0 cur w hg zac (fun u hu => by rw [(List.mem_replicate.1 hu).2]; exact hz1)
      simp only [Nat.add_zero, List.length_replicate] at hst
      have hrun : (execOp a.eval ⟨d, .call ⟨.builtin .clear, #[x], #[t]⟩, T, pos, af, gd⟩).run P w = .ok (.value (.tuple #[])) (w.setRow g (cur.toList.take p ++ List.replicate (es.length - p) z0 ++ cur.toList.drop (p + (es.length - p))).toArray) := by
        have hz : (Builtin.clear_ #[t] T #[.slice (some ⟨g, p, none⟩) (es.length - p) (cap - p)]).run P w = .ok (.tuple #[]) (w.setRow g (cur.toList.take p ++ List.replicate (es.length - p) z0 ++ cur.toList.drop (p + (es.length - p))).toArray) := by
          rw [hq] at hst hzc ⊢
          simp [Builtin.clear_, run_underlying hT.h, zeroValue, typeInfo, g1, g4, g5, hzc, hst]
        simp only [execOp, resolve, invoke, builtin, Sem.run_bind, Sem.run_pure, Result.andThen_ok, List.map_toArray, List.map_cons, List.map_nil, hr.opv hx, hz]
      unfold okAt; rw [hrun]
      refine hK () _ trivial ?_
      have hnewlen : (cur.toList.take p ++ List.replicate (es.length - p) z0 ++ cur.toList.drop (p + (es.length - p))).length = cur.size := by
        simp only [List.length_append, List.length_take, List.length_drop, Array.length_toList, List.length_replicate]; omega
      have hcl : (es.take p ++ List.replicate (es.length - p) [z0]).length = es.length := by simp; omega
      have hcg : ∀ e0 ∈ es.take p ++ List.replicate (es.length - p) [z0], e0.length = 1 ∧ ∀ u ∈ e0, u.oneCell' = true := by
        intro e0 he0
        rcases List.mem_append.1 he0 with he0 | he0
        · exact hgood e0 (List.mem_of_mem_take he0)
        · rw [(List.mem_replicate.1 he0).2]; exact ⟨rfl, fun u hu => by rw [List.mem_singleton.1 hu]; exact hz1⟩
      have hrep : ∀ m : Nat, (List.replicate m [z0]).flatten = List.replicate m z0 := fun m => by
        induction m with
        | zero => rfl
        | succ m ih => rw [List.replicate_succ, List.flatten_cons, ih, List.replicate_succ]; rfl
      have htp : (es.take p).flatten = cur.toList.take p := by
        rw [take_flat p hlen, ← htk, List.take_take]; congr 1; omega
      refine ⟨hh.below.trans ⟨rfl, rfl, rfl, by simp, fun q hq => setRow_other w g q _ zc⟩, fun d hd => ?_, ?_⟩
      · rcases List.mem_cons.1 hd with rfl | hd
        · refine ⟨⟨?_, .inr ⟨g, cap, _, by rw [hcl], hB, setRow_heap w g cur _ e _ hg, by rw [hcl]; exact hle, hcm, by rw [List.size_toArray, hnewlen, hsz], ?_⟩⟩, hcg⟩
          · rw [flatten_len (fun e he => (hcg e he).1)]
          · rw [List.flatten_append, hrep, htp, hcl, List.toList_toArray, List.take_append]
            simp only [List.length_append, List.length_take, Array.length_toList, List.length_replicate]
            rw [List.take_of_length_le (l := List.take p cur.toList ++ List.replicate (es.length - p) z0) zac, show es.length * 1 - (min p cur.size + (es.length - p)) = 0 by omega]; simp
        · have hd' := hh.ok d (List.mem_cons_of_mem _ hd)
          refine Ch.ok_of hd' fun q hq => setRow_other w g q _ ?_
          have := (List.pairwise_cons.1 hh.ap).1 d hd g rfl
          rintro rfl
          exact this hq
      · have := List.pairwise_cons.1 hh.ap
        exact List.pairwise_cons.2 ⟨fun d hd q hq => this.1 d hd q hq, this.2⟩
end
end Go.Proofs.YtglpgohilfoecaaGreat

/-
  Equal neighbours that are dropped.
-/
namespace Go.Proofs.YtglpgohilfoecaaGreat
open Go.RowKit
attribute [local irreducible] Go.wpList Go.Code.wp Go.Exit.then Go.Exit.inBlock Go.bodyPost Go.Calls pE pB G RunsV FnV Fn FnM
set_option maxRecDepth 100000
set_option maxHeartbeats 4000000
def ddStep (acc : List Int) (x : Int) : List Int := if acc.getLast? = some x then acc else acc ++ [x]
def ddM (l : List Int) : List Int := l.foldl ddStep []
theorem dd_next {l : List Int} {k : Nat} {b : Int} (hb : l[k]? = some b) : ddM (l.take (k + 1)) = ddStep (ddM (l.take k)) b := foldl_take_succ hb ddStep []
theorem ddStep_last (acc : List Int) (x : Int) : (ddStep acc x).getLast? = some x := by
  unfold ddStep; split
  · assumption
  · simp
theorem dd_last {l : List Int} {k : Nat} {a : Int} (ha : l[k]? = some a) : (ddM (l.take (k + 1))).getLast? = some a := by rw [dd_next ha, ddStep_last]
theorem dd_len (l : List Int) : ∀ k, k ≤ l.length → (ddM (l.take k)).length ≤ k
  | 0, _ => by simp [ddM]
  | k + 1, hk => by
    obtain ⟨b, hb⟩ := get_of_lt (l := l) (k := k) zc
    have := dd_len l k zc
    rw [dd_next hb, ddStep]; split
    · omega
    · simp; omega
theorem dd_same {l : List Int} {k : Nat} {a b : Int} (ha : l[k]? = some a) (hb : l[k + 1]? = some b) (h : b = a) : ddM (l.take (k + 1 + 1)) = ddM (l.take (k + 1)) := by
  rw [dd_next hb, ddStep, if_pos (by rw [dd_last ha, h])]
theorem dd_diff {l : List Int} {k : Nat} {a b : Int} (ha : l[k]? = some a) (hb : l[k + 1]? = some b) (h : ¬ b = a) : ddM (l.take (k + 1 + 1)) = ddM (l.take (k + 1)) ++ [b] := by
  rw [dd_next hb, ddStep, if_neg (by rw [dd_last ha]; intro e; exact h (Option.some.inj e).symm)]
/-- The row while it is pressed together. -/
def ddRow (l : List Int) (m : Nat) : List Int := ddM (l.take m) ++ l.drop (ddM (l.take m)).length
theorem ddRow_len {l : List Int} {m : Nat} (h : m ≤ l.length) : (ddRow l m).length = l.length := by
  have := dd_len l m h
  rw [ddRow, List.length_append, List.length_drop]; omega
theorem ddRow_get {l : List Int} {m j : Nat} (h : (ddM (l.take m)).length ≤ j) : (ddRow l m)[j]? = l[j]? := by
  rw [ddRow, List.getElem?_append_right h, List.getElem?_drop]; congr 1; omega
theorem ddRow_set {l : List Int} {k : Nat} {a b : Int} (ha : l[k]? = some a) (hb : l[k + 1]? = some b) (h : ¬ b = a) : (ddRow l (k + 1)).set (ddM (l.take (k + 1))).length b = ddRow l (k + 1 + 1) := by
  have hk := (List.getElem?_eq_some_iff.1 hb).1
  have hl := dd_len l (k + 1) zc
  rw [ddRow, ddRow, dd_diff ha hb h, List.set_append_right _ _ (Nat.le_refl _), Nat.sub_self, List.length_append, List.append_assoc]
  congr 1
  rw [List.drop_eq_getElem_cons (show (ddM (l.take (k + 1))).length < l.length by omega), List.set_cons_zero]
  rfl
theorem dd_one {l : List Int} {b : Int} (hb : l[0]? = some b) : ddM (l.take 1) = l.take 1 := by
  rw [dd_next hb]
  cases l with
  | nil => cases hb
  | cons x r => obtain rfl : x = b := by simpa using hb
                simp [ddM, ddStep]
theorem dd_short {l : List Int} (h : l.length < 2) : ddM l = l := by
  match l, h with
  | [], _ => rfl
  | [x], _ => simp [ddM, ddStep]
theorem dd_go {l : List Int} {j : Nat} {a b : Int} (hd : ddM (l.take (j + 1)) = l.take (j + 1)) (ha : l[j]? = some a) (hb : l[j + 1]? = some b) (h : ¬ b = a) : ddM (l.take (j + 1 + 1)) = l.take (j + 1 + 1) := by
  rw [dd_diff ha hb h, hd, List.take_add_one (i := j + 1), hb]; rfl
theorem s2_rd {w : World} {v : Value} {l : List Int} {m p : Nat} (h : Rd w v 1 ((ddRow l m).map icell)) (hm : m ≤ l.length) (hp : p ≤ l.length) : Rd w (subV v 1 p (l.map icell).length) 1 (((ddRow l m).drop p).map icell) := by
  have := Rd.subL h (k := p) (by rw [ddRow_len hm]; exact hp)
  rwa [List.length_map, ddRow_len hm, ← List.length_map (f := icell)] at this
theorem s2_get {l : List Int} {m p i : Nat} {b : Int} (h : (ddM (l.take m)).length ≤ p + i) (hb : l[p + i]? = some b) : (((ddRow l m).drop p).map icell)[i]? = some (icell b) := by
  rw [List.getElem?_map, List.getElem?_drop, ddRow_get h, hb]; rfl
theorem dd_cut {l : List Int} {m q : Nat} {z : List Value} : ((((ddRow l m).map icell).take (ddM (l.take m)).length) ++ List.replicate q z).take (ddM (l.take m)).length = (ddM (l.take m)).map icell := by
  have e : ((ddRow l m).map icell).take (ddM (l.take m)).length = (ddM (l.take m)).map icell := by
    rw [← List.map_take, ddRow, List.take_left']; rfl
  rw [e, List.take_left']; simp
section
variable {w0 : World} {F : List Ch} {v : Value}
theorem compact_any {l : List Int} (hn : l.length ≤ 1048576) :
    FnMF Tryz.prog 217 [v] w0 [.row v 3 1 (l.map icell)] F (fun x : Value => x.oneCell' = true) (fun x => x) (fun x => [.row x 3 1 ((ddM l).map icell)]) := by
  have hln : (l.map icell).length = l.length := by simp
  refine FnMF.of (n := 61) Tryz.func217 rfl rfl ?_; refine zbP (fun hone => ?_); refine zcd ?_; refine zcI ?_; refine zaI ?_; refine G.condD rfl (fun hc => ?_) (fun hc => ?_)
  simp only [List.length_map] at hc
  refine za9 ?_; refine G.thenR ?_
  exact G.retF v hone rfl rfl rfl (fun w hw => by rw [dd_short zc]; exact hw)
  · simp only [List.length_map] at hc
    refine zbR ?_; refine G.seq ?_; refine zbL ?_
    obtain ⟨b0, hb0⟩ := get_of_lt (l := l) (k := 0) zc
    refine G.loopK (ι := Nat) (ks := [0]) (fun j => [(3, .int .i64 ((j + 1 : Nat) : Int))]) (fun _ => [.row v 3 1 (l.map icell)]) (fun j => j + 1 ≤ l.length ∧ ddM (l.take (j + 1)) = l.take (j + 1)) (fun j => l.length - j) 0 (.cons rfl (.nil)) rfl ?_ ?_ ?_
    exact ⟨by omega, dd_one hb0⟩
    exact ⟨rfl, trivial⟩
    rintro j ⟨hj, hd⟩
    by_cases hlt : j + 1 < l.length
    case' pos => (obtain ⟨a, ha⟩ := get_of_lt (l := l) (k := j) zc; obtain ⟨b, hb⟩ := get_of_lt hlt; have e1 := get_map hb icell; have e2 : (l.map icell)[j + 1 - 1]? = some (icell a) := get_map ha icell)
    all_goals
     refine zcT ?_; refine zcI ?_; refine zaI ?_; refine G.cond rfl (fun hc => ?_) (fun hc => ?_)
     · all_goals
        replace hc := of_decide_eq_true hc
        simp only [List.length_map] at hc
        try (exfalso; omega)
        all_goals
         refine zaQ ?_; refine zfo ?_; refine zaR ?_; refine GE.q 2 rfl za rfl (qg_runs (rv_indexH rfl rfl ze rfl zu)) rfl ?_; refine GE.q 3 rfl za rfl (qg_runs (rv_loadE rfl ze zu rfl)) rfl ?_; refine zbI ?_; refine GE.ol 5 za rfl rfl (og_runs (rv_move rfl)) rfl zd (fun _ _ => ?_); refine GE.ol 6 za rfl rfl (og_runs (rv_decr rfl rfl zc zc)) rfl zd (fun _ _ => ?_); refine GE.ol 7 za rfl rfl (og_runs (rv_indexH rfl rfl ze rfl zK)) rfl zd (fun _ _ => ?_); refine GE.ol 8 za rfl rfl (og_runs (rv_loadE rfl ze zK rfl)) rfl zd (fun _ _ => ?_); refine GE.ol 9 za rfl rfl (og_runs (rv_eql rfl rfl)) rfl zd (fun _ _ => ?_); refine zbj ?_
         refine G.cond rfl (fun hc => ?_) (fun hc => ?_)
         · all_goals
            replace hc := of_decide_eq_true hc
            all_goals
             refine zaM ?_; refine G.v (rv_sliceL rfl rfl ze zc) rfl ?_; refine zdR ?_
             have hD0 : ddM (l.take (j + 1 + 1)) = l.take (j + 1) := (dd_same ha hb hc).trans hd
             have hDl : (ddM (l.take (j + 1 + 1))).length = j + 1 := by rw [hD0, List.length_take]; omega
             refine G.rowEq ((ddRow l (j + 0 + 1 + 1)).map icell) (by rw [ddRow, show j + 0 + 1 + 1 = j + 1 + 1 from rfl, hDl, hD0, List.take_append_drop]) rfl ?_; refine G.loopK (ι := Nat) (ks := [0, 4]) (fun i => [(3, .int .i64 ((ddM (l.take (j + i + 1 + 1))).length : Int)), (5, .int .i64 ((i + 1 : Nat) : Int))]) (fun i => [.row v 3 1 ((ddRow l (j + i + 1 + 1)).map icell)]) (fun i => j + i + 1 + 1 ≤ l.length ∧ (ddM (l.take (j + i + 1 + 1))).length + 1 ≤ j + i + 1 + 1) (fun i => l.length - i) 0 (.cons rfl (.cons rfl (.nil))) rfl ?_ ?_ ?_
             exact ⟨hlt, by rw [show j + 0 + 1 + 1 = j + 1 + 1 from rfl, hDl]; omega⟩
             exact ⟨congrArg (fun z : Nat => some (Value.int .i64 (z : Int))) hDl.symm, rfl, trivial⟩
             rintro i ⟨hi, hDi⟩
             have hrl := ddRow_len hi
             have hrl2 : ((ddRow l (j + i + 1 + 1)).map icell).length = l.length := by rw [List.length_map, hrl]
             have hsl : (((ddRow l (j + i + 1 + 1)).drop (j + 1)).map icell).length = l.length - (j + 1) := by rw [List.length_map, List.length_drop, hrl]
             have hsl3 : ((ddRow l (j + i + 1 + 1)).drop (j + 1)).length = l.length - (j + 1) := by rw [List.length_drop, hrl]
             by_cases hlt2 : j + i + 1 + 1 < l.length
             case' pos => (obtain ⟨a2, ha2⟩ := get_of_lt (l := l) (k := j + i + 1) zc; obtain ⟨b2, hb2⟩ := get_of_lt hlt2; replace e1 : (((ddRow l (j + i + 1 + 1)).drop (j + 1)).map icell)[i + 1]? = some (icell b2) := s2_get zc (by rw [show j + 1 + (i + 1) = j + i + 1 + 1 by omega]; exact hb2); replace e2 : (((ddRow l (j + i + 1 + 1)).drop (j + 1)).map icell)[i + 1 - 1]? = some (icell a2) := s2_get zc (by rw [show j + 1 + (i + 1 - 1) = j + i + 1 by omega]; exact ha2); obtain ⟨c3, hc3⟩ := get_of_lt (l := ddRow l (j + i + 1 + 1)) (k := (ddM (l.take (j + i + 1 + 1))).length) zc; have e3 := get_map hc3 icell)
             all_goals
              refine zcT ?_; refine G.v (rv_len rfl zP) rfl ?_; refine zaI ?_; refine G.cond rfl (fun hc => ?_) (fun hc => ?_)
              · all_goals
                 replace hc := of_decide_eq_true hc
                 simp only [List.length_map] at hc
                 try (exfalso; omega)
                 all_goals
                  refine zaQ ?_; refine zfo ?_; refine zaR ?_; refine GE.q 2 rfl za rfl (qg_runs (rv_indexH rfl rfl zP rfl zu)) rfl ?_; refine GE.q 3 rfl za rfl (qg_runs (rv_loadE rfl zP zu rfl)) rfl ?_; refine zbI ?_; refine GE.ol 5 za rfl rfl (og_runs (rv_move rfl)) rfl zd (fun _ _ => ?_); refine GE.ol 6 za rfl rfl (og_runs (rv_decr rfl rfl zc zc)) rfl zd (fun _ _ => ?_); refine GE.ol 7 za rfl rfl (og_runs (rv_indexH rfl rfl zP rfl zK)) rfl zd (fun _ _ => ?_); refine GE.ol 8 za rfl rfl (og_runs (rv_loadE rfl zP zK rfl)) rfl zd (fun _ _ => ?_)
                  refine GE.ol 9 za rfl rfl (og_runs (rv_neq rfl rfl)) rfl zd (fun _ _ => ?_); refine zbj ?_; refine G.cond rfl (fun hc => ?_) (fun hc => ?_)
                  · all_goals
                     replace hc := of_decide_eq_true hc
                     all_goals
                      refine zaM ?_; refine zbA ?_; refine G.v (rv_indexH rfl rfl zP rfl zu) rfl ?_; refine G.v (rv_loadE rfl zP zu rfl) rfl ?_; refine G.v (rv_indexH rfl rfl ze rfl zag) rfl ?_; refine G.op0 (og_stE0 rfl rfl rfl zag rfl rfl rfl rfl (.zero (.cons .nil))) (fun _ _ => ?_); refine za1 ?_; refine zbQ ?_; refine zaE ?_; refine G.backK (i + 1) 0 (by exact one_eq (congrArg (fun z => Ch.row v 3 1 z) ((List.map_set (f := icell)).symm.trans (congrArg (List.map icell) (ddRow_set ha2 hb2 hc))))) (.cons rfl (.cons rfl (.nil))) ?_ ?_ ?_
                      exact ⟨congrArg (fun z : Nat => some (Value.int .i64 (z : Int))) (by rw [show j + (i + 1) + 1 + 1 = j + i + 1 + 1 + 1 from rfl, dd_diff ha2 hb2 hc, List.length_append]; rfl), rfl, trivial⟩
                      refine ⟨by omega, ?_⟩; (rw [show j + (i + 1) + 1 + 1 = j + i + 1 + 1 + 1 from rfl, dd_diff ha2 hb2 hc, List.length_append]; simp; omega)
                      omega
                  · all_goals
                     replace hc := of_decide_eq_false hc
                     all_goals
                      refine zff ?_; refine G.backK (i + 1) 0 (by (exact one_eq (congrArg (fun z : List Int => Ch.row v 3 1 (z.map icell)) (show ddRow l (j + i + 1 + 1) = ddRow l (j + i + 1 + 1 + 1) by simp only [ddRow]; rw [dd_same ha2 hb2 zc])))) (.cons rfl (.cons rfl (.nil))) ?_ ?_ ?_
                      exact ⟨congrArg (fun z : Nat => some (Value.int .i64 (z : Int))) (by rw [show j + (i + 1) + 1 + 1 = j + i + 1 + 1 + 1 from rfl, dd_same ha2 hb2 zc]), rfl, trivial⟩
                      refine ⟨by omega, ?_⟩; (rw [show j + (i + 1) + 1 + 1 = j + i + 1 + 1 + 1 from rfl, dd_same ha2 hb2 zc]; omega)
                      omega
              · all_goals
                 replace hc := of_decide_eq_false hc
                 simp only [List.length_map] at hc
                 try (exfalso; omega)
                 all_goals
                  refine zaL ?_; refine zaM ?_; refine G.v (rv_sliceL rfl rfl ze zc) rfl ?_; refine G.op0 (og_clear0 ((ddM (l.take (j + i + 1 + 1))).length) rfl rfl rfl zc rfl) (fun _ _ => ?_); refine za1 ?_; refine zaM ?_; refine G.v (rv_sliceH rfl rfl (Rd.owned 0 rfl) zac) rfl ?_; refine zcf ?_; refine zbg ?_; refine G.cutRow (ddM (l.take (j + i + 1 + 1))).length zac rfl ?_; refine zbP (fun hone2 => ?_); exact G.retF _ hone2 rfl rfl rfl (fun w hw => by rw [dd_cut] at hw; rw [← (show ddM (l.take (j + i + 1 + 1)) = ddM l by rw [take_all (l := l) (k := j + i + 1 + 1) zc])]; exact hw)
         · all_goals
            replace hc := of_decide_eq_false hc
            all_goals
             refine zff ?_; refine G.backK (j + 1) 0 rfl (.cons rfl (.nil)) ?_ ?_ ?_
             exact ⟨rfl, trivial⟩
             exact ⟨by omega, dd_go hd ha hb hc⟩
             omega
     · all_goals
        replace hc := of_decide_eq_false hc
        simp only [List.length_map] at hc
        try (exfalso; omega)
        all_goals
         refine zce ?_
         have he : ddM l = l := (by rw [List.take_of_length_le zc] at hd; exact hd); exact G.retF v hone rfl rfl rfl (fun w hw => by rw [he]; exact hw)
end
end Go.Proofs.YtglpgohilfoecaaGreat
