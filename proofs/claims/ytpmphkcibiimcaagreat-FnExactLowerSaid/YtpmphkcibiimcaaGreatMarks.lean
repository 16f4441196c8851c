/-
  Things that are marked by numbers that go up, and held against these.
-/
import Derived.Test.YtpmphkcibiimcaaGreatTables
import Derived.Test.YtpmphkcibiimcaaGreatGeo2
namespace Go.Proofs.YtpmphkcibiimcaaGreat
open Go.RowKit

section
variable {α : Type} (mk : Int → α → α) (cnt : α → Nat)
def markG : Int → List α → List α
  | _, [] => []
  | k, x :: r => mk k x :: markG (k + cnt x) r
def cntG (l : List α) : Nat := (l.map cnt).sum
def mixG (k : Int) (i : Nat) (l : List α) : List α := markG mk cnt k (l.take i) ++ l.drop i
end
section
variable {α : Type} {mk : Int → α → α} {cnt : α → Nat} {k : Int} {l : List α} {i : Nat} {x : α}
theorem markG_len : ∀ (l : List α) (k : Int), (markG mk cnt k l).length = l.length
  | [], _ => rfl
  | x :: r, k => by simp [markG, markG_len r]
theorem mix_len : (mixG mk cnt k i l).length = l.length := by
  rw [mixG, List.length_append, markG_len, List.length_take, List.length_drop]; omega
theorem mix_get (h : l[i]? = some x) : (mixG mk cnt k i l)[i]? = some x := by
  have hi : i < l.length := by
    rcases Nat.lt_or_ge i l.length with h1 | h1
    · exact h1
    · rw [List.getElem?_eq_none h1] at h; cases h
  have h1 : (markG mk cnt k (l.take i)).length = i := by rw [markG_len, List.length_take]; omega
  rw [mixG, List.getElem?_append_right (by omega), h1, Nat.sub_self, List.getElem?_drop]; exact h
theorem cnt_next (h : l[i]? = some x) : cntG cnt (l.take (i + 1)) = cntG cnt (l.take i) + cnt x := by
  rw [List.take_add_one, h]; simp [cntG]
theorem cnt_le (i : Nat) : cntG cnt (l.take i) ≤ cntG cnt l := by
  have h : cntG cnt l = cntG cnt (l.take i) + cntG cnt (l.drop i) := by
    have : l = l.take i ++ l.drop i := (List.take_append_drop i l).symm
    conv => lhs; rw [this]
    simp only [cntG, List.map_append, List.sum_append]
  omega
theorem cnt_all (h : ¬ i < l.length) : cntG cnt (l.take i) = cntG cnt l := by rw [List.take_of_length_le (by omega)]
theorem markG_snoc : ∀ (l : List α) (k : Int) (x : α), markG mk cnt k (l ++ [x]) = markG mk cnt k l ++ [mk (k + cntG cnt l) x]
  | [], k, x => by simp [markG, cntG]
  | y :: r, k, x => by
    simp only [List.cons_append, markG, markG_snoc r]
    rw [show k + (cnt y : Int) + cntG cnt r = k + cntG cnt (y :: r) from by simp [cntG]; omega]
theorem mix_set (h : l[i]? = some x) : (mixG mk cnt k i l).set i (mk (k + cntG cnt (l.take i)) x) = mixG mk cnt k (i + 1) l := by
  have hi : i < l.length := by
    rcases Nat.lt_or_ge i l.length with h1 | h1
    · exact h1
    · rw [List.getElem?_eq_none h1] at h; cases h
  have h1 : (markG mk cnt k (l.take i)).length = i := by rw [markG_len, List.length_take]; omega
  have hd : l.drop i = x :: l.drop (i + 1) := by
    rw [List.drop_eq_getElem_cons hi]
    congr 1
    rw [List.getElem?_eq_getElem hi] at h; exact Option.some.inj h
  rw [mixG, mixG, List.set_append_right _ _ (by omega), h1, Nat.sub_self, hd, List.set_cons_zero, List.take_add_one, h]
  simp only [Option.toList, markG_snoc]
  simp
theorem mix_map {β : Type} {c : α → β} (h : l[i]? = some x) : ((mixG mk cnt k i l).map c).set i (c (mk (k + cntG cnt (l.take i)) x)) = (mixG mk cnt k (i + 1) l).map c := by
  rw [← mix_set h, List.map_set]
theorem mix_all (h : ¬ i < l.length) : mixG mk cnt k i l = markG mk cnt k l := by
  rw [mixG, List.take_of_length_le (by omega), List.drop_eq_nil_of_le (by omega)]; simp
theorem mark_at : ∀ {l : List α} {k : Int} {i : Nat} {x : α}, l[i]? = some x → (markG mk cnt k l)[i]? = some (mk (k + cntG cnt (l.take i)) x)
  | [], _, i, _, h => by simp at h
  | y :: r, k, 0, x, h => by
    simp only [List.getElem?_cons_zero, Option.some.injEq] at h
    subst h; simp [markG, cntG]
  | y :: r, k, i + 1, x, h => by
    simp only [List.getElem?_cons_succ] at h
    have := mark_at (k := k + cnt y) h
    simp only [markG, List.getElem?_cons_succ, this, List.take_succ_cons]
    rw [show k + (cnt y : Int) + cntG cnt (r.take i) = k + cntG cnt (y :: r.take i) from by simp [cntG]; omega]
theorem held_at (hm : markG mk cnt k l = l) (h : l[i]? = some x) : x = mk (k + cntG cnt (l.take i)) x := by
  have := mark_at (mk := mk) (cnt := cnt) (k := k) h
  rw [hm, h] at this; exact Option.some.inj this
theorem mark_cnt (hc : ∀ k x, cnt (mk k x) = cnt x) : ∀ (l : List α) (k : Int), cntG cnt (markG mk cnt k l) = cntG cnt l
  | [], _ => rfl
  | x :: r, k => by
    have := mark_cnt hc r (k + cnt x)
    simp only [cntG, markG, List.map_cons, List.sum_cons, hc] at this ⊢
    omega
theorem mark_mark (hc : ∀ k x, cnt (mk k x) = cnt x) (hm : ∀ k x, mk k (mk k x) = mk k x) : ∀ (l : List α) (k : Int), markG mk cnt k (markG mk cnt k l) = markG mk cnt k l
  | [], _ => rfl
  | x :: r, k => by simp only [markG, hm, hc, mark_mark hc hm r]
end
theorem get_set1 {β : Type} {es : List β} {i : Nat} {x y : β} (h : es[i]? = some x) : (es.set i y)[i]? = some y := by
  have hi : i < es.length := by
    rcases Nat.lt_or_ge i es.length with h1 | h1
    · exact h1
    · rw [List.getElem?_eq_none h1] at h; cases h
  rw [List.getElem?_set_self hi]
theorem get_mapS {M : Type} {f : M → List Int} {l : List (M × Value)} {i : Nat} {x : M × Value} (h : l[i]? = some x) : (l.map (sub f))[i]? = some (x.2, (f x.1).map icell) := by rw [List.getElem?_map, h]; rfl
theorem two_eq {a a' b b' : Ch} {F : List Ch} (h1 : a = a') (h2 : b = b') : a :: b :: F = [a', b'] ++ F := by subst h1 h2; rfl
theorem one_eq {a a' : Ch} {F : List Ch} (h1 : a = a') : a :: F = [a'] ++ F := by subst h1; rfl
def whereG {α : Type} (p : α → Bool) (l : List α) : List Int := (l.zipIdx.filter fun x => p x.1).map fun x => (x.2 : Int)
theorem where_next {α : Type} {p : α → Bool} {l : List α} {k : Nat} {x : α} (h : l[k]? = some x) : whereG p (l.take (k + 1)) = whereG p (l.take k) ++ (if p x then [(k : Int)] else []) := by
  have hk : k < l.length := by
    rcases Nat.lt_or_ge k l.length with h1 | h1
    · exact h1
    · rw [List.getElem?_eq_none h1] at h; cases h
  rw [List.take_add_one, h]
  simp only [whereG, Option.toList, List.zipIdx_append, List.filter_append, List.map_append, List.length_take]
  congr 1
  rw [show min k l.length = k from by omega]
  cases hp : p x <;> simp [hp]
theorem where_yes {α : Type} {p : α → Bool} {l : List α} {k : Nat} {x : α} (h : l[k]? = some x) (hp : p x = true) : (whereG p (l.take k)).map icell ++ [[.int .i64 (k : Int)]] = (whereG p (l.take (k + 1))).map icell := by
  rw [where_next h, if_pos hp, List.map_append]; rfl
theorem where_no {α : Type} {p : α → Bool} {l : List α} {k : Nat} {x : α} (h : l[k]? = some x) (hp : p x = false) : (whereG p (l.take k)).map icell = (whereG p (l.take (k + 1))).map icell := by
  rw [where_next h, hp]; simp
theorem where_len {α : Type} (p : α → Bool) (l : List α) : (whereG p l).length ≤ l.length := by
  rw [whereG, List.length_map]
  exact Nat.le_trans (List.length_filter_le _ _) (by simp)
theorem of_ne {α : Type} {xs ys : List α} {k : Nat} {a b : α} (ha : xs[k]? = some a) (hb : ys[k]? = some b) (h : ¬ a = b) : ¬ xs = ys := by rintro rfl; rw [ha] at hb; cases hb; exact h rfl
theorem of_all {α : Type} {xs ys : List α} {k : Nat} (h0 : xs.take k = ys.take k) (hl : xs.length = ys.length) (h : ¬ k < xs.length) : xs = ys := by
  rw [List.take_of_length_le (by omega), List.take_of_length_le (by omega)] at h0; exact h0
theorem len_ne {α β : Type} {xs ys : List α} {f : α → β} (h : ¬ xs.length = ys.length) : ¬ xs.map f = ys.map f := fun e => h (by have := congrArg List.length e; simpa using this)
theorem len_neS {α : Type} {xs ys : List α} (h : ¬ xs.length = ys.length) : ¬ xs = ys := fun e => h (congrArg List.length e)
theorem same_yes {p q : Prop} [Decidable p] [Decidable q] (h1 : p) (h2 : q) : true = (decide p && decide q) := by simp [h1, h2]
theorem same_no1 {p q : Prop} [Decidable p] [Decidable q] (h1 : ¬ p) : false = (decide p && decide q) := by simp [h1]
theorem same_no2 {p q : Prop} [Decidable p] [Decidable q] (h1 : ¬ q) : false = (decide p && decide q) := by simp [h1]
theorem cnt_const {α : Type} {cnt : α → Nat} {m : Nat} (h : ∀ x, cnt x = m) (l : List α) : cntG cnt l = m * l.length := by
  induction l with
  | nil => rfl
  | cons x r ih => simp only [cntG, List.map_cons, List.sum_cons, List.length_cons, h] at ih ⊢; rw [ih, Nat.mul_add]; omega
def mkI (k : Int) (_ : Int) : Int := k
def cntI (_ : Int) : Nat := 1
theorem cntI_len (l : List Int) : cntG cntI l = l.length := by
  induction l with
  | nil => rfl
  | cons x r ih => simp only [cntG, List.map_cons, List.sum_cons, List.length_cons] at ih ⊢; rw [ih]; simp [cntI]; omega
/-- A call that turns a row turns it within a group, too. -/
theorem FnMF.grp {P : Program} {f : FuncId} {vs : List Value} {w0 : World} {F : List Ch} {X : Type} {φ : X → Prop} {rv : X → Value} {t : TypeId} {s i : Nat} {v : Value} {es : List (List Value)} {rs : List (Value × List (List Value))} {o : X → List (List Value)}
    (h : FnM P f vs w0 [.row v t s es] φ rv (fun x => [.row v t s (o x)])) (hi : rs[i]? = some (v, es)) : FnMF P f vs w0 [.grp t s rs] F φ rv (fun x => [.grp t s (rs.set i (v, o x))]) := fun w hh => by
  have hh' : HeapOk w0 w ([.row v t s es] ++ (.grp t s (rs.eraseIdx i) :: F)) := HeapOk.focus hh hi
  exact Calls.mono (h w _ hh') fun e w' ⟨x, hx, he, hw⟩ => ⟨x, hx, he, HeapOk.unfocus hi hw⟩
attribute [local irreducible] Go.wpList Go.Code.wp Go.Exit.then Go.Exit.inBlock Go.bodyPost Go.Calls pE pB G RunsV FnV Fn FnM
set_option maxRecDepth 100000
set_option maxHeartbeats 1000000

theorem markIntS_any {w0 : World} {v : Value} {l : List Int} {k : Int} (hk : 0 ≤ k) (hb : k + cntG cntI l ≤ 4611686018427387904) :
    FnM Tryz.prog 28 [v, .int .i64 k] w0 [.row v 3 1 (l.map icell)] (fun _ : Unit => True) (fun _ => .int .i64 (k + cntG cntI l)) (fun _ => [.row v 3 1 ((markG mkI cntI k l).map icell)]) := by
  refine FnM.of (n := 19) Tryz.func28 rfl rfl (fun F => ?_)
  refine G.know (fun w hw => (Rd.owned 0 rfl w hw).le_map) (fun hle => ?_)
  refine G.seq ?_
  refine G.region ?_
  refine G.v (rv_assign rfl) rfl ?_
  refine G.done ?_
  refine G.thenN ?_
  refine G.seq ?_
  refine G.seq ?_
  refine G.region ?_
  refine G.v (rv_assign rfl) rfl ?_
  refine G.done ?_
  refine G.thenN ?_
  refine G.block ?_
  -- loop 0: turned [1, 5], kept [0]
  refine G.loopK (ι := Nat) (ks := [0]) (fun i => [(1, .int .i64 (k + cntG cntI (l.take i))), (5, .int .i64 i)]) (fun i => [.row v 3 1 ((mixG mkI cntI k i l).map icell)]) (fun i => i ≤ l.length) (fun i => l.length - i) 0 (.cons rfl (.nil)) rfl ?_ ?_ ?_
  · exact Nat.zero_le _
  · exact ⟨congrArg (fun z => some (Value.int .i64 z)) (by simp [cntG]), rfl, trivial⟩
  rintro i hi
  have hml : (mixG mkI cntI k i l).length = l.length := mix_len
  have hcl : cntG cntI (l.take (i + 1)) ≤ cntG cntI l := cnt_le _
  by_cases hlt : i < l.length
  case' pos => (obtain ⟨x, hx⟩ := get_of_lt hlt; have he := get_map (mix_get (mk := mkI) (cnt := cntI) (k := k) hx) icell; have hcn : cntG cntI (l.take (i + 1)) = cntG cntI (l.take i) + 1 := cnt_next hx)
  case' neg => (have hal : cntG cntI (l.take i) = cntG cntI l := cnt_all hlt)
  all_goals
   refine G.seq ?_
   refine G.seq ?_
   refine G.region ?_
   refine G.v (rv_move rfl) rfl ?_
   refine G.v (rv_move rfl) rfl ?_
   refine G.v (rv_len rfl (by first | exact Rd.stays (by assumption) | exact Rd.owned 0 rfl)) rfl ?_
   refine G.v (rv_lss rfl rfl) rfl ?_
   refine G.done ?_
   refine G.thenN ?_
   refine G.cond rfl (fun hc => ?_) (fun hc => ?_)
   · try exact Bool.noConfusion hc
     all_goals
      try replace hc := of_decide_eq_true hc
      try simp only [List.length_map, hml] at hc
      try (exfalso; first | contradiction | omega)
      all_goals
       refine G.skip ?_
       refine G.thenN ?_
       refine G.seq ?_
       refine G.block ?_
       refine G.seq ?_
       refine G.region ?_
       refine G.v (rv_move rfl) rfl ?_
       refine G.v (rv_move rfl) rfl ?_
       refine G.v (rv_move rfl) rfl ?_
       (first | refine G.v (rv_indexH rfl rfl (by first | exact Rd.stays (by assumption) | exact Rd.owned 0 rfl) rfl (by first | exact he | exact get_set1 he | exact get_set1 (get_set1 he) | exact get_set1 (get_set1 (get_set1 he)) | exact get_set1 (get_set1 (get_set1 (get_set1 he))) | exact get_set1 (get_set1 (get_set1 (get_set1 (get_set1 he)))) | exact get_set1 (get_set1 (get_set1 (get_set1 (get_set1 (get_set1 he))))))) rfl ?_ | refine G.v (rv_index rfl rfl (by first | exact Rd.stays (by assumption) | exact Rd.owned 0 rfl) rfl (by assumption)) rfl ?_)
       refine G.op0 (og_stE0 rfl rfl rfl (by first | exact he | exact get_set1 he | exact get_set1 (get_set1 he) | exact get_set1 (get_set1 (get_set1 he)) | exact get_set1 (get_set1 (get_set1 (get_set1 he))) | exact get_set1 (get_set1 (get_set1 (get_set1 (get_set1 he)))) | exact get_set1 (get_set1 (get_set1 (get_set1 (get_set1 (get_set1 he)))))) rfl rfl rfl rfl (.zero (.cons .nil))) (fun _ _ => ?_)
       refine G.done ?_
       refine G.thenN ?_
       refine G.region ?_
       refine G.v (rv_move rfl) rfl ?_
       (first | refine G.v (rv_incr rfl rfl (by omega)) rfl ?_ | refine G.v (rv_addB rfl rfl (by omega) (by omega)) rfl ?_)
       refine G.v (rv_assign rfl) rfl ?_
       refine G.done ?_
       refine G.inN ?_
       refine G.thenN ?_
       refine G.region ?_
       refine G.v (rv_move rfl) rfl ?_
       (first | refine G.v (rv_incr rfl rfl (by omega)) rfl ?_ | refine G.v (rv_addB rfl rfl (by omega) (by omega)) rfl ?_)
       refine G.v (rv_assign rfl) rfl ?_
       refine G.done ?_
       first | refine G.backK (i + 1) 0 (one_eq (congrArg (fun z => Ch.row v 3 1 z) (mix_map hx))) (.cons rfl (.nil)) ?_ ?_ ?_
       · exact ⟨congrArg (fun z => some (Value.int .i64 z)) (by omega), rfl, trivial⟩
       · exact hlt
       · omega
   · try exact Bool.noConfusion hc
     all_goals
      try replace hc := of_decide_eq_false hc
      try simp only [List.length_map, hml] at hc
      try (exfalso; first | contradiction | omega)
      all_goals
       refine G.exit ?_
       refine G.thenX ?_
       refine G.thenX ?_
       refine G.inX ?_
       refine G.thenN ?_
       refine G.seq ?_
       refine G.region ?_
       refine G.v (rv_move rfl) rfl ?_
       refine G.v (rv_assign rfl) rfl ?_
       refine G.done ?_
       refine G.thenN ?_
       refine G.ret ?_
       exact G.retF () trivial rfl rfl (congrArg (Value.int .i64) (by rw [hal])) (fun w hw => by rw [mix_all hlt] at hw; exact hw)
theorem heldIntS_any {v : Value} {l : List Int} {k : Int} (w : World) (h : Rd w v 1 (l.map icell)) (hm : markG mkI cntI k l = l) (hk : 0 ≤ k) (hb : k + cntG cntI l ≤ 4611686018427387904) :
    FnV Tryz.prog 29 [v, .int .i64 k] w (.int .i64 (k + cntG cntI l)) := by
  have hle := h.le_map
  refine FnV.of (n := 21) Tryz.func29 rfl rfl ?_
  refine G.seq ?_
  refine G.region ?_
  refine G.v (rv_assign rfl) rfl ?_
  refine G.done ?_
  refine G.thenN ?_
  refine G.seq ?_
  refine G.seq ?_
  refine G.region ?_
  refine G.v (rv_assign rfl) rfl ?_
  refine G.done ?_
  refine G.thenN ?_
  refine G.block ?_
  -- loop 0: turned [1, 5], kept [0]
  refine G.loopK (ι := Nat) (ks := [0]) (fun i => [(1, .int .i64 (k + cntG cntI (l.take i))), (5, .int .i64 i)]) (fun _ => []) (fun i => i ≤ l.length) (fun i => l.length - i) 0 (.cons rfl (.nil)) rfl ?_ ?_ ?_
  · exact Nat.zero_le _
  · exact ⟨congrArg (fun z => some (Value.int .i64 z)) (by simp [cntG]), rfl, trivial⟩
  rintro i hi
  have hcl : cntG cntI (l.take (i + 1)) ≤ cntG cntI l := cnt_le _
  by_cases hlt : i < l.length
  case' pos => (obtain ⟨x, hx⟩ := get_of_lt hlt; have he := get_map hx icell; have hcn : cntG cntI (l.take (i + 1)) = cntG cntI (l.take i) + 1 := cnt_next hx; have hq := held_at hm hx; have hq1 : x = k + cntG cntI (l.take i) := hq)
  case' neg => (have hal : cntG cntI (l.take i) = cntG cntI l := cnt_all hlt)
  all_goals
   refine G.seq ?_
   refine G.seq ?_
   refine G.region ?_
   refine G.v (rv_move rfl) rfl ?_
   refine G.v (rv_move rfl) rfl ?_
   refine G.v (rv_len rfl (by first | exact Rd.stays (by assumption))) rfl ?_
   refine G.v (rv_lss rfl rfl) rfl ?_
   refine G.done ?_
   refine G.thenN ?_
   refine G.cond rfl (fun hc => ?_) (fun hc => ?_)
   · try exact Bool.noConfusion hc
     all_goals
      try replace hc := of_decide_eq_true hc
      try simp only [List.length_map] at hc
      try (exfalso; first | contradiction | omega)
      all_goals
       refine G.skip ?_
       refine G.thenN ?_
       refine G.seq ?_
       refine G.block ?_
       refine G.seq ?_
       refine G.seq ?_
       refine G.region ?_
       refine G.v (rv_move rfl) rfl ?_
       refine G.v (rv_move rfl) rfl ?_
       (first | refine G.v (rv_indexH rfl rfl (by first | exact Rd.stays (by assumption)) rfl (by first | exact he)) rfl ?_ | refine G.v (rv_index rfl rfl (by first | exact Rd.stays (by assumption)) rfl (by assumption)) rfl ?_)
       refine G.v (rv_loadE rfl (by first | exact Rd.stays (by assumption)) (by first | exact he) rfl) rfl ?_
       refine G.v (rv_move rfl) rfl ?_
       refine G.v (rv_neq rfl rfl) rfl ?_
       refine G.done ?_
       refine G.thenN ?_
       refine G.cond rfl (fun hc => ?_) (fun hc => ?_)
       · try exact Bool.noConfusion hc
         all_goals
          try replace hc := of_decide_eq_true hc
          try simp only [List.length_map] at hc
          try (exfalso; first | contradiction | omega)
          all_goals
           refine G.seq ?_
           refine G.region ?_
           refine G.v (rv_assign rfl) rfl ?_
           refine G.done ?_
           refine G.thenN ?_
           refine G.ret ?_
           refine G.thenR ?_
           refine G.inR ?_
           refine G.thenR ?_
           refine G.thenR ?_
           refine G.inR ?_
           refine G.thenR ?_
           exact G.retFV rfl rfl (congrArg (Value.int .i64) (by rw [hal]))
       · try exact Bool.noConfusion hc
         all_goals
          try replace hc := of_decide_eq_false hc
          try simp only [List.length_map] at hc
          try (exfalso; first | contradiction | omega)
          all_goals
           refine G.skip ?_
           refine G.thenN ?_
           refine G.region ?_
           refine G.v (rv_move rfl) rfl ?_
           (first | refine G.v (rv_incr rfl rfl (by omega)) rfl ?_ | refine G.v (rv_addB rfl rfl (by omega) (by omega)) rfl ?_)
           refine G.v (rv_assign rfl) rfl ?_
           refine G.done ?_
           refine G.inN ?_
           refine G.thenN ?_
           refine G.region ?_
           refine G.v (rv_move rfl) rfl ?_
           (first | refine G.v (rv_incr rfl rfl (by omega)) rfl ?_ | refine G.v (rv_addB rfl rfl (by omega) (by omega)) rfl ?_)
           refine G.v (rv_assign rfl) rfl ?_
           refine G.done ?_
           first | refine G.backK (i + 1) 0 rfl (.cons rfl (.nil)) ?_ ?_ ?_
           · exact ⟨congrArg (fun z => some (Value.int .i64 z)) (by omega), rfl, trivial⟩
           · exact hlt
           · omega
   · try exact Bool.noConfusion hc
     all_goals
      try replace hc := of_decide_eq_false hc
      try simp only [List.length_map] at hc
      try (exfalso; first | contradiction | omega)
      all_goals
       refine G.exit ?_
       refine G.thenX ?_
       refine G.thenX ?_
       refine G.inX ?_
       refine G.thenN ?_
       refine G.seq ?_
       refine G.region ?_
       refine G.v (rv_move rfl) rfl ?_
       refine G.v (rv_assign rfl) rfl ?_
       refine G.done ?_
       refine G.thenN ?_
       refine G.ret ?_
       exact G.retFV rfl rfl (congrArg (Value.int .i64) (by rw [hal]))
theorem heldIntS_marked {v : Value} {l : List Int} {k : Int} (w : World) (h : Rd w v 1 ((markG mkI cntI k l).map icell)) (hk : 0 ≤ k) (hb : k + cntG cntI l ≤ 4611686018427387904) :
    FnV Tryz.prog 29 [v, .int .i64 k] w (.int .i64 (k + cntG cntI l)) := by
  have hc := mark_cnt (mk := mkI) (cnt := cntI) (fun _ _ => rfl) l k
  have := heldIntS_any w h (mark_mark (mk := mkI) (cnt := cntI) (fun _ _ => rfl) (fun _ _ => rfl) l k) hk (by rw [hc]; exact hb)
  rwa [hc] at this
def mkBoxM (k : Int) (_ : BoxM) : BoxM := ⟨k, k + 1, k + 1 + 1, k + 1 + 1 + 1⟩
def cntBoxM (_ : BoxM) : Nat := 4
def mkSpotM (k : Int) (_ : SpotM) : SpotM := ⟨k, k + 1, k + 1 + 1, k + 1 + 1 + 1⟩
def cntSpotM (_ : SpotM) : Nat := 4
def mkCartonM (k : Int) (t : CartonM × Value) : CartonM × Value := (⟨k, k + 1, markG mkI cntI (k + 1 + 1) t.1.l⟩, t.2)
def cntCartonM (t : CartonM × Value) : Nat := cntG cntI t.1.l + 2
theorem cntCartonM_same (k : Int) (t : CartonM × Value) : cntCartonM (mkCartonM k t) = cntCartonM t := by simp only [cntCartonM, mkCartonM, mark_cnt (mk := mkI) (cnt := cntI) (fun _ _ => rfl)]
theorem mkCartonM_same (k : Int) (t : CartonM × Value) : mkCartonM k (mkCartonM k t) = mkCartonM k t := by simp only [mkCartonM, mark_cnt (mk := mkI) (cnt := cntI) (fun _ _ => rfl), mark_mark (mk := mkI) (cnt := cntI) (fun _ _ => rfl) (fun _ _ => rfl)]
theorem cntCartonM_fst {l m : List (CartonM × Value)} (h : l.map Prod.fst = m.map Prod.fst) : cntG cntCartonM l = cntG cntCartonM m := by
  have e : ∀ l : List (CartonM × Value), cntG cntCartonM l = ((l.map Prod.fst).map fun t => cntG cntI t.l + 2).sum := fun l => by rw [List.map_map]; rfl
  rw [e, e, h]
theorem cntCartonM_tot (l : List (CartonM × Value)) : cntG cntCartonM l ≤ 2 * tot CartonM.l l := by
  induction l with
  | nil => simp [cntG, tot]
  | cons x r ih =>
    have hI := cntI_len x.1.l
    simp only [cntG, tot, List.map_cons, List.sum_cons, List.length_cons, cntCartonM] at ih hI ⊢
    omega
def mkShelfM (k : Int) (t : ShelfM × Value) : ShelfM × Value := (⟨markG mkI cntI (k) t.1.l, k + cntG cntI t.1.l, k + cntG cntI t.1.l + 1, k + cntG cntI t.1.l + 1 + 1, k + cntG cntI t.1.l + 1 + 1 + 1⟩, t.2)
def cntShelfM (t : ShelfM × Value) : Nat := cntG cntI t.1.l + 4
theorem cntShelfM_same (k : Int) (t : ShelfM × Value) : cntShelfM (mkShelfM k t) = cntShelfM t := by simp only [cntShelfM, mkShelfM, mark_cnt (mk := mkI) (cnt := cntI) (fun _ _ => rfl)]
theorem mkShelfM_same (k : Int) (t : ShelfM × Value) : mkShelfM k (mkShelfM k t) = mkShelfM k t := by simp only [mkShelfM, mark_cnt (mk := mkI) (cnt := cntI) (fun _ _ => rfl), mark_mark (mk := mkI) (cnt := cntI) (fun _ _ => rfl) (fun _ _ => rfl)]
theorem cntShelfM_fst {l m : List (ShelfM × Value)} (h : l.map Prod.fst = m.map Prod.fst) : cntG cntShelfM l = cntG cntShelfM m := by
  have e : ∀ l : List (ShelfM × Value), cntG cntShelfM l = ((l.map Prod.fst).map fun t => cntG cntI t.l + 4).sum := fun l => by rw [List.map_map]; rfl
  rw [e, e, h]
theorem cntShelfM_tot (l : List (ShelfM × Value)) : cntG cntShelfM l ≤ 4 * tot ShelfM.l l := by
  induction l with
  | nil => simp [cntG, tot]
  | cons x r ih =>
    have hI := cntI_len x.1.l
    simp only [cntG, tot, List.map_cons, List.sum_cons, List.length_cons, cntShelfM] at ih hI ⊢
    omega
def mkLayerM (k : Int) (t : LayerM × Value) : LayerM × Value := (⟨markG mkI cntI (k) t.1.l, k + cntG cntI t.1.l, k + cntG cntI t.1.l + 1, k + cntG cntI t.1.l + 1 + 1⟩, t.2)
def cntLayerM (t : LayerM × Value) : Nat := cntG cntI t.1.l + 3
theorem cntLayerM_same (k : Int) (t : LayerM × Value) : cntLayerM (mkLayerM k t) = cntLayerM t := by simp only [cntLayerM, mkLayerM, mark_cnt (mk := mkI) (cnt := cntI) (fun _ _ => rfl)]
theorem mkLayerM_same (k : Int) (t : LayerM × Value) : mkLayerM k (mkLayerM k t) = mkLayerM k t := by simp only [mkLayerM, mark_cnt (mk := mkI) (cnt := cntI) (fun _ _ => rfl), mark_mark (mk := mkI) (cnt := cntI) (fun _ _ => rfl) (fun _ _ => rfl)]
theorem cntLayerM_fst {l m : List (LayerM × Value)} (h : l.map Prod.fst = m.map Prod.fst) : cntG cntLayerM l = cntG cntLayerM m := by
  have e : ∀ l : List (LayerM × Value), cntG cntLayerM l = ((l.map Prod.fst).map fun t => cntG cntI t.l + 3).sum := fun l => by rw [List.map_map]; rfl
  rw [e, e, h]
theorem cntLayerM_tot (l : List (LayerM × Value)) : cntG cntLayerM l ≤ 3 * tot LayerM.l l := by
  induction l with
  | nil => simp [cntG, tot]
  | cons x r ih =>
    have hI := cntI_len x.1.l
    simp only [cntG, tot, List.map_cons, List.sum_cons, List.length_cons, cntLayerM] at ih hI ⊢
    omega
def mkLoadM (k : Int) (t : LoadM × Value) : LoadM × Value := (⟨markG mkI cntI (k) t.1.l, k + cntG cntI t.1.l, k + cntG cntI t.1.l + 1⟩, t.2)
def cntLoadM (t : LoadM × Value) : Nat := cntG cntI t.1.l + 2
theorem cntLoadM_same (k : Int) (t : LoadM × Value) : cntLoadM (mkLoadM k t) = cntLoadM t := by simp only [cntLoadM, mkLoadM, mark_cnt (mk := mkI) (cnt := cntI) (fun _ _ => rfl)]
theorem mkLoadM_same (k : Int) (t : LoadM × Value) : mkLoadM k (mkLoadM k t) = mkLoadM k t := by simp only [mkLoadM, mark_cnt (mk := mkI) (cnt := cntI) (fun _ _ => rfl), mark_mark (mk := mkI) (cnt := cntI) (fun _ _ => rfl) (fun _ _ => rfl)]
theorem cntLoadM_fst {l m : List (LoadM × Value)} (h : l.map Prod.fst = m.map Prod.fst) : cntG cntLoadM l = cntG cntLoadM m := by
  have e : ∀ l : List (LoadM × Value), cntG cntLoadM l = ((l.map Prod.fst).map fun t => cntG cntI t.l + 2).sum := fun l => by rw [List.map_map]; rfl
  rw [e, e, h]
theorem cntLoadM_tot (l : List (LoadM × Value)) : cntG cntLoadM l ≤ 2 * tot LoadM.l l := by
  induction l with
  | nil => simp [cntG, tot]
  | cons x r ih =>
    have hI := cntI_len x.1.l
    simp only [cntG, tot, List.map_cons, List.sum_cons, List.length_cons, cntLoadM] at ih hI ⊢
    omega
end Go.Proofs.YtpmphkcibiimcaaGreat
