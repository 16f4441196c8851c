/-
  Texts of this proof, one behind the other: Marks, Eqs, Bits, Swap, Slc, PileM, SortM, Sorts, SortU, SortUp, Req1, Req2.
-/
import Derived.Test.YtglpgohilfoecaaGreatPkbA
import Derived.ChangeKeysEq
import Derived.Laws.StructEq
set_option linter.unusedVariables false
set_option linter.unusedSimpArgs false

/-
  Things that are marked by numbers that go up, and held against these.
-/
namespace Go.Proofs.YtglpgohilfoecaaGreat
open Go.RowKit

section
variable {α : Type} (mk : Int → α → α) (cnt : α → Nat)
def markG : Int → List α → List α
  | _, [] => []
  | k, x :: r => mk k x :: markG (k + cnt x) r
def cntG (l : List α) : Nat := (l.map cnt).sum
def mixG (k : Int) (i : Nat) (l : List α) : List α := markG mk cnt k (l.take i) ++ l.drop i
end
section
variable {α : Type} {mk : Int → α → α} {cnt : α → Nat} {k : Int} {l : List α} {i : Nat} {x : α}
theorem markG_len : ∀ (l : List α) (k : Int), (markG mk cnt k l).length = l.length
  | [], _ => rfl
  | x :: r, k => by simp [markG, markG_len r]
theorem mix_len : (mixG mk cnt k i l).length = l.length := by
  rw [mixG, List.length_append, markG_len, List.length_take, List.length_drop]; omega
theorem mix_get (h : l[i]? = some x) : (mixG mk cnt k i l)[i]? = some x := by
  have hi : i < l.length := by
    rcases Nat.lt_or_ge i l.length with h1 | h1
    · exact h1
    · rw [List.getElem?_eq_none h1] at h; cases h
  have h1 : (markG mk cnt k (l.take i)).length = i := by rw [markG_len, List.length_take]; omega
  rw [mixG, List.getElem?_append_right zc, h1, Nat.sub_self, List.getElem?_drop]; exact h
theorem cnt_next (h : l[i]? = some x) : cntG cnt (l.take (i + 1)) = cntG cnt (l.take i) + cnt x := by
  rw [List.take_add_one, h]; simp [cntG]
theorem cnt_le (i : Nat) : cntG cnt (l.take i) ≤ cntG cnt l := by
  have h : cntG cnt l = cntG cnt (l.take i) + cntG cnt (l.drop i) := by
    have : l = l.take i ++ l.drop i := (List.take_append_drop i l).symm
    conv => lhs; rw [this]
    simp only [cntG, List.map_append, List.sum_append]
  omega
theorem cnt_all (h : ¬ i < l.length) : cntG cnt (l.take i) = cntG cnt l := by rw [List.take_of_length_le (by omega)]
theorem markG_snoc : ∀ (l : List α) (k : Int) (x : α), markG mk cnt k (l ++ [x]) = markG mk cnt k l ++ [mk (k + cntG cnt l) x]
  | [], k, x => by simp [markG, cntG]
  | y :: r, k, x => by
    simp only [List.cons_append, markG, markG_snoc r]
    rw [show k + (cnt y : Int) + cntG cnt r = k + cntG cnt (y :: r) from by simp [cntG]; omega]
theorem mix_set (h : l[i]? = some x) : (mixG mk cnt k i l).set i (mk (k + cntG cnt (l.take i)) x) = mixG mk cnt k (i + 1) l := by
  have hi : i < l.length := by
    rcases Nat.lt_or_ge i l.length with h1 | h1
    · exact h1
    · rw [List.getElem?_eq_none h1] at h; cases h
  have h1 : (markG mk cnt k (l.take i)).length = i := by rw [markG_len, List.length_take]; omega
  have hd : l.drop i = x :: l.drop (i + 1) := by
    rw [List.drop_eq_getElem_cons hi]
    congr 1
    rw [List.getElem?_eq_getElem hi] at h; exact Option.some.inj h
  rw [mixG, mixG, List.set_append_right _ _ zc, h1, Nat.sub_self, hd, List.set_cons_zero, List.take_add_one, h]
  simp only [Option.toList, markG_snoc]
  simp
theorem mix_map {β : Type} {c : α → β} (h : l[i]? = some x) : ((mixG mk cnt k i l).map c).set i (c (mk (k + cntG cnt (l.take i)) x)) = (mixG mk cnt k (i + 1) l).map c := by
  rw [← mix_set h, List.map_set]
theorem mix_all (h : ¬ i < l.length) : mixG mk cnt k i l = markG mk cnt k l := by
  rw [mixG, List.take_of_length_le zc, List.drop_eq_nil_of_le zc]; simp
theorem mark_at : ∀ {l : List α} {k : Int} {i : Nat} {x : α}, l[i]? = some x → (markG mk cnt k l)[i]? = some (mk (k + cntG cnt (l.take i)) x)
  | [], _, i, _, h => by simp at h
  | y :: r, k, 0, x, h => by
    simp only [List.getElem?_cons_zero, Option.some.injEq] at h
    subst h; simp [markG, cntG]
  | y :: r, k, i + 1, x, h => by
    simp only [List.getElem?_cons_succ] at h
    have := mark_at (k := k + cnt y) h
    simp only [markG, List.getElem?_cons_succ, this, List.take_succ_cons]
    rw [show k + (cnt y : Int) + cntG cnt (r.take i) = k + cntG cnt (y :: r.take i) from by simp [cntG]; omega]
theorem held_at (hm : markG mk cnt k l = l) (h : l[i]? = some x) : x = mk (k + cntG cnt (l.take i)) x := by
  have := mark_at (mk := mk) (cnt := cnt) (k := k) h
  rw [hm, h] at this; exact Option.some.inj this
theorem mark_cnt (hc : ∀ k x, cnt (mk k x) = cnt x) : ∀ (l : List α) (k : Int), cntG cnt (markG mk cnt k l) = cntG cnt l
  | [], _ => rfl
  | x :: r, k => by
    have := mark_cnt hc r (k + cnt x)
    simp only [cntG, markG, List.map_cons, List.sum_cons, hc] at this ⊢
    omega
theorem mark_mark (hc : ∀ k x, cnt (mk k x) = cnt x) (hm : ∀ k x, mk k (mk k x) = mk k x) : ∀ (l : List α) (k : Int), markG mk cnt k (markG mk cnt k l) = markG mk cnt k l
  | [], _ => rfl
  | x :: r, k => by simp only [markG, hm, hc, mark_mark hc hm r]
end
theorem get_set1 {β : Type} {es : List β} {i : Nat} {x y : β} (h : es[i]? = some x) : (es.set i y)[i]? = some y := by
  have hi : i < es.length := by
    rcases Nat.lt_or_ge i es.length with h1 | h1
    · exact h1
    · rw [List.getElem?_eq_none h1] at h; cases h
  rw [List.getElem?_set_self hi]
theorem get_mapS {M : Type} {f : M → List Int} {l : List (M × Value)} {i : Nat} {x : M × Value} (h : l[i]? = some x) : (l.map (sub f))[i]? = some (x.2, (f x.1).map icell) := by rw [List.getElem?_map, h]; rfl
theorem two_eq {a a' b b' : Ch} {F : List Ch} (h1 : a = a') (h2 : b = b') : a :: b :: F = [a', b'] ++ F := by subst h1 h2; rfl
theorem one_eq {a a' : Ch} {F : List Ch} (h1 : a = a') : a :: F = [a'] ++ F := by subst h1; rfl
def whereG {α : Type} (p : α → Bool) (l : List α) : List Int := (l.zipIdx.filter fun x => p x.1).map fun x => (x.2 : Int)
theorem cnt_const {α : Type} {cnt : α → Nat} {m : Nat} (h : ∀ x, cnt x = m) (l : List α) : cntG cnt l = m * l.length := by
  induction l with
  | nil => rfl
  | cons x r ih => simp only [cntG, List.map_cons, List.sum_cons, List.length_cons, h] at ih ⊢; rw [ih, Nat.mul_add]; omega
def mkI (k : Int) (_ : Int) : Int := k
def cntI (_ : Int) : Nat := 1
theorem cntI_len (l : List Int) : cntG cntI l = l.length := by
  induction l with
  | nil => rfl
  | cons x r ih => simp only [cntG, List.map_cons, List.sum_cons, List.length_cons] at ih ⊢; rw [ih]; simp [cntI]; omega
/-- A call that turns a row turns it within a group, too. -/
theorem FnMF.grp {P : Program} {f : FuncId} {vs : List Value} {w0 : World} {F : List Ch} {X : Type} {φ : X → Prop} {rv : X → Value} {t : TypeId} {s i : Nat} {v : Value} {es : List (List Value)} {rs : List (Value × List (List Value))} {o : X → List (List Value)}
    (h : FnM P f vs w0 [.row v t s es] φ rv (fun x => [.row v t s (o x)])) (hi : rs[i]? = some (v, es)) : FnMF P f vs w0 [.grp t s rs] F φ rv (fun x => [.grp t s (rs.set i (v, o x))]) := fun w hh => by
  have hh' : HeapOk w0 w ([.row v t s es] ++ (.grp t s (rs.eraseIdx i) :: F)) := HeapOk.focus hh hi
  exact Calls.mono (h w _ hh') fun e w' ⟨x, hx, he, hw⟩ => ⟨x, hx, he, HeapOk.unfocus hi hw⟩
attribute [local irreducible] Go.wpList Go.Code.wp Go.Exit.then Go.Exit.inBlock Go.bodyPost Go.Calls pE pB G RunsV FnV Fn FnM
set_option maxRecDepth 100000
set_option maxHeartbeats 1000000

theorem markIntS_any {w0 : World} {v : Value} {l : List Int} {k : Int} (hk : 0 ≤ k) (hb : k + cntG cntI l ≤ 4611686018427387904) :
    FnM Tryz.prog 121 [v, .int .i64 k] w0 [.row v 3 1 (l.map icell)] (fun _ : Unit => True) (fun _ => .int .i64 (k + cntG cntI l)) (fun _ => [.row v 3 1 ((markG mkI cntI k l).map icell)]) := by
  refine FnM.of (n := 19) Tryz.func121 rfl rfl (fun F => ?_); refine zeB (fun hle => ?_); refine zdi ?_; refine G.loopK (ι := Nat) (ks := [0]) (fun i => [(1, .int .i64 (k + cntG cntI (l.take i))), (5, .int .i64 i)]) (fun i => [.row v 3 1 ((mixG mkI cntI k i l).map icell)]) (fun i => i ≤ l.length) (fun i => l.length - i) 0 (.cons rfl (.nil)) rfl ?_ ?_ ?_
  exact Nat.zero_le _
  exact ⟨congrArg (fun z => some (Value.int .i64 z)) (by simp [cntG]), rfl, trivial⟩
  rintro i hi
  have hml : (mixG mkI cntI k i l).length = l.length := mix_len
  have hcl : cntG cntI (l.take (i + 1)) ≤ cntG cntI l := cnt_le _
  by_cases hlt : i < l.length
  case' pos => (obtain ⟨x, hx⟩ := get_of_lt hlt; have he := get_map (mix_get (mk := mkI) (cnt := cntI) (k := k) hx) icell; have hcn : cntG cntI (l.take (i + 1)) = cntG cntI (l.take i) + 1 := cnt_next hx)
  case' neg => (have hal : cntG cntI (l.take i) = cntG cntI l := cnt_all hlt)
  all_goals
   refine zcT ?_; refine zcI ?_; refine zaI ?_; refine G.cond rfl (fun hc => ?_) (fun hc => ?_)
   · all_goals
      replace hc := of_decide_eq_true hc
      simp only [List.length_map, hml] at hc
      try (exfalso; omega)
      all_goals
       refine zaQ ?_; refine zca ?_; refine G.v (rv_indexH rfl rfl ze rfl zm) rfl ?_; refine G.op0 (og_stE0 rfl rfl rfl zm rfl rfl rfl rfl (.zero (.cons .nil))) (fun _ _ => ?_); refine za1 ?_; refine zbi ?_; refine zbT ?_; refine zeC ?_; refine G.backK (i + 1) 0 (one_eq (congrArg (fun z => Ch.row v 3 1 z) (mix_map hx))) (.cons rfl (.nil)) ?_ ?_ ?_
       exact ⟨congrArg (fun z => some (Value.int .i64 z)) zc, rfl, trivial⟩
       exact hlt
       omega
   · all_goals
      replace hc := of_decide_eq_false hc
      simp only [List.length_map, hml] at hc
      try (exfalso; omega)
      all_goals
       refine zce ?_
       exact G.retF () trivial rfl rfl (congrArg (Value.int .i64) (by rw [hal])) (fun w hw => by rw [mix_all hlt] at hw; exact hw)
theorem heldIntS_any {v : Value} {l : List Int} {k : Int} (w : World) (h : Rd w v 1 (l.map icell)) (hm : markG mkI cntI k l = l) (hk : 0 ≤ k) (hb : k + cntG cntI l ≤ 4611686018427387904) :
    FnV Tryz.prog 122 [v, .int .i64 k] w (.int .i64 (k + cntG cntI l)) := by
  have hle := h.le_map
  refine FnV.of (n := 21) Tryz.func122 rfl rfl ?_; refine zdi ?_; refine G.loopK (ι := Nat) (ks := [0]) (fun i => [(1, .int .i64 (k + cntG cntI (l.take i))), (5, .int .i64 i)]) (fun _ => []) (fun i => i ≤ l.length) (fun i => l.length - i) 0 (.cons rfl (.nil)) rfl ?_ ?_ ?_
  exact Nat.zero_le _
  exact ⟨congrArg (fun z => some (Value.int .i64 z)) (by simp [cntG]), rfl, trivial⟩
  rintro i hi
  have hcl : cntG cntI (l.take (i + 1)) ≤ cntG cntI l := cnt_le _
  by_cases hlt : i < l.length
  case' pos => (obtain ⟨x, hx⟩ := get_of_lt hlt; have he := get_map hx icell; have hcn : cntG cntI (l.take (i + 1)) = cntG cntI (l.take i) + 1 := cnt_next hx; have hq := held_at hm hx; have hq1 : x = k + cntG cntI (l.take i) := hq)
  case' neg => (have hal : cntG cntI (l.take i) = cntG cntI l := cnt_all hlt)
  all_goals
   refine zbv ?_; refine G.cond rfl (fun hc => ?_) (fun hc => ?_)
   · all_goals
      replace hc := of_decide_eq_true hc
      simp only [List.length_map] at hc
      try (exfalso; omega)
      all_goals
       refine zaQ ?_; refine zcT ?_; refine G.v (rv_indexH rfl rfl zb rfl zm) rfl ?_; refine G.v (rv_loadE rfl zb zm rfl) rfl ?_; refine zaC ?_; refine zci ?_; refine G.cond rfl (fun hc => ?_) (fun hc => ?_)
       · all_goals
          replace hc := of_decide_eq_true hc
          exfalso; contradiction
       · all_goals
          replace hc := of_decide_eq_false hc
          all_goals
           refine zbR ?_; refine zbi ?_; refine zbT ?_; refine zeC ?_; refine G.backK (i + 1) 0 rfl (.cons rfl (.nil)) ?_ ?_ ?_
           exact ⟨congrArg (fun z => some (Value.int .i64 z)) zc, rfl, trivial⟩
           exact hlt
           omega
   · all_goals
      replace hc := of_decide_eq_false hc
      simp only [List.length_map] at hc
      try (exfalso; omega)
      all_goals
       refine zce ?_
       exact G.retFV rfl rfl (congrArg (Value.int .i64) (by rw [hal]))
def mkBoxM (k : Int) (_ : BoxM) : BoxM := ⟨k, k + 1, k + 1 + 1, k + 1 + 1 + 1⟩
def cntBoxM (_ : BoxM) : Nat := 4
def mkSpotM (k : Int) (_ : SpotM) : SpotM := ⟨k, k + 1, k + 1 + 1, k + 1 + 1 + 1⟩
def cntSpotM (_ : SpotM) : Nat := 4
theorem markSpotS_any {w0 : World} {v : Value} {l : List SpotM} {k : Int} (hk : 0 ≤ k) (hb : k + cntG cntSpotM l ≤ 4611686018427387904) :
    FnM Tryz.prog 66 [v, .int .i64 k] w0 [.row v 86 4 (l.map SpotM.cells)] (fun _ : Unit => True) (fun _ => .int .i64 (k + cntG cntSpotM l)) (fun _ => [.row v 86 4 ((markG mkSpotM cntSpotM k l).map SpotM.cells)]) := by
  refine FnM.of (n := 41) Tryz.func66 rfl rfl (fun F => ?_); refine zeB (fun hle => ?_); refine zdi ?_; refine G.loopK (ι := Nat) (ks := [0]) (fun i => [(1, .int .i64 (k + cntG cntSpotM (l.take i))), (5, .int .i64 i)]) (fun i => [.row v 86 4 ((mixG mkSpotM cntSpotM k i l).map SpotM.cells)]) (fun i => i ≤ l.length) (fun i => l.length - i) 0 (.cons rfl (.nil)) rfl ?_ ?_ ?_
  exact Nat.zero_le _
  exact ⟨congrArg (fun z => some (Value.int .i64 z)) (by simp [cntG]), rfl, trivial⟩
  rintro i hi
  have hml : (mixG mkSpotM cntSpotM k i l).length = l.length := mix_len
  have hcl : cntG cntSpotM (l.take (i + 1)) ≤ cntG cntSpotM l := cnt_le _
  by_cases hlt : i < l.length
  case' pos => (obtain ⟨x, hx⟩ := get_of_lt hlt; have he := get_map (mix_get (mk := mkSpotM) (cnt := cntSpotM) (k := k) hx) SpotM.cells; have hcn : cntG cntSpotM (l.take (i + 1)) = cntG cntSpotM (l.take i) + 4 := cnt_next hx)
  case' neg => (have hal : cntG cntSpotM (l.take i) = cntG cntSpotM l := cnt_all hlt)
  all_goals
   refine zcT ?_; refine zcI ?_; refine zaI ?_; refine G.cond rfl (fun hc => ?_) (fun hc => ?_)
   · all_goals
      replace hc := of_decide_eq_true hc
      simp only [List.length_map, hml] at hc
      try (exfalso; omega)
      all_goals
       refine zaQ ?_; refine zca ?_; refine zcJ (fun _ _ => ?_); refine zbf ?_; refine zcH (fun _ _ => ?_); refine zbf ?_
       refine zdh (fun _ _ => ?_); refine zbf ?_; refine zc8 (fun _ _ => ?_); refine za1 ?_; refine zbi ?_; refine zbT ?_; refine zeC ?_
       refine G.backK (i + 1) 0 (one_eq (congrArg (fun z => Ch.row v 86 4 z) (by rw [List.set_set, List.set_set, List.set_set]; exact mix_map hx))) (.cons rfl (.nil)) ?_ ?_ ?_
       exact ⟨congrArg (fun z => some (Value.int .i64 z)) zc, rfl, trivial⟩
       exact hlt
       omega
   · all_goals
      replace hc := of_decide_eq_false hc
      simp only [List.length_map, hml] at hc
      try (exfalso; omega)
      all_goals
       refine zce ?_
       exact G.retF () trivial rfl rfl (congrArg (Value.int .i64) (by rw [hal])) (fun w hw => by rw [mix_all hlt] at hw; exact hw)
theorem heldSpotS_any {v : Value} {l : List SpotM} {k : Int} (w : World) (h : Rd w v 4 (l.map SpotM.cells)) (hm : markG mkSpotM cntSpotM k l = l) (hk : 0 ≤ k) (hb : k + cntG cntSpotM l ≤ 4611686018427387904) :
    FnV Tryz.prog 68 [v, .int .i64 k] w (.int .i64 (k + cntG cntSpotM l)) := by
  have hle := h.le_map
  refine FnV.of (n := 49) Tryz.func68 rfl rfl ?_; refine zdi ?_; refine G.loopK (ι := Nat) (ks := [0]) (fun i => [(1, .int .i64 (k + cntG cntSpotM (l.take i))), (5, .int .i64 i)]) (fun _ => []) (fun i => i ≤ l.length) (fun i => l.length - i) 0 (.cons rfl (.nil)) rfl ?_ ?_ ?_
  exact Nat.zero_le _
  exact ⟨congrArg (fun z => some (Value.int .i64 z)) (by simp [cntG]), rfl, trivial⟩
  rintro i hi
  have hcl : cntG cntSpotM (l.take (i + 1)) ≤ cntG cntSpotM l := cnt_le _
  by_cases hlt : i < l.length
  case' pos => (obtain ⟨x, hx⟩ := get_of_lt hlt; have he := get_map hx SpotM.cells; have hcn : cntG cntSpotM (l.take (i + 1)) = cntG cntSpotM (l.take i) + 4 := cnt_next hx; have hq := held_at hm hx; have hq0 : x.p = k + cntG cntSpotM (l.take i) := congrArg SpotM.p hq; have hq1 : x.x = k + cntG cntSpotM (l.take i) + 1 := congrArg SpotM.x hq; have hq2 : x.y = k + cntG cntSpotM (l.take i) + 1 + 1 := congrArg SpotM.y hq; have hq3 : x.z = k + cntG cntSpotM (l.take i) + 1 + 1 + 1 := congrArg SpotM.z hq)
  case' neg => (have hal : cntG cntSpotM (l.take i) = cntG cntSpotM l := cnt_all hlt)
  all_goals
   refine zbv ?_; refine G.cond rfl (fun hc => ?_) (fun hc => ?_)
   · all_goals
      replace hc := of_decide_eq_true hc
      simp only [List.length_map] at hc
      try (exfalso; omega)
      all_goals
       refine zaQ ?_; refine G.seq ?_; refine zbD ?_; refine G.cond rfl (fun hc => ?_) (fun hc => ?_)
       · all_goals
          replace hc := of_decide_eq_true hc
          exfalso; contradiction
       · all_goals
          replace hc := of_decide_eq_false hc
          all_goals
           refine zbR ?_; refine zaD ?_; refine zbT ?_; refine zba ?_; refine zbD ?_; refine G.cond rfl (fun hc => ?_) (fun hc => ?_)
           · all_goals
              replace hc := of_decide_eq_true hc
              exfalso; contradiction
           · all_goals
              replace hc := of_decide_eq_false hc
              all_goals
               refine zbR ?_; refine zaD ?_; refine zbT ?_; refine zba ?_; refine zbD ?_; refine G.cond rfl (fun hc => ?_) (fun hc => ?_)
               · all_goals
                  replace hc := of_decide_eq_true hc
                  exfalso; contradiction
               · all_goals
                  replace hc := of_decide_eq_false hc
                  all_goals
                   refine zbR ?_; refine zaD ?_; refine zbT ?_; refine zba ?_; refine zbD ?_; refine G.cond rfl (fun hc => ?_) (fun hc => ?_)
                   · all_goals
                      replace hc := of_decide_eq_true hc
                      exfalso; contradiction
                   · all_goals
                      replace hc := of_decide_eq_false hc
                      all_goals
                       refine zbR ?_; refine zbi ?_; refine zbT ?_; refine zeC ?_; refine G.backK (i + 1) 0 rfl (.cons rfl (.nil)) ?_ ?_ ?_
                       exact ⟨congrArg (fun z => some (Value.int .i64 z)) zc, rfl, trivial⟩
                       exact hlt
                       omega
   · all_goals
      replace hc := of_decide_eq_false hc
      simp only [List.length_map] at hc
      try (exfalso; omega)
      all_goals
       refine zce ?_
       exact G.retFV rfl rfl (congrArg (Value.int .i64) (by rw [hal]))
theorem heldSpotS_marked {v : Value} {l : List SpotM} {k : Int} (w : World) (h : Rd w v 4 ((markG mkSpotM cntSpotM k l).map SpotM.cells)) (hk : 0 ≤ k) (hb : k + cntG cntSpotM l ≤ 4611686018427387904) :
    FnV Tryz.prog 68 [v, .int .i64 k] w (.int .i64 (k + cntG cntSpotM l)) := by
  have hc := mark_cnt (mk := mkSpotM) (cnt := cntSpotM) (fun _ _ => rfl) l k
  have := heldSpotS_any w h (mark_mark (mk := mkSpotM) (cnt := cntSpotM) (fun _ _ => rfl) (fun _ _ => rfl) l k) hk (by rw [hc]; exact hb)
  rwa [hc] at this
def mkCartonM (k : Int) (t : CartonM × Value) : CartonM × Value := (⟨k, k + 1, markG mkI cntI (k + 1 + 1) t.1.l⟩, t.2)
def cntCartonM (t : CartonM × Value) : Nat := cntG cntI t.1.l + 2
theorem cntCartonM_same (k : Int) (t : CartonM × Value) : cntCartonM (mkCartonM k t) = cntCartonM t := by simp only [cntCartonM, mkCartonM, mark_cnt (mk := mkI) (cnt := cntI) (fun _ _ => rfl)]
theorem mkCartonM_same (k : Int) (t : CartonM × Value) : mkCartonM k (mkCartonM k t) = mkCartonM k t := by simp only [mkCartonM, mark_cnt (mk := mkI) (cnt := cntI) (fun _ _ => rfl), mark_mark (mk := mkI) (cnt := cntI) (fun _ _ => rfl) (fun _ _ => rfl)]
theorem cntCartonM_tot (l : List (CartonM × Value)) : cntG cntCartonM l ≤ 2 * tot CartonM.l l := by
  induction l with
  | nil => simp [cntG, tot]
  | cons x r ih =>
    have hI := cntI_len x.1.l
    simp only [cntG, tot, List.map_cons, List.sum_cons, List.length_cons, cntCartonM] at ih hI ⊢
    omega
theorem markCartonS_any {w0 : World} {v : Value} {l : List (CartonM × Value)} {k : Int} (hk : 0 ≤ k) (hb : k + cntG cntCartonM l ≤ 4611686018427387904) :
    FnM Tryz.prog 65 [v, .int .i64 k] w0 [.grp 3 1 (l.map (sub CartonM.l)), .row v 54 3 (l.map CartonM.cells)] (fun _ : Unit => True) (fun _ => .int .i64 (k + cntG cntCartonM l))
      (fun _ => [.grp 3 1 ((markG mkCartonM cntCartonM k l).map (sub CartonM.l)), .row v 54 3 ((markG mkCartonM cntCartonM k l).map CartonM.cells)]) := by
  refine FnM.of (n := 34) Tryz.func65 rfl rfl (fun F => ?_); refine G.know (fun w hw => (Rd.owned 1 rfl w hw).le_map) (fun hle => ?_); refine zdi ?_; refine G.loopK (ι := Nat) (ks := [0]) (fun i => [(1, .int .i64 (k + cntG cntCartonM (l.take i))), (5, .int .i64 i)]) (fun i => [.grp 3 1 ((mixG mkCartonM cntCartonM k i l).map (sub CartonM.l)), .row v 54 3 ((mixG mkCartonM cntCartonM k i l).map CartonM.cells)]) (fun i => i ≤ l.length) (fun i => l.length - i) 0 (.cons rfl (.nil)) rfl ?_ ?_ ?_
  exact Nat.zero_le _
  exact ⟨congrArg (fun z => some (Value.int .i64 z)) (by simp [cntG]), rfl, trivial⟩
  rintro i hi
  have hml : (mixG mkCartonM cntCartonM k i l).length = l.length := mix_len
  have hcl : cntG cntCartonM (l.take (i + 1)) ≤ cntG cntCartonM l := cnt_le _
  by_cases hlt : i < l.length
  case' pos => (obtain ⟨x, hx⟩ := get_of_lt hlt; have he := get_map (mix_get (mk := mkCartonM) (cnt := cntCartonM) (k := k) hx) CartonM.cells; have hgi : ((mixG mkCartonM cntCartonM k i l).map (sub CartonM.l))[i]? = some (x.2, x.1.l.map icell) := (get_mapS (mix_get hx)); have hcn : cntG cntCartonM (l.take (i + 1)) = cntG cntCartonM (l.take i) + (cntG cntI x.1.l + 2) := cnt_next hx)
  case' neg => (have hal : cntG cntCartonM (l.take i) = cntG cntCartonM l := cnt_all hlt)
  all_goals
   refine zcT ?_; refine zcP ?_; refine zaI ?_; refine G.cond rfl (fun hc => ?_) (fun hc => ?_)
   · all_goals
      replace hc := of_decide_eq_true hc
      simp only [List.length_map, hml] at hc
      try (exfalso; omega)
      all_goals
       refine zaQ ?_; refine zca ?_; refine G.v (rv_indexH rfl rfl zi rfl zm) rfl ?_; refine zbq ?_; refine G.op0 (og_stE1 rfl rfl rfl zm rfl rfl rfl rfl (.zero (.cons .nil))) (fun _ _ => ?_); refine zbf ?_; refine G.v (rv_indexH rfl rfl zi rfl zJ) rfl ?_; refine zbq ?_; refine G.op0 (og_stE1 rfl rfl rfl zJ rfl rfl rfl rfl (.succ (.zero (.cons .nil)))) (fun _ _ => ?_); refine za1 ?_; refine zaD ?_; refine zbT ?_; refine zaB ?_; refine zdX ?_; refine G.v (rv_indexH rfl rfl zi rfl zw) rfl ?_
       refine zbq ?_; refine G.v (rv_loadE rfl zi zw rfl) rfl ?_; refine zaC ?_; refine G.op (og_callM0 rfl rfl rfl (FnMF.grp (markIntS_any zc zc) hgi)) rfl ?_; rintro ⟨⟩ _; try dsimp only
       refine zeC ?_; refine G.backK (i + 1) 0 (two_eq (congrArg (fun z => Ch.grp 3 1 z) (mix_map hx)) (congrArg (fun z => Ch.row v 54 3 z) (by rw [List.set_set]; exact mix_map hx))) (.cons rfl (.nil)) ?_ ?_ ?_
       exact ⟨congrArg (fun z => some (Value.int .i64 z)) zc, rfl, trivial⟩
       exact hlt
       omega
   · all_goals
      replace hc := of_decide_eq_false hc
      simp only [List.length_map, hml] at hc
      try (exfalso; omega)
      all_goals
       refine zce ?_
       exact G.retF () trivial rfl rfl (congrArg (Value.int .i64) (by rw [hal])) (fun w hw => by rw [mix_all hlt] at hw; exact hw)
theorem heldCartonS_any {v : Value} {l : List (CartonM × Value)} {k : Int} (w : World) (h : Rd w v 3 (l.map CartonM.cells)) (hs : Subs w CartonM.l l) (hm : markG mkCartonM cntCartonM k l = l) (hk : 0 ≤ k) (hb : k + cntG cntCartonM l ≤ 4611686018427387904) :
    FnV Tryz.prog 67 [v, .int .i64 k] w (.int .i64 (k + cntG cntCartonM l)) := by
  have hle := h.le_map
  refine FnV.of (n := 40) Tryz.func67 rfl rfl ?_; refine zdi ?_; refine G.loopK (ι := Nat) (ks := [0]) (fun i => [(1, .int .i64 (k + cntG cntCartonM (l.take i))), (5, .int .i64 i)]) (fun _ => []) (fun i => i ≤ l.length) (fun i => l.length - i) 0 (.cons rfl (.nil)) rfl ?_ ?_ ?_
  exact Nat.zero_le _
  exact ⟨congrArg (fun z => some (Value.int .i64 z)) (by simp [cntG]), rfl, trivial⟩
  rintro i hi
  have hcl : cntG cntCartonM (l.take (i + 1)) ≤ cntG cntCartonM l := cnt_le _
  by_cases hlt : i < l.length
  case' pos => (obtain ⟨x, hx⟩ := get_of_lt hlt; have he := get_map hx CartonM.cells; have hcn : cntG cntCartonM (l.take (i + 1)) = cntG cntCartonM (l.take i) + (cntG cntI x.1.l + 2) := cnt_next hx; have hq := held_at hm hx; have hq0 : x.1.t = k + cntG cntCartonM (l.take i) := congrArg (fun t => t.1.t) hq; have hq1 : x.1.g = k + cntG cntCartonM (l.take i) + 1 := congrArg (fun t => t.1.g) hq; have hql : markG mkI cntI (k + cntG cntCartonM (l.take i) + 1 + 1) x.1.l = x.1.l := (congrArg (fun t => t.1.l) hq).symm)
  case' neg => (have hal : cntG cntCartonM (l.take i) = cntG cntCartonM l := cnt_all hlt)
  all_goals
   refine zbv ?_; refine G.cond rfl (fun hc => ?_) (fun hc => ?_)
   · all_goals
      replace hc := of_decide_eq_true hc
      simp only [List.length_map] at hc
      try (exfalso; omega)
      all_goals
       refine zaQ ?_; refine G.seq ?_; refine zbD ?_; refine G.cond rfl (fun hc => ?_) (fun hc => ?_)
       · all_goals
          replace hc := of_decide_eq_true hc
          exfalso; contradiction
       · all_goals
          replace hc := of_decide_eq_false hc
          all_goals
           refine zbR ?_; refine zaD ?_; refine zbT ?_; refine zba ?_; refine zbD ?_; refine G.cond rfl (fun hc => ?_) (fun hc => ?_)
           · all_goals
              replace hc := of_decide_eq_true hc
              exfalso; contradiction
           · all_goals
              replace hc := of_decide_eq_false hc
              all_goals
               refine zbR ?_; refine zaD ?_; refine zbT ?_; refine zdn ?_; refine G.v (rv_indexH rfl rfl zb rfl zm) rfl ?_; refine zbq ?_; refine G.v (rv_loadE rfl zb zm rfl) rfl ?_; refine zaC ?_; refine G.op (og_callV rfl rfl (fun w hh => heldIntS_any w (Rd.stays (hs.at hx) _ hh) hql zc zc)) rfl (fun _ _ => ?_); refine zeF ?_; refine zaI ?_; refine G.cond rfl (fun hc => ?_) (fun hc => ?_)
               · all_goals
                  replace hc := of_decide_eq_true hc
                  exfalso; omega
               · all_goals
                  replace hc := of_decide_eq_false hc
                  all_goals
                   refine zff ?_; refine G.backK (i + 1) 0 rfl (.cons rfl (.nil)) ?_ ?_ ?_
                   exact ⟨congrArg (fun z => some (Value.int .i64 z)) zc, rfl, trivial⟩
                   exact hlt
                   omega
   · all_goals
      replace hc := of_decide_eq_false hc
      simp only [List.length_map] at hc
      try (exfalso; omega)
      all_goals
       refine zce ?_
       exact G.retFV rfl rfl (congrArg (Value.int .i64) (by rw [hal]))
theorem heldCartonS_marked {v : Value} {l : List (CartonM × Value)} {k : Int} (w : World) (h : Rd w v 3 ((markG mkCartonM cntCartonM k l).map CartonM.cells)) (hs : Subs w CartonM.l (markG mkCartonM cntCartonM k l)) (hk : 0 ≤ k) (hb : k + cntG cntCartonM l ≤ 4611686018427387904) :
    FnV Tryz.prog 67 [v, .int .i64 k] w (.int .i64 (k + cntG cntCartonM l)) := by
  have hc := mark_cnt (mk := mkCartonM) (cnt := cntCartonM) cntCartonM_same l k
  have := heldCartonS_any w h hs (mark_mark (mk := mkCartonM) (cnt := cntCartonM) cntCartonM_same mkCartonM_same l k) hk (by rw [hc]; exact hb)
  rwa [hc] at this
def mkShelfM (k : Int) (t : ShelfM × Value) : ShelfM × Value := (⟨markG mkI cntI (k) t.1.l, k + cntG cntI t.1.l, k + cntG cntI t.1.l + 1, k + cntG cntI t.1.l + 1 + 1, k + cntG cntI t.1.l + 1 + 1 + 1⟩, t.2)
def cntShelfM (t : ShelfM × Value) : Nat := cntG cntI t.1.l + 4
def mkLayerM (k : Int) (t : LayerM × Value) : LayerM × Value := (⟨markG mkI cntI (k) t.1.l, k + cntG cntI t.1.l, k + cntG cntI t.1.l + 1, k + cntG cntI t.1.l + 1 + 1⟩, t.2)
def cntLayerM (t : LayerM × Value) : Nat := cntG cntI t.1.l + 3
def mkLoadM (k : Int) (t : LoadM × Value) : LoadM × Value := (⟨markG mkI cntI (k) t.1.l, k + cntG cntI t.1.l, k + cntG cntI t.1.l + 1⟩, t.2)
def cntLoadM (t : LoadM × Value) : Nat := cntG cntI t.1.l + 2
end Go.Proofs.YtglpgohilfoecaaGreat

/-
  Structs of numbers held against each other.
-/
namespace Go.Proofs.YtglpgohilfoecaaGreat
open Go.RowKit
/-- A struct of n numbers. -/
def sintB (P : Program) (t : TypeId) (n : Nat) : Bool :=
  match P.underlying t with
  | some (.struct fs) => fs.size == n && !P.stoodInHeld t && !P.eqGuardType P.depth t && (fs.toList.zipIdx.all fun x => x.1.name != "_" && x.1.offset == x.2 && P.plainKey x.1.type && (match P.underlying x.1.type with | some (.int .i64) => true | _ => false))
  | _ => false
class TySI (P : Program) (t : TypeId) (n : outParam Nat) : Prop where
  h : sintB P t n = true
theorem run_eqInts {P : Program} {w : World} (d : Nat) (xs ys : List Int) : ∀ (fs : List Field) (j : Nat), (fs.zipIdx j).all (fun x => x.1.name != "_" && x.1.offset == x.2 && P.plainKey x.1.type && (match P.underlying x.1.type with | some (.int .i64) => true | _ => false)) = true → xs.length = j + fs.length → ys.length = j + fs.length →
    (Op.eqFields (d + 1) (xs.map (Value.int .i64)).toArray (ys.map (Value.int .i64)).toArray fs).run P w = .ok (decide (xs.drop j = ys.drop j)) w
  | [], j, _, hx, hy => by
    rw [List.drop_eq_nil_of_le (by simp at hx; omega), List.drop_eq_nil_of_le (by simp at hy; omega)]; rfl
  | f :: fs, j, hB, hx, hy => by
    simp only [List.zipIdx_cons, List.all_cons, Bool.and_eq_true, bne_iff_ne, ne_eq, beq_iff_eq] at hB
    obtain ⟨⟨⟨⟨h1, h2⟩, h3⟩, h4⟩, h5⟩ := hB
    have hxj : j < xs.length := by rw [hx]; simp
    have hyj : j < ys.length := by rw [hy]; simp
    have ih := run_eqInts (P := P) (w := w) d xs ys fs (j + 1) h5 (by rw [hx]; simp; omega) (by rw [hy]; simp; omega)
    have hu : P.underlying f.type = some (.int .i64) := by
      split at h4
      · assumption
      · cases h4
    have g1 : ((xs.map (Value.int .i64)).toArray)[f.offset]? = some (.int .i64 xs[j]) := by rw [h2]; simp [hxj]
    have g2 : ((ys.map (Value.int .i64)).toArray)[f.offset]? = some (.int .i64 ys[j]) := by rw [h2]; simp [hyj]
    simp only [Op.eqFields, if_pos h1, Sem.run_bind, run_part_plain w h3 g1, run_part_plain w h3 g2, Result.andThen_ok, run_equalIn_int w d f.type .i64 .i64 _ _ hu]
    rw [List.drop_eq_getElem_cons hxj, List.drop_eq_getElem_cons hyj]
    by_cases he : xs[j] = ys[j]
    · simp only [he, beq_self_eq_true, Bool.not_true, Bool.false_eq_true, if_false, ih]
      congr 1
      exact decide_eq_decide.2 ⟨fun h => by rw [h], fun h => (List.cons.inj h).2⟩
    · have hb : (xs[j] == ys[j]) = false := by simp [he]
      simp only [hb, Bool.not_false, if_true, Sem.run_pure]
      congr 1
      rw [decide_eq_false]; intro h; exact he (List.cons.inj h).1
theorem run_eqStruct {P : Program} {t : TypeId} {n : Nat} (hT : TySI P t n) {xs ys : List Int} (hx : xs.length = n) (hy : ys.length = n) (w : World) (d : Nat) :
    (Op.equalIn (d + 1 + 1) t (.agg (xs.map (Value.int .i64)).toArray) (.agg (ys.map (Value.int .i64)).toArray)).run P w = .ok (decide (xs = ys)) w ∧ P.eqGuardType P.depth t = false := by
  have h := hT.h
  unfold sintB at h
  split at h
  · rename_i fs hu
    simp only [Bool.and_eq_true, Bool.not_eq_true', beq_iff_eq] at h
    obtain ⟨⟨⟨h1, h2⟩, h3⟩, h4⟩ := h
    have hf : P.fieldsOf t = fs := by unfold Program.fieldsOf; rw [hu]
    refine ⟨?_, h3⟩
    rw [run_equalIn_struct w _ t _ _ (by rw [hf]; exact hu) h2, hf]
    have := run_eqInts (P := P) (w := w) d xs ys fs.toList 0 h4 (by simp [hx, h1]) (by simp [hy, h1])
    simpa using this
  · cases h
section
variable {P : Program} {n : Nat} {w0 : World} {fr : Fr} {H : List Ch} {x y : Operand} {t t' : TypeId} {m : Nat}
theorem rv_eqlL [hT : TySI P t m] {xs ys : List Int} (hx : opv fr x = some (.agg (xs.map (Value.int .i64)).toArray)) (hy : opv fr y = some (.agg (ys.map (Value.int .i64)).toArray)) (h1 : xs.length = m) (h2 : ys.length = m) : RunsV P n w0 fr H (.binOp .eql t x y t') (.bool (decide (xs = ys))) := fun a w hr _ _ _ _ _ _ => by
  obtain ⟨e1, e2⟩ := run_eqStruct hT h1 h2 w 9998
  simp only [execOp, hr.opv hx, hr.opv hy, Sem.run_bind, run_eqGuard_agg w _ _ _ _ _ _ e2, Result.andThen_ok, run_eql_struct, e1, Sem.run_pure]
theorem SpotM.ints (a b : SpotM) : ([a.p, a.x, a.y, a.z] = [b.p, b.x, b.y, b.z]) ↔ a = b := by cases a; cases b; simp
theorem BoxM.ints (a b : BoxM) : ([a.w, a.d, a.h, a.g] = [b.w, b.d, b.h, b.g]) ↔ a = b := by cases a; cases b; simp
theorem PalletM.ints (a b : PalletM) : ([a.w, a.d, a.h, a.g] = [b.w, b.d, b.h, b.g]) ↔ a = b := by cases a; cases b; simp
end
attribute [local irreducible] Go.wpList Go.Code.wp Go.Exit.then Go.Exit.inBlock Go.bodyPost Go.Calls pE pB G RunsV FnV Fn FnM
set_option maxRecDepth 100000
set_option maxHeartbeats 1000000
instance : TySI Tryz.prog 23 4 := ⟨zaA⟩
instance : TySI Tryz.prog 36 4 := ⟨zaA⟩
instance : TySI Tryz.prog 56 7 := ⟨zaA⟩
instance : TySI Tryz.prog 71 4 := ⟨zaA⟩
instance : TySI Tryz.prog 86 4 := ⟨zaA⟩
instance : TySI Tryz.prog 111 7 := ⟨zaA⟩
instance : TySI Tryz.prog 138 2 := ⟨zaA⟩
instance : TySI Tryz.prog 140 2 := ⟨zaA⟩
instance : TySI Tryz.prog 142 7 := ⟨zaA⟩
instance : TySI Tryz.prog 144 7 := ⟨zaA⟩
instance : TySI Tryz.prog 201 2 := ⟨zaA⟩
end Go.Proofs.YtglpgohilfoecaaGreat

/-
  Bits, shifts and conversions of numbers.
-/
namespace Go.Proofs.YtglpgohilfoecaaGreat
open Go.RowKit
section
variable {P : Program} {n : Nat} {w0 : World} {fr : Fr} {H : List Ch} {x y : Operand} {t t' : TypeId} {k yk : IntKind} {p q : Int}
theorem rv_and (hx : opv fr x = some (.int k p)) (hy : opv fr y = some (.int k q)) : RunsV P n w0 fr H (.binOp .and t x y t') (.int k (bits .and k p q)) := fun a w hr _ _ _ _ _ _ => by
  simp [execOp, hr.opv hx, hr.opv hy, eqGuard_and, binOp_and, intBits_and]
theorem rv_shr (hx : opv fr x = some (.int k p)) (hy : opv fr y = some (.int yk q)) (h0 : 0 ≤ q) : RunsV P n w0 fr H (.binOp .shr t x y t') (.int k (p.fdiv (2 ^ (min q.toNat k.bits)))) := fun a w hr _ _ _ _ _ _ => by
  have : ¬ q < 0 := by omega
  simp [execOp, hr.opv hx, hr.opv hy, eqGuard_shr, binOp_shr, Op.shift, this]
theorem rv_conv {src dst : TypeId} {k2 : IntKind} [hs : TyInt P src k] [hd : TyInt P dst k2] (hx : opv fr x = some (.int k p)) : RunsV P n w0 fr H (.convert src dst x) (.int k2 (k2.wrap p)) := fun a w hr _ _ _ _ _ _ => by
  have h := run_convert_int (P := P) w src dst k p (by rw [hs.h]; rfl) (by rw [hd.h, hd.g])
  rw [hd.g] at h
  simp [execOp, hr.opv hx, h]
end
section
variable {P : Program} {ops : Array Oper} {Q : Exit → Act → World → Prop} {ls : List Nat} {C : World → Prop}
/-- Whatever order is taken: an operation that is not among 'ls' turns nothing; behind one of 'ls' the class holds. -/
def wpS (P : Program) (ops : Array Oper) (Q : Exit → Act → World → Prop) (ls : List Nat) (C : World → Prop) : Nat → Array Bool → Act → World → Prop
  | 0, listed, a, w => ∀ w1, Ext w w1 → Region.ready .any ops listed = [] ∧ Q .normal a w1
  | f + 1, listed, a, w => ∀ w1, Ext w w1 → (Region.ready .any ops listed = [] → Q .normal a w1) ∧
      ∀ i ∈ Region.ready .any ops listed, okOp P ops i (fun a' w' => (ls.contains i = false → Ext w1 w') ∧ (ls.contains i = true → C w') ∧ wpS P ops Q ls C f (listed.setIfInBounds i true) a' w') a w1
theorem wpS.ext : ∀ {f : Nat} {listed : Array Bool} {a : Act} {w w1 : World}, wpS P ops Q ls C f listed a w → Ext w w1 → wpS P ops Q ls C f listed a w1
  | 0, _, _, _, _, h, e => fun w2 e2 => h w2 (e.trans e2)
  | _ + 1, _, _, _, _, h, e => fun w2 e2 => h w2 (e.trans e2)
theorem wpAny_of_S : ∀ (f : Nat) (listed : Array Bool) (a : Act) (w : World), wpS P ops Q ls C f listed a w → wpAny P .any ops Q f listed a w
  | 0, _, _, _, h => h _ (Ext.refl _)
  | f + 1, _, _, w, h => ⟨(h w (Ext.refl _)).1, fun i hi => wpOp_of_ok (okOp_mono (fun a' w' hk => wpAny_of_S f _ a' w' hk.2.2) ((h w (Ext.refl _)).2 i hi))⟩
theorem wpS_first {i : Nat} {oi : Oper} {v : Value} {D : World → Prop} (B : List Nat) (hB : ∀ j ∈ B, waitsB ops j i = true ∨ ∃ m ∈ B, waitsB ops j m = true) (hi : ops[i]? = some oi) (hiL : ls.contains i = false) (hsel : ∀ (j : Nat) (o : Oper) cs b, ops[j]? = some o → o.op ≠ .select cs b) (hD : ∀ w w', D w → Ext w w' → D w') :
    ∀ (f : Nat) (listed : Array Bool) (a : Act) (w : World),
      (∀ j oj, ops[j]? = some oj → j ≠ i → listed.getD j true = false → (∀ e ∈ oj.after, Region.binds .any e = true → e.on ≠ i) → oi.apart ops oj = true) →
      ((∀ w, C w → D w) ∨ ∀ j, ls.contains j = true → j ∈ B ∨ listed.getD j true = true) → (∀ j ∈ B, listed.getD j true = false) → i ∈ Region.ready .any ops listed → YieldsE P ops D oi v a → D w →
      wpS P ops Q ls C f (listed.setIfInBounds i true) (a.put oi.dst v) w → wpS P ops Q ls C (f + 1) listed a w := by
  intro f
  induction f with
  | zero =>
    intro listed a w _ _ _ hr hy hw H w1 he
    refine ⟨fun h => (by rw [h] at hr; cases hr), fun j hj => ?_⟩
    by_cases hji : j = i
    · subst hji
      exact hy.ok hi (hD _ _ hw he) fun w' he' => ⟨fun _ => he', fun h => (by rw [hiL] at h; cases h), H.ext (he.trans he')⟩
    · have := ready_mono hj hji
      rw [(H w (Ext.refl _)).1] at this
      cases this
  | succ f ih =>
    intro listed a w hfree hls hBu hr hy hw H w1 he
    refine ⟨fun h => (by rw [h] at hr; cases hr), fun j hj => ?_⟩
    by_cases hji : j = i
    · subst hji
      exact hy.ok hi (hD _ _ hw he) fun w' he' => ⟨fun _ => he', fun h => (by rw [hiL] at h; cases h), H.ext (he.trans he')⟩
    · have h1 := (H w1 he).2 j (ready_mono hj hji)
      obtain ⟨hjun, oj, hoj, hall⟩ := mem_ready.1 hj
      have hun : ∀ m, waitsB ops j m = true → listed.getD m true = false → False := fun m hm hmu => by
        unfold waitsB at hm
        rw [hoj] at hm
        obtain ⟨e, he, hb⟩ := Array.any_eq_true'.1 hm
        simp only [Bool.and_eq_true, beq_iff_eq] at hb
        have h1 := hall e he hb.1
        rw [hb.2] at h1
        rcases Nat.lt_or_ge m listed.size with h' | h'
        · simp [h'] at hmu h1; rw [hmu] at h1; cases h1
        · simp [Array.getElem?_eq_none h'] at h1
      have hiu := (mem_ready.1 hr).1
      have hjB : j ∉ B := fun hb => by
        rcases hB j hb with h | ⟨m, hm, h⟩
        · exact hun i h hiu
        · exact hun m h (hBu m hm)
      have hnot : ∀ e ∈ oj.after, Region.binds .any e = true → e.on ≠ i := fun e he hb heq => by
        have h1 := hall e he hb
        rw [heq] at h1
        rcases Nat.lt_or_ge i listed.size with h' | h'
        · simp [h'] at hiu h1; rw [hiu] at h1; cases h1
        · simp [Array.getElem?_eq_none h'] at h1
      have h2 := okOp_put hoj (hfree j oj hoj hji hjun hnot) (fun cs b => hsel i oi cs b hi) (fun cs b => hsel j oj cs b hoj) hy h1
      have hfree' : ∀ k ok, ops[k]? = some ok → k ≠ i → (listed.setIfInBounds j true).getD k true = false →
          (∀ e ∈ ok.after, Region.binds .any e = true → e.on ≠ i) → oi.apart ops ok = true := fun k ok hk hki hun hno => by
        refine hfree k ok hk hki ?_ hno
        by_cases hjk : j = k
        · subst hjk; exact hjun
        · rw [getD_set_ne true hjk] at hun; exact hun
      refine okOp_mono (fun a' w' ⟨hy', hq, hl, h3⟩ => ⟨hq, hl, ih (listed.setIfInBounds j true) a' w' hfree' ?_ ?_ (ready_mono hr (Ne.symm hji)) hy' ?_ ?_⟩) h2
      · rcases hls with h | h
        · exact .inl h
        · refine .inr fun k hk => ?_
          rcases h k hk with h | h
          · exact .inl h
          · by_cases e : j = k
            · subst e; rw [hjun] at h; cases h
            · exact .inr (by rw [getD_set_ne true e]; exact h)
      · intro k hk
        have : j ≠ k := fun e => hjB (e ▸ hk)
        rw [getD_set_ne true this]; exact hBu k hk
      · cases hcj : ls.contains j with
        | false => exact hD _ _ (hD _ _ hw he) (hq hcj)
        | true =>
          rcases hls with h | h
          · exact h _ (hl hcj)
          · rcases h j hcj with h | h
            · exact absurd h hjB
            · rw [hjun] at h; cases h
      · rw [Array.setIfInBounds_comm _ _ hji]
        exact h3
theorem wpS_all {rs : List Nat} {f : Nat} {listed : Array Bool} {a : Act} {w : World} (hr : Region.ready .any ops listed = rs) (hne : rs ≠ [])
    (h : ∀ w1, Ext w w1 → ∀ i ∈ rs, okOp P ops i (fun a' w' => (ls.contains i = false → Ext w1 w') ∧ (ls.contains i = true → C w') ∧ wpS P ops Q ls C f (listed.setIfInBounds i true) a' w') a w1) : wpS P ops Q ls C (f + 1) listed a w :=
  fun w1 he => ⟨fun h0 => absurd (hr ▸ h0) hne, hr ▸ h w1 he⟩
theorem wpS_done {listed : Array Bool} {a : Act} {w : World} (hr : Region.ready .any ops listed = []) (h : ∀ w1, Ext w w1 → Q .normal a w1) : ∀ f, wpS P ops Q ls C f listed a w
  | 0 => fun w1 he => ⟨hr, h w1 he⟩
  | _ + 1 => fun w1 he => ⟨fun _ => h w1 he, by rw [hr]; simp⟩
end
section
variable {P : Program} {n : Nat} {w0 : World} {fr : Fr} {H HC : List Ch} {Q : Exit → Act → World → Prop} {ops : Array Oper} {ls : List Nat} {f i d : Nat} {listed : Array Bool} {o : Op} {T : TypeId} {pos : String} {af : Array Edge}
def GS (P : Program) (ops : Array Oper) (Q : Exit → Act → World → Prop) (ls : List Nat) (n : Nat) (w0 : World) (HC : List Ch) (f : Nat) (listed : Array Bool) (fr : Fr) (H : List Ch) : Prop :=
  G n w0 fr H (wpS P ops Q ls (fun w => HeapOk w0 w HC) f listed)
def firstS (ops : Array Oper) (ls : List Nat) (listed : Array Bool) (i : Nat) : Bool :=
  Region.noSelect ops && Region.free .any ops listed i && (Region.ready .any ops listed).contains i && !ls.contains i
def chainS (ops : Array Oper) (ls B : List Nat) (listed : Array Bool) (i : Nat) : Bool :=
  (ls.all fun j => B.contains j || listed.getD j true) && (B.all fun j => waitsB ops j i || B.any fun m => waitsB ops j m) && B.all fun j => !listed.getD j true
theorem firstS_spec (h : firstS ops ls listed i = true) : Region.noSelect ops = true ∧ Region.free .any ops listed i = true ∧ i ∈ Region.ready .any ops listed ∧ ls.contains i = false := by
  simp only [firstS, Bool.and_eq_true, List.contains_iff_mem, Bool.not_eq_true'] at h
  obtain ⟨⟨⟨h1, h2⟩, h3⟩, h4⟩ := h
  exact ⟨h1, h2, h3, h4⟩
theorem chainS_spec {B : List Nat} (h : chainS ops ls B listed i = true) : (∀ j, ls.contains j = true → j ∈ B ∨ listed.getD j true = true) ∧ (∀ j ∈ B, waitsB ops j i = true ∨ ∃ m ∈ B, waitsB ops j m = true) ∧ ∀ j ∈ B, listed.getD j true = false := by
  simp only [chainS, Bool.and_eq_true, List.all_eq_true, List.contains_iff_mem, Bool.or_eq_true, List.any_eq_true, Bool.not_eq_true'] at h
  exact ⟨fun j hj => h.1.1 j (by simpa using hj), h.1.2, h.2⟩
/-- A quiet operation that reads. -/
theorem GS.q (i : Nat) (B : List Nat) {v : Value} (hi : ops[i]? = some ⟨some d, o, T, pos, af, none⟩) (hF : firstS ops ls listed i = true) (hB : chainS ops ls B listed i = true)
    (hq : QuietG P n w0 fr H o v) (hd : Nat.ble (d + 1) n = true) (h : GS P ops Q ls n w0 HC f (listed.setIfInBounds i true) ((d, v) :: fr) H) : GS P ops Q ls n w0 HC (f + 1) listed fr H := by
  intro a w hra hh
  obtain ⟨h1, h2, h3, h4⟩ := firstS_spec hF
  obtain ⟨b1, b2, b3⟩ := chainS_spec hB
  exact wpS_first (D := fun w => HeapOk w0 w H) B b2 hi h4 (Region.noSelect_spec h1) (fun w w' hw e => HeapOk.ext hw e) f listed a w (Region.free_spec hi h2) (.inr b1) b3 h3
    (.inl ⟨by simp [Region.wanted], fun w' hw' => hq a w' hra hw' _ _ _ _ _⟩) hh (h _ _ (hra.put (Nat.le_of_ble_eq_true hd) v) hh)
/-- .. that needs no more than the class. -/
theorem GS.p (i : Nat) {v : Value} (hi : ops[i]? = some ⟨some d, o, T, pos, af, none⟩) (hF : firstS ops ls listed i = true)
    (hq : QuietG P n w0 fr HC o v) (hH : ∀ w, HeapOk w0 w H → HeapOk w0 w HC) (hd : Nat.ble (d + 1) n = true) (h : GS P ops Q ls n w0 HC f (listed.setIfInBounds i true) ((d, v) :: fr) H) : GS P ops Q ls n w0 HC (f + 1) listed fr H := by
  intro a w hra hh
  obtain ⟨h1, h2, h3, h4⟩ := firstS_spec hF
  exact wpS_first (D := fun w => HeapOk w0 w HC) [] zC hi h4 (Region.noSelect_spec h1) (fun w w' hw e => HeapOk.ext hw e) f listed a w (Region.free_spec hi h2) (.inl fun _ h => h) zC h3
    (.inl ⟨by simp [Region.wanted], fun w' hw' => hq a w' hra hw' _ _ _ _ _⟩) (hH w hh) (h _ _ (hra.put (Nat.le_of_ble_eq_true hd) v) hh)
/-- One that turns a chunk, and is alone. -/
theorem GS.o0 (i : Nat) {X : Type} {φ : X → Prop} {val : X → Value} {H' : X → List Ch} (hB : onlyL ops listed i = true) (hL : ls.contains i = true) (hi : ops[i]? = some ⟨none, o, T, pos, af, none⟩)
    (ho : OpG P n w0 fr H o φ val H') (hH : ∀ x w, HeapOk w0 w (H' x) → HeapOk w0 w HC) (h : ∀ x, φ x → GS P ops Q ls n w0 HC f (listed.setIfInBounds i true) fr (H' x)) : GS P ops Q ls n w0 HC (f + 1) listed fr H := by
  intro a w hra hh
  have hr : Region.ready .any ops listed = [i] := by simpa [onlyL] using hB
  refine wpS_all hr zC fun w1 he j hj => ?_
  simp only [List.mem_singleton] at hj
  subst hj
  unfold okOp
  simp only [hi, Region.wanted, if_true]
  exact ho a w1 hra (hh.ext he) _ _ _ _ _ _ fun x w' hx hw => ⟨fun h => (by rw [hL] at h; cases h), fun _ => hH x w' hw, h x hx _ _ (hra.put_none _) hw⟩
theorem GS.done (hr : Region.ready .any ops listed = []) (h : G n w0 fr H (Q .normal)) : GS P ops Q ls n w0 HC f listed fr H :=
  fun a _ hra hh => wpS_done hr (fun w1 e => h a w1 hra (hh.ext e)) f
theorem G.drawS [hW : Wide P] {id : Nat} {l : List Oper} (ls : List Nat) {c : Ch} {F : List Ch} (hH : H = c :: F)
    (h : GS P l.toArray Q ls n w0 F l.length (Array.replicate l.length false) fr H) : G n w0 fr H ((Code.region id l.toArray true).wp P Q) := by
  intro a w hr hh
  refine wp_region_any hW.h (wpAny_of_S (ls := ls) (C := fun w => HeapOk w0 w F) _ _ _ _ ?_)
  rw [List.size_toArray]
  exact h a _ hr hh.drew
end
/-! ### Numbers that are counted -/
section
variable {P : Program} {n : Nat} {w0 : World} {fr : Fr} {H : List Ch} {x y : Operand} {t t' : TypeId} {p q : Nat}
theorem rv_addN (hx : opv fr x = some (.int .i64 (p : Int))) (hy : opv fr y = some (.int .i64 (q : Int))) (h : p + q < 9223372036854775807) : RunsV P n w0 fr H (.binOp .add t x y t') (.int .i64 ((p + q : Nat) : Int)) := by
  have := rv_addB (P := P) (n := n) (w0 := w0) (H := H) (t := t) (t' := t') hx hy zc zc
  simpa using this
theorem rv_subN (hx : opv fr x = some (.int .i64 (p : Int))) (hy : opv fr y = some (.int .i64 (q : Int))) (h : q ≤ p) (h2 : p < 9223372036854775807) : RunsV P n w0 fr H (.binOp .sub t x y t') (.int .i64 ((p - q : Nat) : Int)) := by
  have := rv_subB (P := P) (n := n) (w0 := w0) (H := H) (t := t) (t' := t') hx hy zc zc
  rwa [show (p : Int) - q = ((p - q : Nat) : Int) from by omega] at this
theorem rv_dblN (hx : opv fr x = some (.int .i64 2)) (hy : opv fr y = some (.int .i64 (q : Int))) (h : q < 4611686018427387903) : RunsV P n w0 fr H (.binOp .mul t x y t') (.int .i64 ((2 * q : Nat) : Int)) := by
  have := rv_mulB (P := P) (n := n) (w0 := w0) (H := H) (t := t) (t' := t') hx hy zc zc
  simpa using this
theorem rv_dblM (hx : opv fr x = some (.int .i64 (q : Int))) (hy : opv fr y = some (.int .i64 2)) (h : q < 4611686018427387903) : RunsV P n w0 fr H (.binOp .mul t x y t') (.int .i64 ((2 * q : Nat) : Int)) := by
  have := rv_mulB (P := P) (n := n) (w0 := w0) (H := H) (t := t) (t' := t') hx hy zc zc
  rwa [show (q : Int) * 2 = ((2 * q : Nat) : Int) from by omega] at this
theorem half_eq {p m : Nat} (h : p < 9223372036854775807) (hm : p / 2 = m) : IntKind.i64.wrap ((IntKind.u64.wrap (p : Int)).fdiv (2 ^ (min (1 : Int).toNat IntKind.u64.bits))) = (m : Int) := by
  have e1 : IntKind.u64.wrap (p : Int) = p := by
    simp only [IntKind.wrap, IntKind.signed, IntKind.bits]; simp; omega
  have e2 : (min (1 : Int).toNat IntKind.u64.bits) = 1 := by decide
  rw [e1, e2, show (2 : Int) ^ 1 = 2 from rfl]
  have e3 : (p : Int).fdiv 2 = (m : Int) := by rw [Int.fdiv_eq_ediv_of_nonneg _ zc]; omega
  rw [e3]; exact wrap64_id zc zc
theorem rv_half {src dst : TypeId} {m : Nat} {z : Int} [hs : TyInt P src .u64] [hd : TyInt P dst .i64] (hx : opv fr x = some (.int .u64 z)) (hz : z = (IntKind.u64.wrap (p : Int)).fdiv (2 ^ (min (1 : Int).toNat IntKind.u64.bits))) (h : p < 9223372036854775807) (hm : p / 2 = m) : RunsV P n w0 fr H (.convert src dst x) (.int .i64 (m : Int)) := by
  have := rv_conv (P := P) (n := n) (w0 := w0) (H := H) (src := src) (dst := dst) (k2 := .i64) hx
  rwa [hz, half_eq h hm] at this
end
def subV (v : Value) (s l h : Nat) : Value := match v with
  | .slice a _ c => sliced a l h c s
  | u => u
section
variable {P : Program} {n : Nat} {w0 : World} {fr : Fr} {H : List Ch}
theorem rv_sliceH {x y : Operand} {t e : TypeId} {s bs : Nat} {zs : List Value} [hT : TySlice P t e] [hI : TyInfo P e s zs bs] {v : Value} {es : List (List Value)} {k : IntKind} {h : Nat} (hx : opv fr x = some v) (hy : opv fr y = some (.int k (h : Int))) (hv : ∀ w, HeapOk w0 w H → Rd w v s es) (hh : h ≤ es.length) :
    RunsV P n w0 fr H (.slice t x none (some y) none) (subV v s 0 h) := fun a w hr hw _ _ _ _ _ => by
  obtain ⟨ad, cap, rfl, h1, h2, h3⟩ := (hv w hw).form
  obtain ⟨i, z, g1, g2, g3, g4, g5⟩ := hI.get
  have e1 : (h : Int) ≤ (cap : Int) := by omega
  have e2 : (0 : Int) ≤ (h : Int) := by omega
  simp [execOp, hr.opv hx, hr.opv hy, Instr.sliceAt, Instr.slice, run_underlying hT.h, Instr.sliceBounds, run_sliceBound, sizeOf, typeInfo, g1, g2, subV, sliced, e1, e2]
theorem rv_sliceL {x y : Operand} {t e : TypeId} {s bs : Nat} {zs : List Value} [hT : TySlice P t e] [hI : TyInfo P e s zs bs] {v : Value} {es : List (List Value)} {k : IntKind} {l : Nat} (hx : opv fr x = some v) (hy : opv fr y = some (.int k (l : Int))) (hv : ∀ w, HeapOk w0 w H → Rd w v s es) (hh : l ≤ es.length) :
    RunsV P n w0 fr H (.slice t x (some y) none none) (subV v s l es.length) := fun a w hr hw _ _ _ _ _ => by
  obtain ⟨ad, cap, rfl, h1, h2, h3⟩ := (hv w hw).form
  obtain ⟨i, z, g1, g2, g3, g4, g5⟩ := hI.get
  have e1 : (l : Int) ≤ (es.length : Int) := by omega
  have e2 : (0 : Int) ≤ (l : Int) := by omega
  have e3 : (es.length : Int) ≤ (cap : Int) := by omega
  simp [execOp, hr.opv hx, hr.opv hy, Instr.sliceAt, Instr.slice, run_underlying hT.h, Instr.sliceBounds, run_sliceBound, sizeOf, typeInfo, g1, g2, subV, sliced, e1, e2, e3]
theorem flatten_sub {s : Nat} {es : List (List Value)} (hl : ∀ e ∈ es, e.length = s) {l : Nat} {j : Nat} {u : Value} {m : Nat} (h : ((es.drop l).take m).flatten[j]? = some u) : es.flatten[l * s + j]? = some u := by
  by_cases hll : l ≤ es.length
  · have e1 : es.flatten = (es.take l).flatten ++ ((es.drop l).take m).flatten ++ ((es.drop l).drop m).flatten := by
      rw [← List.flatten_append, ← List.flatten_append, List.append_assoc, List.take_append_drop, List.take_append_drop]
    have e2 : (es.take l).flatten.length = l * s := by
      rw [flatten_len (s := s) (fun e he => hl e (List.mem_of_mem_take he)), List.length_take, Nat.min_eq_left hll]
    have hj : j < ((es.drop l).take m).flatten.length := by
      rcases Nat.lt_or_ge j ((es.drop l).take m).flatten.length with h1 | h1
      · exact h1
      · rw [List.getElem?_eq_none h1] at h; cases h
    rw [e1, List.append_assoc, List.getElem?_append_right zc, e2, show l * s + j - l * s = j from by omega, List.getElem?_append_left hj]
    exact h
  · rw [List.drop_eq_nil_of_le zc] at h; simp at h
theorem Rd.sub {w : World} {v : Value} {s : Nat} {es : List (List Value)} (h : Rd w v s es) {l k : Nat} (h1 : l ≤ k) (h2 : k ≤ es.length) : Rd w (subV v s l k) s ((es.drop l).take (k - l)) := by
  obtain ⟨a, cap, rfl, q1, q2, q3⟩ := h.form
  have hlen : ((es.drop l).take (k - l)).length = k - l := by rw [List.length_take, List.length_drop]; omega
  refine ⟨⟨if cap = l then a else a.map (·.add (l * s)), cap - l, by rw [hlen]; rfl, by omega, by omega, fun hp => ?_⟩, fun e he => h.good e (List.mem_of_mem_drop (List.mem_of_mem_take he)), fun j u hj => ?_⟩
  · rw [hlen] at hp
    obtain ⟨b, o, rfl⟩ := q3 zc
    rw [if_neg zc]
    exact ⟨b, o + l * s, by simp [Addr.add_lit]⟩
  · have hp : 0 < k - l := by
      rcases Nat.eq_zero_or_pos (k - l) with h0 | h0
      · rw [h0] at hj; simp at hj
      · exact h0
    obtain ⟨b, o, rfl⟩ := q3 zc
    have := h.cells _ _ (flatten_sub (fun e he => (h.good e he).1) hj)
    simp only [subV, sliced, if_neg (show ¬ cap = l from by omega), blkOf, offOf, Option.map_some, Addr.add_lit] at this ⊢
    rw [← this]; congr 2; omega
theorem Rd.subH {α : Type} {c : α → List Value} {w : World} {v : Value} {s : Nat} {l : List α} (h : Rd w v s (l.map c)) {k : Nat} (hk : k ≤ l.length) : Rd w (subV v s 0 k) s ((l.take k).map c) := by
  have := h.sub (Nat.zero_le k) (by simpa using hk)
  rwa [List.drop_zero, Nat.sub_zero, ← List.map_take] at this
theorem Rd.subL {α : Type} {c : α → List Value} {w : World} {v : Value} {s : Nat} {l : List α} (h : Rd w v s (l.map c)) {k : Nat} (hk : k ≤ l.length) : Rd w (subV v s k (l.map c).length) s ((l.drop k).map c) := by
  have := h.sub (l := k) (k := (l.map c).length) (by simpa using hk) (Nat.le_refl _)
  rwa [← List.map_drop, List.take_of_length_le zC] at this
theorem rv_quoN {x y : Operand} {t t' : TypeId} {p : Nat} (hx : opv fr x = some (.int .i64 (p : Int))) (hy : opv fr y = some (.int .i64 2)) (h : p < 9223372036854775807) : RunsV P n w0 fr H (.binOp .quo t x y t') (.int .i64 ((p / 2 : Nat) : Int)) := by
  have := rv_quo (P := P) (n := n) (w0 := w0) (H := H) (t := t) (t' := t') hx hy zc
  have e : (p : Int).tdiv 2 = ((p / 2 : Nat) : Int) := by
    rw [Int.tdiv_eq_ediv_of_nonneg zc]; omega
  rwa [e, wrap64_id zc zc] at this
end
section
variable {M S : Type} (room : M → S → Bool) (add : M → Nat → S → M) (z : M)
def pileStep (out : List M) (x : S × Nat) : List M :=
  match out.getLast? with
  | some t => if room t x.1 then out.set (out.length - 1) (add t x.2 x.1) else out ++ [add z x.2 x.1]
  | none => out ++ [add z x.2 x.1]
def pile (xs : List (S × Nat)) : List M := xs.foldl (pileStep room add z) []
end
section
variable {M S : Type} {room : M → S → Bool} {add : M → Nat → S → M} {z : M} {out : List M} {s : S} {k : Nat}
theorem pile_new (h : ∀ t, out.getLast? = some t → room t s = false) : pileStep room add z out (s, k) = (out ++ [z]).set out.length (add z k s) := by
  rw [List.set_append_right _ _ (Nat.le_refl _), Nat.sub_self, List.set_cons_zero]
  unfold pileStep
  split
  · rename_i t ht; rw [h t ht]; rfl
  · rfl
theorem pile_room {q : Nat} {t : M} (hq : out[q]? = some t) (hl : q + 1 = out.length) (hr : room t s = true) : pileStep room add z out (s, k) = out.set q (add t k s) := by
  have : out.getLast? = some t := by rw [List.getLast?_eq_getElem?, ← hl]; exact hq
  unfold pileStep
  simp only [this, hr, if_true]
  rw [← hl]; rfl
theorem pileStep_inv {P : M → Prop} {x : S × Nat} (hz : P (add z x.2 x.1)) (hs : ∀ t, P t → room t x.1 = true → P (add t x.2 x.1)) (h : ∀ t ∈ out, P t) : ∀ t ∈ pileStep room add z out x, P t := by
  intro t ht
  unfold pileStep at ht
  split at ht
  · rename_i u hu
    split at ht
    · rename_i hr
      rcases List.mem_or_eq_of_mem_set ht with h1 | h1
      · exact h t h1
      · rw [h1]; exact hs u (h u (List.mem_of_getLast? hu)) hr
    · rcases List.mem_append.1 ht with h1 | h1
      · exact h t h1
      · rw [List.mem_singleton.1 h1]; exact hz
  · rcases List.mem_append.1 ht with h1 | h1
    · exact h t h1
    · rw [List.mem_singleton.1 h1]; exact hz
theorem pile_inv {P : M → Prop} : ∀ (xs : List (S × Nat)) (out : List M), (∀ x ∈ xs, P (add z x.2 x.1) ∧ ∀ t, P t → room t x.1 = true → P (add t x.2 x.1)) → (∀ t ∈ out, P t) → ∀ t ∈ xs.foldl (pileStep room add z) out, P t
  | [], out, _, h => h
  | x :: r, out, hs, h => pile_inv r _ (fun y hy => hs y (List.mem_cons_of_mem _ hy)) (pileStep_inv (hs x List.mem_cons_self).1 (hs x List.mem_cons_self).2 h)
theorem pileStep_len (x : S × Nat) : (pileStep room add z out x).length ≤ out.length + 1 := by
  unfold pileStep
  split
  · split
    · rw [List.length_set]; omega
    · simp
  · simp
theorem pile_len : ∀ (xs : List (S × Nat)) (out : List M), (xs.foldl (pileStep room add z) out).length ≤ out.length + xs.length
  | [], out => Nat.le_refl _
  | x :: r, out => by
    have h1 := pile_len r (pileStep room add z out x)
    have h2 := pileStep_len (room := room) (add := add) (z := z) (out := out) x
    simp only [List.foldl_cons, List.length_cons]; omega
end
theorem zip_get {α : Type} {l : List α} {k : Nat} {x : α} (h : l[k]? = some x) : l.zipIdx[k]? = some (x, k) := by
  rw [List.getElem?_zipIdx, h]; simp
theorem last_of {M : Type} {ts tp : List (M × Value)} {t : M × Value} (h : ts = tp ++ [t]) : (ts.map Prod.fst).getLast? = some t.1 := by subst h; simp
theorem fst_at {M : Type} {ts : List (M × Value)} {q : Nat} {t : M × Value} (h : ts[q]? = some t) : (ts.map Prod.fst)[q]? = some t.1 := by simp [h]
theorem get_last {α : Type} {ts tp : List α} {t : α} (h : ts = tp ++ [t]) : ts[tp.length]? = some t := by subst h; simp
def layRoom (p : PalletM) (t : LayerM) (s : ShelfM) : Bool := decide (t.d + s.d ≤ p.d) && decide (t.g + s.g ≤ p.g)
def layAdd (t : LayerM) (k : Nat) (s : ShelfM) : LayerM := ⟨t.l ++ [(k : Int)], t.d + s.d, max t.h s.h, t.g + s.g⟩
def layZ : LayerM := ⟨[], 0, 0, 0⟩
def shelvesOkM (p : PalletM) (ss : List ShelfM) : Bool := palletOkM p && ss.all fun s => heapOkM p s.d s.h s.g
def layersM (p : PalletM) (ss : List ShelfM) : List LayerM := if shelvesOkM p ss then pile (layRoom p) layAdd layZ ss.zipIdx else []
def loadRoom (p : PalletM) (t : LoadM) (s : LayerM) : Bool := decide (t.h + s.h ≤ p.h) && decide (t.g + s.g ≤ p.g)
def loadAdd (t : LoadM) (k : Nat) (s : LayerM) : LoadM := ⟨t.l ++ [(k : Int)], t.h + s.h, t.g + s.g⟩
def loadZ : LoadM := ⟨[], 0, 0⟩
def stacksOkM (p : PalletM) (ss : List LayerM) : Bool := palletOkM p && ss.all fun s => heapOkM p s.d s.h s.g
def loadsM (p : PalletM) (ss : List LayerM) : List LoadM := if stacksOkM p ss then pile (loadRoom p) loadAdd loadZ ss.zipIdx else []
theorem pallet_in {p : PalletM} (h : palletOkM p = true) : 1 ≤ p.w ∧ p.w ≤ 2000 ∧ 1 ≤ p.d ∧ p.d ≤ 2000 ∧ 1 ≤ p.h ∧ p.h ≤ 2000 ∧ 1 ≤ p.g ∧ p.g ≤ 100000 := by
  simp only [palletOkM, inB, Bool.and_eq_true, decide_eq_true_eq] at h; omega
theorem heap_in {p : PalletM} {d h g : Int} (hh : heapOkM p d h g = true) : 1 ≤ d ∧ d ≤ p.d ∧ 1 ≤ h ∧ h ≤ p.h ∧ 1 ≤ g ∧ g ≤ p.g := by
  simp only [heapOkM, inB, Bool.and_eq_true, decide_eq_true_eq] at hh; omega
theorem ok_at {α : Type} {q : Bool} {f : α → Bool} {l : List α} {k : Nat} {b : α} (h : (!(q && l.all f)) = false) (hb : l[k]? = some b) : q = true ∧ f b = true := by
  simp only [Bool.not_eq_false', Bool.and_eq_true, List.all_eq_true] at h
  exact ⟨h.1, h.2 b (List.mem_of_getElem? hb)⟩
theorem lay_bd {p : PalletM} {ss : List ShelfM} (hok : shelvesOkM p ss = true) (k : Nat) : ∀ t ∈ (ss.zipIdx.take k).foldl (pileStep (layRoom p) layAdd layZ) [], 0 ≤ t.d ∧ t.d ≤ p.d ∧ 0 ≤ t.h ∧ t.h ≤ p.h ∧ 0 ≤ t.g ∧ t.g ≤ p.g := by
  refine pile_inv _ _ (fun x hx => ?_) zC
  have hx' : x.1 ∈ ss := (List.mem_zipIdx' (List.mem_of_mem_take hx)).2 ▸ List.getElem_mem _
  simp only [shelvesOkM, Bool.and_eq_true, List.all_eq_true] at hok
  have hh := heap_in (hok.2 x.1 hx')
  refine ⟨by simp only [layAdd, layZ]; omega, fun t ht hr => ?_⟩
  simp only [layRoom, Bool.and_eq_true, decide_eq_true_eq] at hr
  simp only [layAdd]; omega
theorem load_bd {p : PalletM} {ss : List LayerM} (hok : stacksOkM p ss = true) (k : Nat) : ∀ t ∈ (ss.zipIdx.take k).foldl (pileStep (loadRoom p) loadAdd loadZ) [], 0 ≤ t.h ∧ t.h ≤ p.h ∧ 0 ≤ t.g ∧ t.g ≤ p.g := by
  refine pile_inv _ _ (fun x hx => ?_) zC
  have hx' : x.1 ∈ ss := (List.mem_zipIdx' (List.mem_of_mem_take hx)).2 ▸ List.getElem_mem _
  simp only [stacksOkM, Bool.and_eq_true, List.all_eq_true] at hok
  have hh := heap_in (hok.2 x.1 hx')
  refine ⟨by simp only [loadAdd, loadZ]; omega, fun t ht hr => ?_⟩
  simp only [loadRoom, Bool.and_eq_true, decide_eq_true_eq] at hr
  simp only [loadAdd]; omega
theorem layers_len (p : PalletM) (ss : List ShelfM) : (layersM p ss).length ≤ ss.length := by
  unfold layersM; split
  · have := pile_len (room := layRoom p) (add := layAdd) (z := layZ) ss.zipIdx []; simpa [pile] using this
  · simp
theorem loads_len (p : PalletM) (ss : List LayerM) : (loadsM p ss).length ≤ ss.length := by
  unfold loadsM; split
  · have := pile_len (room := loadRoom p) (add := loadAdd) (z := loadZ) ss.zipIdx []; simpa [pile] using this
  · simp
def rowF (n : Nat) (f : Nat → Nat) : List (List Value) := (List.range n).map fun j => icell (f j : Int)
def upd (f : Nat → Nat) (k z : Nat) : Nat → Nat := fun j => if j = k then z else f j
theorem rowF_len (n : Nat) (f : Nat → Nat) : (rowF n f).length = n := by simp [rowF]
theorem rowF_get {n k : Nat} {f : Nat → Nat} (h : k < n) : (rowF n f)[k]? = some (icell (f k : Int)) := by
  simp [rowF, h]
theorem rowF_set {n k z : Nat} {f : Nat → Nat} : (rowF n f).set k (icell (z : Int)) = rowF n (upd f k z) := by
  apply List.ext_getElem?
  intro j
  rw [List.getElem?_set]
  by_cases hj : j < n
  · rw [rowF_get (f := upd f k z) hj]
    by_cases h : k = j
    · subst h; simp [rowF_len, hj, upd]
    · rw [if_neg h, rowF_get hj]; simp [upd, Ne.symm h]
  · rw [List.getElem?_eq_none (l := rowF n (upd f k z)) (by rw [rowF_len]; omega), List.getElem?_eq_none (l := rowF n f) (by rw [rowF_len]; omega), rowF_len]
    split
    · rw [if_neg zc]
    · rfl
/-- Two stretches change places. -/
def swapF (f : Nat → Nat) (a b k : Nat) : Nat → Nat := fun j => if a ≤ j ∧ j < a + k then f (j - a + b) else if b ≤ j ∧ j < b + k then f (j - b + a) else f j
theorem swapF_zero (f : Nat → Nat) (a b : Nat) : swapF f a b 0 = f := by
  funext j; unfold swapF; rw [if_neg zc, if_neg zc]
theorem swapF_next {f : Nat → Nat} {a b i : Nat} (h : a + i < b) : upd (upd (swapF f a b i) (a + i) (swapF f a b i (b + i))) (b + i) (swapF f a b i (a + i)) = swapF f a b (i + 1) := by
  have e1 : swapF f a b i (b + i) = f (b + i) := by unfold swapF; rw [if_neg zc, if_neg zc]
  have e2 : swapF f a b i (a + i) = f (a + i) := by unfold swapF; rw [if_neg zc, if_neg zc]
  funext j
  rw [e1, e2]
  unfold upd swapF
  by_cases h1 : j = b + i
  · subst h1; rw [if_pos rfl, if_neg zc, if_pos zc]; congr 1; omega
  · rw [if_neg h1]
    by_cases h2 : j = a + i
    · subst h2; rw [if_pos rfl, if_pos zc]; congr 1; omega
    · rw [if_neg h2]
      by_cases h3 : a ≤ j ∧ j < a + i
      · rw [if_pos h3, if_pos zc]
      · by_cases h4 : b ≤ j ∧ j < b + i
        · rw [if_neg h3, if_pos h4, if_neg zc, if_pos zc]
        · rw [if_neg h3, if_neg h4, if_neg zc, if_neg zc]
/-- A stretch is turned: what is from m on comes first. -/
def rotF (f : Nat → Nat) (a m b : Nat) : Nat → Nat := fun j => if a ≤ j ∧ j < a + (b - m) then f (j - a + m) else if a + (b - m) ≤ j ∧ j < b then f (j - (b - m)) else f j
theorem rot_big {f : Nat → Nat} {m i j : Nat} (h1 : j < i) (h2 : i ≤ m) : rotF (swapF f (m - i) m j) (m - (i - j)) m (m + j) = rotF f (m - i) m (m + j) := by
  funext x
  unfold rotF swapF
  by_cases c1 : m - i ≤ x ∧ x < m - i + (m + j - m)
  · rw [if_pos c1, if_neg zc, if_neg zc, if_pos zc]
  · rw [if_neg c1]
    by_cases c2 : m - i + (m + j - m) ≤ x ∧ x < m + j
    · rw [if_pos c2]
      by_cases c3 : m - (i - j) ≤ x ∧ x < m - (i - j) + (m + j - m)
      · rw [if_pos c3, if_neg zc, if_pos zc]; congr 1; omega
      · rw [if_neg c3, if_pos zc, if_neg zc, if_neg zc]
    · rw [if_neg c2, if_neg zc, if_neg zc, if_neg zc, if_neg zc]
theorem rot_small {f : Nat → Nat} {m i j : Nat} (h1 : i < j) (h2 : i ≤ m) : rotF (swapF f (m - i) (m + j - i) i) (m - i) m (m + (j - i)) = rotF f (m - i) m (m + j) := by
  funext x
  unfold rotF swapF
  by_cases c1 : m - i ≤ x ∧ x < m - i + (m + j - m)
  · rw [if_pos c1]
    by_cases c3 : m - i ≤ x ∧ x < m - i + (m + (j - i) - m)
    · rw [if_pos c3, if_neg zc, if_neg zc]
    · rw [if_neg c3]
      by_cases c4 : x < m + (j - i)
      · rw [if_pos zc, if_pos zc]; congr 1; omega
      · rw [if_neg zc, if_neg zc]
        by_cases c5 : m + j - i ≤ x ∧ x < m + j - i + i
        · omega
        · omega
  · rw [if_neg c1]
    by_cases c2 : m - i + (m + j - m) ≤ x ∧ x < m + j
    · rw [if_pos c2, if_neg zc, if_neg zc, if_neg zc, if_pos zc]; congr 1; omega
    · rw [if_neg c2, if_neg zc, if_neg zc, if_neg zc, if_neg zc]
theorem rot_eq {f : Nat → Nat} {m i : Nat} (h2 : i ≤ m) : swapF f (m - i) m i = rotF f (m - i) m (m + i) := by
  funext x
  unfold rotF swapF
  split
  · rw [if_pos zc]
  · split
    · rw [if_neg zc, if_pos zc]; congr 1; omega
    · rw [if_neg zc, if_neg zc]

/-! ### The order of places by keys -/
def bef (K : Nat → Int) (x y : Nat) : Prop := K x < K y ∨ (K x = K y ∧ x < y)
instance (K : Nat → Int) (x y : Nat) : Decidable (bef K x y) := by unfold bef; infer_instance
section
variable {K : Nat → Int} {x y z : Nat}
theorem bef.trans (h1 : bef K x y) (h2 : bef K y z) : bef K x z := by unfold bef at *; omega
theorem bef.irr (h : bef K x x) : False := by unfold bef at h; omega
theorem bef.asym (h1 : bef K x y) (h2 : bef K y x) : False := (h1.trans h2).irr
theorem bef.total (K : Nat → Int) (x y : Nat) : bef K x y ∨ x = y ∨ bef K y x := by unfold bef; omega
theorem bef.not (h : ¬ K y < K x) (hc : K x = K y → x < y) : bef K x y := by unfold bef; omega
end
/-- What stands from a on and ahead of b stood there. -/
structure Frm (a b : Nat) (f g : Nat → Nat) : Prop where
  out : ∀ j, j < a ∨ b ≤ j → g j = f j
  src : ∀ j, a ≤ j → j < b → ∃ i, a ≤ i ∧ i < b ∧ g j = f i
theorem Frm.refl (a b : Nat) (f : Nat → Nat) : Frm a b f f := ⟨fun _ _ => rfl, fun j h1 h2 => ⟨j, h1, h2, rfl⟩⟩
theorem Frm.trans {a b : Nat} {f g h : Nat → Nat} (h1 : Frm a b f g) (h2 : Frm a b g h) : Frm a b f h :=
  ⟨fun j hj => (h2.out j hj).trans (h1.out j hj), fun j ha hb => by
    obtain ⟨i, i1, i2, i3⟩ := h2.src j ha hb
    obtain ⟨k, k1, k2, k3⟩ := h1.src i i1 i2
    exact ⟨k, k1, k2, i3.trans k3⟩⟩
theorem Frm.mono {a b a' b' : Nat} {f g : Nat → Nat} (h : Frm a b f g) (ha : a' ≤ a) (hb : b ≤ b') : Frm a' b' f g :=
  ⟨fun j hj => h.out j zc, fun j h1 h2 => by
    by_cases c : a ≤ j ∧ j < b
    · obtain ⟨i, i1, i2, i3⟩ := h.src j c.1 c.2
      exact ⟨i, by omega, by omega, i3⟩
    · exact ⟨j, h1, h2, h.out j zc⟩⟩
def Srt (K : Nat → Int) (a b : Nat) (f : Nat → Nat) : Prop := ∀ j k, a ≤ j → j < k → k < b → bef K (f j) (f k)
def Crs (K : Nat → Int) (a m b : Nat) (f : Nat → Nat) : Prop := ∀ j k, a ≤ j → j < m → m ≤ k → k < b → K (f j) = K (f k) → f j < f k
def Seg (K : Nat → Int) (a b : Nat) (f : Nat → Nat) : Prop := Srt K a b f ∧ ∀ j, a ≤ j → j < b → a ≤ f j ∧ f j < b
theorem Seg.crs {K : Nat → Int} {a m b : Nat} {f : Nat → Nat} (h1 : Seg K a m f) (h2 : Seg K m b f) : Crs K a m b f := fun j k a1 a2 a3 a4 _ => by
  have := h1.2 j a1 a2
  have := h2.2 k a3 a4
  omega
theorem Seg.merged {K : Nat → Int} {a m b : Nat} {f g : Nat → Nat} (h1 : Seg K a m f) (h2 : Seg K m b f) (hm : a ≤ m ∧ m ≤ b) (hf : Frm a b f g) (hs : Srt K a b g) : Seg K a b g := ⟨hs, fun j ha hb => by
  obtain ⟨i, i1, i2, i3⟩ := hf.src j ha hb
  rw [i3]
  by_cases c : i < m
  · have := h1.2 i i1 c; omega
  · have := h2.2 i zc i2; omega⟩
theorem Seg.out {K : Nat → Int} {a b : Nat} {f g : Nat → Nat} (h : Seg K a b f) (e : ∀ j, a ≤ j → j < b → g j = f j) : Seg K a b g :=
  ⟨fun j k h1 h2 h3 => by rw [e j h1 zc, e k zc h3]; exact h.1 j k h1 h2 h3, fun j h1 h2 => by rw [e j h1 h2]; exact h.2 j h1 h2⟩
theorem Seg.none {K : Nat → Int} {a b : Nat} {f : Nat → Nat} (h : b ≤ a) : Seg K a b f := ⟨fun j k _ _ _ => by omega, fun j _ _ => by omega⟩
theorem rot_frm {f : Nat → Nat} {a m b : Nat} (h1 : a ≤ m) (h2 : m ≤ b) : Frm a b f (rotF f a m b) := by
  refine ⟨fun j hj => ?_, fun j ha hb => ?_⟩
  · unfold rotF; rw [if_neg zc, if_neg zc]
  · unfold rotF
    by_cases c : a ≤ j ∧ j < a + (b - m)
    · rw [if_pos c]; exact ⟨_, by omega, by omega, rfl⟩
    · rw [if_neg c, if_pos zc]; exact ⟨_, by omega, by omega, rfl⟩
theorem rot_lo {f : Nat → Nat} {a m b j : Nat} (h1 : a ≤ j) (h2 : j < a + (b - m)) : rotF f a m b j = f (j - a + m) := by unfold rotF; rw [if_pos ⟨h1, h2⟩]
theorem rot_hi {f : Nat → Nat} {a m b j : Nat} (h1 : a + (b - m) ≤ j) (h2 : j < b) : rotF f a m b j = f (j - (b - m)) := by unfold rotF; rw [if_neg (by omega), if_pos ⟨h1, h2⟩]
theorem rot_out {f : Nat → Nat} {a m b j : Nat} (ha : a ≤ m) (hm : m ≤ b) (h1 : j < a ∨ b ≤ j) : rotF f a m b j = f j := (rot_frm ha hm).out j h1
theorem rot_id {f : Nat → Nat} {a m b : Nat} (h1 : a ≤ m) (h2 : m ≤ b) (h : a = m ∨ m = b) : rotF f a m b = f := by
  funext j; unfold rotF
  rcases h with rfl | rfl
  · split
    · congr 1; omega
    · split
      · omega
      · rfl
  · split
    · omega
    · split
      · congr 1; omega
      · rfl
/-- The midst of a merge: what is turned stands right. -/
structure Mid (K : Nat → Int) (a st mid en b : Nat) (f : Nat → Nat) : Prop where
  s1 : Srt K a st f
  s2 : Srt K st mid f
  c1 : Crs K a st mid f
  s3 : Srt K mid en f
  s4 : Srt K en b f
  c2 : Crs K mid en b f
  lr : ∀ j k, a ≤ j → j < mid → mid ≤ k → k < b → bef K (f j) (f k)
theorem mid_of {K : Nat → Int} {a st m mid en b : Nat} {f : Nat → Nat} (h1 : Srt K a m f) (h2 : Srt K m b f) (hc : Crs K a m b f) (ha : a ≤ st) (hm : st ≤ m) (hme : m ≤ en) (hen : en ≤ b) (hs : st + en = mid + m) (hml : st ≤ mid) (hmr : mid ≤ en)
    (hl : st = a ∨ en = b ∨ ¬ K (f en) < K (f (st - 1))) (hr : st = m ∨ en = m ∨ K (f (en - 1)) < K (f st)) : Mid K a st mid en b (rotF f st m en) := by
  have lo : ∀ j, st ≤ j → j < mid → rotF f st m en j = f (j - st + m) := fun j j1 j2 => rot_lo j1 zc
  have hi : ∀ j, mid ≤ j → j < en → rotF f st m en j = f (j - (en - m)) := fun j j1 j2 => rot_hi zc j2
  have ou : ∀ j, j < st ∨ en ≤ j → rotF f st m en j = f j := fun j hj => rot_out hm hme hj
  have ll : ∀ i k, a ≤ i → i < st → en ≤ k → k < b → bef K (f i) (f k) := fun i k i1 i2 k1 k2 => by
    have hb : bef K (f (st - 1)) (f en) := (by
      rcases hl with h | h | h
      · omega
      · omega
      · exact bef.not h (hc _ _ zc zc zc zc))
    have e1 : i = st - 1 ∨ bef K (f i) (f (st - 1)) := by
      by_cases c : i = st - 1
      · exact .inl c
      · exact .inr (h1 _ _ i1 zc zc)
    have e2 : en = k ∨ bef K (f en) (f k) := by
      by_cases c : en = k
      · exact .inl c
      · exact .inr (h2 _ _ hme zc k2)
    rcases e1 with rfl | e1 <;> rcases e2 with rfl | e2
    · exact hb
    · exact hb.trans e2
    · exact e1.trans hb
    · exact e1.trans (hb.trans e2)
  have rr : ∀ i k, m ≤ i → i < en → st ≤ k → k < m → bef K (f i) (f k) := fun i k i1 i2 k1 k2 => by
    have hb : bef K (f (en - 1)) (f st) := (by
      rcases hr with h | h | h
      · omega
      · omega
      · exact .inl h)
    have e1 : i = en - 1 ∨ bef K (f i) (f (en - 1)) := by
      by_cases c : i = en - 1
      · exact .inl c
      · exact .inr (h2 _ _ i1 zc zc)
    have e2 : st = k ∨ bef K (f st) (f k) := by
      by_cases c : st = k
      · exact .inl c
      · exact .inr (h1 _ _ ha zc k2)
    rcases e1 with rfl | e1 <;> rcases e2 with rfl | e2
    · exact hb
    · exact hb.trans e2
    · exact e1.trans hb
    · exact e1.trans (hb.trans e2)
  refine ⟨fun j k j1 j2 j3 => ?_, fun j k j1 j2 j3 => ?_, fun j k j1 j2 j3 j4 => ?_, fun j k j1 j2 j3 => ?_, fun j k j1 j2 j3 => ?_, fun j k j1 j2 j3 j4 => ?_, fun j k j1 j2 j3 j4 => ?_⟩
  · rw [ou j zc, ou k zc]; exact h1 j k j1 j2 zc
  · rw [lo j j1 zc, lo k zc j3]; exact h2 _ _ zc zc zc
  · rw [ou j zc, lo k j3 j4]; exact hc _ _ j1 zc zc zc
  · rw [hi j j1 zc, hi k zc j3]; exact h1 _ _ zc zc zc
  · rw [ou j zc, ou k zc]; exact h2 j k zc j2 j3
  · rw [hi j j1 j2, ou k zc]; exact hc _ _ zc zc zc j4
  · by_cases cj : j < st
    · rw [ou j zc]
      by_cases ck : k < en
      · rw [hi k j3 ck]; exact h1 _ _ j1 zc zc
      · rw [ou k zc]; exact ll _ _ j1 cj zc j4
    · rw [lo j zc j2]
      by_cases ck : k < en
      · rw [hi k j3 ck]; exact rr _ _ zc zc zc zc
      · rw [ou k zc]; exact h2 _ _ zc zc j4
theorem srt_of {K : Nat → Int} {a st mid : Nat} {f : Nat → Nat} (h1 : Srt K a st f) (h2 : Srt K st mid f) (h : ¬ (a < st ∧ st < mid)) (ha : a ≤ st) (hm : st ≤ mid) : Srt K a mid f := by
  by_cases c : st = a
  · subst c; exact h2
  · have : st = mid := by omega
    subst this; exact h1
theorem srt_join {K : Nat → Int} {a mid b : Nat} {f g1 g2 : Nat → Nat} (hlr : ∀ j k, a ≤ j → j < mid → mid ≤ k → k < b → bef K (f j) (f k)) (f1 : Frm a mid f g1) (s1 : Srt K a mid g1) (f2 : Frm mid b g1 g2) (s2 : Srt K mid b g2) : Srt K a b g2 := fun j k j1 j2 j3 => by
  by_cases cj : j < mid
  · rw [f2.out j (.inl cj)]
    by_cases ck : k < mid
    · rw [f2.out k (.inl ck)]; exact s1 j k j1 j2 ck
    · obtain ⟨i, i1, i2, i3⟩ := f1.src j j1 cj
      obtain ⟨l, l1, l2, l3⟩ := f2.src k zc j3
      rw [i3, l3, f1.out l (.inr l1)]; exact hlr _ _ i1 i2 l1 l2
  · exact s2 j k zc j2 j3
/-- One goes into the others: from the left. -/
theorem put_left {K : Nat → Int} {a b i : Nat} {f : Nat → Nat} (h2 : Srt K (a + 1) b f) (hc : Crs K a (a + 1) b f) (h1 : a + 1 ≤ i) (hb : i ≤ b) (hl : i = a + 1 ∨ K (f (i - 1)) < K (f a)) (hr : i = b ∨ ¬ K (f i) < K (f a)) : Srt K a b (rotF f a (a + 1) i) := fun j k j1 j2 j3 => by
  have lo : ∀ j, a ≤ j → j < i - 1 → rotF f a (a + 1) i j = f (j + 1) := fun j j1 j2 => by rw [rot_lo j1 zc]; congr 1; omega
  have hi : rotF f a (a + 1) i (i - 1) = f a := by rw [rot_hi zc zc]; congr 1; omega
  have ou : ∀ j, i ≤ j → rotF f a (a + 1) i j = f j := fun j hj => rot_out zc zc (.inr hj)
  have hlt : ∀ l, a + 1 ≤ l → l < i → bef K (f l) (f a) := fun l l1 l2 => by
    have hb : bef K (f (i - 1)) (f a) := (by
      rcases hl with h | h
      · omega
      · exact .inl h)
    by_cases c : l = i - 1
    · rw [c]; exact hb
    · exact (h2 _ _ l1 zc zc).trans hb
  have hgt : ∀ l, i ≤ l → l < b → bef K (f a) (f l) := fun l l1 l2 => by
    have hb : bef K (f a) (f i) := (by
      rcases hr with h | h
      · omega
      · exact bef.not h (hc _ _ zc zc zc zc))
    by_cases c : l = i
    · rw [c]; exact hb
    · exact hb.trans (h2 _ _ zc zc l2)
  by_cases c1 : j < i - 1
  · rw [lo j j1 c1]
    by_cases c2 : k < i - 1
    · rw [lo k zc c2]; exact h2 _ _ zc zc zc
    · by_cases c3 : k = i - 1
      · rw [c3, hi]; exact hlt _ zc zc
      · rw [ou k zc]; exact h2 _ _ zc zc j3
  · by_cases c2 : j = i - 1
    · rw [c2, hi, ou k zc]; exact hgt _ zc j3
    · rw [ou j zc, ou k zc]; exact h2 _ _ zc j2 j3
/-- .. and from the right. -/
theorem put_right {K : Nat → Int} {a m i : Nat} {f : Nat → Nat} (h1 : Srt K a m f) (hc : Crs K a m (m + 1) f) (ha : a ≤ i) (hm : i ≤ m) (hl : i = a ∨ ¬ K (f m) < K (f (i - 1))) (hr : i = m ∨ K (f m) < K (f i)) : Srt K a (m + 1) (rotF f i m (m + 1)) := fun j k j1 j2 j3 => by
  have lo : rotF f i m (m + 1) i = f m := by rw [rot_lo zc zc]; congr 1; omega
  have hi : ∀ j, i < j → j ≤ m → rotF f i m (m + 1) j = f (j - 1) := fun j j1 j2 => by rw [rot_hi zc zc]; congr 1; omega
  have ou : ∀ j, j < i → rotF f i m (m + 1) j = f j := fun j hj => rot_out hm zc (.inl hj)
  have hlt : ∀ l, a ≤ l → l < i → bef K (f l) (f m) := fun l l1 l2 => by
    have hb : bef K (f (i - 1)) (f m) := (by
      rcases hl with h | h
      · omega
      · exact bef.not h (hc _ _ zc zc zc zc))
    by_cases c : l = i - 1
    · rw [c]; exact hb
    · exact (h1 _ _ l1 zc zc).trans hb
  have hgt : ∀ l, i ≤ l → l < m → bef K (f m) (f l) := fun l l1 l2 => by
    have hb : bef K (f m) (f i) := (by
      rcases hr with h | h
      · omega
      · exact .inl h)
    by_cases c : l = i
    · rw [c]; exact hb
    · exact hb.trans (h1 _ _ zc zc l2)
  by_cases c1 : j < i
  · rw [ou j c1]
    by_cases c2 : k < i
    · rw [ou k c2]; exact h1 _ _ j1 j2 zc
    · by_cases c3 : k = i
      · rw [c3, lo]; exact hlt _ j1 c1
      · rw [hi k zc zc]; exact h1 _ _ j1 zc zc
  · by_cases c2 : j = i
    · rw [c2, lo, hi k zc zc]; exact hgt _ zc zc
    · rw [hi j zc zc, hi k zc zc]; exact h1 _ _ zc zc zc
theorem rot_up {f : Nat → Nat} {a k : Nat} (h : a ≤ k) : upd (upd (rotF f a (a + 1) (k + 1)) k (rotF f a (a + 1) (k + 1) (k + 1))) (k + 1) (rotF f a (a + 1) (k + 1) k) = rotF f a (a + 1) (k + 2) := by
  have e1 : rotF f a (a + 1) (k + 1) (k + 1) = f (k + 1) := rot_out zc zc (.inr (Nat.le_refl _))
  have e2 : rotF f a (a + 1) (k + 1) k = f a := by
    rw [rot_hi zc zc]; congr 1; omega
  rw [e1, e2]; funext j
  unfold upd rotF
  by_cases c1 : j = k + 1
  · rw [if_pos c1, if_neg zc, if_pos zc]; congr 1; omega
  · rw [if_neg c1]
    by_cases c2 : j = k
    · rw [if_pos c2, if_pos zc]; congr 1; omega
    · rw [if_neg c2]
      by_cases c3 : a ≤ j ∧ j < k
      · rw [if_pos zc, if_pos zc]
      · rw [if_neg zc, if_neg zc, if_neg zc, if_neg zc]
theorem rot_dn {f : Nat → Nat} {m k : Nat} (h : k < m) : upd (upd (rotF f (k + 1) m (m + 1)) (k + 1) (rotF f (k + 1) m (m + 1) k)) k (rotF f (k + 1) m (m + 1) (k + 1)) = rotF f k m (m + 1) := by
  have e1 : rotF f (k + 1) m (m + 1) k = f k := rot_out zc zc (.inl zc)
  have e2 : rotF f (k + 1) m (m + 1) (k + 1) = f m := by
    rw [rot_lo zc zc]; congr 1; omega
  rw [e1, e2]; funext j
  unfold upd rotF
  by_cases c1 : j = k
  · rw [if_pos c1, if_pos zc]; congr 1; omega
  · rw [if_neg c1]
    by_cases c2 : j = k + 1
    · rw [if_pos c2, if_neg zc, if_pos zc]; congr 1; omega
    · rw [if_neg c2]
      by_cases c3 : k + 1 < j ∧ j < m + 1
      · rw [if_neg zc, if_pos zc, if_neg zc, if_pos zc]
      · rw [if_neg zc, if_neg zc, if_neg zc, if_neg zc]
/-! ### Blocks -/
def Blk (K : Nat → Int) (s n : Nat) (f : Nat → Nat) : Prop := ∀ q, Seg K (q * s) (min (q * s + s) n) f
structure Ins (K : Nat → Int) (n q : Nat) (f : Nat → Nat) : Prop where
  le : q * 20 ≤ n
  lo : ∀ p, p < q → Seg K (p * 20) (p * 20 + 20) f
  hi : ∀ j, q * 20 ≤ j → f j = j
structure Pass (K : Nat → Int) (s n q : Nat) (f : Nat → Nat) : Prop where
  le : q * (2 * s) ≤ n
  lo : ∀ p, p < q → Seg K (p * (2 * s)) (p * (2 * s) + 2 * s) f
  hi : ∀ p, 2 * q ≤ p → Seg K (p * s) (min (p * s + s) n) f
theorem Ins.start (K : Nat → Int) (n : Nat) : Ins K n 0 (fun j => j) := ⟨by omega, fun p h => by omega, fun _ _ => rfl⟩
theorem Ins.next {K : Nat → Int} {n q : Nat} {f g : Nat → Nat} (h : Ins K n q f) (hb : q * 20 + 20 ≤ n) (ho : ∀ j, j < q * 20 ∨ q * 20 + 20 ≤ j → g j = f j) (hg : Seg K (q * 20) (q * 20 + 20) g) : Ins K n (q + 1) g := by
  refine ⟨by omega, fun p hp => ?_, fun j hj => by rw [ho j zc]; exact h.hi j zc⟩
  by_cases c : p = q
  · rw [c]; exact hg
  · exact (h.lo p zc).out fun j _ _ => ho j zc
theorem Ins.last {K : Nat → Int} {n q : Nat} {f g : Nat → Nat} (h : Ins K n q f) (hb : n < q * 20 + 20) (ho : ∀ j, j < q * 20 ∨ n ≤ j → g j = f j) (hg : Seg K (q * 20) n g) : Blk K 20 n g := by
  intro p
  have hle := h.le
  by_cases c : p = q
  · rw [c, Nat.min_eq_right zc]; exact hg
  · by_cases c2 : p < q
    · rw [Nat.min_eq_left zc]; exact (h.lo p c2).out fun j _ _ => ho j zc
    · exact Seg.none zc
theorem Pass.start {K : Nat → Int} {s n : Nat} {f : Nat → Nat} (h : Blk K s n f) : Pass K s n 0 f := ⟨by omega, fun p h => by omega, fun p _ => h p⟩
theorem Pass.two {K : Nat → Int} {s n q : Nat} {f : Nat → Nat} (h : Pass K s n q f) (hb : q * (2 * s) + s < n) : Seg K (q * (2 * s)) (q * (2 * s) + s) f ∧ Seg K (q * (2 * s) + s) (min (q * (2 * s) + 2 * s) n) f := by
  have h1 := h.hi (2 * q) (Nat.le_refl _)
  have h2 := h.hi (2 * q + 1) zc
  have e1 : 2 * q * s = q * (2 * s) := by rw [Nat.mul_comm 2 q, Nat.mul_assoc]
  have e2 : (2 * q + 1) * s = q * (2 * s) + s := by rw [Nat.succ_mul, e1]
  rw [e1, Nat.min_eq_left zc] at h1
  rw [e2, show q * (2 * s) + s + s = q * (2 * s) + 2 * s from by omega] at h2
  exact ⟨h1, h2⟩
theorem Pass.next {K : Nat → Int} {s n q : Nat} {f g : Nat → Nat} (h : Pass K s n q f) (hb : q * (2 * s) + 2 * s ≤ n) (ho : ∀ j, j < q * (2 * s) ∨ q * (2 * s) + 2 * s ≤ j → g j = f j) (hg : Seg K (q * (2 * s)) (q * (2 * s) + 2 * s) g) : Pass K s n (q + 1) g := by
  have e3 : (q + 1) * (2 * s) = q * (2 * s) + 2 * s := Nat.succ_mul _ _
  refine ⟨by omega, fun p hp => ?_, fun p hp => ?_⟩
  · by_cases c : p = q
    · rw [c]; exact hg
    · have : (p + 1) * (2 * s) ≤ q * (2 * s) := Nat.mul_le_mul_right _ zc
      rw [Nat.succ_mul] at this
      exact (h.lo p zc).out fun j _ _ => ho j zc
  · have e1 : 2 * (q + 1) * s = q * (2 * s) + 2 * s := by rw [Nat.mul_comm 2 (q + 1), Nat.mul_assoc, e3]
    have : 2 * (q + 1) * s ≤ p * s := Nat.mul_le_mul_right _ hp
    exact (h.hi p zc).out fun j _ _ => ho j zc
theorem Pass.last {K : Nat → Int} {s n q : Nat} {f g : Nat → Nat} (h : Pass K s n q f) (hb : n < q * (2 * s) + 2 * s) (ho : ∀ j, j < q * (2 * s) ∨ n ≤ j → g j = f j) (hg : Seg K (q * (2 * s)) n g) : Blk K (2 * s) n g := by
  intro p
  have hle := h.le
  by_cases c : p = q
  · rw [c, Nat.min_eq_right zc]; exact hg
  · by_cases c2 : p < q
    · have : (p + 1) * (2 * s) ≤ q * (2 * s) := Nat.mul_le_mul_right _ zc
      rw [Nat.succ_mul] at this
      rw [Nat.min_eq_left zc]; exact (h.lo p c2).out fun j _ _ => ho j zc
    · have : (q + 1) * (2 * s) ≤ p * (2 * s) := Nat.mul_le_mul_right _ zc
      rw [Nat.succ_mul] at this
      exact Seg.none zc
theorem Pass.end {K : Nat → Int} {s n q : Nat} {f : Nat → Nat} (h : Pass K s n q f) (hb : n < q * (2 * s) + 2 * s) (hm : n ≤ q * (2 * s) + s) : Blk K (2 * s) n f := by
  refine h.last hb (fun _ _ => rfl) ?_
  have h1 := h.hi (2 * q) (Nat.le_refl _)
  have e1 : 2 * q * s = q * (2 * s) := by rw [Nat.mul_comm 2 q, Nat.mul_assoc]
  rw [e1, Nat.min_eq_right zc] at h1
  exact h1
theorem Blk.all {K : Nat → Int} {s n : Nat} {f : Nat → Nat} (h : Blk K s n f) (hs : n ≤ s) : Seg K 0 n f := by
  have := h 0
  rwa [Nat.zero_mul, Nat.min_eq_right zc] at this
/-! ### The order itself, and that there is but one -/
def ordM (K : Nat → Int) (n : Nat) : List Nat := (List.range n).mergeSort (fun x y => decide (bef K x y ∨ x = y))
theorem ordM_perm (K : Nat → Int) (n : Nat) : (ordM K n).Perm (List.range n) := List.mergeSort_perm _ _
theorem ordM_len (K : Nat → Int) (n : Nat) : (ordM K n).length = n := by rw [(ordM_perm K n).length_eq, List.length_range]
theorem ordM_mem {K : Nat → Int} {n x : Nat} : x ∈ ordM K n ↔ x < n := by rw [(ordM_perm K n).mem_iff, List.mem_range]
theorem ordM_srt (K : Nat → Int) (n : Nat) : (ordM K n).Pairwise (bef K) := by
  have h1 : (ordM K n).Pairwise (fun x y => decide (bef K x y ∨ x = y) = true) := List.pairwise_mergeSort (fun a b c h1 h2 => by
      simp only [decide_eq_true_eq] at *
      rcases h1 with h1 | rfl
      · rcases h2 with h2 | rfl
        · exact .inl (h1.trans h2)
        · exact .inl h1
      · exact h2) (fun a b => by
      simp only [Bool.or_eq_true, decide_eq_true_eq]
      rcases bef.total K a b with h | h | h
      · exact .inl (.inl h)
      · exact .inl (.inr h)
      · exact .inr (.inl h)) _
  have h2 : (ordM K n).Nodup := (ordM_perm K n).nodup_iff.2 List.nodup_range
  refine List.Pairwise.imp₂ (fun a b h3 h4 => ?_) h1 h2
  simp only [decide_eq_true_eq] at h3
  rcases h3 with h3 | h3
  · exact h3
  · exact absurd h3 h4
theorem srt_uniq {K : Nat → Int} : ∀ {xs ys : List Nat}, xs.Pairwise (bef K) → ys.Pairwise (bef K) → (∀ x, x ∈ xs ↔ x ∈ ys) → xs = ys
  | [], [], _, _, _ => rfl
  | [], y :: _, _, _, h => by have := (h y).2 (List.mem_cons_self); cases this
  | x :: _, [], _, _, h => by have := (h x).1 (List.mem_cons_self); cases this
  | x :: xs, y :: ys, h1, h2, h => by
    have p1 := List.pairwise_cons.1 h1
    have p2 := List.pairwise_cons.1 h2
    have e : x = y := by
      rcases List.mem_cons.1 ((h x).1 List.mem_cons_self) with e | e
      · exact e
      · rcases List.mem_cons.1 ((h y).2 List.mem_cons_self) with e2 | e2
        · exact e2.symm
        · exact ((p1.1 _ e2).asym (p2.1 _ e)).elim
    subst e
    congr 1
    refine srt_uniq p1.2 p2.2 fun z => ?_
    constructor
    · intro hz
      rcases List.mem_cons.1 ((h z).1 (List.mem_cons_of_mem _ hz)) with e | e
      · subst e; exact ((p1.1 _ hz).irr).elim
      · exact e
    · intro hz
      rcases List.mem_cons.1 ((h z).2 (List.mem_cons_of_mem _ hz)) with e | e
      · subst e; exact ((p2.1 _ hz).irr).elim
      · exact e
theorem len_sub {α : Type} [DecidableEq α] : ∀ {xs ys : List α}, xs.Nodup → (∀ x ∈ xs, x ∈ ys) → xs.length ≤ ys.length
  | [], _, _, _ => Nat.zero_le _
  | x :: xs, ys, hn, h => by
    have hp := List.nodup_cons.1 hn
    have hx := h x List.mem_cons_self
    have := len_sub (ys := ys.erase x) hp.2 (fun z hz => by
      refine (List.mem_erase_of_ne ?_).2 (h z (List.mem_cons_of_mem _ hz))
      rintro rfl; exact hp.1 hz)
    rw [List.length_erase_of_mem hx] at this
    have h0 : 0 < ys.length := List.length_pos_of_mem hx
    simp only [List.length_cons]; omega
theorem ord_of_srt {K : Nat → Int} {n : Nat} {xs : List Nat} (hs : xs.Pairwise (bef K)) (hl : xs.length = n) (hm : ∀ x ∈ xs, x < n) : xs = ordM K n := by
  have hn : xs.Nodup := hs.imp fun h e => by subst e; exact h.irr
  refine srt_uniq hs (ordM_srt K n) fun x => ?_
  rw [ordM_mem]
  refine ⟨hm x, fun hx => ?_⟩
  by_cases c : x ∈ xs
  · exact c
  · have := len_sub (xs := x :: xs) (ys := List.range n) (List.nodup_cons.2 ⟨c, hn⟩) (fun z hz => by
      rw [List.mem_range]
      rcases List.mem_cons.1 hz with rfl | hz
      · exact hx
      · exact hm z hz)
    simp only [List.length_cons, List.length_range] at this; omega
theorem ord_of_perm {K : Nat → Int} {n : Nat} {xs : List Nat} (hs : xs.Pairwise (bef K)) (hp : xs.Perm (List.range n)) : xs = ordM K n :=
  ord_of_srt hs (by rw [hp.length_eq, List.length_range]) fun x hx => List.mem_range.1 (hp.mem_iff.1 hx)
def ncell (j : Nat) : List Value := icell (j : Int)
theorem ord_of_seg {K : Nat → Int} {n : Nat} {f : Nat → Nat} (h : Seg K 0 n f) : rowF n f = (ordM K n).map ncell := by
  have e : (List.range n).map f = ordM K n := by
    refine ord_of_srt ?_ zC (fun x hx => ?_)
    · rw [List.pairwise_iff_getElem]
      intro i j hi hj hij
      simp only [List.getElem_map, List.getElem_range]
      exact h.1 i j (Nat.zero_le _) hij (by simpa using hj)
    · obtain ⟨j, hj, rfl⟩ := List.mem_map.1 hx
      exact (h.2 j (Nat.zero_le _) (List.mem_range.1 hj)).2
  rw [← e, List.map_map]; rfl
/-! ### Merging of lists -/
def mrgM (K : Nat → Int) : List Nat → List Nat → List Nat
  | [], ys => ys
  | x :: xs, [] => x :: xs
  | x :: xs, y :: ys => if K y < K x then y :: mrgM K (x :: xs) ys else x :: mrgM K xs (y :: ys)
termination_by xs ys => xs.length + ys.length
section
variable {K : Nat → Int}
theorem mrg_nilR (xs : List Nat) : mrgM K xs [] = xs := by cases xs <;> simp [mrgM]
theorem mrg_perm : ∀ (xs ys : List Nat), (mrgM K xs ys).Perm (xs ++ ys)
  | [], ys => by simp [mrgM]
  | x :: xs, [] => by simp [mrgM]
  | x :: xs, y :: ys => by
    rw [mrgM]
    split
    · exact ((mrg_perm (x :: xs) ys).cons y).trans List.perm_middle.symm
    · exact (mrg_perm xs (y :: ys)).cons x
termination_by xs ys => xs.length + ys.length
theorem mrg_srt : ∀ (xs ys : List Nat), xs.Pairwise (bef K) → ys.Pairwise (bef K) → (∀ x ∈ xs, ∀ y ∈ ys, K x = K y → x < y) → (mrgM K xs ys).Pairwise (bef K)
  | [], ys, _, h, _ => by simpa [mrgM] using h
  | x :: xs, [], h, _, _ => by simpa [mrgM] using h
  | x :: xs, y :: ys, h1, h2, hc => by
    have p1 := List.pairwise_cons.1 h1
    have p2 := List.pairwise_cons.1 h2
    rw [mrgM]
    split
    · rename_i hk
      refine List.pairwise_cons.2 ⟨fun z hz => ?_, mrg_srt (x :: xs) ys h1 p2.2 fun a ha b hb => hc a ha b (List.mem_cons_of_mem _ hb)⟩
      have hyx : bef K y x := .inl hk
      rcases List.mem_append.1 ((mrg_perm (x :: xs) ys).mem_iff.1 hz) with hz | hz
      · rcases List.mem_cons.1 hz with rfl | hz
        · exact hyx
        · exact hyx.trans (p1.1 z hz)
      · exact p2.1 z hz
    · rename_i hk
      refine List.pairwise_cons.2 ⟨fun z hz => ?_, mrg_srt xs (y :: ys) p1.2 h2 fun a ha b hb => hc a (List.mem_cons_of_mem _ ha) b hb⟩
      have hxy : bef K x y := bef.not hk (hc x List.mem_cons_self y List.mem_cons_self)
      rcases List.mem_append.1 ((mrg_perm xs (y :: ys)).mem_iff.1 hz) with hz | hz
      · exact p1.1 z hz
      · rcases List.mem_cons.1 hz with rfl | hz
        · exact hxy
        · exact hxy.trans (p2.1 z hz)
termination_by xs ys => xs.length + ys.length
theorem mrg_left {xs ys : List Nat} {i j x : Nat} (hx : xs[i]? = some x) (h : ∀ y, ys[j]? = some y → ¬ K y < K x) : mrgM K (xs.drop i) (ys.drop j) = x :: mrgM K (xs.drop (i + 1)) (ys.drop j) := by
  have hi : i < xs.length := by
    rcases Nat.lt_or_ge i xs.length with h1 | h1
    · exact h1
    · rw [List.getElem?_eq_none h1] at hx; cases hx
  rw [List.drop_eq_getElem_cons hi]
  rw [List.getElem?_eq_getElem hi] at hx
  rw [Option.some.inj hx]
  rcases Nat.lt_or_ge j ys.length with h1 | h1
  · rw [List.drop_eq_getElem_cons h1, mrgM, if_neg (h _ (List.getElem?_eq_getElem h1))]
  · rw [List.drop_eq_nil_of_le h1, mrg_nilR, mrg_nilR]
theorem mrg_right {xs ys : List Nat} {i j y : Nat} (hy : ys[j]? = some y) (h : ∀ x, xs[i]? = some x → K y < K x) : mrgM K (xs.drop i) (ys.drop j) = y :: mrgM K (xs.drop i) (ys.drop (j + 1)) := by
  have hj : j < ys.length := by
    rcases Nat.lt_or_ge j ys.length with h1 | h1
    · exact h1
    · rw [List.getElem?_eq_none h1] at hy; cases hy
  rw [List.drop_eq_getElem_cons hj]
  rw [List.getElem?_eq_getElem hj] at hy
  rw [Option.some.inj hy]
  rcases Nat.lt_or_ge i xs.length with h1 | h1
  · rw [List.drop_eq_getElem_cons h1, mrgM, if_pos (h _ (List.getElem?_eq_getElem h1))]
  · rw [List.drop_eq_nil_of_le h1, mrgM, mrgM]
end
end Go.Proofs.YtglpgohilfoecaaGreat

/-
  The library's stable sort at places, beside a comparison by keys.
-/
namespace Go.Proofs.YtglpgohilfoecaaGreat
open Go.RowKit
attribute [local irreducible] Go.wpList Go.Code.wp Go.Exit.then Go.Exit.inBlock Go.bodyPost Go.Calls pE pB G RunsV FnV Fn FnM
set_option maxRecDepth 100000
set_option maxHeartbeats 4000000
def cmpZ (x y : Int) : Int := if x < y then -1 else if x > y then 1 else 0
theorem cmpZ_neg {x y : Int} : cmpZ x y < 0 ↔ x < y := by
  unfold cmpZ
  split
  · omega
  · split <;> omega
theorem get_setN {β : Type} {es : List β} {i k : Nat} {x y : β} (h : i ≠ k) (he : es[k]? = some x) : (es.set i y)[k]? = some x := by
  rw [List.getElem?_set_ne h]; exact he
theorem swap_row {n k l : Nat} {f : Nat → Nat} : ((rowF n f).set k (icell (f l : Int))).set l (icell (f k : Int)) = rowF n (upd (upd f k (f l)) l (f k)) := by rw [rowF_set, rowF_set]
theorem row_up {n a k : Nat} {f : Nat → Nat} (h : a ≤ k) : ((rowF n (rotF f a (a + 1) (k + 1))).set k (icell (f (k + 1) : Int))).set (k + 1) (icell (f a : Int)) = rowF n (rotF f a (a + 1) (k + 2)) := by
  have e1 : rotF f a (a + 1) (k + 1) (k + 1) = f (k + 1) := rot_out zc zc (.inr (Nat.le_refl _))
  have e2 : rotF f a (a + 1) (k + 1) k = f a := by
    rw [rot_hi zc zc]; congr 1; omega
  have := rot_up (f := f) h
  rw [e1, e2] at this
  rw [rowF_set, rowF_set, this]
theorem row_dn {n m k : Nat} {f : Nat → Nat} (h : k < m) : ((rowF n (rotF f (k + 1) m (m + 1))).set (k + 1) (icell (f k : Int))).set k (icell (f m : Int)) = rowF n (rotF f k m (m + 1)) := by
  have e1 : rotF f (k + 1) m (m + 1) k = f k := rot_out zc zc (.inl zc)
  have e2 : rotF f (k + 1) m (m + 1) (k + 1) = f m := by
    rw [rot_lo zc zc]; congr 1; omega
  have := rot_dn (f := f) h
  rw [e1, e2] at this
  rw [rowF_set, rowF_set, this]
theorem ins_next {K : Nat → Int} {a i j : Nat} {g : Nat → Nat} (hs : Seg K a i g) (hi : g i = i) (ha : a ≤ j) (hj : j ≤ i) (hl : j = a ∨ ¬ K (g i) < K (g (j - 1))) (hr : j = i ∨ K (g i) < K (g j)) : Seg K a (i + 1) (rotF g j i (i + 1)) := by
  refine ⟨put_right hs.1 (fun l k l1 l2 k1 k2 _ => ?_) ha hj hl hr, fun l l1 l2 => ?_⟩
  · have := hs.2 l l1 l2
    obtain rfl : k = i := by omega
    omega
  · obtain ⟨z, z1, z2, z3⟩ := (rot_frm (f := g) hj (by omega : i ≤ i + 1)).mono ha (Nat.le_refl _) |>.src l l1 l2
    rw [z3]
    by_cases c : z = i
    · subst c; omega
    · have := hs.2 z z1 zc; omega
section
variable {w0 : World} {F : List Ch} {v u : Value} {n : Nat}

theorem swapRange_any {f : Nat → Nat} {a b k : Nat} (h1 : a + k ≤ b) (h2 : b + k ≤ n) (hn : n ≤ 1048576) :
    FnMF Tryz.prog 246 [v, .int .i64 (a : Int), .int .i64 (b : Int), .int .i64 (k : Int), u] w0 [.row v 3 1 (rowF n f)] F (fun _ : Unit => True) (fun _ => .tuple #[]) (fun _ => [.row v 3 1 (rowF n (swapF f a b k))]) := by
  refine FnMF.of (n := 38) Tryz.func246 rfl rfl ?_; refine zbL ?_; refine G.rowEq (rowF n (swapF f a b 0)) (by rw [swapF_zero]) rfl ?_; refine G.loopK (ι := Nat) (ks := [0, 1, 2, 3]) (fun i => [(10, .int .i64 (i : Int))]) (fun i => [.row v 3 1 (rowF n (swapF f a b i))]) (fun i => i ≤ k) (fun i => k - i) 0 (.cons rfl (.cons rfl (.cons rfl (.cons rfl (.nil))))) rfl ?_ ?_ ?_
  exact Nat.zero_le _
  exact ⟨rfl, trivial⟩
  rintro i hi
  by_cases hlt : i < k
  case' pos => (have e1 : (rowF n (swapF f a b i))[a + i]? = some (icell (swapF f a b i (a + i) : Int)) := rowF_get zc; have e2 : (rowF n (swapF f a b i))[b + i]? = some (icell (swapF f a b i (b + i) : Int)) := rowF_get zc)
  all_goals
   refine zcT ?_; refine zaI ?_; refine G.cond rfl (fun hc => ?_) (fun hc => ?_)
   · all_goals
      replace hc := of_decide_eq_true hc
      try (exfalso; omega)
      all_goals
       refine zaQ ?_; refine G.drawS [21, 23] rfl ?_; refine zcx ?_; refine GS.p 3 rfl za (qg_runs (rv_addN rfl rfl zc)) (fun _ h => h.drop 1) rfl ?_; refine zfG ?_; refine GS.p 6 rfl za (qg_runs (rv_move rfl)) (fun _ h => h.drop 1) rfl ?_; refine GS.p 7 rfl za (qg_runs (rv_addN rfl rfl zc)) (fun _ h => h.drop 1) rfl ?_; refine GS.p 8 rfl za (qg_runs (rv_move rfl)) (fun _ h => h.drop 1) rfl ?_; refine GS.p 9 rfl za (qg_runs (rv_move rfl)) (fun _ h => h.drop 1) rfl ?_; refine GS.p 10 rfl za (qg_runs (rv_move rfl)) (fun _ h => h.drop 1) rfl ?_; refine GS.p 11 rfl za (qg_runs (rv_addN rfl rfl zc)) (fun _ h => h.drop 1) rfl ?_
       refine GS.q 12 [13, 20, 21, 22, 23] rfl za za (qg_runs (rv_indexH rfl rfl ze rfl zK)) rfl ?_; refine GS.q 13 [20, 21, 22, 23] rfl za za (qg_runs (rv_loadE rfl ze zK rfl)) rfl ?_; refine GS.p 14 rfl za (qg_runs (rv_move rfl)) (fun _ h => h.drop 1) rfl ?_; refine GS.p 15 rfl za (qg_runs (rv_move rfl)) (fun _ h => h.drop 1) rfl ?_; refine GS.p 16 rfl za (qg_runs (rv_move rfl)) (fun _ h => h.drop 1) rfl ?_; refine GS.p 17 rfl za (qg_runs (rv_addN rfl rfl zc)) (fun _ h => h.drop 1) rfl ?_; refine GS.q 18 [19, 20, 21, 22, 23] rfl za za (qg_runs (rv_indexH rfl rfl ze rfl zu)) rfl ?_; refine GS.q 19 [20, 21, 22, 23] rfl za za (qg_runs (rv_loadE rfl ze zu rfl)) rfl ?_; refine GS.q 20 [21, 22, 23] rfl za za (qg_runs (rv_indexH rfl rfl ze rfl zu)) rfl ?_
       refine GS.o0 21 za rfl rfl (og_stE0 rfl rfl rfl zu rfl rfl rfl rfl (.zero (.cons .nil))) (fun _ _ h => h.drop 1) (fun _ _ => ?_); refine GS.q 22 [23] rfl za za (qg_runs (rv_indexH rfl rfl ze rfl zae)) rfl ?_; refine GS.o0 23 za rfl rfl (og_stE0 rfl rfl rfl zae rfl rfl rfl rfl (.zero (.cons .nil))) (fun _ _ h => h.drop 1) (fun _ _ => ?_); refine GS.done za ?_; refine zaE ?_; refine G.backK (i + 1) 0 (one_eq (congrArg (fun z => Ch.row v 3 1 z) (swap_row.trans (congrArg (rowF n) (swapF_next zc))))) (.cons rfl (.cons rfl (.cons rfl (.cons rfl (.nil))))) ?_ ?_ ?_
       exact ⟨rfl, trivial⟩
       exact hlt
       omega
   · all_goals
      replace hc := of_decide_eq_false hc
      try (exfalso; omega)
      all_goals
       refine zc0 ?_
       exact G.endF0 () trivial rfl rfl (fun w hw => by obtain rfl : i = k := zc; exact hw)
theorem rotate_any {f : Nat → Nat} {a m b : Nat} (h1 : a < m) (h2 : m < b) (h3 : b ≤ n) (hn : n ≤ 1048576) :
    FnMF Tryz.prog 245 [v, .int .i64 (a : Int), .int .i64 (m : Int), .int .i64 (b : Int), u] w0 [.row v 3 1 (rowF n f)] F (fun _ : Unit => True) (fun _ => .tuple #[]) (fun _ => [.row v 3 1 (rowF n (rotF f a m b))]) := by
  refine FnMF.of (n := 58) Tryz.func245 rfl rfl ?_; refine zaM ?_; refine zd3 ?_; refine zdn ?_; refine zd3 ?_; refine zba ?_; refine G.block ?_; refine G.loopK (ι := Nat × Nat × (Nat → Nat)) (ks := [0, 2, 4]) (fun x => [(10, .int .i64 (x.1 : Int)), (11, .int .i64 (x.2.1 : Int))]) (fun x => [.row v 3 1 (rowF n x.2.2)]) (fun x => 0 < x.1 ∧ 0 < x.2.1 ∧ x.1 ≤ m ∧ m + x.2.1 ≤ b ∧ rotF x.2.2 (m - x.1) m (m + x.2.1) = rotF f a m b) (fun x => x.1 + x.2.1) (m - a, b - m, f) (.cons rfl (.cons rfl (.cons rfl (.nil)))) rfl ?_ ?_ ?_
  exact ⟨by dsimp only; omega, by dsimp only; omega, by dsimp only; omega, by dsimp only; omega, by dsimp only; rw [show m - (m - a) = a from by omega, show m + (b - m) = b from by omega]⟩
  exact ⟨rfl, rfl, trivial⟩
  rintro ⟨i, j, g⟩ ⟨hi, hj, him, hjb, hg2⟩
  dsimp only at hi hj him hjb hg2 ⊢
  refine zcT ?_; refine zci ?_; refine G.condD rfl (fun hc => ?_) (fun hc => ?_); refine zbR ?_; refine G.block ?_; refine zaM ?_; refine G.v (rv_gtr rfl rfl) rfl ?_; refine za1 ?_; refine G.condD rfl (fun hc => ?_) (fun hc => ?_); refine zca ?_; refine zd3 ?_; refine zbA ?_; refine zaC ?_
  (refine zcX ?_); refine G.op (og_callMM1 rfl rfl rfl (swapRange_any zc zc hn)) rfl ?_; rintro ⟨⟩ _; try dsimp only
  refine za1 ?_; refine zdX ?_; refine zd3 ?_; refine za0 ?_; refine G.inN ?_; refine G.backK (i - j, j, swapF g (m - i) m j) 0 rfl (.cons rfl (.cons rfl (.cons rfl (.nil)))) (⟨rfl, rfl, trivial⟩) ?_ ?_
  exact ⟨by dsimp only; omega, by dsimp only; omega, by dsimp only; omega, by dsimp only; omega, by dsimp only; rw [rot_big zc zc]; exact hg2⟩
  dsimp only; omega
  refine zca ?_; refine zd3 ?_; refine zbA ?_; refine G.v (rv_addN rfl rfl zc) rfl ?_; refine zaC ?_; refine zd3 ?_; refine zbA ?_
  (refine zcX ?_); refine G.op (og_callMM1 rfl rfl rfl (swapRange_any zc zc hn)) rfl ?_; rintro ⟨⟩ _; try dsimp only
  refine za1 ?_; refine zdX ?_; refine zd3 ?_; refine za0 ?_; refine G.inN ?_; refine G.backK (i, j - i, swapF g (m - i) (m + j - i) i) 0 rfl (.cons rfl (.cons rfl (.cons rfl (.nil)))) (⟨rfl, rfl, trivial⟩) ?_ ?_
  exact ⟨by dsimp only; omega, by dsimp only; omega, by dsimp only; omega, by dsimp only; omega, by dsimp only; rw [rot_small zc zc]; exact hg2⟩
  dsimp only; omega
  refine zaL ?_; refine zcZ ?_; refine zd3 ?_; refine zbA ?_; refine zaC ?_
  (refine zcX ?_); refine G.op (og_callMM1 rfl rfl rfl (swapRange_any zc zc hn)) rfl ?_; rintro ⟨⟩ _; try dsimp only
  refine G.done ?_
  exact G.endF0 () trivial rfl rfl (fun w hw => by obtain rfl : i = j := zc; rw [rot_eq him, hg2] at hw; exact hw)
variable {g : Nat} [FnOk Tryz.prog g] {caps : List Value} {K : Nat → Int} {N : Nat}
theorem insertion_any {f : Nat → Nat} {a b : Nat} (hcmp : ∀ w, HeapOk w0 w F → ∀ i j : Nat, i < n → j < n → FnV Tryz.prog g ([.int .i64 (i : Int), .int .i64 (j : Int)] ++ caps) w (.int .i64 (cmpZ (K i) (K j)))) (h1 : a ≤ b) (h2 : b ≤ n) (hn : n ≤ 1048576) (hid : ∀ j, a ≤ j → j < b → f j = j) :
    FnMF Tryz.prog 242 [v, .int .i64 (a : Int), .int .i64 (b : Int), .func (.func g) #[] caps.toArray] w0 [.row v 3 1 (rowF n f)] F (fun f' : Nat → Nat => (∀ j, j < a ∨ b ≤ j → f' j = f j) ∧ Seg K a b f') (fun _ => .tuple #[]) (fun f' => [.row v 3 1 (rowF n f')]) := by
  refine FnMF.of (n := 53) Tryz.func242 rfl rfl ?_; refine zaD ?_; refine zeN ?_; refine zaB ?_; refine G.block ?_; refine G.loopK (ι := Nat × (Nat → Nat)) (ks := [0, 1, 2, 3]) (fun x => [(8, .int .i64 (x.1 : Int))]) (fun x => [.row v 3 1 (rowF n x.2)]) (fun x => a + 1 ≤ x.1 ∧ x.1 ≤ b + 1 ∧ (∀ j, j < a ∨ b ≤ j ∨ x.1 ≤ j → x.2 j = f j) ∧ Seg K a (min x.1 b) x.2) (fun x => b - x.1) (a + 1, f) (.cons rfl (.cons rfl (.cons rfl (.cons rfl (.nil))))) rfl ?_ ?_ ?_
  exact ⟨Nat.le_refl _, by dsimp only; omega, fun _ _ => rfl, fun j k _ _ _ => by omega, fun j j1 j2 => by dsimp only at j2 ⊢; rw [hid j j1 zc]; omega⟩
  exact ⟨rfl, trivial⟩
  rintro ⟨i, g0⟩ ⟨hai, hib, hout, hseg⟩
  dsimp only at hai hib hout hseg ⊢
  by_cases hlt : i < b
  case' pos => (have hgi0 : g0 i = i := (hout i (.inr (.inr (Nat.le_refl _)))).trans (hid i zc hlt); rw [Nat.min_eq_left zc] at hseg; have hgi : g0 i < n := zc)
  all_goals
   refine zcT ?_; refine zaI ?_; refine G.cond rfl (fun hc => ?_) (fun hc => ?_)
   · all_goals
      replace hc := of_decide_eq_true hc
      try (exfalso; omega)
      all_goals
       refine zea ?_; refine zaB ?_; refine G.block (G.rowEq (rowF n (rotF g0 i i (i + 1))) (by rw [rot_id (Nat.le_refl _) zc (.inl rfl)]) rfl ?_); refine G.loopK (ι := Nat) (ks := [0, 1, 2, 3, 8]) (fun j => [(9, .int .i64 (j : Int))]) (fun j => [.row v 3 1 (rowF n (rotF g0 j i (i + 1)))]) (fun j => a ≤ j ∧ j ≤ i ∧ (j = i ∨ K (g0 i) < K (g0 j))) (fun j => j) i (.cons rfl (.cons rfl (.cons rfl (.cons rfl (.cons rfl (.nil)))))) rfl ?_ ?_ ?_
       exact ⟨by omega, Nat.le_refl _, .inl rfl⟩
       exact ⟨rfl, trivial⟩
       rintro j ⟨haj, hji, hjr⟩
       have e1 : (rowF n (rotF g0 j i (i + 1)))[j]? = some (icell (g0 i : Int)) := by rw [rowF_get zc, rot_lo (Nat.le_refl _) zc]; congr 4; omega
       have e2 : a < j → (rowF n (rotF g0 j i (i + 1)))[j - 1]? = some (icell (g0 (j - 1) : Int)) := fun h => by rw [rowF_get zc, rot_out hji zc (.inl zc)]
       have hgj : a < j → g0 (j - 1) < n := fun h => by (have := hseg.2 (j - 1) zc zc; omega)
       by_cases hja : a < j
       case' pos => (replace e2 := e2 hja; replace hgj := hgj hja)
       all_goals
        refine G.seq ?_; refine zfo ?_; refine GE.q 0 rfl za rfl (qg_runs (rv_move rfl)) rfl ?_; refine GE.ol 1 za rfl rfl (og_runs (rv_move rfl)) rfl zd (fun _ _ => ?_); refine GE.ol 2 za rfl rfl (og_runs (rv_gtr rfl rfl)) rfl zd (fun _ _ => ?_); refine GE.ol 3 za rfl rfl (og_runs (rv_move rfl)) rfl zd (fun _ _ => ?_)
        all_goals (((with_reducible refine GE.part (t := 21) rfl (fun hg => ?_) (fun hg => ?_)) <;> (try exact Bool.noConfusion hg) <;> (try (exfalso; first | (have hq := of_decide_eq_false hg; omega) | (have hq := of_decide_eq_true hg; omega); done)) <;> (first | refine zbI ?_ | refine zen ?_)))
        all_goals ((first | refine zed ?_ | refine zeo ?_))
        all_goals ((first | refine zdu ?_ | refine zep ?_))
        all_goals ((first | (refine GE.q 7 rfl za rfl (qg_runs (rv_indexH rfl rfl ze rfl zu)) rfl ?_) | refine zeq ?_))
        all_goals ((first | refine GE.q 8 rfl za rfl (qg_runs (rv_loadE rfl ze zu rfl)) rfl ?_ | refine zdS ?_))
        all_goals ((first | refine GE.q 9 rfl za rfl (qg_runs (rv_move rfl)) rfl ?_ | refine zdT ?_))
        all_goals ((first | refine GE.q 10 rfl za rfl (qg_runs (rv_move rfl)) rfl ?_ | refine zdw ?_))
        all_goals ((first | (refine GE.q 11 rfl za rfl (qg_runs (rv_decr rfl rfl zc zc)) rfl ?_) | refine zdl ?_))
        all_goals ((first | (refine GE.q 12 rfl za rfl (qg_runs (rv_indexH rfl rfl ze rfl zK)) rfl ?_) | refine zdc ?_))
        all_goals ((first | refine GE.q 13 rfl za rfl (qg_runs (rv_loadE rfl ze (by first | exact e1 | exact e2) rfl)) rfl ?_ | refine zdd ?_))
        all_goals ((first | refine GE.q 14 rfl za rfl (qg_call rfl rfl (fun w hh => hcmp w hh.tail _ _ hgi (by exact hgj))) rfl ?_ | refine zei ?_))
        all_goals ((first | refine GE.q 15 rfl za rfl (qg_runs (rv_lss rfl rfl)) rfl ?_ | refine GE.qn 15 rfl za rfl rfl ?_))
        all_goals ((first | refine zfq (fun _ _ => ?_) | refine zfr (fun _ _ => ?_)))
        all_goals
         refine zbj ?_; refine G.cond rfl (fun hc => ?_) (fun hc => ?_)
         · try exact Bool.noConfusion hc
           all_goals
            replace hc := of_decide_eq_true hc
            simp only [cmpZ_neg] at hc
            all_goals
             refine zaY ?_
             refine zbd (fun _ _ => ?_); refine zb3 (fun _ _ => ?_); refine GS.done za ?_; refine G.inN (G.thenN ?_); refine zbi ?_; refine zd4 ?_; refine za0 ?_
             refine G.backK (j - 1) 0 (one_eq (congrArg (fun z => Ch.row v 3 1 z) (by obtain ⟨q, rfl⟩ : ∃ q, j = q + 1 := ⟨j - 1, by omega⟩; exact row_dn zc))) (.cons rfl (.cons rfl (.cons rfl (.cons rfl (.cons rfl (.nil)))))) ?_ ?_ ?_
             exact ⟨rfl, trivial⟩
             exact ⟨by omega, by omega, .inr hc⟩
             omega
         · all_goals
            try replace hc := of_decide_eq_false hc
            simp only [cmpZ_neg] at hc
            all_goals
             refine zc0 ?_; refine zaE ?_; refine G.backK (i + 1, rotF g0 j i (i + 1)) 0 rfl (.cons rfl (.cons rfl (.cons rfl (.cons rfl (.nil))))) ?_ ?_ ?_
             exact ⟨rfl, trivial⟩
             refine ⟨by dsimp only; omega, by dsimp only; omega, fun l hl => ?_, ?_⟩
             dsimp only at hl ⊢; rw [rot_out hji zc zc]; exact hout l zc
             dsimp only; rw [Nat.min_eq_left zc]; exact ins_next hseg hgi0 haj hji (by first | exact .inl zc | exact .inr hc) hjr
             dsimp only; omega
   · all_goals
      replace hc := of_decide_eq_false hc
      try (exfalso; omega)
      all_goals
       refine zc0 ?_
       exact G.endF0 g0 ⟨fun j hj => hout j zc, by rw [Nat.min_eq_right zc] at hseg; exact hseg⟩ rfl rfl (fun w hw => hw)
end
end Go.Proofs.YtglpgohilfoecaaGreat

/-
  Short lists that are sorted: the library's insertion, the reference's merging.
-/
namespace Go.Proofs.YtglpgohilfoecaaGreat
open Go.RowKit
theorem bytes_get {s : ByteArray} {m : Nat} (h : m < s.size) : s[m]? = some (s[m]'h) := getElem?_pos s m h
theorem wrap_small {k : IntKind} {p : Int} (h0 : 0 ≤ p) (h1 : p ≤ 12) : k.wrap p = p := by
  obtain ⟨m, rfl⟩ : ∃ m : Nat, p = m := ⟨p.toNat, by omega⟩
  have : m ≤ 12 := by omega
  match m, this with
  | 0, _ | 1, _ | 2, _ | 3, _ | 4, _ | 5, _ | 6, _ | 7, _ | 8, _ | 9, _ | 10, _ | 11, _ | 12, _ => cases k <;> rfl
  | m + 13, h => omega
section
variable {P : Program} {n : Nat} {w0 : World} {fr : Fr} {H : List Ch} {x y : Operand} {t t' : TypeId} {k : IntKind} {p : Int}
theorem rv_convS {src dst : TypeId} {k2 : IntKind} [hs : TyInt P src k] [hd : TyInt P dst k2] (hx : opv fr x = some (.int k p)) (h0 : 0 ≤ p) (h1 : p ≤ 12) : RunsV P n w0 fr H (.convert src dst x) (.int k2 p) := by
  have := rv_conv (P := P) (n := n) (w0 := w0) (H := H) (src := src) (dst := dst) (k2 := k2) hx
  rwa [wrap_small h0 h1] at this
theorem rv_indexS {s : ByteArray} (hT : P.underlying t = some .string) (hx : opv fr x = some (.string s)) (hy : opv fr y = some (.int k p)) (h0 : 0 ≤ p) {b : UInt8} (hb : s[p.toNat]? = some b) : RunsV P n w0 fr H (.index t x y) (.int .u8 b.toNat) := fun a w hr _ _ _ _ _ _ => by
  simp [execOp, hr.opv hx, hr.opv hy, Instr.index, asIntOf, run_underlying hT, h0, hb]
end
attribute [local irreducible] Go.wpList Go.Code.wp Go.Exit.then Go.Exit.inBlock Go.bodyPost Go.Calls pE pB G RunsV FnV Fn FnM
set_option maxRecDepth 100000
set_option maxHeartbeats 4000000
def keyU (ks : List Int) (j : Nat) : Int := (ks[j]?).getD 0
theorem keyU_get {ks : List Int} {j : Nat} {a : Int} (h : ks[j]? = some a) : keyU ks j = a := by rw [keyU, h]; rfl
def sortM (ks : List Int) : List Int := (ordM (keyU ks) ks.length).map (keyU ks)
theorem sortM_len (ks : List Int) : (sortM ks).length = ks.length := by rw [sortM, List.length_map, ordM_len]
theorem range_key (ks : List Int) : (List.range ks.length).map (keyU ks) = ks := by
  apply List.ext_getElem zC
  intro i h1 h2
  rw [List.getElem_map, List.getElem_range, keyU_get (List.getElem?_eq_getElem h2)]
theorem sortM_perm (ks : List Int) : (sortM ks).Perm ks := by
  have := (ordM_perm (keyU ks) ks.length).map (keyU ks)
  rwa [range_key] at this
theorem sortM_srt (ks : List Int) : (sortM ks).Pairwise (· ≤ ·) := by
  rw [sortM, List.pairwise_map]
  exact (ordM_srt (keyU ks) ks.length).imp (fun h => by unfold bef at h; omega)
def rowK (n : Nat) (K : Nat → Int) (f : Nat → Nat) : List (List Value) := (List.range n).map fun j => icell (K (f j))
theorem rowK_len (n : Nat) (K : Nat → Int) (f : Nat → Nat) : (rowK n K f).length = n := by simp [rowK]
theorem rowK_get {n k : Nat} {K : Nat → Int} {f : Nat → Nat} (h : k < n) : (rowK n K f)[k]? = some (icell (K (f k))) := by
  simp [rowK, h]
theorem rowK_set {n k z : Nat} {K : Nat → Int} {f : Nat → Nat} : (rowK n K f).set k (icell (K z)) = rowK n K (upd f k z) := by
  apply List.ext_getElem?
  intro j
  rw [List.getElem?_set]
  by_cases hj : j < n
  · rw [rowK_get (f := upd f k z) hj]
    by_cases h : k = j
    · subst h; simp [rowK_len, hj, upd]
    · rw [if_neg h, rowK_get hj]; simp [upd, Ne.symm h]
  · rw [List.getElem?_eq_none (l := rowK n K (upd f k z)) (by rw [rowK_len]; omega), List.getElem?_eq_none (l := rowK n K f) (by rw [rowK_len]; omega), rowK_len]
    split
    · rw [if_neg zc]
    · rfl
theorem rowK_dn {n m k : Nat} {K : Nat → Int} {f : Nat → Nat} (h : k < m) : ((rowK n K (rotF f (k + 1) m (m + 1))).set (k + 1) (icell (K (f k)))).set k (icell (K (f m))) = rowK n K (rotF f k m (m + 1)) := by
  have e1 : rotF f (k + 1) m (m + 1) k = f k := rot_out zc zc (.inl zc)
  have e2 : rotF f (k + 1) m (m + 1) (k + 1) = f m := by
    rw [rot_lo zc zc]; congr 1; omega
  have := rot_dn (f := f) h
  rw [e1, e2] at this
  rw [rowK_set, rowK_set, this]
theorem rowK_list (ks : List Int) : rowK ks.length (keyU ks) (fun j => j) = ks.map icell := by
  have := congrArg (List.map icell) (range_key ks)
  rw [List.map_map] at this
  exact this
theorem rowK_seg {ks : List Int} {f : Nat → Nat} (h : Seg (keyU ks) 0 ks.length f) : rowK ks.length (keyU ks) f = (sortM ks).map icell := by
  have e : (List.range ks.length).map f = ordM (keyU ks) ks.length := by
    refine ord_of_srt ?_ zC (fun x hx => ?_)
    · rw [List.pairwise_iff_getElem]
      intro i j hi hj hij
      simp only [List.getElem_map, List.getElem_range]
      exact h.1 i j (Nat.zero_le _) hij (by simpa using hj)
    · obtain ⟨j, hj, rfl⟩ := List.mem_map.1 hx
      exact (h.2 j (Nat.zero_le _) (List.mem_range.1 hj)).2
  rw [sortM, ← e, List.map_map, List.map_map]; rfl
theorem isNaN_any (a : Int) (w : World) : FnV Tryz.prog 234 [.int .i64 a] w (.bool false) := by
  refine FnV.of (n := 6) Tryz.func234 rfl rfl ?_; refine zaG ?_; refine zaM ?_; refine G.v (rv_neq rfl rfl) rfl ?_; refine zcf ?_
  exact G.retFV rfl rfl (congrArg Value.bool zC)
theorem less_any (a b : Int) (w : World) : FnV Tryz.prog 188 [.int .i64 a, .int .i64 b] w (.bool (decide (a < b))) := by
  refine FnV.of (n := 17) Tryz.func188 rfl rfl ?_; refine zaG ?_; refine zaD ?_; refine G.op (og_callV rfl rfl (fun w _ => isNaN_any _ w)) rfl (fun _ _ => ?_); refine zaC ?_
  (with_reducible refine G.gP rfl rfl (fun hg => ?_) (fun hg => ?_)) <;> (try exact Bool.noConfusion hg) <;> (refine zaF ?_)
  refine zaF ?_; refine zaF ?_; refine za4 ?_; refine zaC ?_
  (with_reducible refine G.gP rfl rfl (fun hg => ?_) (fun hg => ?_)) <;> (try exact Bool.noConfusion hg) <;> ((refine zbm ?_))
  refine zbm ?_; refine zch ?_; refine za4 ?_; refine zcf ?_
  exact G.retFV rfl rfl rfl
section
variable {w0 : World} {F : List Ch} {v u : Value} {n : Nat} {K : Nat → Int}
theorem insOrd_any {f : Nat → Nat} {a b : Nat} (h1 : a ≤ b) (h2 : b ≤ n) (hn : n ≤ 1048576) (hid : ∀ j, a ≤ j → j < b → f j = j) :
    FnMF Tryz.prog 182 [v, .int .i64 (a : Int), .int .i64 (b : Int)] w0 [.row v 3 1 (rowK n K f)] F (fun f' : Nat → Nat => (∀ j, j < a ∨ b ≤ j → f' j = f j) ∧ Seg K a b f') (fun _ => .tuple #[]) (fun f' => [.row v 3 1 (rowK n K f')]) := by
  refine FnMF.of (n := 49) Tryz.func182 rfl rfl ?_; refine zaD ?_; refine zeN ?_; refine zaB ?_; refine G.block ?_; refine G.loopK (ι := Nat × (Nat → Nat)) (ks := [0, 1, 2]) (fun x => [(6, .int .i64 (x.1 : Int))]) (fun x => [.row v 3 1 (rowK n K x.2)]) (fun x => a + 1 ≤ x.1 ∧ x.1 ≤ b + 1 ∧ (∀ j, j < a ∨ b ≤ j ∨ x.1 ≤ j → x.2 j = f j) ∧ Seg K a (min x.1 b) x.2) (fun x => b - x.1) (a + 1, f) (.cons rfl (.cons rfl (.cons rfl (.nil)))) rfl ?_ ?_ ?_
  exact ⟨Nat.le_refl _, by dsimp only; omega, fun _ _ => rfl, fun j k _ _ _ => by omega, fun j j1 j2 => by dsimp only at j2 ⊢; rw [hid j j1 zc]; omega⟩
  exact ⟨rfl, trivial⟩
  rintro ⟨i, g0⟩ ⟨hai, hib, hout, hseg⟩
  dsimp only at hai hib hout hseg ⊢
  by_cases hlt : i < b
  case' pos => (have hgi0 : g0 i = i := (hout i (.inr (.inr (Nat.le_refl _)))).trans (hid i zc hlt); rw [Nat.min_eq_left zc] at hseg)
  all_goals
   refine zcT ?_; refine zaI ?_; refine G.cond rfl (fun hc => ?_) (fun hc => ?_)
   · all_goals
      replace hc := of_decide_eq_true hc
      try (exfalso; omega)
      all_goals
       refine zea ?_; refine zaB ?_; refine G.block (G.rowEq (rowK n K (rotF g0 i i (i + 1))) (by rw [rot_id (Nat.le_refl _) zc (.inl rfl)]) rfl ?_); refine G.loopK (ι := Nat) (ks := [0, 1, 2, 6]) (fun j => [(7, .int .i64 (j : Int))]) (fun j => [.row v 3 1 (rowK n K (rotF g0 j i (i + 1)))]) (fun j => a ≤ j ∧ j ≤ i ∧ (j = i ∨ K (g0 i) < K (g0 j))) (fun j => j) i (.cons rfl (.cons rfl (.cons rfl (.cons rfl (.nil))))) rfl ?_ ?_ ?_
       exact ⟨by omega, Nat.le_refl _, .inl rfl⟩
       exact ⟨rfl, trivial⟩
       rintro j ⟨haj, hji, hjr⟩
       have e1 : (rowK n K (rotF g0 j i (i + 1)))[j]? = some (icell (K (g0 i))) := by rw [rowK_get zc, rot_lo (Nat.le_refl _) zc]; congr 4; omega
       have e2 : a < j → (rowK n K (rotF g0 j i (i + 1)))[j - 1]? = some (icell (K (g0 (j - 1)))) := fun h => by rw [rowK_get zc, rot_out hji zc (.inl zc)]
       by_cases hja : a < j
       case' pos => (replace e2 := e2 hja)
       all_goals
        refine G.seq ?_; refine zfo ?_; refine GE.q 0 rfl za rfl (qg_runs (rv_move rfl)) rfl ?_; refine GE.ol 1 za rfl rfl (og_runs (rv_move rfl)) rfl zd (fun _ _ => ?_); refine GE.ol 2 za rfl rfl (og_runs (rv_gtr rfl rfl)) rfl zd (fun _ _ => ?_); refine GE.ol 3 za rfl rfl (og_runs (rv_move rfl)) rfl zd (fun _ _ => ?_)
        all_goals (((with_reducible refine GE.part (t := 19) rfl (fun hg => ?_) (fun hg => ?_)) <;> (try exact Bool.noConfusion hg) <;> (try (exfalso; first | (have hq := of_decide_eq_false hg; omega) | (have hq := of_decide_eq_true hg; omega); done)) <;> (first | refine zbI ?_ | refine zen ?_)))
        all_goals ((first | refine zed ?_ | refine zeo ?_))
        all_goals ((first | (refine GE.q 6 rfl za rfl (qg_runs (rv_indexH rfl rfl ze rfl zu)) rfl ?_) | refine zep ?_))
        all_goals ((first | refine GE.q 7 rfl za rfl (qg_runs (rv_loadE rfl ze zu rfl)) rfl ?_ | refine zeq ?_))
        all_goals ((first | refine zeV ?_ | refine zdS ?_))
        all_goals ((first | refine GE.q 9 rfl za rfl (qg_runs (rv_move rfl)) rfl ?_ | refine zdT ?_))
        all_goals ((first | (refine GE.q 10 rfl za rfl (qg_runs (rv_decr rfl rfl zc zc)) rfl ?_) | refine zdw ?_))
        all_goals ((first | (refine GE.q 11 rfl za rfl (qg_runs (rv_indexH rfl rfl ze rfl zK)) rfl ?_) | refine zdl ?_))
        all_goals ((first | refine GE.q 12 rfl za rfl (qg_runs (rv_loadE rfl ze (by first | exact e1 | exact e2) rfl)) rfl ?_ | refine zdc ?_))
        all_goals ((first | refine GE.q 13 rfl za rfl (qg_call rfl rfl (fun w _ => less_any _ _ w)) rfl ?_ | refine zdd ?_))
        all_goals ((first | refine zfs (fun _ _ => ?_) | refine zft (fun _ _ => ?_)))
        all_goals
         refine zbj ?_; refine G.cond rfl (fun hc => ?_) (fun hc => ?_)
         · try exact Bool.noConfusion hc
           all_goals
            replace hc := of_decide_eq_true hc
            all_goals
             refine zaY ?_
             refine zbd (fun _ _ => ?_); refine zb3 (fun _ _ => ?_); refine GS.done za ?_; refine G.inN (G.thenN ?_); refine zbi ?_; refine zd4 ?_; refine za0 ?_
             refine G.backK (j - 1) 0 (one_eq (congrArg (fun z => Ch.row v 3 1 z) (by obtain ⟨q, rfl⟩ : ∃ q, j = q + 1 := ⟨j - 1, by omega⟩; exact rowK_dn zc))) (.cons rfl (.cons rfl (.cons rfl (.cons rfl (.nil))))) ?_ ?_ ?_
             exact ⟨rfl, trivial⟩
             exact ⟨by omega, by omega, .inr zr⟩
             omega
         · all_goals
            try replace hc := of_decide_eq_false hc
            all_goals
             refine zc0 ?_; refine zaE ?_; refine G.backK (i + 1, rotF g0 j i (i + 1)) 0 rfl (.cons rfl (.cons rfl (.cons rfl (.nil)))) ?_ ?_ ?_
             exact ⟨rfl, trivial⟩
             refine ⟨by dsimp only; omega, by dsimp only; omega, fun l hl => ?_, ?_⟩
             dsimp only at hl ⊢; rw [rot_out hji zc zc]; exact hout l zc
             dsimp only; rw [Nat.min_eq_left zc]; exact ins_next hseg hgi0 haj hji (by first | exact .inl zc | exact .inr zr) hjr
             dsimp only; omega
   · all_goals
      replace hc := of_decide_eq_false hc
      try (exfalso; omega)
      all_goals
       refine zc0 ?_
       exact G.endF0 g0 ⟨fun j hj => hout j zc, by rw [Nat.min_eq_right zc] at hseg; exact hseg⟩ rfl rfl (fun w hw => hw)
theorem len64_any {p : Int} (w : World) (h0 : 0 ≤ p) (h1 : p ≤ 12) : Fn Tryz.prog 192 [.int .u64 p] w (fun _ : Int => True) (fun z => .int .i64 z) (fun _ => []) := by
  refine Fn.of (n := 25) Tryz.func192 rfl rfl ?_; refine zcd ?_; refine zd6 ?_; refine za1 ?_; refine G.condD rfl (fun hc => ?_) (fun hc => ?_)
  exfalso; omega
  refine zbR ?_; refine zfn ?_; refine zd6 ?_; refine za1 ?_; refine G.condD rfl (fun hc => ?_) (fun hc => ?_)
  exfalso; omega
  refine zbR ?_; refine zfn ?_; refine zd6 ?_; refine za1 ?_; refine G.condD rfl (fun hc => ?_) (fun hc => ?_)
  exfalso; omega
  refine zbR ?_; refine zaM ?_; refine G.v (rv_convS rfl h0 h1) rfl (G.v (rv_indexS zV rfl rfl h0 (bytes_get (Nat.lt_of_le_of_lt (show p.toNat ≤ 12 by omega) (by decide)))) rfl ?_); refine G.v (rv_conv rfl) rfl ?_; refine zeU ?_; refine zcf ?_
  exact G.retF _ trivial rfl rfl rfl (fun w h => h.none)
theorem bitsLen_any {p : Int} (w : World) (h0 : 0 ≤ p) (h1 : p ≤ 12) : Fn Tryz.prog 131 [.int .u64 p] w (fun _ : Int => True) (fun z => .int .i64 z) (fun _ => []) := by
  refine Fn.of (n := 8) Tryz.func131 rfl rfl ?_; refine zaG ?_; refine G.seq ?_; refine G.cond rfl (fun hc => ?_) (fun hc => ?_)
  exact Bool.noConfusion hc
  refine zbR ?_; refine zaD ?_; refine G.op (og_callF0 rfl rfl (fun w hh => len64_any w h0 h1)) rfl ?_; rintro z hz; try dsimp only
  refine zcf ?_
  exact G.retF _ trivial rfl rfl rfl (fun w h => h.none)
theorem pdq_any {lim : Int} (h2 : n ≤ 12) :
    FnMF Tryz.prog 130 [v, .int .i64 0, .int .i64 (n : Int), .int .i64 lim] w0 [.row v 3 1 (rowK n K (fun j => j))] F (fun f' : Nat → Nat => Seg K 0 n f') (fun _ => .tuple #[]) (fun f' => [.row v 3 1 (rowK n K f')]) := by
  refine FnMF.of (n := 134) Tryz.func130 rfl rfl ?_; refine zaG ?_; refine zbL ?_; refine G.loopK (ι := Unit) (ks := [0]) (fun _ => [(1, .int .i64 0), (2, .int .i64 (n : Int)), (3, .int .i64 lim), (8, .bool true), (9, .bool true)]) (fun _ => [.row v 3 1 (rowK n K (fun j => j))]) (fun _ => True) (fun _ => 0) () (.cons rfl (.nil)) rfl ?_ ?_ ?_
  exact trivial
  exact ⟨rfl, rfl, rfl, rfl, rfl, trivial⟩
  rintro i hi
  skip
  refine G.block ?_; refine zaM ?_; refine zcK ?_; refine zcY ?_; refine G.v (rv_leq rfl rfl) rfl ?_; refine za1 ?_; refine G.condD rfl (fun hc => ?_) (fun hc => ?_); refine zca ?_
  (refine zcX ?_); refine G.op (og_callMM1 rfl rfl rfl (insOrd_any (Nat.zero_le _) (Nat.le_refl _) zc (fun j _ _ => rfl))) rfl ?_; rintro f1 hf1; try dsimp only
  refine zfF ?_; refine G.thenR (G.inR (G.thenR (G.inR ?_)))
  exact G.retF0 f1 hf1.2 rfl rfl (fun w hw => hw)
  exfalso; omega
theorem sort_any {ks : List Int} (h2 : ks.length ≤ 12) :
    FnMF Tryz.prog 72 [v] w0 [.row v 3 1 (ks.map icell)] F (fun _ : Unit => True) (fun _ => .tuple #[]) (fun _ => [.row v 3 1 ((sortM ks).map icell)]) := by
  have hln : (ks.map icell).length = ks.length := by simp
  refine FnMF.of (n := 11) Tryz.func72 rfl rfl ?_; refine zaD ?_; refine zcI ?_; refine zaB ?_; refine zcZ ?_; refine G.v (rv_convS rfl zc zc) rfl (G.op (og_callF0 rfl rfl (fun w hh => bitsLen_any w (by rw [hln]; omega) (by rw [hln]; omega))) rfl ?_); rintro z hz; try dsimp only
  (refine zcX ?_); refine G.op (og_callMM1 rfl rfl rfl (by rw [hln, ← rowK_list]; exact pdq_any (n := ks.length) (K := keyU ks) h2)) rfl ?_; rintro f1 hf1; try dsimp only
  refine G.done ?_
  exact G.endF0 () trivial rfl rfl (fun w hw => by rw [← rowK_seg hf1]; exact hw)
end
end Go.Proofs.YtglpgohilfoecaaGreat

/-
  Places that are sorted upward: the reference's merging; a thing that fits into another.
-/
namespace Go.Proofs.YtglpgohilfoecaaGreat
open Go.RowKit
attribute [local irreducible] Go.wpList Go.Code.wp Go.Exit.then Go.Exit.inBlock Go.bodyPost Go.Calls pE pB G RunsV FnV Fn FnM
set_option maxRecDepth 100000
set_option maxHeartbeats 4000000
theorem range_snocU (k : Nat) : (List.range k).map ncell ++ [[.int .i64 (k : Int)]] = (List.range (k + 1)).map ncell := by
  simp [List.range_succ, ncell, icell]
theorem short_srtU {α : Type} {R : α → α → Prop} {l : List α} (h : l.length < 2) : l.Pairwise R := by
  match l, h with
  | [], _ => exact List.Pairwise.nil
  | [x], _ => exact List.pairwise_singleton _ _
theorem mrg_halvesU {K : Nat → Int} {us bs ps : List Nat} {h : Nat} (h1 : us.Perm (ps.take h)) (h2 : bs.Perm (ps.drop h)) : (mrgM K us bs).Perm ps := by
  have := (mrg_perm (K := K) us bs).trans (h1.append h2)
  rwa [List.take_append_drop] at this
theorem halves_ltU {ps : List Nat} {h x y : Nat} (hp : ps.Pairwise (· < ·)) (hx : x ∈ ps.take h) (hy : y ∈ ps.drop h) : x < y := by
  rw [← List.take_append_drop h ps] at hp
  exact (List.pairwise_append.1 hp).2.2 x hx y hy
theorem l1PlacesU_any {n : Nat} (w : World) (hn : n ≤ 1048576) : Fn Tryz.prog 138 [.int .i64 (n : Int)] w (fun v : Value => v.oneCell' = true) (fun v => v) (fun v => [.row v 3 1 ((List.range n).map ncell)]) := by
  refine Fn.of (n := 16) Tryz.func138 rfl rfl ?_; refine zaG ?_; refine zaW (fun vl _ => ?_); refine zdR ?_; refine G.loopK (ι := Nat × Value) (ks := [0]) (fun x => [(3, x.2), (4, .int .i64 (x.1 : Int))]) (fun x => [.row x.2 3 1 ((List.range x.1).map ncell)]) (fun x => x.1 ≤ n) (fun x => n - x.1) (0, vl) (.cons rfl (.nil)) rfl ?_ ?_ ?_
  exact Nat.zero_le _
  exact ⟨rfl, rfl, trivial⟩
  rintro ⟨k, v⟩ hk
  dsimp only at hk ⊢
  refine zcT ?_; refine zaI ?_; refine G.condD rfl (fun hc => ?_) (fun hc => ?_); refine zaQ ?_; refine zdX ?_; refine zaT (fun vl _ => ?_); refine zbG (fun va _ => ?_); refine zeC ?_; refine G.backK (k + 1, va) 1 (one_eq (congrArg (fun z => Ch.row va 3 1 z) (range_snocU k))) (.cons rfl (.nil)) ?_ ?_ ?_
  exact ⟨rfl, rfl, trivial⟩
  dsimp only; omega
  dsimp only; omega
  refine zce ?_; refine G.know (fun w hw => (Rd.owned 0 rfl w hw).one_) (fun hone => G.retF v hone rfl rfl rfl (fun w hw => by obtain rfl : k = n := zc; exact hw))
theorem l1MergeU_any {kv : Value} {ks : List Int} : ∀ (s : Nat) {pv : Value} {ps : List Nat} (w : World), ps.length < s → Rd w kv 1 (ks.map icell) → Rd w pv 1 (ps.map ncell) → (∀ x ∈ ps, x < ks.length) → ps.Pairwise (· < ·) → ps.length ≤ 1048576 →
    Fn Tryz.prog 137 [kv, pv, .bool false] w (fun x : Value × List Nat => x.1.oneCell' = true ∧ x.2.Perm ps ∧ x.2.Pairwise (bef (keyU ks))) (fun x => x.1) (fun x => [.row x.1 3 1 (x.2.map ncell)]) := by
  intro s
  induction s with
  | zero => intro pv ps w hs; omega
  | succ s ih =>
  intro pv ps w hs hk hp hlt hpw hn
  have hln : (ps.map ncell).length = ps.length := by simp
  refine Fn.of (n := 132) Tryz.func137 rfl rfl ?_; refine zcd ?_; refine zfO ?_; refine G.condD rfl (fun hc => ?_) (fun hc => ?_)
  · refine G.seq ?_
    refine G.region (G.op (og_lit rfl .nil rfl rfl rfl rfl rfl rfl) rfl (fun vl _ => ?_)); refine zaC ?_; refine G.op (og_app0 rfl rfl rfl zb rfl rfl zg zg) rfl (fun va _ => ?_); refine zcf ?_; refine G.thenR ?_; refine G.know (fun w hw => (Rd.owned 0 rfl w hw).one_) (fun hone => G.retF (va, ps) ⟨hone, List.Perm.refl _, short_srtU (by dsimp only; omega)⟩ rfl rfl rfl (fun w hw => hw.sublist zay)); done
  · refine G.skip ?_
    refine G.thenN ?_; refine zaD ?_; refine zaX ?_; refine G.v (rv_quoN rfl rfl zc) rfl ?_; refine zaB ?_; refine zca ?_; refine zdJ ?_; rintro ⟨xa, us⟩ ⟨hxa, hpa, hsa⟩; try dsimp only
    refine zaB ?_; refine zca ?_; refine zdK ?_; rintro ⟨xb, bs⟩ ⟨hxb, hpb, hsb⟩; try dsimp only
    refine zaB ?_; refine zaW (fun vl _ => ?_); refine zaB ?_; refine zaG ?_; refine zaG ?_; refine G.seq (G.block ?_)
    have hla : us.length = (ps.map ncell).length / 2 := by (rw [hpa.length_eq, List.length_take]; omega)
    have hlb : bs.length = ps.length - (ps.map ncell).length / 2 := by rw [hpb.length_eq, List.length_drop]
    have hla2 : (us.map ncell).length = us.length := by simp
    have hlb2 : (bs.map ncell).length = bs.length := by simp
    refine G.loopK (ι := Nat × Nat × List Nat × Value) (ks := [0, 2, 8, 9]) (fun x => [(10, x.2.2.2), (11, .int .i64 (x.1 : Int)), (12, .int .i64 (x.2.1 : Int))]) (fun x => [.row x.2.2.2 3 1 (x.2.2.1.map ncell)]) (fun x => x.1 ≤ us.length ∧ x.2.1 ≤ bs.length ∧ x.2.2.1.length = x.1 + x.2.1 ∧ x.2.2.1 ++ mrgM (keyU ks) (us.drop x.1) (bs.drop x.2.1) = mrgM (keyU ks) us bs) (fun x => us.length + bs.length - x.1 - x.2.1) (0, 0, [], vl) (.cons rfl (.cons rfl (.cons rfl (.cons rfl (.nil))))) rfl ?_ ?_ ?_
    exact ⟨Nat.zero_le _, Nat.zero_le _, rfl, rfl⟩
    exact ⟨rfl, rfl, rfl, trivial⟩
    rintro ⟨i, j, out, v⟩ ⟨hi, hj, hol, hm⟩
    dsimp only at hi hj hol hm ⊢
    have hol2 : (out.map ncell).length = out.length := by simp
    by_cases hA : i < us.length
    case' pos => (obtain ⟨x, hx⟩ := get_of_lt hA; have e1 := get_map hx ncell; have hxl := hlt x (List.mem_of_mem_take (hpa.mem_iff.1 (List.mem_of_getElem? hx))); obtain ⟨kx, hkx⟩ := get_of_lt hxl; have e3 := get_map hkx icell; have hK1 := keyU_get hkx)
    all_goals by_cases hB : j < bs.length
    any_goals (obtain ⟨y, hy⟩ := get_of_lt hB; have e2 := get_map hy ncell; have hyl := hlt y (List.mem_of_mem_drop (hpb.mem_iff.1 (List.mem_of_getElem? hy))); obtain ⟨ky, hky⟩ := get_of_lt hyl; have e4 := get_map hky icell; have hK2 := keyU_get hky)
    all_goals
     refine zcT ?_; refine zdm ?_; refine G.v (rv_lss rfl rfl) rfl ?_; refine zaC ?_
     all_goals (((with_reducible refine G.gP rfl rfl (fun hg => ?_) (fun hg => ?_)) <;> (try exact Bool.noConfusion hg) <;> (try (exfalso; first | (have hq := of_decide_eq_false hg; omega) | (have hq := of_decide_eq_true hg; omega); done)) <;> (first | (refine zbm ?_) | refine zaF ?_)))
     all_goals ((first | (refine zbm ?_) | refine zaF ?_))
     all_goals ((first | (refine zaH ?_; refine zcP ?_) | refine zaF ?_))
     all_goals ((first | (refine zch ?_) | refine zaF ?_))
     all_goals ((first | refine za3 ?_ | refine za4 ?_))
     all_goals
      refine za1 ?_; refine G.cond rfl (fun hc => ?_) (fun hc => ?_)
      · all_goals
         try replace hc := of_decide_eq_true hc
         try (exfalso; omega)
         all_goals
          refine zbR ?_; refine G.block (G.block ?_); refine zaM ?_; refine zcP ?_; refine zde ?_; refine zaB ?_; refine G.cond rfl (fun hc => ?_) (fun hc => ?_)
          · all_goals
             replace hc := of_decide_eq_true hc
             try (exfalso; omega)
             all_goals
              refine zca ?_; refine zdG ?_; refine zaT (fun vl _ => ?_); refine zbG (fun va _ => ?_); refine zaB ?_; refine zbQ ?_; refine G.inN (G.inN ?_); refine G.backK (i + 1, j, out ++ [x], va) 1 (one_eq (congrArg (fun z => Ch.row va 3 1 z) zY)) (.cons rfl (.cons rfl (.cons rfl (.cons rfl (.nil))))) (⟨rfl, rfl, rfl, trivial⟩) ?_ ?_
              · exact ⟨by dsimp only; omega, by dsimp only; omega, by simp; omega, by dsimp only; rw [mrg_left hx (fun y' hy' => by first | (rw [List.getElem?_eq_none zc] at hy'; cases hy'; done) | (rw [hy] at hy'; cases hy'; rw [hK1, hK2]; first | omega | (simp only [decide_eq_true_eq, decide_eq_false_iff_not] at *; omega)))] at hm; rw [List.append_assoc]; exact hm⟩
              dsimp only; omega
          · all_goals
             replace hc := of_decide_eq_false hc
             try (exfalso; omega)
             all_goals
              refine zaM ?_; refine zdm ?_; refine zde ?_; refine zaB ?_; refine G.cond rfl (fun hc => ?_) (fun hc => ?_)
              · all_goals
                 replace hc := of_decide_eq_true hc
                 try (exfalso; omega)
                 all_goals
                  refine zca ?_; refine zdH ?_; refine zaT (fun vl _ => ?_); refine zbG (fun va _ => ?_); refine zaB ?_; refine zbQ ?_; refine G.inN (G.inN ?_); refine G.backK (i, j + 1, out ++ [y], va) 1 (one_eq (congrArg (fun z => Ch.row va 3 1 z) zY)) (.cons rfl (.cons rfl (.cons rfl (.cons rfl (.nil))))) (⟨rfl, rfl, rfl, trivial⟩) ?_ ?_
                  · exact ⟨by dsimp only; omega, by dsimp only; omega, by simp; omega, by dsimp only; rw [mrg_right hy (fun x' hx' => by first | (rw [List.getElem?_eq_none zc] at hx'; cases hx'; done) | (rw [hx] at hx'; cases hx'; rw [hK1, hK2]; first | omega | (simp only [decide_eq_true_eq, decide_eq_false_iff_not] at *; omega)))] at hm; rw [List.append_assoc]; exact hm⟩
                  dsimp only; omega
              · all_goals
                 replace hc := of_decide_eq_false hc
                 try (exfalso; omega)
                 all_goals
                  refine zfo ?_; refine zaR ?_; refine zbV (fun _ _ => ?_); refine GE.ol 10 za rfl rfl (og_runs (rv_indexH rfl rfl zj rfl zu)) rfl zd (fun _ _ => ?_)
                  refine GE.ol 11 za rfl rfl (og_runs (rv_loadE rfl zj zu rfl)) rfl zd (fun _ _ => ?_); refine GE.ol 12 za rfl rfl (og_runs (rv_indexH rfl rfl zb rfl zag)) rfl zd (fun _ _ => ?_); refine GE.ol 13 za rfl rfl (og_runs (rv_loadE rfl zb zag rfl)) rfl zd (fun _ _ => ?_); refine GE.ol 14 za rfl rfl (og_runs (rv_lss rfl rfl)) rfl zd (fun _ _ => ?_); refine zew (fun _ _ => ?_)
                  all_goals (((with_reducible refine GE.part (t := 98) rfl (fun hg => ?_) (fun hg => ?_)) <;> (try exact Bool.noConfusion hg) <;> (try (exfalso; (have hq := of_decide_eq_false hg; omega))) <;> (first | refine zeP ?_ | refine GE.qn 16 rfl za rfl rfl ?_)))
                  all_goals ((first | refine GE.q 17 rfl za rfl (qg_runs (rv_not rfl)) rfl ?_ | refine zd5 ?_))
                  all_goals ((first | refine GE.ol 18 za rfl rfl (og_runs (rv_pickT rfl rfl)) rfl zd (fun _ _ => ?_) | refine GE.ol 18 za rfl rfl (og_runs (rv_pickF rfl rfl)) rfl zd (fun _ _ => ?_)))
                  all_goals (refine GE.ol 19 za rfl rfl (og_runs (rv_move rfl)) rfl zd (fun _ _ => ?_))
                  all_goals (((with_reducible refine GE.part (t := 102) rfl (fun hg => ?_) (fun hg => ?_)) <;> (try exact Bool.noConfusion hg) <;> (try (exfalso; (have hq := of_decide_eq_false hg; omega))) <;> (first | refine GE.q 20 rfl za rfl (qg_runs (rv_move rfl)) rfl ?_ | refine zeZ ?_)))
                  all_goals ((first | refine GE.q 21 rfl za rfl (qg_runs (rv_move rfl)) rfl ?_ | refine ze0 ?_))
                  all_goals ((first | refine GE.q 22 rfl za rfl (qg_runs (rv_move rfl)) rfl ?_ | refine ze1 ?_))
                  all_goals ((first | (refine GE.q 23 rfl za rfl (qg_runs (rv_indexH rfl rfl zi rfl zK)) rfl ?_) | refine ze2 ?_))
                  all_goals ((first | refine GE.q 24 rfl za rfl (qg_runs (rv_loadE rfl (by first | exact Rd.stays zf | exact Rd.owned 1 rfl) zK rfl)) rfl ?_ | refine GE.qn 24 rfl za rfl rfl ?_))
                  all_goals ((first | (refine GE.q 25 rfl za rfl (qg_runs (rv_indexH rfl rfl zb rfl (by exact e4))) rfl ?_) | refine GE.qn 25 rfl za rfl rfl ?_))
                  all_goals ((first | refine GE.q 26 rfl za rfl (qg_runs (rv_loadE rfl zb (by exact e4) rfl)) rfl ?_ | refine ze3 ?_))
                  all_goals ((first | refine GE.q 27 rfl za rfl (qg_runs (rv_move rfl)) rfl ?_ | refine GE.qn 27 rfl za rfl rfl ?_))
                  all_goals ((first | refine GE.q 28 rfl za rfl (qg_runs (rv_move rfl)) rfl ?_ | refine GE.qn 28 rfl za rfl rfl ?_))
                  all_goals ((first | refine GE.q 29 rfl za rfl (qg_runs (rv_move rfl)) rfl ?_ | refine GE.qn 29 rfl za rfl rfl ?_))
                  all_goals ((first | (refine GE.q 30 rfl za rfl (qg_runs (rv_indexH rfl rfl zj rfl zu)) rfl ?_) | refine GE.qn 30 rfl za rfl rfl ?_))
                  all_goals ((first | refine GE.q 31 rfl za rfl (qg_runs (rv_loadE rfl zv zu rfl)) rfl ?_ | refine GE.qn 31 rfl za rfl rfl ?_))
                  all_goals ((first | (refine GE.q 32 rfl za rfl (qg_runs (rv_indexH rfl rfl zb rfl zag)) rfl ?_) | refine GE.qn 32 rfl za rfl rfl ?_))
                  all_goals ((first | refine GE.q 33 rfl za rfl (qg_runs (rv_loadE rfl zb zag rfl)) rfl ?_ | refine GE.qn 33 rfl za rfl rfl ?_))
                  all_goals ((first | refine GE.q 34 rfl za rfl (qg_runs (rv_gtr rfl rfl)) rfl ?_ | refine GE.qn 34 rfl za rfl rfl ?_))
                  all_goals ((first | refine GE.q 35 rfl za rfl (qg_runs (rv_move rfl)) rfl ?_ | refine GE.qn 35 rfl za rfl rfl ?_))
                  all_goals ((first | refine GE.qn 36 rfl za rfl rfl ?_ | ((with_reducible refine GE.part (t := 118) rfl (fun hg => ?_) (fun hg => ?_)) <;> (try exact Bool.noConfusion hg) <;> (try (exfalso; (have hq := of_decide_eq_false hg; omega))) <;> (first | refine GE.q 36 rfl za rfl (qg_runs (rv_move rfl)) rfl ?_ | refine GE.qn 36 rfl za rfl rfl ?_))))
                  all_goals ((first | (first | refine GE.q 37 rfl za rfl (qg_runs (rv_pickT rfl rfl)) rfl ?_ | refine GE.q 37 rfl za rfl (qg_runs (rv_pickF rfl rfl)) rfl ?_) | refine GE.qn 37 rfl za rfl rfl ?_))
                  all_goals ((first | refine GE.ol 38 za rfl rfl (og_runs (rv_pickT rfl rfl)) rfl zd (fun _ _ => ?_) | refine GE.ol 38 za rfl rfl (og_runs (rv_pickF rfl rfl)) rfl zd (fun _ _ => ?_)))
                  all_goals (refine GE.ol 39 za rfl rfl (og_runs (rv_assign rfl)) rfl zd (fun _ _ => ?_))
                  all_goals
                   refine zbj ?_; refine G.cond rfl (fun hc => ?_) (fun hc => ?_)
                   · try exact Bool.noConfusion hc
                     all_goals
                      all_goals
                       refine zca ?_; refine zdH ?_; refine zaT (fun vl _ => ?_); refine zbG (fun va _ => ?_); refine zaB ?_; refine zbQ ?_; refine G.inN (G.inN ?_); refine G.backK (i, j + 1, out ++ [y], va) 1 (one_eq (congrArg (fun z => Ch.row va 3 1 z) zY)) (.cons rfl (.cons rfl (.cons rfl (.cons rfl (.nil))))) (⟨rfl, rfl, rfl, trivial⟩) ?_ ?_
                       · exact ⟨by dsimp only; omega, by dsimp only; omega, by simp; omega, by dsimp only; rw [mrg_right hy (fun x' hx' => by first | (rw [List.getElem?_eq_none zc] at hx'; cases hx'; done) | (rw [hx] at hx'; cases hx'; rw [hK1, hK2]; first | omega | (simp only [decide_eq_true_eq, decide_eq_false_iff_not] at *; omega)))] at hm; rw [List.append_assoc]; exact hm⟩
                       dsimp only; omega
                   · try exact Bool.noConfusion hc
                     all_goals
                      all_goals
                       refine zca ?_; refine zdG ?_; refine zaT (fun vl _ => ?_); refine zbG (fun va _ => ?_); refine zaB ?_; refine zbQ ?_; refine G.inN (G.inN ?_); refine G.backK (i + 1, j, out ++ [x], va) 1 (one_eq (congrArg (fun z => Ch.row va 3 1 z) zY)) (.cons rfl (.cons rfl (.cons rfl (.cons rfl (.nil))))) (⟨rfl, rfl, rfl, trivial⟩) ?_ ?_
                       · exact ⟨by dsimp only; omega, by dsimp only; omega, by simp; omega, by dsimp only; rw [mrg_left hx (fun y' hy' => by first | (rw [List.getElem?_eq_none zc] at hy'; cases hy'; done) | (rw [hy] at hy'; cases hy'; rw [hK1, hK2]; first | omega | (simp only [decide_eq_true_eq, decide_eq_false_iff_not] at *; omega)))] at hm; rw [List.append_assoc]; exact hm⟩
                       dsimp only; omega
      · try exact Bool.noConfusion hc
        all_goals
         replace hc := of_decide_eq_false hc
         try (exfalso; omega)
         all_goals
          refine zce ?_
          have hout : out = mrgM (keyU ks) us bs := (by rw [List.drop_eq_nil_of_le zc, List.drop_eq_nil_of_le zc] at hm; simpa [mrgM] using hm); refine G.know (fun w hw => (Rd.owned 0 rfl w hw).one_) (fun hone => G.retF (v, out) ⟨hone, hout ▸ mrg_halvesU hpa hpb, hout ▸ mrg_srt us bs hsa hsb (fun x hx y hy _ => halves_ltU hpw (hpa.mem_iff.1 hx) (hpb.mem_iff.1 hy))⟩ rfl rfl rfl (fun w hw => hw.sublist (by repeat (first | exact List.Sublist.refl _ | refine List.Sublist.cons_cons _ ?_ | refine List.Sublist.cons _ ?_))))
theorem ssortUp_any {kv : Value} {ks : List Int} (w : World) (h : Rd w kv 1 (ks.map icell)) (hn : ks.length ≤ 1048576) : Fn Tryz.prog 76 [kv] w (fun v : Value => v.oneCell' = true) (fun v => v) (fun v => [.row v 3 1 ((ordM (keyU ks) ks.length).map ncell)]) := by
  have hln : (ks.map icell).length = ks.length := by simp
  refine Fn.of (n := 8) Tryz.func76 rfl rfl ?_; refine zaG ?_; refine zaM ?_; refine zaX ?_; refine G.op (og_callF1 rfl rfl (fun w hh => by rw [hln]; exact l1PlacesU_any w hn)) rfl ?_; rintro vp hvp; try dsimp only
  refine G.op (og_callF1 rfl rfl (fun w hh => l1MergeU_any (ks.length + 1) w zC (Rd.stays h _ hh) (Rd.owned 0 rfl _ hh) (fun x hx => List.mem_range.1 hx) List.pairwise_lt_range (by simpa using hn))) rfl ?_; rintro ⟨vo, os⟩ ⟨hvo, hpo, hso⟩; try dsimp only
  refine zcf ?_
  exact G.retF vo hvo rfl rfl rfl (fun w hw => by rw [← ord_of_perm hso hpo]; exact hw.sublist (by repeat (first | exact List.Sublist.refl _ | refine List.Sublist.cons_cons _ ?_ | refine List.Sublist.cons _ ?_)))
theorem three {l : List Int} (h : l.length = 3) : ∃ a b c, l = [a, b, c] := by
  match l, h with
  | [a, b, c], _ => exact ⟨a, b, c, rfl⟩
theorem threeN {l : List Nat} (h : l.length = 3) : ∃ a b c, l = [a, b, c] := by
  match l, h with
  | [a, b, c], _ => exact ⟨a, b, c, rfl⟩
def le3 (a b : List Int) : Bool := match a, b with
  | [a0, a1, a2], [b0, b1, b2] => decide (a0 ≤ b0) && decide (a1 ≤ b1) && decide (a2 ≤ b2)
  | _, _ => false
def fitsM (x : ItemM) (t : TypeM) : Bool := le3 (sortM [x.w, x.h, x.d]) (sortM [t.w, t.h, t.d]) && decide (x.g ≤ t.g)
theorem l5Sides_any (a b c : Int) (w : World) : Fn Tryz.prog 152 [.int .i64 a, .int .i64 b, .int .i64 c] w (fun v : Value => v.oneCell' = true) (fun v => v) (fun v => [.row v 3 1 ((sortM [a, b, c]).map icell)]) := by
  obtain ⟨x0, x1, x2, hx⟩ := threeN (ordM_len (keyU [a, b, c]) 3)
  have hm : ∀ x ∈ [x0, x1, x2], x < [a, b, c].length := fun x h => ordM_mem.1 (hx ▸ h)
  obtain ⟨y0, hy0⟩ := get_of_lt (hm x0 zC)
  obtain ⟨y1, hy1⟩ := get_of_lt (hm x1 zC)
  obtain ⟨y2, hy2⟩ := get_of_lt (hm x2 zC)
  have hs : sortM [a, b, c] = [y0, y1, y2] := by
    show (ordM (keyU [a, b, c]) 3).map (keyU [a, b, c]) = _
    rw [hx, List.map_cons, List.map_cons, List.map_cons, List.map_nil, keyU_get hy0, keyU_get hy1, keyU_get hy2]
  rw [hs]
  have e0 := get_map hy0 icell
  have e1 := get_map hy1 icell
  have e2 := get_map hy2 icell
  refine Fn.of (n := 34) Tryz.func152 rfl rfl ?_; refine zaG ?_; refine zca ?_; refine G.op (og_lit rfl (.cons rfl (.cons rfl (.cons rfl .nil))) rfl rfl rfl rfl rfl rfl) rfl (fun vk _ => ?_); refine zeF ?_; refine G.op (og_callF1 rfl rfl (fun w hh => by have hq := ssortUp_any (kv := vk) (ks := [a, b, c]) w (Rd.owned 0 rfl _ hh) zC; rw [show ordM (keyU [a, b, c]) [a, b, c].length = [x0, x1, x2] from hx] at hq; exact hq)) rfl ?_; rintro vo hvo; try dsimp only
  refine zba ?_; refine G.drawL [19] ?_; refine zaR ?_; refine GE.q 2 rfl za rfl (qg_runs (rv_indexH rfl rfl ze rfl (by rfl))) rfl ?_; refine GE.q 3 rfl za rfl (qg_runs (rv_loadE rfl ze (by rfl) rfl)) rfl ?_; refine GE.q 4 rfl za rfl (qg_runs (rv_indexH rfl rfl zi rfl (by exact e0))) rfl ?_; refine GE.q 5 rfl za rfl (qg_runs (rv_loadE rfl zi (by exact e0) rfl)) rfl ?_; refine zdu ?_; refine GE.q 7 rfl za rfl (qg_runs (rv_move rfl)) rfl ?_; refine GE.q 8 rfl za rfl (qg_runs (rv_indexH rfl rfl ze rfl (by rfl))) rfl ?_; refine GE.q 9 rfl za rfl (qg_runs (rv_loadE rfl ze (by rfl) rfl)) rfl ?_; refine GE.q 10 rfl za rfl (qg_runs (rv_indexH rfl rfl zi rfl zu)) rfl ?_
  refine GE.q 11 rfl za rfl (qg_runs (rv_loadE rfl zi zu rfl)) rfl ?_; refine GE.q 12 rfl za rfl (qg_runs (rv_move rfl)) rfl ?_; refine GE.ol 13 za rfl rfl (og_runs (rv_move rfl)) rfl zd (fun _ _ => ?_); refine GE.ol 14 za rfl rfl (og_runs (rv_indexH rfl rfl ze rfl (by rfl))) rfl zd (fun _ _ => ?_); refine GE.ol 15 za rfl rfl (og_runs (rv_loadE rfl ze (by rfl) rfl)) rfl zd (fun _ _ => ?_); refine GE.ol 16 za rfl rfl (og_runs (rv_indexH rfl rfl zi rfl zK)) rfl zd (fun _ _ => ?_); refine GE.ol 17 za rfl rfl (og_runs (rv_loadE rfl zi zK rfl)) rfl zd (fun _ _ => ?_); refine GE.ol 18 za rfl rfl (og_lit rfl (.cons rfl (.cons rfl (.cons rfl .nil))) rfl rfl rfl rfl rfl rfl) rfl zk (fun vs _ => ?_); refine GE.t 19 za rfl rfl rfl (og_runs (rv_assign rfl)) rfl (fun _ _ => ?_); refine zbj ?_; refine G.ret ?_
  refine G.know (fun w hw => (Rd.owned 0 rfl w hw).one_) (fun hone => G.retF vs hone rfl rfl rfl (fun w hw => hw.sublist (by repeat (first | exact List.Sublist.refl _ | refine List.Sublist.cons_cons _ ?_ | refine List.Sublist.cons _ ?_))))
theorem sfits_any (x : ItemM) (t : TypeM) (w : World) : FnV Tryz.prog 87 [x.val, t.val] w (.bool (fitsM x t)) := by
  obtain ⟨a0, a1, a2, ha⟩ := three (sortM_len [x.w, x.h, x.d])
  obtain ⟨b0, b1, b2, hb⟩ := three (sortM_len [t.w, t.h, t.d])
  have hF : fitsM x t = (decide (a0 ≤ b0) && decide (a1 ≤ b1) && decide (a2 ≤ b2) && decide (x.g ≤ t.g)) := by rw [fitsM, ha, hb]; rfl
  rw [hF]
  refine FnV.of (n := 53) Tryz.func87 rfl rfl ?_; refine zaJ (fun bk2 _ => ?_); refine zcs (fun bk3 _ => ?_); refine zba ?_; refine G.region ?_; refine zbe ?_; refine zbe ?_; refine zbe ?_; refine G.op (og_callF1 rfl rfl (fun w hh => by have hq := l5Sides_any x.w x.h x.d w; rw [ha] at hq; exact hq)) rfl ?_; rintro va hva; try dsimp only
  refine zba ?_; refine G.region ?_; refine zbe ?_; refine zbe ?_; refine zbe ?_; refine G.op (og_callF1 rfl rfl (fun w hh => by have hq := l5Sides_any t.w t.h t.d w; rw [hb] at hq; exact hq)) rfl ?_; rintro vb hvb; try dsimp only
  refine zba ?_; refine zc4 (fun _ _ => ?_); refine GE.ol 4 za rfl rfl (og_runs (rv_indexH rfl rfl ze rfl rfl)) rfl zd (fun _ _ => ?_); refine GE.ol 5 za rfl rfl (og_runs (rv_loadE rfl ze rfl rfl)) rfl zd (fun _ _ => ?_); refine GE.ol 6 za rfl rfl (og_runs (rv_leq rfl rfl)) rfl zd (fun _ _ => ?_); refine GE.ol 7 za rfl rfl (og_runs (rv_move rfl)) rfl zd (fun _ _ => ?_)
  (with_reducible refine GE.part (t := 28) rfl (fun hg => ?_) (fun hg => ?_)) <;> (try exact Bool.noConfusion hg) <;> (first | refine zeV ?_ | refine zdS ?_)
  all_goals ((first | (refine GE.q 9 rfl za rfl (qg_runs (rv_indexH rfl rfl zi rfl rfl)) rfl ?_) | refine zdT ?_))
  all_goals ((first | refine GE.q 10 rfl za rfl (qg_runs (rv_loadE rfl zak rfl rfl)) rfl ?_ | refine zdw ?_))
  all_goals ((first | refine GE.q 11 rfl za rfl (qg_runs (rv_move rfl)) rfl ?_ | refine zdl ?_))
  all_goals ((first | (refine GE.q 12 rfl za rfl (qg_runs (rv_indexH rfl rfl ze rfl rfl)) rfl ?_) | refine zdc ?_))
  all_goals ((first | refine GE.q 13 rfl za rfl (qg_runs (rv_loadE rfl ze rfl rfl)) rfl ?_ | refine zdd ?_))
  all_goals ((first | refine GE.q 14 rfl za rfl (qg_runs (rv_leq rfl rfl)) rfl ?_ | refine zei ?_))
  all_goals ((first | refine zef (fun _ _ => ?_) | refine zeg (fun _ _ => ?_)))
  all_goals (refine zex (fun _ _ => ?_))
  all_goals (((with_reducible refine GE.part (t := 37) rfl (fun hg => ?_) (fun hg => ?_)) <;> (try exact Bool.noConfusion hg) <;> (first | refine zc1 ?_ | refine zd5 ?_)))
  all_goals ((first | (refine GE.q 18 rfl za rfl (qg_runs (rv_indexH rfl rfl zi rfl rfl)) rfl ?_) | refine ze4 ?_))
  all_goals ((first | refine GE.q 19 rfl za rfl (qg_runs (rv_loadE rfl zak rfl rfl)) rfl ?_ | refine zfB ?_))
  all_goals ((first | refine GE.q 20 rfl za rfl (qg_runs (rv_move rfl)) rfl ?_ | refine zeZ ?_))
  all_goals ((first | (refine GE.q 21 rfl za rfl (qg_runs (rv_indexH rfl rfl ze rfl rfl)) rfl ?_) | refine ze0 ?_))
  all_goals ((first | refine GE.q 22 rfl za rfl (qg_runs (rv_loadE rfl ze rfl rfl)) rfl ?_ | refine ze1 ?_))
  all_goals ((first | refine GE.q 23 rfl za rfl (qg_runs (rv_leq rfl rfl)) rfl ?_ | refine ze2 ?_))
  all_goals ((first | refine GE.ol 24 za rfl rfl (og_runs (rv_pickT rfl rfl)) rfl zd (fun _ _ => ?_) | refine GE.ol 24 za rfl rfl (og_runs (rv_pickF rfl rfl)) rfl zd (fun _ _ => ?_)))
  all_goals (refine GE.ol 25 za rfl rfl (og_runs (rv_move rfl)) rfl zd (fun _ _ => ?_))
  all_goals (((with_reducible refine GE.part (t := 46) rfl (fun hg => ?_) (fun hg => ?_)) <;> (try exact Bool.noConfusion hg) <;> (first | (refine zeI ?_) | refine ze3 ?_)))
  all_goals ((first | (refine zfd ?_) | refine GE.qn 27 rfl za rfl rfl ?_))
  all_goals ((first | (refine GE.q 28 rfl za rfl (qg_runs (rv_field rfl)) rfl ?_) | refine GE.qn 28 rfl za rfl rfl ?_))
  all_goals ((first | (refine GE.q 29 rfl za rfl (qg_runs (rv_load1 2 rfl rfl rfl)) rfl ?_) | refine GE.qn 29 rfl za rfl rfl ?_))
  all_goals ((first | refine GE.q 30 rfl za rfl (qg_runs (rv_leq rfl rfl)) rfl ?_ | refine GE.qn 30 rfl za rfl rfl ?_))
  all_goals ((first | refine GE.ol 31 za rfl rfl (og_runs (rv_pickT rfl rfl)) rfl zd (fun _ _ => ?_) | refine GE.ol 31 za rfl rfl (og_runs (rv_pickF rfl rfl)) rfl zd (fun _ _ => ?_)))
  all_goals (refine GE.t 32 za rfl rfl rfl (og_runs (rv_assign rfl)) rfl (fun _ _ => ?_))
  all_goals
   refine zbj ?_; refine G.ret ?_; refine G.retFV rfl rfl (congrArg Value.bool ?_); simp_all <;> (intros; omega)
theorem fits_any (x : ItemM) (t : TypeM) (w : World) : FnV Tryz.prog 142 [x.val, t.val] w (.bool (fitsM x t)) := by
  obtain ⟨a0, a1, a2, ha⟩ := three (sortM_len [x.w, x.h, x.d])
  obtain ⟨b0, b1, b2, hb⟩ := three (sortM_len [t.w, t.h, t.d])
  have hF : fitsM x t = (decide (a0 ≤ b0) && decide (a1 ≤ b1) && decide (a2 ≤ b2) && decide (x.g ≤ t.g)) := by rw [fitsM, ha, hb]; rfl
  rw [hF]
  refine FnV.of (n := 57) Tryz.func142 rfl rfl ?_; refine zaJ (fun bk2 _ => ?_); refine zcs (fun bk3 _ => ?_); refine zba ?_; refine G.drawL [15] ?_; refine zct ?_; refine GE.q 2 rfl za rfl (qg_runs (rv_field rfl)) rfl ?_; refine GE.q 3 rfl za rfl (qg_runs (rv_load1 1 rfl rfl rfl)) rfl ?_; refine GE.q 4 rfl za rfl (qg_runs (rv_field rfl)) rfl ?_; refine GE.q 5 rfl za rfl (qg_runs (rv_load1 1 rfl rfl rfl)) rfl ?_; refine GE.q 7 rfl za rfl (qg_runs (rv_field rfl)) rfl ?_; refine GE.q 8 rfl za rfl (qg_runs (rv_load1 0 rfl rfl rfl)) rfl ?_; refine zeQ ?_; refine zfe ?_; refine zd7 ?_; refine GE.q 12 rfl za rfl (qg_runs (rv_load1 0 rfl rfl rfl)) rfl ?_; refine GE.any (rs := [6, 13]) za zC ?_
  refine List.forall_mem_cons.2 ⟨?_, List.forall_mem_cons.2 ⟨?_, fun _ h => absurd h List.not_mem_nil⟩⟩
  focus
   refine GE.pickOp rfl rfl rfl (og_lit rfl (.cons rfl (.cons rfl (.cons rfl .nil))) rfl rfl rfl rfl rfl rfl) rfl zk (fun vx _ => ?_); refine GE.q2 14 rfl za rfl (qg_runs (rv_assign rfl)) zn rfl ?_; refine GE.ol 13 za rfl rfl (og_lit rfl (.cons rfl (.cons rfl (.cons rfl .nil))) rfl rfl rfl rfl rfl rfl) rfl zh (fun vy _ => ?_); refine GE.t 15 za rfl rfl rfl (og_runs (rv_assign rfl)) rfl (fun _ _ => ?_); refine zcw ?_
  rotate_left
  focus
   refine GE.pickOp rfl rfl rfl (og_lit rfl (.cons rfl (.cons rfl (.cons rfl .nil))) rfl rfl rfl rfl rfl rfl) rfl zk (fun vy _ => ?_); refine GE.ol 6 za rfl rfl (og_lit rfl (.cons rfl (.cons rfl (.cons rfl .nil))) rfl rfl rfl rfl rfl rfl) rfl zh (fun vx _ => ?_); refine GE.ol 14 za rfl rfl (og_runs (rv_assign rfl)) rfl zh (fun _ _ => ?_); refine GE.t 15 za rfl rfl rfl (og_runs (rv_assign rfl)) rfl (fun _ _ => ?_); refine zcw ?_
  rotate_left
  all_goals
   refine G.thenN ?_; refine zaD ?_
   (first | refine G.frontR0 (vx) rfl ?_ | refine G.frontR1 (vx) rfl ?_); refine G.op (og_callMM1 rfl rfl rfl (by have hq := fun (F : List Ch) (w0 : World) => sort_any (v := vx) (w0 := w0) (F := F) (ks := [x.w, x.h, x.d]) zC; rw [ha] at hq; exact hq _ _)) rfl ?_; rintro ⟨⟩ _; try dsimp only
   refine za1 ?_; refine zaD ?_
   (refine G.frontR1 (vy) rfl ?_); refine G.op (og_callMM1 rfl rfl rfl (by have hq := fun (F : List Ch) (w0 : World) => sort_any (v := vy) (w0 := w0) (F := F) (ks := [t.w, t.h, t.d]) zC; rw [hb] at hq; exact hq _ _)) rfl ?_; rintro ⟨⟩ _; try dsimp only
   refine za1 ?_; refine G.seq ?_; refine zc4 (fun _ _ => ?_); refine GE.ol 4 za rfl rfl (og_runs (rv_indexH rfl rfl ze rfl rfl)) rfl zd (fun _ _ => ?_); refine GE.ol 5 za rfl rfl (og_runs (rv_loadE rfl ze rfl rfl)) rfl zd (fun _ _ => ?_); refine GE.ol 6 za rfl rfl (og_runs (rv_leq rfl rfl)) rfl zd (fun _ _ => ?_); refine GE.ol 7 za rfl rfl (og_runs (rv_move rfl)) rfl zd (fun _ _ => ?_)
   all_goals (((with_reducible refine GE.part (t := 32) rfl (fun hg => ?_) (fun hg => ?_)) <;> (try exact Bool.noConfusion hg) <;> (first | refine zeV ?_ | refine zdS ?_)))
   all_goals ((first | (refine GE.q 9 rfl za rfl (qg_runs (rv_indexH rfl rfl zi rfl rfl)) rfl ?_) | refine zdT ?_))
   all_goals ((first | refine GE.q 10 rfl za rfl (qg_runs (rv_loadE rfl zak rfl rfl)) rfl ?_ | refine zdw ?_))
   all_goals ((first | refine GE.q 11 rfl za rfl (qg_runs (rv_move rfl)) rfl ?_ | refine zdl ?_))
   all_goals ((first | (refine GE.q 12 rfl za rfl (qg_runs (rv_indexH rfl rfl ze rfl rfl)) rfl ?_) | refine zdc ?_))
   all_goals ((first | refine GE.q 13 rfl za rfl (qg_runs (rv_loadE rfl ze rfl rfl)) rfl ?_ | refine zdd ?_))
   all_goals ((first | refine GE.q 14 rfl za rfl (qg_runs (rv_leq rfl rfl)) rfl ?_ | refine zei ?_))
   all_goals ((first | refine zef (fun _ _ => ?_) | refine zeg (fun _ _ => ?_)))
   all_goals (refine zex (fun _ _ => ?_))
   all_goals (((with_reducible refine GE.part (t := 41) rfl (fun hg => ?_) (fun hg => ?_)) <;> (try exact Bool.noConfusion hg) <;> (first | refine zc1 ?_ | refine zd5 ?_)))
   all_goals ((first | (refine GE.q 18 rfl za rfl (qg_runs (rv_indexH rfl rfl zi rfl rfl)) rfl ?_) | refine ze4 ?_))
   all_goals ((first | refine GE.q 19 rfl za rfl (qg_runs (rv_loadE rfl zak rfl rfl)) rfl ?_ | refine zfB ?_))
   all_goals ((first | refine GE.q 20 rfl za rfl (qg_runs (rv_move rfl)) rfl ?_ | refine zeZ ?_))
   all_goals ((first | (refine GE.q 21 rfl za rfl (qg_runs (rv_indexH rfl rfl ze rfl rfl)) rfl ?_) | refine ze0 ?_))
   all_goals ((first | refine GE.q 22 rfl za rfl (qg_runs (rv_loadE rfl ze rfl rfl)) rfl ?_ | refine ze1 ?_))
   all_goals ((first | refine GE.q 23 rfl za rfl (qg_runs (rv_leq rfl rfl)) rfl ?_ | refine ze2 ?_))
   all_goals ((first | refine GE.ol 24 za rfl rfl (og_runs (rv_pickT rfl rfl)) rfl zd (fun _ _ => ?_) | refine GE.ol 24 za rfl rfl (og_runs (rv_pickF rfl rfl)) rfl zd (fun _ _ => ?_)))
   all_goals (refine GE.ol 25 za rfl rfl (og_runs (rv_move rfl)) rfl zd (fun _ _ => ?_))
   all_goals (((with_reducible refine GE.part (t := 50) rfl (fun hg => ?_) (fun hg => ?_)) <;> (try exact Bool.noConfusion hg) <;> (first | (refine zeI ?_) | refine ze3 ?_)))
   all_goals ((first | (refine zfd ?_) | refine GE.qn 27 rfl za rfl rfl ?_))
   all_goals ((first | (refine GE.q 28 rfl za rfl (qg_runs (rv_field rfl)) rfl ?_) | refine GE.qn 28 rfl za rfl rfl ?_))
   all_goals ((first | (refine GE.q 29 rfl za rfl (qg_runs (rv_load1 2 rfl rfl rfl)) rfl ?_) | refine GE.qn 29 rfl za rfl rfl ?_))
   all_goals ((first | refine GE.q 30 rfl za rfl (qg_runs (rv_leq rfl rfl)) rfl ?_ | refine GE.qn 30 rfl za rfl rfl ?_))
   all_goals ((first | refine GE.ol 31 za rfl rfl (og_runs (rv_pickT rfl rfl)) rfl zd (fun _ _ => ?_) | refine GE.ol 31 za rfl rfl (og_runs (rv_pickF rfl rfl)) rfl zd (fun _ _ => ?_)))
   all_goals (refine GE.t 32 za rfl rfl rfl (og_runs (rv_assign rfl)) rfl (fun _ _ => ?_))
   all_goals
    refine zbj ?_; refine G.ret ?_; refine G.retFV rfl rfl (congrArg Value.bool ?_); simp_all <;> (intros; omega)
end Go.Proofs.YtglpgohilfoecaaGreat

/-
  Orders that are copied and compared.
-/
namespace Go.Proofs.YtglpgohilfoecaaGreat
open Go.RowKit
attribute [local irreducible] Go.wpList Go.Code.wp Go.Exit.then Go.Exit.inBlock Go.bodyPost Go.Calls pE pB G RunsV FnV Fn FnM
set_option maxRecDepth 100000
theorem szPairS_any {v : Value} {l : List PairM} (left : Int) (w : World) (h : Rd w v 2 (l.map PairM.cells)) (h0 : 0 ≤ left) (h1 : left ≤ 1048576) : FnV Tryz.prog 45 [v, .int .i64 left] w (.int .i64 (szM l.length left)) := by
  have hle := h.le_map
  have hln : ((l.map PairM.cells).length : Int) = l.length := by simp
  refine FnV.of (n := 12) Tryz.func45 rfl rfl ?_; refine zaG ?_; refine zaM ?_; refine zaX ?_; refine zcK ?_; refine zcY ?_; refine zaI ?_; refine G.condD rfl (fun hc => ?_) (fun hc => ?_); refine zbc ?_
  exact G.retFV rfl rfl (congrArg (Value.int .i64) zau)
  refine zbR ?_; refine za9 ?_
  exact G.retFV rfl rfl (congrArg (Value.int .i64) zau)
theorem toPair_any (b : PairM) (w : World) : FnV Tryz.prog 112 [b.val] w b.val := by
  refine FnV.of (n := 11) Tryz.func112 rfl rfl ?_; refine zaJ (fun bk1 _ => ?_); refine zbn (fun bk2 _ => ?_); refine zdF ?_; refine zbn (fun bk3 _ => ?_); refine zcv ?_; refine zcb (fun _ _ => ?_); refine zcv ?_; refine zet (fun _ _ => ?_); refine za1 ?_; refine zaU ?_; refine G.op0 (og_st1 rfl rfl rfl rfl rfl rfl (.zero (.cons (.cons .nil)))) (fun _ _ => ?_); refine zfF ?_
  exact G.retFVc 1 rfl rfl rfl rfl rfl
theorem toPairS_any {v : Value} {l : List PairM} (w : World) (h : Rd w v 2 (l.map PairM.cells)) (hl : l.length ≤ 1048576) : Fn Tryz.prog 52 [v] w (fun v : Value => v.oneCell' = true) (fun v => v) (fun v => [.row v 138 2 (l.map PairM.cells)]) := by
  have hln : (l.map PairM.cells).length = l.length := by simp
  refine Fn.of (n := 23) Tryz.func52 rfl rfl ?_; refine zaG ?_; refine zdY (fun v _ => ?_); refine zdR ?_; refine G.loopK (ι := Nat) (ks := [0, 3]) (fun k => [(4, .int .i64 k)]) (fun k => [.row v 138 2 (fillTo (l.map PairM.cells) PairM.z k)]) (fun k => k ≤ l.length) (fun k => l.length - k) 0 (.cons rfl (.cons rfl (.nil))) rfl ?_ ?_ ?_
  exact Nat.zero_le _
  exact ⟨rfl, trivial⟩
  rintro k hk
  by_cases hlt : k < l.length
  case' pos => (obtain ⟨b, hb⟩ := get_of_lt hlt; have he := get_map hb PairM.cells; have hf := fillTo_get (z := PairM.z) (Nat.lt_of_lt_of_eq hlt hln.symm))
  all_goals
   refine zbv ?_; refine G.cond rfl (fun hc => ?_) (fun hc => ?_)
   · all_goals
      replace hc := of_decide_eq_true hc
      simp only [List.length_map] at hc
      try (exfalso; omega)
      all_goals
       refine zaQ ?_; refine zcZ ?_; refine zaC ?_; refine za5 ?_; refine G.op (og_callV rfl rfl (fun w _ => toPair_any b w)) rfl (fun _ _ => ?_); refine G.v (rv_indexH rfl rfl ze rfl zf) rfl ?_; refine G.op0 (og_stE0 rfl rfl rfl zf rfl rfl rfl rfl (.zero (.cons (.cons .nil)))) (fun _ _ => ?_); refine G.done ?_; refine zaE ?_; refine G.backK (k + 1) 0 (congrArg (fun x => [Ch.row v 138 2 x]) (fillTo_set he)) (.cons rfl (.cons rfl (.nil))) ?_ ?_ ?_
       exact ⟨rfl, trivial⟩
       exact hlt
       omega
   · all_goals
      replace hc := of_decide_eq_false hc
      simp only [List.length_map] at hc
      try (exfalso; omega)
      all_goals
       refine zce ?_; refine G.know (fun w hw => (Rd.owned 0 rfl w hw).one_) (fun hone => G.retF v hone rfl rfl rfl (fun w hw => by rw [fillTo_all zc] at hw; exact hw))
theorem eqPair_any (a b : PairM) (w : World) : FnV Tryz.prog 118 [a.val, b.val] w (.bool (decide (a = b))) := by
  cases a; cases b
  refine FnV.of (n := 15) Tryz.func118 rfl rfl ?_; refine zaJ (fun bk2 _ => ?_); refine zcs (fun bk3 _ => ?_); refine zaB ?_; refine zaP ?_; refine G.condD rfl (fun hc => ?_) (fun hc => ?_); refine zbc ?_; refine G.retFV rfl rfl (congrArg Value.bool ?_); simp_all; refine zbR ?_; refine zaP ?_; refine G.condD rfl (fun hc => ?_) (fun hc => ?_); refine zbc ?_; refine G.retFV rfl rfl (congrArg Value.bool ?_); simp_all; refine zbR ?_; refine zbZ ?_; refine za0 ?_
  refine G.thenN (G.ret ?_); refine G.retFV rfl rfl (congrArg Value.bool ?_); simp_all
theorem eqPairS_any {u v : Value} {xs ys : List PairM} (w : World) (h : Rd w u 2 (xs.map PairM.cells)) (h2 : Rd w v 2 (ys.map PairM.cells)) : FnV Tryz.prog 59 [u, v] w (.bool (decide (xs = ys))) := by
  have hle := h.le_map
  have hln : (xs.map PairM.cells).length = xs.length := by simp
  have hln2 : (ys.map PairM.cells).length = ys.length := by simp
  refine FnV.of (n := 27) Tryz.func59 rfl rfl ?_; refine zcd ?_; refine zaX ?_; refine zaC ?_; refine zaX ?_; refine zci ?_; refine G.condD rfl (fun hc => ?_) (fun hc => ?_); refine zbc ?_
  exact G.retFV rfl rfl (eqS_len hc)
  · refine G.skip ?_
    refine G.thenN (G.seq ?_); refine zbL ?_; refine G.loopK (ι := Nat) (ks := [0, 1]) (fun k => [(5, .int .i64 k)]) (fun _ => []) (fun k => k ≤ xs.length ∧ xs.take k = ys.take k) (fun k => xs.length - k) 0 (.cons rfl (.cons rfl (.nil))) rfl ?_ ?_ ?_
    exact ⟨Nat.zero_le _, rfl⟩
    exact ⟨rfl, trivial⟩
    rintro k ⟨hk, ht⟩
    by_cases hlt : k < xs.length
    case' pos => (obtain ⟨a, ha⟩ := get_of_lt hlt; obtain ⟨b, hb⟩ := get_of_lt (l := ys) (k := k) zc; have he := get_map ha PairM.cells; have he2 := get_map hb PairM.cells)
    all_goals
     refine zbv ?_; refine G.cond rfl (fun hc => ?_) (fun hc => ?_)
     · all_goals
        replace hc := of_decide_eq_true hc
        try (exfalso; omega)
        all_goals
         refine zbl (fun _ _ => ?_); refine zdv (fun _ _ => ?_); refine zdZ (fun _ _ => ?_); refine GE.ol 8 za rfl rfl (og_callV rfl rfl (fun w _ => eqPair_any a b w)) rfl zd (fun _ _ => ?_); refine zeE (fun _ _ => ?_); refine zcw ?_
         refine G.thenN ?_; refine G.cond rfl (fun hc => ?_) (fun hc => ?_)
         · all_goals
            all_goals
             refine zfa ?_
             exact G.retFV rfl rfl (eqS_elt ha hb hc)
         · all_goals
            all_goals
             refine zff ?_; refine G.backK (k + 1) 0 rfl (.cons rfl (.cons rfl (.nil))) ?_ ?_ ?_
             exact ⟨rfl, trivial⟩
             exact ⟨hlt, eqS_next ht ha hb hc⟩
             omega
     · all_goals
        replace hc := of_decide_eq_false hc
        try (exfalso; omega)
        all_goals
         refine zd0 ?_
         exact G.retFV rfl rfl (eqS_all ht zc hlt)

theorem szTypeS_any {v : Value} {l : List TypeM} (left : Int) (w : World) (h : Rd w v 7 (l.map TypeM.cells)) (h0 : 0 ≤ left) (h1 : left ≤ 1048576) : FnV Tryz.prog 46 [v, .int .i64 left] w (.int .i64 (szM l.length left)) := by
  have hle := h.le_map
  have hln : ((l.map TypeM.cells).length : Int) = l.length := by simp
  refine FnV.of (n := 12) Tryz.func46 rfl rfl ?_; refine zaG ?_; refine zaM ?_; refine zaX ?_; refine zcK ?_; refine zcY ?_; refine zaI ?_; refine G.condD rfl (fun hc => ?_) (fun hc => ?_); refine zbc ?_
  exact G.retFV rfl rfl (congrArg (Value.int .i64) zau)
  refine zbR ?_; refine za9 ?_
  exact G.retFV rfl rfl (congrArg (Value.int .i64) zau)
theorem toType_any (b : TypeM) (w : World) : FnV Tryz.prog 113 [b.val] w b.val := by
  refine FnV.of (n := 26) Tryz.func113 rfl rfl ?_; refine zaJ (fun bk1 _ => ?_); refine zbn (fun bk2 _ => ?_); refine zdF ?_; refine zbn (fun bk3 _ => ?_); refine zcv ?_; refine zcb (fun _ _ => ?_); refine zcv ?_; refine zet (fun _ _ => ?_); refine zcv ?_; refine zfE (fun _ _ => ?_); refine zcv ?_; refine zfi (fun _ _ => ?_); refine za1 ?_; refine G.seq ?_
  refine G.region ?_; refine zaS ?_; refine zdp ?_; refine zaS ?_; refine G.op0 (og_st0 rfl rfl rfl rfl rfl rfl (.succ (.succ (.succ (.succ (.zero (.cons .nil))))))) (fun _ _ => ?_); refine zcv ?_; refine zev (fun _ _ => ?_); refine zcv ?_; refine G.op0 (og_st0 rfl rfl rfl rfl rfl rfl (.succ (.succ (.succ (.succ (.succ (.succ (.zero (.cons .nil))))))))) (fun _ _ => ?_); refine za1 ?_; refine zaU ?_; refine zbO (fun _ _ => ?_); refine zfF ?_
  exact G.retFVc 1 rfl rfl rfl rfl rfl
theorem toTypeS_any {v : Value} {l : List TypeM} (w : World) (h : Rd w v 7 (l.map TypeM.cells)) (hl : l.length ≤ 1048576) : Fn Tryz.prog 53 [v] w (fun v : Value => v.oneCell' = true) (fun v => v) (fun v => [.row v 56 7 (l.map TypeM.cells)]) := by
  have hln : (l.map TypeM.cells).length = l.length := by simp
  refine Fn.of (n := 23) Tryz.func53 rfl rfl ?_; refine zaG ?_; refine zdY (fun v _ => ?_); refine zdR ?_; refine G.loopK (ι := Nat) (ks := [0, 3]) (fun k => [(4, .int .i64 k)]) (fun k => [.row v 56 7 (fillTo (l.map TypeM.cells) TypeM.z k)]) (fun k => k ≤ l.length) (fun k => l.length - k) 0 (.cons rfl (.cons rfl (.nil))) rfl ?_ ?_ ?_
  exact Nat.zero_le _
  exact ⟨rfl, trivial⟩
  rintro k hk
  by_cases hlt : k < l.length
  case' pos => (obtain ⟨b, hb⟩ := get_of_lt hlt; have he := get_map hb TypeM.cells; have hf := fillTo_get (z := TypeM.z) (Nat.lt_of_lt_of_eq hlt hln.symm))
  all_goals
   refine zbv ?_; refine G.cond rfl (fun hc => ?_) (fun hc => ?_)
   · all_goals
      replace hc := of_decide_eq_true hc
      simp only [List.length_map] at hc
      try (exfalso; omega)
      all_goals
       refine zaQ ?_; refine zcZ ?_; refine zaC ?_; refine za5 ?_; refine G.op (og_callV rfl rfl (fun w _ => toType_any b w)) rfl (fun _ _ => ?_); refine zeY (fun _ _ => ?_); refine G.done ?_; refine zaE ?_; refine G.backK (k + 1) 0 (congrArg (fun x => [Ch.row v 56 7 x]) (fillTo_set he)) (.cons rfl (.cons rfl (.nil))) ?_ ?_ ?_
       exact ⟨rfl, trivial⟩
       exact hlt
       omega
   · all_goals
      replace hc := of_decide_eq_false hc
      simp only [List.length_map] at hc
      try (exfalso; omega)
      all_goals
       refine zce ?_; refine G.know (fun w hw => (Rd.owned 0 rfl w hw).one_) (fun hone => G.retF v hone rfl rfl rfl (fun w hw => by rw [fillTo_all zc] at hw; exact hw))
theorem eqType_any (a b : TypeM) (w : World) : FnV Tryz.prog 119 [a.val, b.val] w (.bool (decide (a = b))) := by
  cases a; cases b
  refine FnV.of (n := 40) Tryz.func119 rfl rfl ?_; refine zaJ (fun bk2 _ => ?_); refine zcs (fun bk3 _ => ?_); refine zaB ?_; refine zaP ?_; refine G.condD rfl (fun hc => ?_) (fun hc => ?_); refine zbc ?_; refine G.retFV rfl rfl (congrArg Value.bool ?_); simp_all; refine zbR ?_; refine zaP ?_; refine G.condD rfl (fun hc => ?_) (fun hc => ?_); refine zbc ?_; refine G.retFV rfl rfl (congrArg Value.bool ?_); simp_all; refine zdN ?_; refine zaS ?_
  refine zcN ?_; refine zaK ?_; refine zci ?_; refine G.condD rfl (fun hc => ?_) (fun hc => ?_); refine zbc ?_; refine G.retFV rfl rfl (congrArg Value.bool ?_); simp_all; refine zbR ?_; refine zaP ?_; refine G.condD rfl (fun hc => ?_) (fun hc => ?_); refine zbc ?_; refine G.retFV rfl rfl (congrArg Value.bool ?_); simp_all; refine zbR ?_; refine zaP ?_; refine G.condD rfl (fun hc => ?_) (fun hc => ?_); refine zbZ ?_; refine za0 ?_
  refine G.thenN (G.ret (G.thenR ?_)); refine G.retFV rfl rfl (congrArg Value.bool ?_); simp_all; refine zbR ?_; refine zaP ?_; refine G.condD rfl (fun hc => ?_) (fun hc => ?_); refine zbc ?_; refine G.retFV rfl rfl (congrArg Value.bool ?_); simp_all; refine zbR ?_; refine zaP ?_; refine G.condD rfl (fun hc => ?_) (fun hc => ?_); refine zbc ?_; refine G.retFV rfl rfl (congrArg Value.bool ?_); simp_all; refine zbR ?_; refine zcr ?_; refine G.retFV rfl rfl (congrArg Value.bool ?_); simp_all
theorem eqTypeS_any {u v : Value} {xs ys : List TypeM} (w : World) (h : Rd w u 7 (xs.map TypeM.cells)) (h2 : Rd w v 7 (ys.map TypeM.cells)) : FnV Tryz.prog 60 [u, v] w (.bool (decide (xs = ys))) := by
  have hle := h.le_map
  have hln : (xs.map TypeM.cells).length = xs.length := by simp
  have hln2 : (ys.map TypeM.cells).length = ys.length := by simp
  refine FnV.of (n := 27) Tryz.func60 rfl rfl ?_; refine zcd ?_; refine zaX ?_; refine zaC ?_; refine zaX ?_; refine zci ?_; refine G.condD rfl (fun hc => ?_) (fun hc => ?_); refine zbc ?_
  exact G.retFV rfl rfl (eqS_len hc)
  · refine G.skip ?_
    refine G.thenN (G.seq ?_); refine zbL ?_; refine G.loopK (ι := Nat) (ks := [0, 1]) (fun k => [(5, .int .i64 k)]) (fun _ => []) (fun k => k ≤ xs.length ∧ xs.take k = ys.take k) (fun k => xs.length - k) 0 (.cons rfl (.cons rfl (.nil))) rfl ?_ ?_ ?_
    exact ⟨Nat.zero_le _, rfl⟩
    exact ⟨rfl, trivial⟩
    rintro k ⟨hk, ht⟩
    by_cases hlt : k < xs.length
    case' pos => (obtain ⟨a, ha⟩ := get_of_lt hlt; obtain ⟨b, hb⟩ := get_of_lt (l := ys) (k := k) zc; have he := get_map ha TypeM.cells; have he2 := get_map hb TypeM.cells)
    all_goals
     refine zbv ?_; refine G.cond rfl (fun hc => ?_) (fun hc => ?_)
     · all_goals
        replace hc := of_decide_eq_true hc
        try (exfalso; omega)
        all_goals
         refine zbl (fun _ _ => ?_); refine zdv (fun _ _ => ?_); refine zdZ (fun _ _ => ?_); refine GE.ol 8 za rfl rfl (og_callV rfl rfl (fun w _ => eqType_any a b w)) rfl zd (fun _ _ => ?_); refine zeE (fun _ _ => ?_); refine zcw ?_
         refine G.thenN ?_; refine G.cond rfl (fun hc => ?_) (fun hc => ?_)
         · all_goals
            all_goals
             refine zfa ?_
             exact G.retFV rfl rfl (eqS_elt ha hb hc)
         · all_goals
            all_goals
             refine zff ?_; refine G.backK (k + 1) 0 rfl (.cons rfl (.cons rfl (.nil))) ?_ ?_ ?_
             exact ⟨rfl, trivial⟩
             exact ⟨hlt, eqS_next ht ha hb hc⟩
             omega
     · all_goals
        replace hc := of_decide_eq_false hc
        try (exfalso; omega)
        all_goals
         refine zd0 ?_
         exact G.retFV rfl rfl (eqS_all ht zc hlt)

theorem szItemS_any {v : Value} {l : List ItemM} (left : Int) (w : World) (h : Rd w v 7 (l.map ItemM.cells)) (h0 : 0 ≤ left) (h1 : left ≤ 1048576) : FnV Tryz.prog 47 [v, .int .i64 left] w (.int .i64 (szM l.length left)) := by
  have hle := h.le_map
  have hln : ((l.map ItemM.cells).length : Int) = l.length := by simp
  refine FnV.of (n := 12) Tryz.func47 rfl rfl ?_; refine zaG ?_; refine zaM ?_; refine zaX ?_; refine zcK ?_; refine zcY ?_; refine zaI ?_; refine G.condD rfl (fun hc => ?_) (fun hc => ?_); refine zbc ?_
  exact G.retFV rfl rfl (congrArg (Value.int .i64) zau)
  refine zbR ?_; refine za9 ?_
  exact G.retFV rfl rfl (congrArg (Value.int .i64) zau)
theorem toItem_any (b : ItemM) (w : World) : FnV Tryz.prog 114 [b.val] w b.val := by
  refine FnV.of (n := 26) Tryz.func114 rfl rfl ?_; refine zaJ (fun bk1 _ => ?_); refine zbn (fun bk2 _ => ?_); refine zdF ?_; refine zbn (fun bk3 _ => ?_); refine zcv ?_; refine zcb (fun _ _ => ?_); refine zcv ?_; refine zet (fun _ _ => ?_); refine zcv ?_; refine zfE (fun _ _ => ?_); refine zcv ?_; refine zfi (fun _ _ => ?_); refine za1 ?_; refine G.seq ?_
  refine G.region ?_; refine zaS ?_; refine zdp ?_; refine zaS ?_; refine G.op0 (og_st0 rfl rfl rfl rfl rfl rfl (.succ (.succ (.succ (.succ (.zero (.cons .nil))))))) (fun _ _ => ?_); refine zcv ?_; refine zev (fun _ _ => ?_); refine zcv ?_; refine G.op0 (og_st0 rfl rfl rfl rfl rfl rfl (.succ (.succ (.succ (.succ (.succ (.succ (.zero (.cons .nil))))))))) (fun _ _ => ?_); refine za1 ?_; refine zaU ?_; refine zbO (fun _ _ => ?_); refine zfF ?_
  exact G.retFVc 1 rfl rfl rfl rfl rfl
theorem toItemS_any {v : Value} {l : List ItemM} (w : World) (h : Rd w v 7 (l.map ItemM.cells)) (hl : l.length ≤ 1048576) : Fn Tryz.prog 54 [v] w (fun v : Value => v.oneCell' = true) (fun v => v) (fun v => [.row v 111 7 (l.map ItemM.cells)]) := by
  have hln : (l.map ItemM.cells).length = l.length := by simp
  refine Fn.of (n := 23) Tryz.func54 rfl rfl ?_; refine zaG ?_; refine zdY (fun v _ => ?_); refine zdR ?_; refine G.loopK (ι := Nat) (ks := [0, 3]) (fun k => [(4, .int .i64 k)]) (fun k => [.row v 111 7 (fillTo (l.map ItemM.cells) ItemM.z k)]) (fun k => k ≤ l.length) (fun k => l.length - k) 0 (.cons rfl (.cons rfl (.nil))) rfl ?_ ?_ ?_
  exact Nat.zero_le _
  exact ⟨rfl, trivial⟩
  rintro k hk
  by_cases hlt : k < l.length
  case' pos => (obtain ⟨b, hb⟩ := get_of_lt hlt; have he := get_map hb ItemM.cells; have hf := fillTo_get (z := ItemM.z) (Nat.lt_of_lt_of_eq hlt hln.symm))
  all_goals
   refine zbv ?_; refine G.cond rfl (fun hc => ?_) (fun hc => ?_)
   · all_goals
      replace hc := of_decide_eq_true hc
      simp only [List.length_map] at hc
      try (exfalso; omega)
      all_goals
       refine zaQ ?_; refine zcZ ?_; refine zaC ?_; refine za5 ?_; refine G.op (og_callV rfl rfl (fun w _ => toItem_any b w)) rfl (fun _ _ => ?_); refine zeY (fun _ _ => ?_); refine G.done ?_; refine zaE ?_; refine G.backK (k + 1) 0 (congrArg (fun x => [Ch.row v 111 7 x]) (fillTo_set he)) (.cons rfl (.cons rfl (.nil))) ?_ ?_ ?_
       exact ⟨rfl, trivial⟩
       exact hlt
       omega
   · all_goals
      replace hc := of_decide_eq_false hc
      simp only [List.length_map] at hc
      try (exfalso; omega)
      all_goals
       refine zce ?_; refine G.know (fun w hw => (Rd.owned 0 rfl w hw).one_) (fun hone => G.retF v hone rfl rfl rfl (fun w hw => by rw [fillTo_all zc] at hw; exact hw))
theorem eqItem_any (a b : ItemM) (w : World) : FnV Tryz.prog 120 [a.val, b.val] w (.bool (decide (a = b))) := by
  cases a; cases b
  refine FnV.of (n := 40) Tryz.func120 rfl rfl ?_; refine zaJ (fun bk2 _ => ?_); refine zcs (fun bk3 _ => ?_); refine zaB ?_; refine zaP ?_; refine G.condD rfl (fun hc => ?_) (fun hc => ?_); refine zbc ?_; refine G.retFV rfl rfl (congrArg Value.bool ?_); simp_all; refine zbR ?_; refine zaP ?_; refine G.condD rfl (fun hc => ?_) (fun hc => ?_); refine zbc ?_; refine G.retFV rfl rfl (congrArg Value.bool ?_); simp_all; refine zdN ?_; refine zaS ?_
  refine zcN ?_; refine zaK ?_; refine zci ?_; refine G.condD rfl (fun hc => ?_) (fun hc => ?_); refine zbc ?_; refine G.retFV rfl rfl (congrArg Value.bool ?_); simp_all; refine zbR ?_; refine zaP ?_; refine G.condD rfl (fun hc => ?_) (fun hc => ?_); refine zbc ?_; refine G.retFV rfl rfl (congrArg Value.bool ?_); simp_all; refine zbR ?_; refine zaP ?_; refine G.condD rfl (fun hc => ?_) (fun hc => ?_); refine zbZ ?_; refine za0 ?_
  refine G.thenN (G.ret (G.thenR ?_)); refine G.retFV rfl rfl (congrArg Value.bool ?_); simp_all; refine zbR ?_; refine zaP ?_; refine G.condD rfl (fun hc => ?_) (fun hc => ?_); refine zbc ?_; refine G.retFV rfl rfl (congrArg Value.bool ?_); simp_all; refine zbR ?_; refine zaP ?_; refine G.condD rfl (fun hc => ?_) (fun hc => ?_); refine zbc ?_; refine G.retFV rfl rfl (congrArg Value.bool ?_); simp_all; refine zbR ?_; refine zcr ?_; refine G.retFV rfl rfl (congrArg Value.bool ?_); simp_all
theorem eqItemS_any {u v : Value} {xs ys : List ItemM} (w : World) (h : Rd w u 7 (xs.map ItemM.cells)) (h2 : Rd w v 7 (ys.map ItemM.cells)) : FnV Tryz.prog 61 [u, v] w (.bool (decide (xs = ys))) := by
  have hle := h.le_map
  have hln : (xs.map ItemM.cells).length = xs.length := by simp
  have hln2 : (ys.map ItemM.cells).length = ys.length := by simp
  refine FnV.of (n := 27) Tryz.func61 rfl rfl ?_; refine zcd ?_; refine zaX ?_; refine zaC ?_; refine zaX ?_; refine zci ?_; refine G.condD rfl (fun hc => ?_) (fun hc => ?_); refine zbc ?_
  exact G.retFV rfl rfl (eqS_len hc)
  · refine G.skip ?_
    refine G.thenN (G.seq ?_); refine zbL ?_; refine G.loopK (ι := Nat) (ks := [0, 1]) (fun k => [(5, .int .i64 k)]) (fun _ => []) (fun k => k ≤ xs.length ∧ xs.take k = ys.take k) (fun k => xs.length - k) 0 (.cons rfl (.cons rfl (.nil))) rfl ?_ ?_ ?_
    exact ⟨Nat.zero_le _, rfl⟩
    exact ⟨rfl, trivial⟩
    rintro k ⟨hk, ht⟩
    by_cases hlt : k < xs.length
    case' pos => (obtain ⟨a, ha⟩ := get_of_lt hlt; obtain ⟨b, hb⟩ := get_of_lt (l := ys) (k := k) zc; have he := get_map ha ItemM.cells; have he2 := get_map hb ItemM.cells)
    all_goals
     refine zbv ?_; refine G.cond rfl (fun hc => ?_) (fun hc => ?_)
     · all_goals
        replace hc := of_decide_eq_true hc
        try (exfalso; omega)
        all_goals
         refine zbl (fun _ _ => ?_); refine zdv (fun _ _ => ?_); refine zdZ (fun _ _ => ?_); refine GE.ol 8 za rfl rfl (og_callV rfl rfl (fun w _ => eqItem_any a b w)) rfl zd (fun _ _ => ?_); refine zeE (fun _ _ => ?_); refine zcw ?_
         refine G.thenN ?_; refine G.cond rfl (fun hc => ?_) (fun hc => ?_)
         · all_goals
            all_goals
             refine zfa ?_
             exact G.retFV rfl rfl (eqS_elt ha hb hc)
         · all_goals
            all_goals
             refine zff ?_; refine G.backK (k + 1) 0 rfl (.cons rfl (.cons rfl (.nil))) ?_ ?_ ?_
             exact ⟨rfl, trivial⟩
             exact ⟨hlt, eqS_next ht ha hb hc⟩
             omega
     · all_goals
        replace hc := of_decide_eq_false hc
        try (exfalso; omega)
        all_goals
         refine zd0 ?_
         exact G.retFV rfl rfl (eqS_all ht zc hlt)

end Go.Proofs.YtglpgohilfoecaaGreat

/-
  Whole orders, copied and compared; what is found in them; their bounds.
-/
namespace Go.Proofs.YtglpgohilfoecaaGreat
open Go.RowKit
attribute [local irreducible] Go.wpList Go.Code.wp Go.Exit.then Go.Exit.inBlock Go.bodyPost Go.Calls pE pB G RunsV FnV Fn FnM
set_option maxRecDepth 100000
set_option maxHeartbeats 1000000
def reqN (r : ReqM) : Nat := r.pairs.length + r.types.length + r.items.length
theorem szRequest_any {r : ReqM} {pv tv iv : Value} (left : Int) (w : World) (h : Rd w pv 2 (r.pairs.map PairM.cells)) (h2 : Rd w tv 7 (r.types.map TypeM.cells)) (h3 : Rd w iv 7 (r.items.map ItemM.cells)) (h0 : 0 ≤ left) (h1 : left ≤ 1048576) :
    FnV Tryz.prog 9 [.agg (r.cells pv tv iv).toArray, .int .i64 left] w (.int .i64 (szM (reqN r) left)) := by
  refine FnV.of (n := 24) Tryz.func9 rfl rfl ?_; refine zaJ (fun bk2 _ => ?_); refine zcQ ?_; refine zaC ?_; refine G.op (og_callV rfl rfl (fun w hh => szPairS_any _ w zx zM zM)) rfl (fun _ _ => ?_); refine zcY ?_; refine zaI ?_; refine G.condD rfl (fun hc => ?_) (fun hc => ?_); refine zbc ?_
  exact G.retFV rfl rfl (congrArg (Value.int .i64) zaw)
  refine zbR ?_; refine zbZ ?_; refine zaK ?_; refine zaC ?_; refine G.op (og_callV rfl rfl (fun w hh => szTypeS_any _ w zx zM zM)) rfl (fun _ _ => ?_); refine zcY ?_; refine zaI ?_; refine G.condD rfl (fun hc => ?_) (fun hc => ?_); refine zbc ?_
  exact G.retFV rfl rfl (congrArg (Value.int .i64) zaw)
  refine zbR ?_; refine zbZ ?_; refine zaK ?_; refine zaC ?_; refine G.op (og_callV rfl rfl (fun w hh => szItemS_any _ w zx zM zM)) rfl (fun _ _ => ?_); refine zcY ?_; refine zaI ?_; refine G.condD rfl (fun hc => ?_) (fun hc => ?_); refine zbc ?_
  exact G.retFV rfl rfl (congrArg (Value.int .i64) zaw)
  refine zbR ?_; refine za9 ?_
  exact G.retFV rfl rfl (congrArg (Value.int .i64) zaw)
theorem toRequest_any {r : ReqM} {pv tv iv : Value} (w : World) (h : Rd w pv 2 (r.pairs.map PairM.cells)) (h2 : Rd w tv 7 (r.types.map TypeM.cells)) (h3 : Rd w iv 7 (r.items.map ItemM.cells)) (hl : reqN r ≤ 1048576) :
    Fn Tryz.prog 11 [.agg (r.cells pv tv iv).toArray] w (fun x : Value × Value × Value => x.1.oneCell' = true ∧ x.2.1.oneCell' = true ∧ x.2.2.oneCell' = true) (fun x => .agg (r.cells x.1 x.2.1 x.2.2).toArray)
      (fun x => [.row x.2.2 111 7 (r.items.map ItemM.cells), .row x.2.1 56 7 (r.types.map TypeM.cells), .row x.1 138 2 (r.pairs.map PairM.cells)]) := by
  simp only [reqN] at hl
  refine Fn.of (n := 30) Tryz.func11 rfl rfl ?_; refine zaJ (fun bk1 _ => ?_); refine zbn (fun bk2 _ => ?_); refine zdF ?_; refine zbn (fun bk3 _ => ?_); refine zcv ?_; refine zcb (fun _ _ => ?_); refine zdF ?_; refine zaS ?_; refine G.v (rv_loadP 2 rfl rfl (.skip (.one (.one (.one (.one .nil)))))) rfl (G.op (og_callV rfl rfl (fun w _ => toPallet_any _ w)) rfl (fun _ _ => ?_)); refine zaS ?_; refine G.op0 (og_st0 rfl rfl rfl rfl rfl rfl (.succ (.zero (.cons (.cons (.cons (.cons .nil))))))) (fun _ _ => ?_); refine zcv ?_; refine zev (fun _ _ => ?_); refine za1 ?_; refine za2 ?_
  first | (refine G.op (og_callF1 rfl rfl (fun w hh => toPairS_any w (Rd.stays h _ hh) zc)) rfl ?_; rintro pv2 hov; try dsimp only) | (refine G.op (og_callF2 rfl rfl (fun w hh => toPairS_any w (Rd.stays h _ hh) zc)) rfl ?_; rintro pv2 hov; try dsimp only) | (refine G.op (og_callF3 rfl rfl (fun w hh => toPairS_any w (Rd.stays h _ hh) zc)) rfl ?_; rintro pv2 hov; try dsimp only) | (refine G.op (og_callF0 rfl rfl (fun w hh => toPairS_any w (Rd.stays h _ hh) zc)) rfl ?_; rintro pv2 hov; try dsimp only) | (refine G.op (og_callF rfl rfl (fun w hh => toPairS_any w (Rd.stays h _ hh) zc)) rfl ?_; rintro pv2 hov; try dsimp only)
  refine zaS ?_; refine G.op0 (og_st1 rfl rfl rfl (cells_one zf) rfl (by repeat (first | rfl | refine one_cons zf ?_)) (.succ (.succ (.succ (.succ (.succ (.succ (.zero (.cons .nil))))))))) (fun _ _ => ?_); refine zdF ?_; refine zaS ?_; refine G.v (rv_load1 3 rfl rfl rfl) rfl ?_
  first | (refine G.op (og_callF1 rfl rfl (fun w hh => toTypeS_any w (Rd.stays h2 _ hh) zc)) rfl ?_; rintro tv2 hov2; try dsimp only) | (refine G.op (og_callF2 rfl rfl (fun w hh => toTypeS_any w (Rd.stays h2 _ hh) zc)) rfl ?_; rintro tv2 hov2; try dsimp only) | (refine G.op (og_callF3 rfl rfl (fun w hh => toTypeS_any w (Rd.stays h2 _ hh) zc)) rfl ?_; rintro tv2 hov2; try dsimp only) | (refine G.op (og_callF0 rfl rfl (fun w hh => toTypeS_any w (Rd.stays h2 _ hh) zc)) rfl ?_; rintro tv2 hov2; try dsimp only) | (refine G.op (og_callF rfl rfl (fun w hh => toTypeS_any w (Rd.stays h2 _ hh) zc)) rfl ?_; rintro tv2 hov2; try dsimp only)
  refine zaS ?_; refine G.op0 (og_st2 rfl rfl rfl (cells_one zf) rfl (by repeat (first | rfl | refine one_cons zf ?_)) (.succ (.succ (.succ (.succ (.succ (.succ (.succ (.zero (.cons .nil)))))))))) (fun _ _ => ?_); refine zdF ?_; refine zaS ?_; refine G.v (rv_load1 4 rfl rfl rfl) rfl ?_; refine zaS ?_; refine G.op0 (og_st2 rfl rfl rfl rfl rfl rfl (.succ (.succ (.succ (.succ (.succ (.succ (.succ (.succ (.zero (.cons .nil))))))))))) (fun _ _ => ?_); refine zdF ?_; refine zaS ?_; refine G.v (rv_load1 4 rfl rfl rfl) rfl ?_
  first | (refine G.op (og_callF1 rfl rfl (fun w hh => toItemS_any w (Rd.stays h3 _ hh) zc)) rfl ?_; rintro iv2 hov3; try dsimp only) | (refine G.op (og_callF2 rfl rfl (fun w hh => toItemS_any w (Rd.stays h3 _ hh) zc)) rfl ?_; rintro iv2 hov3; try dsimp only) | (refine G.op (og_callF3 rfl rfl (fun w hh => toItemS_any w (Rd.stays h3 _ hh) zc)) rfl ?_; rintro iv2 hov3; try dsimp only) | (refine G.op (og_callF0 rfl rfl (fun w hh => toItemS_any w (Rd.stays h3 _ hh) zc)) rfl ?_; rintro iv2 hov3; try dsimp only) | (refine G.op (og_callF rfl rfl (fun w hh => toItemS_any w (Rd.stays h3 _ hh) zc)) rfl ?_; rintro iv2 hov3; try dsimp only)
  refine zaS ?_; refine G.op0 (og_st3 rfl rfl rfl (cells_one zf) rfl (by repeat (first | rfl | refine one_cons zf ?_)) (.succ (.succ (.succ (.succ (.succ (.succ (.succ (.succ (.succ (.zero (.cons .nil)))))))))))) (fun _ _ => ?_); refine zdF ?_; refine zeJ ?_; refine G.op0 (og_st4 rfl rfl rfl rfl rfl (by repeat (first | rfl | refine one_cons (by first | rfl | assumption) ?_)) (.zero (.cons (.cons (.cons (.cons (.cons (.cons (.cons (.cons (.cons (.cons .nil)))))))))))) (fun _ _ => ?_); refine zfF ?_
  exact G.retFc (pv2, tv2, iv2) ⟨hov, hov2, hov3⟩ 4 rfl rfl rfl rfl rfl (fun w hh => hh.pick [0, 0, 0] rfl)
theorem eqPallet_any (a b : PalletM) (w : World) : FnV Tryz.prog 58 [a.val, b.val] w (.bool (decide (a = b))) := by
  cases a; cases b
  refine FnV.of (n := 25) Tryz.func58 rfl rfl ?_; refine zaJ (fun bk2 _ => ?_); refine zcs (fun bk3 _ => ?_); refine zaB ?_; refine zaP ?_; refine G.condD rfl (fun hc => ?_) (fun hc => ?_); refine zbc ?_; refine G.retFV rfl rfl (congrArg Value.bool ?_); simp_all; refine zbR ?_; refine zaP ?_; refine G.condD rfl (fun hc => ?_) (fun hc => ?_); refine zbc ?_; refine G.retFV rfl rfl (congrArg Value.bool ?_); simp_all; refine zdN ?_; refine zaS ?_
  refine zcN ?_; refine zaK ?_; refine zci ?_; refine G.condD rfl (fun hc => ?_) (fun hc => ?_); refine zbc ?_; refine G.retFV rfl rfl (congrArg Value.bool ?_); simp_all; refine zbR ?_; refine zaP ?_; refine G.condD rfl (fun hc => ?_) (fun hc => ?_); refine zbc ?_; refine G.retFV rfl rfl (congrArg Value.bool ?_); simp_all; refine zbR ?_; refine zcr ?_; refine G.retFV rfl rfl (congrArg Value.bool ?_); simp_all
theorem ReqM.eq_iff (a b : ReqM) : a = b ↔ a.way = b.way ∧ a.pal = b.pal ∧ a.classes = b.classes ∧ a.pairs = b.pairs ∧ a.types = b.types ∧ a.master = b.master ∧ a.items = b.items := by
  cases a; cases b; simp
theorem eqRequest_any {r s : ReqM} {pv tv iv pv' tv' iv' : Value} (w : World) (h : Rd w pv 2 (r.pairs.map PairM.cells)) (h2 : Rd w tv 7 (r.types.map TypeM.cells)) (h3 : Rd w iv 7 (r.items.map ItemM.cells))
    (h' : Rd w pv' 2 (s.pairs.map PairM.cells)) (h2' : Rd w tv' 7 (s.types.map TypeM.cells)) (h3' : Rd w iv' 7 (s.items.map ItemM.cells)) :
    FnV Tryz.prog 14 [.agg (r.cells pv tv iv).toArray, .agg (s.cells pv' tv' iv').toArray] w (.bool (decide (r = s))) := by
  have hx := ReqM.eq_iff r s
  refine FnV.of (n := 44) Tryz.func14 rfl rfl ?_; refine zaJ (fun bk2 _ => ?_); refine zcs (fun bk3 _ => ?_); refine zaB ?_; refine zaP ?_; refine G.condD rfl (fun hc => ?_) (fun hc => ?_); refine zbc ?_; refine G.retFV rfl rfl (congrArg Value.bool ?_); simp_all; refine zdN ?_; refine zaS ?_; refine G.v (rv_loadP 1 rfl rfl (.skip (.one (.one (.one (.one .nil)))))) rfl ?_; refine zaS ?_; refine G.v (rv_loadP 0 rfl rfl (.skip (.one (.one (.one (.one .nil)))))) rfl (G.op (og_callV rfl rfl (fun w hh => eqPallet_any r.pal s.pal w)) rfl (fun _ _ => ?_)); refine zcl ?_; refine G.cond rfl (fun hc => ?_) (fun hc => ?_); refine zbc ?_
  refine G.retFV rfl rfl (congrArg Value.bool ?_); simp_all; refine zbR ?_; refine zaP ?_; refine G.condD rfl (fun hc => ?_) (fun hc => ?_); refine zbc ?_; refine G.retFV rfl rfl (congrArg Value.bool ?_); simp_all; refine zdN ?_; refine zbe ?_; refine zaK ?_; refine G.op (og_callV rfl rfl (fun w hh => eqPairS_any w (Rd.stays h _ hh) (Rd.stays h' _ hh))) rfl (fun _ _ => ?_); refine zcl ?_; refine G.cond rfl (fun hc => ?_) (fun hc => ?_); refine zbc ?_; refine G.retFV rfl rfl (congrArg Value.bool ?_); simp_all; refine zdN ?_; refine zbe ?_
  refine zaK ?_; refine G.op (og_callV rfl rfl (fun w hh => eqTypeS_any w (Rd.stays h2 _ hh) (Rd.stays h2' _ hh))) rfl (fun _ _ => ?_); refine zcl ?_; refine G.cond rfl (fun hc => ?_) (fun hc => ?_); refine zbc ?_; refine G.retFV rfl rfl (congrArg Value.bool ?_); simp_all; refine zbR ?_; refine zaP ?_; refine G.condD rfl (fun hc => ?_) (fun hc => ?_); refine zbc ?_; refine G.retFV rfl rfl (congrArg Value.bool ?_); simp_all; refine zdN ?_; refine zbe ?_; refine zaK ?_; refine G.op (og_callV rfl rfl (fun w hh => eqItemS_any w (Rd.stays h3 _ hh) (Rd.stays h3' _ hh))) rfl (fun _ _ => ?_); refine zbr ?_
  refine za1 ?_; refine G.cond rfl (fun hc => ?_) (fun hc => ?_); refine zbc ?_; refine G.retFV rfl rfl (congrArg Value.bool ?_); simp_all; refine zbR ?_; refine zcr ?_; refine G.retFV rfl rfl (congrArg Value.bool ?_); simp_all
theorem indexPair_any {g : Nat} [FnOk Tryz.prog g] {cap : List Value} {v : Value} {l : List PairM} {p : PairM → Bool} (w : World) (h : Rd w v 2 (l.map PairM.cells)) (hf : ∀ (w' : World) (k : Nat) (b : PairM), HeapOk w w' [] → l[k]? = some b → FnV Tryz.prog g ([.agg (PairM.cells b).toArray] ++ cap) w' (.bool (p b))) :
    FnV Tryz.prog 240 [v, .func (.func g) #[] cap.toArray] w (.int .i64 (idxM p l)) := by
  have hle := h.le_map
  have hln : (l.map PairM.cells).length = l.length := by simp
  refine FnV.of (n := 19) Tryz.func240 rfl rfl ?_; refine zcd ?_; refine zeO ?_; refine G.loopK (ι := Nat) (ks := [0, 1, 7]) (fun k => [(8, .int .i64 k)]) (fun _ => []) (fun k => k ≤ l.length ∧ (l.take k).any p = false) (fun k => l.length - k) 0 (.cons rfl (.cons rfl (.cons rfl (.nil)))) rfl ?_ ?_ ?_
  exact ⟨Nat.zero_le _, rfl⟩
  exact ⟨rfl, trivial⟩
  rintro k ⟨hk, ht⟩
  by_cases hlt : k < l.length
  case' pos => (obtain ⟨b, hb⟩ := get_of_lt hlt; have he := get_map hb PairM.cells)
  all_goals
   refine zbo ?_; refine G.cond rfl (fun hc => ?_) (fun hc => ?_)
   · all_goals
      replace hc := of_decide_eq_true hc
      try (exfalso; omega)
      all_goals
       refine zcD (fun _ _ => ?_); refine za1 ?_; refine G.cond rfl (fun hc => ?_) (fun hc => ?_)
       · all_goals
          all_goals
           refine za9 ?_; refine zbg ?_
           exact G.retFV rfl rfl (congrArg (Value.int .i64) (idx_at ht hb hc).symm)
       · all_goals
          all_goals
           refine G.skip ?_; refine zaO ?_; refine G.backK (k + 1) 0 rfl (.cons rfl (.cons rfl (.cons rfl (.nil)))) ?_ ?_ ?_
           exact ⟨rfl, trivial⟩
           exact ⟨hlt, any_next ht hb hc⟩
           omega
   · all_goals
      replace hc := of_decide_eq_false hc
      try (exfalso; omega)
      all_goals
       refine zd0 ?_
       exact G.retFV rfl rfl (congrArg (Value.int .i64) (idx_none ht hlt).symm)
theorem containsPair_any {g : Nat} [FnOk Tryz.prog g] {cap : List Value} {v : Value} {l : List PairM} {p : PairM → Bool} (w : World) (h : Rd w v 2 (l.map PairM.cells)) (hf : ∀ (w' : World) (k : Nat) (b : PairM), HeapOk w w' [] → l[k]? = some b → FnV Tryz.prog g ([.agg (PairM.cells b).toArray] ++ cap) w' (.bool (p b))) :
    FnV Tryz.prog 221 [v, .func (.func g) #[] cap.toArray] w (.bool (l.any p)) := by
  refine FnV.of (n := 9) Tryz.func221 rfl rfl ?_; refine zaG ?_; refine zaM ?_; refine G.op (og_callV rfl rfl (fun w hh => indexPair_any w (Rd.stays h _ hh) (fun w' k b hw hb => hf w' k b ((hh.call hw).none) hb))) rfl (fun _ _ => ?_); refine zd6 ?_; refine zcf ?_
  exact G.retFV rfl rfl (congrArg Value.bool (idx_any p l))

theorem indexType_any {g : Nat} [FnOk Tryz.prog g] {cap : List Value} {v : Value} {l : List TypeM} {p : TypeM → Bool} (w : World) (h : Rd w v 7 (l.map TypeM.cells)) (hf : ∀ (w' : World) (k : Nat) (b : TypeM), HeapOk w w' [] → l[k]? = some b → FnV Tryz.prog g ([.agg (TypeM.cells b).toArray] ++ cap) w' (.bool (p b))) :
    FnV Tryz.prog 77 [v, .func (.func g) #[] cap.toArray] w (.int .i64 (idxM p l)) := by
  have hle := h.le_map
  have hln : (l.map TypeM.cells).length = l.length := by simp
  refine FnV.of (n := 19) Tryz.func77 rfl rfl ?_; refine zcd ?_; refine zeO ?_; refine G.loopK (ι := Nat) (ks := [0, 1, 7]) (fun k => [(8, .int .i64 k)]) (fun _ => []) (fun k => k ≤ l.length ∧ (l.take k).any p = false) (fun k => l.length - k) 0 (.cons rfl (.cons rfl (.cons rfl (.nil)))) rfl ?_ ?_ ?_
  exact ⟨Nat.zero_le _, rfl⟩
  exact ⟨rfl, trivial⟩
  rintro k ⟨hk, ht⟩
  by_cases hlt : k < l.length
  case' pos => (obtain ⟨b, hb⟩ := get_of_lt hlt; have he := get_map hb TypeM.cells)
  all_goals
   refine zbo ?_; refine G.cond rfl (fun hc => ?_) (fun hc => ?_)
   · all_goals
      replace hc := of_decide_eq_true hc
      try (exfalso; omega)
      all_goals
       refine zcD (fun _ _ => ?_); refine za1 ?_; refine G.cond rfl (fun hc => ?_) (fun hc => ?_)
       · all_goals
          all_goals
           refine za9 ?_; refine zbg ?_
           exact G.retFV rfl rfl (congrArg (Value.int .i64) (idx_at ht hb hc).symm)
       · all_goals
          all_goals
           refine G.skip ?_; refine zaO ?_; refine G.backK (k + 1) 0 rfl (.cons rfl (.cons rfl (.cons rfl (.nil)))) ?_ ?_ ?_
           exact ⟨rfl, trivial⟩
           exact ⟨hlt, any_next ht hb hc⟩
           omega
   · all_goals
      replace hc := of_decide_eq_false hc
      try (exfalso; omega)
      all_goals
       refine zd0 ?_
       exact G.retFV rfl rfl (congrArg (Value.int .i64) (idx_none ht hlt).symm)
theorem containsType_any {g : Nat} [FnOk Tryz.prog g] {cap : List Value} {v : Value} {l : List TypeM} {p : TypeM → Bool} (w : World) (h : Rd w v 7 (l.map TypeM.cells)) (hf : ∀ (w' : World) (k : Nat) (b : TypeM), HeapOk w w' [] → l[k]? = some b → FnV Tryz.prog g ([.agg (TypeM.cells b).toArray] ++ cap) w' (.bool (p b))) :
    FnV Tryz.prog 174 [v, .func (.func g) #[] cap.toArray] w (.bool (l.any p)) := by
  refine FnV.of (n := 9) Tryz.func174 rfl rfl ?_; refine zaG ?_; refine zaM ?_; refine G.op (og_callV rfl rfl (fun w hh => indexType_any w (Rd.stays h _ hh) (fun w' k b hw hb => hf w' k b ((hh.call hw).none) hb))) rfl (fun _ _ => ?_); refine zd6 ?_; refine zcf ?_
  exact G.retFV rfl rfl (congrArg Value.bool (idx_any p l))

theorem indexItem_any {g : Nat} [FnOk Tryz.prog g] {cap : List Value} {v : Value} {l : List ItemM} {p : ItemM → Bool} (w : World) (h : Rd w v 7 (l.map ItemM.cells)) (hf : ∀ (w' : World) (k : Nat) (b : ItemM), HeapOk w w' [] → l[k]? = some b → FnV Tryz.prog g ([.agg (ItemM.cells b).toArray] ++ cap) w' (.bool (p b))) :
    FnV Tryz.prog 202 [v, .func (.func g) #[] cap.toArray] w (.int .i64 (idxM p l)) := by
  have hle := h.le_map
  have hln : (l.map ItemM.cells).length = l.length := by simp
  refine FnV.of (n := 19) Tryz.func202 rfl rfl ?_; refine zcd ?_; refine zeO ?_; refine G.loopK (ι := Nat) (ks := [0, 1, 7]) (fun k => [(8, .int .i64 k)]) (fun _ => []) (fun k => k ≤ l.length ∧ (l.take k).any p = false) (fun k => l.length - k) 0 (.cons rfl (.cons rfl (.cons rfl (.nil)))) rfl ?_ ?_ ?_
  exact ⟨Nat.zero_le _, rfl⟩
  exact ⟨rfl, trivial⟩
  rintro k ⟨hk, ht⟩
  by_cases hlt : k < l.length
  case' pos => (obtain ⟨b, hb⟩ := get_of_lt hlt; have he := get_map hb ItemM.cells)
  all_goals
   refine zbo ?_; refine G.cond rfl (fun hc => ?_) (fun hc => ?_)
   · all_goals
      replace hc := of_decide_eq_true hc
      try (exfalso; omega)
      all_goals
       refine zcD (fun _ _ => ?_); refine za1 ?_; refine G.cond rfl (fun hc => ?_) (fun hc => ?_)
       · all_goals
          all_goals
           refine za9 ?_; refine zbg ?_
           exact G.retFV rfl rfl (congrArg (Value.int .i64) (idx_at ht hb hc).symm)
       · all_goals
          all_goals
           refine G.skip ?_; refine zaO ?_; refine G.backK (k + 1) 0 rfl (.cons rfl (.cons rfl (.cons rfl (.nil)))) ?_ ?_ ?_
           exact ⟨rfl, trivial⟩
           exact ⟨hlt, any_next ht hb hc⟩
           omega
   · all_goals
      replace hc := of_decide_eq_false hc
      try (exfalso; omega)
      all_goals
       refine zd0 ?_
       exact G.retFV rfl rfl (congrArg (Value.int .i64) (idx_none ht hlt).symm)
theorem containsItem_any {g : Nat} [FnOk Tryz.prog g] {cap : List Value} {v : Value} {l : List ItemM} {p : ItemM → Bool} (w : World) (h : Rd w v 7 (l.map ItemM.cells)) (hf : ∀ (w' : World) (k : Nat) (b : ItemM), HeapOk w w' [] → l[k]? = some b → FnV Tryz.prog g ([.agg (ItemM.cells b).toArray] ++ cap) w' (.bool (p b))) :
    FnV Tryz.prog 140 [v, .func (.func g) #[] cap.toArray] w (.bool (l.any p)) := by
  refine FnV.of (n := 9) Tryz.func140 rfl rfl ?_; refine zaG ?_; refine zaM ?_; refine G.op (og_callV rfl rfl (fun w hh => indexItem_any w (Rd.stays h _ hh) (fun w' k b hw hb => hf w' k b ((hh.call hw).none) hb))) rfl (fun _ _ => ?_); refine zd6 ?_; refine zcf ?_
  exact G.retFV rfl rfl (congrArg Value.bool (idx_any p l))

theorem itemOk_any (x : ItemM) (w : World) : FnV Tryz.prog 225 [x.val] w (.bool (itemOkM x)) := by
  refine FnV.of (n := 36) Tryz.func225 rfl rfl ?_; refine zaJ (fun bk1 _ => ?_); refine zcQ ?_; refine zaZ (fun _ _ => ?_); refine zaC ?_
  (with_reducible refine G.gP rfl rfl (fun hg => ?_) (fun hg => ?_)) <;> (try exact Bool.noConfusion hg) <;> (first | (refine zaH ?_; (refine zaS ?_)) | refine zaF ?_)
  all_goals ((first | (refine zbW ?_) | refine zaF ?_))
  all_goals ((first | (refine zco (fun _ _ => ?_)) | refine zaF ?_))
  all_goals ((first | refine za3 ?_ | refine za4 ?_))
  all_goals (refine zaC ?_)
  all_goals (((with_reducible refine G.gP rfl rfl (fun hg => ?_) (fun hg => ?_)) <;> (try exact Bool.noConfusion hg) <;> (first | (refine zaH ?_; (refine zaS ?_)) | refine zaF ?_)))
  all_goals ((first | (refine zbW ?_) | refine zaF ?_))
  all_goals ((first | (refine zco (fun _ _ => ?_)) | refine zaF ?_))
  all_goals ((first | refine za3 ?_ | refine za4 ?_))
  all_goals (refine zaC ?_)
  all_goals (((with_reducible refine G.gP rfl rfl (fun hg => ?_) (fun hg => ?_)) <;> (try exact Bool.noConfusion hg) <;> (first | (refine zaH ?_; (refine zaS ?_)) | refine zaF ?_)))
  all_goals ((first | (refine zbW ?_) | refine zaF ?_))
  all_goals ((first | (refine zco (fun _ _ => ?_)) | refine zaF ?_))
  all_goals ((first | refine za3 ?_ | refine za4 ?_))
  all_goals (refine zaC ?_)
  all_goals (((with_reducible refine G.gP rfl rfl (fun hg => ?_) (fun hg => ?_)) <;> (try exact Bool.noConfusion hg) <;> (first | (refine zaH ?_; (refine zaS ?_)) | refine zaF ?_)))
  all_goals ((first | (refine zbW ?_) | refine zaF ?_))
  all_goals ((first | (refine zer (fun _ _ => ?_)) | refine zaF ?_))
  all_goals ((first | refine za3 ?_ | refine za4 ?_))
  all_goals (refine zaC ?_)
  all_goals (((with_reducible refine G.gP rfl rfl (fun hg => ?_) (fun hg => ?_)) <;> (try exact Bool.noConfusion hg) <;> (first | (refine zaH ?_; (refine zaS ?_)) | refine zaF ?_)))
  all_goals ((first | (refine zbW ?_) | refine zaF ?_))
  all_goals ((first | (refine zer (fun _ _ => ?_)) | refine zaF ?_))
  all_goals ((first | refine za3 ?_ | refine za4 ?_))
  all_goals (refine zaC ?_)
  all_goals (((with_reducible refine G.gP rfl rfl (fun hg => ?_) (fun hg => ?_)) <;> (try exact Bool.noConfusion hg) <;> (first | (refine zaH ?_; (refine zaS ?_)) | refine zaF ?_)))
  all_goals ((first | (refine zbW ?_) | refine zaF ?_))
  all_goals ((first | (refine zer (fun _ _ => ?_)) | refine zaF ?_))
  all_goals ((first | refine za3 ?_ | refine za4 ?_))
  all_goals (refine zcB ?_)
  all_goals
   refine zdj ?_; simp_all [itemOkM]
theorem sitemOk_any (x : ItemM) (w : World) : FnV Tryz.prog 150 [x.val] w (.bool (itemOkM x)) := by
  refine FnV.of (n := 36) Tryz.func150 rfl rfl ?_; refine zaJ (fun bk1 _ => ?_); refine zcQ ?_; refine G.op (og_callV rfl rfl (fun w _ => l2Id_any _ w)) rfl (fun _ _ => ?_); refine zaC ?_
  (with_reducible refine G.gP rfl rfl (fun hg => ?_) (fun hg => ?_)) <;> (try exact Bool.noConfusion hg) <;> (first | (refine zaH ?_; (refine zaS ?_)) | refine zaF ?_)
  all_goals ((first | (refine zbW ?_) | refine zaF ?_))
  all_goals ((first | (refine zcp (fun _ _ => ?_)) | refine zaF ?_))
  all_goals ((first | refine za3 ?_ | refine za4 ?_))
  all_goals (refine zaC ?_)
  all_goals (((with_reducible refine G.gP rfl rfl (fun hg => ?_) (fun hg => ?_)) <;> (try exact Bool.noConfusion hg) <;> (first | (refine zaH ?_; (refine zaS ?_)) | refine zaF ?_)))
  all_goals ((first | (refine zbW ?_) | refine zaF ?_))
  all_goals ((first | (refine zcp (fun _ _ => ?_)) | refine zaF ?_))
  all_goals ((first | refine za3 ?_ | refine za4 ?_))
  all_goals (refine zaC ?_)
  all_goals (((with_reducible refine G.gP rfl rfl (fun hg => ?_) (fun hg => ?_)) <;> (try exact Bool.noConfusion hg) <;> (first | (refine zaH ?_; (refine zaS ?_)) | refine zaF ?_)))
  all_goals ((first | (refine zbW ?_) | refine zaF ?_))
  all_goals ((first | (refine zcp (fun _ _ => ?_)) | refine zaF ?_))
  all_goals ((first | refine za3 ?_ | refine za4 ?_))
  all_goals (refine zaC ?_)
  all_goals (((with_reducible refine G.gP rfl rfl (fun hg => ?_) (fun hg => ?_)) <;> (try exact Bool.noConfusion hg) <;> (first | (refine zaH ?_; (refine zaS ?_)) | refine zaF ?_)))
  all_goals ((first | (refine zbW ?_) | refine zaF ?_))
  all_goals ((first | (refine ze6 (fun _ _ => ?_)) | refine zaF ?_))
  all_goals ((first | refine za3 ?_ | refine za4 ?_))
  all_goals (refine zaC ?_)
  all_goals (((with_reducible refine G.gP rfl rfl (fun hg => ?_) (fun hg => ?_)) <;> (try exact Bool.noConfusion hg) <;> (first | (refine zaH ?_; (refine zaS ?_)) | refine zaF ?_)))
  all_goals ((first | (refine zbW ?_) | refine zaF ?_))
  all_goals ((first | (refine ze6 (fun _ _ => ?_)) | refine zaF ?_))
  all_goals ((first | refine za3 ?_ | refine za4 ?_))
  all_goals (refine zaC ?_)
  all_goals (((with_reducible refine G.gP rfl rfl (fun hg => ?_) (fun hg => ?_)) <;> (try exact Bool.noConfusion hg) <;> (first | (refine zaH ?_; (refine zaS ?_)) | refine zaF ?_)))
  all_goals ((first | (refine zbW ?_) | refine zaF ?_))
  all_goals ((first | (refine ze6 (fun _ _ => ?_)) | refine zaF ?_))
  all_goals ((first | refine za3 ?_ | refine za4 ?_))
  all_goals (refine zcB ?_)
  all_goals
   refine zdj ?_; simp_all [itemOkM]
theorem typeOk_any (x : TypeM) (w : World) : FnV Tryz.prog 224 [x.val] w (.bool (typeOkM x)) := by
  refine FnV.of (n := 36) Tryz.func224 rfl rfl ?_; refine zaJ (fun bk1 _ => ?_); refine zcQ ?_; refine zaZ (fun _ _ => ?_); refine zaC ?_
  (with_reducible refine G.gP rfl rfl (fun hg => ?_) (fun hg => ?_)) <;> (try exact Bool.noConfusion hg) <;> (first | (refine zaH ?_; (refine zaS ?_)) | refine zaF ?_)
  all_goals ((first | (refine zbW ?_) | refine zaF ?_))
  all_goals ((first | (refine zco (fun _ _ => ?_)) | refine zaF ?_))
  all_goals ((first | refine za3 ?_ | refine za4 ?_))
  all_goals (refine zaC ?_)
  all_goals (((with_reducible refine G.gP rfl rfl (fun hg => ?_) (fun hg => ?_)) <;> (try exact Bool.noConfusion hg) <;> (first | (refine zaH ?_; (refine zaS ?_)) | refine zaF ?_)))
  all_goals ((first | (refine zbW ?_) | refine zaF ?_))
  all_goals ((first | (refine zco (fun _ _ => ?_)) | refine zaF ?_))
  all_goals ((first | refine za3 ?_ | refine za4 ?_))
  all_goals (refine zaC ?_)
  all_goals (((with_reducible refine G.gP rfl rfl (fun hg => ?_) (fun hg => ?_)) <;> (try exact Bool.noConfusion hg) <;> (first | (refine zaH ?_; (refine zaS ?_)) | refine zaF ?_)))
  all_goals ((first | (refine zbW ?_) | refine zaF ?_))
  all_goals ((first | (refine zco (fun _ _ => ?_)) | refine zaF ?_))
  all_goals ((first | refine za3 ?_ | refine za4 ?_))
  all_goals (refine zaC ?_)
  all_goals (((with_reducible refine G.gP rfl rfl (fun hg => ?_) (fun hg => ?_)) <;> (try exact Bool.noConfusion hg) <;> (first | (refine zaH ?_; (refine zaS ?_)) | refine zaF ?_)))
  all_goals ((first | (refine zbW ?_) | refine zaF ?_))
  all_goals ((first | (refine zer (fun _ _ => ?_)) | refine zaF ?_))
  all_goals ((first | refine za3 ?_ | refine za4 ?_))
  all_goals (refine zaC ?_)
  all_goals (((with_reducible refine G.gP rfl rfl (fun hg => ?_) (fun hg => ?_)) <;> (try exact Bool.noConfusion hg) <;> (first | (refine zaH ?_; (refine zaS ?_)) | refine zaF ?_)))
  all_goals ((first | (refine zbW ?_) | refine zaF ?_))
  all_goals ((first | (refine zer (fun _ _ => ?_)) | refine zaF ?_))
  all_goals ((first | refine za3 ?_ | refine za4 ?_))
  all_goals (refine zaC ?_)
  all_goals (((with_reducible refine G.gP rfl rfl (fun hg => ?_) (fun hg => ?_)) <;> (try exact Bool.noConfusion hg) <;> (first | (refine zaH ?_; (refine zaS ?_)) | refine zaF ?_)))
  all_goals ((first | (refine zbW ?_) | refine zaF ?_))
  all_goals ((first | (refine zer (fun _ _ => ?_)) | refine zaF ?_))
  all_goals ((first | refine za3 ?_ | refine za4 ?_))
  all_goals (refine zcB ?_)
  all_goals
   refine zdj ?_; simp_all [typeOkM]
theorem stypeOk_any (x : TypeM) (w : World) : FnV Tryz.prog 149 [x.val] w (.bool (typeOkM x)) := by
  refine FnV.of (n := 36) Tryz.func149 rfl rfl ?_; refine zaJ (fun bk1 _ => ?_); refine zcQ ?_; refine G.op (og_callV rfl rfl (fun w _ => l2Id_any _ w)) rfl (fun _ _ => ?_); refine zaC ?_
  (with_reducible refine G.gP rfl rfl (fun hg => ?_) (fun hg => ?_)) <;> (try exact Bool.noConfusion hg) <;> (first | (refine zaH ?_; (refine zaS ?_)) | refine zaF ?_)
  all_goals ((first | (refine zbW ?_) | refine zaF ?_))
  all_goals ((first | (refine zcp (fun _ _ => ?_)) | refine zaF ?_))
  all_goals ((first | refine za3 ?_ | refine za4 ?_))
  all_goals (refine zaC ?_)
  all_goals (((with_reducible refine G.gP rfl rfl (fun hg => ?_) (fun hg => ?_)) <;> (try exact Bool.noConfusion hg) <;> (first | (refine zaH ?_; (refine zaS ?_)) | refine zaF ?_)))
  all_goals ((first | (refine zbW ?_) | refine zaF ?_))
  all_goals ((first | (refine zcp (fun _ _ => ?_)) | refine zaF ?_))
  all_goals ((first | refine za3 ?_ | refine za4 ?_))
  all_goals (refine zaC ?_)
  all_goals (((with_reducible refine G.gP rfl rfl (fun hg => ?_) (fun hg => ?_)) <;> (try exact Bool.noConfusion hg) <;> (first | (refine zaH ?_; (refine zaS ?_)) | refine zaF ?_)))
  all_goals ((first | (refine zbW ?_) | refine zaF ?_))
  all_goals ((first | (refine zcp (fun _ _ => ?_)) | refine zaF ?_))
  all_goals ((first | refine za3 ?_ | refine za4 ?_))
  all_goals (refine zaC ?_)
  all_goals (((with_reducible refine G.gP rfl rfl (fun hg => ?_) (fun hg => ?_)) <;> (try exact Bool.noConfusion hg) <;> (first | (refine zaH ?_; (refine zaS ?_)) | refine zaF ?_)))
  all_goals ((first | (refine zbW ?_) | refine zaF ?_))
  all_goals ((first | (refine ze6 (fun _ _ => ?_)) | refine zaF ?_))
  all_goals ((first | refine za3 ?_ | refine za4 ?_))
  all_goals (refine zaC ?_)
  all_goals (((with_reducible refine G.gP rfl rfl (fun hg => ?_) (fun hg => ?_)) <;> (try exact Bool.noConfusion hg) <;> (first | (refine zaH ?_; (refine zaS ?_)) | refine zaF ?_)))
  all_goals ((first | (refine zbW ?_) | refine zaF ?_))
  all_goals ((first | (refine ze6 (fun _ _ => ?_)) | refine zaF ?_))
  all_goals ((first | refine za3 ?_ | refine za4 ?_))
  all_goals (refine zaC ?_)
  all_goals (((with_reducible refine G.gP rfl rfl (fun hg => ?_) (fun hg => ?_)) <;> (try exact Bool.noConfusion hg) <;> (first | (refine zaH ?_; (refine zaS ?_)) | refine zaF ?_)))
  all_goals ((first | (refine zbW ?_) | refine zaF ?_))
  all_goals ((first | (refine ze6 (fun _ _ => ?_)) | refine zaF ?_))
  all_goals ((first | refine za3 ?_ | refine za4 ?_))
  all_goals (refine zcB ?_)
  all_goals
   refine zdj ?_; simp_all [typeOkM]
end Go.Proofs.YtglpgohilfoecaaGreat
