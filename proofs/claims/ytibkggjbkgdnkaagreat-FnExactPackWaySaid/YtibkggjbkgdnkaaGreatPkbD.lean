/-
  Texts of this proof, one behind the other: MarkR, Facts, Grp1, Kinds, Kinds2, Kinds3, PresP, Pres, Grp2, Grp3, MarkSS, PutM, Push, Low1, Low2.
-/
import Derived.Test.YtibkggjbkgdnkaaGreatPkbB
import Derived.Test.YtibkggjbkgdnkaaGreatPkbA
import Derived.Test.YtibkggjbkgdnkaaGreatRows
import Derived.ProofKit
import Derived.JoinedOf
import Derived.Test.YtibkggjbkgdnkaaGreatPkbC

/-
  An order that is marked by numbers that go up.
-/
namespace Go.Proofs.YtibkggjbkgdnkaaGreat
open Go.RowKit
attribute [local irreducible] Go.wpList Go.Code.wp Go.Exit.then Go.Exit.inBlock Go.bodyPost Go.Calls pE pB G RunsV FnV Fn FnM
set_option maxRecDepth 100000
set_option maxHeartbeats 1000000
def mkPairM (k : Int) (_ : PairM) : PairM := ⟨k, k + 1⟩
def cntPairM (_ : PairM) : Nat := 2
theorem markPairS_any {w0 : World} {v : Value} {l : List PairM} {k : Int} (hk : 0 ≤ k) (hb : k + cntG cntPairM l ≤ 4611686018427387904) :
    FnM Tryz.prog 89 [v, .int .i64 k] w0 [.row v 145 2 (l.map PairM.cells)] (fun _ : Unit => True) (fun _ => .int .i64 (k + cntG cntPairM l)) (fun _ => [.row v 145 2 ((markG mkPairM cntPairM k l).map PairM.cells)]) := by
  refine FnM.of (n := 27) Tryz.func89 rfl rfl (fun F => ?_)
  refine G.know (fun w hw => (Rd.owned 0 rfl w hw).le_map) (fun hle => ?_)
  refine G.seq ?_
  refine G.region ?_
  refine G.v (rv_assign rfl) rfl ?_
  refine G.done ?_
  refine G.thenN ?_
  refine G.seq ?_
  refine G.seq ?_
  refine G.region ?_
  refine G.v (rv_assign rfl) rfl ?_
  refine G.done ?_
  refine G.thenN ?_
  refine G.block ?_
  -- loop 0: turned [1, 5], kept [0]
  refine G.loopK (ι := Nat) (ks := [0]) (fun i => [(1, .int .i64 (k + cntG cntPairM (l.take i))), (5, .int .i64 i)]) (fun i => [.row v 145 2 ((mixG mkPairM cntPairM k i l).map PairM.cells)]) (fun i => i ≤ l.length) (fun i => l.length - i) 0 (.cons rfl (.nil)) rfl ?_ ?_ ?_
  · exact Nat.zero_le _
  · exact ⟨congrArg (fun z => some (Value.int .i64 z)) (by simp [cntG]), rfl, trivial⟩
  rintro i hi
  have hml : (mixG mkPairM cntPairM k i l).length = l.length := mix_len
  have hcl : cntG cntPairM (l.take (i + 1)) ≤ cntG cntPairM l := cnt_le _
  by_cases hlt : i < l.length
  case' pos => (obtain ⟨x, hx⟩ := get_of_lt hlt; have he := get_map (mix_get (mk := mkPairM) (cnt := cntPairM) (k := k) hx) PairM.cells; have hcn : cntG cntPairM (l.take (i + 1)) = cntG cntPairM (l.take i) + 2 := cnt_next hx)
  case' neg => (have hal : cntG cntPairM (l.take i) = cntG cntPairM l := cnt_all hlt)
  all_goals
   refine G.seq ?_
   refine G.seq ?_
   refine G.region ?_
   refine G.v (rv_move rfl) rfl ?_
   refine G.v (rv_move rfl) rfl ?_
   refine G.v (rv_len rfl (by exact Rd.owned 0 rfl)) rfl ?_
   refine G.v (rv_lss rfl rfl) rfl ?_
   refine G.done ?_
   refine G.thenN ?_
   refine G.cond rfl (fun hc => ?_) (fun hc => ?_)
   · try exact Bool.noConfusion hc
     all_goals
      try replace hc := of_decide_eq_true hc
      try simp only [List.length_map, hml] at hc
      try (exfalso; omega)
      all_goals
       refine G.skip ?_
       refine G.thenN ?_
       refine G.seq ?_
       refine G.block ?_
       refine G.seq ?_
       refine G.region ?_
       refine G.v (rv_move rfl) rfl ?_
       refine G.v (rv_move rfl) rfl ?_
       refine G.v (rv_move rfl) rfl ?_
       (refine G.v (rv_indexH rfl rfl (by exact Rd.owned 0 rfl) rfl (by exact he)) rfl ?_)
       (refine G.v (rv_fieldE rfl) rfl ?_)
       refine G.op0 (og_stE0 rfl rfl rfl (by exact he) rfl rfl rfl rfl (.zero (.cons .nil))) (fun _ _ => ?_)
       refine G.done ?_
       refine G.thenN ?_
       refine G.seq ?_
       refine G.region ?_
       refine G.v (rv_move rfl) rfl ?_
       (refine G.v (rv_addB rfl rfl (by omega) (by omega)) rfl ?_)
       refine G.v (rv_assign rfl) rfl ?_
       refine G.done ?_
       refine G.thenN ?_
       refine G.seq ?_
       refine G.region ?_
       refine G.v (rv_move rfl) rfl ?_
       refine G.v (rv_move rfl) rfl ?_
       refine G.v (rv_move rfl) rfl ?_
       (refine G.v (rv_indexH rfl rfl (by exact Rd.owned 0 rfl) rfl (by exact get_set1 he)) rfl ?_)
       (refine G.v (rv_fieldE rfl) rfl ?_)
       refine G.op0 (og_stE0 rfl rfl rfl (by exact get_set1 he) rfl rfl rfl rfl (.succ (.zero (.cons .nil)))) (fun _ _ => ?_)
       refine G.done ?_
       refine G.thenN ?_
       refine G.region ?_
       refine G.v (rv_move rfl) rfl ?_
       (refine G.v (rv_addB rfl rfl (by omega) (by omega)) rfl ?_)
       refine G.v (rv_assign rfl) rfl ?_
       refine G.done ?_
       refine G.inN ?_
       refine G.thenN ?_
       refine G.region ?_
       refine G.v (rv_move rfl) rfl ?_
       (refine G.v (rv_incr rfl rfl (by omega)) rfl ?_)
       refine G.v (rv_assign rfl) rfl ?_
       refine G.done ?_
       (refine G.backK (i + 1) 0 (one_eq (congrArg (fun z => Ch.row v 145 2 z) (by rw [List.set_set]; exact mix_map hx))) (.cons rfl (.nil)) ?_ ?_ ?_)
       · exact ⟨congrArg (fun z => some (Value.int .i64 z)) (by omega), rfl, trivial⟩
       · exact hlt
       · omega
   · try exact Bool.noConfusion hc
     all_goals
      try replace hc := of_decide_eq_false hc
      try simp only [List.length_map, hml] at hc
      try (exfalso; omega)
      all_goals
       refine G.exit ?_
       refine G.thenX ?_
       refine G.thenX ?_
       refine G.inX ?_
       refine G.thenN ?_
       refine G.seq ?_
       refine G.region ?_
       refine G.v (rv_move rfl) rfl ?_
       refine G.v (rv_assign rfl) rfl ?_
       refine G.done ?_
       refine G.thenN ?_
       refine G.ret ?_
       exact G.retF () trivial rfl rfl (congrArg (Value.int .i64) (by rw [hal])) (fun w hw => by rw [mix_all hlt] at hw; exact hw)
def mkTypeM (k : Int) (_ : TypeM) : TypeM := ⟨k, k + 1, k + 1 + 1, k + 1 + 1 + 1, k + 1 + 1 + 1 + 1, k + 1 + 1 + 1 + 1 + 1, k + 1 + 1 + 1 + 1 + 1 + 1⟩
def cntTypeM (_ : TypeM) : Nat := 7
theorem markTypeS_any {w0 : World} {v : Value} {l : List TypeM} {k : Int} (hk : 0 ≤ k) (hb : k + cntG cntTypeM l ≤ 4611686018427387904) :
    FnM Tryz.prog 90 [v, .int .i64 k] w0 [.row v 82 7 (l.map TypeM.cells)] (fun _ : Unit => True) (fun _ => .int .i64 (k + cntG cntTypeM l)) (fun _ => [.row v 82 7 ((markG mkTypeM cntTypeM k l).map TypeM.cells)]) := by
  refine FnM.of (n := 62) Tryz.func90 rfl rfl (fun F => ?_)
  refine G.know (fun w hw => (Rd.owned 0 rfl w hw).le_map) (fun hle => ?_)
  refine G.seq ?_
  refine G.region ?_
  refine G.v (rv_assign rfl) rfl ?_
  refine G.done ?_
  refine G.thenN ?_
  refine G.seq ?_
  refine G.seq ?_
  refine G.region ?_
  refine G.v (rv_assign rfl) rfl ?_
  refine G.done ?_
  refine G.thenN ?_
  refine G.block ?_
  -- loop 0: turned [1, 5], kept [0]
  refine G.loopK (ι := Nat) (ks := [0]) (fun i => [(1, .int .i64 (k + cntG cntTypeM (l.take i))), (5, .int .i64 i)]) (fun i => [.row v 82 7 ((mixG mkTypeM cntTypeM k i l).map TypeM.cells)]) (fun i => i ≤ l.length) (fun i => l.length - i) 0 (.cons rfl (.nil)) rfl ?_ ?_ ?_
  · exact Nat.zero_le _
  · exact ⟨congrArg (fun z => some (Value.int .i64 z)) (by simp [cntG]), rfl, trivial⟩
  rintro i hi
  have hml : (mixG mkTypeM cntTypeM k i l).length = l.length := mix_len
  have hcl : cntG cntTypeM (l.take (i + 1)) ≤ cntG cntTypeM l := cnt_le _
  by_cases hlt : i < l.length
  case' pos => (obtain ⟨x, hx⟩ := get_of_lt hlt; have he := get_map (mix_get (mk := mkTypeM) (cnt := cntTypeM) (k := k) hx) TypeM.cells; have hcn : cntG cntTypeM (l.take (i + 1)) = cntG cntTypeM (l.take i) + 7 := cnt_next hx)
  case' neg => (have hal : cntG cntTypeM (l.take i) = cntG cntTypeM l := cnt_all hlt)
  all_goals
   refine G.seq ?_
   refine G.seq ?_
   refine G.region ?_
   refine G.v (rv_move rfl) rfl ?_
   refine G.v (rv_move rfl) rfl ?_
   refine G.v (rv_len rfl (by exact Rd.owned 0 rfl)) rfl ?_
   refine G.v (rv_lss rfl rfl) rfl ?_
   refine G.done ?_
   refine G.thenN ?_
   refine G.cond rfl (fun hc => ?_) (fun hc => ?_)
   · try exact Bool.noConfusion hc
     all_goals
      try replace hc := of_decide_eq_true hc
      try simp only [List.length_map, hml] at hc
      try (exfalso; omega)
      all_goals
       refine G.skip ?_
       refine G.thenN ?_
       refine G.seq ?_
       refine G.block ?_
       refine G.seq ?_
       refine G.region ?_
       refine G.v (rv_move rfl) rfl ?_
       refine G.v (rv_move rfl) rfl ?_
       refine G.v (rv_move rfl) rfl ?_
       (refine G.v (rv_indexH rfl rfl (by exact Rd.owned 0 rfl) rfl (by exact he)) rfl ?_)
       (refine G.v (rv_fieldE rfl) rfl ?_)
       refine G.op0 (og_stE0 rfl rfl rfl (by exact he) rfl rfl rfl rfl (.zero (.cons .nil))) (fun _ _ => ?_)
       refine G.done ?_
       refine G.thenN ?_
       refine G.seq ?_
       refine G.region ?_
       refine G.v (rv_move rfl) rfl ?_
       (refine G.v (rv_addB rfl rfl (by omega) (by omega)) rfl ?_)
       refine G.v (rv_assign rfl) rfl ?_
       refine G.done ?_
       refine G.thenN ?_
       refine G.seq ?_
       refine G.region ?_
       refine G.v (rv_move rfl) rfl ?_
       refine G.v (rv_move rfl) rfl ?_
       refine G.v (rv_move rfl) rfl ?_
       (refine G.v (rv_indexH rfl rfl (by exact Rd.owned 0 rfl) rfl (by exact get_set1 he)) rfl ?_)
       (refine G.v (rv_fieldE rfl) rfl ?_)
       refine G.op0 (og_stE0 rfl rfl rfl (by exact get_set1 he) rfl rfl rfl rfl (.succ (.zero (.cons .nil)))) (fun _ _ => ?_)
       refine G.done ?_
       refine G.thenN ?_
       refine G.seq ?_
       refine G.region ?_
       refine G.v (rv_move rfl) rfl ?_
       (refine G.v (rv_addB rfl rfl (by omega) (by omega)) rfl ?_)
       refine G.v (rv_assign rfl) rfl ?_
       refine G.done ?_
       refine G.thenN ?_
       refine G.seq ?_
       refine G.region ?_
       refine G.v (rv_move rfl) rfl ?_
       refine G.v (rv_move rfl) rfl ?_
       refine G.v (rv_move rfl) rfl ?_
       (refine G.v (rv_indexH rfl rfl (by exact Rd.owned 0 rfl) rfl (by exact get_set1 (get_set1 he))) rfl ?_)
       (refine G.v (rv_fieldE rfl) rfl ?_)
       refine G.op0 (og_stE0 rfl rfl rfl (by exact get_set1 (get_set1 he)) rfl rfl rfl rfl (.succ (.succ (.zero (.cons .nil))))) (fun _ _ => ?_)
       refine G.done ?_
       refine G.thenN ?_
       refine G.seq ?_
       refine G.region ?_
       refine G.v (rv_move rfl) rfl ?_
       (refine G.v (rv_addB rfl rfl (by omega) (by omega)) rfl ?_)
       refine G.v (rv_assign rfl) rfl ?_
       refine G.done ?_
       refine G.thenN ?_
       refine G.seq ?_
       refine G.region ?_
       refine G.v (rv_move rfl) rfl ?_
       refine G.v (rv_move rfl) rfl ?_
       refine G.v (rv_move rfl) rfl ?_
       (refine G.v (rv_indexH rfl rfl (by exact Rd.owned 0 rfl) rfl (by exact get_set1 (get_set1 (get_set1 he)))) rfl ?_)
       (refine G.v (rv_fieldE rfl) rfl ?_)
       refine G.op0 (og_stE0 rfl rfl rfl (by exact get_set1 (get_set1 (get_set1 he))) rfl rfl rfl rfl (.succ (.succ (.succ (.zero (.cons .nil)))))) (fun _ _ => ?_)
       refine G.done ?_
       refine G.thenN ?_
       refine G.seq ?_
       refine G.region ?_
       refine G.v (rv_move rfl) rfl ?_
       (refine G.v (rv_addB rfl rfl (by omega) (by omega)) rfl ?_)
       refine G.v (rv_assign rfl) rfl ?_
       refine G.done ?_
       refine G.thenN ?_
       refine G.seq ?_
       refine G.region ?_
       refine G.v (rv_move rfl) rfl ?_
       refine G.v (rv_move rfl) rfl ?_
       refine G.v (rv_move rfl) rfl ?_
       (refine G.v (rv_indexH rfl rfl (by exact Rd.owned 0 rfl) rfl (by exact get_set1 (get_set1 (get_set1 (get_set1 he))))) rfl ?_)
       (refine G.v (rv_fieldE rfl) rfl ?_)
       refine G.op0 (og_stE0 rfl rfl rfl (by exact get_set1 (get_set1 (get_set1 (get_set1 he)))) rfl rfl rfl rfl (.succ (.succ (.succ (.succ (.zero (.cons .nil))))))) (fun _ _ => ?_)
       refine G.done ?_
       refine G.thenN ?_
       refine G.seq ?_
       refine G.region ?_
       refine G.v (rv_move rfl) rfl ?_
       (refine G.v (rv_addB rfl rfl (by omega) (by omega)) rfl ?_)
       refine G.v (rv_assign rfl) rfl ?_
       refine G.done ?_
       refine G.thenN ?_
       refine G.seq ?_
       refine G.region ?_
       refine G.v (rv_move rfl) rfl ?_
       refine G.v (rv_move rfl) rfl ?_
       refine G.v (rv_move rfl) rfl ?_
       (refine G.v (rv_indexH rfl rfl (by exact Rd.owned 0 rfl) rfl (by exact get_set1 (get_set1 (get_set1 (get_set1 (get_set1 he)))))) rfl ?_)
       (refine G.v (rv_fieldE rfl) rfl ?_)
       refine G.op0 (og_stE0 rfl rfl rfl (by exact get_set1 (get_set1 (get_set1 (get_set1 (get_set1 he))))) rfl rfl rfl rfl (.succ (.succ (.succ (.succ (.succ (.zero (.cons .nil)))))))) (fun _ _ => ?_)
       refine G.done ?_
       refine G.thenN ?_
       refine G.seq ?_
       refine G.region ?_
       refine G.v (rv_move rfl) rfl ?_
       (refine G.v (rv_addB rfl rfl (by omega) (by omega)) rfl ?_)
       refine G.v (rv_assign rfl) rfl ?_
       refine G.done ?_
       refine G.thenN ?_
       refine G.seq ?_
       refine G.region ?_
       refine G.v (rv_move rfl) rfl ?_
       refine G.v (rv_move rfl) rfl ?_
       refine G.v (rv_move rfl) rfl ?_
       (refine G.v (rv_indexH rfl rfl (by exact Rd.owned 0 rfl) rfl (by exact get_set1 (get_set1 (get_set1 (get_set1 (get_set1 (get_set1 he))))))) rfl ?_)
       (refine G.v (rv_fieldE rfl) rfl ?_)
       refine G.op0 (og_stE0 rfl rfl rfl (by exact get_set1 (get_set1 (get_set1 (get_set1 (get_set1 (get_set1 he)))))) rfl rfl rfl rfl (.succ (.succ (.succ (.succ (.succ (.succ (.zero (.cons .nil))))))))) (fun _ _ => ?_)
       refine G.done ?_
       refine G.thenN ?_
       refine G.region ?_
       refine G.v (rv_move rfl) rfl ?_
       (refine G.v (rv_addB rfl rfl (by omega) (by omega)) rfl ?_)
       refine G.v (rv_assign rfl) rfl ?_
       refine G.done ?_
       refine G.inN ?_
       refine G.thenN ?_
       refine G.region ?_
       refine G.v (rv_move rfl) rfl ?_
       (refine G.v (rv_incr rfl rfl (by omega)) rfl ?_)
       refine G.v (rv_assign rfl) rfl ?_
       refine G.done ?_
       (refine G.backK (i + 1) 0 (one_eq (congrArg (fun z => Ch.row v 82 7 z) (by rw [List.set_set, List.set_set, List.set_set, List.set_set, List.set_set, List.set_set]; exact mix_map hx))) (.cons rfl (.nil)) ?_ ?_ ?_)
       · exact ⟨congrArg (fun z => some (Value.int .i64 z)) (by omega), rfl, trivial⟩
       · exact hlt
       · omega
   · try exact Bool.noConfusion hc
     all_goals
      try replace hc := of_decide_eq_false hc
      try simp only [List.length_map, hml] at hc
      try (exfalso; omega)
      all_goals
       refine G.exit ?_
       refine G.thenX ?_
       refine G.thenX ?_
       refine G.inX ?_
       refine G.thenN ?_
       refine G.seq ?_
       refine G.region ?_
       refine G.v (rv_move rfl) rfl ?_
       refine G.v (rv_assign rfl) rfl ?_
       refine G.done ?_
       refine G.thenN ?_
       refine G.ret ?_
       exact G.retF () trivial rfl rfl (congrArg (Value.int .i64) (by rw [hal])) (fun w hw => by rw [mix_all hlt] at hw; exact hw)
def mkItemM (k : Int) (_ : ItemM) : ItemM := ⟨k, k + 1, k + 1 + 1, k + 1 + 1 + 1, k + 1 + 1 + 1 + 1, k + 1 + 1 + 1 + 1 + 1, k + 1 + 1 + 1 + 1 + 1 + 1⟩
def cntItemM (_ : ItemM) : Nat := 7
theorem markItemS_any {w0 : World} {v : Value} {l : List ItemM} {k : Int} (hk : 0 ≤ k) (hb : k + cntG cntItemM l ≤ 4611686018427387904) :
    FnM Tryz.prog 91 [v, .int .i64 k] w0 [.row v 106 7 (l.map ItemM.cells)] (fun _ : Unit => True) (fun _ => .int .i64 (k + cntG cntItemM l)) (fun _ => [.row v 106 7 ((markG mkItemM cntItemM k l).map ItemM.cells)]) := by
  refine FnM.of (n := 62) Tryz.func91 rfl rfl (fun F => ?_)
  refine G.know (fun w hw => (Rd.owned 0 rfl w hw).le_map) (fun hle => ?_)
  refine G.seq ?_
  refine G.region ?_
  refine G.v (rv_assign rfl) rfl ?_
  refine G.done ?_
  refine G.thenN ?_
  refine G.seq ?_
  refine G.seq ?_
  refine G.region ?_
  refine G.v (rv_assign rfl) rfl ?_
  refine G.done ?_
  refine G.thenN ?_
  refine G.block ?_
  -- loop 0: turned [1, 5], kept [0]
  refine G.loopK (ι := Nat) (ks := [0]) (fun i => [(1, .int .i64 (k + cntG cntItemM (l.take i))), (5, .int .i64 i)]) (fun i => [.row v 106 7 ((mixG mkItemM cntItemM k i l).map ItemM.cells)]) (fun i => i ≤ l.length) (fun i => l.length - i) 0 (.cons rfl (.nil)) rfl ?_ ?_ ?_
  · exact Nat.zero_le _
  · exact ⟨congrArg (fun z => some (Value.int .i64 z)) (by simp [cntG]), rfl, trivial⟩
  rintro i hi
  have hml : (mixG mkItemM cntItemM k i l).length = l.length := mix_len
  have hcl : cntG cntItemM (l.take (i + 1)) ≤ cntG cntItemM l := cnt_le _
  by_cases hlt : i < l.length
  case' pos => (obtain ⟨x, hx⟩ := get_of_lt hlt; have he := get_map (mix_get (mk := mkItemM) (cnt := cntItemM) (k := k) hx) ItemM.cells; have hcn : cntG cntItemM (l.take (i + 1)) = cntG cntItemM (l.take i) + 7 := cnt_next hx)
  case' neg => (have hal : cntG cntItemM (l.take i) = cntG cntItemM l := cnt_all hlt)
  all_goals
   refine G.seq ?_
   refine G.seq ?_
   refine G.region ?_
   refine G.v (rv_move rfl) rfl ?_
   refine G.v (rv_move rfl) rfl ?_
   refine G.v (rv_len rfl (by exact Rd.owned 0 rfl)) rfl ?_
   refine G.v (rv_lss rfl rfl) rfl ?_
   refine G.done ?_
   refine G.thenN ?_
   refine G.cond rfl (fun hc => ?_) (fun hc => ?_)
   · try exact Bool.noConfusion hc
     all_goals
      try replace hc := of_decide_eq_true hc
      try simp only [List.length_map, hml] at hc
      try (exfalso; omega)
      all_goals
       refine G.skip ?_
       refine G.thenN ?_
       refine G.seq ?_
       refine G.block ?_
       refine G.seq ?_
       refine G.region ?_
       refine G.v (rv_move rfl) rfl ?_
       refine G.v (rv_move rfl) rfl ?_
       refine G.v (rv_move rfl) rfl ?_
       (refine G.v (rv_indexH rfl rfl (by exact Rd.owned 0 rfl) rfl (by exact he)) rfl ?_)
       (refine G.v (rv_fieldE rfl) rfl ?_)
       refine G.op0 (og_stE0 rfl rfl rfl (by exact he) rfl rfl rfl rfl (.zero (.cons .nil))) (fun _ _ => ?_)
       refine G.done ?_
       refine G.thenN ?_
       refine G.seq ?_
       refine G.region ?_
       refine G.v (rv_move rfl) rfl ?_
       (refine G.v (rv_addB rfl rfl (by omega) (by omega)) rfl ?_)
       refine G.v (rv_assign rfl) rfl ?_
       refine G.done ?_
       refine G.thenN ?_
       refine G.seq ?_
       refine G.region ?_
       refine G.v (rv_move rfl) rfl ?_
       refine G.v (rv_move rfl) rfl ?_
       refine G.v (rv_move rfl) rfl ?_
       (refine G.v (rv_indexH rfl rfl (by exact Rd.owned 0 rfl) rfl (by exact get_set1 he)) rfl ?_)
       (refine G.v (rv_fieldE rfl) rfl ?_)
       refine G.op0 (og_stE0 rfl rfl rfl (by exact get_set1 he) rfl rfl rfl rfl (.succ (.zero (.cons .nil)))) (fun _ _ => ?_)
       refine G.done ?_
       refine G.thenN ?_
       refine G.seq ?_
       refine G.region ?_
       refine G.v (rv_move rfl) rfl ?_
       (refine G.v (rv_addB rfl rfl (by omega) (by omega)) rfl ?_)
       refine G.v (rv_assign rfl) rfl ?_
       refine G.done ?_
       refine G.thenN ?_
       refine G.seq ?_
       refine G.region ?_
       refine G.v (rv_move rfl) rfl ?_
       refine G.v (rv_move rfl) rfl ?_
       refine G.v (rv_move rfl) rfl ?_
       (refine G.v (rv_indexH rfl rfl (by exact Rd.owned 0 rfl) rfl (by exact get_set1 (get_set1 he))) rfl ?_)
       (refine G.v (rv_fieldE rfl) rfl ?_)
       refine G.op0 (og_stE0 rfl rfl rfl (by exact get_set1 (get_set1 he)) rfl rfl rfl rfl (.succ (.succ (.zero (.cons .nil))))) (fun _ _ => ?_)
       refine G.done ?_
       refine G.thenN ?_
       refine G.seq ?_
       refine G.region ?_
       refine G.v (rv_move rfl) rfl ?_
       (refine G.v (rv_addB rfl rfl (by omega) (by omega)) rfl ?_)
       refine G.v (rv_assign rfl) rfl ?_
       refine G.done ?_
       refine G.thenN ?_
       refine G.seq ?_
       refine G.region ?_
       refine G.v (rv_move rfl) rfl ?_
       refine G.v (rv_move rfl) rfl ?_
       refine G.v (rv_move rfl) rfl ?_
       (refine G.v (rv_indexH rfl rfl (by exact Rd.owned 0 rfl) rfl (by exact get_set1 (get_set1 (get_set1 he)))) rfl ?_)
       (refine G.v (rv_fieldE rfl) rfl ?_)
       refine G.op0 (og_stE0 rfl rfl rfl (by exact get_set1 (get_set1 (get_set1 he))) rfl rfl rfl rfl (.succ (.succ (.succ (.zero (.cons .nil)))))) (fun _ _ => ?_)
       refine G.done ?_
       refine G.thenN ?_
       refine G.seq ?_
       refine G.region ?_
       refine G.v (rv_move rfl) rfl ?_
       (refine G.v (rv_addB rfl rfl (by omega) (by omega)) rfl ?_)
       refine G.v (rv_assign rfl) rfl ?_
       refine G.done ?_
       refine G.thenN ?_
       refine G.seq ?_
       refine G.region ?_
       refine G.v (rv_move rfl) rfl ?_
       refine G.v (rv_move rfl) rfl ?_
       refine G.v (rv_move rfl) rfl ?_
       (refine G.v (rv_indexH rfl rfl (by exact Rd.owned 0 rfl) rfl (by exact get_set1 (get_set1 (get_set1 (get_set1 he))))) rfl ?_)
       (refine G.v (rv_fieldE rfl) rfl ?_)
       refine G.op0 (og_stE0 rfl rfl rfl (by exact get_set1 (get_set1 (get_set1 (get_set1 he)))) rfl rfl rfl rfl (.succ (.succ (.succ (.succ (.zero (.cons .nil))))))) (fun _ _ => ?_)
       refine G.done ?_
       refine G.thenN ?_
       refine G.seq ?_
       refine G.region ?_
       refine G.v (rv_move rfl) rfl ?_
       (refine G.v (rv_addB rfl rfl (by omega) (by omega)) rfl ?_)
       refine G.v (rv_assign rfl) rfl ?_
       refine G.done ?_
       refine G.thenN ?_
       refine G.seq ?_
       refine G.region ?_
       refine G.v (rv_move rfl) rfl ?_
       refine G.v (rv_move rfl) rfl ?_
       refine G.v (rv_move rfl) rfl ?_
       (refine G.v (rv_indexH rfl rfl (by exact Rd.owned 0 rfl) rfl (by exact get_set1 (get_set1 (get_set1 (get_set1 (get_set1 he)))))) rfl ?_)
       (refine G.v (rv_fieldE rfl) rfl ?_)
       refine G.op0 (og_stE0 rfl rfl rfl (by exact get_set1 (get_set1 (get_set1 (get_set1 (get_set1 he))))) rfl rfl rfl rfl (.succ (.succ (.succ (.succ (.succ (.zero (.cons .nil)))))))) (fun _ _ => ?_)
       refine G.done ?_
       refine G.thenN ?_
       refine G.seq ?_
       refine G.region ?_
       refine G.v (rv_move rfl) rfl ?_
       (refine G.v (rv_addB rfl rfl (by omega) (by omega)) rfl ?_)
       refine G.v (rv_assign rfl) rfl ?_
       refine G.done ?_
       refine G.thenN ?_
       refine G.seq ?_
       refine G.region ?_
       refine G.v (rv_move rfl) rfl ?_
       refine G.v (rv_move rfl) rfl ?_
       refine G.v (rv_move rfl) rfl ?_
       (refine G.v (rv_indexH rfl rfl (by exact Rd.owned 0 rfl) rfl (by exact get_set1 (get_set1 (get_set1 (get_set1 (get_set1 (get_set1 he))))))) rfl ?_)
       (refine G.v (rv_fieldE rfl) rfl ?_)
       refine G.op0 (og_stE0 rfl rfl rfl (by exact get_set1 (get_set1 (get_set1 (get_set1 (get_set1 (get_set1 he)))))) rfl rfl rfl rfl (.succ (.succ (.succ (.succ (.succ (.succ (.zero (.cons .nil))))))))) (fun _ _ => ?_)
       refine G.done ?_
       refine G.thenN ?_
       refine G.region ?_
       refine G.v (rv_move rfl) rfl ?_
       (refine G.v (rv_addB rfl rfl (by omega) (by omega)) rfl ?_)
       refine G.v (rv_assign rfl) rfl ?_
       refine G.done ?_
       refine G.inN ?_
       refine G.thenN ?_
       refine G.region ?_
       refine G.v (rv_move rfl) rfl ?_
       (refine G.v (rv_incr rfl rfl (by omega)) rfl ?_)
       refine G.v (rv_assign rfl) rfl ?_
       refine G.done ?_
       (refine G.backK (i + 1) 0 (one_eq (congrArg (fun z => Ch.row v 106 7 z) (by rw [List.set_set, List.set_set, List.set_set, List.set_set, List.set_set, List.set_set]; exact mix_map hx))) (.cons rfl (.nil)) ?_ ?_ ?_)
       · exact ⟨congrArg (fun z => some (Value.int .i64 z)) (by omega), rfl, trivial⟩
       · exact hlt
       · omega
   · try exact Bool.noConfusion hc
     all_goals
      try replace hc := of_decide_eq_false hc
      try simp only [List.length_map, hml] at hc
      try (exfalso; omega)
      all_goals
       refine G.exit ?_
       refine G.thenX ?_
       refine G.thenX ?_
       refine G.inX ?_
       refine G.thenN ?_
       refine G.seq ?_
       refine G.region ?_
       refine G.v (rv_move rfl) rfl ?_
       refine G.v (rv_assign rfl) rfl ?_
       refine G.done ?_
       refine G.thenN ?_
       refine G.ret ?_
       exact G.retF () trivial rfl rfl (congrArg (Value.int .i64) (by rw [hal])) (fun w hw => by rw [mix_all hlt] at hw; exact hw)
def cntR (r : ReqM) : Nat := cntG cntPairM r.pairs + cntG cntTypeM r.types + cntG cntItemM r.items
theorem cntR_in {r : ReqM} : cntR r ≤ 7 * reqN r := by
  have h1 := cnt_const (cnt := cntPairM) (m := 2) (fun _ => rfl) r.pairs
  have h2 := cnt_const (cnt := cntTypeM) (m := 7) (fun _ => rfl) r.types
  have h3 := cnt_const (cnt := cntItemM) (m := 7) (fun _ => rfl) r.items
  simp only [cntR, reqN]; omega
def mkR (k : Int) (r : ReqM) : ReqM := { r with pairs := markG mkPairM cntPairM k r.pairs, types := markG mkTypeM cntTypeM (k + cntG cntPairM r.pairs) r.types, items := markG mkItemM cntItemM (k + cntG cntPairM r.pairs + cntG cntTypeM r.types) r.items }
theorem markRequest_any {w0 : World} {r : ReqM} {pv tv iv : Value} {k : Int} (hk : 0 ≤ k) (hb : k + cntR r ≤ 4611686018427387904) :
    FnM Tryz.prog 24 [.agg (r.cells pv tv iv).toArray, .int .i64 k] w0 [.row iv 106 7 (r.items.map ItemM.cells), .row tv 82 7 (r.types.map TypeM.cells), .row pv 145 2 (r.pairs.map PairM.cells)] (fun _ : Unit => True) (fun _ => .int .i64 (k + cntR r))
      (fun _ => [.row iv 106 7 ((mkR k r).items.map ItemM.cells), .row tv 82 7 ((mkR k r).types.map TypeM.cells), .row pv 145 2 ((mkR k r).pairs.map PairM.cells)]) := by
  refine FnM.of (n := 18) Tryz.func24 rfl rfl (fun F => ?_)
  simp only [cntR] at hb
  refine G.seq ?_
  refine G.region ?_
  refine G.op (og_box rfl rfl) rfl (fun bk2 _ => ?_)
  refine G.v (rv_assign rfl) rfl ?_
  refine G.done ?_
  refine G.thenN ?_
  refine G.seq ?_
  refine G.region ?_
  (refine G.v (rv_field rfl) rfl ?_)
  (refine G.v (rv_load1 0 rfl rfl rfl) rfl ?_)
  refine G.v (rv_move rfl) rfl ?_
  ((refine G.frontR3 (pv) rfl ?_); refine G.op (og_callMM1 rfl rfl rfl (markPairS_any (l := r.pairs) hk (by omega)).toF) rfl ?_; rintro ⟨⟩ _; try dsimp only)
  refine G.v (rv_assign rfl) rfl ?_
  refine G.done ?_
  refine G.thenN ?_
  refine G.seq ?_
  refine G.region ?_
  (refine G.v (rv_field rfl) rfl ?_)
  (refine G.v (rv_load1 1 rfl rfl rfl) rfl ?_)
  refine G.v (rv_move rfl) rfl ?_
  ((refine G.frontR3 (tv) rfl ?_); refine G.op (og_callMM1 rfl rfl rfl (markTypeS_any (l := r.types) (by omega) (by omega)).toF) rfl ?_; rintro ⟨⟩ _; try dsimp only)
  refine G.v (rv_assign rfl) rfl ?_
  refine G.done ?_
  refine G.thenN ?_
  refine G.seq ?_
  refine G.region ?_
  (refine G.v (rv_field rfl) rfl ?_)
  (refine G.v (rv_load1 2 rfl rfl rfl) rfl ?_)
  refine G.v (rv_move rfl) rfl ?_
  ((refine G.frontR3 (iv) rfl ?_); refine G.op (og_callMM1 rfl rfl rfl (markItemS_any (l := r.items) (by omega) (by omega)).toF) rfl ?_; rintro ⟨⟩ _; try dsimp only)
  refine G.v (rv_assign rfl) rfl ?_
  refine G.done ?_
  refine G.thenN ?_
  refine G.seq ?_
  refine G.region ?_
  refine G.v (rv_move rfl) rfl ?_
  refine G.v (rv_assign rfl) rfl ?_
  refine G.done ?_
  refine G.thenN ?_
  refine G.ret ?_
  exact G.retF () trivial rfl rfl (congrArg (Value.int .i64) (by simp only [cntR]; omega)) (fun w hw => hw.sublist (by repeat (first | exact List.Sublist.refl _ | refine List.Sublist.cons_cons _ ?_ | refine List.Sublist.cons _ ?_)))
end Go.Proofs.YtibkggjbkgdnkaaGreat

/-
  What hangs on the program alone, of what is asked of a law's row.
-/
namespace Go.Proofs.YtibkggjbkgdnkaaGreat
theorem both {a b : Bool} (h : a = true) (k : b = true) : (a && b) = true := by rw [h, k]; rfl
theorem pfLaid : laidOutB Tryz.prog = true := by kernel_rfl
theorem pfMaps : mapsRowed Tryz.prog = true := by kernel_rfl
theorem pfStops : (Tryz.prog.stops == []) = true := by kernel_rfl
theorem pfKnobs : (Tryz.prog.stopKnobs == []) = true := by kernel_rfl
theorem pfHeard : Tryz.prog.stopsHeard = true := by kernel_rfl
theorem pfEnter : Tryz.prog.mayEnter = true := by kernel_rfl
theorem pfLift : Tryz.prog.liftsFinal = false := by kernel_rfl
end Go.Proofs.YtibkggjbkgdnkaaGreat

/-
  Kinds that lie in a group; the kinds that are there.
-/
namespace Go.Proofs.YtibkggjbkgdnkaaGreat
open Go.RowKit
attribute [local irreducible] Go.wpList Go.Code.wp Go.Exit.then Go.Exit.inBlock Go.bodyPost Go.Calls pE pB G RunsV FnV Fn FnM
set_option maxRecDepth 100000
set_option maxHeartbeats 4000000
def mutM (ps : List PairM) (a b : Int) : Bool := besideM ps a b && besideM ps b a
def hasM (l : List Int) (x : Int) : Bool := l.any fun y => decide (y = x)
/-- Whether a kind may lie beside all of a group. -/
def joinsM (ps : List PairM) (g : List Int) (x : Int) : Bool := g.all fun y => mutM ps x y
def kindHere (r : ReqM) (c : Nat) : Bool := r.items.any fun x => decide (x.cls = (c : Int))
def presL (r : ReqM) (n : Nat) : List Nat := (List.range n).filter (kindHere r)
/-- The kinds that are there. -/
def presM (r : ReqM) : List Nat := if classM r = 0 then presL r 4 else []
end Go.Proofs.YtibkggjbkgdnkaaGreat

/-
  Owned slices that are cut short, and cleared.
-/
namespace Go.Proofs.YtibkggjbkgdnkaaGreat
open Go.RowKit
section
variable {P : Program} {n : Nat} {w0 : World} {fr : Fr} {H : List Ch}
theorem sub_head {g m cap s k : Nat} : subV (.slice (some ⟨g, 0, none⟩) m cap) s 0 k = .slice (some ⟨g, 0, none⟩) k cap := by simp [subV, sliced, Addr.add_lit]
theorem HeapOk.cutRow {w : World} {v : Value} {t : TypeId} {s : Nat} {es : List (List Value)} (h : HeapOk w0 w (.row v t s es :: H)) (k : Nat) (hk : k ≤ es.length) : HeapOk w0 w (.row (subV v s 0 k) t s (es.take k) :: H) := by
  obtain ⟨hrow, hgood⟩ := h.ok _ (List.mem_cons_self)
  have hlen := fun e he => (hgood e he).1
  have hkl : (es.take k).length = k := by rw [List.length_take]; omega
  have hf : (es.take k).flatten = es.flatten.take (k * s) := take_flat k hlen
  have hks : k * s ≤ es.length * s := Nat.mul_le_mul_right s hk
  have hfl := flatten_len hlen
  have hp := List.pairwise_cons.1 h.ap
  rcases hrow.2 with ⟨rfl, hn⟩ | ⟨g, cap, cur, rfl, hB, hg, hle, hcm, hsz, htk⟩
  · obtain rfl : k = 0 := by omega
    have e0 : es = [] := List.eq_nil_of_length_eq_zero hn
    subst e0
    exact h
  · rw [sub_head]
    refine ⟨h.below, fun c hc => ?_, List.pairwise_cons.2 ⟨fun d hd q hq => hp.1 d hd q hq, hp.2⟩⟩
    rcases List.mem_cons.1 hc with rfl | hc
    · refine ⟨⟨?_, .inr ⟨g, cap, cur, by rw [hkl], hB, hg, by rw [hkl]; omega, hcm, hsz, ?_⟩⟩, fun e he => hgood e (List.mem_of_mem_take he)⟩
      · rw [hkl, hf, List.length_take, hfl]; omega
      · rw [hkl, hf, ← htk, List.take_take, Nat.min_eq_left hks]
    · exact h.ok c (List.mem_cons_of_mem _ hc)
theorem G.cutRow {F : List Ch} {v : Value} {t : TypeId} {s : Nat} {es : List (List Value)} (k : Nat) {K : Act → World → Prop} (hk : k ≤ es.length) (hH : H = .row v t s es :: F) (h : G n w0 fr (.row (subV v s 0 k) t s (es.take k) :: F) K) : G n w0 fr H K :=
  G.heap (fun w hh => by subst hH; exact hh.cutRow k hk) h
theorem og_clear0 {x : Operand} {t e : TypeId} {bs : Nat} {z0 : Value} [hT : TySlice P t e] [hI : TyInfo P e 1 [z0] bs] {F : List Ch} {v dst : Value} {es : List (List Value)} (p : Nat)
    (hx : opv fr x = some dst) (hH : H = .row v e 1 es :: F) (hd : dst = subV v 1 p es.length) (hp : p < es.length) (hz1 : z0.oneCell' = true) :
    OpG P n w0 fr H (.call ⟨.builtin .clear, #[x], #[t]⟩) Triv (fun _ : Unit => .tuple #[]) (fun _ => .row v e 1 (es.take p ++ List.replicate (es.length - p) [z0]) :: F) :=
  fun a w hr hh d T pos af gd K hK => by
    subst hH
    obtain ⟨hrow, hgood⟩ := hh.ok _ (List.mem_cons_self)
    have hlen := fun e he => (hgood e he).1
    have hfl := flatten_len hlen
    obtain ⟨ii, zz, g1, g2, g3, g4, g5⟩ := hI.get
    rcases hrow.2 with ⟨rfl, hn⟩ | ⟨g, cap, cur, rfl, hB, hg, hle, hcm, hsz, htk⟩
    · omega
    · have hd' : dst = .slice (some ⟨g, p, none⟩) (es.length - p) (cap - p) := by
        rw [hd]
        simp only [subV, sliced, if_neg (show ¬ cap = p by omega), Option.map_some, Addr.add_lit, Nat.zero_add, Nat.mul_one]
      subst hd'
      obtain ⟨q, hq⟩ : ∃ q, es.length - p = q + 1 := ⟨es.length - p - 1, by omega⟩
      have hzc : (Builtin.zeroCells #[z0] (es.length - p)).toList = List.replicate (es.length - p) z0 := by
        apply List.ext_getElem
        · simp [Builtin.zeroCells]
        · intro j h1 h2
          simp [Builtin.zeroCells, Nat.mod_one]
      have hst := run_storeCells_at P g p e (List.replicate (es.length - p) z0) 0 cur w hg (by simp; omega) (fun u hu => by rw [(List.mem_replicate.1 hu).2]; exact hz1)
      simp only [Nat.add_zero, List.length_replicate] at hst
      have hrun : (execOp a.eval ⟨d, .call ⟨.builtin .clear, #[x], #[t]⟩, T, pos, af, gd⟩).run P w = .ok (.value (.tuple #[])) (w.setRow g (cur.toList.take p ++ List.replicate (es.length - p) z0 ++ cur.toList.drop (p + (es.length - p))).toArray) := by
        have hz : (Builtin.clear_ #[t] T #[.slice (some ⟨g, p, none⟩) (es.length - p) (cap - p)]).run P w = .ok (.tuple #[]) (w.setRow g (cur.toList.take p ++ List.replicate (es.length - p) z0 ++ cur.toList.drop (p + (es.length - p))).toArray) := by
          rw [hq] at hst hzc ⊢
          simp [Builtin.clear_, run_underlying hT.h, zeroValue, typeInfo, g1, g4, g5, hzc, hst]
        simp only [execOp, resolve, invoke, builtin, Sem.run_bind, Sem.run_pure, Result.andThen_ok, List.map_toArray, List.map_cons, List.map_nil, hr.opv hx, hz]
      unfold okAt; rw [hrun]
      refine hK () _ trivial ?_
      have hnewlen : (cur.toList.take p ++ List.replicate (es.length - p) z0 ++ cur.toList.drop (p + (es.length - p))).length = cur.size := by
        simp only [List.length_append, List.length_take, List.length_drop, Array.length_toList, List.length_replicate]; omega
      have hcl : (es.take p ++ List.replicate (es.length - p) [z0]).length = es.length := by simp; omega
      have hcg : ∀ e0 ∈ es.take p ++ List.replicate (es.length - p) [z0], e0.length = 1 ∧ ∀ u ∈ e0, u.oneCell' = true := by
        intro e0 he0
        rcases List.mem_append.1 he0 with he0 | he0
        · exact hgood e0 (List.mem_of_mem_take he0)
        · rw [(List.mem_replicate.1 he0).2]; exact ⟨rfl, fun u hu => by rw [List.mem_singleton.1 hu]; exact hz1⟩
      have hrep : ∀ m : Nat, (List.replicate m [z0]).flatten = List.replicate m z0 := fun m => by
        induction m with
        | zero => rfl
        | succ m ih => rw [List.replicate_succ, List.flatten_cons, ih, List.replicate_succ]; rfl
      have htp : (es.take p).flatten = cur.toList.take p := by
        rw [take_flat p hlen, ← htk, List.take_take]; congr 1; omega
      refine ⟨hh.below.trans ⟨rfl, rfl, rfl, by simp, fun q hq => setRow_other w g q _ (by omega)⟩, fun d hd => ?_, ?_⟩
      · rcases List.mem_cons.1 hd with rfl | hd
        · refine ⟨⟨?_, .inr ⟨g, cap, _, by rw [hcl], hB, setRow_heap w g cur _ e _ hg, by rw [hcl]; exact hle, hcm, by rw [List.size_toArray, hnewlen, hsz], ?_⟩⟩, hcg⟩
          · rw [flatten_len (fun e he => (hcg e he).1)]
          · rw [List.flatten_append, hrep, htp, hcl, List.toList_toArray, List.take_append]
            simp only [List.length_append, List.length_take, Array.length_toList, List.length_replicate]
            rw [List.take_of_length_le (l := List.take p cur.toList ++ List.replicate (es.length - p) z0) (by simp; omega), show es.length * 1 - (min p cur.size + (es.length - p)) = 0 by omega]; simp
        · have hd' := hh.ok d (List.mem_cons_of_mem _ hd)
          refine Ch.ok_of hd' fun q hq => setRow_other w g q _ ?_
          have := (List.pairwise_cons.1 hh.ap).1 d hd g rfl
          rintro rfl
          exact this hq
      · have := List.pairwise_cons.1 hh.ap
        exact List.pairwise_cons.2 ⟨fun d hd q hq => this.1 d hd q hq, this.2⟩
end
end Go.Proofs.YtibkggjbkgdnkaaGreat

/-
  Equal neighbours that are dropped.
-/
namespace Go.Proofs.YtibkggjbkgdnkaaGreat
open Go.RowKit
attribute [local irreducible] Go.wpList Go.Code.wp Go.Exit.then Go.Exit.inBlock Go.bodyPost Go.Calls pE pB G RunsV FnV Fn FnM
set_option maxRecDepth 100000
set_option maxHeartbeats 4000000
def ddStep (acc : List Int) (x : Int) : List Int := if acc.getLast? = some x then acc else acc ++ [x]
def ddM (l : List Int) : List Int := l.foldl ddStep []
/-- The row while it is pressed together. -/
def ddRow (l : List Int) (m : Nat) : List Int := ddM (l.take m) ++ l.drop (ddM (l.take m)).length
section
variable {w0 : World} {F : List Ch} {v : Value}
end
end Go.Proofs.YtibkggjbkgdnkaaGreat

/-
  Slices that are nil; a list's kinds.
-/
namespace Go.Proofs.YtibkggjbkgdnkaaGreat
open Go.RowKit
section
variable {P : Program} {n : Nat} {w0 : World} {fr : Fr} {H : List Ch}
theorem run_eqNilD {t e : TypeId} (hT : P.underlying t = some (.slice e)) (d : Nat) (b : Option Addr) (m c m2 c2 : Nat) (w : World) : (Op.equalIn (d + 1) t (.slice b m c) (.slice none m2 c2)).run P w = .ok b.isNone w := by
  cases b <;> simp [Op.equalIn, run_underlying hT]
theorem run_eqNil {t e : TypeId} (hT : P.underlying t = some (.slice e)) (b : Option Addr) (m c m2 c2 : Nat) (w : World) : (Op.equal t (.slice b m c) (.slice none m2 c2)).run P w = .ok b.isNone w := by
  exact run_eqNilD hT 9999 b m c m2 c2 w
theorem rv_eqNil {x y : Operand} {t t' e : TypeId} [hT : TySlice P t e] {b : Option Addr} {m c m2 c2 : Nat} (hx : opv fr x = some (.slice b m c)) (hy : opv fr y = some (.slice none m2 c2)) : RunsV P n w0 fr H (.binOp .eql t x y t') (.bool b.isNone) := fun a w hr _ _ _ _ _ _ => by
  have h := run_eqNil hT.h b m c m2 c2 w
  simp only [execOp, hr.opv hx, hr.opv hy, Sem.run_bind, eqGuard_at_slice, Sem.run_pure, Result.andThen_ok]
  have e : binOp .eql t (.slice b m c) (.slice none m2 c2) = (do pure (.bool (← Op.equal t (.slice b m c) (.slice none m2 c2)))) := rfl
  rw [e]
  simp only [Sem.run_bind, h, Result.andThen_ok, Sem.run_pure]
end
attribute [local irreducible] Go.wpList Go.Code.wp Go.Exit.then Go.Exit.inBlock Go.bodyPost Go.Calls pE pB G RunsV FnV Fn FnM
set_option maxRecDepth 100000
set_option maxHeartbeats 4000000
theorem clone_any {v : Value} {l : List Int} (w : World) (h : Rd w v 1 (l.map icell)) (hn : l.length ≤ 1048576) : Fn Tryz.prog 124 [v] w (fun v : Value => v.oneCell' = true) (fun v => v) (fun v => [.row v 3 1 (l.map icell)]) := by
  have hln : (l.map icell).length = l.length := by simp
  obtain ⟨ad, cap, e, h1, h2, h3⟩ := h.form
  refine Fn.of (n := 8) Tryz.func124 rfl rfl ?_
  refine G.seq ?_
  refine G.region ?_
  refine G.v (rv_assign rfl) rfl ?_
  refine G.done ?_
  refine G.thenN ?_
  refine G.seq ?_
  refine G.seq ?_
  refine G.region ?_
  refine G.v (rv_move rfl) rfl ?_
  refine G.v (rv_eqNil (by rw [e]; rfl) rfl) rfl ?_
  refine G.done ?_
  refine G.thenN ?_
  refine G.cond rfl (fun hc => ?_) (fun hc => ?_)
  · try exact Bool.noConfusion hc
    all_goals
     try replace hc := of_decide_eq_true hc
     try (exfalso; contradiction)
     all_goals
      have hl0 : l = [] := by (cases ad with | none => (rcases Nat.eq_zero_or_pos (l.map icell).length with hz | hz; (exact List.eq_nil_of_length_eq_zero (by omega)); (obtain ⟨b, o, hbo⟩ := h3 hz; cases hbo)) | some a => cases hc)
      all_goals
       refine G.seq ?_
       refine G.region ?_
       refine G.v (rv_assign rfl) rfl ?_
       refine G.done ?_
       refine G.thenN ?_
       refine G.ret ?_
       refine G.thenR ?_
       (exact G.retF (.slice none 0 0) rfl rfl rfl rfl (fun w hw => by rw [hl0]; exact (hw.none).nilRow _ _))
  · try exact Bool.noConfusion hc
    all_goals
     try replace hc := of_decide_eq_false hc
     try (exfalso; contradiction)
     all_goals
      refine G.skip ?_
      refine G.thenN ?_
      refine G.seq ?_
      refine G.region ?_
      refine G.op (og_lit rfl .nil rfl rfl rfl rfl rfl rfl) rfl (fun vl _ => ?_)
      refine G.v (rv_move rfl) rfl ?_
      ((refine G.op (og_app0 rfl rfl rfl (by exact Rd.stays (by assumption)) rfl rfl (by simp; omega) (by simp; omega)) rfl (fun va _ => ?_)))
      refine G.v (rv_assign rfl) rfl ?_
      refine G.done ?_
      refine G.thenN ?_
      refine G.ret ?_
      (refine G.know (fun w hw => (Rd.owned 0 rfl w hw).one_) (fun hone => G.retF va hone rfl rfl rfl (fun w hw => hw.sublist (by repeat (exact List.Sublist.refl _)))))
end Go.Proofs.YtibkggjbkgdnkaaGreat

/-
  Kinds, ascending, each once: no program is in sight here.
-/
namespace Go.Proofs.YtibkggjbkgdnkaaGreat
open Go.RowKit
end Go.Proofs.YtibkggjbkgdnkaaGreat

/-
  The kinds that are there: the program's way.
-/
namespace Go.Proofs.YtibkggjbkgdnkaaGreat
open Go.RowKit
attribute [local irreducible] Go.wpList Go.Code.wp Go.Exit.then Go.Exit.inBlock Go.bodyPost Go.Calls pE pB G RunsV FnV Fn FnM
set_option maxRecDepth 100000
set_option maxHeartbeats 4000000
end Go.Proofs.YtibkggjbkgdnkaaGreat

/-
  Closures that tell whether a kind may lie beside a group.
-/
namespace Go.Proofs.YtibkggjbkgdnkaaGreat
open Go.RowKit
attribute [local irreducible] Go.wpList Go.Code.wp Go.Exit.then Go.Exit.inBlock Go.bodyPost Go.Calls pE pB G RunsV FnV Fn FnM
set_option maxRecDepth 100000
set_option maxHeartbeats 4000000
theorem indexInt_any {g : Nat} [FnOk Tryz.prog g] {cap : List Value} {v : Value} {l : List Int} {p : Int → Bool} (w : World) (h : Rd w v 1 (l.map icell)) (hf : ∀ (w' : World) (k : Nat) (b : Int), HeapOk w w' [] → l[k]? = some b → FnV Tryz.prog g ([.int .i64 b] ++ cap) w' (.bool (p b))) :
    FnV Tryz.prog 202 [v, .func (.func g) #[] cap.toArray] w (.int .i64 (idxM p l)) := by
  have hle := h.le_map
  have hln : (l.map icell).length = l.length := by simp
  refine FnV.of (n := 19) Tryz.func202 rfl rfl ?_
  refine G.seq ?_
  refine G.region ?_
  refine G.v (rv_assign rfl) rfl ?_
  refine G.done ?_
  refine G.thenN ?_
  refine G.seq ?_
  refine G.seq ?_
  refine G.region ?_
  refine G.v (rv_move rfl) rfl ?_
  refine G.v (rv_len rfl (by first | exact Rd.stays (by assumption))) rfl ?_
  refine G.v (rv_move rfl) rfl ?_
  refine G.done ?_
  refine G.thenN ?_
  refine G.block ?_
  -- loop 0: turned [8], kept [0, 1, 7]
  refine G.loopK (ι := Nat) (ks := [0, 1, 7]) (fun k => [(8, .int .i64 k)]) (fun _ => []) (fun k => k ≤ l.length ∧ (l.take k).any p = false) (fun k => l.length - k) 0 (.cons rfl (.cons rfl (.cons rfl (.nil)))) rfl ?_ ?_ ?_
  · exact ⟨Nat.zero_le _, rfl⟩
  · exact ⟨rfl, trivial⟩
  rintro k ⟨hk, ht⟩
  by_cases hlt : k < l.length
  case' pos => (obtain ⟨b, hb⟩ := get_of_lt hlt; have he := get_map hb icell)
  all_goals
   refine G.seq ?_
   refine G.region ?_
   refine G.v (rv_lss rfl rfl) rfl ?_
   refine G.done ?_
   refine G.thenN ?_
   refine G.seq ?_
   refine G.cond rfl (fun hc => ?_) (fun hc => ?_)
   · try exact Bool.noConfusion hc
     all_goals
      try replace hc := of_decide_eq_true hc
      try (exfalso; first | contradiction | omega)
      all_goals
       refine G.skip ?_
       refine G.thenN ?_
       refine G.seq ?_
       refine G.block ?_
       refine G.seq ?_
       refine G.region ?_
       refine G.v (rv_move rfl) rfl ?_
       refine G.v (rv_assign rfl) rfl ?_
       refine G.done ?_
       refine G.thenN ?_
       refine G.seq ?_
       refine G.region ?_
       refine G.v (rv_move rfl) rfl ?_
       refine G.v (rv_move rfl) rfl ?_
       refine G.v (rv_move rfl) rfl ?_
       (first | refine G.v (rv_indexH rfl rfl (by first | exact Rd.stays (by assumption)) rfl (by assumption)) rfl ?_ | refine G.v (rv_index rfl rfl (by first | exact Rd.stays (by assumption)) rfl (by assumption)) rfl ?_)
       refine G.v (rv_loadE rfl (by first | exact Rd.stays (by assumption)) (by assumption) rfl) rfl ?_
       refine G.op (og_callV rfl rfl (fun w hh => hf w k b hh.none hb)) rfl (fun _ _ => ?_)
       refine G.done ?_
       refine G.thenN ?_
       refine G.cond rfl (fun hc => ?_) (fun hc => ?_)
       · try exact Bool.noConfusion hc
         all_goals
          try replace hc := of_decide_eq_true hc
          try (exfalso; first | contradiction | omega)
          all_goals
           refine G.seq ?_
           refine G.region ?_
           refine G.v (rv_move rfl) rfl ?_
           refine G.v (rv_assign rfl) rfl ?_
           refine G.done ?_
           refine G.thenN ?_
           refine G.ret ?_
           refine G.inR ?_
           refine G.thenR ?_
           refine G.thenR ?_
           refine G.inR ?_
           refine G.thenR ?_
           first | exact G.retFV rfl rfl (congrArg (Value.int .i64) (idx_at ht hb hc).symm) | exact G.retFV rfl rfl (congrArg (Value.int .i64) (idx_none ht hlt).symm)
       · try exact Bool.noConfusion hc
         all_goals
          try replace hc := of_decide_eq_false hc
          try (exfalso; first | contradiction | omega)
          all_goals
           refine G.skip ?_
           refine G.inN ?_
           refine G.thenN ?_
           refine G.region ?_
           (first | refine G.v (rv_incr rfl rfl (by omega)) rfl ?_ | refine G.v (rv_addB rfl rfl (by omega) (by omega)) rfl ?_)
           refine G.v (rv_move rfl) rfl ?_
           refine G.done ?_
           first | refine G.backK (k + 1) 0 rfl (.cons rfl (.cons rfl (.cons rfl (.nil)))) ?_ ?_ ?_
           · exact ⟨rfl, trivial⟩
           · exact ⟨hlt, any_next ht hb hc⟩
           · omega
   · try exact Bool.noConfusion hc
     all_goals
      try replace hc := of_decide_eq_false hc
      try (exfalso; first | contradiction | omega)
      all_goals
       refine G.exit ?_
       refine G.thenX ?_
       refine G.thenX ?_
       refine G.inX ?_
       refine G.thenN ?_
       refine G.seq ?_
       refine G.region ?_
       refine G.v (rv_assign rfl) rfl ?_
       refine G.done ?_
       refine G.thenN ?_
       refine G.ret ?_
       first | exact G.retFV rfl rfl (congrArg (Value.int .i64) (idx_at ht hb hc).symm) | exact G.retFV rfl rfl (congrArg (Value.int .i64) (idx_none ht hlt).symm)
end Go.Proofs.YtibkggjbkgdnkaaGreat

/-
  A table of groups, looked through.
-/
namespace Go.Proofs.YtibkggjbkgdnkaaGreat
open Go.RowKit
attribute [local irreducible] Go.wpList Go.Code.wp Go.Exit.then Go.Exit.inBlock Go.bodyPost Go.Calls pE pB G RunsV FnV Fn FnM
set_option maxRecDepth 100000
set_option maxHeartbeats 4000000
def gcell (x : List Int × Value) : List Value := [x.2]
theorem indexTbl_any {g : Nat} [FnOk Tryz.prog g] {cap : List Value} {v : Value} {l : List (List Int × Value)} {p : List Int → Bool} (w : World) (h : Rd w v 1 (l.map gcell)) (hf : ∀ (w' : World) (k : Nat) (b : List Int × Value), HeapOk w w' [] → l[k]? = some b → FnV Tryz.prog g ([b.2] ++ cap) w' (.bool (p b.1))) :
    FnV Tryz.prog 103 [v, .func (.func g) #[] cap.toArray] w (.int .i64 (idxM (fun b => p b.1) l)) := by
  have hle := h.le_map
  have hln : (l.map gcell).length = l.length := by simp
  refine FnV.of (n := 19) Tryz.func103 rfl rfl ?_
  refine G.seq ?_
  refine G.region ?_
  refine G.v (rv_assign rfl) rfl ?_
  refine G.done ?_
  refine G.thenN ?_
  refine G.seq ?_
  refine G.seq ?_
  refine G.region ?_
  refine G.v (rv_move rfl) rfl ?_
  refine G.v (rv_len rfl (by first | exact Rd.stays (by assumption))) rfl ?_
  refine G.v (rv_move rfl) rfl ?_
  refine G.done ?_
  refine G.thenN ?_
  refine G.block ?_
  -- loop 0: turned [8], kept [0, 1, 7]
  refine G.loopK (ι := Nat) (ks := [0, 1, 7]) (fun k => [(8, .int .i64 k)]) (fun _ => []) (fun k => k ≤ l.length ∧ (l.take k).any (fun b => p b.1) = false) (fun k => l.length - k) 0 (.cons rfl (.cons rfl (.cons rfl (.nil)))) rfl ?_ ?_ ?_
  · exact ⟨Nat.zero_le _, rfl⟩
  · exact ⟨rfl, trivial⟩
  rintro k ⟨hk, ht⟩
  by_cases hlt : k < l.length
  case' pos => (obtain ⟨b, hb⟩ := get_of_lt hlt; have he := get_map hb gcell)
  all_goals
   refine G.seq ?_
   refine G.region ?_
   refine G.v (rv_lss rfl rfl) rfl ?_
   refine G.done ?_
   refine G.thenN ?_
   refine G.seq ?_
   refine G.cond rfl (fun hc => ?_) (fun hc => ?_)
   · try exact Bool.noConfusion hc
     all_goals
      try replace hc := of_decide_eq_true hc
      try (exfalso; first | contradiction | omega)
      all_goals
       refine G.skip ?_
       refine G.thenN ?_
       refine G.seq ?_
       refine G.block ?_
       refine G.seq ?_
       refine G.region ?_
       refine G.v (rv_move rfl) rfl ?_
       refine G.v (rv_assign rfl) rfl ?_
       refine G.done ?_
       refine G.thenN ?_
       refine G.seq ?_
       refine G.region ?_
       refine G.v (rv_move rfl) rfl ?_
       refine G.v (rv_move rfl) rfl ?_
       refine G.v (rv_move rfl) rfl ?_
       (first | refine G.v (rv_indexH rfl rfl (by first | exact Rd.stays (by assumption)) rfl (by assumption)) rfl ?_ | refine G.v (rv_index rfl rfl (by first | exact Rd.stays (by assumption)) rfl (by assumption)) rfl ?_)
       refine G.v (rv_loadE rfl (by first | exact Rd.stays (by assumption)) (by assumption) rfl) rfl ?_
       refine G.op (og_callV rfl rfl (fun w hh => hf w k b hh.none hb)) rfl (fun _ _ => ?_)
       refine G.done ?_
       refine G.thenN ?_
       refine G.cond rfl (fun hc => ?_) (fun hc => ?_)
       · try exact Bool.noConfusion hc
         all_goals
          try replace hc := of_decide_eq_true hc
          try (exfalso; first | contradiction | omega)
          all_goals
           refine G.seq ?_
           refine G.region ?_
           refine G.v (rv_move rfl) rfl ?_
           refine G.v (rv_assign rfl) rfl ?_
           refine G.done ?_
           refine G.thenN ?_
           refine G.ret ?_
           refine G.inR ?_
           refine G.thenR ?_
           refine G.thenR ?_
           refine G.inR ?_
           refine G.thenR ?_
           first | exact G.retFV rfl rfl (congrArg (Value.int .i64) (idx_at ht hb hc).symm) | exact G.retFV rfl rfl (congrArg (Value.int .i64) (idx_none ht hlt).symm)
       · try exact Bool.noConfusion hc
         all_goals
          try replace hc := of_decide_eq_false hc
          try (exfalso; first | contradiction | omega)
          all_goals
           refine G.skip ?_
           refine G.inN ?_
           refine G.thenN ?_
           refine G.region ?_
           (first | refine G.v (rv_incr rfl rfl (by omega)) rfl ?_ | refine G.v (rv_addB rfl rfl (by omega) (by omega)) rfl ?_)
           refine G.v (rv_move rfl) rfl ?_
           refine G.done ?_
           first | refine G.backK (k + 1) 0 rfl (.cons rfl (.cons rfl (.cons rfl (.nil)))) ?_ ?_ ?_
           · exact ⟨rfl, trivial⟩
           · exact ⟨hlt, any_next ht hb hc⟩
           · omega
   · try exact Bool.noConfusion hc
     all_goals
      try replace hc := of_decide_eq_false hc
      try (exfalso; first | contradiction | omega)
      all_goals
       refine G.exit ?_
       refine G.thenX ?_
       refine G.thenX ?_
       refine G.inX ?_
       refine G.thenN ?_
       refine G.seq ?_
       refine G.region ?_
       refine G.v (rv_assign rfl) rfl ?_
       refine G.done ?_
       refine G.thenN ?_
       refine G.ret ?_
       first | exact G.retFV rfl rfl (congrArg (Value.int .i64) (idx_at ht hb hc).symm) | exact G.retFV rfl rfl (congrArg (Value.int .i64) (idx_none ht hlt).symm)
theorem eqIntSS_any {u v : Value} {xs ys : List (List Int × Value)} (w : World) (h : Rd w u 1 (xs.map gcell)) (hs : Subs w id xs) (h2 : Rd w v 1 (ys.map gcell)) (hs2 : Subs w id ys) :
    FnV Tryz.prog 22 [u, v] w (.bool (decide (xs.map Prod.fst = ys.map Prod.fst))) := by
  have hle := h.le_map
  have hln : (xs.map gcell).length = xs.length := by simp
  have hln2 : (ys.map gcell).length = ys.length := by simp
  have hln3 : (xs.map Prod.fst).length = xs.length := by simp
  have hln4 : (ys.map Prod.fst).length = ys.length := by simp
  refine FnV.of (n := 27) Tryz.func22 rfl rfl ?_
  refine G.seq ?_
  refine G.region ?_
  refine G.v (rv_assign rfl) rfl ?_
  refine G.done ?_
  refine G.thenN ?_
  refine G.seq ?_
  refine G.seq ?_
  refine G.region ?_
  refine G.v (rv_move rfl) rfl ?_
  refine G.v (rv_len rfl (by first | exact Rd.stays (by assumption))) rfl ?_
  refine G.v (rv_move rfl) rfl ?_
  refine G.v (rv_len rfl (by first | exact Rd.stays (by assumption))) rfl ?_
  refine G.v (rv_neq rfl rfl) rfl ?_
  refine G.done ?_
  refine G.thenN ?_
  refine G.cond rfl (fun hc => ?_) (fun hc => ?_)
  · try exact Bool.noConfusion hc
    all_goals
     try replace hc := of_decide_eq_true hc
     try (exfalso; first | contradiction | omega)
     all_goals
      refine G.seq ?_
      refine G.region ?_
      refine G.v (rv_assign rfl) rfl ?_
      refine G.done ?_
      refine G.thenN ?_
      refine G.ret ?_
      refine G.thenR ?_
      first | exact G.retFV rfl rfl (congrArg Value.bool (by rw [eq_comm, decide_eq_false]; intro hq; have := congrArg List.length hq; omega)) | exact G.retFV rfl rfl (eqS_elt hab.1 hab.2 hc) | exact G.retFV rfl rfl (eqS_all ht (by omega) (by omega))
  · try exact Bool.noConfusion hc
    all_goals
     try replace hc := of_decide_eq_false hc
     try (exfalso; first | contradiction | omega)
     all_goals
      refine G.skip ?_
      refine G.thenN ?_
      refine G.seq ?_
      refine G.seq ?_
      refine G.region ?_
      refine G.v (rv_assign rfl) rfl ?_
      refine G.done ?_
      refine G.thenN ?_
      refine G.block ?_
      -- loop 0: turned [5], kept [0, 1]
      refine G.loopK (ι := Nat) (ks := [0, 1]) (fun k => [(5, .int .i64 k)]) (fun _ => []) (fun k => k ≤ xs.length ∧ (xs.map Prod.fst).take k = (ys.map Prod.fst).take k) (fun k => xs.length - k) 0 (.cons rfl (.cons rfl (.nil))) rfl ?_ ?_ ?_
      · exact ⟨Nat.zero_le _, rfl⟩
      · exact ⟨rfl, trivial⟩
      rintro k ⟨hk, ht⟩
      by_cases hlt : k < xs.length
      case' pos => (obtain ⟨a, ha⟩ := get_of_lt hlt; obtain ⟨b, hb⟩ := get_of_lt (l := ys) (k := k) (by omega); have he := get_map ha gcell; have he2 := get_map hb gcell; have hab := fst_get ha hb)
      all_goals
       refine G.seq ?_
       refine G.seq ?_
       refine G.region ?_
       refine G.v (rv_move rfl) rfl ?_
       refine G.v (rv_move rfl) rfl ?_
       refine G.v (rv_len rfl (by first | exact Rd.stays (by assumption))) rfl ?_
       refine G.v (rv_lss rfl rfl) rfl ?_
       refine G.done ?_
       refine G.thenN ?_
       refine G.cond rfl (fun hc => ?_) (fun hc => ?_)
       · try exact Bool.noConfusion hc
         all_goals
          try replace hc := of_decide_eq_true hc
          try (exfalso; first | contradiction | omega)
          all_goals
           refine G.skip ?_
           refine G.thenN ?_
           refine G.seq ?_
           refine G.block ?_
           refine G.seq ?_
           refine G.drawL [] ?_
           refine GE.q 0 rfl (by as_aux_lemma => kernel_rfl) rfl (qg_runs (rv_move rfl)) rfl ?_
           refine GE.q 1 rfl (by as_aux_lemma => kernel_rfl) rfl (qg_runs (rv_move rfl)) rfl ?_
           (first | refine GE.q 2 rfl (by as_aux_lemma => kernel_rfl) rfl (qg_runs (rv_indexH rfl rfl (by first | exact Rd.stays (by assumption)) rfl (by first | exact he | exact he2))) rfl ?_ | refine GE.q 2 rfl (by as_aux_lemma => kernel_rfl) rfl (qg_runs (rv_index rfl rfl (by first | exact Rd.stays (by assumption)) rfl (by assumption))) rfl ?_)
           refine GE.q 3 rfl (by as_aux_lemma => kernel_rfl) rfl (qg_runs (rv_loadE rfl (by first | exact Rd.stays (by assumption)) (by first | exact he | exact he2) rfl)) rfl ?_
           refine GE.q 4 rfl (by as_aux_lemma => kernel_rfl) rfl (qg_runs (rv_move rfl)) rfl ?_
           refine GE.ol 5 (by as_aux_lemma => kernel_rfl) rfl rfl (og_runs (rv_move rfl)) rfl (fun _ _ h => by first | exact h | exact h.drop 1 | exact h.drop 2 | exact h.drop 3 | exact h.drop 4 | exact h.drop 5 | exact h.drop 6 | exact h.drop 7 | exact h.drop 8 | exact h.drop 9 | exact h.drop 10 | exact h.drop 11 | exact h.drop 12 | exact h.drop 13) (fun _ _ => ?_)
           (first | refine GE.ol 6 (by as_aux_lemma => kernel_rfl) rfl rfl (og_runs (rv_indexH rfl rfl (by first | exact Rd.stays (by assumption)) rfl (by first | exact he | exact he2))) rfl (fun _ _ h => by first | exact h | exact h.drop 1 | exact h.drop 2 | exact h.drop 3 | exact h.drop 4 | exact h.drop 5 | exact h.drop 6 | exact h.drop 7 | exact h.drop 8 | exact h.drop 9 | exact h.drop 10 | exact h.drop 11 | exact h.drop 12 | exact h.drop 13) (fun _ _ => ?_) | refine GE.ol 6 (by as_aux_lemma => kernel_rfl) rfl rfl (og_runs (rv_index rfl rfl (by first | exact Rd.stays (by assumption)) rfl (by assumption))) rfl (fun _ _ h => by first | exact h | exact h.drop 1 | exact h.drop 2 | exact h.drop 3 | exact h.drop 4 | exact h.drop 5 | exact h.drop 6 | exact h.drop 7 | exact h.drop 8 | exact h.drop 9 | exact h.drop 10 | exact h.drop 11 | exact h.drop 12 | exact h.drop 13) (fun _ _ => ?_))
           refine GE.ol 7 (by as_aux_lemma => kernel_rfl) rfl rfl (og_runs (rv_loadE rfl (by first | exact Rd.stays (by assumption)) (by first | exact he | exact he2) rfl)) rfl (fun _ _ h => by first | exact h | exact h.drop 1 | exact h.drop 2 | exact h.drop 3 | exact h.drop 4 | exact h.drop 5 | exact h.drop 6 | exact h.drop 7 | exact h.drop 8 | exact h.drop 9 | exact h.drop 10 | exact h.drop 11 | exact h.drop 12 | exact h.drop 13) (fun _ _ => ?_)
           refine GE.ol 8 (by as_aux_lemma => kernel_rfl) rfl rfl (og_callV rfl rfl (fun w hh => eqIntS_any (xs := a.1) (ys := b.1) w (Rd.stays (hs.at ha) _ hh) (Rd.stays (hs2.at hb) _ hh))) rfl (fun _ _ h => by first | exact h | exact h.drop 1 | exact h.drop 2 | exact h.drop 3 | exact h.drop 4 | exact h.drop 5 | exact h.drop 6 | exact h.drop 7 | exact h.drop 8 | exact h.drop 9 | exact h.drop 10 | exact h.drop 11 | exact h.drop 12 | exact h.drop 13) (fun _ _ => ?_)
           refine GE.ol 9 (by as_aux_lemma => kernel_rfl) rfl rfl (og_runs (rv_not rfl)) rfl (fun _ _ h => by first | exact h | exact h.drop 1 | exact h.drop 2 | exact h.drop 3 | exact h.drop 4 | exact h.drop 5 | exact h.drop 6 | exact h.drop 7 | exact h.drop 8 | exact h.drop 9 | exact h.drop 10 | exact h.drop 11 | exact h.drop 12 | exact h.drop 13) (fun _ _ => ?_)
           refine GE.done (by as_aux_lemma => kernel_rfl) ?_
           refine G.thenN ?_
           refine G.cond rfl (fun hc => ?_) (fun hc => ?_)
           · try exact Bool.noConfusion hc
             all_goals
              try replace hc := of_decide_eq_true hc
              try (exfalso; first | contradiction | omega)
              all_goals
               refine G.seq ?_
               refine G.region ?_
               refine G.v (rv_assign rfl) rfl ?_
               refine G.done ?_
               refine G.thenN ?_
               refine G.ret ?_
               refine G.inR ?_
               refine G.thenR ?_
               refine G.thenR ?_
               refine G.inR ?_
               refine G.thenR ?_
               first | exact G.retFV rfl rfl (congrArg Value.bool (by rw [eq_comm, decide_eq_false]; intro hq; have := congrArg List.length hq; omega)) | exact G.retFV rfl rfl (eqS_elt hab.1 hab.2 hc) | exact G.retFV rfl rfl (eqS_all ht (by omega) (by omega))
           · try exact Bool.noConfusion hc
             all_goals
              try replace hc := of_decide_eq_false hc
              try (exfalso; first | contradiction | omega)
              all_goals
               refine G.skip ?_
               refine G.inN ?_
               refine G.thenN ?_
               refine G.region ?_
               refine G.v (rv_move rfl) rfl ?_
               (first | refine G.v (rv_incr rfl rfl (by omega)) rfl ?_ | refine G.v (rv_addB rfl rfl (by omega) (by omega)) rfl ?_)
               refine G.v (rv_assign rfl) rfl ?_
               refine G.done ?_
               first | refine G.backK (k + 1) 0 rfl (.cons rfl (.cons rfl (.nil))) ?_ ?_ ?_
               · exact ⟨rfl, trivial⟩
               · exact ⟨hlt, eqS_next ht hab.1 hab.2 hc⟩
               · omega
       · try exact Bool.noConfusion hc
         all_goals
          try replace hc := of_decide_eq_false hc
          try (exfalso; first | contradiction | omega)
          all_goals
           refine G.exit ?_
           refine G.thenX ?_
           refine G.thenX ?_
           refine G.inX ?_
           refine G.thenN ?_
           refine G.seq ?_
           refine G.region ?_
           refine G.v (rv_assign rfl) rfl ?_
           refine G.done ?_
           refine G.thenN ?_
           refine G.ret ?_
           first | exact G.retFV rfl rfl (congrArg Value.bool (by rw [eq_comm, decide_eq_false]; intro hq; have := congrArg List.length hq; omega)) | exact G.retFV rfl rfl (eqS_elt hab.1 hab.2 hc) | exact G.retFV rfl rfl (eqS_all ht (by omega) (by omega))
end Go.Proofs.YtibkggjbkgdnkaaGreat

/-
  A table of numbers that is marked by numbers that go up.
-/
namespace Go.Proofs.YtibkggjbkgdnkaaGreat
open Go.RowKit
attribute [local irreducible] Go.wpList Go.Code.wp Go.Exit.then Go.Exit.inBlock Go.bodyPost Go.Calls pE pB G RunsV FnV Fn FnM
set_option maxRecDepth 100000
set_option maxHeartbeats 1000000
def mkSS (k : Int) (t : List Int × Value) : List Int × Value := (markG mkI cntI k t.1, t.2)
def cntSS (t : List Int × Value) : Nat := cntG cntI t.1
theorem mkSS_cells (k : Int) (l : List (List Int × Value)) : (markG mkSS cntSS k l).map gcell = l.map gcell := by
  induction l generalizing k with
  | nil => rfl
  | cons x r ih => simp only [markG, List.map_cons, ih]; rfl
theorem mixSS_cells {k : Int} {i : Nat} {l : List (List Int × Value)} {x : List Int × Value} (_ : l[i]? = some x) : (mixG mkSS cntSS k i l).map gcell = (mixG mkSS cntSS k (i + 1) l).map gcell := by
  simp only [mixG, List.map_append, mkSS_cells]
  rw [← List.map_append, ← List.map_append, List.take_append_drop, List.take_append_drop]
theorem markIntSS_any {w0 : World} {v : Value} {l : List (List Int × Value)} {k : Int} (hk : 0 ≤ k) (hb : k + cntG cntSS l ≤ 4611686018427387904) :
    FnM Tryz.prog 25 [v, .int .i64 k] w0 [.grp 3 1 (l.map (sub id)), .row v 44 1 (l.map gcell)] (fun _ : Unit => True) (fun _ => .int .i64 (k + cntG cntSS l))
      (fun _ => [.grp 3 1 ((markG mkSS cntSS k l).map (sub id)), .row v 44 1 ((markG mkSS cntSS k l).map gcell)]) := by
  refine FnM.of (n := 19) Tryz.func25 rfl rfl (fun F => ?_)
  refine G.know (fun w hw => (Rd.owned 1 rfl w hw).le_map) (fun hle => ?_)
  refine G.seq ?_
  refine G.region ?_
  refine G.v (rv_assign rfl) rfl ?_
  refine G.done ?_
  refine G.thenN ?_
  refine G.seq ?_
  refine G.seq ?_
  refine G.region ?_
  refine G.v (rv_assign rfl) rfl ?_
  refine G.done ?_
  refine G.thenN ?_
  refine G.block ?_
  -- loop 0: turned [1, 5], kept [0]
  refine G.loopK (ι := Nat) (ks := [0]) (fun i => [(1, .int .i64 (k + cntG cntSS (l.take i))), (5, .int .i64 i)]) (fun i => [.grp 3 1 ((mixG mkSS cntSS k i l).map (sub id)), .row v 44 1 ((mixG mkSS cntSS k i l).map gcell)]) (fun i => i ≤ l.length) (fun i => l.length - i) 0 (.cons rfl (.nil)) rfl ?_ ?_ ?_
  · exact Nat.zero_le _
  · exact ⟨congrArg (fun z => some (Value.int .i64 z)) (by simp [cntG]), rfl, trivial⟩
  rintro i hi
  have hml : (mixG mkSS cntSS k i l).length = l.length := mix_len
  have hcl : cntG cntSS (l.take (i + 1)) ≤ cntG cntSS l := cnt_le _
  by_cases hlt : i < l.length
  case' pos => (obtain ⟨x, hx⟩ := get_of_lt hlt; have he := get_map (mix_get (mk := mkSS) (cnt := cntSS) (k := k) hx) gcell; have hgi : ((mixG mkSS cntSS k i l).map (sub id))[i]? = some (x.2, x.1.map icell) := (get_mapS (mix_get hx)); have hcn : cntG cntSS (l.take (i + 1)) = cntG cntSS (l.take i) + cntG cntI x.1 := cnt_next hx)
  case' neg => (have hal : cntG cntSS (l.take i) = cntG cntSS l := cnt_all hlt)
  all_goals
   refine G.seq ?_
   refine G.seq ?_
   refine G.region ?_
   refine G.v (rv_move rfl) rfl ?_
   refine G.v (rv_move rfl) rfl ?_
   refine G.v (rv_len rfl (by exact Rd.owned 1 rfl)) rfl ?_
   refine G.v (rv_lss rfl rfl) rfl ?_
   refine G.done ?_
   refine G.thenN ?_
   refine G.cond rfl (fun hc => ?_) (fun hc => ?_)
   · try exact Bool.noConfusion hc
     all_goals
      try replace hc := of_decide_eq_true hc
      try simp only [List.length_map, hml] at hc
      try (exfalso; omega)
      all_goals
       refine G.skip ?_
       refine G.thenN ?_
       refine G.seq ?_
       refine G.block ?_
       refine G.region ?_
       refine G.v (rv_move rfl) rfl ?_
       refine G.v (rv_move rfl) rfl ?_
       (refine G.v (rv_indexH rfl rfl (by exact Rd.owned 1 rfl) rfl (by exact he)) rfl ?_)
       refine G.v (rv_loadE rfl (by exact Rd.owned 1 rfl) (by exact he) rfl) rfl ?_
       refine G.v (rv_move rfl) rfl ?_
       ((refine G.op (og_callM0 rfl rfl rfl (FnMF.grp (markIntS_any (by omega) (by omega)) hgi)) rfl ?_; rintro ⟨⟩ _; try dsimp only))
       refine G.v (rv_assign rfl) rfl ?_
       refine G.done ?_
       refine G.inN ?_
       refine G.thenN ?_
       refine G.region ?_
       refine G.v (rv_move rfl) rfl ?_
       (refine G.v (rv_incr rfl rfl (by omega)) rfl ?_)
       refine G.v (rv_assign rfl) rfl ?_
       refine G.done ?_
       refine G.backK (i + 1) 0 (two_eq (congrArg (fun z => Ch.grp 3 1 z) (mix_map hx)) (congrArg (fun z => Ch.row v 44 1 z) (mixSS_cells hx))) (.cons rfl (.nil)) ?_ ?_ ?_
       · exact ⟨congrArg (fun z => some (Value.int .i64 z)) (by omega), rfl, trivial⟩
       · exact hlt
       · omega
   · try exact Bool.noConfusion hc
     all_goals
      try replace hc := of_decide_eq_false hc
      try simp only [List.length_map, hml] at hc
      try (exfalso; omega)
      all_goals
       refine G.exit ?_
       refine G.thenX ?_
       refine G.thenX ?_
       refine G.inX ?_
       refine G.thenN ?_
       refine G.seq ?_
       refine G.region ?_
       refine G.v (rv_move rfl) rfl ?_
       refine G.v (rv_assign rfl) rfl ?_
       refine G.done ?_
       refine G.thenN ?_
       refine G.ret ?_
       exact G.retF () trivial rfl rfl (congrArg (Value.int .i64) (by rw [hal])) (fun w hw => by rw [mix_all hlt] at hw; exact hw)
theorem cntSS_same (k : Int) (t : List Int × Value) : cntSS (mkSS k t) = cntSS t := by simp only [cntSS, mkSS, mark_cnt (mk := mkI) (cnt := cntI) (fun _ _ => rfl)]
theorem mkSS_same (k : Int) (t : List Int × Value) : mkSS k (mkSS k t) = mkSS k t := by simp only [mkSS, mark_mark (mk := mkI) (cnt := cntI) (fun _ _ => rfl) (fun _ _ => rfl)]
theorem heldIntSS_any {v : Value} {l : List (List Int × Value)} {k : Int} (w : World) (h : Rd w v 1 (l.map gcell)) (hs : Subs w id l) (hm : markG mkSS cntSS k l = l) (hk : 0 ≤ k) (hb : k + cntG cntSS l ≤ 4611686018427387904) :
    FnV Tryz.prog 26 [v, .int .i64 k] w (.int .i64 (k + cntG cntSS l)) := by
  have hle := h.le_map
  refine FnV.of (n := 21) Tryz.func26 rfl rfl ?_
  refine G.seq ?_
  refine G.region ?_
  refine G.v (rv_assign rfl) rfl ?_
  refine G.done ?_
  refine G.thenN ?_
  refine G.seq ?_
  refine G.seq ?_
  refine G.region ?_
  refine G.v (rv_assign rfl) rfl ?_
  refine G.done ?_
  refine G.thenN ?_
  refine G.block ?_
  -- loop 0: turned [1, 5], kept [0]
  refine G.loopK (ι := Nat) (ks := [0]) (fun i => [(1, .int .i64 (k + cntG cntSS (l.take i))), (5, .int .i64 i)]) (fun _ => []) (fun i => i ≤ l.length) (fun i => l.length - i) 0 (.cons rfl (.nil)) rfl ?_ ?_ ?_
  · exact Nat.zero_le _
  · exact ⟨congrArg (fun z => some (Value.int .i64 z)) (by simp [cntG]), rfl, trivial⟩
  rintro i hi
  have hcl : cntG cntSS (l.take (i + 1)) ≤ cntG cntSS l := cnt_le _
  by_cases hlt : i < l.length
  case' pos => (obtain ⟨x, hx⟩ := get_of_lt hlt; have he := get_map hx gcell; have hcn : cntG cntSS (l.take (i + 1)) = cntG cntSS (l.take i) + cntG cntI x.1 := cnt_next hx; have hq := held_at hm hx; have hql : markG mkI cntI (k + cntG cntSS (l.take i)) x.1 = x.1 := (congrArg (fun t => t.1) hq).symm)
  case' neg => (have hal : cntG cntSS (l.take i) = cntG cntSS l := cnt_all hlt)
  all_goals
   refine G.seq ?_
   refine G.seq ?_
   refine G.region ?_
   refine G.v (rv_move rfl) rfl ?_
   refine G.v (rv_move rfl) rfl ?_
   refine G.v (rv_len rfl (by exact Rd.stays (by assumption))) rfl ?_
   refine G.v (rv_lss rfl rfl) rfl ?_
   refine G.done ?_
   refine G.thenN ?_
   refine G.cond rfl (fun hc => ?_) (fun hc => ?_)
   · try exact Bool.noConfusion hc
     all_goals
      try replace hc := of_decide_eq_true hc
      try simp only [List.length_map] at hc
      try (exfalso; omega)
      all_goals
       refine G.skip ?_
       refine G.thenN ?_
       refine G.seq ?_
       refine G.block ?_
       refine G.seq ?_
       refine G.region ?_
       refine G.v (rv_move rfl) rfl ?_
       refine G.v (rv_move rfl) rfl ?_
       (refine G.v (rv_indexH rfl rfl (by exact Rd.stays (by assumption)) rfl (by exact he)) rfl ?_)
       refine G.v (rv_loadE rfl (by exact Rd.stays (by assumption)) (by exact he) rfl) rfl ?_
       refine G.v (rv_move rfl) rfl ?_
       refine G.op (og_callV rfl rfl (fun w hh => heldIntS_any (l := x.1) w (Rd.stays (hs.at hx) _ hh) hql (by omega) (by omega))) rfl (fun _ _ => ?_)
       refine G.v (rv_assign rfl) rfl ?_
       refine G.done ?_
       refine G.thenN ?_
       refine G.seq ?_
       refine G.region ?_
       refine G.v (rv_move rfl) rfl ?_
       refine G.v (rv_lss rfl rfl) rfl ?_
       refine G.done ?_
       refine G.thenN ?_
       refine G.cond rfl (fun hc => ?_) (fun hc => ?_)
       · try exact Bool.noConfusion hc
         all_goals
          try replace hc := of_decide_eq_true hc
          try simp only [List.length_map] at hc
          try (exfalso; omega)
          all_goals
           refine G.seq ?_
           refine G.region ?_
           refine G.v (rv_assign rfl) rfl ?_
           refine G.done ?_
           refine G.thenN ?_
           refine G.ret ?_
           refine G.inR ?_
           refine G.thenR ?_
           refine G.thenR ?_
           refine G.inR ?_
           refine G.thenR ?_
           exact G.retFV rfl rfl (congrArg (Value.int .i64) (by rw [hal]))
       · try exact Bool.noConfusion hc
         all_goals
          try replace hc := of_decide_eq_false hc
          try simp only [List.length_map] at hc
          try (exfalso; contradiction)
          all_goals
           refine G.skip ?_
           refine G.inN ?_
           refine G.thenN ?_
           refine G.region ?_
           refine G.v (rv_move rfl) rfl ?_
           (refine G.v (rv_incr rfl rfl (by omega)) rfl ?_)
           refine G.v (rv_assign rfl) rfl ?_
           refine G.done ?_
           refine G.backK (i + 1) 0 rfl (.cons rfl (.nil)) ?_ ?_ ?_
           · exact ⟨congrArg (fun z => some (Value.int .i64 z)) (by omega), rfl, trivial⟩
           · exact hlt
           · omega
   · try exact Bool.noConfusion hc
     all_goals
      try replace hc := of_decide_eq_false hc
      try simp only [List.length_map] at hc
      try (exfalso; omega)
      all_goals
       refine G.exit ?_
       refine G.thenX ?_
       refine G.thenX ?_
       refine G.inX ?_
       refine G.thenN ?_
       refine G.seq ?_
       refine G.region ?_
       refine G.v (rv_move rfl) rfl ?_
       refine G.v (rv_assign rfl) rfl ?_
       refine G.done ?_
       refine G.thenN ?_
       refine G.ret ?_
       exact G.retFV rfl rfl (congrArg (Value.int .i64) (by rw [hal]))
theorem heldIntSS_marked {v : Value} {l : List (List Int × Value)} {k : Int} (w : World) (h : Rd w v 1 ((markG mkSS cntSS k l).map gcell)) (hs : Subs w id (markG mkSS cntSS k l)) (hk : 0 ≤ k) (hb : k + cntG cntSS l ≤ 4611686018427387904) :
    FnV Tryz.prog 26 [v, .int .i64 k] w (.int .i64 (k + cntG cntSS l)) := by
  have hc := mark_cnt (mk := mkSS) (cnt := cntSS) cntSS_same l k
  have := heldIntSS_any w h hs (mark_mark (mk := mkSS) (cnt := cntSS) cntSS_same mkSS_same l k) hk (by rw [hc]; exact hb)
  rwa [hc] at this
end Go.Proofs.YtibkggjbkgdnkaaGreat

/-
  Tables of groups: what is put where. No program is in sight here.
-/
namespace Go.Proofs.YtibkggjbkgdnkaaGreat
open Go.RowKit
/-- x is put into the first list that p holds of, or into a list of its own. -/
def putM (p : List Int → Bool) : List (List Int) → Int → List (List Int)
  | [], x => [[x]]
  | g :: r, x => if p g then (g ++ [x]) :: r else g :: putM p r x
theorem put_no {p : List Int → Bool} {x : Int} : ∀ {l : List (List Int)}, l.any p = false → putM p l x = l ++ [[x]]
  | [], _ => rfl
  | g :: r, h => by
    simp only [List.any_cons, Bool.or_eq_false_iff] at h
    rw [putM, h.1, put_no h.2]; simp
theorem put_at {p : List Int → Bool} {x : Int} : ∀ {l : List (List Int)} {k : Nat} {b : List Int}, (l.take k).any p = false → l[k]? = some b → p b = true → putM p l x = l.set k (b ++ [x])
  | [], k, b, _, h, _ => by simp at h
  | g :: r, 0, b, _, h, hb => by
    simp at h; subst h; rw [putM, if_pos hb]; rfl
  | g :: r, k + 1, b, h0, h, hb => by
    simp only [List.take_succ_cons, List.any_cons, Bool.or_eq_false_iff] at h0
    simp only [List.getElem?_cons_succ] at h
    rw [putM, h0.1, put_at h0.2 h hb]; simp
theorem idx_cases {α : Type} (p : α → Bool) : ∀ l : List α, (idxM p l = -1 ∧ l.any p = false) ∨ ∃ (k : Nat) (b : α), idxM p l = (k : Int) ∧ l[k]? = some b ∧ p b = true ∧ (l.take k).any p = false
  | [] => .inl ⟨rfl, rfl⟩
  | x :: r => by
    by_cases hx : p x = true
    · exact .inr ⟨0, x, by rw [idxM, if_pos hx]; rfl, rfl, hx, rfl⟩
    · have hx2 : p x = false := by simpa using hx
      rcases idx_cases p r with ⟨h1, h2⟩ | ⟨k, b, h1, h2, h3, h4⟩
      · exact .inl ⟨by rw [idxM, if_neg hx, if_pos (by omega)], by rw [List.any_cons, hx2, h2]; rfl⟩
      · exact .inr ⟨k + 1, b, by rw [idxM, if_neg hx, if_neg (by omega), h1]; omega, h2, h3, by rw [List.take_succ_cons, List.any_cons, hx2, h4]; rfl⟩
/-- The first place from i on that p holds of. -/
def idxFrom {α : Type} (p : α → Bool) (l : List α) (i : Nat) : Int := if idxM p (l.drop i) < 0 then -1 else idxM p (l.drop i) + i
theorem from_end {α : Type} {p : α → Bool} {l : List α} : idxFrom p l l.length = -1 := by
  rw [idxFrom, List.drop_length]; rfl
theorem from_yes {α : Type} {p : α → Bool} {l : List α} {i : Nat} {b : α} (hb : l[i]? = some b) (h : p b = true) : (i : Int) = idxFrom p l i := by
  obtain ⟨h1, rfl⟩ := List.getElem?_eq_some_iff.1 hb
  rw [idxFrom, List.drop_eq_getElem_cons h1, idxM, if_pos h]; simp
theorem from_no {α : Type} {p : α → Bool} {l : List α} {i : Nat} {b : α} (hb : l[i]? = some b) (h : p b = false) : idxFrom p l (i + 1) = idxFrom p l i := by
  obtain ⟨h1, rfl⟩ := List.getElem?_eq_some_iff.1 hb
  have e : idxM p (l.drop i) = if idxM p (l.drop (i + 1)) < 0 then -1 else idxM p (l.drop (i + 1)) + 1 := by
    rw [List.drop_eq_getElem_cons h1, idxM, if_neg (by rw [h]; decide)]
  unfold idxFrom
  rw [e]
  have hg := idx_ge p (l.drop (i + 1))
  split <;> split <;> omega
theorem from_zero {α : Type} {p : α → Bool} {l : List α} : idxFrom p l 0 = idxM p l := by
  rw [idxFrom, List.drop_zero]
  have := idx_ge p l
  split
  · omega
  · simp
def putAll (p : List Int → Int → Bool) (l : List Int) : List (List Int) := l.foldl (fun out x => putM (fun g => p g x) out x) []
theorem putAll_next {p : List Int → Int → Bool} {l : List Int} {k : Nat} {x : Int} (h : l[k]? = some x) : putAll p (l.take (k + 1)) = putM (fun g => p g x) (putAll p (l.take k)) x := foldl_take_succ h _ []
theorem put_sum (p : List Int → Bool) (x : Int) : ∀ l : List (List Int), ((putM p l x).map List.length).sum = (l.map List.length).sum + 1
  | [] => rfl
  | g :: r => by
    have := put_sum p x r
    rw [putM]; split
    · simp only [List.map_cons, List.sum_cons, List.length_append, List.length_singleton]; omega
    · simp only [List.map_cons, List.sum_cons]; omega
theorem put_lenle (p : List Int → Bool) (x : Int) : ∀ l : List (List Int), (putM p l x).length ≤ l.length + 1
  | [] => Nat.le_refl _
  | g :: r => by
    have := put_lenle p x r
    rw [putM]; split
    · simp only [List.length_cons]; omega
    · simp only [List.length_cons]; omega
theorem putAll_sumG (p : List Int → Int → Bool) : ∀ (l : List Int) (out : List (List Int)), ((l.foldl (fun out x => putM (fun g => p g x) out x) out).map List.length).sum = (out.map List.length).sum + l.length
  | [], out => by simp
  | x :: r, out => by
    rw [List.foldl_cons, putAll_sumG p r, put_sum, List.length_cons]; omega
theorem putAll_lenG (p : List Int → Int → Bool) : ∀ (l : List Int) (out : List (List Int)), (l.foldl (fun out x => putM (fun g => p g x) out x) out).length ≤ out.length + l.length
  | [], out => by simp
  | x :: r, out => by
    have h1 := putAll_lenG p r (putM (fun g => p g x) out x)
    have h2 := put_lenle (fun g => p g x) x out
    rw [List.foldl_cons, List.length_cons]; omega
theorem putAll_sum (p : List Int → Int → Bool) (l : List Int) : ((putAll p l).map List.length).sum = l.length := by rw [putAll, putAll_sumG]; simp
theorem putAll_len (p : List Int → Int → Bool) (l : List Int) : (putAll p l).length ≤ l.length := by have := putAll_lenG p l []; simpa [putAll] using this
theorem len_le_sum : ∀ {l : List (List Int)} {g : List Int}, g ∈ l → g.length ≤ (l.map List.length).sum
  | [], g, h => by simp at h
  | a :: r, g, h => by
    rw [List.map_cons, List.sum_cons]
    rcases List.mem_cons.1 h with rfl | h
    · omega
    · have := len_le_sum h; omega
theorem putAll_at {p : List Int → Int → Bool} {l : List Int} {q : Nat} {g : List Int} (h : (putAll p l)[q]? = some g) : g.length ≤ l.length := by
  have := len_le_sum (List.mem_of_getElem? h); rwa [putAll_sum] at this
/-- The groups of kinds: each kind is put into the first group that it may lie beside. -/
def groupsM (ps : List PairM) (l : List Int) : List (List Int) := putAll (fun g x => joinsM ps g x) l
/-- The kinds that are there, as numbers. -/
def presI (r : ReqM) : List Int := (presM r).map (fun n : Nat => (n : Int))
/-- The kinds below n that are in a list. -/
def below (l : List Int) (n : Nat) : List Int := ((List.range n).map (fun n : Nat => (n : Int))).filter (hasM l)
end Go.Proofs.YtibkggjbkgdnkaaGreat

/-
  Rows that are pushed into groups.
-/
namespace Go.Proofs.YtibkggjbkgdnkaaGreat
open Go.RowKit
theorem G.pushRow {n : Nat} {w0 : World} {fr : Fr} {H F : List Ch} {t : TypeId} {s : Nat} {v : Value} {es : List (List Value)} {rs : List (Value × List (List Value))} (rs' : List (Value × List (List Value))) {K : Act → World → Prop} (e : rs ++ [(v, es)] = rs') (hH : H = .row v t s es :: .grp t s rs :: F) (h : G n w0 fr (.grp t s rs' :: F) K) : G n w0 fr H K :=
  G.heap (fun w hh => by subst e hH; exact hh.push) h
theorem G.keep2 {n : Nat} {w0 : World} {fr : Fr} {H : List Ch} (m : Nat) {c1 c2 : Ch} {J : List Ch} {K : Act → World → Prop} (hH : H = c1 :: c2 :: J) (h : G n w0 fr (c1 :: c2 :: J.drop m) K) : G n w0 fr H K := G.heap (fun w hh => by subst hH; exact hh.sublist (List.Sublist.cons_cons _ (List.Sublist.cons_cons _ (List.drop_sublist m J)))) h
theorem nil_or_snoc {α : Type} (l : List α) : l = [] ∨ ∃ tp t, l = tp ++ [t] := by
  rcases List.eq_nil_or_concat l with h | ⟨a, b, h⟩
  · exact .inl h
  · exact .inr ⟨a, b, by rw [h, List.concat_eq_append]⟩
theorem G.keep1 {n : Nat} {w0 : World} {fr : Fr} {H : List Ch} (m : Nat) {c1 : Ch} {J : List Ch} {K : Act → World → Prop} (hH : H = c1 :: J) (h : G n w0 fr (c1 :: J.drop m) K) : G n w0 fr H K := G.heap (fun w hh => by subst hH; exact hh.sublist (List.Sublist.cons_cons _ (List.drop_sublist m J))) h
end Go.Proofs.YtibkggjbkgdnkaaGreat

/-
  What no packing is below: the program's way.
-/
namespace Go.Proofs.YtibkggjbkgdnkaaGreat
open Go.RowKit
section
variable {P : Program} {n : Nat} {w0 : World} {fr : Fr} {H : List Ch} {x y : Operand} {t t' : TypeId} {p q : Int}
end
attribute [local irreducible] Go.wpList Go.Code.wp Go.Exit.then Go.Exit.inBlock Go.bodyPost Go.Calls pE pB G RunsV FnV Fn FnM
set_option maxRecDepth 100000
set_option maxHeartbeats 4000000
def vI (x : ItemM) : Int := volM x.w x.h x.d
theorem vol_in {w h d : Int} (hw : 1 ≤ w ∧ w ≤ 2000) (hh : 1 ≤ h ∧ h ≤ 2000) (hd : 1 ≤ d ∧ d ≤ 2000) : 1 ≤ volM w h d ∧ volM w h d ≤ 8000000000 := by
  have e : (inB w 0 2000 && inB h 0 2000 && inB d 0 2000) = true := by simp only [inB, Bool.and_eq_true, decide_eq_true_eq]; omega
  have a1 : 1 ≤ w * h := by have := Int.mul_le_mul hw.1 hh.1 (by omega) (by omega); omega
  have a2 : w * h ≤ 4000000 := by have := Int.mul_le_mul hw.2 hh.2 (by omega) (by omega); omega
  have b1 : 1 ≤ w * h * d := by have := Int.mul_le_mul a1 hd.1 (by omega) (by omega); omega
  have b2 : w * h * d ≤ 8000000000 := by have := Int.mul_le_mul a2 hd.2 (by omega) (by omega); omega
  have e2 : IntKind.i64.wrap (w * h) = w * h := wrap64_id (by omega) (by omega)
  rw [volM, if_pos e, e2, wrap64_id (by omega) (by omega)]
  exact ⟨b1, b2⟩
theorem item_vol {x : ItemM} (h : itemOkM x = true) : 1 ≤ vI x ∧ vI x ≤ 8000000000 := by
  simp only [itemOkM, Bool.and_eq_true, inB, decide_eq_true_eq] at h
  exact vol_in h.1.1.1.1.1.2 h.1.1.1.1.2 h.1.1.1.2
def mst (r : ReqM) : TypeM := (typeAt r r.master).1
def vOf (r : ReqM) (u : Int) : Int := match itemAt r u with | some x => vI x | none => 0
def volUS (r : ReqM) (us : List Int) : Int := (us.map (vOf r)).sum
theorem vOf_in (r : ReqM) (u : Int) : 0 ≤ vOf r u ∧ vOf r u ≤ 8000000000 := by
  unfold vOf
  cases h : itemAt r u with
  | none => simp
  | some x => have := item_vol (itemAt_ok h); dsimp only; omega
theorem volUS_take {r : ReqM} {us : List Int} {k : Nat} {u : Int} (hb : us[k]? = some u) : volUS r (us.take (k + 1)) = volUS r (us.take k) + vOf r u := by
  simp [volUS, List.take_add_one, hb, List.sum_append]
theorem volUS_in (r : ReqM) : ∀ us : List Int, 0 ≤ volUS r us ∧ volUS r us ≤ 8000000000 * us.length
  | [] => by simp [volUS]
  | u :: us => by
    have h1 := volUS_in r us
    have h2 := vOf_in r u
    simp only [volUS, List.map_cons, List.sum_cons, List.length_cons] at *
    omega
def vSum (l : List ItemM) : Int := (l.map vI).sum
theorem vSum_take {l : List ItemM} {k : Nat} {b : ItemM} (h : l[k]? = some b) : vSum (l.take (k + 1)) = vSum (l.take k) + vI b := by
  simp [vSum, List.take_add_one, h, List.sum_append]
theorem vSum_items (r : ReqM) : ∀ us : List Int, vSum (itemsM r us) = volUS r us
  | [] => rfl
  | u :: us => by
    have h1 := vSum_items r us
    simp only [itemsM, volUS, vSum, List.filterMap_cons, List.map_cons, List.sum_cons] at *
    cases h : itemAt r u with
    | none => simp only [vOf, h]; omega
    | some x => simp only [vOf, h, List.map_cons, List.sum_cons]; omega
theorem vSum_in : ∀ {l : List ItemM}, (∀ x ∈ l, itemOkM x = true) → 0 ≤ vSum l ∧ vSum l ≤ 8000000000 * l.length
  | [], _ => by simp [vSum]
  | x :: l, h => by
    have h1 := vSum_in (fun y hy => h y (List.mem_cons_of_mem _ hy))
    have h2 := item_vol (h x (List.mem_cons_self))
    simp only [vSum, List.map_cons, List.sum_cons, List.length_cons] at *
    omega
def upByM (a b : Int) : Int := (a + b - 1).tdiv b
def lowVolM (r : ReqM) (us : List Int) : Int := if classM r = 0 then upByM (volUS r us) (volM (mst r).w (mst r).h (mst r).d) else 0
def lowGramM (r : ReqM) (us : List Int) : Int := if classM r = 0 then upByM (gramM r us) (mst r).g else 0
def wideP (r : ReqM) (x : ItemM) : Bool := decide (2 * vI x > volM (mst r).w (mst r).h (mst r).d)
def heavyP (r : ReqM) (x : ItemM) : Bool := decide (2 * x.g > (mst r).g)
def greatM (r : ReqM) (us : List Int) : Int := if classM r = 0 then max ((itemsM r us).countP (wideP r) : Int) ((itemsM r us).countP (heavyP r) : Int) else 0
def lowM (r : ReqM) (us : List Int) : Int := max (max (lowVolM r us) (lowGramM r us)) (greatM r us)
theorem volumeOf_any {r : ReqM} {pv tv iv uv : Value} {us : List Int} (w : World) (h : Rd w pv 2 (r.pairs.map PairM.cells)) (h2 : Rd w tv 7 (r.types.map TypeM.cells)) (h3 : Rd w iv 7 (r.items.map ItemM.cells)) (h4 : Rd w uv 1 (us.map icell)) (hul : us.length ≤ 1048576) :
    FnV Tryz.prog 71 [.agg (r.cells pv tv iv).toArray, uv] w (.int .i64 (volUS r us)) := by
  have hil := items_len r us
  have hil2 : ((itemsM r us).map ItemM.cells).length = (itemsM r us).length := by simp
  refine FnV.of (n := 27) Tryz.func71 rfl rfl ?_
  refine G.seq ?_
  refine G.region ?_
  refine G.op (og_box rfl rfl) rfl (fun bk2 _ => ?_)
  refine G.v (rv_assign rfl) rfl ?_
  refine G.done ?_
  refine G.thenN ?_
  refine G.seq ?_
  refine G.region ?_
  refine G.v (rv_assign rfl) rfl ?_
  refine G.done ?_
  refine G.thenN ?_
  refine G.seq ?_
  refine G.seq ?_
  refine G.region ?_
  (refine G.v (rv_loadW 0 rfl rfl rfl) rfl ?_)
  refine G.v (rv_move rfl) rfl ?_
  (refine G.op (og_callF1 rfl rfl (fun w hh => itemsOf_any (r := r) (us := us) w (Rd.stays h _ hh) (Rd.stays h2 _ hh) (Rd.stays h3 _ hh) (Rd.stays h4 _ hh) hul)) rfl ?_; rintro vs hvs; try dsimp only)
  refine G.v (rv_len rfl (by exact Rd.owned 0 rfl)) rfl ?_
  refine G.v (rv_move rfl) rfl ?_
  refine G.done ?_
  refine G.thenN ?_
  refine G.block ?_
  -- loop 0: turned [5, 12], kept [10, 11]
  refine G.loopK (ι := Nat) (ks := [10, 11]) (fun k => [(5, .int .i64 (vSum ((itemsM r us).take k))), (12, .int .i64 k)]) (fun _ => []) (fun k => k ≤ (itemsM r us).length) (fun k => (itemsM r us).length - k) 0 (.cons rfl (.cons rfl (.nil))) rfl ?_ ?_ ?_
  · exact Nat.zero_le _
  · exact ⟨rfl, rfl, trivial⟩
  rintro k hk
  have hgi := vSum_in (l := (itemsM r us).take k) (fun x hx => items_ok x (List.mem_of_mem_take hx))
  rw [List.length_take, Nat.min_eq_left hk] at hgi
  by_cases hlt : k < (itemsM r us).length
  case' pos => (obtain ⟨b, hb⟩ := get_of_lt hlt; have he := get_map hb ItemM.cells; have hbg : 1 ≤ volM b.w b.h b.d ∧ volM b.w b.h b.d ≤ 8000000000 := item_vol (items_ok b (List.mem_of_getElem? hb)); have hgt := vSum_take hb)
  all_goals
   refine G.seq ?_
   refine G.region ?_
   refine G.v (rv_lss rfl rfl) rfl ?_
   refine G.done ?_
   refine G.thenN ?_
   refine G.seq ?_
   refine G.cond rfl (fun hc => ?_) (fun hc => ?_)
   · try exact Bool.noConfusion hc
     all_goals
      try replace hc := of_decide_eq_true hc
      try (exfalso; omega)
      all_goals
       refine G.skip ?_
       refine G.thenN ?_
       refine G.seq ?_
       refine G.block ?_
       refine G.seq ?_
       refine G.region ?_
       (refine G.v (rv_indexH rfl rfl (by exact Rd.owned 0 rfl) rfl (by assumption)) rfl ?_)
       (refine G.v (rv_loadEW rfl (by exact Rd.owned 0 rfl) (by assumption) rfl) rfl ?_)
       refine G.op (og_alloc) rfl (fun bk7 _ => ?_)
       (refine G.op0 (og_st0 rfl rfl rfl rfl rfl rfl (.zero (.cons (.cons (.cons (.cons (.cons (.cons (.cons .nil))))))))) (fun _ _ => ?_))
       refine G.done ?_
       refine G.thenN ?_
       refine G.region ?_
       refine G.v (rv_move rfl) rfl ?_
       (refine G.v (rv_field rfl) rfl ?_)
       (refine G.v (rv_load1 0 rfl rfl rfl) rfl ?_)
       (refine G.v (rv_field rfl) rfl ?_)
       (refine G.v (rv_load1 0 rfl rfl rfl) rfl ?_)
       (refine G.v (rv_field rfl) rfl ?_)
       (refine G.v (rv_load1 0 rfl rfl rfl) rfl ?_)
       refine G.op (og_callV rfl rfl (fun w hh => volume_any b.w b.h b.d w)) rfl (fun _ _ => ?_)
       (refine G.v (rv_addB rfl rfl (by omega) (by omega)) rfl ?_)
       refine G.v (rv_assign rfl) rfl ?_
       refine G.done ?_
       refine G.inN ?_
       refine G.thenN ?_
       refine G.region ?_
       (refine G.v (rv_incr rfl rfl (by omega)) rfl ?_)
       refine G.v (rv_move rfl) rfl ?_
       refine G.done ?_
       refine G.backK (k + 1) 1 rfl (.cons rfl (.cons rfl (.nil))) ?_ ?_ ?_
       · exact ⟨congrArg (fun z => some (Value.int .i64 z)) hgt.symm, rfl, trivial⟩
       · exact hlt
       · omega
   · try exact Bool.noConfusion hc
     all_goals
      try replace hc := of_decide_eq_false hc
      try (exfalso; omega)
      all_goals
       refine G.exit ?_
       refine G.thenX ?_
       refine G.thenX ?_
       refine G.inX ?_
       refine G.thenN ?_
       refine G.seq ?_
       refine G.region ?_
       refine G.v (rv_move rfl) rfl ?_
       refine G.v (rv_assign rfl) rfl ?_
       refine G.done ?_
       refine G.thenN ?_
       refine G.ret ?_
       exact G.retFV rfl rfl (congrArg (Value.int .i64) (by rw [take_all (by omega)]; exact vSum_items r us))
section
variable {r : ReqM} {pv tv iv uv : Value} {us : List Int} (w : World) (h : Rd w pv 2 (r.pairs.map PairM.cells)) (h2 : Rd w tv 7 (r.types.map TypeM.cells)) (h3 : Rd w iv 7 (r.items.map ItemM.cells)) (h4 : Rd w uv 1 (us.map icell)) (hul : us.length ≤ 1048576)
include h h2 h3 h4 hul
end
end Go.Proofs.YtibkggjbkgdnkaaGreat

/-
  What no packing is below: the reference's way, and the law.
-/
namespace Go.Proofs.YtibkggjbkgdnkaaGreat
open Go.RowKit
section
variable {P : Program} {n : Nat} {w0 : World} {fr : Fr} {H : List Ch}
def fieldOne (P : Program) (t : TypeId) (i : Nat) : Option Nat :=
  match P.underlying t with
  | some (.struct fs) => match fs[i]? with
    | some f => if (P.underlying f.type).map aggB = some false then some f.offset else none
    | none => none
  | _ => none
theorem rv_fieldV {x : Operand} {t : TypeId} {i : Nat} {cs : List Value} {v : Value} (off : Nat) (hx : opv fr x = some (.agg cs.toArray)) (hF : fieldOne P t i = some off) (hv : cs[off]? = some v) : RunsV P n w0 fr H (.field t x i) v := fun a w hr _ _ _ _ _ _ => by
  unfold fieldOne at hF
  split at hF
  · rename_i fs hs
    split at hF
    · rename_i f hf
      split at hF
      · rename_i h1
        injection hF with hF
        subst hF
        simp [execOp, hr.opv hx, Instr.field, run_underlying hs, hf, asAgg, part, run_isAgg_one h1, hv]
      · cases hF
    · cases hF
  · cases hF
theorem rv_sliceLH {x y z : Operand} {t e : TypeId} {s bs : Nat} {zs : List Value} [hT : TySlice P t e] [hI : TyInfo P e s zs bs] {v : Value} {es : List (List Value)} {k k2 : IntKind} {l h : Nat} {q : Int} (hx : opv fr x = some v) (hy : opv fr y = some (.int k (l : Int))) (hz : opv fr z = some (.int k2 q)) (hq : q = (h : Int)) (hv : ∀ w, HeapOk w0 w H → Rd w v s es) (hl : l ≤ h) (hh : h ≤ es.length) :
    RunsV P n w0 fr H (.slice t x (some y) (some z) none) (subV v s l h) := fun a w hr hw _ _ _ _ _ => by
  subst hq
  obtain ⟨ad, cap, rfl, h1, h2, h3⟩ := (hv w hw).form
  obtain ⟨i, z, g1, g2, g3, g4, g5⟩ := hI.get
  have e1 : (l : Int) ≤ (h : Int) := by omega
  have e2 : (0 : Int) ≤ (l : Int) := by omega
  have e3 : (h : Int) ≤ (cap : Int) := by omega
  have e4 : (0 : Int) ≤ (h : Int) := by omega
  simp [execOp, hr.opv hx, hr.opv hy, hr.opv hz, Instr.sliceAt, Instr.slice, run_underlying hT.h, Instr.sliceBounds, run_sliceBound, sizeOf, typeInfo, g1, g2, subV, sliced, e1, e2, e3, e4]
theorem FnV.toFn {f : FuncId} {vs : List Value} {w : World} {v : Value} (h : FnV P f vs w v) : Fn P f vs w (fun _ : Unit => True) (fun _ => v) (fun _ => []) :=
  Calls.mono h fun e w' he => ⟨(), trivial, he.1, he.2⟩
end
attribute [local irreducible] Go.wpList Go.Code.wp Go.Exit.then Go.Exit.inBlock Go.bodyPost Go.Calls pE pB G RunsV FnV Fn FnM
set_option maxRecDepth 100000
set_option maxHeartbeats 4000000
theorem itemOr_v (r : ReqM) (u : Int) : volM (itemOr r u).w (itemOr r u).h (itemOr r u).d = vOf r u := by
  rw [itemOr, vOf]; cases itemAt r u <;> rfl
theorem load_eq {r : ReqM} {us : List Int} {k : Nat} {u : Int} (hb : us[k]? = some u) : [Value.int .i64 (volUS r (us.take k) + volM (itemOr r u).w (itemOr r u).h (itemOr r u).d), Value.int .i64 (gramM r (us.take k) + (itemOr r u).g)] = [Value.int .i64 (volUS r (us.take (k + 1))), Value.int .i64 (gramM r (us.take (k + 1)))] := by
  rw [volUS_take hb, gram_take hb, itemOr_v, itemOr_g]
theorem one_sub {us : List Int} {k : Nat} {u : Int} (hb : us[k]? = some u) : ((us.map icell).drop k).take (k + 1 - k) = [u].map icell := by
  have hk := (List.getElem?_eq_some_iff.1 hb)
  obtain ⟨h1, rfl⟩ := hk
  rw [show k + 1 - k = 1 by omega, ← List.map_drop, List.drop_eq_getElem_cons h1]; rfl
theorem volUS_one (r : ReqM) (u : Int) : volUS r [u] = vOf r u := by simp [volUS]
section
variable {r : ReqM} {pv tv iv uv : Value} {us : List Int} (w : World) (h : Rd w pv 2 (r.pairs.map PairM.cells)) (h2 : Rd w tv 7 (r.types.map TypeM.cells)) (h3 : Rd w iv 7 (r.items.map ItemM.cells)) (h4 : Rd w uv 1 (us.map icell)) (hul : us.length ≤ 1048576)
include h3 h4 hul in
theorem l7Of_any {av : Value} (h5 : Rd w av 1 ((unitsM r).map ncell)) : FnV Tryz.prog 107 [.agg (r.cells pv tv iv).toArray, av, uv] w (.agg [.int .i64 (volUS r us), .int .i64 (gramM r us)].toArray) := by
  refine FnV.of (n := 46) Tryz.func107 rfl rfl ?_
  refine G.seq ?_
  refine G.region ?_
  refine G.op (og_box rfl rfl) rfl (fun bk3 _ => ?_)
  refine G.op (og_alloc) rfl (fun bk6 _ => ?_)
  refine G.done ?_
  refine G.thenN ?_
  refine G.seq ?_
  refine G.region ?_
  refine G.v (rv_build2 rfl .nil .nil) rfl ?_
  refine G.op (og_alloc) rfl (fun bk7 _ => ?_)
  (refine G.op0 (og_st0 rfl rfl rfl rfl rfl rfl (.zero (.cons (.cons .nil)))) (fun _ _ => ?_))
  refine G.done ?_
  refine G.thenN ?_
  refine G.seq ?_
  refine G.seq ?_
  refine G.region ?_
  refine G.v (rv_assign rfl) rfl ?_
  refine G.done ?_
  refine G.thenN ?_
  refine G.block ?_
  -- loop 0: turned [8], kept [1, 2, 3, 6, 7]
  refine G.loopK (ι := Nat) (ks := [1, 2, 3, 6, 7]) (fun k => [(8, .int .i64 k)]) (fun k => [.blk bk7 112 [.int .i64 (volUS r (us.take k)), .int .i64 (gramM r (us.take k))]]) (fun k => k ≤ us.length) (fun k => us.length - k) 0 (.cons rfl (.cons rfl (.cons rfl (.cons rfl (.cons rfl (.nil)))))) rfl ?_ ?_ ?_
  · exact Nat.zero_le _
  · exact ⟨rfl, trivial⟩
  rintro k hk
  have hgi := gram_in r (us.take k)
  have hvi := volUS_in r (us.take k)
  rw [List.length_take, Nat.min_eq_left hk] at hgi hvi
  by_cases hlt : k < us.length
  case' pos => (obtain ⟨u, hb⟩ := get_of_lt hlt; have e1 := get_map hb icell; have hog := itemOr_g r u; have hov := itemOr_v r u; have hg2 := gOf_in r u; have hv2 := vOf_in r u)
  all_goals
   refine G.seq ?_
   refine G.seq ?_
   refine G.region ?_
   refine G.v (rv_move rfl) rfl ?_
   refine G.v (rv_move rfl) rfl ?_
   refine G.v (rv_len rfl (by exact Rd.stays (by assumption))) rfl ?_
   refine G.v (rv_lss rfl rfl) rfl ?_
   refine G.done ?_
   refine G.thenN ?_
   refine G.cond rfl (fun hc => ?_) (fun hc => ?_)
   · try exact Bool.noConfusion hc
     all_goals
      try replace hc := of_decide_eq_true hc
      try simp only [List.length_map] at hc
      try (exfalso; omega)
      all_goals
       refine G.skip ?_
       refine G.thenN ?_
       refine G.seq ?_
       refine G.block ?_
       refine G.seq ?_
       refine G.drawL [12] ?_
       (refine GE.q 0 rfl (by as_aux_lemma => kernel_rfl) rfl (qg_runs (rv_loadW 2 rfl rfl rfl)) rfl ?_)
       refine GE.q 1 rfl (by as_aux_lemma => kernel_rfl) rfl (qg_runs (rv_move rfl)) rfl ?_
       refine GE.q 2 rfl (by as_aux_lemma => kernel_rfl) rfl (qg_runs (rv_move rfl)) rfl ?_
       refine GE.q 3 rfl (by as_aux_lemma => kernel_rfl) rfl (qg_runs (rv_move rfl)) rfl ?_
       (refine GE.q 4 rfl (by as_aux_lemma => kernel_rfl) rfl (qg_runs (rv_indexH rfl rfl (by exact Rd.stays (by assumption)) rfl (by assumption))) rfl ?_)
       refine GE.q 5 rfl (by as_aux_lemma => kernel_rfl) rfl (qg_runs (rv_loadE rfl (by exact Rd.stays (by assumption)) (by assumption) rfl)) rfl ?_
       refine GE.q 6 rfl (by as_aux_lemma => kernel_rfl) rfl (qg_call rfl rfl (fun w hh => l6Item_any (r := r) u w (Rd.stays h3 _ hh) (Rd.stays h5 _ hh))) rfl ?_
       refine GE.q 7 rfl (by as_aux_lemma => kernel_rfl) rfl (qg_runs (rv_move rfl)) rfl ?_
       refine GE.q 8 rfl (by as_aux_lemma => kernel_rfl) rfl (qg_runs (rv_extract rfl rfl)) rfl ?_
       refine GE.q 9 rfl (by as_aux_lemma => kernel_rfl) rfl (qg_runs (rv_extract rfl rfl)) rfl ?_
       refine GE.ol 10 (by as_aux_lemma => kernel_rfl) rfl rfl (og_alloc) rfl (fun _ _ h => by exact h.drop 1) (fun bk9 _ => ?_)
       (refine GE.ol0 11 (by as_aux_lemma => kernel_rfl) rfl rfl (og_st0 rfl rfl rfl rfl rfl rfl (.zero (.cons (.cons (.cons (.cons (.cons (.cons (.cons .nil))))))))) (fun _ _ h => by exact h.drop 1) (fun _ _ => ?_))
       refine GE.t 12 (by as_aux_lemma => kernel_rfl) rfl rfl rfl (og_runs (rv_assign rfl)) rfl (fun _ _ => ?_)
       refine GE.done (by as_aux_lemma => kernel_rfl) ?_
       refine G.thenN ?_
       refine G.seq ?_
       refine G.drawL [10, 11] ?_
       (refine GE.q 0 rfl (by as_aux_lemma => kernel_rfl) rfl (qg_runs (rv_field rfl)) rfl ?_)
       (refine GE.q 1 rfl (by as_aux_lemma => kernel_rfl) rfl (qg_runs (rv_load1 1 rfl rfl rfl)) rfl ?_)
       (refine GE.q 2 rfl (by as_aux_lemma => kernel_rfl) rfl (qg_runs (rv_field rfl)) rfl ?_)
       (refine GE.q 3 rfl (by as_aux_lemma => kernel_rfl) rfl (qg_runs (rv_load1 0 rfl rfl rfl)) rfl ?_)
       (refine GE.q 4 rfl (by as_aux_lemma => kernel_rfl) rfl (qg_runs (rv_field rfl)) rfl ?_)
       (refine GE.q 5 rfl (by as_aux_lemma => kernel_rfl) rfl (qg_runs (rv_load1 0 rfl rfl rfl)) rfl ?_)
       (refine GE.ol 6 (by as_aux_lemma => kernel_rfl) rfl rfl (og_runs (rv_field rfl)) rfl (fun _ _ h => by exact h) (fun _ _ => ?_))
       (refine GE.ol 7 (by as_aux_lemma => kernel_rfl) rfl rfl (og_runs (rv_load1 0 rfl rfl rfl)) rfl (fun _ _ h => by exact h) (fun _ _ => ?_))
       refine GE.ol 8 (by as_aux_lemma => kernel_rfl) rfl rfl (og_callV rfl rfl (fun w hh => svolume_any (itemOr r u).w (itemOr r u).h (itemOr r u).d w)) rfl (fun _ _ h => by exact h) (fun _ _ => ?_)
       (refine GE.ol 9 (by as_aux_lemma => kernel_rfl) rfl rfl (og_runs (rv_addB rfl rfl (by omega) (by omega))) rfl (fun _ _ h => by exact h) (fun _ _ => ?_))
       (refine GE.t 10 (by as_aux_lemma => kernel_rfl) rfl rfl rfl (og_runs (rv_field rfl)) rfl (fun _ _ => ?_))
       (refine GE.t0 11 (by as_aux_lemma => kernel_rfl) rfl rfl rfl (og_st1 rfl rfl rfl rfl rfl rfl (.zero (.cons .nil))) (fun _ _ => ?_))
       refine GE.done (by as_aux_lemma => kernel_rfl) ?_
       refine G.thenN ?_
       refine G.region ?_
       (refine G.v (rv_field rfl) rfl ?_)
       (refine G.v (rv_load1 1 rfl rfl rfl) rfl ?_)
       (refine G.v (rv_field rfl) rfl ?_)
       (refine G.v (rv_load1 0 rfl rfl rfl) rfl ?_)
       (refine G.v (rv_addB rfl rfl (by omega) (by omega)) rfl ?_)
       (refine G.v (rv_field rfl) rfl ?_)
       (refine G.op0 (og_st1 rfl rfl rfl rfl rfl rfl (.succ (.zero (.cons .nil)))) (fun _ _ => ?_))
       refine G.done ?_
       refine G.inN ?_
       refine G.thenN ?_
       refine G.region ?_
       refine G.v (rv_move rfl) rfl ?_
       (refine G.v (rv_incr rfl rfl (by omega)) rfl ?_)
       refine G.v (rv_assign rfl) rfl ?_
       refine G.done ?_
       refine G.backK (k + 1) 1 (one_eq (congrArg (fun z => Ch.blk bk7 112 z) (load_eq hb))) (.cons rfl (.cons rfl (.cons rfl (.cons rfl (.cons rfl (.nil)))))) ?_ ?_ ?_
       · exact ⟨rfl, trivial⟩
       · exact hlt
       · omega
   · try exact Bool.noConfusion hc
     all_goals
      try replace hc := of_decide_eq_false hc
      try simp only [List.length_map] at hc
      try (exfalso; omega)
      all_goals
       refine G.exit ?_
       refine G.thenX ?_
       refine G.thenX ?_
       refine G.inX ?_
       refine G.thenN ?_
       refine G.seq ?_
       refine G.region ?_
       (refine G.v (rv_loadW 0 rfl rfl rfl) rfl ?_)
       (refine G.op0 (og_st1 rfl rfl rfl rfl rfl rfl (.zero (.cons (.cons .nil)))) (fun _ _ => ?_))
       refine G.done ?_
       refine G.thenN ?_
       refine G.ret ?_
       rw [take_all (l := us) (k := k) (by omega)]; exact G.retFVc 1 rfl rfl rfl rfl rfl
include h h2 h3 h4 hul
end
end Go.Proofs.YtibkggjbkgdnkaaGreat
