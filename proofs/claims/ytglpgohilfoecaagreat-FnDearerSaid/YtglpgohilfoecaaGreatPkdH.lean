/-
  Texts of this proof, one behind the other: Draws, DrawR, DrawX, DrawG, DrawC, DrawQ, DearLaw, DearW.
-/
import Derived.Test.YtglpgohilfoecaaGreatPkdA
import Derived.Test.YtglpgohilfoecaaGreatPkdC
import Derived.Test.YtglpgohilfoecaaGreatPkdB
import Derived.Test.YtglpgohilfoecaaGreatPkdF
import Derived.Test.YtglpgohilfoecaaGreatPkdG
import Derived.Test.YtglpgohilfoecaaGreatPkdE
set_option linter.unusedVariables false
set_option linter.unusedSimpArgs false

/-
  What the draws hand out: numbers in bounds, a cursor that is moved.
-/
namespace Go.Proofs.YtglpgohilfoecaaGreat
open Go.RowKit
attribute [local irreducible] Go.wpList Go.Code.wp Go.Exit.then Go.Exit.inBlock Go.bodyPost Go.Calls pE pB G RunsV FnV Fn FnM
set_option maxRecDepth 100000
set_option maxHeartbeats 4000000

def bcell (z : Int) : List Value := [.int .u8 z]
theorem l1New_any {v : Value} {l : List Int} (w : World) (h : Rd w v 1 (l.map bcell)) : Fn Tryz.prog 123 [v] w (fun _ : Nat × Int => True) (fun x => pB x.1 0) (fun x => [.blk x.1 182 [v, .int .i64 (0 : Nat), .int .i64 x.2]]) := by
  have hle := h.le_map
  have hln : (l.map bcell).length = l.length := by simp
  have hone := h.one_
  refine Fn.of (n := 32) Tryz.func123 rfl rfl ?_; refine zaM ?_; refine zaI ?_; refine zbb ?_; refine zeg ?_; refine zd1 ?_; refine G.loopK (ι := Nat × Int) (ks := [0]) (fun x => [(3, .int .i64 x.2), (4, .int .i64 x.1)]) (fun _ => []) (fun x => x.1 ≤ l.length) (fun x => l.length - x.1) (0, IntKind.i64.wrap (26583 + ((l.map bcell).length : Int))) (.cons rfl (.nil)) rfl ?_ ?_ ?_
  exact Nat.zero_le _
  exact ⟨rfl, rfl, trivial⟩
  rintro ⟨k, z⟩ hk
  by_cases hlt : k < l.length
  case' pos => (obtain ⟨b, hb⟩ := get_of_lt hlt; have he := get_map hb bcell)
  all_goals
   refine zcr ?_; refine zbb ?_; refine zcK ?_
   all_goals (((with_reducible refine G.gP rfl rfl (fun hg => ?_) (fun hg => ?_)) <;> (try exact Bool.noConfusion hg) <;> (first | (refine zbp ?_) | refine zaK ?_)))
   all_goals ((first | (refine zcf ?_) | refine zaK ?_))
   all_goals ((first | refine za5 ?_ | refine za6 ?_))
   all_goals
    refine za8 ?_; refine G.cond rfl (fun hc => ?_) (fun hc => ?_)
    · try exact Bool.noConfusion hc
      all_goals
       replace hc := of_decide_eq_true hc
       try (exfalso; have hq := of_decide_eq_true hg; simp only [List.length_map] at hq; omega)
       all_goals
        refine zaY ?_; refine zbk ?_; refine G.v (rv_mul rfl rfl) rfl ?_; refine zbC ?_; refine zc8 ?_; refine G.v (rv_conv rfl) rfl ?_; refine zeg ?_; refine zeg ?_; refine G.v (rv_and rfl rfl) rfl ?_; refine za7 ?_; refine zaJ ?_; refine G.backK (k + 1, bits .and .i64 (IntKind.i64.wrap (IntKind.i64.wrap (IntKind.i64.wrap (z * 131) + IntKind.i64.wrap b) + 7)) 1073741823) 0 rfl (.cons rfl (.nil)) ?_ ?_ ?_
        exact ⟨rfl, rfl, trivial⟩
        exact hlt
        omega
    · all_goals
       try replace hc := of_decide_eq_false hc
       try (exfalso; have hq := of_decide_eq_true hg; simp only [List.length_map] at hq; omega)
       all_goals
        refine zaR ?_; refine zaV ?_; refine G.v (rv_build2 rfl (.cons (cells_one zc) (.cons rfl .nil)) (.cons rfl rfl (.zero (.cons .nil)) (.cons rfl rfl (.succ (.succ (.zero (.cons .nil)))) .nil))) rfl ?_; refine zcZ (fun bk31 _ => ?_); refine zb6 ?_
        exact G.retF (bk31, _) trivial rfl rfl rfl (fun w hw => hw)
theorem l1Byte_any {w0 : World} {v : Value} {l : List Int} {cb i : Nat} {h : Int} (hv : Rd w0 v 1 (l.map bcell)) (hi : i ≤ l.length) :
    FnM Tryz.prog 206 [pB cb 0] w0 [.blk cb 182 [v, .int .i64 i, .int .i64 h]] (fun x : Int × Nat × Int => (0 ≤ x.1 ∧ x.1 ≤ 255) ∧ x.2.1 ≤ l.length) (fun x => .int .i64 x.1) (fun x => [.blk cb 182 [v, .int .i64 x.2.1, .int .i64 x.2.2]]) := by
  have hle := hv.le_map
  have hone := hv.one_
  refine FnM.of (n := 58) Tryz.func206 rfl rfl (fun F => ?_); refine zfK ?_; refine G.v (rv_nilCheckB rfl) rfl ?_; refine zdv ?_; refine G.v (rv_mul rfl rfl) rfl ?_; refine zeg ?_; refine G.v (rv_nilCheckB rfl) rfl ?_; refine zaW ?_; refine G.op0 (og_st0 rfl rfl rfl rfl rfl rfl (.succ (.succ (.zero (.cons .nil))))) (fun _ _ => ?_); refine zeW ?_; refine G.drawL [12] ?_; refine zdM ?_; refine GE.q 4 rfl za rfl (qg_runs (rv_shr rfl rfl zb)) rfl ?_; refine zeT (fun _ _ => ?_); refine GE.ol 6 za rfl rfl (og_runs (rv_nilCheckB rfl)) rfl zd (fun _ _ => ?_)
  refine GE.ol 7 za rfl rfl (og_runs (rv_field rfl)) rfl zd (fun _ _ => ?_); refine GE.ol 8 za rfl rfl (og_runs (rv_load1 0 rfl rfl rfl)) rfl zd (fun _ _ => ?_); refine GE.ol 9 za rfl rfl (og_runs (rv_shr rfl rfl zb)) rfl zd (fun _ _ => ?_); refine GE.ol 10 za rfl rfl (og_runs (rv_xor rfl rfl)) rfl zd (fun _ _ => ?_); refine GE.ol 11 za rfl rfl (og_runs (rv_and rfl rfl)) rfl zd (fun _ _ => ?_); refine zcU (fun _ _ => ?_); refine zbh ?_; refine G.seq ?_; refine ze1 ?_; refine zdM ?_; refine GE.ol 4 za rfl rfl (og_runs (rv_move rfl)) rfl zd (fun _ _ => ?_)
  refine GE.ol 5 za rfl rfl (og_runs (rv_nilCheckB rfl)) rfl zd (fun _ _ => ?_); refine zdt (fun _ _ => ?_); refine ze8 (fun _ _ => ?_); refine GE.ol 8 za rfl rfl (og_runs (rv_len rfl ze)) rfl zd (fun _ _ => ?_); refine GE.ol 9 za rfl rfl (og_runs (rv_lss rfl rfl)) rfl zd (fun _ _ => ?_); refine zbh ?_; refine G.condD rfl (fun hc => ?_) (fun hc => ?_)
  · rcases Nat.lt_or_ge i l.length with h8 | h8; rotate_left; (exfalso; simp only [List.length_map] at hc; omega); obtain ⟨b, hb⟩ := get_of_lt h8; have he := get_map hb bcell; have hi2 := get_lt hb
    refine G.seq (G.drawL [14] ?_); refine zaZ ?_; refine GE.q 2 rfl za rfl (qg_runs (rv_nilCheckB rfl)) rfl ?_; refine GE.q 3 rfl za rfl (qg_runs (rv_field rfl)) rfl ?_; refine GE.q 4 rfl za rfl (qg_runs (rv_load1 0 rfl rfl rfl)) rfl ?_; refine zeT (fun _ _ => ?_); refine GE.ol 6 za rfl rfl (og_runs (rv_nilCheckB rfl)) rfl zd (fun _ _ => ?_); refine GE.ol 7 za rfl rfl (og_runs (rv_field rfl)) rfl zd (fun _ _ => ?_); refine GE.ol 8 za rfl rfl (og_runs (rv_load1 0 rfl rfl rfl)) rfl zd (fun _ _ => ?_); refine GE.ol 9 za rfl rfl (og_runs (rv_indexH rfl rfl ze rfl zc)) rfl zd (fun _ _ => ?_); refine GE.ol 10 za rfl rfl (og_runs (rv_loadE rfl ze zc rfl)) rfl zd (fun _ _ => ?_)
    refine GE.ol 11 za rfl rfl (og_runs (rv_conv rfl)) rfl zd (fun _ _ => ?_); refine GE.ol 12 za rfl rfl (og_runs (rv_add rfl rfl)) rfl zd (fun _ _ => ?_); refine GE.ol 13 za rfl rfl (og_runs (rv_and rfl rfl)) rfl zd (fun _ _ => ?_); refine GE.t 14 za rfl rfl rfl (og_runs (rv_assign rfl)) rfl (fun _ _ => ?_); refine zbh ?_; refine zd6 ?_; refine G.v (rv_nilCheckB rfl) rfl ?_; refine zdv ?_; refine zer ?_; refine G.v (rv_nilCheckB rfl) rfl ?_; refine zaW ?_; refine G.op0 (og_st0 rfl rfl rfl rfl rfl rfl (.succ (.zero (.cons .nil)))) (fun _ _ => ?_); refine za8 ?_; refine zbm ?_
    exact G.retF (_, i + 1, _) ⟨and255 _, hi2⟩ rfl rfl rfl (fun w hw => hw)
  refine zcT ?_; refine zbm ?_
  exact G.retF (_, i, _) ⟨and255 _, hi⟩ rfl rfl rfl (fun w hw => hw)
theorem l1Below_any {w0 : World} {v : Value} {l : List Int} {cb i : Nat} {h : Int} (m : Int) (hv : Rd w0 v 1 (l.map bcell)) (hi : i ≤ l.length) :
    FnM Tryz.prog 146 [pB cb 0, .int .i64 m] w0 [.blk cb 182 [v, .int .i64 i, .int .i64 h]] (fun x : Int × Nat × Int => (0 ≤ x.1 ∧ (0 < m → x.1 < m)) ∧ x.2.1 ≤ l.length) (fun x => .int .i64 x.1) (fun x => [.blk cb 182 [v, .int .i64 x.2.1, .int .i64 x.2.2]]) := by
  refine FnM.of (n := 37) Tryz.func146 rfl rfl (fun F => ?_); refine zco ?_; refine ze6 ?_; refine G.condD rfl (fun hc => ?_) (fun hc => ?_); refine zdq ?_
  exact G.retF (_, _, _) ⟨⟨Int.le_refl 0, fun h0 => absurd h0 zb⟩, hi⟩ rfl rfl rfl (fun w hw => hw)
  refine zcT ?_; refine zee ?_; refine ze6 ?_; refine G.condD rfl (fun hc => ?_) (fun hc => ?_); refine zaI ?_; refine zeu ?_; rintro ⟨xr, xi, xh⟩ ⟨⟨hx0, hx1⟩, hxi⟩; try dsimp only
  refine zaH ?_; refine G.v (rv_rem rfl rfl zb) rfl ?_; refine zb6 ?_; refine G.thenR ?_
  exact G.retF (_, _, _) ⟨⟨Int.tmod_nonneg _ zb, fun _ => Int.tmod_lt_of_pos _ zb⟩, by assumption⟩ rfl rfl rfl (fun w hw => hw)
  refine zcT ?_; refine zaI ?_; refine zeu ?_; rintro ⟨xr, xi, xh⟩ ⟨⟨hx0, hx1⟩, hxi⟩; try dsimp only
  refine zdO ?_; refine zeu ?_; rintro ⟨xr, xi, xh⟩ ⟨⟨hx0, hx1⟩, hxi⟩; try dsimp only
  refine zdO ?_; refine zeu ?_; rintro ⟨xr, xi, xh⟩ ⟨⟨hx0, hx1⟩, hxi⟩; try dsimp only
  refine zdO ?_; refine zeu ?_; rintro ⟨xr, xi, xh⟩ ⟨⟨hx0, hx1⟩, hxi⟩; try dsimp only
  refine zdO ?_; refine G.v (rv_mulB rfl rfl zb zb) rfl ?_; refine zaH ?_; refine G.v (rv_mulB rfl rfl zb zb) rfl ?_; refine zb1 ?_; refine zaH ?_; refine G.v (rv_mulB rfl rfl zb zb) rfl ?_; refine zb1 ?_; refine zaH ?_; refine zb1 ?_; refine zaH ?_; refine G.v (rv_rem rfl rfl zb) rfl ?_; refine zb6 ?_
  exact G.retF (_, _, _) ⟨⟨Int.tmod_nonneg _ zb, fun _ => Int.tmod_lt_of_pos _ zb⟩, by assumption⟩ rfl rfl rfl (fun w hw => hw)
theorem l1Once_any {w0 : World} {v : Value} {l : List Int} {cb i : Nat} {h : Int} (m : Int) (hv : Rd w0 v 1 (l.map bcell)) (hi : i ≤ l.length) :
    FnM Tryz.prog 124 [pB cb 0, .int .i64 m] w0 [.blk cb 182 [v, .int .i64 i, .int .i64 h]] (fun x : Bool × Nat × Int => x.2.1 ≤ l.length) (fun x => .bool x.1) (fun x => [.blk cb 182 [v, .int .i64 x.2.1, .int .i64 x.2.2]]) := by
  refine FnM.of (n := 9) Tryz.func124 rfl rfl (fun F => ?_); refine zfK ?_; refine zej ?_; rintro ⟨xr, xi, xh⟩ ⟨⟨hx0, hx1⟩, hxi⟩; try dsimp only
  refine zcd ?_; refine zb6 ?_
  exact G.retF (_, _, _) hxi rfl rfl rfl (fun w hw => hw)
theorem l1PickInt_any {w0 : World} {F : List Ch} {v : Value} {l : List Int} {cb i : Nat} {h : Int} {u : Value} {es : List (List Value)} (hu : ∀ w, HeapOk w0 w F → Rd w u 1 es) (hn : Nat.ble 1 es.length = true) (hs : es.all (fun e => match e with | [.int .i64 _] => true | _ => false) = true) (hv : Rd w0 v 1 (l.map bcell)) (hi : i ≤ l.length) :
    FnMF Tryz.prog 145 [pB cb 0, u] w0 [.blk cb 182 [v, .int .i64 i, .int .i64 h]] F (fun x : Int × Nat × Int => [.int .i64 x.1] ∈ es ∧ x.2.1 ≤ l.length) (fun x => .int .i64 x.1) (fun x => [.blk cb 182 [v, .int .i64 x.2.1, .int .i64 x.2.2]]) := by
  have hn' := Nat.le_of_ble_eq_true hn
  have hu' : ∀ (c : Ch) w, HeapOk w0 w (c :: F) → Rd w u 1 es := fun c w hh => hu w hh.tail
  refine FnMF.of (n := 12) Tryz.func145 rfl rfl ?_; refine zfK ?_; refine zaH ?_; refine G.v (rv_len rfl (hu' _)) rfl ?_; refine zej ?_; rintro ⟨xr, xi, xh⟩ ⟨⟨hx0, hx1⟩, hxi⟩; try dsimp only
  obtain ⟨k, rfl⟩ := Int.eq_ofNat_of_zero_le hx0; obtain ⟨e, he⟩ := get_of_lt (l := es) (k := k) zb; have hme := List.mem_of_getElem? he; obtain ⟨z, rfl⟩ := pick_int (List.all_eq_true.1 hs e hme)
  refine G.v (rv_indexH rfl rfl (hu' _) rfl zc) rfl ?_; refine G.v (rv_loadE rfl (hu' _) zc rfl) rfl ?_; refine zb6 ?_
  exact G.retF (z, _, _) ⟨hme, hxi⟩ rfl rfl rfl (fun w hw => hw)
theorem big_any {v : Value} {l : List Int} (w : World) (h : Rd w v 1 (l.map bcell)) : FnV Tryz.prog 18 [v] w (.bool (decide (((l.map bcell).length : Int) > 1048576))) := by
  refine FnV.of (n := 6) Tryz.func18 rfl rfl ?_; refine zaM ?_; refine zaI ?_; refine zbb ?_; refine zdG ?_; refine zb6 ?_
  exact G.retFV rfl rfl rfl
end Go.Proofs.YtglpgohilfoecaaGreat

/-
  Orders that the draws hand out.
-/
namespace Go.Proofs.YtglpgohilfoecaaGreat
open Go.RowKit
theorem GE.knowD {P : Program} {ops : Array Oper} {Q : Exit → Act → World → Prop} {qs : List Nat} {n : Nat} {w0 : World} {HC : List Ch} {f : Nat} {listed : Array Bool} {fr : Fr} {H : List Ch} {p : Prop} (hp : ∀ w, HeapOk w0 w H → p) (h : p → GE P ops Q qs n w0 HC f listed fr H) : GE P ops Q qs n w0 HC f listed fr H := G.know hp h
theorem G.cut {P : Program} {n : Nat} {w0 : World} {fr : Fr} {H : List Ch} {Q : Exit → Act → World → Prop} {K : Act → World → Prop} {ι : Type} {c : Code} {ks : List Nat} {gr : Fr} {H0 : List Ch} (ch : ι → Fr) (hs : ι → List Ch) (pI : ι → Prop) (m0 : Nat) (hk : Keep fr ks gr) (hH0 : H.drop m0 = H0)
    (h1 : G n w0 fr H (c.wp P (Exit.then (fun a w => ∃ i, pI i ∧ Rep n a (ch i ++ gr) ∧ HeapOk w0 w (hs i ++ H0)) Q))) (h2 : ∀ i, pI i → G n w0 (ch i ++ gr) (hs i ++ H0) (Exit.then K Q .normal)) : G n w0 fr H (c.wp P (Exit.then K Q)) := by
  intro a w hr hh
  refine wp_mono (h1 a w hr hh) fun e a' w' hq => ?_
  cases e with
  | normal => obtain ⟨i, h3, h4, h5⟩ := hq; exact h2 i h3 a' w' h4 h5
  | exit id => exact hq
  | goto l => exact hq
  | ret => exact hq
  | panic ch => exact hq
  | outgrown => exact hq
theorem G.cutEnd {n : Nat} {w0 : World} {fr : Fr} {H : List Ch} {Q : Exit → Act → World → Prop} {ι : Type} {ks : List Nat} {gr : Fr} {H0 : List Ch} {ch : ι → Fr} {hs : ι → List Ch} {pI : ι → Prop} (i' : ι) (m : Nat) (hH : H.drop m = hs i' ++ H0) (hk : Keep fr ks gr) (hc : Sub (ch i') fr) (hp : pI i') :
    G n w0 fr H (Exit.then (fun a' w' => ∃ i', pI i' ∧ Rep n a' (ch i' ++ gr) ∧ HeapOk w0 w' (hs i' ++ H0)) Q .normal) :=
  fun _ _ hr hh => ⟨i', hp, hr.sub (Sub.append hc hk.sub), hH ▸ hh.drop m⟩
attribute [local irreducible] Go.wpList Go.Code.wp Go.Exit.then Go.Exit.inBlock Go.bodyPost Go.Calls pE pB G RunsV FnV Fn FnM
set_option maxRecDepth 100000
set_option maxHeartbeats 4000000
theorem three_eqD {a a' b b' c c' : Ch} {F : List Ch} (h1 : a = a') (h2 : b = b') (h3 : c = c') : a :: b :: c :: F = [a', b', c'] ++ F := by subst h1 h2 h3; rfl
theorem G.keep3D {n : Nat} {w0 : World} {fr : Fr} {H : List Ch} (m : Nat) {c1 c2 c3 : Ch} {J : List Ch} {K : Act → World → Prop} (hH : H = c1 :: c2 :: c3 :: J) (h : G n w0 fr (c1 :: c2 :: c3 :: J.drop m) K) : G n w0 fr H K := G.heap (fun w hh => by subst hH; exact hh.sublist (List.Sublist.cons_cons _ (List.Sublist.cons_cons _ (List.Sublist.cons_cons _ (List.drop_sublist m J))))) h
/-- Drawn types have small numbers and cost little. -/
def TyFar (l : List TypeM) : Prop := ∀ t ∈ l, t.id ≤ 20 ∧ t.cost ≤ 20
theorem TyFar.snoc {l : List TypeM} {t : TypeM} (h : TyFar l) (a : t.id ≤ 20) (b : t.cost ≤ 20) : TyFar (l ++ [t]) := fun s hs => by
  rcases List.mem_append.1 hs with hs | hs
  · exact h s hs
  · rw [List.mem_singleton.1 hs]; exact ⟨a, b⟩
theorem TyFar.one {t : TypeM} (a : t.id ≤ 20) (b : t.cost ≤ 20) : TyFar [t] := fun s hs => by
  rw [List.mem_singleton.1 hs]; exact ⟨a, b⟩
theorem pick_cost {z : Int} (h : [Value.int .i64 z] ∈ [[Value.int .i64 9], [Value.int .i64 20]]) : z ≤ 20 := by
  simp only [List.mem_cons, List.cons.injEq, Value.int.injEq, List.not_mem_nil, or_false, and_true, true_and] at h
  omega
theorem l2Right_any {w0 : World} {v : Value} {l : List Int} {cb i : Nat} {h : Int} (hv : Rd w0 v 1 (l.map bcell)) (hi : i ≤ l.length) :
    FnM Tryz.prog 177 [pB cb 0] w0 [.blk cb 182 [v, .int .i64 i, .int .i64 h]] (fun x : (ReqM × Value × Value × Value) × Nat × Int => ((x.1.2.1.oneCell' = true ∧ x.1.2.2.1.oneCell' = true ∧ x.1.2.2.2.oneCell' = true) ∧ x.1.1.pairs.length ≤ 32 ∧ 1 ≤ x.1.1.types.length ∧ x.1.1.types.length ≤ 8 ∧ x.1.1.items.length ≤ 6 ∧ TyFar x.1.1.types) ∧ x.2.1 ≤ l.length)
      (fun x => .agg (x.1.1.cells x.1.2.1 x.1.2.2.1 x.1.2.2.2).toArray) (fun x => [.row x.1.2.2.2 111 7 (x.1.1.items.map ItemM.cells), .row x.1.2.2.1 56 7 (x.1.1.types.map TypeM.cells), .row x.1.2.1 138 2 (x.1.1.pairs.map PairM.cells), .blk cb 182 [v, .int .i64 x.2.1, .int .i64 x.2.2]]) := by
  refine FnM.of (n := 165) Tryz.func177 rfl rfl (fun F => ?_); refine zcv ?_; refine zbo (fun bk2 _ => ?_); refine zel ?_; refine G.op (og_callM1 rfl rfl rfl (l1Below_any _ zc zc).toF) rfl ?_; rintro ⟨wy, xi, xh⟩ ⟨⟨hx0, hx1⟩, hxi⟩; try dsimp only
  refine zbZ (fun vl _ => ?_); refine zcN ?_; rintro ⟨pw, xi, xh⟩ ⟨hxm, hxi⟩; try dsimp only
  refine zbZ (fun vl _ => ?_); refine zcN ?_; rintro ⟨pd, xi, xh⟩ ⟨hxm, hxi⟩; try dsimp only
  refine zbZ (fun vl _ => ?_); refine zcN ?_; rintro ⟨ph, xi, xh⟩ ⟨hxm, hxi⟩; try dsimp only
  refine zbZ (fun vl _ => ?_); refine zcN ?_; rintro ⟨pg, xi, xh⟩ ⟨hxm, hxi⟩; try dsimp only
  refine zbB ?_; refine zaH ?_; refine zej ?_; rintro ⟨cz, xi, xh⟩ ⟨⟨hx0, hx1⟩, hxi⟩; try dsimp only
  obtain ⟨cl, rfl⟩ := Int.eq_ofNat_of_zero_le hx0; have hcl3 : cl ≤ 3 := zb
  refine zb1 ?_; refine G.v (rv_build2 rfl (.cons rfl (.cons rfl (.cons rfl (.cons rfl .nil)))) (.cons rfl rfl (.zero (.cons .nil)) (.cons rfl rfl (.succ (.zero (.cons (.cons (.cons (.cons .nil)))))) (.cons rfl rfl (.succ (.succ (.succ (.succ (.succ (.zero (.cons .nil))))))) (.cons rfl rfl (.succ (.succ (.succ (.succ (.succ (.succ (.succ (.succ (.zero (.cons .nil)))))))))) .nil))))) rfl ?_; refine zbo (fun bk3 _ => ?_); refine G.op0 (og_st0 rfl rfl rfl rfl rfl (by repeat (rfl)) (.zero (.cons (.cons (.cons (.cons (.cons (.cons (.cons (.cons (.cons (.cons .nil)))))))))))) (fun _ _ => ?_); refine zeW ?_; refine zcb ?_; refine G.heap (fun w hh => hh.nilRow 138 2) ?_; refine G.frontB2 cb rfl ?_; refine G.frontR1 (Value.slice none 0 0) rfl ?_; refine G.frontB2 bk3 rfl ?_
  refine G.loopK (ι := Nat × Value × List PairM × Nat × Int) (ks := [0, 2, 3]) (fun x => [(4, .int .i64 (x.1 : Int))]) (fun x => [.blk bk3 41 [.int .i64 wy, .int .i64 pw, .int .i64 pd, .int .i64 ph, .int .i64 pg, .int .i64 (1 + (cl : Int)), x.2.1, .slice none 0 0, .int .i64 7, .slice none 0 0], .row x.2.1 138 2 (x.2.2.1.map PairM.cells), .blk cb 182 [v, .int .i64 x.2.2.2.1, .int .i64 x.2.2.2.2]]) (fun x => (x.1 ≤ cl + 1 ∧ x.2.2.1.length ≤ 8 * x.1) ∧ x.2.2.2.1 ≤ l.length) (fun x => cl + 1 - x.1) (0, .slice none 0 0, [], xi, xh) (.cons rfl (.cons rfl (.cons rfl (.nil)))) rfl ?_ ?_ ?_
  exact ⟨⟨Nat.zero_le _, Nat.zero_le _⟩, hxi⟩
  exact ⟨rfl, trivial⟩
  rintro ⟨a, pv, ps, xi, xh⟩ ⟨⟨ha, hpl⟩, hxi⟩
  dsimp only at ha hpl hxi ⊢
  by_cases hlt : a < cl + 1
  case' neg => (refine G.heap (fun w hh => hh.nilRow 56 7) ?_)
  all_goals
   refine zee ?_; refine zaW ?_
   first | refine zaU ?_ | refine zcX ?_
   refine zaO ?_; refine G.cond rfl (fun hc => ?_) (fun hc => ?_)
   · all_goals
      replace hc := of_decide_eq_true hc
      try (exfalso; omega)
      all_goals
       refine zaY ?_; refine zcb ?_; refine G.loopK (ι := Nat × Value × List PairM × Nat × Int) (ks := [0, 2, 3, 4]) (fun x => [(5, .int .i64 (x.1 : Int))]) (fun x => [.blk bk3 41 [.int .i64 wy, .int .i64 pw, .int .i64 pd, .int .i64 ph, .int .i64 pg, .int .i64 (1 + (cl : Int)), x.2.1, .slice none 0 0, .int .i64 7, .slice none 0 0], .row x.2.1 138 2 (x.2.2.1.map PairM.cells), .blk cb 182 [v, .int .i64 x.2.2.2.1, .int .i64 x.2.2.2.2]]) (fun x => (x.1 ≤ a + 1 ∧ x.2.2.1.length ≤ 8 * a + 2 * x.1) ∧ x.2.2.2.1 ≤ l.length) (fun x => a + 1 - x.1) (0, pv, ps, xi, xh) (.cons rfl (.cons rfl (.cons rfl (.cons rfl (.nil))))) rfl ?_ ?_ ?_
       exact ⟨⟨Nat.zero_le _, by dsimp only; omega⟩, hxi⟩
       exact ⟨rfl, trivial⟩
       rintro ⟨b, pv2, ps2, xi2, xh2⟩ ⟨⟨hb, hpl2⟩, hxi2⟩
       dsimp only at hb hpl2 hxi2 ⊢
       have hpl3 : (ps2.map PairM.cells).length = ps2.length := by simp
       all_goals
        refine zcr ?_; refine ze6 ?_; refine G.cond rfl (fun hc => ?_) (fun hc => ?_)
        · all_goals
           replace hc := of_decide_eq_true hc
           all_goals
            refine zaY ?_; refine zaV ?_; refine zcd ?_; refine za8 ?_; refine G.cond rfl (fun hc => ?_) (fun hc => ?_)
            · all_goals
               replace hc := of_decide_eq_true hc
               all_goals
                refine zbu ?_; refine zbC ?_; refine zcP ?_; refine zaX (fun vx _ => ?_); refine zei (fun va _ => ?_); refine G.know (fun w hw => by exact (Rd.owned 2 rfl (v := va) w hw).one_) (fun hova => ?_); refine zaW ?_; refine G.op0 (og_st1 rfl rfl rfl (cells_one zc) rfl (by repeat (first | rfl | refine one_cons zc ?_)) (.succ (.succ (.succ (.succ (.succ (.succ (.zero (.cons .nil))))))))) (fun _ _ => ?_); refine G.done ?_; refine zaJ ?_; refine G.frontB3 cb rfl ?_; refine G.frontR3 va rfl ?_; refine G.frontB3 bk3 rfl ?_; refine G.keep3D 1 rfl ?_; refine G.backK (b + 1, va, ps2 ++ [⟨_, _⟩], _, _) 0 (by (exact three_eqD rfl (congrArg (fun z => Ch.row va 138 2 z) zL) rfl)) (.cons rfl (.cons rfl (.cons rfl (.cons rfl (.nil))))) ?_ ?_ ?_
                exact ⟨rfl, trivial⟩
                exact ⟨⟨by dsimp only; omega, by simp; omega⟩, by assumption⟩
                dsimp only; omega
            · all_goals
               replace hc := of_decide_eq_false hc
               all_goals
                refine zaI ?_; refine G.op (og_callM2 rfl rfl rfl (l1Once_any _ zc zc).toF) rfl ?_; rintro ⟨xr, xi, xh⟩ hxi; try dsimp only
                refine za8 ?_; refine G.cond rfl (fun hc => ?_) (fun hc => ?_)
                · all_goals
                   all_goals
                    refine G.region ?_; refine zbg ?_; refine zbC ?_; refine zcP ?_; refine zbC ?_; refine zcP ?_; refine G.op (og_lit rfl (.cons rfl (.cons rfl .nil)) rfl rfl rfl rfl rfl rfl) rfl (fun vx _ => ?_); refine zcy (fun va _ => ?_); refine G.know (fun w hw => by exact (Rd.owned 3 rfl (v := va) w hw).one_) (fun hova => ?_); refine zaW ?_; refine G.op0 (og_st2 rfl rfl rfl (cells_one zc) rfl (by repeat (first | rfl | refine one_cons zc ?_)) (.succ (.succ (.succ (.succ (.succ (.succ (.zero (.cons .nil))))))))) (fun _ _ => ?_); refine G.done ?_; refine zaJ ?_; refine zdw ?_; refine G.frontR3 va rfl ?_; refine G.frontB3 bk3 rfl ?_
                    refine G.keep3D 1 rfl ?_; refine G.backK (b + 1, va, ps2 ++ [⟨_, _⟩, ⟨_, _⟩], _, _) 0 (by (exact three_eqD rfl (congrArg (fun z => Ch.row va 138 2 z) zL) rfl)) (.cons rfl (.cons rfl (.cons rfl (.cons rfl (.nil))))) ?_ ?_ ?_
                    exact ⟨rfl, trivial⟩
                    exact ⟨⟨by dsimp only; omega, by simp; omega⟩, by assumption⟩
                    dsimp only; omega
                · all_goals
                   all_goals
                    refine zfT ?_; refine zfJ ?_; refine G.frontR2 pv2 rfl ?_; refine G.frontB2 bk3 rfl ?_; refine G.keep3D 0 rfl ?_; refine G.backK (b + 1, pv2, ps2, _, _) 0 (by exact three_eqD rfl rfl rfl) (.cons rfl (.cons rfl (.cons rfl (.cons rfl (.nil))))) ?_ ?_ ?_
                    exact ⟨rfl, trivial⟩
                    exact ⟨⟨by dsimp only; omega, by simp; omega⟩, by assumption⟩
                    dsimp only; omega
        · all_goals
           replace hc := of_decide_eq_false hc
           all_goals
            refine zc5 ?_; refine zaJ ?_; refine G.backK (a + 1, pv2, ps2, xi2, xh2) 0 rfl (.cons rfl (.cons rfl (.cons rfl (.nil)))) ?_ ?_ ?_
            exact ⟨rfl, trivial⟩
            exact ⟨⟨by dsimp only; omega, by dsimp only; omega⟩, hxi2⟩
            dsimp only; omega
   · all_goals
      replace hc := of_decide_eq_false hc
      try (exfalso; omega)
      all_goals
       refine zaR ?_; refine G.seq (G.frontB3 cb rfl ?_); refine G.frontR1 (Value.slice none 0 0) rfl ?_; refine G.frontB2 bk3 rfl ?_; refine G.cut (ι := Value × TypeM × Nat × Int) (ks := [0, 2, 3]) (fun _ => []) (fun x => [.blk bk3 41 [.int .i64 wy, .int .i64 pw, .int .i64 pd, .int .i64 ph, .int .i64 pg, .int .i64 (1 + (cl : Int)), pv, x.1, .int .i64 7, .slice none 0 0], .row x.1 56 7 [x.2.1.cells], .blk cb 182 [v, .int .i64 x.2.2.1, .int .i64 x.2.2.2]]) (fun x => (x.1.oneCell' = true ∧ TyFar [x.2.1]) ∧ x.2.2.1 ≤ l.length) 3 (.cons rfl (.cons rfl (.cons rfl (.nil)))) rfl ?_ ?_
       focus
        refine G.frontB2 cb rfl ?_; refine G.frontR2 (Value.slice none 0 0) rfl ?_; refine G.drawD2 [13, 14] rfl ?_; refine zeH ?_; refine GE.q2 4 rfl za rfl (qg_runs (rv_move rfl)) zr rfl ?_; refine GE.q2 7 rfl za rfl (qg_runs (rv_move rfl)) zr rfl ?_; refine GE.any (rs := [3, 5, 8]) za zE ?_; refine List.forall_mem_cons.2 ⟨?_, List.forall_mem_cons.2 ⟨?_, List.forall_mem_cons.2 ⟨?_, fun _ h => absurd h List.not_mem_nil⟩⟩⟩
        focus
         refine GE.pickOp rfl rfl rfl (og_callM1 rfl rfl rfl (l1Below_any _ zc zc).toF) rfl zf ?_; rintro ⟨xr, xi, xh⟩ ⟨⟨hx0, hx1⟩, hxi⟩; try dsimp only
         refine GE.any (rs := [5, 8]) za zE ?_; refine List.forall_mem_cons.2 ⟨?_, List.forall_mem_cons.2 ⟨?_, fun _ h => absurd h List.not_mem_nil⟩⟩
         focus
          refine GE.pickOp rfl rfl rfl (og_lit rfl (.cons rfl (.cons rfl (.cons rfl .nil))) rfl rfl rfl rfl rfl rfl) rfl zm (fun vl _ => ?_); refine GE.any (rs := [6, 8]) za zE ?_; refine List.forall_mem_cons.2 ⟨?_, List.forall_mem_cons.2 ⟨?_, fun _ h => absurd h List.not_mem_nil⟩⟩
          focus
           refine GE.pickOp rfl rfl rfl (og_callM1 rfl rfl rfl (l1PickInt_any zg rfl rfl zc zc)) rfl zm ?_; rintro ⟨xr, xi, xh⟩ ⟨hxm, hxi⟩; try dsimp only
           refine GE.ol 8 za rfl rfl (og_lit rfl (.cons rfl (.cons rfl .nil)) rfl rfl rfl rfl rfl rfl) rfl zt (fun vl _ => ?_); refine GE.ol 9 za rfl rfl (og_callM1 rfl rfl rfl (l1PickInt_any zg rfl rfl zc zc)) rfl zt ?_; rintro ⟨xr, xi, xh⟩ ⟨hxm, hxi⟩; try dsimp only
           refine zaN (fun _ _ => ?_); refine zb8 (fun vl _ => ?_); refine zcx (fun tv1 _ => ?_)
           skip; refine zcH (fun hotv => ?_)
           refine zc2 (fun _ _ => ?_); refine GE.t0 14 za rfl rfl rfl (og_st5 rfl rfl rfl (cells_one zc) rfl (by repeat (first | rfl | refine one_cons zc ?_)) (.succ (.succ (.succ (.succ (.succ (.succ (.succ (.zero (.cons .nil)))))))))) (fun _ _ => ?_); refine zb2 ?_
          rotate_left
          focus
           refine zeX (fun vl _ => ?_); refine GE.ol 6 za rfl rfl (og_callM2 rfl rfl rfl (l1PickInt_any zk rfl rfl zc zc)) rfl zt ?_; rintro ⟨xr, xi, xh⟩ ⟨hxm, hxi⟩; try dsimp only
           refine zfA ?_; rintro ⟨xr, xi, xh⟩ ⟨hxm, hxi⟩; try dsimp only
           refine zaN (fun _ _ => ?_); refine zb8 (fun vl _ => ?_); refine zcx (fun tv1 _ => ?_)
           skip; refine zcH (fun hotv => ?_)
           refine zc2 (fun _ _ => ?_); refine GE.t0 14 za rfl rfl rfl (og_st5 rfl rfl rfl (cells_one zc) rfl (by repeat (first | rfl | refine one_cons zc ?_)) (.succ (.succ (.succ (.succ (.succ (.succ (.succ (.zero (.cons .nil)))))))))) (fun _ _ => ?_); refine zb2 ?_
          rotate_left
         rotate_left 2
         focus
          refine GE.pickOp rfl rfl rfl (og_lit rfl (.cons rfl (.cons rfl .nil)) rfl rfl rfl rfl rfl rfl) rfl zm (fun vl _ => ?_); refine GE.ol 5 za rfl rfl (og_lit rfl (.cons rfl (.cons rfl (.cons rfl .nil))) rfl rfl rfl rfl rfl rfl) rfl zt (fun vl _ => ?_); refine GE.ol 6 za rfl rfl (og_callM2 rfl rfl rfl (l1PickInt_any zg rfl rfl zc zc)) rfl zt ?_; rintro ⟨xr, xi, xh⟩ ⟨hxm, hxi⟩; try dsimp only
          refine zfB ?_; rintro ⟨xr, xi, xh⟩ ⟨hxm, hxi⟩; try dsimp only
          refine zaN (fun _ _ => ?_); refine zb8 (fun vl _ => ?_); refine zcx (fun tv1 _ => ?_)
          skip; refine zcH (fun hotv => ?_)
          refine zc2 (fun _ _ => ?_); refine GE.t0 14 za rfl rfl rfl (og_st5 rfl rfl rfl (cells_one zc) rfl (by repeat (first | rfl | refine one_cons zc ?_)) (.succ (.succ (.succ (.succ (.succ (.succ (.succ (.zero (.cons .nil)))))))))) (fun _ _ => ?_); refine zb2 ?_
         rotate_left
        rotate_left 3
        focus
         refine GE.pickOp rfl rfl rfl (og_lit rfl (.cons rfl (.cons rfl (.cons rfl .nil))) rfl rfl rfl rfl rfl rfl) rfl zm (fun vl _ => ?_); refine GE.any (rs := [3, 8]) za zE ?_; refine List.forall_mem_cons.2 ⟨?_, List.forall_mem_cons.2 ⟨?_, fun _ h => absurd h List.not_mem_nil⟩⟩
         focus
          refine GE.pickOp rfl rfl rfl (og_callM2 rfl rfl rfl (l1Below_any _ zc zc).toF) rfl zm ?_; rintro ⟨xr, xi, xh⟩ ⟨⟨hx0, hx1⟩, hxi⟩; try dsimp only
          refine GE.any (rs := [6, 8]) za zE ?_; refine List.forall_mem_cons.2 ⟨?_, List.forall_mem_cons.2 ⟨?_, fun _ h => absurd h List.not_mem_nil⟩⟩
          focus
           refine GE.pickOp rfl rfl rfl (og_callM0 rfl rfl rfl (l1PickInt_any zg rfl rfl zc zc)) rfl zm ?_; rintro ⟨xr, xi, xh⟩ ⟨hxm, hxi⟩; try dsimp only
           refine GE.ol 8 za rfl rfl (og_lit rfl (.cons rfl (.cons rfl .nil)) rfl rfl rfl rfl rfl rfl) rfl zt (fun vl _ => ?_); refine GE.ol 9 za rfl rfl (og_callM1 rfl rfl rfl (l1PickInt_any zg rfl rfl zc zc)) rfl zt ?_; rintro ⟨xr, xi, xh⟩ ⟨hxm, hxi⟩; try dsimp only
           refine zaN (fun _ _ => ?_); refine zb8 (fun vl _ => ?_); refine zcx (fun tv1 _ => ?_)
           skip; refine zcH (fun hotv => ?_)
           refine zc2 (fun _ _ => ?_); refine GE.t0 14 za rfl rfl rfl (og_st5 rfl rfl rfl (cells_one zc) rfl (by repeat (first | rfl | refine one_cons zc ?_)) (.succ (.succ (.succ (.succ (.succ (.succ (.succ (.zero (.cons .nil)))))))))) (fun _ _ => ?_); refine zb2 ?_
          rotate_left
          focus
           refine zeX (fun vl _ => ?_); refine GE.ol 6 za rfl rfl (og_callM1 rfl rfl rfl (l1PickInt_any zk rfl rfl zc zc)) rfl zt ?_; rintro ⟨xr, xi, xh⟩ ⟨hxm, hxi⟩; try dsimp only
           refine zfA ?_; rintro ⟨xr, xi, xh⟩ ⟨hxm, hxi⟩; try dsimp only
           refine zaN (fun _ _ => ?_); refine zb8 (fun vl _ => ?_); refine zcx (fun tv1 _ => ?_)
           skip; refine zcH (fun hotv => ?_)
           refine zc2 (fun _ _ => ?_); refine GE.t0 14 za rfl rfl rfl (og_st5 rfl rfl rfl (cells_one zc) rfl (by repeat (first | rfl | refine one_cons zc ?_)) (.succ (.succ (.succ (.succ (.succ (.succ (.succ (.zero (.cons .nil)))))))))) (fun _ _ => ?_); refine zb2 ?_
          rotate_left
         rotate_left 2
         focus
          refine zeX (fun vl _ => ?_); refine GE.ol 3 za rfl rfl (og_callM3 rfl rfl rfl (l1Below_any _ zc zc).toF) rfl zt ?_; rintro ⟨xr, xi, xh⟩ ⟨⟨hx0, hx1⟩, hxi⟩; try dsimp only
          refine GE.ol 6 za rfl rfl (og_callM0 rfl rfl rfl (l1PickInt_any zk rfl rfl zc zc)) rfl zt ?_; rintro ⟨xr, xi, xh⟩ ⟨hxm, hxi⟩; try dsimp only
          refine zfA ?_; rintro ⟨xr, xi, xh⟩ ⟨hxm, hxi⟩; try dsimp only
          refine zaN (fun _ _ => ?_); refine zb8 (fun vl _ => ?_); refine zcx (fun tv1 _ => ?_)
          skip; refine zcH (fun hotv => ?_)
          refine zc2 (fun _ _ => ?_); refine GE.t0 14 za rfl rfl rfl (og_st5 rfl rfl rfl (cells_one zc) rfl (by repeat (first | rfl | refine one_cons zc ?_)) (.succ (.succ (.succ (.succ (.succ (.succ (.succ (.zero (.cons .nil)))))))))) (fun _ _ => ?_); refine zb2 ?_
         rotate_left
        rotate_left 3
        focus
         refine GE.pickOp rfl rfl rfl (og_lit rfl (.cons rfl (.cons rfl .nil)) rfl rfl rfl rfl rfl rfl) rfl zm (fun vl _ => ?_); refine GE.any (rs := [3, 5]) za zE ?_; refine List.forall_mem_cons.2 ⟨?_, List.forall_mem_cons.2 ⟨?_, fun _ h => absurd h List.not_mem_nil⟩⟩
         focus
          refine GE.pickOp rfl rfl rfl (og_callM2 rfl rfl rfl (l1Below_any _ zc zc).toF) rfl zm ?_; rintro ⟨xr, xi, xh⟩ ⟨⟨hx0, hx1⟩, hxi⟩; try dsimp only
          refine GE.ol 5 za rfl rfl (og_lit rfl (.cons rfl (.cons rfl (.cons rfl .nil))) rfl rfl rfl rfl rfl rfl) rfl zt (fun vl _ => ?_); refine GE.ol 6 za rfl rfl (og_callM1 rfl rfl rfl (l1PickInt_any zg rfl rfl zc zc)) rfl zt ?_; rintro ⟨xr, xi, xh⟩ ⟨hxm, hxi⟩; try dsimp only
          refine zfB ?_; rintro ⟨xr, xi, xh⟩ ⟨hxm, hxi⟩; try dsimp only
          refine zaN (fun _ _ => ?_); refine zb8 (fun vl _ => ?_); refine zcx (fun tv1 _ => ?_)
          skip; refine zcH (fun hotv => ?_)
          refine zc2 (fun _ _ => ?_); refine GE.t0 14 za rfl rfl rfl (og_st5 rfl rfl rfl (cells_one zc) rfl (by repeat (first | rfl | refine one_cons zc ?_)) (.succ (.succ (.succ (.succ (.succ (.succ (.succ (.zero (.cons .nil)))))))))) (fun _ _ => ?_); refine zb2 ?_
         rotate_left
         focus
          refine GE.pickOp rfl rfl rfl (og_lit rfl (.cons rfl (.cons rfl (.cons rfl .nil))) rfl rfl rfl rfl rfl rfl) rfl zt (fun vl _ => ?_); refine GE.ol 3 za rfl rfl (og_callM3 rfl rfl rfl (l1Below_any _ zc zc).toF) rfl zt ?_; rintro ⟨xr, xi, xh⟩ ⟨⟨hx0, hx1⟩, hxi⟩; try dsimp only
          refine GE.ol 6 za rfl rfl (og_callM0 rfl rfl rfl (l1PickInt_any zg rfl rfl zc zc)) rfl zt ?_; rintro ⟨xr, xi, xh⟩ ⟨hxm, hxi⟩; try dsimp only
          refine zfB ?_; rintro ⟨xr, xi, xh⟩ ⟨hxm, hxi⟩; try dsimp only
          refine zaN (fun _ _ => ?_); refine zb8 (fun vl _ => ?_); refine zcx (fun tv1 _ => ?_)
          skip; refine zcH (fun hotv => ?_)
          refine zc2 (fun _ _ => ?_); refine GE.t0 14 za rfl rfl rfl (og_st5 rfl rfl rfl (cells_one zc) rfl (by repeat (first | rfl | refine one_cons zc ?_)) (.succ (.succ (.succ (.succ (.succ (.succ (.succ (.zero (.cons .nil)))))))))) (fun _ _ => ?_); refine zb2 ?_
         rotate_left
        rotate_left 2
        all_goals
         refine zdw ?_; refine G.frontR4 tv1 rfl ?_; refine G.frontB5 bk3 rfl ?_; refine G.keep3D 3 rfl ?_; refine G.cutEnd (tv1, ⟨_, _, _, _, _, _, _⟩, _, _) 0 rfl (.cons rfl (.cons rfl (.cons rfl (.nil)))) ?_ ?_
         exact trivial
         exact ⟨⟨hotv, TyFar.one (Int.le_of_lt (by decide : (7 : Int) < 20)) (pick_cost zc)⟩, by assumption⟩
       rintro ⟨tv1, ty1, xi, xh⟩ ⟨⟨hotv, hty1⟩, hxi⟩
       dsimp only at hotv hty1 hxi ⊢
       refine G.thenN ?_; refine zaI ?_; refine G.op (og_callM2 rfl rfl rfl (l1Below_any _ zc zc).toF) rfl ?_; rintro ⟨xr, xi, xh⟩ ⟨⟨hx0, hx1⟩, hxi⟩; try dsimp only
       obtain ⟨n, rfl⟩ := Int.eq_ofNat_of_zero_le hx0; have hn4 : n ≤ 4 := zb
       refine zd1 ?_; refine zfJ ?_; refine G.frontR2 tv1 rfl ?_; refine G.frontB2 bk3 rfl ?_; refine G.loopK (ι := Nat × Value × List TypeM × Nat × Int) (ks := [0, 2, 3, 6]) (fun x => [(7, .int .i64 (x.1 : Int))]) (fun x => [.blk bk3 41 [.int .i64 wy, .int .i64 pw, .int .i64 pd, .int .i64 ph, .int .i64 pg, .int .i64 (1 + (cl : Int)), pv, x.2.1, .int .i64 7, .slice none 0 0], .row x.2.1 56 7 (x.2.2.1.map TypeM.cells), .blk cb 182 [v, .int .i64 x.2.2.2.1, .int .i64 x.2.2.2.2]]) (fun x => (x.1 ≤ n ∧ x.2.2.1.length = x.1 + 1 ∧ TyFar x.2.2.1) ∧ x.2.2.2.1 ≤ l.length) (fun x => n - x.1) (0, tv1, [ty1], _, _) (.cons rfl (.cons rfl (.cons rfl (.cons rfl (.nil))))) rfl ?_ ?_ ?_
       exact ⟨⟨Nat.zero_le _, rfl, hty1⟩, by assumption⟩
       exact ⟨rfl, trivial⟩
       rintro ⟨k, tv, ty, xi, xh⟩ ⟨⟨hk, htl, htf⟩, hxi⟩
       dsimp only at hk htl htf hxi ⊢
       have htl3 : (ty.map TypeM.cells).length = ty.length := by simp
       by_cases hlt2 : k < n
       case' neg => (refine G.heap (fun w hh => hh.nilRow 111 7) ?_)
       all_goals
        refine zcr ?_; refine zaO ?_; refine G.cond rfl (fun hc => ?_) (fun hc => ?_)
        · all_goals
           replace hc := of_decide_eq_true hc
           try (exfalso; omega)
           all_goals
            refine zaY ?_; refine G.frontB2 cb rfl ?_; refine G.frontR2 tv rfl ?_; refine G.drawD2 [24, 25] rfl ?_; refine zeH ?_; refine GE.q2 3 rfl za rfl (qg_runs (rv_addB rfl rfl zb zb)) zr rfl ?_; refine GE.q2 4 rfl za rfl (qg_runs (rv_move rfl)) zr rfl ?_; refine GE.q2 7 rfl za rfl (qg_runs (rv_move rfl)) zr rfl ?_; refine GE.q2 10 rfl za rfl (qg_runs (rv_move rfl)) zr rfl ?_; refine GE.q2 13 rfl za rfl (qg_runs (rv_move rfl)) zr rfl ?_; refine GE.q2 15 rfl za rfl (qg_runs (rv_move rfl)) zr rfl ?_; refine GE.q2 18 rfl za rfl (qg_runs (rv_move rfl)) zr rfl ?_
            refine GE.ol 5 za rfl rfl (og_callM1 rfl rfl rfl (l1Below_any _ zc zc).toF) rfl zf ?_; rintro ⟨xr, xi, xh⟩ ⟨⟨hx0, hx1⟩, hxi⟩; try dsimp only
            refine GE.q2 6 rfl za rfl (qg_runs (rv_addB rfl rfl zb zb)) zr rfl ?_; refine GE.ol 8 za rfl rfl (og_callM0 rfl rfl rfl (l1Below_any _ zc zc).toF) rfl zf ?_; rintro ⟨xr, xi, xh⟩ ⟨⟨hx0, hx1⟩, hxi⟩; try dsimp only
            refine GE.q2 9 rfl za rfl (qg_runs (rv_addB rfl rfl zb zb)) zr rfl ?_; refine GE.ol 11 za rfl rfl (og_callM0 rfl rfl rfl (l1Below_any _ zc zc).toF) rfl zf ?_; rintro ⟨xr, xi, xh⟩ ⟨⟨hx0, hx1⟩, hxi⟩; try dsimp only
            refine GE.q2 12 rfl za rfl (qg_runs (rv_addB rfl rfl zb zb)) zr rfl ?_; refine GE.ol 14 za rfl rfl (og_callM0 rfl rfl rfl (l1Below_any _ zc zc).toF) rfl zf ?_; rintro ⟨xr, xi, xh⟩ ⟨⟨hx0, hx1⟩, hxi⟩; try dsimp only
            refine GE.ol 16 za rfl rfl (og_callM0 rfl rfl rfl (l1Below_any _ zc zc).toF) rfl zf ?_; rintro ⟨xr, xi, xh⟩ ⟨⟨hx0, hx1⟩, hxi⟩; try dsimp only
            refine GE.q2 17 rfl za rfl (qg_runs (rv_addB rfl rfl zb zb)) zr rfl ?_; refine zcR ?_; rintro ⟨xr, xi, xh⟩ ⟨⟨hx0, hx1⟩, hxi⟩; try dsimp only
            refine zcY (fun _ _ => ?_); refine zaS (fun _ _ => ?_); refine GE.ol 22 za rfl rfl (og_lit rfl (.cons rfl .nil) rfl rfl rfl rfl rfl rfl) rfl zm (fun vl _ => ?_); refine GE.ol 23 za rfl rfl (og_app2 rfl rfl rfl zg rfl rfl zh zh) rfl zm (fun tv2 _ => ?_)
            skip; refine GE.knowD (fun w hw => (Rd.owned 2 rfl (v := tv2) w hw).one_) (fun hotv2 => ?_)
            refine GE.t 24 za rfl rfl rfl (og_runs (rv_field rfl)) rfl (fun _ _ => ?_); refine GE.t0 25 za rfl rfl rfl (og_st3 rfl rfl rfl (cells_one zc) rfl (by repeat (first | rfl | refine one_cons zc ?_)) (.succ (.succ (.succ (.succ (.succ (.succ (.succ (.zero (.cons .nil)))))))))) (fun _ _ => ?_); refine zb2 ?_; refine zaJ ?_; refine zdw ?_; refine G.frontR2 tv2 rfl ?_; refine G.frontB3 bk3 rfl ?_; refine G.keep3D 1 rfl ?_; refine G.backK (k + 1, tv2, ty ++ [⟨_, _, _, _, _, _, _⟩], _, _) 0 (three_eqD rfl (congrArg (fun z => Ch.row tv2 56 7 z) zL) rfl) (.cons rfl (.cons rfl (.cons rfl (.cons rfl (.nil))))) ?_ ?_ ?_
            exact ⟨rfl, trivial⟩
            exact ⟨⟨by dsimp only; omega, by simp; omega, htf.snoc (by dsimp only; omega) (by dsimp only; omega)⟩, by assumption⟩
            dsimp only; omega
        · all_goals
           replace hc := of_decide_eq_false hc
           try (exfalso; omega)
           all_goals
            refine zaR ?_; refine zaI ?_; refine G.op (og_callM3 rfl rfl rfl (l1Below_any _ zc zc).toF) rfl ?_; rintro ⟨xr, xi, xh⟩ ⟨⟨hx0, hx1⟩, hxi⟩; try dsimp only
            obtain ⟨mn, rfl⟩ := Int.eq_ofNat_of_zero_le hx0; have hmn5 : mn ≤ 5 := zb
            refine zaG ?_; refine zaM ?_; refine G.seq ?_; refine zcb ?_; refine zfJ ?_; refine G.frontR1 (Value.slice none 0 0) rfl ?_; refine G.frontB2 bk3 rfl ?_; refine G.loopK (ι := Nat × Int × Value × List ItemM × Nat × Int) (ks := [0, 2, 3, 8]) (fun x => [(9, .int .i64 x.2.1), (10, .int .i64 (x.1 : Int))]) (fun x => [.blk bk3 41 [.int .i64 wy, .int .i64 pw, .int .i64 pd, .int .i64 ph, .int .i64 pg, .int .i64 (1 + (cl : Int)), pv, tv, .int .i64 7, x.2.2.1], .row x.2.2.1 111 7 (x.2.2.2.1.map ItemM.cells), .blk cb 182 [v, .int .i64 x.2.2.2.2.1, .int .i64 x.2.2.2.2.2]]) (fun x => (x.1 ≤ mn ∧ x.2.2.2.1.length ≤ x.1 ∧ 0 ≤ x.2.1 ∧ x.2.1 ≤ 12) ∧ x.2.2.2.2.1 ≤ l.length) (fun x => mn - x.1) (0, 0, .slice none 0 0, [], _, _) (.cons rfl (.cons rfl (.cons rfl (.cons rfl (.nil))))) rfl ?_ ?_ ?_
            exact ⟨⟨Nat.zero_le _, Nat.le_refl _, Int.le_refl _, by dsimp only; omega⟩, by assumption⟩
            exact ⟨rfl, rfl, trivial⟩
            rintro ⟨j, un, iv, its, xi, xh⟩ ⟨⟨hj, hil, hun0, hun⟩, hxi⟩
            dsimp only at hj hil hun0 hun hxi ⊢
            have hil3 : (its.map ItemM.cells).length = its.length := by simp
            all_goals
             refine zcr ?_; refine zaO ?_; refine G.cond rfl (fun hc => ?_) (fun hc => ?_)
             · all_goals
                replace hc := of_decide_eq_true hc
                all_goals
                 refine zaY ?_; refine G.seq (G.frontB2 cb rfl ?_); refine G.cut (ι := Nat × (Int × Int × Int × Int × Int × Int × Int) × Nat × Int) (ks := [0, 2, 3, 8, 9, 10]) (fun x => [(11, pB x.1 0)]) (fun x => [.blk x.1 111 [.int .i64 x.2.1.1, .int .i64 x.2.1.2.1, .int .i64 x.2.1.2.2.1, .int .i64 x.2.1.2.2.2.1, .int .i64 x.2.1.2.2.2.2.1, .int .i64 x.2.1.2.2.2.2.2.1, .int .i64 x.2.1.2.2.2.2.2.2], .blk cb 182 [v, .int .i64 x.2.2.1, .int .i64 x.2.2.2]]) (fun x => (1 ≤ x.2.1.2.2.2.2.2.2 ∧ x.2.1.2.2.2.2.2.2 ≤ 4) ∧ x.2.2.1 ≤ l.length) 1 (.cons rfl (.cons rfl (.cons rfl (.cons rfl (.cons rfl (.cons rfl (.nil))))))) rfl ?_ ?_
                 focus
                  refine zfJ ?_; refine G.drawD1 [23] rfl ?_; refine zdu ?_; refine GE.q2 1 rfl za rfl (qg_runs (rv_mulB rfl rfl zb zb)) zl rfl ?_; refine zeU ?_; refine GE.q2 5 rfl za rfl (qg_runs (rv_move rfl)) zl rfl ?_; refine GE.q2 8 rfl za rfl (qg_runs (rv_move rfl)) zl rfl ?_; refine GE.q2 11 rfl za rfl (qg_runs (rv_move rfl)) zl rfl ?_; refine GE.q2 14 rfl za rfl (qg_runs (rv_move rfl)) zl rfl ?_; refine GE.q2 15 rfl za rfl (qg_runs (rv_field rfl)) zl rfl ?_; refine GE.q2 16 rfl za rfl (qg_runs (rv_load1 0 rfl rfl rfl)) zl rfl ?_; refine GE.q2 18 rfl za rfl (qg_runs (rv_move rfl)) zl rfl ?_; refine GE.any (rs := [3, 22]) za zE ?_; refine List.forall_mem_cons.2 ⟨?_, List.forall_mem_cons.2 ⟨?_, fun _ h => absurd h List.not_mem_nil⟩⟩
                  focus
                   refine zcM ?_; rintro ⟨xr, xi, xh⟩ ⟨⟨hx0, hx1⟩, hxi⟩; try dsimp only
                   refine GE.q2 4 rfl za rfl (qg_runs (rv_addB rfl rfl zb zb)) zl rfl ?_; refine GE.any (rs := [6, 22]) za zE ?_; refine List.forall_mem_cons.2 ⟨?_, List.forall_mem_cons.2 ⟨?_, fun _ h => absurd h List.not_mem_nil⟩⟩
                   focus
                    refine zcM ?_; rintro ⟨xr, xi, xh⟩ ⟨⟨hx0, hx1⟩, hxi⟩; try dsimp only
                    refine GE.q2 7 rfl za rfl (qg_runs (rv_addB rfl rfl zb zb)) zl rfl ?_; refine GE.any (rs := [9, 22]) za zE ?_; refine List.forall_mem_cons.2 ⟨?_, List.forall_mem_cons.2 ⟨?_, fun _ h => absurd h List.not_mem_nil⟩⟩
                    focus
                     refine zcM ?_; rintro ⟨xr, xi, xh⟩ ⟨⟨hx0, hx1⟩, hxi⟩; try dsimp only
                     refine GE.q2 10 rfl za rfl (qg_runs (rv_addB rfl rfl zb zb)) zl rfl ?_; refine GE.any (rs := [12, 22]) za zE ?_; refine List.forall_mem_cons.2 ⟨?_, List.forall_mem_cons.2 ⟨?_, fun _ h => absurd h List.not_mem_nil⟩⟩
                     focus
                      refine zcM ?_; rintro ⟨xr, xi, xh⟩ ⟨⟨hx0, hx1⟩, hxi⟩; try dsimp only
                      refine GE.q2 13 rfl za rfl (qg_runs (rv_addB rfl rfl zb zb)) zl rfl ?_; refine GE.any (rs := [17, 22]) za zE ?_; refine List.forall_mem_cons.2 ⟨?_, List.forall_mem_cons.2 ⟨?_, fun _ h => absurd h List.not_mem_nil⟩⟩
                      focus
                       refine zcM ?_; rintro ⟨xr, xi, xh⟩ ⟨⟨hx0, hx1⟩, hxi⟩; try dsimp only
                       refine GE.any (rs := [19, 22]) za zE ?_; refine List.forall_mem_cons.2 ⟨?_, List.forall_mem_cons.2 ⟨?_, fun _ h => absurd h List.not_mem_nil⟩⟩
                       focus
                        refine zcM ?_; rintro ⟨ct, xi, xh⟩ ⟨⟨hct0, hct1⟩, hxi⟩; try dsimp only
                        refine GE.q2 20 rfl za rfl (qg_runs (rv_addB rfl rfl zb zb)) zl rfl ?_; refine GE.q2 21 rfl za rfl (qg_runs (rv_build2 rfl (.cons rfl (.cons rfl (.cons rfl (.cons rfl (.cons rfl (.cons rfl (.cons rfl .nil))))))) (.cons rfl rfl (.zero (.cons .nil)) (.cons rfl rfl (.succ (.zero (.cons .nil))) (.cons rfl rfl (.succ (.succ (.zero (.cons .nil)))) (.cons rfl rfl (.succ (.succ (.succ (.zero (.cons .nil))))) (.cons rfl rfl (.succ (.succ (.succ (.succ (.zero (.cons .nil)))))) (.cons rfl rfl (.succ (.succ (.succ (.succ (.succ (.zero (.cons .nil))))))) (.cons rfl rfl (.succ (.succ (.succ (.succ (.succ (.succ (.zero (.cons .nil)))))))) .nil))))))))) zl rfl ?_; refine GE.ol 22 za rfl rfl (og_alloc) rfl zf (fun bk11 _ => ?_); refine GE.t0 23 za rfl rfl rfl (og_st0 rfl rfl rfl rfl rfl rfl (.zero (.cons (.cons (.cons (.cons (.cons (.cons (.cons .nil))))))))) (fun _ _ => ?_); refine zb2 ?_
                       rotate_left
                       focus
                        refine zdl (fun bk11 _ => ?_); refine GE.ol 19 za rfl rfl (og_callM1 rfl rfl rfl (l1Below_any _ zc zc).toF) rfl zf ?_; rintro ⟨ct, xi, xh⟩ ⟨⟨hct0, hct1⟩, hxi⟩; try dsimp only
                        refine zcY (fun _ _ => ?_); refine zaS (fun _ _ => ?_); refine zbU (fun _ _ => ?_); refine zb2 ?_
                       rotate_left
                      rotate_left 2
                      focus
                       refine zdl (fun bk11 _ => ?_); refine GE.ol 17 za rfl rfl (og_callM1 rfl rfl rfl (l1Below_any _ zc zc).toF) rfl zf ?_; rintro ⟨xr, xi, xh⟩ ⟨⟨hx0, hx1⟩, hxi⟩; try dsimp only
                       refine zcR ?_; rintro ⟨ct, xi, xh⟩ ⟨⟨hct0, hct1⟩, hxi⟩; try dsimp only
                       refine zcY (fun _ _ => ?_); refine zaS (fun _ _ => ?_); refine zbU (fun _ _ => ?_); refine zb2 ?_
                      rotate_left
                     rotate_left 3
                     focus
                      refine zdl (fun bk11 _ => ?_); refine GE.ol 12 za rfl rfl (og_callM1 rfl rfl rfl (l1Below_any _ zc zc).toF) rfl zf ?_; rintro ⟨xr, xi, xh⟩ ⟨⟨hx0, hx1⟩, hxi⟩; try dsimp only
                      refine zcA ?_; rintro ⟨xr, xi, xh⟩ ⟨⟨hx0, hx1⟩, hxi⟩; try dsimp only
                      refine zcR ?_; rintro ⟨ct, xi, xh⟩ ⟨⟨hct0, hct1⟩, hxi⟩; try dsimp only
                      refine zcY (fun _ _ => ?_); refine zaS (fun _ _ => ?_); refine zbU (fun _ _ => ?_); refine zb2 ?_
                     rotate_left
                    rotate_left 4
                    focus
                     refine zdl (fun bk11 _ => ?_); refine GE.ol 9 za rfl rfl (og_callM1 rfl rfl rfl (l1Below_any _ zc zc).toF) rfl zf ?_; rintro ⟨xr, xi, xh⟩ ⟨⟨hx0, hx1⟩, hxi⟩; try dsimp only
                     refine zdi ?_; rintro ⟨xr, xi, xh⟩ ⟨⟨hx0, hx1⟩, hxi⟩; try dsimp only
                     refine zcA ?_; rintro ⟨xr, xi, xh⟩ ⟨⟨hx0, hx1⟩, hxi⟩; try dsimp only
                     refine zcR ?_; rintro ⟨ct, xi, xh⟩ ⟨⟨hct0, hct1⟩, hxi⟩; try dsimp only
                     refine zcY (fun _ _ => ?_); refine zaS (fun _ _ => ?_); refine zbU (fun _ _ => ?_); refine zb2 ?_
                    rotate_left
                   rotate_left 5
                   focus
                    refine zdl (fun bk11 _ => ?_); refine GE.ol 6 za rfl rfl (og_callM1 rfl rfl rfl (l1Below_any _ zc zc).toF) rfl zf ?_; rintro ⟨xr, xi, xh⟩ ⟨⟨hx0, hx1⟩, hxi⟩; try dsimp only
                    refine zfL ?_; rintro ⟨xr, xi, xh⟩ ⟨⟨hx0, hx1⟩, hxi⟩; try dsimp only
                    refine zdi ?_; rintro ⟨xr, xi, xh⟩ ⟨⟨hx0, hx1⟩, hxi⟩; try dsimp only
                    refine zcA ?_; rintro ⟨xr, xi, xh⟩ ⟨⟨hx0, hx1⟩, hxi⟩; try dsimp only
                    refine zcR ?_; rintro ⟨ct, xi, xh⟩ ⟨⟨hct0, hct1⟩, hxi⟩; try dsimp only
                    refine zcY (fun _ _ => ?_); refine zaS (fun _ _ => ?_); refine zbU (fun _ _ => ?_); refine zb2 ?_
                   rotate_left
                  rotate_left 6
                  focus
                   refine zdl (fun bk11 _ => ?_); refine zfV ?_; rintro ⟨xr, xi, xh⟩ ⟨⟨hx0, hx1⟩, hxi⟩; try dsimp only
                   refine GE.q2 4 rfl za rfl (qg_runs (rv_addB rfl rfl zb zb)) zr rfl ?_; refine GE.ol 6 za rfl rfl (og_callM0 rfl rfl rfl (l1Below_any _ zc zc).toF) rfl zf ?_; rintro ⟨xr, xi, xh⟩ ⟨⟨hx0, hx1⟩, hxi⟩; try dsimp only
                   refine zfL ?_; rintro ⟨xr, xi, xh⟩ ⟨⟨hx0, hx1⟩, hxi⟩; try dsimp only
                   refine zdi ?_; rintro ⟨xr, xi, xh⟩ ⟨⟨hx0, hx1⟩, hxi⟩; try dsimp only
                   refine zcA ?_; rintro ⟨xr, xi, xh⟩ ⟨⟨hx0, hx1⟩, hxi⟩; try dsimp only
                   refine zcR ?_; rintro ⟨ct, xi, xh⟩ ⟨⟨hct0, hct1⟩, hxi⟩; try dsimp only
                   refine zcY (fun _ _ => ?_); refine zaS (fun _ _ => ?_); refine zbU (fun _ _ => ?_); refine zb2 ?_
                  rotate_left
                  all_goals
                   first | refine zfJ ?_ | refine zdw ?_
                   refine G.frontB1 bk11 rfl ?_; refine G.cutEnd (_, (_, _, _, _, _, _, _), _, _) 0 rfl (.cons rfl (.cons rfl (.cons rfl (.cons rfl (.cons rfl (.cons rfl (.nil))))))) ?_ ?_
                   exact ⟨rfl, trivial⟩
                   exact ⟨⟨by dsimp only; omega, by dsimp only; omega⟩, by assumption⟩
                 rintro ⟨bk4, ⟨xid, xw, xh2, xd, xg, xc, ct⟩, xi, xh⟩ ⟨⟨hct0, hct1⟩, hxi⟩
                 dsimp only at hct0 hct1 hxi ⊢
                 refine G.thenN ?_; refine zee ?_; refine G.op (og_callM1 rfl rfl rfl (l1Once_any _ zc zc).toF) rfl ?_; rintro ⟨xr, xi, xh⟩ hxi; try dsimp only
                 refine za8 ?_; refine G.cond rfl (fun hc => ?_) (fun hc => ?_)
                 · all_goals
                    all_goals
                     refine zcv ?_; refine zaW ?_; refine G.op0 (og_st1 rfl rfl rfl rfl rfl rfl (.succ (.zero (.cons .nil)))) (fun _ _ => ?_); refine za8 ?_; refine zcv ?_; refine zaW ?_; refine G.op0 (og_st1 rfl rfl rfl rfl rfl rfl (.succ (.succ (.zero (.cons .nil))))) (fun _ _ => ?_); refine za8 ?_; refine zbk ?_; refine zej ?_; rintro ⟨xr, xi, xh⟩ ⟨⟨hx0, hx1⟩, hxi⟩; try dsimp only
                     refine zb1 ?_; refine zaW ?_; refine G.op0 (og_st1 rfl rfl rfl rfl rfl rfl (.succ (.succ (.succ (.zero (.cons .nil)))))) (fun _ _ => ?_); refine zel ?_; refine zbg ?_; refine zb1 ?_; refine ze6 ?_; refine G.cond rfl (fun hc => ?_) (fun hc => ?_)
                     · all_goals
                        replace hc := of_decide_eq_true hc
                        all_goals
                         refine zcv ?_; refine zbr ?_; refine G.v (rv_loadW 1 rfl rfl rfl) rfl ?_; refine zaX (fun vx _ => ?_); refine G.op (og_app4 rfl rfl rfl zg rfl rfl zh zh) rfl (fun iv2 _ => ?_); refine G.know (fun w hw => by exact (Rd.owned 4 rfl (v := iv2) w hw).one_) (fun hoiv2 => ?_); refine zaW ?_; refine G.op0 (og_st3 rfl rfl rfl (cells_one zc) rfl (by repeat (first | rfl | refine one_cons zc ?_)) (.succ (.succ (.succ (.succ (.succ (.succ (.succ (.succ (.succ (.zero (.cons .nil)))))))))))) (fun _ _ => ?_); refine za8 ?_; refine zbk ?_; refine zbr ?_; refine zb1 ?_; refine za7 ?_; refine zaJ ?_; refine zdw ?_; refine G.frontR4 iv2 rfl ?_; refine G.frontB4 bk3 rfl ?_
                         refine G.keep3D 2 rfl ?_; refine G.backK (j + 1, un + ct, iv2, its ++ [⟨_, _, _, _, _, _, _⟩], _, _) 0 (by (exact three_eqD rfl (congrArg (fun z => Ch.row iv2 111 7 z) zL) rfl)) (.cons rfl (.cons rfl (.cons rfl (.cons rfl (.nil))))) ?_ ?_ ?_
                         exact ⟨rfl, rfl, trivial⟩
                         exact ⟨⟨by dsimp only; omega, by simp; omega, by dsimp only; omega, by dsimp only; omega⟩, by assumption⟩
                         dsimp only; omega
                     · all_goals
                        replace hc := of_decide_eq_false hc
                        all_goals
                         refine zfT ?_; refine zfJ ?_; refine G.frontR3 iv rfl ?_; refine G.frontB3 bk3 rfl ?_; refine G.keep3D 1 rfl ?_; refine G.backK (j + 1, un, iv, its, _, _) 0 (by exact three_eqD rfl rfl rfl) (.cons rfl (.cons rfl (.cons rfl (.cons rfl (.nil))))) ?_ ?_ ?_
                         exact ⟨rfl, rfl, trivial⟩
                         exact ⟨⟨by dsimp only; omega, by simp; omega, by dsimp only; omega, by dsimp only; omega⟩, by assumption⟩
                         dsimp only; omega
                 · all_goals
                    all_goals
                     refine zcT ?_; refine zaI ?_; refine zbg ?_; refine zb1 ?_; refine ze6 ?_; refine G.cond rfl (fun hc => ?_) (fun hc => ?_)
                     · all_goals
                        replace hc := of_decide_eq_true hc
                        all_goals
                         refine zcv ?_; refine zbr ?_; refine G.v (rv_loadW 1 rfl rfl rfl) rfl ?_; refine zaX (fun vx _ => ?_); refine G.op (og_app4 rfl rfl rfl zg rfl rfl zh zh) rfl (fun iv2 _ => ?_); refine G.know (fun w hw => by exact (Rd.owned 4 rfl (v := iv2) w hw).one_) (fun hoiv2 => ?_); refine zaW ?_; refine G.op0 (og_st3 rfl rfl rfl (cells_one zc) rfl (by repeat (first | rfl | refine one_cons zc ?_)) (.succ (.succ (.succ (.succ (.succ (.succ (.succ (.succ (.succ (.zero (.cons .nil)))))))))))) (fun _ _ => ?_); refine za8 ?_; refine zbk ?_; refine zbr ?_; refine zb1 ?_; refine za7 ?_; refine zaJ ?_; refine zdw ?_; refine G.frontR4 iv2 rfl ?_; refine G.frontB4 bk3 rfl ?_
                         refine G.keep3D 2 rfl ?_; refine G.backK (j + 1, un + ct, iv2, its ++ [⟨_, _, _, _, _, _, _⟩], _, _) 0 (by (exact three_eqD rfl (congrArg (fun z => Ch.row iv2 111 7 z) zL) rfl)) (.cons rfl (.cons rfl (.cons rfl (.cons rfl (.nil))))) ?_ ?_ ?_
                         exact ⟨rfl, rfl, trivial⟩
                         exact ⟨⟨by dsimp only; omega, by simp; omega, by dsimp only; omega, by dsimp only; omega⟩, by assumption⟩
                         dsimp only; omega
                     · all_goals
                        replace hc := of_decide_eq_false hc
                        all_goals
                         refine zfT ?_; refine zfJ ?_; refine G.frontR3 iv rfl ?_; refine G.frontB3 bk3 rfl ?_; refine G.keep3D 1 rfl ?_; refine G.backK (j + 1, un, iv, its, _, _) 0 (by exact three_eqD rfl rfl rfl) (.cons rfl (.cons rfl (.cons rfl (.cons rfl (.nil))))) ?_ ?_ ?_
                         exact ⟨rfl, rfl, trivial⟩
                         exact ⟨⟨by dsimp only; omega, by simp; omega, by dsimp only; omega, by dsimp only; omega⟩, by assumption⟩
                         dsimp only; omega
             · all_goals
                replace hc := of_decide_eq_false hc
                all_goals
                 refine zaR ?_; refine za1 ?_; refine G.know (fun w hw => by exact (Rd.owned 1 rfl (v := iv) w hw).one_) (fun hoiv => ?_); refine G.know (fun w hw => by exact (Rd.owned 3 rfl (v := tv) w hw).one_) (fun hotv => ?_); refine G.know (fun w hw => by exact (Rd.owned 4 rfl (v := pv) w hw).one_) (fun hopv => ?_); refine G.op0 (og_st9 rfl rfl rfl rfl rfl (by repeat (first | rfl | refine one_cons zx ?_)) (.zero (.cons (.cons (.cons (.cons (.cons (.cons (.cons (.cons (.cons (.cons .nil)))))))))))) (fun _ _ => ?_); refine zcO ?_; refine G.frontB2 cb rfl ?_; refine G.frontR4 pv rfl ?_; refine G.frontR4 tv rfl ?_; refine G.frontR4 iv rfl ?_
                 exact G.retFc ((⟨wy, ⟨pw, pd, ph, pg⟩, 1 + (cl : Int), ps, ty, 7, its⟩, pv, tv, iv), xi, xh) ⟨⟨⟨hopv, hotv, hoiv⟩, by dsimp only; omega, by dsimp only; omega, by dsimp only; omega, by dsimp only; omega, htf⟩, hxi⟩ 9 rfl rfl rfl rfl rfl (fun w hh => hh.sublist (by repeat (first | exact List.Sublist.refl _ | refine List.Sublist.cons_cons _ ?_ | refine List.Sublist.cons _ ?_)))
end Go.Proofs.YtglpgohilfoecaaGreat

/-
  An order that the draws hand out, with one thing turned.
-/
namespace Go.Proofs.YtglpgohilfoecaaGreat
open Go.RowKit
attribute [local irreducible] Go.wpList Go.Code.wp Go.Exit.then Go.Exit.inBlock Go.bodyPost Go.Calls pE pB G RunsV FnV Fn FnM
set_option maxRecDepth 100000
set_option maxHeartbeats 4000000
theorem TyFar.set {l : List TypeM} {k : Nat} {t s : TypeM} (h : TyFar l) (ht : l[k]? = some t) (a : s.id = t.id) (b : s.cost = t.cost) : TyFar (l.set k s) := fun u hu => by
  rcases List.mem_or_eq_of_mem_set hu with hu | hu
  · exact h u hu
  · have := h t (List.mem_of_getElem? ht)
    rw [hu, a, b]; exact this
theorem TyFar.head {l : List TypeM} {t s : TypeM} (h : TyFar (t :: l)) (a : s.id = t.id) (b : s.cost = t.cost) : TyFar (s :: l) := TyFar.set (k := 0) h rfl a b
theorem TyFar.dbl {l : List TypeM} {t : TypeM} (h : TyFar (t :: l)) : TyFar (t :: l ++ [t]) := h.snoc (h t List.mem_cons_self).1 (h t List.mem_cons_self).2
theorem TyFar.nil : TyFar [] := fun _ h => absurd h List.not_mem_nil
theorem l2Draw_any {w0 : World} {v : Value} {l : List Int} {cb i : Nat} {h : Int} (hv : Rd w0 v 1 (l.map bcell)) (hi : i ≤ l.length) :
    FnM Tryz.prog 126 [pB cb 0] w0 [.blk cb 182 [v, .int .i64 i, .int .i64 h]] (fun x : ((ReqM × Value × Value × Value) × Value × List (List Value)) × Nat × Int => ((x.1.1.2.1.oneCell' = true ∧ x.1.1.2.2.1.oneCell' = true ∧ x.1.1.2.2.2.oneCell' = true) ∧ (∀ w, Rd w x.1.2.1 2 x.1.2.2 → Rd w x.1.1.2.1 2 (x.1.1.1.pairs.map PairM.cells)) ∧ x.1.1.1.pairs.length ≤ 33 ∧ x.1.1.1.types.length ≤ 9 ∧ x.1.1.1.items.length ≤ 7 ∧ TyFar x.1.1.1.types) ∧ x.2.1 ≤ l.length)
      (fun x => .agg (x.1.1.1.cells x.1.1.2.1 x.1.1.2.2.1 x.1.1.2.2.2).toArray) (fun x => [.row x.1.1.2.2.2 111 7 (x.1.1.1.items.map ItemM.cells), .row x.1.1.2.2.1 56 7 (x.1.1.1.types.map TypeM.cells), .row x.1.2.1 138 2 x.1.2.2, .blk cb 182 [v, .int .i64 x.2.1, .int .i64 x.2.2]]) := by
  refine FnM.of (n := 120) Tryz.func126 rfl rfl (fun F => ?_); refine zcv ?_; refine zbo (fun bk2 _ => ?_); refine zel ?_
  (refine zdw ?_); refine G.op (og_callN0 rfl rfl rfl (l2Right_any zc zc).toF) rfl ?_; rintro ⟨⟨r, pv, tv, iv⟩, xi, xh⟩ ⟨⟨⟨hopv, hotv, hoiv⟩, hpl, htl1, htl, hil, htf⟩, hxi⟩; try dsimp only
  obtain ⟨wy, ⟨pw, pd, ph, pg⟩, cl, ps, ty, ms, its⟩ := r; try dsimp only [ReqM.cells] at hpl htl1 htl hil ⊢
  obtain ⟨t0, tr, rfl⟩ : ∃ t0 tr, ty = t0 :: tr := (by cases ty with | nil => exact absurd htl1 (by decide) | cons a b => exact ⟨a, b, rfl⟩)
  have htr : tr.length ≤ 7 := Nat.le_of_succ_le_succ htl; replace hxi : xi ≤ l.length := hxi
  refine zbo (fun bk3 _ => ?_); refine G.op0 (og_st0 rfl rfl rfl rfl rfl (by repeat (first | rfl | refine one_cons zx ?_)) (.zero (.cons (.cons (.cons (.cons (.cons (.cons (.cons (.cons (.cons (.cons .nil)))))))))))) (fun _ _ => ?_); refine zel ?_; refine G.op (og_lit rfl (.cons rfl (.cons rfl (.cons rfl (.cons rfl (.cons rfl (.cons rfl .nil)))))) rfl rfl rfl rfl rfl rfl) rfl (fun vl _ => ?_); refine G.op (og_callM5 rfl rfl rfl (l1PickInt_any zg rfl rfl zc zc)) rfl ?_; rintro ⟨far, xi, xh⟩ ⟨hxm, hxi⟩; try dsimp only
  refine ze7 ?_; refine zej ?_; rintro ⟨xr, xi, xh⟩ ⟨⟨hx0, hx1⟩, hxi⟩; try dsimp only
  refine za8 ?_; refine G.block ?_; refine zdA ?_; refine G.condD rfl (fun hc => ?_) (fun hc => ?_)
  · refine G.region ?_
    refine zaH ?_; refine G.op (og_lit rfl (.cons rfl (.cons rfl .nil)) rfl rfl rfl rfl rfl rfl) rfl (fun vl _ => ?_); refine zcN ?_; rintro ⟨xr, xi, xh⟩ ⟨hxm, hxi⟩; try dsimp only
    refine zaW ?_; refine G.op0 (og_st3 rfl rfl rfl rfl rfl rfl (.zero (.cons .nil))) (fun _ _ => ?_); refine G.done (G.inN (G.thenN ?_)); refine zec ?_; refine G.op0 (og_st7 rfl rfl rfl rfl rfl (by repeat (first | rfl | refine one_cons zx ?_)) (.zero (.cons (.cons (.cons (.cons (.cons (.cons (.cons (.cons (.cons (.cons .nil)))))))))))) (fun _ _ => ?_); refine zcO ?_
    (refine G.frontB7 bk2 rfl ?_); (refine zdw ?_); (refine G.frontR7 pv rfl ?_); (refine G.frontR7 tv rfl ?_); (refine G.frontR7 iv rfl ?_); refine G.retFc (((⟨_, ⟨_, _, _, _⟩, _, ps, t0 :: tr, _, its⟩, pv, tv, iv), pv, ps.map PairM.cells), xi, xh) ⟨⟨⟨zc, zc, zc⟩, fun _ h => h, zq, zq, zq, zaC⟩, hxi⟩ 4 rfl rfl rfl rfl rfl (fun w hh => hh.sublist ?_); (repeat (first | exact List.Sublist.refl _ | refine List.Sublist.cons_cons _ ?_ | refine List.Sublist.cons _ ?_)); done
  refine zdA ?_; refine G.condD rfl (fun hc => ?_) (fun hc => ?_)
  · refine G.region ?_
    refine zaH ?_; refine zaW ?_; refine zaW ?_; refine G.op0 (og_st2 rfl rfl rfl rfl rfl rfl (.succ (.zero (.cons .nil)))) (fun _ _ => ?_); refine G.done (G.inN (G.thenN ?_)); refine zbJ ?_; refine G.op0 (og_st6 rfl rfl rfl rfl rfl (by repeat (first | rfl | refine one_cons zx ?_)) (.zero (.cons (.cons (.cons (.cons (.cons (.cons (.cons (.cons (.cons (.cons .nil)))))))))))) (fun _ _ => ?_); refine zcO ?_
    (refine zfs ?_); (refine zdw ?_); (refine G.frontR6 pv rfl ?_); (refine G.frontR6 tv rfl ?_); (refine G.frontR6 iv rfl ?_); refine G.retFc (((⟨_, ⟨_, _, _, _⟩, _, ps, t0 :: tr, _, its⟩, pv, tv, iv), pv, ps.map PairM.cells), xi, xh) ⟨⟨⟨zc, zc, zc⟩, fun _ h => h, zq, zq, zq, zaC⟩, hxi⟩ 4 rfl rfl rfl rfl rfl (fun w hh => hh.sublist ?_); (repeat (first | exact List.Sublist.refl _ | refine List.Sublist.cons_cons _ ?_ | refine List.Sublist.cons _ ?_)); done
  refine zdA ?_; refine G.condD rfl (fun hc => ?_) (fun hc => ?_)
  · refine G.region ?_
    refine zaH ?_; refine zaW ?_; refine zaW ?_; refine G.op0 (og_st2 rfl rfl rfl rfl rfl rfl (.succ (.succ (.succ (.succ (.zero (.cons .nil))))))) (fun _ _ => ?_); refine G.done (G.inN (G.thenN ?_)); refine zbJ ?_; refine G.op0 (og_st6 rfl rfl rfl rfl rfl (by repeat (first | rfl | refine one_cons zx ?_)) (.zero (.cons (.cons (.cons (.cons (.cons (.cons (.cons (.cons (.cons (.cons .nil)))))))))))) (fun _ _ => ?_); refine zcO ?_
    (refine zfs ?_); (refine zdw ?_); (refine G.frontR6 pv rfl ?_); (refine G.frontR6 tv rfl ?_); (refine G.frontR6 iv rfl ?_); refine G.retFc (((⟨_, ⟨_, _, _, _⟩, _, ps, t0 :: tr, _, its⟩, pv, tv, iv), pv, ps.map PairM.cells), xi, xh) ⟨⟨⟨zc, zc, zc⟩, fun _ h => h, zq, zq, zq, zaC⟩, hxi⟩ 4 rfl rfl rfl rfl rfl (fun w hh => hh.sublist ?_); (repeat (first | exact List.Sublist.refl _ | refine List.Sublist.cons_cons _ ?_ | refine List.Sublist.cons _ ?_)); done
  refine zdA ?_; refine G.condD rfl (fun hc => ?_) (fun hc => ?_)
  · refine G.region ?_
    refine zbZ (fun vl _ => ?_); refine zcN ?_; rintro ⟨xr, xi, xh⟩ ⟨hxm, hxi⟩; try dsimp only
    refine zaW ?_; refine G.op0 (og_st3 rfl rfl rfl rfl rfl rfl (.succ (.succ (.succ (.succ (.succ (.zero (.cons .nil)))))))) (fun _ _ => ?_); refine G.done (G.inN (G.thenN ?_)); refine zec ?_; refine G.op0 (og_st7 rfl rfl rfl rfl rfl (by repeat (first | rfl | refine one_cons zx ?_)) (.zero (.cons (.cons (.cons (.cons (.cons (.cons (.cons (.cons (.cons (.cons .nil)))))))))))) (fun _ _ => ?_); refine zcO ?_
    (refine G.frontB7 bk2 rfl ?_); (refine zdw ?_); (refine G.frontR7 pv rfl ?_); (refine G.frontR7 tv rfl ?_); (refine G.frontR7 iv rfl ?_); refine G.retFc (((⟨_, ⟨_, _, _, _⟩, _, ps, t0 :: tr, _, its⟩, pv, tv, iv), pv, ps.map PairM.cells), xi, xh) ⟨⟨⟨zc, zc, zc⟩, fun _ h => h, zq, zq, zq, zaC⟩, hxi⟩ 4 rfl rfl rfl rfl rfl (fun w hh => hh.sublist ?_); (repeat (first | exact List.Sublist.refl _ | refine List.Sublist.cons_cons _ ?_ | refine List.Sublist.cons _ ?_)); done
  refine zdA ?_; refine G.condD rfl (fun hc => ?_) (fun hc => ?_)
  · refine zfJ ?_
    refine G.frontR5 pv rfl ?_; refine G.drawD2 [10, 11] rfl ?_; refine zeI ?_; refine GE.q2 5 rfl za rfl (qg_runs (rv_move rfl)) zr rfl ?_; refine zfV ?_; rintro ⟨xa, xi, xh⟩ ⟨⟨hx0, hx1⟩, hxi⟩; try dsimp only
    refine GE.q2 4 rfl za rfl (qg_runs (rv_subB rfl rfl zb zb)) zr rfl ?_; refine GE.ol 6 za rfl rfl (og_callM0 rfl rfl rfl (l1Below_any _ zc zc).toF) rfl zf ?_; rintro ⟨xb, xi, xh⟩ ⟨⟨hy0, hy1⟩, hxi⟩; try dsimp only
    refine GE.ol 7 za rfl rfl (og_runs (rv_build2 rfl (.cons rfl (.cons rfl .nil)) (.cons rfl rfl (.zero (.cons .nil)) (.cons rfl rfl (.succ (.zero (.cons .nil))) .nil)))) rfl zf (fun _ _ => ?_); refine GE.ol 8 za rfl rfl (og_lit rfl (.cons rfl .nil) rfl rfl rfl rfl rfl rfl) rfl zm (fun vl _ => ?_); refine GE.ol 9 za rfl rfl (og_app2 rfl rfl rfl zg rfl rfl zh zh) rfl zm (fun vp _ => ?_); refine GE.knowD (fun w hw => by exact (Rd.owned 2 rfl (v := vp) w hw).one_) (fun hovp => ?_); refine GE.t 10 za rfl rfl rfl (og_runs (rv_field rfl)) rfl (fun _ _ => ?_); refine GE.t0 11 za rfl rfl rfl (og_st4 rfl rfl rfl (cells_one zc) rfl (by repeat (first | rfl | refine one_cons zc ?_)) (.succ (.succ (.succ (.succ (.succ (.succ (.zero (.cons .nil))))))))) (fun _ _ => ?_); refine zb2 ?_; refine G.inN (G.thenN ?_); refine zcv ?_; refine G.v (rv_loadW 4 rfl rfl rfl) rfl ?_; refine G.op0 (og_st7 rfl rfl rfl rfl rfl (by repeat (first | rfl | refine one_cons zx ?_)) (.zero (.cons (.cons (.cons (.cons (.cons (.cons (.cons (.cons (.cons (.cons .nil)))))))))))) (fun _ _ => ?_); refine G.done ?_
    refine G.thenN (G.ret ?_)
    (refine G.frontB7 bk2 rfl ?_); (refine G.frontB2 cb rfl ?_); (refine G.frontR3 vp rfl ?_); refine G.rowEq ((ps ++ [(⟨xa - 1, xb⟩ : PairM)]).map PairM.cells) zL rfl ?_; (refine G.frontR7 tv rfl ?_); (refine G.frontR7 iv rfl ?_); refine G.retFc (((⟨_, ⟨_, _, _, _⟩, _, ps ++ [⟨xa - 1, xb⟩], t0 :: tr, _, its⟩, vp, tv, iv), vp, (ps ++ [(⟨xa - 1, xb⟩ : PairM)]).map PairM.cells), xi, xh) ⟨⟨⟨zc, zc, zc⟩, fun _ h => h, zy, zq, zq, zaC⟩, hxi⟩ 4 rfl rfl rfl rfl rfl (fun w hh => hh.sublist ?_); (repeat (first | exact List.Sublist.refl _ | refine List.Sublist.cons_cons _ ?_ | refine List.Sublist.cons _ ?_)); done
  refine zdA ?_; refine G.condD rfl (fun hc => ?_) (fun hc => ?_)
  · refine G.region ?_
    refine zbr ?_; refine zaH ?_; refine G.v (rv_indexH rfl rfl zT rfl zaq) rfl ?_; refine zca ?_; refine G.op0 (og_stE4 rfl rfl rfl zaq rfl rfl rfl rfl (.succ (.succ (.zero (.cons .nil))))) (fun _ _ => ?_); refine G.done (G.inN (G.thenN ?_)); refine zbJ ?_; refine G.op0 (og_st6 rfl rfl rfl rfl rfl (by repeat (first | rfl | refine one_cons zx ?_)) (.zero (.cons (.cons (.cons (.cons (.cons (.cons (.cons (.cons (.cons (.cons .nil)))))))))))) (fun _ _ => ?_); refine zcO ?_
    (refine zfs ?_); (refine zdw ?_); (refine G.frontR6 pv rfl ?_); (refine G.frontR6 tv rfl ?_); refine G.rowEq (({ t0 with h := far } :: tr).map TypeM.cells) rfl rfl ?_; (refine G.frontR6 iv rfl ?_); refine G.retFc (((⟨_, ⟨_, _, _, _⟩, _, ps, { t0 with h := far } :: tr, _, its⟩, pv, tv, iv), pv, ps.map PairM.cells), xi, xh) ⟨⟨⟨zc, zc, zc⟩, fun _ h => h, zq, zy, zq, (by exact htf.head rfl rfl)⟩, hxi⟩ 4 rfl rfl rfl rfl rfl (fun w hh => hh.sublist ?_); (repeat (first | exact List.Sublist.refl _ | refine List.Sublist.cons_cons _ ?_ | refine List.Sublist.cons _ ?_)); done
  refine zdA ?_; refine G.condD rfl (fun hc => ?_) (fun hc => ?_)
  · refine zfJ ?_
    refine G.drawD1 [8, 9, 10] rfl ?_; refine GE.q2 0 rfl za rfl (qg_runs (rv_field rfl)) zl rfl ?_; refine GE.q2 1 rfl za rfl (qg_runs (rv_load1 1 rfl rfl rfl)) zl rfl ?_; refine zeU ?_; refine GE.q2 3 rfl za rfl (qg_runs (rv_field rfl)) zl rfl ?_; refine GE.q2 4 rfl za rfl (qg_runs (rv_load1 1 rfl rfl rfl)) zl rfl ?_; refine GE.q2 5 rfl za rfl (qg_runs (rv_len rfl zC)) zl rfl ?_; refine GE.q2 7 rfl za rfl (qg_runs (rv_move rfl)) zl rfl ?_; refine GE.ol 6 za rfl rfl (og_callM0 rfl rfl rfl (l1Below_any _ zc zc).toF) rfl zj ?_; rintro ⟨xr, xi, xh⟩ ⟨⟨hx0, hx1⟩, hxi⟩; try dsimp only
    obtain ⟨k, rfl⟩ := Int.eq_ofNat_of_zero_le hx0; obtain ⟨t1, ht1⟩ := get_of_lt (l := t0 :: tr) (k := k) (by dsimp only at *; simp at *; omega); have hel := get_map ht1 TypeM.cells
    refine GE.t 8 za rfl rfl rfl (og_runs (rv_indexH rfl rfl zT rfl zc)) rfl (fun _ _ => ?_); refine zdp (fun _ _ => ?_); refine GE.t0 10 za rfl rfl rfl (og_stE4 rfl rfl rfl zc rfl rfl rfl rfl (.succ (.succ (.succ (.succ (.succ (.zero (.cons .nil)))))))) (fun _ _ => ?_); refine zb2 ?_; refine G.inN (G.thenN ?_); refine zbJ ?_; refine G.op0 (og_st6 rfl rfl rfl rfl rfl (by repeat (first | rfl | refine one_cons zx ?_)) (.zero (.cons (.cons (.cons (.cons (.cons (.cons (.cons (.cons (.cons (.cons .nil)))))))))))) (fun _ _ => ?_); refine zcO ?_
    (refine zfs ?_); (refine zdw ?_); (refine G.frontR6 pv rfl ?_); (refine G.frontR6 tv rfl ?_); refine G.rowEq (((t0 :: tr).set k { t1 with g := far }).map TypeM.cells) (by rw [List.map_set]; rfl) rfl ?_; (refine G.frontR6 iv rfl ?_); refine G.retFc (((⟨_, ⟨_, _, _, _⟩, _, ps, (t0 :: tr).set k { t1 with g := far }, _, its⟩, pv, tv, iv), pv, ps.map PairM.cells), xi, xh) ⟨⟨⟨zc, zc, zc⟩, fun _ h => h, zq, zy, zq, (by exact htf.set ht1 rfl rfl)⟩, hxi⟩ 4 rfl rfl rfl rfl rfl (fun w hh => hh.sublist ?_); (repeat (first | exact List.Sublist.refl _ | refine List.Sublist.cons_cons _ ?_ | refine List.Sublist.cons _ ?_)); done
  refine zdA ?_; refine G.condD rfl (fun hc => ?_) (fun hc => ?_)
  · refine G.region ?_
    refine zbZ (fun vl _ => ?_); refine zcN ?_; rintro ⟨xr, xi, xh⟩ ⟨hxm, hxi⟩; try dsimp only
    refine zaW ?_; refine G.op0 (og_st3 rfl rfl rfl rfl rfl rfl (.succ (.succ (.succ (.succ (.succ (.succ (.succ (.succ (.zero (.cons .nil))))))))))) (fun _ _ => ?_); refine G.done (G.inN (G.thenN ?_)); refine zec ?_; refine G.op0 (og_st7 rfl rfl rfl rfl rfl (by repeat (first | rfl | refine one_cons zx ?_)) (.zero (.cons (.cons (.cons (.cons (.cons (.cons (.cons (.cons (.cons (.cons .nil)))))))))))) (fun _ _ => ?_); refine zcO ?_
    (refine G.frontB7 bk2 rfl ?_); (refine zdw ?_); (refine G.frontR7 pv rfl ?_); (refine G.frontR7 tv rfl ?_); (refine G.frontR7 iv rfl ?_); refine G.retFc (((⟨_, ⟨_, _, _, _⟩, _, ps, t0 :: tr, _, its⟩, pv, tv, iv), pv, ps.map PairM.cells), xi, xh) ⟨⟨⟨zc, zc, zc⟩, fun _ h => h, zq, zq, zq, zaC⟩, hxi⟩ 4 rfl rfl rfl rfl rfl (fun w hh => hh.sublist ?_); (repeat (first | exact List.Sublist.refl _ | refine List.Sublist.cons_cons _ ?_ | refine List.Sublist.cons _ ?_)); done
  refine zdA ?_; refine G.condD rfl (fun hc => ?_) (fun hc => ?_)
  · refine zfJ ?_
    refine G.frontR3 iv rfl ?_; refine G.drawD2 [9, 10] rfl ?_; refine zeI ?_; refine GE.q2 4 rfl za rfl (qg_runs (rv_move rfl)) zr rfl ?_; refine zfV ?_; rintro ⟨xa, xi, xh⟩ ⟨⟨hx0, hx1⟩, hxi⟩; try dsimp only
    refine GE.ol 5 za rfl rfl (og_callM0 rfl rfl rfl (l1Below_any _ zc zc).toF) rfl zf ?_; rintro ⟨xb, xi, xh⟩ ⟨⟨hy0, hy1⟩, hxi⟩; try dsimp only
    refine GE.ol 6 za rfl rfl (og_runs (rv_build2 rfl (.cons rfl (.cons rfl (.cons rfl (.cons rfl (.cons rfl (.cons rfl (.cons rfl .nil))))))) (.cons rfl rfl (.zero (.cons .nil)) (.cons rfl rfl (.succ (.zero (.cons .nil))) (.cons rfl rfl (.succ (.succ (.zero (.cons .nil)))) (.cons rfl rfl (.succ (.succ (.succ (.zero (.cons .nil))))) (.cons rfl rfl (.succ (.succ (.succ (.succ (.zero (.cons .nil)))))) (.cons rfl rfl (.succ (.succ (.succ (.succ (.succ (.zero (.cons .nil))))))) (.cons rfl rfl (.succ (.succ (.succ (.succ (.succ (.succ (.zero (.cons .nil)))))))) .nil))))))))) rfl zf (fun _ _ => ?_); refine GE.ol 7 za rfl rfl (og_lit rfl (.cons rfl .nil) rfl rfl rfl rfl rfl rfl) rfl zm (fun vl _ => ?_); refine GE.ol 8 za rfl rfl (og_app2 rfl rfl rfl zg rfl rfl zh zh) rfl zm (fun vi _ => ?_); refine GE.knowD (fun w hw => by exact (Rd.owned 2 rfl (v := vi) w hw).one_) (fun hovi => ?_); refine GE.t 9 za rfl rfl rfl (og_runs (rv_field rfl)) rfl (fun _ _ => ?_)
    refine GE.t0 10 za rfl rfl rfl (og_st4 rfl rfl rfl (cells_one zc) rfl (by repeat (first | rfl | refine one_cons zc ?_)) (.succ (.succ (.succ (.succ (.succ (.succ (.succ (.succ (.succ (.zero (.cons .nil)))))))))))) (fun _ _ => ?_); refine zb2 ?_; refine G.inN (G.thenN ?_); refine zcv ?_; refine G.v (rv_loadW 4 rfl rfl rfl) rfl ?_; refine G.op0 (og_st7 rfl rfl rfl rfl rfl (by repeat (first | rfl | refine one_cons zx ?_)) (.zero (.cons (.cons (.cons (.cons (.cons (.cons (.cons (.cons (.cons (.cons .nil)))))))))))) (fun _ _ => ?_); refine zcO ?_
    (refine G.frontB7 bk2 rfl ?_); (refine G.frontB2 cb rfl ?_); (refine G.frontR7 pv rfl ?_); (refine G.frontR7 tv rfl ?_); (refine G.frontR5 vi rfl ?_); refine G.rowEq ((its ++ [(⟨3, 1, 2, 3, 4, xa, xb⟩ : ItemM)]).map ItemM.cells) zL rfl ?_; refine G.retFc (((⟨_, ⟨_, _, _, _⟩, _, ps, t0 :: tr, _, its ++ [⟨3, 1, 2, 3, 4, xa, xb⟩]⟩, pv, tv, vi), pv, ps.map PairM.cells), xi, xh) ⟨⟨⟨zc, zc, zc⟩, fun _ h => h, zq, zq, zy, zaC⟩, hxi⟩ 4 rfl rfl rfl rfl rfl (fun w hh => hh.sublist ?_); (repeat (first | exact List.Sublist.refl _ | refine List.Sublist.cons_cons _ ?_ | refine List.Sublist.cons _ ?_)); done
  refine zdA ?_; refine G.condD rfl (fun hc => ?_) (fun hc => ?_); refine zcv ?_; refine zbr ?_; refine G.v (rv_len rfl zC) rfl ?_; refine zdG ?_; refine za8 ?_; refine G.condD rfl (fun hc => ?_) (fun hc => ?_)
  · obtain ⟨i0, ir, rfl⟩ : ∃ i0 ir, its = i0 :: ir := (by cases its with | nil => exact absurd hc (by decide) | cons a b => exact ⟨a, b, rfl⟩); have hir : ir.length ≤ 5 := Nat.le_of_succ_le_succ hil
    refine G.region ?_; refine zbr ?_; refine zaH ?_; refine G.v (rv_indexH rfl rfl zC rfl zaq) rfl ?_; refine zca ?_; refine G.op0 (og_stE3 rfl rfl rfl zaq rfl rfl rfl rfl (.succ (.succ (.succ (.zero (.cons .nil)))))) (fun _ _ => ?_); refine G.done (G.inN (G.thenN ?_)); refine zbJ ?_; refine G.op0 (og_st6 rfl rfl rfl rfl rfl (by repeat (first | rfl | refine one_cons zx ?_)) (.zero (.cons (.cons (.cons (.cons (.cons (.cons (.cons (.cons (.cons (.cons .nil)))))))))))) (fun _ _ => ?_); refine zcO ?_
    (refine zfs ?_); (refine zdw ?_); (refine G.frontR6 pv rfl ?_); (refine G.frontR6 tv rfl ?_); (refine G.frontR6 iv rfl ?_); refine G.rowEq (({ i0 with d := far } :: ir).map ItemM.cells) rfl rfl ?_; refine G.retFc (((⟨_, ⟨_, _, _, _⟩, _, ps, t0 :: tr, _, { i0 with d := far } :: ir⟩, pv, tv, iv), pv, ps.map PairM.cells), xi, xh) ⟨⟨⟨zc, zc, zc⟩, fun _ h => h, zq, zq, zy, zaC⟩, hxi⟩ 4 rfl rfl rfl rfl rfl (fun w hh => hh.sublist ?_); (repeat (first | exact List.Sublist.refl _ | refine List.Sublist.cons_cons _ ?_ | refine List.Sublist.cons _ ?_)); done
  · refine G.skip ?_
    refine G.inN (G.thenN ?_); refine zbJ ?_; refine G.op0 (og_st6 rfl rfl rfl rfl rfl (by repeat (first | rfl | refine one_cons zx ?_)) (.zero (.cons (.cons (.cons (.cons (.cons (.cons (.cons (.cons (.cons (.cons .nil)))))))))))) (fun _ _ => ?_); refine zcO ?_
    (refine zfs ?_); (refine zdw ?_); (refine G.frontR6 pv rfl ?_); (refine G.frontR6 tv rfl ?_); (refine G.frontR6 iv rfl ?_); refine G.retFc (((⟨_, ⟨_, _, _, _⟩, _, ps, t0 :: tr, _, its⟩, pv, tv, iv), pv, ps.map PairM.cells), xi, xh) ⟨⟨⟨zc, zc, zc⟩, fun _ h => h, zq, zq, zq, zaC⟩, hxi⟩ 4 rfl rfl rfl rfl rfl (fun w hh => hh.sublist ?_); (repeat (first | exact List.Sublist.refl _ | refine List.Sublist.cons_cons _ ?_ | refine List.Sublist.cons _ ?_)); done
  refine zdA ?_; refine G.condD rfl (fun hc => ?_) (fun hc => ?_); refine zcv ?_; refine zbr ?_; refine G.v (rv_len rfl zZ) rfl ?_; refine zdG ?_; refine za8 ?_; refine G.condD rfl (fun hc => ?_) (fun hc => ?_)
  · have hpq : (ps.map PairM.cells).length = ps.length := List.length_map ..; have hpp : 0 < ps.length := zb
    refine G.region ?_; refine zbr ?_; refine G.v (rv_sliceL (l := 1) rfl rfl zZ zb) rfl ?_; refine G.know (fun w hw => by exact (Rd.sub (l := 1) (k := (ps.map PairM.cells).length) (Rd.owned 5 rfl (v := pv) w hw) zb (Nat.le_refl _)).one_) (fun hosv => ?_); refine zaW ?_; refine G.op0 (og_st2 rfl rfl rfl (cells_one zc) rfl (by repeat (first | rfl | refine one_cons zc ?_)) (.succ (.succ (.succ (.succ (.succ (.succ (.zero (.cons .nil))))))))) (fun _ _ => ?_); refine G.done (G.inN (G.thenN ?_)); refine zbJ ?_; refine G.op0 (og_st6 rfl rfl rfl rfl rfl (by repeat (first | rfl | refine one_cons zx ?_)) (.zero (.cons (.cons (.cons (.cons (.cons (.cons (.cons (.cons (.cons (.cons .nil)))))))))))) (fun _ _ => ?_); refine zcO ?_
    (refine zfs ?_); (refine zdw ?_); (refine G.frontR6 pv rfl ?_); (refine G.frontR6 tv rfl ?_); (refine G.frontR6 iv rfl ?_); refine G.retFc (((⟨_, ⟨_, _, _, _⟩, _, ps.drop 1, t0 :: tr, _, its⟩, subV pv 2 1 (ps.map PairM.cells).length, tv, iv), pv, ps.map PairM.cells), xi, xh) ⟨⟨⟨zc, zc, zc⟩, fun _ h => Rd.subL h zb, zy, zq, zq, zaC⟩, hxi⟩ 4 rfl rfl rfl rfl rfl (fun w hh => hh.sublist ?_); (repeat (first | exact List.Sublist.refl _ | refine List.Sublist.cons_cons _ ?_ | refine List.Sublist.cons _ ?_)); done
  · refine G.skip ?_
    refine G.inN (G.thenN ?_); refine zbJ ?_; refine G.op0 (og_st6 rfl rfl rfl rfl rfl (by repeat (first | rfl | refine one_cons zx ?_)) (.zero (.cons (.cons (.cons (.cons (.cons (.cons (.cons (.cons (.cons (.cons .nil)))))))))))) (fun _ _ => ?_); refine zcO ?_
    (refine zfs ?_); (refine zdw ?_); (refine G.frontR6 pv rfl ?_); (refine G.frontR6 tv rfl ?_); (refine G.frontR6 iv rfl ?_); refine G.retFc (((⟨_, ⟨_, _, _, _⟩, _, ps, t0 :: tr, _, its⟩, pv, tv, iv), pv, ps.map PairM.cells), xi, xh) ⟨⟨⟨zc, zc, zc⟩, fun _ h => h, zq, zq, zq, zaC⟩, hxi⟩ 4 rfl rfl rfl rfl rfl (fun w hh => hh.sublist ?_); (repeat (first | exact List.Sublist.refl _ | refine List.Sublist.cons_cons _ ?_ | refine List.Sublist.cons _ ?_)); done
  refine zdA ?_; refine G.condD rfl (fun hc => ?_) (fun hc => ?_)
  · refine G.frontR4 tv rfl ?_
    refine G.drawD1 [8, 9] rfl ?_; refine GE.q2 0 rfl za rfl (qg_runs (rv_field rfl)) zl rfl ?_; refine GE.q2 1 rfl za rfl (qg_runs (rv_load1 2 rfl rfl rfl)) zl rfl ?_; refine GE.ol 2 za rfl rfl (og_runs (rv_field rfl)) rfl zj (fun _ _ => ?_); refine GE.ol 3 za rfl rfl (og_runs (rv_load1 3 rfl rfl rfl)) rfl zj (fun _ _ => ?_); refine GE.ol 4 za rfl rfl (og_runs (rv_indexH rfl rfl zg rfl zaq)) rfl zj (fun _ _ => ?_); refine GE.ol 5 za rfl rfl (og_runs (rv_loadEW rfl zg zaq rfl)) rfl zj (fun _ _ => ?_); refine GE.ol 6 za rfl rfl (og_lit rfl (.cons rfl .nil) rfl rfl rfl rfl rfl rfl) rfl zf (fun vl _ => ?_); refine GE.ol 7 za rfl rfl (og_app1 rfl rfl rfl zg rfl rfl zh zh) rfl zf (fun vt _ => ?_); refine GE.knowD (fun w hw => by exact (Rd.owned 1 rfl (v := vt) w hw).one_) (fun hovt => ?_); refine GE.t 8 za rfl rfl rfl (og_runs (rv_field rfl)) rfl (fun _ _ => ?_)
    refine GE.t0 9 za rfl rfl rfl (og_st4 rfl rfl rfl (cells_one zc) rfl (by repeat (first | rfl | refine one_cons zc ?_)) (.succ (.succ (.succ (.succ (.succ (.succ (.succ (.zero (.cons .nil)))))))))) (fun _ _ => ?_); refine zb2 ?_; refine G.inN (G.thenN ?_); refine zcv ?_; refine G.v (rv_loadW 4 rfl rfl rfl) rfl ?_; refine G.op0 (og_st7 rfl rfl rfl rfl rfl (by repeat (first | rfl | refine one_cons zx ?_)) (.zero (.cons (.cons (.cons (.cons (.cons (.cons (.cons (.cons (.cons (.cons .nil)))))))))))) (fun _ _ => ?_); refine zcO ?_
    (refine G.frontB7 bk2 rfl ?_); (refine G.frontB3 cb rfl ?_); (refine G.frontR7 pv rfl ?_); (refine G.frontR4 vt rfl ?_); refine G.rowEq (((t0 :: tr) ++ [t0]).map TypeM.cells) zL rfl ?_; (refine G.frontR7 iv rfl ?_); refine G.retFc (((⟨_, ⟨_, _, _, _⟩, _, ps, (t0 :: tr) ++ [t0], _, its⟩, pv, vt, iv), pv, ps.map PairM.cells), xi, xh) ⟨⟨⟨zc, zc, zc⟩, fun _ h => h, zq, zy, zq, (by exact htf.dbl)⟩, hxi⟩ 4 rfl rfl rfl rfl rfl (fun w hh => hh.sublist ?_); (repeat (first | exact List.Sublist.refl _ | refine List.Sublist.cons_cons _ ?_ | refine List.Sublist.cons _ ?_)); done
  refine zdA ?_; refine G.condD rfl (fun hc => ?_) (fun hc => ?_)
  · refine G.region ?_
    refine zaW ?_; refine G.op0 (og_st2 rfl rfl rfl (cells_one zaq) rfl (by repeat (rfl)) (.succ (.succ (.succ (.succ (.succ (.succ (.succ (.zero (.cons .nil)))))))))) (fun _ _ => ?_); refine G.done (G.inN (G.thenN ?_)); refine zbJ ?_; refine G.op0 (og_st6 rfl rfl rfl rfl rfl (by repeat (first | rfl | refine one_cons zx ?_)) (.zero (.cons (.cons (.cons (.cons (.cons (.cons (.cons (.cons (.cons (.cons .nil)))))))))))) (fun _ _ => ?_); refine zcO ?_
    (refine zfs ?_); (refine zdw ?_); (refine G.frontR6 pv rfl ?_); refine G.heap (fun w hh => hh.nilRow 56 7) ?_; (refine G.frontR6 iv rfl ?_); refine G.retFc (((⟨_, ⟨_, _, _, _⟩, _, ps, [], _, its⟩, pv, .slice none 0 0, iv), pv, ps.map PairM.cells), xi, xh) ⟨⟨⟨zc, zaq, zc⟩, fun _ h => h, zq, (by exact Nat.zero_le _), zq, (by exact TyFar.nil)⟩, hxi⟩ 4 rfl rfl rfl rfl rfl (fun w hh => hh.sublist ?_); (repeat (first | exact List.Sublist.refl _ | refine List.Sublist.cons_cons _ ?_ | refine List.Sublist.cons _ ?_)); done
  · refine G.skip ?_
    refine G.inN (G.thenN ?_); refine zbJ ?_; refine G.op0 (og_st6 rfl rfl rfl rfl rfl (by repeat (first | rfl | refine one_cons zx ?_)) (.zero (.cons (.cons (.cons (.cons (.cons (.cons (.cons (.cons (.cons (.cons .nil)))))))))))) (fun _ _ => ?_); refine zcO ?_
    (refine zfs ?_); (refine zdw ?_); (refine G.frontR6 pv rfl ?_); (refine G.frontR6 tv rfl ?_); (refine G.frontR6 iv rfl ?_); refine G.retFc (((⟨_, ⟨_, _, _, _⟩, _, ps, t0 :: tr, _, its⟩, pv, tv, iv), pv, ps.map PairM.cells), xi, xh) ⟨⟨⟨zc, zc, zc⟩, fun _ h => h, zq, zq, zq, zaC⟩, hxi⟩ 4 rfl rfl rfl rfl rfl (fun w hh => hh.sublist ?_); (repeat (first | exact List.Sublist.refl _ | refine List.Sublist.cons_cons _ ?_ | refine List.Sublist.cons _ ?_)); done
end Go.Proofs.YtglpgohilfoecaaGreat

/-
  An order of which nothing is wrong, as the draws hand it out.
-/
namespace Go.Proofs.YtglpgohilfoecaaGreat
open Go.RowKit
theorem one_eqD {a a' : Ch} {F : List Ch} (h1 : a = a') : a :: F = [a'] ++ F := by subst h1; rfl
theorem G.keep1D {n : Nat} {w0 : World} {fr : Fr} {H : List Ch} (m : Nat) {c1 : Ch} {J : List Ch} {K : Act → World → Prop} (hH : H = c1 :: J) (h : G n w0 fr (c1 :: J.drop m) K) : G n w0 fr H K := by
  subst hH
  exact G.heap (fun w hh => hh.sublist (List.Sublist.cons_cons _ (List.drop_sublist _ _))) h
attribute [local irreducible] Go.wpList Go.Code.wp Go.Exit.then Go.Exit.inBlock Go.bodyPost Go.Calls pE pB G RunsV FnV Fn FnM
set_option maxRecDepth 100000
set_option maxHeartbeats 4000000
theorem l5Good_any {w0 : World} {v : Value} {l : List Int} {cb i : Nat} {h : Int} (hv : Rd w0 v 1 (l.map bcell)) (hi : i ≤ l.length) :
    FnM Tryz.prog 125 [pB cb 0] w0 [.blk cb 182 [v, .int .i64 i, .int .i64 h]] (fun x : (ReqM × Value × Value × Value) × Nat × Int => ((x.1.2.1.oneCell' = true ∧ x.1.2.2.1.oneCell' = true ∧ x.1.2.2.2.oneCell' = true) ∧ x.1.1.pairs.length ≤ 32 ∧ 1 ≤ x.1.1.types.length ∧ x.1.1.types.length ≤ 8 ∧ x.1.1.items.length ≤ 6 ∧ TyFar x.1.1.types) ∧ x.2.1 ≤ l.length)
      (fun x => .agg (x.1.1.cells x.1.2.1 x.1.2.2.1 x.1.2.2.2).toArray) (fun x => [.row x.1.2.2.2 111 7 (x.1.1.items.map ItemM.cells), .row x.1.2.2.1 56 7 (x.1.1.types.map TypeM.cells), .row x.1.2.1 138 2 (x.1.1.pairs.map PairM.cells), .blk cb 182 [v, .int .i64 x.2.1, .int .i64 x.2.2]]) := by
  refine FnM.of (n := 46) Tryz.func125 rfl rfl (fun F => ?_); refine zcv ?_; refine zbo (fun bk2 _ => ?_); refine zel ?_
  (refine zdw ?_); refine G.op (og_callN0 rfl rfl rfl (l2Right_any zc zc).toF) rfl ?_; rintro ⟨⟨r, pv, tv, iv⟩, xi, xh⟩ ⟨⟨⟨hopv, hotv, hoiv⟩, hpl, htl1, htl, hil, htf⟩, hxi⟩; try dsimp only
  obtain ⟨wy, ⟨pw, pd, ph, pg⟩, cl, ps, ty, ms, its⟩ := r; try dsimp only at hpl htl1 htl hil
  replace hxi : xi ≤ l.length := hxi
  refine zbo (fun bk3 _ => ?_); refine G.op0 (og_st0 rfl rfl rfl rfl rfl (by repeat (first | rfl | refine one_cons zx ?_)) (.zero (.cons (.cons (.cons (.cons (.cons (.cons (.cons (.cons (.cons (.cons .nil)))))))))))) (fun _ _ => ?_); refine zeW ?_; refine za1 ?_; refine G.op (og_callV rfl rfl (fun w hh => sclass_any (r := ⟨wy, ⟨pw, pd, ph, pg⟩, cl, ps, ty, ms, its⟩) w (by exact Rd.owned 3 rfl _ hh) zac zau)) rfl (fun _ _ => ?_); refine zdN ?_; refine G.condD rfl (fun hc => ?_) (fun hc => ?_); refine zcv ?_; refine zbB ?_; refine zaW ?_; refine G.op0 (og_st0 rfl rfl rfl rfl rfl rfl (.succ (.zero (.cons (.cons (.cons (.cons .nil))))))) (fun _ _ => ?_); refine za8 ?_; refine za1 ?_
  refine G.op (og_callV rfl rfl (fun w hh => smasterOf_any (r := ⟨wy, ⟨30, 25, 24, 400⟩, cl, ps, ty, ms, its⟩) w zac)) rfl (fun _ _ => ?_); refine zbc (fun bk4 _ => ?_); refine zaQ (fun _ _ => ?_); refine zaG ?_; refine za2 (fun kv _ => ?_); refine G.know (fun w hw => (Rd.owned 0 rfl (v := kv) w hw).one_) (fun hokv => ?_); refine zd1 ?_; refine G.frontR0 kv rfl ?_; refine G.loopK (ι := Nat × Value × List ItemM) (ks := [2, 3, 4]) (fun x => [(6, x.2.1), (7, .int .i64 (x.1 : Int))]) (fun x => [.row x.2.1 111 7 (x.2.2.map ItemM.cells)]) (fun x => (x.1 ≤ its.length ∧ x.2.2.length ≤ x.1) ∧ x.2.1.oneCell' = true) (fun x => its.length - x.1) (0, kv, []) (.cons rfl (.cons rfl (.cons rfl (.nil)))) rfl ?_ ?_ ?_
  exact ⟨⟨Nat.zero_le _, Nat.le_refl _⟩, hokv⟩
  exact ⟨rfl, rfl, trivial⟩
  rintro ⟨k, kv2, ks⟩ ⟨⟨hk, hkl⟩, hokv2⟩
  dsimp only at hk hkl hokv2 ⊢
  have hil3 : (its.map ItemM.cells).length = its.length := List.length_map ..
  have hks3 : (ks.map ItemM.cells).length = ks.length := List.length_map ..
  refine zee ?_; refine zbr ?_; refine G.v (rv_len rfl zC) rfl ?_; refine zaO ?_; refine G.condD rfl (fun hc => ?_) (fun hc => ?_)
  obtain ⟨x0, hx0⟩ := get_of_lt (l := its) (k := k) zb; have hel := get_map hx0 ItemM.cells; have hklt : k < its.length := zb
  refine zaY ?_; refine ze1 ?_; refine GE.q 0 rfl za rfl (qg_runs (rv_field rfl)) rfl ?_; refine GE.q 1 rfl za rfl (qg_runs (rv_load1 2 rfl rfl rfl)) rfl ?_; refine zc1 ?_; refine GE.q 3 rfl za rfl (qg_runs (rv_indexH rfl rfl zC rfl zc)) rfl ?_; refine GE.q 4 rfl za rfl (qg_runs (rv_loadEW rfl zC zc rfl)) rfl ?_; refine GE.ol 5 za rfl rfl (og_runs (rv_loadW 1 rfl rfl rfl)) rfl zd (fun _ _ => ?_); refine GE.ol 6 za rfl rfl (og_callV rfl rfl (fun w _ => sfits_any x0 _ w)) rfl zd (fun _ _ => ?_); refine zbh ?_; refine G.cond rfl (fun hc => ?_) (fun hc => ?_); refine zbk ?_; refine zbr ?_; refine zaH ?_; refine G.v (rv_indexH rfl rfl zC rfl zc) rfl ?_; refine G.v (rv_loadEW rfl zC zc rfl) rfl ?_; refine zaX (fun vx _ => ?_)
  refine zbE (fun kv3 _ => ?_); refine G.know (fun w hw => by exact (Rd.owned 1 rfl (v := kv3) w hw).one_) (fun hokv3 => ?_); refine za7 ?_; refine zaJ ?_; refine G.frontR1 kv3 rfl ?_; refine G.keep1D 1 rfl ?_; refine G.backK (k + 1, kv3, ks ++ [x0]) 0 (by (exact one_eqD (congrArg (fun z => Ch.row kv3 111 7 z) zL))) (.cons rfl (.cons rfl (.cons rfl (.nil)))) ?_ ?_ ?_
  exact ⟨rfl, rfl, trivial⟩
  exact ⟨⟨by dsimp only; omega, by dsimp only; (try simp only [List.length_append, List.length_cons, List.length_nil]); omega⟩, by assumption⟩
  dsimp only; omega
  refine zfT ?_; refine G.frontR0 kv2 rfl ?_; refine G.keep1D 0 rfl ?_; refine G.backK (k + 1, kv2, ks) 0 (by exact one_eqD rfl) (.cons rfl (.cons rfl (.cons rfl (.nil)))) ?_ ?_ ?_
  exact ⟨rfl, rfl, trivial⟩
  exact ⟨⟨by dsimp only; omega, by dsimp only; (try simp only [List.length_append, List.length_cons, List.length_nil]); omega⟩, by assumption⟩
  dsimp only; omega
  · refine G.exit ?_
    refine G.thenX (G.thenX (G.inX (G.thenN ?_))); refine zbk ?_; refine zaW ?_; refine G.op0 (og_st2 rfl rfl rfl (cells_one zc) rfl (by repeat (first | rfl | refine one_cons zc ?_)) (.succ (.succ (.succ (.succ (.succ (.succ (.succ (.succ (.succ (.zero (.cons .nil)))))))))))) (fun _ _ => ?_); refine za8 ?_; refine zbJ ?_; refine G.op0 (og_st7 rfl rfl rfl rfl rfl (by repeat (first | rfl | refine one_cons zx ?_)) (.zero (.cons (.cons (.cons (.cons (.cons (.cons (.cons (.cons (.cons (.cons .nil)))))))))))) (fun _ _ => ?_); refine zcO ?_
    (refine G.frontB7 bk2 rfl ?_); (refine G.frontB7 cb rfl ?_); (refine G.frontR7 pv rfl ?_); (refine G.frontR7 tv rfl ?_); (refine G.frontR4 kv2 rfl ?_); refine G.retFc ((⟨_, ⟨_, _, _, _⟩, _, ps, ty, _, ks⟩, pv, tv, kv2), xi, xh) ⟨⟨⟨hopv, hotv, hokv2⟩, hpl, htl1, htl, by dsimp only; omega, htf⟩, hxi⟩ 4 rfl rfl rfl rfl rfl (fun w hh => hh.sublist ?_); (repeat (first | exact List.Sublist.refl _ | refine List.Sublist.cons_cons _ ?_ | refine List.Sublist.cons _ ?_)); done
  · refine G.skip ?_
    refine G.thenN ?_; refine za1 ?_; refine G.op0 (og_st5 rfl rfl rfl rfl rfl (by repeat (first | rfl | refine one_cons zx ?_)) (.zero (.cons (.cons (.cons (.cons (.cons (.cons (.cons (.cons (.cons (.cons .nil)))))))))))) (fun _ _ => ?_); refine zcO ?_
    (refine G.frontB5 bk2 rfl ?_); (refine G.frontB5 cb rfl ?_); (refine G.frontR5 pv rfl ?_); (refine G.frontR5 tv rfl ?_); (refine G.frontR5 iv rfl ?_); refine G.retFc ((⟨_, ⟨_, _, _, _⟩, _, ps, ty, _, its⟩, pv, tv, iv), xi, xh) ⟨⟨⟨hopv, hotv, hoiv⟩, hpl, htl1, htl, hil, htf⟩, hxi⟩ 4 rfl rfl rfl rfl rfl (fun w hh => hh.sublist ?_); (repeat (first | exact List.Sublist.refl _ | refine List.Sublist.cons_cons _ ?_ | refine List.Sublist.cons _ ?_)); done
end Go.Proofs.YtglpgohilfoecaaGreat

/-
  Orders and units, as the draws hand them out.
-/
namespace Go.Proofs.YtglpgohilfoecaaGreat
open Go.RowKit
/-- What is known of a drawn order: its parts lie in rows; the pairs may be read past a row's front. -/
def DrawnOk (x : (ReqM × Value × Value × Value) × Value × List (List Value)) : Prop :=
  (x.1.2.1.oneCell' = true ∧ x.1.2.2.1.oneCell' = true ∧ x.1.2.2.2.oneCell' = true) ∧ (∀ w, Rd w x.2.1 2 x.2.2 → Rd w x.1.2.1 2 (x.1.1.pairs.map PairM.cells)) ∧ x.1.1.pairs.length ≤ 33 ∧ x.1.1.types.length ≤ 9 ∧ x.1.1.items.length ≤ 7 ∧ TyFar x.1.1.types
attribute [local irreducible] Go.wpList Go.Code.wp Go.Exit.then Go.Exit.inBlock Go.bodyPost Go.Calls pE pB G RunsV FnV Fn FnM
set_option maxRecDepth 100000
set_option maxHeartbeats 4000000
theorem drawClass_any {v : Value} {l : List Int} (w : World) (hv : Rd w v 1 (l.map bcell)) : Fn Tryz.prog 69 [v] w (fun x : (ReqM × Value × Value × Value) × Value × List (List Value) => DrawnOk x)
    (fun x => .agg (x.1.1.cells x.1.2.1 x.1.2.2.1 x.1.2.2.2).toArray) (fun x => [.row x.1.2.2.2 111 7 (x.1.1.items.map ItemM.cells), .row x.1.2.2.1 56 7 (x.1.1.types.map TypeM.cells), .row x.2.1 138 2 x.2.2]) := by
  refine Fn.of (n := 12) Tryz.func69 rfl rfl ?_; refine zcv ?_; refine zbo (fun bk2 _ => ?_); refine zel ?_; refine G.op (og_callF1 rfl rfl (fun w hh => l1New_any w zB)) rfl ?_; rintro ⟨cb, ch⟩ _; try dsimp only
  have h0 : (0 : Nat) ≤ l.length := Nat.zero_le _
  refine ze7 ?_; refine G.op (og_callM0 rfl rfl rfl (l1Once_any _ zc zc).toF) rfl ?_; rintro ⟨xr, xi, xh⟩ hxi; try dsimp only
  refine za8 ?_; refine G.cond rfl (fun hc => ?_) (fun hc => ?_)
  · refine G.seq ?_
    refine zbk ?_
    (refine zfJ ?_); refine G.op (og_callN0 rfl rfl rfl (l5Good_any zc zc).toF) rfl ?_; rintro ⟨⟨r, pv, tv, iv⟩, xi, xh⟩ ⟨⟨⟨hopv, hotv, hoiv⟩, hpl, htl1, htl, hil, htf⟩, hxi⟩; try dsimp only
    refine G.op0 (og_st4 rfl rfl rfl rfl rfl (by repeat (first | rfl | refine one_cons zx ?_)) (.zero (.cons (.cons (.cons (.cons (.cons (.cons (.cons (.cons (.cons (.cons .nil)))))))))))) (fun _ _ => ?_); refine zcO ?_; refine G.thenR ?_
    (refine G.frontB4 bk2 rfl ?_); (refine G.frontR3 pv rfl ?_); (refine G.frontR3 tv rfl ?_); (refine G.frontR3 iv rfl ?_); refine G.retFc ((r, pv, tv, iv), pv, r.pairs.map PairM.cells) ⟨⟨hopv, hotv, hoiv⟩, fun _ h => h, Nat.le_trans hpl (by decide), Nat.le_trans htl (by decide), Nat.le_trans hil (by decide), htf⟩ 3 rfl rfl rfl rfl rfl (fun w hh => hh.sublist ?_); (repeat (first | exact List.Sublist.refl _ | refine List.Sublist.cons_cons _ ?_ | refine List.Sublist.cons _ ?_)); done
  · refine G.skip ?_
    refine G.thenN ?_; refine zaI ?_
    (refine zfJ ?_); refine G.op (og_callN0 rfl rfl rfl (l2Draw_any zc zc).toF) rfl ?_; rintro ⟨⟨⟨r, pv, tv, iv⟩, pv0, es0⟩, xi, xh⟩ ⟨⟨⟨hopv, hotv, hoiv⟩, hrd, hpl, htl, hil, htf⟩, hxi⟩; try dsimp only
    refine G.op0 (og_st4 rfl rfl rfl rfl rfl (by repeat (first | rfl | refine one_cons zx ?_)) (.zero (.cons (.cons (.cons (.cons (.cons (.cons (.cons (.cons (.cons (.cons .nil)))))))))))) (fun _ _ => ?_); refine zcO ?_
    (refine G.frontB4 bk2 rfl ?_); (refine G.frontR3 pv0 rfl ?_); (refine G.frontR3 tv rfl ?_); (refine G.frontR3 iv rfl ?_); refine G.retFc ((r, pv, tv, iv), pv0, es0) ⟨⟨hopv, hotv, hoiv⟩, hrd, hpl, htl, hil, htf⟩ 3 rfl rfl rfl rfl rfl (fun w hh => hh.sublist ?_); (repeat (first | exact List.Sublist.refl _ | refine List.Sublist.cons_cons _ ?_ | refine List.Sublist.cons _ ?_)); done
end Go.Proofs.YtglpgohilfoecaaGreat

/-
  Orders, as more draws hand them out.
-/
namespace Go.Proofs.YtglpgohilfoecaaGreat
open Go.RowKit
attribute [local irreducible] Go.wpList Go.Code.wp Go.Exit.then Go.Exit.inBlock Go.bodyPost Go.Calls pE pB G RunsV FnV Fn FnM
set_option maxRecDepth 100000
set_option maxHeartbeats 4000000
theorem dDrawPlanOf_any {v : Value} {l : List Int} (w : World) (hv : Rd w v 1 (l.map bcell)) : Fn Tryz.prog 38 [v] w (fun x : (ReqM × Value × Value × Value) × Value × List (List Value) => DrawnOk x)
    (fun x => .agg (x.1.1.cells x.1.2.1 x.1.2.2.1 x.1.2.2.2).toArray) (fun x => [.row x.1.2.2.2 111 7 (x.1.1.items.map ItemM.cells), .row x.1.2.2.1 56 7 (x.1.1.types.map TypeM.cells), .row x.2.1 138 2 x.2.2]) := by
  refine Fn.of (n := 5) Tryz.func38 rfl rfl ?_; refine zcv ?_; refine zbo (fun bk2 _ => ?_); refine zel ?_
  (refine G.op (og_callF3 rfl rfl (fun w hh => drawClass_any w zB)) rfl ?_; rintro ⟨⟨r, pv, tv, iv⟩, pv0, es0⟩ hdr; try dsimp only)
  have hopv := hdr.1.1; have hotv := hdr.1.2.1; have hoiv := hdr.1.2.2; dsimp only at hopv hotv hoiv
  refine G.op0 (og_st3 rfl rfl rfl rfl rfl (by repeat (first | rfl | refine one_cons zx ?_)) (.zero (.cons (.cons (.cons (.cons (.cons (.cons (.cons (.cons (.cons (.cons .nil)))))))))))) (fun _ _ => ?_); refine zcO ?_
  (refine G.frontB3 bk2 rfl ?_); (refine G.frontR3 pv0 rfl ?_); (refine G.frontR3 tv rfl ?_); (refine G.frontR3 iv rfl ?_); refine G.retFc ((r, pv, tv, iv), pv0, es0) hdr 3 rfl rfl rfl rfl rfl (fun w hh => hh.sublist ?_); (repeat (first | exact List.Sublist.refl _ | refine List.Sublist.cons_cons _ ?_ | refine List.Sublist.cons _ ?_)); done
end Go.Proofs.YtglpgohilfoecaaGreat

/-
  A type that is dearer than all is never taken, and changes nothing.
-/
namespace Go.Proofs.YtglpgohilfoecaaGreat
/-- An order with a type more. -/
def addT (r : ReqM) (t : TypeM) : ReqM := { r with types := r.types ++ [t] }
theorem addT_find {r : ReqM} {t : TypeM} {id : Int} (h : (typeAt r id).2 = true) : typeAt (addT r t) id = typeAt r id := by
  rw [typeAt] at h
  rw [typeAt, typeAt, typeByM, addT]
  dsimp only
  rw [List.find?_append]
  cases hf : typeByM r id with
  | none => rw [hf] at h; cases h
  | some s => rw [typeByM] at hf; rw [hf]; rfl
theorem addT_dup {l : List TypeM} {t : TypeM} (h : ∀ s ∈ l, s.id ≠ t.id) (hl : (List.range l.length).all (fun i => !dupAt TypeM.id l i) = true) : (List.range (l ++ [t]).length).all (fun i => !dupAt TypeM.id (l ++ [t]) i) = true := by
  rw [List.all_eq_true] at hl ⊢
  intro i hi
  rw [List.mem_range, List.length_append, List.length_singleton] at hi
  by_cases hlt : i < l.length
  · have h1 := hl i (List.mem_range.2 hlt)
    rw [dup_at (List.getElem?_eq_getElem hlt)] at h1
    have h2 : (l ++ [t])[i]? = some l[i] := by rw [List.getElem?_append_left hlt]; exact List.getElem?_eq_getElem hlt
    rw [dup_at h2, List.take_append_of_le_length zb]
    exact h1
  · have e : i = l.length := by omega
    subst e
    have h2 : (l ++ [t])[l.length]? = some t := by simp
    rw [dup_at h2, List.take_append_of_le_length (Nat.le_refl _), List.take_length]
    have : l.any (fun q => decide (q.id = t.id)) = false := List.any_eq_false.2 (fun s hs => by simpa using h s hs)
    rw [this]; rfl
theorem addT_class {r : ReqM} {t : TypeM} (h0 : classM r = 0) (ht : typeOkM t = true) (hn : r.types.length < 5) (hid : ∀ s ∈ r.types, s.id ≠ t.id) (hb : tooBig r.pal t = false) : classM (addT r t) = 0 := by
  have b0 := cls_sound h0
  have n0 := names_of h0
  have b1 : boundsOkM (addT r t) = true := by
    simp only [boundsOkM, Bool.and_eq_true, inB, decide_eq_true_eq] at b0 ⊢
    obtain ⟨⟨⟨⟨⟨⟨⟨⟨⟨⟨g1, g2⟩, g3⟩, g4⟩, g5⟩, g6⟩, g7⟩, g8⟩, g9⟩, g10⟩, g11⟩ := b0
    refine ⟨⟨⟨⟨⟨⟨⟨⟨⟨⟨g1, g2⟩, g3⟩, g4⟩, g5⟩, ?_⟩, ?_⟩, g8⟩, g9⟩, g10⟩, g11⟩
    · rw [addT]; dsimp only; rw [List.length_append, List.length_singleton]; omega
    · rw [addT]; dsimp only; rw [List.all_append, g7]; simp [ht]
  have m2 := (mst_is h0).2.2
  have n1 : namesM (addT r t) = true := by
    simp only [namesM, Bool.and_eq_true] at n0 ⊢
    obtain ⟨⟨⟨g1, g2⟩, g3⟩, g4⟩ := n0
    refine ⟨⟨⟨addT_dup hid g1, g2⟩, g3⟩, ?_⟩
    show (typeAt (addT r t) r.master).2 = true
    rw [addT_find m2]; exact m2
  rw [classM, if_neg (by simp [b0]), if_neg (by simp [n0])] at h0
  rw [classM, if_neg (by simp [b1]), if_neg (by simp [n1])]
  rw [show (addT r t).master = r.master from rfl, addT_find m2]
  show (if tableOkM r.pairs r.classes = false then (4 : Int) else if (r.items.any fun x => !fitsM x (typeAt r r.master).1) = true then 5 else if ((r.types ++ [t]).any (tooBig r.pal)) = true then 6 else 0) = 0
  split at h0
  · omega
  · rename_i k1
    rw [if_neg k1]
    split at h0
    · omega
    · rename_i k2
      rw [if_neg k2]
      split at h0
      · omega
      · rename_i k3
        rw [if_neg]
        rw [List.any_append]
        simp only [List.any_cons, List.any_nil, hb, Bool.or_false]
        exact k3
theorem addT_mst {r : ReqM} (t : TypeM) (h0 : classM r = 0) : mst (addT r t) = mst r := by
  rw [mst, mst]
  exact congrArg Prod.fst (addT_find (mst_is h0).2.2)
theorem addT_units {r : ReqM} {t : TypeM} (h0 : classM r = 0) (h1 : classM (addT r t) = 0) : unitsM (addT r t) = unitsM r := by rw [unitsM, unitsM, if_pos h0, if_pos h1]; rfl
theorem addT_item {r : ReqM} {t : TypeM} (h0 : classM r = 0) (h1 : classM (addT r t) = 0) : itemAt (addT r t) = itemAt r := by
  funext u; rw [itemAt, itemAt, addT_units h0 h1]; rfl
theorem addT_gram {r : ReqM} {t : TypeM} (h0 : classM r = 0) (h1 : classM (addT r t) = 0) : gramM (addT r t) = gramM r := by
  have e : gOf (addT r t) = gOf r := by funext u; rw [gOf, gOf, addT_item h0 h1]
  funext us; rw [gramM, gramM, e]
theorem addT_vOf {r : ReqM} {t : TypeM} (h0 : classM r = 0) (h1 : classM (addT r t) = 0) : vOf (addT r t) = vOf r := by
  funext u; rw [vOf, vOf, addT_item h0 h1]
theorem addT_vol {r : ReqM} {t : TypeM} (h0 : classM r = 0) (h1 : classM (addT r t) = 0) : volUS (addT r t) = volUS r := by
  funext us; rw [volUS, volUS, addT_vOf h0 h1]
theorem addT_there {r : ReqM} {t : TypeM} (h0 : classM r = 0) (h1 : classM (addT r t) = 0) : thereM (addT r t) = thereM r := by
  have e : hereM (addT r t) = hereM r := by funext u; rw [hereM, hereM, addT_units h0 h1]
  funext us; rw [thereM, thereM, e]
theorem addT_room {r : ReqM} {t : TypeM} (h0 : classM r = 0) (h1 : classM (addT r t) = 0) : roomM (addT r t) = roomM r := by
  funext g u; rw [roomM, roomM, holdsM, holdsM, addT_vol h0 h1, addT_gram h0 h1, addT_mst t h0, h0, h1]
theorem addT_way {r : ReqM} {t : TypeM} (h0 : classM r = 0) (h1 : classM (addT r t) = 0) (us : List Int) : wayM (addT r t) us = wayM r us := by
  rw [wayM, wayM, nextM, nextM, firstM, firstM, addT_there h0 h1, addT_room h0 h1, ordU, ordU, addT_vOf h0 h1]; rfl
theorem addT_groups {r : ReqM} {t : TypeM} (h0 : classM r = 0) (h1 : classM (addT r t) = 0) : groupsOfM (addT r t) = groupsOfM r := by
  rw [groupsOfM, groupsOfM, presI, presI, presM, presM, if_pos h0, if_pos h1]; rfl
theorem addT_unitsI {r : ReqM} {t : TypeM} (h0 : classM r = 0) (h1 : classM (addT r t) = 0) (k : Nat) : unitsI (addT r t) k = unitsI r k := by
  rw [unitsI, unitsI, unitsOfM, unitsOfM, addT_groups h0 h1, addT_units h0 h1]; rfl
theorem addT_hold {r : ReqM} {t : TypeM} (h0 : classM r = 0) (h1 : classM (addT r t) = 0) (c : List Int) : holdM (addT r t) c = holdM r c := by
  funext s
  rw [holdM, holdM, withinT, withinT, addT_vol h0 h1, addT_gram h0 h1, h0, h1]
  have e : unitFits (addT r t) s = unitFits r s := by funext u; rw [unitFits, unitFits, addT_item h0 h1]
  rw [e]
theorem addT_cheap {r : ReqM} {t : TypeM} (h0 : classM r = 0) (h1 : classM (addT r t) = 0) {c : List Int} (hf : (cheapM r c).2 = true) (hc : (cheapM r c).1.cost < t.cost) : cheapM (addT r t) c = cheapM r c := by
  have e : cheapStep (addT r t) c = cheapStep r c := by funext a s; rw [cheapStep, cheapStep, addT_hold h0 h1]
  have e2 : cheapM (addT r t) c = cheapStep r c (cheapM r c) t := by
    rw [cheapM, e]
    show (r.types ++ [t]).foldl (cheapStep r c) (typeZ, false) = _
    rw [List.foldl_append]; rfl
  rw [e2, cheapStep]
  refine if_neg ?_
  have : betterM (cheapM r c) t = false := by
    rw [betterM, hf, decide_eq_false zb, decide_eq_false (p := t.cost = (cheapM r c).1.cost) zb]; rfl
  rw [this, Bool.and_false]; decide
theorem way_cheap {r : ReqM} (h0 : classM r = 0) {k : Nat} {l : List Int} (hl : l ∈ wayM r (unitsI r k)) : (cheapM r l).2 = true ∧ (cheapM r l).1 ∈ r.types := by
  obtain ⟨p1, p2⟩ := pack_parts (way_pack h0 (unitsI r k))
  have hu : ∀ u ∈ l, hereM r u = true := fun u hu => by
    have : u ∈ (wayM r (unitsI r k)).flatten := List.mem_flatten.2 ⟨l, hl, hu⟩
    have := p2.mem_iff.1 this
    rw [thereM, List.mem_filter] at this
    exact this.2
  obtain ⟨c1, c2, _, _⟩ := cheap_is (mst_is h0).1 (mst_holds h0 hu (p1 l hl).2)
  exact ⟨c1, c2⟩
theorem addT_at {r : ReqM} {t : TypeM} (h0 : classM r = 0) (h1 : classM (addT r t) = 0) (hc : ∀ s ∈ r.types, s.cost < t.cost) (k : Nat) : cartonsAt (addT r t) k = cartonsAt r k := by
  rw [cartonsAt, cartonsAt, addT_unitsI h0 h1, addT_way h0 h1]
  refine List.map_congr_left (fun l hl => ?_)
  obtain ⟨c1, c2⟩ := way_cheap h0 hl
  rw [cartonM, cartonM, addT_cheap h0 h1 c1 (hc _ c2)]
theorem addT_cartons {r : ReqM} {t : TypeM} (h0 : classM r = 0) (h1 : classM (addT r t) = 0) (hc : ∀ s ∈ r.types, s.cost < t.cost) : cartonsM (addT r t) = cartonsM r := by
  rw [cartonsM, cartonsM, addT_groups h0 h1]
  have : cartonsAt (addT r t) = cartonsAt r := by funext k; exact addT_at h0 h1 hc k
  rw [this]
theorem addT_boxes {r : ReqM} {t : TypeM} (h0 : classM r = 0) (h1 : classM (addT r t) = 0) (k : Nat) : boxesAt (addT r t) (cartonsM r) k = boxesAt r (cartonsM r) k := by
  rw [boxesAt, boxesAt]
  refine List.map_congr_left (fun x hx => ?_)
  obtain ⟨_, _, _, f4, _⟩ := cart_ok h0 (List.mem_filter.1 hx).1
  have f : (typeAt r x.t).2 = true := by rw [f4]
  rw [boxOfM, boxOfM, grossM, grossM, addT_find f, addT_gram h0 h1, h0, h1]
theorem addT_spots {r : ReqM} {t : TypeM} (h0 : classM r = 0) (h1 : classM (addT r t) = 0) (hc : ∀ s ∈ r.types, s.cost < t.cost) : planSpotsM (addT r t) = planSpotsM r := by
  rw [planSpotsM, planSpotsM, spotsAt, spotsAt, addT_groups h0 h1]
  have : planStep (addT r t) = planStep r := by
    funext st k
    rw [planStep, planStep, addT_cartons h0 h1 hc, addT_boxes h0 h1]; rfl
  rw [this]
end Go.Proofs.YtglpgohilfoecaaGreat

/-
  The law of a type that is dearer than all.
-/
namespace Go.Proofs.YtglpgohilfoecaaGreat
open Go.RowKit
theorem byte_of {z : Int} (h : (Lit.int .u8 z).wf = true) : 0 ≤ z ∧ z ≤ 255 := by
  simp [Lit.wf, IntKind.min, IntKind.max, IntKind.signed, IntKind.bits] at h
  omega
/-- A byte of the code, or a number that follows from it. -/
def at0Z (l : List Int) (i : Nat) : Int := match l[i]? with | some z => z | none => ((i : Int) * 7 + (l.length : Int)).tmod 256
theorem at0Z_ge {l : List Int} (hq : ∀ z ∈ l, 0 ≤ z ∧ z ≤ 255) (i : Nat) : 0 ≤ at0Z l i := by
  rw [at0Z]; split
  · rename_i z hz; exact (hq z (List.mem_of_getElem? hz)).1
  · exact Int.tmod_nonneg _ zb
theorem at0Z_mod {l : List Int} (hq : ∀ z ∈ l, 0 ≤ z ∧ z ≤ 255) (i : Nat) {p : Int} (hp : 1 ≤ p) : 1 ≤ 1 + (at0Z l i).tmod p ∧ 1 + (at0Z l i).tmod p ≤ p := by
  have h1 := Int.tmod_nonneg p (at0Z_ge hq i)
  have h2 := Int.tmod_lt_of_pos (at0Z l i) (b := p) zb
  omega
/-- The type that is put in. -/
def dearT (r : ReqM) (l : List Int) : TypeM := ⟨500, 1 + (at0Z l 2).tmod r.pal.w, 1 + (at0Z l 3).tmod r.pal.h, 1 + (at0Z l 4).tmod r.pal.d, 0, 1 + (at0Z l 5).tmod r.pal.g, 100000⟩
theorem dear_facts {r : ReqM} {l : List Int} (hq : ∀ z ∈ l, 0 ≤ z ∧ z ≤ 255) (h0 : classM r = 0) (hn : ¬ (r.types.length : Int) = 5) (hf : TyFar r.types) :
    classM (addT r (dearT r l)) = 0 ∧ cartonsM (addT r (dearT r l)) = cartonsM r ∧ planSpotsM (addT r (dearT r l)) = planSpotsM r := by
  have hb := cls_sound h0
  simp only [boundsOkM, palletOkM, inB, Bool.and_eq_true, decide_eq_true_eq] at hb
  obtain ⟨⟨⟨⟨⟨⟨⟨⟨⟨⟨g1, g2⟩, g3⟩, g4⟩, g5⟩, g6⟩, g7⟩, g8⟩, g9⟩, g10⟩, g11⟩ := hb
  have m1 := at0Z_mod hq 2 (p := r.pal.w) zb
  have m2 := at0Z_mod hq 3 (p := r.pal.h) zb
  have m3 := at0Z_mod hq 4 (p := r.pal.d) zb
  have m4 := at0Z_mod hq 5 (p := r.pal.g) zb
  have h1 : classM (addT r (dearT r l)) = 0 := by
    refine addT_class h0 ?_ zb (fun s hs => ?_) ?_
    · simp only [typeOkM, dearT, inB, Bool.and_eq_true]
      (repeat' apply And.intro) <;> (refine decide_eq_true ?_; omega)
    · have := (hf s hs).1
      show s.id ≠ 500
      omega
    · simp only [tooBig, dearT, Bool.or_eq_false_iff]
      (repeat' apply And.intro) <;> (refine decide_eq_false ?_; omega)
  have hc : ∀ s ∈ r.types, s.cost < (dearT r l).cost := fun s hs => by
    have := (hf s hs).2
    show s.cost < 100000
    omega
  exact ⟨h1, addT_cartons h0 h1 hc, addT_spots h0 h1 hc⟩
theorem pal_pos {r : ReqM} (h0 : classM r = 0) : ¬ r.pal.w = 0 ∧ ¬ r.pal.d = 0 ∧ ¬ r.pal.h = 0 ∧ ¬ r.pal.g = 0 := by
  have hb := cls_sound h0
  simp only [boundsOkM, palletOkM, inB, Bool.and_eq_true, decide_eq_true_eq] at hb
  omega
theorem dear_in {r : ReqM} {l : List Int} (hq : ∀ z ∈ l, 0 ≤ z ∧ z ≤ 255) (h0 : classM r = 0) : (1 ≤ 1 + (at0Z l 2).tmod r.pal.w ∧ 1 + (at0Z l 2).tmod r.pal.w ≤ 100000) ∧ (1 ≤ 1 + (at0Z l 3).tmod r.pal.h ∧ 1 + (at0Z l 3).tmod r.pal.h ≤ 100000) ∧ (1 ≤ 1 + (at0Z l 4).tmod r.pal.d ∧ 1 + (at0Z l 4).tmod r.pal.d ≤ 100000) ∧ (1 ≤ 1 + (at0Z l 5).tmod r.pal.g ∧ 1 + (at0Z l 5).tmod r.pal.g ≤ 100000) := by
  have hb := cls_sound h0
  simp only [boundsOkM, palletOkM, inB, Bool.and_eq_true, decide_eq_true_eq] at hb
  have m1 := at0Z_mod hq 2 (p := r.pal.w) zb
  have m2 := at0Z_mod hq 3 (p := r.pal.h) zb
  have m3 := at0Z_mod hq 4 (p := r.pal.d) zb
  have m4 := at0Z_mod hq 5 (p := r.pal.g) zb
  omega
attribute [local irreducible] Go.wpList Go.Code.wp Go.Exit.then Go.Exit.inBlock Go.bodyPost Go.Calls pE pB G RunsV FnV Fn FnM
set_option maxRecDepth 100000
set_option maxHeartbeats 4000000
theorem at0D_any {v : Value} {l : List Int} (i : Nat) (w : World) (h : Rd w v 1 (l.map bcell)) (hq : ∀ z ∈ l, 0 ≤ z ∧ z ≤ 255) (hi : i ≤ 100) (hl : l.length ≤ 1048576) : FnV Tryz.prog 43 [v, .int .i64 (i : Int)] w (.int .i64 (at0Z l i)) := by
  have hln : (l.map bcell).length = l.length := by simp
  refine FnV.of (n := 20) Tryz.func43 rfl rfl ?_
  by_cases hlt : i < l.length
  case' pos => (obtain ⟨z, hz⟩ := get_of_lt hlt; have he := get_map hz bcell; have hzq := hq z (List.mem_of_getElem? hz); have hzz : at0Z l i = z := (by rw [at0Z, hz]))
  case' neg => (have hzz : at0Z l i = ((i : Int) * 7 + ((l.map bcell).length : Int)).tmod 256 := (by rw [at0Z, List.getElem?_eq_none zb, hln]))
  all_goals
  refine zaM ?_; refine zcr ?_; refine zcL ?_; refine G.cond rfl (fun hc => ?_) (fun hc => ?_)
  · try exact Bool.noConfusion hc
    all_goals
     try replace hc := of_decide_eq_true hc
     try (exfalso; omega)
     all_goals
      refine zaV ?_; refine zc8 ?_; refine G.v (rv_conv rfl) rfl ?_; refine zb6 ?_; refine G.thenR ?_
      exact G.retFV rfl rfl (by rw [hzz, wrap64_id zb zb])
  · try exact Bool.noConfusion hc
    all_goals
     try replace hc := of_decide_eq_false hc
     try (exfalso; omega)
     all_goals
      refine zcT ?_; refine zaI ?_; refine G.v (rv_mulB rfl rfl zb zb) rfl ?_; refine zaH ?_; refine zbb ?_; refine zb1 ?_; refine G.v (rv_rem rfl rfl zb) rfl ?_; refine zb6 ?_
      exact G.retFV rfl rfl (by rw [hzz])
theorem fnDearer_any {v : Value} {l : List Int} {w : World} (h : Rd w v 1 (l.map bcell)) (hq8 : ∀ z ∈ l, 0 ≤ z ∧ z ≤ 255) : FnV Tryz.prog 8 [v] w (.bool true) := by
  have hlb : (l.map bcell).length = l.length := List.length_map ..
  refine FnV.of (n := 91) Tryz.func8 rfl rfl ?_; refine zco ?_; refine G.op (og_callV rfl rfl (fun w hh => big_any w zB)) rfl (fun _ _ => ?_); refine za8 ?_; refine G.cond rfl (fun hc => ?_) (fun hc => ?_)
  · try exact Bool.noConfusion hc
    all_goals
     try replace hc := of_decide_eq_true hc
     try (exfalso; contradiction)
     all_goals
      refine zdq ?_
      first | exact G.retFV rfl rfl rfl | exact G.retFV rfl rfl zat | exact G.retFV rfl rfl zG | (exfalso; rw [dc1] at hg; cases hg)
  · try exact Bool.noConfusion hc
    all_goals
     try replace hc := of_decide_eq_false hc
     try (exfalso; contradiction)
     all_goals
      refine zcT ?_; refine zaI ?_
      (refine G.op (og_callF3 rfl rfl (fun w hh => dDrawPlanOf_any w zB)) rfl ?_; rintro ⟨⟨r, pv, tv, iv⟩, pv0, es0⟩ hdr; try dsimp only)
      have hopv := hdr.1.1; have hotv := hdr.1.2.1; have hoiv := hdr.1.2.2; dsimp only at hopv hotv hoiv; have htf := hdr.2.2.2.2.2; dsimp only at htf
      have hsl := planSpots_len r
      have hcn := cartons_lenP r
      have htl := hdr.2.2.2.1; dsimp only at htl
      have htl2 : (r.types.map TypeM.cells).length = r.types.length := List.length_map ..
      refine zbo (fun bk3 _ => ?_); refine G.op0 (og_st0 rfl rfl rfl rfl rfl (by repeat (first | rfl | refine one_cons zx ?_)) (.zero (.cons (.cons (.cons (.cons (.cons (.cons (.cons (.cons (.cons (.cons .nil)))))))))))) (fun _ _ => ?_); refine za8 ?_; refine za1 ?_
      (refine G.op (og_callF3 rfl rfl (fun w hh => planOf_any (r := r) w (hdr.2.1 _ (by exact Rd.owned 3 rfl _ hh)) zac zau)) rfl ?_; rintro ⟨⟨cv, cs⟩, sv⟩ ⟨hcv, hsv, hcs⟩; try dsimp only)
      refine zbc (fun bk4 _ => ?_); refine G.op0 (og_st0 rfl rfl rfl rfl rfl (by repeat (first | rfl | refine one_cons zc ?_)) (.zero (.cons (.cons .nil)))) (fun _ _ => ?_); refine zfd ?_; refine G.v (rv_loadW 4 rfl rfl rfl) rfl ?_
      (refine G.op (og_callF3 rfl rfl (fun w hh => splanOf_any (r := r) w (hdr.2.1 _ (by exact Rd.owned 7 rfl _ hh)) (by exact Rd.owned 6 rfl _ hh) (by exact Rd.owned 5 rfl _ hh))) rfl ?_; rintro ⟨⟨dv, ds⟩, ev⟩ ⟨hdv, hev, hds⟩; try dsimp only)
      refine zbc (fun bk6 _ => ?_); refine G.op0 (og_st0 rfl rfl rfl rfl rfl (by repeat (first | rfl | refine one_cons zc ?_)) (.zero (.cons (.cons .nil)))) (fun _ _ => ?_); refine zbf ?_; refine zaV ?_; refine G.v (rv_neqb rfl rfl) rfl ?_; refine za8 ?_; refine G.cond rfl (fun hc => ?_) (fun hc => ?_)
      · try exact Bool.noConfusion hc
        all_goals
         try replace hc := of_decide_eq_true hc
         try (exfalso; contradiction)
         all_goals
          refine zdq ?_
          first | exact G.retFV rfl rfl rfl | exact G.retFV rfl rfl zat | exact G.retFV rfl rfl zG | (exfalso; rw [dc1] at hg; cases hg)
      · try exact Bool.noConfusion hc
        all_goals
         try replace hc := of_decide_eq_false hc
         try (exfalso; contradiction)
         all_goals
          refine zcT ?_; refine zee ?_; refine zd7 ?_
          all_goals (((with_reducible refine G.gP rfl rfl (fun hg => ?_) (fun hg => ?_)) <;> (try exact Bool.noConfusion hg) <;> (try (exfalso; (have hq := of_decide_eq_false hg; omega))) <;> (first | (refine zaL ?_; (refine zaW ?_)) | refine zaK ?_)))
          all_goals ((first | (refine zaL ?_; (refine G.v (rv_load1 8 rfl rfl rfl) rfl ?_)) | refine zaK ?_))
          all_goals ((first | (refine zaL ?_; refine G.v (rv_len rfl (by exact Rd.owned 10 rfl)) rfl ?_) | refine zaK ?_))
          all_goals ((first | (refine zaL ?_; refine zcd ?_) | refine zaK ?_))
          all_goals ((first | refine za5 ?_ | refine za6 ?_))
          all_goals
           refine za8 ?_; refine G.cond rfl (fun hc => ?_) (fun hc => ?_)
           · try exact Bool.noConfusion hc
             all_goals
              try replace hc := of_decide_eq_true hc
              try (exfalso; contradiction)
              all_goals
               refine zaV ?_
               all_goals (((with_reducible refine G.gP rfl rfl (fun hg => ?_) (fun hg => ?_)) <;> (try exact Bool.noConfusion hg) <;> (try (exfalso; (have hq := of_decide_eq_false hg; omega))) <;> (first | (refine zaL ?_; (refine zaW ?_)) | refine zaK ?_)))
               all_goals ((first | (refine zaL ?_; (refine G.v (rv_load1 4 rfl rfl rfl) rfl ?_)) | refine zaK ?_))
               all_goals ((first | (refine zaL ?_; refine G.v (rv_len rfl zaw) rfl ?_) | refine zaK ?_))
               all_goals ((first | (refine zaL ?_; refine zcd ?_) | refine zaK ?_))
               all_goals ((first | refine za5 ?_ | refine za6 ?_))
               all_goals (refine zcp ?_)
               all_goals
                refine zcO ?_; refine G.thenR ?_
                first | exact G.retFV rfl rfl rfl | exact G.retFV rfl rfl zat | exact G.retFV rfl rfl zG | (exfalso; rw [dc1] at hg; cases hg)
           · try exact Bool.noConfusion hc
             all_goals
              try replace hc := of_decide_eq_false hc
              try (exfalso; contradiction)
              all_goals
               have h0 : classM r = 0 := (by cases hd : decide (classM r = 0) with | true => exact of_decide_eq_true hd | false => rw [hd] at hg; cases hg); obtain ⟨pw0, pd0, ph0, pg0⟩ := pal_pos h0; have hn5 : ¬ (r.types.length : Int) = 5 := zb; obtain ⟨⟨qa, qb⟩, ⟨qc, qd⟩, ⟨qe, qf⟩, qg, qh⟩ := dear_in hq8 h0; obtain ⟨dc1, dc2, dc3⟩ := dear_facts (l := l) hq8 h0 hn5 htf
               all_goals
                refine zcT ?_; refine zcv ?_; refine G.v (rv_loadW 8 rfl rfl rfl) rfl ?_; refine zbo (fun bk8 _ => ?_); refine G.op0 (og_st0 rfl rfl rfl rfl rfl (by repeat (first | rfl | refine one_cons zx ?_)) (.zero (.cons (.cons (.cons (.cons (.cons (.cons (.cons (.cons (.cons (.cons .nil)))))))))))) (fun _ _ => ?_); refine zeW ?_; refine G.drawL [35, 36] ?_; refine GE.q 1 rfl za rfl (qg_runs (rv_field rfl)) rfl ?_; refine GE.q 2 rfl za rfl (qg_runs (rv_load1 9 rfl rfl rfl)) rfl ?_; refine zbD ?_; refine GE.q 6 rfl za rfl (qg_runs (rv_field rfl)) rfl ?_; refine GE.q 7 rfl za rfl (qg_runs (rv_field rfl)) rfl ?_; refine GE.q 8 rfl za rfl (qg_runs (rv_load1 9 rfl rfl rfl)) rfl ?_; refine GE.q 11 rfl za rfl (qg_runs (rv_move rfl)) rfl ?_; refine GE.q 13 rfl za rfl (qg_runs (rv_field rfl)) rfl ?_; refine GE.q 14 rfl za rfl (qg_runs (rv_field rfl)) rfl ?_; refine GE.q 15 rfl za rfl (qg_runs (rv_load1 9 rfl rfl rfl)) rfl ?_; refine GE.q 18 rfl za rfl (qg_runs (rv_move rfl)) rfl ?_
                refine GE.q 20 rfl za rfl (qg_runs (rv_field rfl)) rfl ?_; refine GE.q 21 rfl za rfl (qg_runs (rv_field rfl)) rfl ?_; refine GE.q 22 rfl za rfl (qg_runs (rv_load1 9 rfl rfl rfl)) rfl ?_; refine GE.q 25 rfl za rfl (qg_runs (rv_move rfl)) rfl ?_; refine GE.q 27 rfl za rfl (qg_runs (rv_field rfl)) rfl ?_; refine GE.q 28 rfl za rfl (qg_runs (rv_field rfl)) rfl ?_; refine GE.q 29 rfl za rfl (qg_runs (rv_load1 9 rfl rfl rfl)) rfl ?_; refine GE.ol 0 za rfl rfl (og_lit rfl .nil rfl rfl rfl rfl rfl rfl) rfl zj (fun vl _ => ?_); refine GE.ol 3 za rfl rfl (og_app0 rfl rfl rfl (by exact Rd.owned 12 rfl) rfl rfl zh zh) rfl zj (fun va _ => ?_); refine GE.ol 5 za rfl rfl (og_callV rfl rfl (fun w hh => at0D_any 2 w zB hq8 zb zb)) rfl zj (fun _ _ => ?_); refine GE.q2 9 rfl za rfl (qg_runs (rv_rem rfl rfl pw0)) zl rfl ?_; refine GE.q2 10 rfl za rfl (qg_runs (rv_addB rfl rfl zb zb)) zl rfl ?_
                refine GE.ol 12 za rfl rfl (og_callV rfl rfl (fun w hh => at0D_any 3 w zB hq8 zb zb)) rfl zj (fun _ _ => ?_); refine GE.q2 16 rfl za rfl (qg_runs (rv_rem rfl rfl ph0)) zl rfl ?_; refine GE.q2 17 rfl za rfl (qg_runs (rv_addB rfl rfl zb zb)) zl rfl ?_; refine GE.ol 19 za rfl rfl (og_callV rfl rfl (fun w hh => at0D_any 4 w zB hq8 zb zb)) rfl zj (fun _ _ => ?_); refine GE.q2 23 rfl za rfl (qg_runs (rv_rem rfl rfl pd0)) zl rfl ?_; refine GE.q2 24 rfl za rfl (qg_runs (rv_addB rfl rfl zb zb)) zl rfl ?_; refine GE.ol 26 za rfl rfl (og_callV rfl rfl (fun w hh => at0D_any 5 w zB hq8 zb zb)) rfl zj (fun _ _ => ?_); refine GE.ol 30 za rfl rfl (og_runs (rv_rem rfl rfl pg0)) rfl zj (fun _ _ => ?_)
                refine GE.ol 31 za rfl rfl (og_runs (rv_addB rfl rfl zb zb)) rfl zj (fun _ _ => ?_); refine GE.ol 32 za rfl rfl (og_runs (rv_build2 rfl (.cons rfl (.cons rfl (.cons rfl (.cons rfl (.cons rfl (.cons rfl .nil)))))) (.cons rfl rfl (.zero (.cons .nil)) (.cons rfl rfl (.succ (.zero (.cons .nil))) (.cons rfl rfl (.succ (.succ (.zero (.cons .nil)))) (.cons rfl rfl (.succ (.succ (.succ (.zero (.cons .nil))))) (.cons rfl rfl (.succ (.succ (.succ (.succ (.succ (.zero (.cons .nil))))))) (.cons rfl rfl (.succ (.succ (.succ (.succ (.succ (.succ (.zero (.cons .nil)))))))) .nil)))))))) rfl zj (fun _ _ => ?_); refine GE.ol 33 za rfl rfl (og_lit rfl (.cons rfl .nil) rfl rfl rfl rfl rfl rfl) rfl zf (fun vx _ => ?_); refine GE.ol 34 za rfl rfl (og_app1 rfl rfl rfl zg rfl rfl zh zh) rfl zf (fun vb _ => ?_); refine GE.knowD (fun w hw => by exact (Rd.owned 1 rfl (v := vb) w hw).one_) (fun hovb => ?_); refine GE.t 35 za rfl rfl rfl (og_runs (rv_field rfl)) rfl (fun _ _ => ?_)
                refine GE.t0 36 za rfl rfl rfl (og_st2 rfl rfl rfl (cells_one zc) rfl (by repeat (first | rfl | refine one_cons zc ?_)) (.succ (.succ (.succ (.succ (.succ (.succ (.succ (.zero (.cons .nil)))))))))) (fun _ _ => ?_); refine zbh ?_; refine zbJ ?_
                skip
                refine G.frontR1 vb rfl ?_; refine G.rowEq ((addT r (dearT r l)).types.map TypeM.cells) (by rw [addT, List.map_append]; rfl) rfl ?_
                (refine G.op (og_callF3 rfl rfl (fun w hh => planOf_any (r := addT r (dearT r l)) w (hdr.2.1 _ (by exact Rd.owned 14 rfl _ hh)) zO (by exact Rd.owned 12 rfl _ hh))) rfl ?_; rintro ⟨⟨cv2, cs2⟩, sv2⟩ ⟨hcv2, hsv2, hcs2⟩; try dsimp only)
                refine zbc (fun bk9 _ => ?_); refine G.op0 (og_st0 rfl rfl rfl rfl rfl (by repeat (first | rfl | refine one_cons zc ?_)) (.zero (.cons (.cons .nil)))) (fun _ _ => ?_); refine zcJ ?_
                all_goals (((with_reducible refine G.gP rfl rfl (fun hg => ?_) (fun hg => ?_)) <;> (try exact Bool.noConfusion hg) <;> (try (exfalso; (have hq := of_decide_eq_false hg; omega))) <;> ((refine zaL ?_; (refine G.v (rv_loadW 11 rfl rfl rfl) rfl ?_)))))
                all_goals (((refine zaL ?_; (refine zeB ?_))))
                all_goals (((refine zaL ?_; refine G.op (og_callV rfl rfl (fun w hh => planSame_any (cs := cs) (cs' := cs2) (ss := planSpotsM r) (ss' := planSpotsM (addT r (dearT r l))) w (by exact Rd.owned 13 rfl _ hh) (by exact Subs.owned 12 rfl _ hh) (by exact Rd.owned 14 rfl _ hh) zac (by exact Subs.owned 1 rfl _ hh) (by exact Rd.owned 3 rfl _ hh))) rfl (fun _ _ => ?_))))
                all_goals ((refine za5 ?_))
                all_goals (refine zcp ?_)
                all_goals
                 refine zcO ?_
                 first | exact G.retFV rfl rfl rfl | exact G.retFV rfl rfl zat | exact G.retFV rfl rfl zG | (exfalso; rw [dc1] at hg; cases hg)
end Go.Proofs.YtglpgohilfoecaaGreat
