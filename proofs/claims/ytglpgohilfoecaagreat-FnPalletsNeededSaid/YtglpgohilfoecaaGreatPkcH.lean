/-
  Texts of this proof, one behind the other: Draws, DrawR, DrawX, DrawG, DrawC, DrawQ, NeedW.
-/
import Derived.Test.YtglpgohilfoecaaGreatPkcA
import Derived.Test.YtglpgohilfoecaaGreatPkcC
import Derived.Test.YtglpgohilfoecaaGreatPkcG
set_option linter.unusedVariables false
set_option linter.unusedSimpArgs false

/-
  What the draws hand out: numbers in bounds, a cursor that is moved.
-/
namespace Go.Proofs.YtglpgohilfoecaaGreat
open Go.RowKit
attribute [local irreducible] Go.wpList Go.Code.wp Go.Exit.then Go.Exit.inBlock Go.bodyPost Go.Calls pE pB G RunsV FnV Fn FnM
set_option maxRecDepth 100000
set_option maxHeartbeats 4000000

def bcell (z : Int) : List Value := [.int .u8 z]
theorem l1New_any {v : Value} {l : List Int} (w : World) (h : Rd w v 1 (l.map bcell)) : Fn Tryz.prog 123 [v] w (fun _ : Nat × Int => True) (fun x => pB x.1 0) (fun x => [.blk x.1 182 [v, .int .i64 (0 : Nat), .int .i64 x.2]]) := by
  have hle := h.le_map
  have hln : (l.map bcell).length = l.length := by simp
  have hone := h.one_
  refine Fn.of (n := 32) Tryz.func123 rfl rfl ?_; refine zaR ?_; refine zaN ?_; refine zbg ?_; refine zej ?_; refine zd8 ?_; refine G.loopK (ι := Nat × Int) (ks := [0]) (fun x => [(3, .int .i64 x.2), (4, .int .i64 x.1)]) (fun _ => []) (fun x => x.1 ≤ l.length) (fun x => l.length - x.1) (0, IntKind.i64.wrap (26583 + ((l.map bcell).length : Int))) (.cons rfl (.nil)) rfl ?_ ?_ ?_
  exact Nat.zero_le _
  exact ⟨rfl, rfl, trivial⟩
  rintro ⟨k, z⟩ hk
  by_cases hlt : k < l.length
  case' pos => (obtain ⟨b, hb⟩ := get_of_lt hlt; have he := get_map hb bcell)
  all_goals
   refine zcu ?_; refine zbg ?_; refine zcP ?_
   all_goals (((with_reducible refine G.gP rfl rfl (fun hg => ?_) (fun hg => ?_)) <;> (try exact Bool.noConfusion hg) <;> (first | (refine zbr ?_) | refine zaP ?_)))
   all_goals ((first | (refine zcj ?_) | refine zaP ?_))
   all_goals ((first | refine zba ?_ | refine zbc ?_))
   all_goals
    refine zbe ?_; refine G.cond rfl (fun hc => ?_) (fun hc => ?_)
    · try exact Bool.noConfusion hc
      all_goals
       replace hc := of_decide_eq_true hc
       try (exfalso; have hq := of_decide_eq_true hg; simp only [List.length_map] at hq; omega)
       all_goals
        refine za3 ?_; refine zbq ?_; refine G.v (rv_mul rfl rfl) rfl ?_; refine zbH ?_; refine zd3 ?_; refine G.v (rv_conv rfl) rfl ?_; refine zej ?_; refine zej ?_; refine G.v (rv_and rfl rfl) rfl ?_; refine zbb ?_; refine zaO ?_; refine G.backK (k + 1, bits .and .i64 (IntKind.i64.wrap (IntKind.i64.wrap (IntKind.i64.wrap (z * 131) + IntKind.i64.wrap b) + 7)) 1073741823) 0 rfl (.cons rfl (.nil)) ?_ ?_ ?_
        exact ⟨rfl, rfl, trivial⟩
        exact hlt
        omega
    · all_goals
       try replace hc := of_decide_eq_false hc
       try (exfalso; have hq := of_decide_eq_true hg; simp only [List.length_map] at hq; omega)
       all_goals
        refine zaW ?_; refine zaZ ?_; refine G.v (rv_build2 rfl (.cons (cells_one zc) (.cons rfl .nil)) (.cons rfl rfl (.zero (.cons .nil)) (.cons rfl rfl (.succ (.succ (.zero (.cons .nil)))) .nil))) rfl ?_; refine zdc (fun bk31 _ => ?_); refine zco ?_
        exact G.retF (bk31, _) trivial rfl rfl rfl (fun w hw => hw)
theorem l1Byte_any {w0 : World} {v : Value} {l : List Int} {cb i : Nat} {h : Int} (hv : Rd w0 v 1 (l.map bcell)) (hi : i ≤ l.length) :
    FnM Tryz.prog 206 [pB cb 0] w0 [.blk cb 182 [v, .int .i64 i, .int .i64 h]] (fun x : Int × Nat × Int => (0 ≤ x.1 ∧ x.1 ≤ 255) ∧ x.2.1 ≤ l.length) (fun x => .int .i64 x.1) (fun x => [.blk cb 182 [v, .int .i64 x.2.1, .int .i64 x.2.2]]) := by
  have hle := hv.le_map
  have hone := hv.one_
  refine FnM.of (n := 58) Tryz.func206 rfl rfl (fun F => ?_); refine zfP ?_; refine G.v (rv_nilCheckB rfl) rfl ?_; refine zdJ ?_; refine G.v (rv_mul rfl rfl) rfl ?_; refine zej ?_; refine G.v (rv_nilCheckB rfl) rfl ?_; refine za1 ?_; refine G.op0 (og_st0 rfl rfl rfl rfl rfl rfl (.succ (.succ (.zero (.cons .nil))))) (fun _ _ => ?_); refine ze1 ?_; refine G.drawL [12] ?_; refine zes ?_; refine GE.q 1 rfl za rfl (qg_runs (rv_nilCheckB rfl)) rfl ?_; refine zdL ?_; refine GE.q 3 rfl za rfl (qg_runs (rv_load1 0 rfl rfl rfl)) rfl ?_; refine GE.q 4 rfl za rfl (qg_runs (rv_shr rfl rfl zb)) rfl ?_; refine zeY (fun _ _ => ?_); refine GE.ol 6 za rfl rfl (og_runs (rv_nilCheckB rfl)) rfl zd (fun _ _ => ?_)
  refine GE.ol 7 za rfl rfl (og_runs (rv_field rfl)) rfl zd (fun _ _ => ?_); refine GE.ol 8 za rfl rfl (og_runs (rv_load1 0 rfl rfl rfl)) rfl zd (fun _ _ => ?_); refine GE.ol 9 za rfl rfl (og_runs (rv_shr rfl rfl zb)) rfl zd (fun _ _ => ?_); refine GE.ol 10 za rfl rfl (og_runs (rv_xor rfl rfl)) rfl zd (fun _ _ => ?_); refine GE.ol 11 za rfl rfl (og_runs (rv_and rfl rfl)) rfl zd (fun _ _ => ?_); refine zc3 (fun _ _ => ?_); refine zbm ?_; refine G.seq ?_; refine zeS ?_; refine zes ?_; refine GE.q 1 rfl za rfl (qg_runs (rv_nilCheckB rfl)) rfl ?_; refine zdL ?_; refine GE.q 3 rfl za rfl (qg_runs (rv_load1 0 rfl rfl rfl)) rfl ?_; refine GE.ol 4 za rfl rfl (og_runs (rv_move rfl)) rfl zd (fun _ _ => ?_)
  refine GE.ol 5 za rfl rfl (og_runs (rv_nilCheckB rfl)) rfl zd (fun _ _ => ?_); refine zdv (fun _ _ => ?_); refine zfc (fun _ _ => ?_); refine GE.ol 8 za rfl rfl (og_runs (rv_len rfl ze)) rfl zd (fun _ _ => ?_); refine GE.ol 9 za rfl rfl (og_runs (rv_lss rfl rfl)) rfl zd (fun _ _ => ?_); refine zbm ?_; refine G.condD rfl (fun hc => ?_) (fun hc => ?_)
  · rcases Nat.lt_or_ge i l.length with h8 | h8; rotate_left; (exfalso; simp only [List.length_map] at hc; omega); obtain ⟨b, hb⟩ := get_of_lt h8; have he := get_map hb bcell; have hi2 := get_lt hb
    refine G.seq (G.drawL [14] ?_); refine za4 ?_; refine GE.q 2 rfl za rfl (qg_runs (rv_nilCheckB rfl)) rfl ?_; refine GE.q 3 rfl za rfl (qg_runs (rv_field rfl)) rfl ?_; refine GE.q 4 rfl za rfl (qg_runs (rv_load1 0 rfl rfl rfl)) rfl ?_; refine zeY (fun _ _ => ?_); refine GE.ol 6 za rfl rfl (og_runs (rv_nilCheckB rfl)) rfl zd (fun _ _ => ?_); refine GE.ol 7 za rfl rfl (og_runs (rv_field rfl)) rfl zd (fun _ _ => ?_); refine GE.ol 8 za rfl rfl (og_runs (rv_load1 0 rfl rfl rfl)) rfl zd (fun _ _ => ?_); refine GE.ol 9 za rfl rfl (og_runs (rv_indexH rfl rfl ze rfl zc)) rfl zd (fun _ _ => ?_); refine GE.ol 10 za rfl rfl (og_runs (rv_loadE rfl ze zc rfl)) rfl zd (fun _ _ => ?_)
    refine GE.ol 11 za rfl rfl (og_runs (rv_conv rfl)) rfl zd (fun _ _ => ?_); refine GE.ol 12 za rfl rfl (og_runs (rv_add rfl rfl)) rfl zd (fun _ _ => ?_); refine GE.ol 13 za rfl rfl (og_runs (rv_and rfl rfl)) rfl zd (fun _ _ => ?_); refine GE.t 14 za rfl rfl rfl (og_runs (rv_assign rfl)) rfl (fun _ _ => ?_); refine zbm ?_; refine zdR ?_; refine G.v (rv_nilCheckB rfl) rfl ?_; refine zdJ ?_; refine zeQ ?_; refine G.v (rv_nilCheckB rfl) rfl ?_; refine za1 ?_; refine G.op0 (og_st0 rfl rfl rfl rfl rfl rfl (.succ (.zero (.cons .nil)))) (fun _ _ => ?_); refine zbe ?_; refine zbp ?_
    exact G.retF (_, i + 1, _) ⟨and255 _, hi2⟩ rfl rfl rfl (fun w hw => hw)
  refine zc1 ?_; refine zbp ?_
  exact G.retF (_, i, _) ⟨and255 _, hi⟩ rfl rfl rfl (fun w hw => hw)
theorem l1Below_any {w0 : World} {v : Value} {l : List Int} {cb i : Nat} {h : Int} (m : Int) (hv : Rd w0 v 1 (l.map bcell)) (hi : i ≤ l.length) :
    FnM Tryz.prog 146 [pB cb 0, .int .i64 m] w0 [.blk cb 182 [v, .int .i64 i, .int .i64 h]] (fun x : Int × Nat × Int => (0 ≤ x.1 ∧ (0 < m → x.1 < m)) ∧ x.2.1 ≤ l.length) (fun x => .int .i64 x.1) (fun x => [.blk cb 182 [v, .int .i64 x.2.1, .int .i64 x.2.2]]) := by
  refine FnM.of (n := 37) Tryz.func146 rfl rfl (fun F => ?_); refine zcK ?_; refine zfa ?_; refine G.condD rfl (fun hc => ?_) (fun hc => ?_); refine zdM ?_
  exact G.retF (_, _, _) ⟨⟨Int.le_refl 0, fun h0 => absurd h0 zb⟩, hi⟩ rfl rfl rfl (fun w hw => hw)
  refine zc1 ?_; refine zeA ?_; refine zfa ?_; refine G.condD rfl (fun hc => ?_) (fun hc => ?_); refine zaN ?_; refine zex ?_; rintro ⟨xr, xi, xh⟩ ⟨⟨hx0, hx1⟩, hxi⟩; try dsimp only
  refine zaM ?_; refine G.v (rv_rem rfl rfl zb) rfl ?_; refine zco ?_; refine G.thenR ?_
  exact G.retF (_, _, _) ⟨⟨Int.tmod_nonneg _ zb, fun _ => Int.tmod_lt_of_pos _ zb⟩, by assumption⟩ rfl rfl rfl (fun w hw => hw)
  refine zc1 ?_; refine zaN ?_; refine zex ?_; rintro ⟨xr, xi, xh⟩ ⟨⟨hx0, hx1⟩, hxi⟩; try dsimp only
  refine zdS ?_; refine zex ?_; rintro ⟨xr, xi, xh⟩ ⟨⟨hx0, hx1⟩, hxi⟩; try dsimp only
  refine zdS ?_; refine zex ?_; rintro ⟨xr, xi, xh⟩ ⟨⟨hx0, hx1⟩, hxi⟩; try dsimp only
  refine zdS ?_; refine zex ?_; rintro ⟨xr, xi, xh⟩ ⟨⟨hx0, hx1⟩, hxi⟩; try dsimp only
  refine zdS ?_; refine G.v (rv_mulB rfl rfl zb zb) rfl ?_; refine zaM ?_; refine G.v (rv_mulB rfl rfl zb zb) rfl ?_; refine zcd ?_; refine zaM ?_; refine G.v (rv_mulB rfl rfl zb zb) rfl ?_; refine zcd ?_; refine zaM ?_; refine zcd ?_; refine zaM ?_; refine G.v (rv_rem rfl rfl zb) rfl ?_; refine zco ?_
  exact G.retF (_, _, _) ⟨⟨Int.tmod_nonneg _ zb, fun _ => Int.tmod_lt_of_pos _ zb⟩, by assumption⟩ rfl rfl rfl (fun w hw => hw)
theorem l1Once_any {w0 : World} {v : Value} {l : List Int} {cb i : Nat} {h : Int} (m : Int) (hv : Rd w0 v 1 (l.map bcell)) (hi : i ≤ l.length) :
    FnM Tryz.prog 124 [pB cb 0, .int .i64 m] w0 [.blk cb 182 [v, .int .i64 i, .int .i64 h]] (fun x : Bool × Nat × Int => x.2.1 ≤ l.length) (fun x => .bool x.1) (fun x => [.blk cb 182 [v, .int .i64 x.2.1, .int .i64 x.2.2]]) := by
  refine FnM.of (n := 9) Tryz.func124 rfl rfl (fun F => ?_); refine zfP ?_; refine zel ?_; rintro ⟨xr, xi, xh⟩ ⟨⟨hx0, hx1⟩, hxi⟩; try dsimp only
  refine zcc ?_; refine G.ret ?_
  exact G.retF (_, _, _) hxi rfl rfl rfl (fun w hw => hw)
theorem l1PickInt_any {w0 : World} {F : List Ch} {v : Value} {l : List Int} {cb i : Nat} {h : Int} {u : Value} {es : List (List Value)} (hu : ∀ w, HeapOk w0 w F → Rd w u 1 es) (hn : Nat.ble 1 es.length = true) (hs : es.all (fun e => match e with | [.int .i64 _] => true | _ => false) = true) (hv : Rd w0 v 1 (l.map bcell)) (hi : i ≤ l.length) :
    FnMF Tryz.prog 145 [pB cb 0, u] w0 [.blk cb 182 [v, .int .i64 i, .int .i64 h]] F (fun x : Int × Nat × Int => [.int .i64 x.1] ∈ es ∧ x.2.1 ≤ l.length) (fun x => .int .i64 x.1) (fun x => [.blk cb 182 [v, .int .i64 x.2.1, .int .i64 x.2.2]]) := by
  have hn' := Nat.le_of_ble_eq_true hn
  have hu' : ∀ (c : Ch) w, HeapOk w0 w (c :: F) → Rd w u 1 es := fun c w hh => hu w hh.tail
  refine FnMF.of (n := 12) Tryz.func145 rfl rfl ?_; refine zfP ?_; refine zaM ?_; refine G.v (rv_len rfl (hu' _)) rfl ?_; refine zel ?_; rintro ⟨xr, xi, xh⟩ ⟨⟨hx0, hx1⟩, hxi⟩; try dsimp only
  obtain ⟨k, rfl⟩ := Int.eq_ofNat_of_zero_le hx0; obtain ⟨e, he⟩ := get_of_lt (l := es) (k := k) zb; have hme := List.mem_of_getElem? he; obtain ⟨z, rfl⟩ := pick_int (List.all_eq_true.1 hs e hme)
  refine G.v (rv_indexH rfl rfl (hu' _) rfl zc) rfl ?_; refine G.v (rv_loadE rfl (hu' _) zc rfl) rfl ?_; refine zco ?_
  exact G.retF (z, _, _) ⟨hme, hxi⟩ rfl rfl rfl (fun w hw => hw)
theorem big_any {v : Value} {l : List Int} (w : World) (h : Rd w v 1 (l.map bcell)) : FnV Tryz.prog 18 [v] w (.bool (decide (((l.map bcell).length : Int) > 1048576))) := by
  refine FnV.of (n := 6) Tryz.func18 rfl rfl ?_; refine zaR ?_; refine zaN ?_; refine zbg ?_; refine zdK ?_; refine zco ?_
  exact G.retFV rfl rfl rfl
end Go.Proofs.YtglpgohilfoecaaGreat

/-
  Orders that the draws hand out.
-/
namespace Go.Proofs.YtglpgohilfoecaaGreat
open Go.RowKit
theorem GE.knowD {P : Program} {ops : Array Oper} {Q : Exit → Act → World → Prop} {qs : List Nat} {n : Nat} {w0 : World} {HC : List Ch} {f : Nat} {listed : Array Bool} {fr : Fr} {H : List Ch} {p : Prop} (hp : ∀ w, HeapOk w0 w H → p) (h : p → GE P ops Q qs n w0 HC f listed fr H) : GE P ops Q qs n w0 HC f listed fr H := G.know hp h
theorem G.cut {P : Program} {n : Nat} {w0 : World} {fr : Fr} {H : List Ch} {Q : Exit → Act → World → Prop} {K : Act → World → Prop} {ι : Type} {c : Code} {ks : List Nat} {gr : Fr} {H0 : List Ch} (ch : ι → Fr) (hs : ι → List Ch) (pI : ι → Prop) (m0 : Nat) (hk : Keep fr ks gr) (hH0 : H.drop m0 = H0)
    (h1 : G n w0 fr H (c.wp P (Exit.then (fun a w => ∃ i, pI i ∧ Rep n a (ch i ++ gr) ∧ HeapOk w0 w (hs i ++ H0)) Q))) (h2 : ∀ i, pI i → G n w0 (ch i ++ gr) (hs i ++ H0) (Exit.then K Q .normal)) : G n w0 fr H (c.wp P (Exit.then K Q)) := by
  intro a w hr hh
  refine wp_mono (h1 a w hr hh) fun e a' w' hq => ?_
  cases e with
  | normal => obtain ⟨i, h3, h4, h5⟩ := hq; exact h2 i h3 a' w' h4 h5
  | exit id => exact hq
  | goto l => exact hq
  | ret => exact hq
  | panic ch => exact hq
  | outgrown => exact hq
theorem G.cutEnd {n : Nat} {w0 : World} {fr : Fr} {H : List Ch} {Q : Exit → Act → World → Prop} {ι : Type} {ks : List Nat} {gr : Fr} {H0 : List Ch} {ch : ι → Fr} {hs : ι → List Ch} {pI : ι → Prop} (i' : ι) (m : Nat) (hH : H.drop m = hs i' ++ H0) (hk : Keep fr ks gr) (hc : Sub (ch i') fr) (hp : pI i') :
    G n w0 fr H (Exit.then (fun a' w' => ∃ i', pI i' ∧ Rep n a' (ch i' ++ gr) ∧ HeapOk w0 w' (hs i' ++ H0)) Q .normal) :=
  fun _ _ hr hh => ⟨i', hp, hr.sub (Sub.append hc hk.sub), hH ▸ hh.drop m⟩
attribute [local irreducible] Go.wpList Go.Code.wp Go.Exit.then Go.Exit.inBlock Go.bodyPost Go.Calls pE pB G RunsV FnV Fn FnM
set_option maxRecDepth 100000
set_option maxHeartbeats 4000000
theorem three_eqD {a a' b b' c c' : Ch} {F : List Ch} (h1 : a = a') (h2 : b = b') (h3 : c = c') : a :: b :: c :: F = [a', b', c'] ++ F := by subst h1 h2 h3; rfl
theorem G.keep3D {n : Nat} {w0 : World} {fr : Fr} {H : List Ch} (m : Nat) {c1 c2 c3 : Ch} {J : List Ch} {K : Act → World → Prop} (hH : H = c1 :: c2 :: c3 :: J) (h : G n w0 fr (c1 :: c2 :: c3 :: J.drop m) K) : G n w0 fr H K := G.heap (fun w hh => by subst hH; exact hh.sublist (List.Sublist.cons_cons _ (List.Sublist.cons_cons _ (List.Sublist.cons_cons _ (List.drop_sublist m J))))) h
/-- Drawn types have small numbers and cost little. -/
def TyFar (l : List TypeM) : Prop := ∀ t ∈ l, t.id ≤ 20 ∧ t.cost ≤ 20
theorem TyFar.snoc {l : List TypeM} {t : TypeM} (h : TyFar l) (a : t.id ≤ 20) (b : t.cost ≤ 20) : TyFar (l ++ [t]) := fun s hs => by
  rcases List.mem_append.1 hs with hs | hs
  · exact h s hs
  · rw [List.mem_singleton.1 hs]; exact ⟨a, b⟩
theorem TyFar.one {t : TypeM} (a : t.id ≤ 20) (b : t.cost ≤ 20) : TyFar [t] := fun s hs => by
  rw [List.mem_singleton.1 hs]; exact ⟨a, b⟩
theorem pick_cost {z : Int} (h : [Value.int .i64 z] ∈ [[Value.int .i64 9], [Value.int .i64 20]]) : z ≤ 20 := by
  simp only [List.mem_cons, List.cons.injEq, Value.int.injEq, List.not_mem_nil, or_false, and_true, true_and] at h
  omega
theorem l2Right_any {w0 : World} {v : Value} {l : List Int} {cb i : Nat} {h : Int} (hv : Rd w0 v 1 (l.map bcell)) (hi : i ≤ l.length) :
    FnM Tryz.prog 177 [pB cb 0] w0 [.blk cb 182 [v, .int .i64 i, .int .i64 h]] (fun x : (ReqM × Value × Value × Value) × Nat × Int => ((x.1.2.1.oneCell' = true ∧ x.1.2.2.1.oneCell' = true ∧ x.1.2.2.2.oneCell' = true) ∧ x.1.1.pairs.length ≤ 32 ∧ 1 ≤ x.1.1.types.length ∧ x.1.1.types.length ≤ 8 ∧ x.1.1.items.length ≤ 6 ∧ TyFar x.1.1.types) ∧ x.2.1 ≤ l.length)
      (fun x => .agg (x.1.1.cells x.1.2.1 x.1.2.2.1 x.1.2.2.2).toArray) (fun x => [.row x.1.2.2.2 111 7 (x.1.1.items.map ItemM.cells), .row x.1.2.2.1 56 7 (x.1.1.types.map TypeM.cells), .row x.1.2.1 138 2 (x.1.1.pairs.map PairM.cells), .blk cb 182 [v, .int .i64 x.2.1, .int .i64 x.2.2]]) := by
  refine FnM.of (n := 165) Tryz.func177 rfl rfl (fun F => ?_); refine zct ?_; refine zbu (fun bk2 _ => ?_); refine zeC ?_; refine G.op (og_callM1 rfl rfl rfl (l1Below_any _ zc zc).toF) rfl ?_; rintro ⟨wy, xi, xh⟩ ⟨⟨hx0, hx1⟩, hxi⟩; try dsimp only
  refine zb5 (fun vl _ => ?_); refine zcS ?_; rintro ⟨pw, xi, xh⟩ ⟨hxm, hxi⟩; try dsimp only
  refine zb5 (fun vl _ => ?_); refine zcS ?_; rintro ⟨pd, xi, xh⟩ ⟨hxm, hxi⟩; try dsimp only
  refine zb5 (fun vl _ => ?_); refine zcS ?_; rintro ⟨ph, xi, xh⟩ ⟨hxm, hxi⟩; try dsimp only
  refine zb5 (fun vl _ => ?_); refine zcS ?_; rintro ⟨pg, xi, xh⟩ ⟨hxm, hxi⟩; try dsimp only
  refine zbG ?_; refine zaM ?_; refine zel ?_; rintro ⟨cz, xi, xh⟩ ⟨⟨hx0, hx1⟩, hxi⟩; try dsimp only
  obtain ⟨cl, rfl⟩ := Int.eq_ofNat_of_zero_le hx0; have hcl3 : cl ≤ 3 := zb
  refine zcd ?_; refine G.v (rv_build2 rfl (.cons rfl (.cons rfl (.cons rfl (.cons rfl .nil)))) (.cons rfl rfl (.zero (.cons .nil)) (.cons rfl rfl (.succ (.zero (.cons (.cons (.cons (.cons .nil)))))) (.cons rfl rfl (.succ (.succ (.succ (.succ (.succ (.zero (.cons .nil))))))) (.cons rfl rfl (.succ (.succ (.succ (.succ (.succ (.succ (.succ (.succ (.zero (.cons .nil)))))))))) .nil))))) rfl ?_; refine zbu (fun bk3 _ => ?_); refine G.op0 (og_st0 rfl rfl rfl rfl rfl (by repeat (rfl)) (.zero (.cons (.cons (.cons (.cons (.cons (.cons (.cons (.cons (.cons (.cons .nil)))))))))))) (fun _ _ => ?_); refine ze1 ?_; refine zb8 ?_; refine G.heap (fun w hh => hh.nilRow 138 2) ?_; refine G.frontB2 cb rfl ?_; refine G.frontR1 (Value.slice none 0 0) rfl ?_; refine G.frontB2 bk3 rfl ?_
  refine G.loopK (ι := Nat × Value × List PairM × Nat × Int) (ks := [0, 2, 3]) (fun x => [(4, .int .i64 (x.1 : Int))]) (fun x => [.blk bk3 41 [.int .i64 wy, .int .i64 pw, .int .i64 pd, .int .i64 ph, .int .i64 pg, .int .i64 (1 + (cl : Int)), x.2.1, .slice none 0 0, .int .i64 7, .slice none 0 0], .row x.2.1 138 2 (x.2.2.1.map PairM.cells), .blk cb 182 [v, .int .i64 x.2.2.2.1, .int .i64 x.2.2.2.2]]) (fun x => (x.1 ≤ cl + 1 ∧ x.2.2.1.length ≤ 8 * x.1) ∧ x.2.2.2.1 ≤ l.length) (fun x => cl + 1 - x.1) (0, .slice none 0 0, [], xi, xh) (.cons rfl (.cons rfl (.cons rfl (.nil)))) rfl ?_ ?_ ?_
  exact ⟨⟨Nat.zero_le _, Nat.zero_le _⟩, hxi⟩
  exact ⟨rfl, trivial⟩
  rintro ⟨a, pv, ps, xi, xh⟩ ⟨⟨ha, hpl⟩, hxi⟩
  dsimp only at ha hpl hxi ⊢
  by_cases hlt : a < cl + 1
  case' neg => (refine G.heap (fun w hh => hh.nilRow 56 7) ?_)
  all_goals
   refine zeA ?_; refine za1 ?_
   first | refine za0 ?_ | refine zdw ?_
   refine zaT ?_; refine G.cond rfl (fun hc => ?_) (fun hc => ?_)
   · all_goals
      replace hc := of_decide_eq_true hc
      try (exfalso; omega)
      all_goals
       refine za3 ?_; refine zb8 ?_; refine G.loopK (ι := Nat × Value × List PairM × Nat × Int) (ks := [0, 2, 3, 4]) (fun x => [(5, .int .i64 (x.1 : Int))]) (fun x => [.blk bk3 41 [.int .i64 wy, .int .i64 pw, .int .i64 pd, .int .i64 ph, .int .i64 pg, .int .i64 (1 + (cl : Int)), x.2.1, .slice none 0 0, .int .i64 7, .slice none 0 0], .row x.2.1 138 2 (x.2.2.1.map PairM.cells), .blk cb 182 [v, .int .i64 x.2.2.2.1, .int .i64 x.2.2.2.2]]) (fun x => (x.1 ≤ a + 1 ∧ x.2.2.1.length ≤ 8 * a + 2 * x.1) ∧ x.2.2.2.1 ≤ l.length) (fun x => a + 1 - x.1) (0, pv, ps, xi, xh) (.cons rfl (.cons rfl (.cons rfl (.cons rfl (.nil))))) rfl ?_ ?_ ?_
       exact ⟨⟨Nat.zero_le _, by dsimp only; omega⟩, hxi⟩
       exact ⟨rfl, trivial⟩
       rintro ⟨b, pv2, ps2, xi2, xh2⟩ ⟨⟨hb, hpl2⟩, hxi2⟩
       dsimp only at hb hpl2 hxi2 ⊢
       have hpl3 : (ps2.map PairM.cells).length = ps2.length := by simp
       all_goals
        refine zcu ?_; refine zfa ?_; refine G.cond rfl (fun hc => ?_) (fun hc => ?_)
        · all_goals
           replace hc := of_decide_eq_true hc
           all_goals
            refine za3 ?_; refine zaZ ?_; refine zdy ?_; refine G.cond rfl (fun hc => ?_) (fun hc => ?_)
            · all_goals
               replace hc := of_decide_eq_true hc
               all_goals
                refine zbx ?_; refine zbH ?_; refine zcT ?_; refine za2 (fun vx _ => ?_); refine zdI (fun va _ => ?_); refine G.know (fun w hw => by exact (Rd.owned 2 rfl (v := va) w hw).one_) (fun hova => ?_); refine za1 ?_; refine G.op0 (og_st1 rfl rfl rfl (cells_one zc) rfl (by repeat (first | rfl | refine one_cons zc ?_)) (.succ (.succ (.succ (.succ (.succ (.succ (.zero (.cons .nil))))))))) (fun _ _ => ?_); refine G.done ?_; refine zaO ?_; refine G.frontB3 cb rfl ?_; refine G.frontR3 va rfl ?_; refine G.frontB3 bk3 rfl ?_; refine G.keep3D 1 rfl ?_; refine G.backK (b + 1, va, ps2 ++ [⟨_, _⟩], _, _) 0 (by (exact three_eqD rfl (congrArg (fun z => Ch.row va 138 2 z) zL) rfl)) (.cons rfl (.cons rfl (.cons rfl (.cons rfl (.nil))))) ?_ ?_ ?_
                exact ⟨rfl, trivial⟩
                exact ⟨⟨by dsimp only; omega, by simp; omega⟩, by assumption⟩
                dsimp only; omega
            · all_goals
               replace hc := of_decide_eq_false hc
               all_goals
                refine zaN ?_; refine G.op (og_callM2 rfl rfl rfl (l1Once_any _ zc zc).toF) rfl ?_; rintro ⟨xr, xi, xh⟩ hxi; try dsimp only
                refine zbe ?_; refine G.cond rfl (fun hc => ?_) (fun hc => ?_)
                · all_goals
                   all_goals
                    refine G.region ?_; refine zbl ?_; refine zbH ?_; refine zcT ?_; refine zbH ?_; refine zcT ?_; refine G.op (og_lit rfl (.cons rfl (.cons rfl .nil)) rfl rfl rfl rfl rfl rfl) rfl (fun vx _ => ?_); refine zcC (fun va _ => ?_); refine G.know (fun w hw => by exact (Rd.owned 3 rfl (v := va) w hw).one_) (fun hova => ?_); refine za1 ?_; refine G.op0 (og_st2 rfl rfl rfl (cells_one zc) rfl (by repeat (first | rfl | refine one_cons zc ?_)) (.succ (.succ (.succ (.succ (.succ (.succ (.zero (.cons .nil))))))))) (fun _ _ => ?_); refine G.done ?_; refine zaO ?_; refine zdB ?_; refine G.frontR3 va rfl ?_; refine G.frontB3 bk3 rfl ?_
                    refine G.keep3D 1 rfl ?_; refine G.backK (b + 1, va, ps2 ++ [⟨_, _⟩, ⟨_, _⟩], _, _) 0 (by (exact three_eqD rfl (congrArg (fun z => Ch.row va 138 2 z) zL) rfl)) (.cons rfl (.cons rfl (.cons rfl (.cons rfl (.nil))))) ?_ ?_ ?_
                    exact ⟨rfl, trivial⟩
                    exact ⟨⟨by dsimp only; omega, by simp; omega⟩, by assumption⟩
                    dsimp only; omega
                · all_goals
                   all_goals
                    refine zfL ?_; refine zfO ?_; refine G.frontR2 pv2 rfl ?_; refine G.frontB2 bk3 rfl ?_; refine G.keep3D 0 rfl ?_; refine G.backK (b + 1, pv2, ps2, _, _) 0 (by exact three_eqD rfl rfl rfl) (.cons rfl (.cons rfl (.cons rfl (.cons rfl (.nil))))) ?_ ?_ ?_
                    exact ⟨rfl, trivial⟩
                    exact ⟨⟨by dsimp only; omega, by simp; omega⟩, by assumption⟩
                    dsimp only; omega
        · all_goals
           replace hc := of_decide_eq_false hc
           all_goals
            refine zcZ ?_; refine zaO ?_; refine G.backK (a + 1, pv2, ps2, xi2, xh2) 0 rfl (.cons rfl (.cons rfl (.cons rfl (.nil)))) ?_ ?_ ?_
            exact ⟨rfl, trivial⟩
            exact ⟨⟨by dsimp only; omega, by dsimp only; omega⟩, hxi2⟩
            dsimp only; omega
   · all_goals
      replace hc := of_decide_eq_false hc
      try (exfalso; omega)
      all_goals
       refine zaW ?_; refine G.seq (G.frontB3 cb rfl ?_); refine G.frontR1 (Value.slice none 0 0) rfl ?_; refine G.frontB2 bk3 rfl ?_; refine G.cut (ι := Value × TypeM × Nat × Int) (ks := [0, 2, 3]) (fun _ => []) (fun x => [.blk bk3 41 [.int .i64 wy, .int .i64 pw, .int .i64 pd, .int .i64 ph, .int .i64 pg, .int .i64 (1 + (cl : Int)), pv, x.1, .int .i64 7, .slice none 0 0], .row x.1 56 7 [x.2.1.cells], .blk cb 182 [v, .int .i64 x.2.2.1, .int .i64 x.2.2.2]]) (fun x => (x.1.oneCell' = true ∧ TyFar [x.2.1]) ∧ x.2.2.1 ≤ l.length) 3 (.cons rfl (.cons rfl (.cons rfl (.nil)))) rfl ?_ ?_
       focus
        refine G.frontB2 cb rfl ?_; refine G.frontR2 (Value.slice none 0 0) rfl ?_; refine G.drawD2 [13, 14] rfl ?_; refine zeM ?_; refine GE.q2 4 rfl za rfl (qg_runs (rv_move rfl)) zt rfl ?_; refine GE.q2 7 rfl za rfl (qg_runs (rv_move rfl)) zt rfl ?_; refine GE.any (rs := [3, 5, 8]) za zD ?_; refine List.forall_mem_cons.2 ⟨?_, List.forall_mem_cons.2 ⟨?_, List.forall_mem_cons.2 ⟨?_, fun _ h => absurd h List.not_mem_nil⟩⟩⟩
        focus
         refine GE.pickOp rfl rfl rfl (og_callM1 rfl rfl rfl (l1Below_any _ zc zc).toF) rfl zf ?_; rintro ⟨xr, xi, xh⟩ ⟨⟨hx0, hx1⟩, hxi⟩; try dsimp only
         refine GE.any (rs := [5, 8]) za zD ?_; refine List.forall_mem_cons.2 ⟨?_, List.forall_mem_cons.2 ⟨?_, fun _ h => absurd h List.not_mem_nil⟩⟩
         focus
          refine GE.pickOp rfl rfl rfl (og_lit rfl (.cons rfl (.cons rfl (.cons rfl .nil))) rfl rfl rfl rfl rfl rfl) rfl zk (fun vl _ => ?_); refine GE.any (rs := [6, 8]) za zD ?_; refine List.forall_mem_cons.2 ⟨?_, List.forall_mem_cons.2 ⟨?_, fun _ h => absurd h List.not_mem_nil⟩⟩
          focus
           refine GE.pickOp rfl rfl rfl (og_callM1 rfl rfl rfl (l1PickInt_any zg rfl rfl zc zc)) rfl zk ?_; rintro ⟨xr, xi, xh⟩ ⟨hxm, hxi⟩; try dsimp only
           refine GE.ol 8 za rfl rfl (og_lit rfl (.cons rfl (.cons rfl .nil)) rfl rfl rfl rfl rfl rfl) rfl zu (fun vl _ => ?_); refine GE.ol 9 za rfl rfl (og_callM1 rfl rfl rfl (l1PickInt_any zg rfl rfl zc zc)) rfl zu ?_; rintro ⟨xr, xi, xh⟩ ⟨hxm, hxi⟩; try dsimp only
           refine zaS (fun _ _ => ?_); refine zce (fun vl _ => ?_); refine zcB (fun tv1 _ => ?_)
           skip; refine zcM (fun hotv => ?_)
           refine zc8 (fun _ _ => ?_); refine GE.t0 14 za rfl rfl rfl (og_st5 rfl rfl rfl (cells_one zc) rfl (by repeat (first | rfl | refine one_cons zc ?_)) (.succ (.succ (.succ (.succ (.succ (.succ (.succ (.zero (.cons .nil)))))))))) (fun _ _ => ?_); refine zb3 ?_
          rotate_left
          focus
           refine ze2 (fun vl _ => ?_); refine GE.ol 6 za rfl rfl (og_callM2 rfl rfl rfl (l1PickInt_any zi rfl rfl zc zc)) rfl zu ?_; rintro ⟨xr, xi, xh⟩ ⟨hxm, hxi⟩; try dsimp only
           refine zfE ?_; rintro ⟨xr, xi, xh⟩ ⟨hxm, hxi⟩; try dsimp only
           refine zaS (fun _ _ => ?_); refine zce (fun vl _ => ?_); refine zcB (fun tv1 _ => ?_)
           skip; refine zcM (fun hotv => ?_)
           refine zc8 (fun _ _ => ?_); refine GE.t0 14 za rfl rfl rfl (og_st5 rfl rfl rfl (cells_one zc) rfl (by repeat (first | rfl | refine one_cons zc ?_)) (.succ (.succ (.succ (.succ (.succ (.succ (.succ (.zero (.cons .nil)))))))))) (fun _ _ => ?_); refine zb3 ?_
          rotate_left
         rotate_left 2
         focus
          refine GE.pickOp rfl rfl rfl (og_lit rfl (.cons rfl (.cons rfl .nil)) rfl rfl rfl rfl rfl rfl) rfl zk (fun vl _ => ?_); refine GE.ol 5 za rfl rfl (og_lit rfl (.cons rfl (.cons rfl (.cons rfl .nil))) rfl rfl rfl rfl rfl rfl) rfl zu (fun vl _ => ?_); refine GE.ol 6 za rfl rfl (og_callM2 rfl rfl rfl (l1PickInt_any zg rfl rfl zc zc)) rfl zu ?_; rintro ⟨xr, xi, xh⟩ ⟨hxm, hxi⟩; try dsimp only
          refine zfF ?_; rintro ⟨xr, xi, xh⟩ ⟨hxm, hxi⟩; try dsimp only
          refine zaS (fun _ _ => ?_); refine zce (fun vl _ => ?_); refine zcB (fun tv1 _ => ?_)
          skip; refine zcM (fun hotv => ?_)
          refine zc8 (fun _ _ => ?_); refine GE.t0 14 za rfl rfl rfl (og_st5 rfl rfl rfl (cells_one zc) rfl (by repeat (first | rfl | refine one_cons zc ?_)) (.succ (.succ (.succ (.succ (.succ (.succ (.succ (.zero (.cons .nil)))))))))) (fun _ _ => ?_); refine zb3 ?_
         rotate_left
        rotate_left 3
        focus
         refine GE.pickOp rfl rfl rfl (og_lit rfl (.cons rfl (.cons rfl (.cons rfl .nil))) rfl rfl rfl rfl rfl rfl) rfl zk (fun vl _ => ?_); refine GE.any (rs := [3, 8]) za zD ?_; refine List.forall_mem_cons.2 ⟨?_, List.forall_mem_cons.2 ⟨?_, fun _ h => absurd h List.not_mem_nil⟩⟩
         focus
          refine GE.pickOp rfl rfl rfl (og_callM2 rfl rfl rfl (l1Below_any _ zc zc).toF) rfl zk ?_; rintro ⟨xr, xi, xh⟩ ⟨⟨hx0, hx1⟩, hxi⟩; try dsimp only
          refine GE.any (rs := [6, 8]) za zD ?_; refine List.forall_mem_cons.2 ⟨?_, List.forall_mem_cons.2 ⟨?_, fun _ h => absurd h List.not_mem_nil⟩⟩
          focus
           refine GE.pickOp rfl rfl rfl (og_callM0 rfl rfl rfl (l1PickInt_any zg rfl rfl zc zc)) rfl zk ?_; rintro ⟨xr, xi, xh⟩ ⟨hxm, hxi⟩; try dsimp only
           refine GE.ol 8 za rfl rfl (og_lit rfl (.cons rfl (.cons rfl .nil)) rfl rfl rfl rfl rfl rfl) rfl zu (fun vl _ => ?_); refine GE.ol 9 za rfl rfl (og_callM1 rfl rfl rfl (l1PickInt_any zg rfl rfl zc zc)) rfl zu ?_; rintro ⟨xr, xi, xh⟩ ⟨hxm, hxi⟩; try dsimp only
           refine zaS (fun _ _ => ?_); refine zce (fun vl _ => ?_); refine zcB (fun tv1 _ => ?_)
           skip; refine zcM (fun hotv => ?_)
           refine zc8 (fun _ _ => ?_); refine GE.t0 14 za rfl rfl rfl (og_st5 rfl rfl rfl (cells_one zc) rfl (by repeat (first | rfl | refine one_cons zc ?_)) (.succ (.succ (.succ (.succ (.succ (.succ (.succ (.zero (.cons .nil)))))))))) (fun _ _ => ?_); refine zb3 ?_
          rotate_left
          focus
           refine ze2 (fun vl _ => ?_); refine GE.ol 6 za rfl rfl (og_callM1 rfl rfl rfl (l1PickInt_any zi rfl rfl zc zc)) rfl zu ?_; rintro ⟨xr, xi, xh⟩ ⟨hxm, hxi⟩; try dsimp only
           refine zfE ?_; rintro ⟨xr, xi, xh⟩ ⟨hxm, hxi⟩; try dsimp only
           refine zaS (fun _ _ => ?_); refine zce (fun vl _ => ?_); refine zcB (fun tv1 _ => ?_)
           skip; refine zcM (fun hotv => ?_)
           refine zc8 (fun _ _ => ?_); refine GE.t0 14 za rfl rfl rfl (og_st5 rfl rfl rfl (cells_one zc) rfl (by repeat (first | rfl | refine one_cons zc ?_)) (.succ (.succ (.succ (.succ (.succ (.succ (.succ (.zero (.cons .nil)))))))))) (fun _ _ => ?_); refine zb3 ?_
          rotate_left
         rotate_left 2
         focus
          refine ze2 (fun vl _ => ?_); refine GE.ol 3 za rfl rfl (og_callM3 rfl rfl rfl (l1Below_any _ zc zc).toF) rfl zu ?_; rintro ⟨xr, xi, xh⟩ ⟨⟨hx0, hx1⟩, hxi⟩; try dsimp only
          refine GE.ol 6 za rfl rfl (og_callM0 rfl rfl rfl (l1PickInt_any zi rfl rfl zc zc)) rfl zu ?_; rintro ⟨xr, xi, xh⟩ ⟨hxm, hxi⟩; try dsimp only
          refine zfE ?_; rintro ⟨xr, xi, xh⟩ ⟨hxm, hxi⟩; try dsimp only
          refine zaS (fun _ _ => ?_); refine zce (fun vl _ => ?_); refine zcB (fun tv1 _ => ?_)
          skip; refine zcM (fun hotv => ?_)
          refine zc8 (fun _ _ => ?_); refine GE.t0 14 za rfl rfl rfl (og_st5 rfl rfl rfl (cells_one zc) rfl (by repeat (first | rfl | refine one_cons zc ?_)) (.succ (.succ (.succ (.succ (.succ (.succ (.succ (.zero (.cons .nil)))))))))) (fun _ _ => ?_); refine zb3 ?_
         rotate_left
        rotate_left 3
        focus
         refine GE.pickOp rfl rfl rfl (og_lit rfl (.cons rfl (.cons rfl .nil)) rfl rfl rfl rfl rfl rfl) rfl zk (fun vl _ => ?_); refine GE.any (rs := [3, 5]) za zD ?_; refine List.forall_mem_cons.2 ⟨?_, List.forall_mem_cons.2 ⟨?_, fun _ h => absurd h List.not_mem_nil⟩⟩
         focus
          refine GE.pickOp rfl rfl rfl (og_callM2 rfl rfl rfl (l1Below_any _ zc zc).toF) rfl zk ?_; rintro ⟨xr, xi, xh⟩ ⟨⟨hx0, hx1⟩, hxi⟩; try dsimp only
          refine GE.ol 5 za rfl rfl (og_lit rfl (.cons rfl (.cons rfl (.cons rfl .nil))) rfl rfl rfl rfl rfl rfl) rfl zu (fun vl _ => ?_); refine GE.ol 6 za rfl rfl (og_callM1 rfl rfl rfl (l1PickInt_any zg rfl rfl zc zc)) rfl zu ?_; rintro ⟨xr, xi, xh⟩ ⟨hxm, hxi⟩; try dsimp only
          refine zfF ?_; rintro ⟨xr, xi, xh⟩ ⟨hxm, hxi⟩; try dsimp only
          refine zaS (fun _ _ => ?_); refine zce (fun vl _ => ?_); refine zcB (fun tv1 _ => ?_)
          skip; refine zcM (fun hotv => ?_)
          refine zc8 (fun _ _ => ?_); refine GE.t0 14 za rfl rfl rfl (og_st5 rfl rfl rfl (cells_one zc) rfl (by repeat (first | rfl | refine one_cons zc ?_)) (.succ (.succ (.succ (.succ (.succ (.succ (.succ (.zero (.cons .nil)))))))))) (fun _ _ => ?_); refine zb3 ?_
         rotate_left
         focus
          refine GE.pickOp rfl rfl rfl (og_lit rfl (.cons rfl (.cons rfl (.cons rfl .nil))) rfl rfl rfl rfl rfl rfl) rfl zu (fun vl _ => ?_); refine GE.ol 3 za rfl rfl (og_callM3 rfl rfl rfl (l1Below_any _ zc zc).toF) rfl zu ?_; rintro ⟨xr, xi, xh⟩ ⟨⟨hx0, hx1⟩, hxi⟩; try dsimp only
          refine GE.ol 6 za rfl rfl (og_callM0 rfl rfl rfl (l1PickInt_any zg rfl rfl zc zc)) rfl zu ?_; rintro ⟨xr, xi, xh⟩ ⟨hxm, hxi⟩; try dsimp only
          refine zfF ?_; rintro ⟨xr, xi, xh⟩ ⟨hxm, hxi⟩; try dsimp only
          refine zaS (fun _ _ => ?_); refine zce (fun vl _ => ?_); refine zcB (fun tv1 _ => ?_)
          skip; refine zcM (fun hotv => ?_)
          refine zc8 (fun _ _ => ?_); refine GE.t0 14 za rfl rfl rfl (og_st5 rfl rfl rfl (cells_one zc) rfl (by repeat (first | rfl | refine one_cons zc ?_)) (.succ (.succ (.succ (.succ (.succ (.succ (.succ (.zero (.cons .nil)))))))))) (fun _ _ => ?_); refine zb3 ?_
         rotate_left
        rotate_left 2
        all_goals
         refine zdB ?_; refine G.frontR4 tv1 rfl ?_; refine G.frontB5 bk3 rfl ?_; refine G.keep3D 3 rfl ?_; refine G.cutEnd (tv1, ⟨_, _, _, _, _, _, _⟩, _, _) 0 rfl (.cons rfl (.cons rfl (.cons rfl (.nil)))) ?_ ?_
         exact trivial
         exact ⟨⟨hotv, TyFar.one (Int.le_of_lt (by decide : (7 : Int) < 20)) (pick_cost zc)⟩, by assumption⟩
       rintro ⟨tv1, ty1, xi, xh⟩ ⟨⟨hotv, hty1⟩, hxi⟩
       dsimp only at hotv hty1 hxi ⊢
       refine G.thenN ?_; refine zaN ?_; refine G.op (og_callM2 rfl rfl rfl (l1Below_any _ zc zc).toF) rfl ?_; rintro ⟨xr, xi, xh⟩ ⟨⟨hx0, hx1⟩, hxi⟩; try dsimp only
       obtain ⟨n, rfl⟩ := Int.eq_ofNat_of_zero_le hx0; have hn4 : n ≤ 4 := zb
       refine zd8 ?_; refine zfO ?_; refine G.frontR2 tv1 rfl ?_; refine G.frontB2 bk3 rfl ?_; refine G.loopK (ι := Nat × Value × List TypeM × Nat × Int) (ks := [0, 2, 3, 6]) (fun x => [(7, .int .i64 (x.1 : Int))]) (fun x => [.blk bk3 41 [.int .i64 wy, .int .i64 pw, .int .i64 pd, .int .i64 ph, .int .i64 pg, .int .i64 (1 + (cl : Int)), pv, x.2.1, .int .i64 7, .slice none 0 0], .row x.2.1 56 7 (x.2.2.1.map TypeM.cells), .blk cb 182 [v, .int .i64 x.2.2.2.1, .int .i64 x.2.2.2.2]]) (fun x => (x.1 ≤ n ∧ x.2.2.1.length = x.1 + 1 ∧ TyFar x.2.2.1) ∧ x.2.2.2.1 ≤ l.length) (fun x => n - x.1) (0, tv1, [ty1], _, _) (.cons rfl (.cons rfl (.cons rfl (.cons rfl (.nil))))) rfl ?_ ?_ ?_
       exact ⟨⟨Nat.zero_le _, rfl, hty1⟩, by assumption⟩
       exact ⟨rfl, trivial⟩
       rintro ⟨k, tv, ty, xi, xh⟩ ⟨⟨hk, htl, htf⟩, hxi⟩
       dsimp only at hk htl htf hxi ⊢
       have htl3 : (ty.map TypeM.cells).length = ty.length := by simp
       by_cases hlt2 : k < n
       case' neg => (refine G.heap (fun w hh => hh.nilRow 111 7) ?_)
       all_goals
        refine zcu ?_; refine zaT ?_; refine G.cond rfl (fun hc => ?_) (fun hc => ?_)
        · all_goals
           replace hc := of_decide_eq_true hc
           try (exfalso; omega)
           all_goals
            refine za3 ?_; refine G.frontB2 cb rfl ?_; refine G.frontR2 tv rfl ?_; refine G.drawD2 [24, 25] rfl ?_; refine zeM ?_; refine GE.q2 3 rfl za rfl (qg_runs (rv_addB rfl rfl zb zb)) zt rfl ?_; refine GE.q2 4 rfl za rfl (qg_runs (rv_move rfl)) zt rfl ?_; refine GE.q2 7 rfl za rfl (qg_runs (rv_move rfl)) zt rfl ?_; refine GE.q2 10 rfl za rfl (qg_runs (rv_move rfl)) zt rfl ?_; refine GE.q2 13 rfl za rfl (qg_runs (rv_move rfl)) zt rfl ?_; refine GE.q2 15 rfl za rfl (qg_runs (rv_move rfl)) zt rfl ?_; refine GE.q2 18 rfl za rfl (qg_runs (rv_move rfl)) zt rfl ?_
            refine GE.ol 5 za rfl rfl (og_callM1 rfl rfl rfl (l1Below_any _ zc zc).toF) rfl zf ?_; rintro ⟨xr, xi, xh⟩ ⟨⟨hx0, hx1⟩, hxi⟩; try dsimp only
            refine GE.q2 6 rfl za rfl (qg_runs (rv_addB rfl rfl zb zb)) zt rfl ?_; refine GE.ol 8 za rfl rfl (og_callM0 rfl rfl rfl (l1Below_any _ zc zc).toF) rfl zf ?_; rintro ⟨xr, xi, xh⟩ ⟨⟨hx0, hx1⟩, hxi⟩; try dsimp only
            refine GE.q2 9 rfl za rfl (qg_runs (rv_addB rfl rfl zb zb)) zt rfl ?_; refine GE.ol 11 za rfl rfl (og_callM0 rfl rfl rfl (l1Below_any _ zc zc).toF) rfl zf ?_; rintro ⟨xr, xi, xh⟩ ⟨⟨hx0, hx1⟩, hxi⟩; try dsimp only
            refine GE.q2 12 rfl za rfl (qg_runs (rv_addB rfl rfl zb zb)) zt rfl ?_; refine GE.ol 14 za rfl rfl (og_callM0 rfl rfl rfl (l1Below_any _ zc zc).toF) rfl zf ?_; rintro ⟨xr, xi, xh⟩ ⟨⟨hx0, hx1⟩, hxi⟩; try dsimp only
            refine GE.ol 16 za rfl rfl (og_callM0 rfl rfl rfl (l1Below_any _ zc zc).toF) rfl zf ?_; rintro ⟨xr, xi, xh⟩ ⟨⟨hx0, hx1⟩, hxi⟩; try dsimp only
            refine GE.q2 17 rfl za rfl (qg_runs (rv_addB rfl rfl zb zb)) zt rfl ?_; refine zcV ?_; rintro ⟨xr, xi, xh⟩ ⟨⟨hx0, hx1⟩, hxi⟩; try dsimp only
            refine zc6 (fun _ _ => ?_); refine zaY (fun _ _ => ?_); refine GE.ol 22 za rfl rfl (og_lit rfl (.cons rfl .nil) rfl rfl rfl rfl rfl rfl) rfl zk (fun vl _ => ?_); refine GE.ol 23 za rfl rfl (og_app2 rfl rfl rfl zg rfl rfl zh zh) rfl zk (fun tv2 _ => ?_)
            skip; refine GE.knowD (fun w hw => (Rd.owned 2 rfl (v := tv2) w hw).one_) (fun hotv2 => ?_)
            refine GE.t 24 za rfl rfl rfl (og_runs (rv_field rfl)) rfl (fun _ _ => ?_); refine GE.t0 25 za rfl rfl rfl (og_st3 rfl rfl rfl (cells_one zc) rfl (by repeat (first | rfl | refine one_cons zc ?_)) (.succ (.succ (.succ (.succ (.succ (.succ (.succ (.zero (.cons .nil)))))))))) (fun _ _ => ?_); refine zb3 ?_; refine zaO ?_; refine zdB ?_; refine G.frontR2 tv2 rfl ?_; refine G.frontB3 bk3 rfl ?_; refine G.keep3D 1 rfl ?_; refine G.backK (k + 1, tv2, ty ++ [⟨_, _, _, _, _, _, _⟩], _, _) 0 (three_eqD rfl (congrArg (fun z => Ch.row tv2 56 7 z) zL) rfl) (.cons rfl (.cons rfl (.cons rfl (.cons rfl (.nil))))) ?_ ?_ ?_
            exact ⟨rfl, trivial⟩
            exact ⟨⟨by dsimp only; omega, by simp; omega, htf.snoc zao zao⟩, by assumption⟩
            dsimp only; omega
        · all_goals
           replace hc := of_decide_eq_false hc
           try (exfalso; omega)
           all_goals
            refine zaW ?_; refine zaN ?_; refine G.op (og_callM3 rfl rfl rfl (l1Below_any _ zc zc).toF) rfl ?_; rintro ⟨xr, xi, xh⟩ ⟨⟨hx0, hx1⟩, hxi⟩; try dsimp only
            obtain ⟨mn, rfl⟩ := Int.eq_ofNat_of_zero_le hx0; have hmn5 : mn ≤ 5 := zb
            refine zaL ?_; refine zf2 ?_; refine zfO ?_; refine G.frontR1 (Value.slice none 0 0) rfl ?_; refine G.frontB2 bk3 rfl ?_; refine G.loopK (ι := Nat × Int × Value × List ItemM × Nat × Int) (ks := [0, 2, 3, 8]) (fun x => [(9, .int .i64 x.2.1), (10, .int .i64 (x.1 : Int))]) (fun x => [.blk bk3 41 [.int .i64 wy, .int .i64 pw, .int .i64 pd, .int .i64 ph, .int .i64 pg, .int .i64 (1 + (cl : Int)), pv, tv, .int .i64 7, x.2.2.1], .row x.2.2.1 111 7 (x.2.2.2.1.map ItemM.cells), .blk cb 182 [v, .int .i64 x.2.2.2.2.1, .int .i64 x.2.2.2.2.2]]) (fun x => (x.1 ≤ mn ∧ x.2.2.2.1.length ≤ x.1 ∧ 0 ≤ x.2.1 ∧ x.2.1 ≤ 12) ∧ x.2.2.2.2.1 ≤ l.length) (fun x => mn - x.1) (0, 0, .slice none 0 0, [], _, _) (.cons rfl (.cons rfl (.cons rfl (.cons rfl (.nil))))) rfl ?_ ?_ ?_
            exact ⟨⟨Nat.zero_le _, Nat.le_refl _, Int.le_refl _, by dsimp only; omega⟩, by assumption⟩
            exact ⟨rfl, rfl, trivial⟩
            rintro ⟨j, un, iv, its, xi, xh⟩ ⟨⟨hj, hil, hun0, hun⟩, hxi⟩
            dsimp only at hj hil hun0 hun hxi ⊢
            have hil3 : (its.map ItemM.cells).length = its.length := by simp
            all_goals
             refine zcu ?_; refine zaT ?_; refine G.cond rfl (fun hc => ?_) (fun hc => ?_)
             · all_goals
                replace hc := of_decide_eq_true hc
                all_goals
                 refine za3 ?_; refine G.seq (G.frontB2 cb rfl ?_); refine G.cut (ι := Nat × (Int × Int × Int × Int × Int × Int × Int) × Nat × Int) (ks := [0, 2, 3, 8, 9, 10]) (fun x => [(11, pB x.1 0)]) (fun x => [.blk x.1 111 [.int .i64 x.2.1.1, .int .i64 x.2.1.2.1, .int .i64 x.2.1.2.2.1, .int .i64 x.2.1.2.2.2.1, .int .i64 x.2.1.2.2.2.2.1, .int .i64 x.2.1.2.2.2.2.2.1, .int .i64 x.2.1.2.2.2.2.2.2], .blk cb 182 [v, .int .i64 x.2.2.1, .int .i64 x.2.2.2]]) (fun x => (1 ≤ x.2.1.2.2.2.2.2.2 ∧ x.2.1.2.2.2.2.2.2 ≤ 4) ∧ x.2.2.1 ≤ l.length) 1 (.cons rfl (.cons rfl (.cons rfl (.cons rfl (.cons rfl (.cons rfl (.nil))))))) rfl ?_ ?_
                 focus
                  refine zfO ?_; refine G.drawD1 [23] rfl ?_; refine zdA ?_; refine GE.q2 1 rfl za rfl (qg_runs (rv_mulB rfl rfl zb zb)) zn rfl ?_; refine zeZ ?_; refine GE.q2 5 rfl za rfl (qg_runs (rv_move rfl)) zn rfl ?_; refine GE.q2 8 rfl za rfl (qg_runs (rv_move rfl)) zn rfl ?_; refine GE.q2 11 rfl za rfl (qg_runs (rv_move rfl)) zn rfl ?_; refine GE.q2 14 rfl za rfl (qg_runs (rv_move rfl)) zn rfl ?_; refine GE.q2 15 rfl za rfl (qg_runs (rv_field rfl)) zn rfl ?_; refine GE.q2 16 rfl za rfl (qg_runs (rv_load1 0 rfl rfl rfl)) zn rfl ?_; refine GE.q2 18 rfl za rfl (qg_runs (rv_move rfl)) zn rfl ?_; refine GE.any (rs := [3, 22]) za zD ?_; refine List.forall_mem_cons.2 ⟨?_, List.forall_mem_cons.2 ⟨?_, fun _ h => absurd h List.not_mem_nil⟩⟩
                  focus
                   refine zcR ?_; rintro ⟨xr, xi, xh⟩ ⟨⟨hx0, hx1⟩, hxi⟩; try dsimp only
                   refine GE.q2 4 rfl za rfl (qg_runs (rv_addB rfl rfl zb zb)) zn rfl ?_; refine GE.any (rs := [6, 22]) za zD ?_; refine List.forall_mem_cons.2 ⟨?_, List.forall_mem_cons.2 ⟨?_, fun _ h => absurd h List.not_mem_nil⟩⟩
                   focus
                    refine zcR ?_; rintro ⟨xr, xi, xh⟩ ⟨⟨hx0, hx1⟩, hxi⟩; try dsimp only
                    refine GE.q2 7 rfl za rfl (qg_runs (rv_addB rfl rfl zb zb)) zn rfl ?_; refine GE.any (rs := [9, 22]) za zD ?_; refine List.forall_mem_cons.2 ⟨?_, List.forall_mem_cons.2 ⟨?_, fun _ h => absurd h List.not_mem_nil⟩⟩
                    focus
                     refine zcR ?_; rintro ⟨xr, xi, xh⟩ ⟨⟨hx0, hx1⟩, hxi⟩; try dsimp only
                     refine GE.q2 10 rfl za rfl (qg_runs (rv_addB rfl rfl zb zb)) zn rfl ?_; refine GE.any (rs := [12, 22]) za zD ?_; refine List.forall_mem_cons.2 ⟨?_, List.forall_mem_cons.2 ⟨?_, fun _ h => absurd h List.not_mem_nil⟩⟩
                     focus
                      refine zcR ?_; rintro ⟨xr, xi, xh⟩ ⟨⟨hx0, hx1⟩, hxi⟩; try dsimp only
                      refine GE.q2 13 rfl za rfl (qg_runs (rv_addB rfl rfl zb zb)) zn rfl ?_; refine GE.any (rs := [17, 22]) za zD ?_; refine List.forall_mem_cons.2 ⟨?_, List.forall_mem_cons.2 ⟨?_, fun _ h => absurd h List.not_mem_nil⟩⟩
                      focus
                       refine zcR ?_; rintro ⟨xr, xi, xh⟩ ⟨⟨hx0, hx1⟩, hxi⟩; try dsimp only
                       refine GE.any (rs := [19, 22]) za zD ?_; refine List.forall_mem_cons.2 ⟨?_, List.forall_mem_cons.2 ⟨?_, fun _ h => absurd h List.not_mem_nil⟩⟩
                       focus
                        refine zcR ?_; rintro ⟨ct, xi, xh⟩ ⟨⟨hct0, hct1⟩, hxi⟩; try dsimp only
                        refine GE.q2 20 rfl za rfl (qg_runs (rv_addB rfl rfl zb zb)) zn rfl ?_; refine GE.q2 21 rfl za rfl (qg_runs (rv_build2 rfl (.cons rfl (.cons rfl (.cons rfl (.cons rfl (.cons rfl (.cons rfl (.cons rfl .nil))))))) (.cons rfl rfl (.zero (.cons .nil)) (.cons rfl rfl (.succ (.zero (.cons .nil))) (.cons rfl rfl (.succ (.succ (.zero (.cons .nil)))) (.cons rfl rfl (.succ (.succ (.succ (.zero (.cons .nil))))) (.cons rfl rfl (.succ (.succ (.succ (.succ (.zero (.cons .nil)))))) (.cons rfl rfl (.succ (.succ (.succ (.succ (.succ (.zero (.cons .nil))))))) (.cons rfl rfl (.succ (.succ (.succ (.succ (.succ (.succ (.zero (.cons .nil)))))))) .nil))))))))) zn rfl ?_; refine GE.ol 22 za rfl rfl (og_alloc) rfl zf (fun bk11 _ => ?_); refine GE.t0 23 za rfl rfl rfl (og_st0 rfl rfl rfl rfl rfl rfl (.zero (.cons (.cons (.cons (.cons (.cons (.cons (.cons .nil))))))))) (fun _ _ => ?_); refine zb3 ?_
                       rotate_left
                       focus
                        refine zdp (fun bk11 _ => ?_); refine GE.ol 19 za rfl rfl (og_callM1 rfl rfl rfl (l1Below_any _ zc zc).toF) rfl zf ?_; rintro ⟨ct, xi, xh⟩ ⟨⟨hct0, hct1⟩, hxi⟩; try dsimp only
                        refine zc6 (fun _ _ => ?_); refine zaY (fun _ _ => ?_); refine zbZ (fun _ _ => ?_); refine zb3 ?_
                       rotate_left
                      rotate_left 2
                      focus
                       refine zdp (fun bk11 _ => ?_); refine GE.ol 17 za rfl rfl (og_callM1 rfl rfl rfl (l1Below_any _ zc zc).toF) rfl zf ?_; rintro ⟨xr, xi, xh⟩ ⟨⟨hx0, hx1⟩, hxi⟩; try dsimp only
                       refine zcV ?_; rintro ⟨ct, xi, xh⟩ ⟨⟨hct0, hct1⟩, hxi⟩; try dsimp only
                       refine zc6 (fun _ _ => ?_); refine zaY (fun _ _ => ?_); refine zbZ (fun _ _ => ?_); refine zb3 ?_
                      rotate_left
                     rotate_left 3
                     focus
                      refine zdp (fun bk11 _ => ?_); refine GE.ol 12 za rfl rfl (og_callM1 rfl rfl rfl (l1Below_any _ zc zc).toF) rfl zf ?_; rintro ⟨xr, xi, xh⟩ ⟨⟨hx0, hx1⟩, hxi⟩; try dsimp only
                      refine zcE ?_; rintro ⟨xr, xi, xh⟩ ⟨⟨hx0, hx1⟩, hxi⟩; try dsimp only
                      refine zcV ?_; rintro ⟨ct, xi, xh⟩ ⟨⟨hct0, hct1⟩, hxi⟩; try dsimp only
                      refine zc6 (fun _ _ => ?_); refine zaY (fun _ _ => ?_); refine zbZ (fun _ _ => ?_); refine zb3 ?_
                     rotate_left
                    rotate_left 4
                    focus
                     refine zdp (fun bk11 _ => ?_); refine GE.ol 9 za rfl rfl (og_callM1 rfl rfl rfl (l1Below_any _ zc zc).toF) rfl zf ?_; rintro ⟨xr, xi, xh⟩ ⟨⟨hx0, hx1⟩, hxi⟩; try dsimp only
                     refine zdm ?_; rintro ⟨xr, xi, xh⟩ ⟨⟨hx0, hx1⟩, hxi⟩; try dsimp only
                     refine zcE ?_; rintro ⟨xr, xi, xh⟩ ⟨⟨hx0, hx1⟩, hxi⟩; try dsimp only
                     refine zcV ?_; rintro ⟨ct, xi, xh⟩ ⟨⟨hct0, hct1⟩, hxi⟩; try dsimp only
                     refine zc6 (fun _ _ => ?_); refine zaY (fun _ _ => ?_); refine zbZ (fun _ _ => ?_); refine zb3 ?_
                    rotate_left
                   rotate_left 5
                   focus
                    refine zdp (fun bk11 _ => ?_); refine GE.ol 6 za rfl rfl (og_callM1 rfl rfl rfl (l1Below_any _ zc zc).toF) rfl zf ?_; rintro ⟨xr, xi, xh⟩ ⟨⟨hx0, hx1⟩, hxi⟩; try dsimp only
                    refine zfQ ?_; rintro ⟨xr, xi, xh⟩ ⟨⟨hx0, hx1⟩, hxi⟩; try dsimp only
                    refine zdm ?_; rintro ⟨xr, xi, xh⟩ ⟨⟨hx0, hx1⟩, hxi⟩; try dsimp only
                    refine zcE ?_; rintro ⟨xr, xi, xh⟩ ⟨⟨hx0, hx1⟩, hxi⟩; try dsimp only
                    refine zcV ?_; rintro ⟨ct, xi, xh⟩ ⟨⟨hct0, hct1⟩, hxi⟩; try dsimp only
                    refine zc6 (fun _ _ => ?_); refine zaY (fun _ _ => ?_); refine zbZ (fun _ _ => ?_); refine zb3 ?_
                   rotate_left
                  rotate_left 6
                  focus
                   refine zdp (fun bk11 _ => ?_); refine zf0 ?_; rintro ⟨xr, xi, xh⟩ ⟨⟨hx0, hx1⟩, hxi⟩; try dsimp only
                   refine GE.q2 4 rfl za rfl (qg_runs (rv_addB rfl rfl zb zb)) zt rfl ?_; refine GE.ol 6 za rfl rfl (og_callM0 rfl rfl rfl (l1Below_any _ zc zc).toF) rfl zf ?_; rintro ⟨xr, xi, xh⟩ ⟨⟨hx0, hx1⟩, hxi⟩; try dsimp only
                   refine zfQ ?_; rintro ⟨xr, xi, xh⟩ ⟨⟨hx0, hx1⟩, hxi⟩; try dsimp only
                   refine zdm ?_; rintro ⟨xr, xi, xh⟩ ⟨⟨hx0, hx1⟩, hxi⟩; try dsimp only
                   refine zcE ?_; rintro ⟨xr, xi, xh⟩ ⟨⟨hx0, hx1⟩, hxi⟩; try dsimp only
                   refine zcV ?_; rintro ⟨ct, xi, xh⟩ ⟨⟨hct0, hct1⟩, hxi⟩; try dsimp only
                   refine zc6 (fun _ _ => ?_); refine zaY (fun _ _ => ?_); refine zbZ (fun _ _ => ?_); refine zb3 ?_
                  rotate_left
                  all_goals
                   first | refine zfO ?_ | refine zdB ?_
                   refine G.frontB1 bk11 rfl ?_; refine G.cutEnd (_, (_, _, _, _, _, _, _), _, _) 0 rfl (.cons rfl (.cons rfl (.cons rfl (.cons rfl (.cons rfl (.cons rfl (.nil))))))) ?_ ?_
                   exact ⟨rfl, trivial⟩
                   exact ⟨⟨by dsimp only; omega, by dsimp only; omega⟩, by assumption⟩
                 rintro ⟨bk4, ⟨xid, xw, xh2, xd, xg, xc, ct⟩, xi, xh⟩ ⟨⟨hct0, hct1⟩, hxi⟩
                 dsimp only at hct0 hct1 hxi ⊢
                 refine G.thenN ?_; refine zeA ?_; refine G.op (og_callM1 rfl rfl rfl (l1Once_any _ zc zc).toF) rfl ?_; rintro ⟨xr, xi, xh⟩ hxi; try dsimp only
                 refine zbe ?_; refine G.cond rfl (fun hc => ?_) (fun hc => ?_)
                 · all_goals
                    all_goals
                     refine zct ?_; refine za1 ?_; refine G.op0 (og_st1 rfl rfl rfl rfl rfl rfl (.succ (.zero (.cons .nil)))) (fun _ _ => ?_); refine zbe ?_; refine zct ?_; refine za1 ?_; refine G.op0 (og_st1 rfl rfl rfl rfl rfl rfl (.succ (.succ (.zero (.cons .nil))))) (fun _ _ => ?_); refine zbe ?_; refine zbq ?_; refine zel ?_; rintro ⟨xr, xi, xh⟩ ⟨⟨hx0, hx1⟩, hxi⟩; try dsimp only
                     refine zcd ?_; refine za1 ?_; refine G.op0 (og_st1 rfl rfl rfl rfl rfl rfl (.succ (.succ (.succ (.zero (.cons .nil)))))) (fun _ _ => ?_); refine zeC ?_; refine zbl ?_; refine zcd ?_; refine zfa ?_; refine G.cond rfl (fun hc => ?_) (fun hc => ?_)
                     · all_goals
                        replace hc := of_decide_eq_true hc
                        all_goals
                         refine zct ?_; refine zbw ?_; refine G.v (rv_loadW 1 rfl rfl rfl) rfl ?_; refine za2 (fun vx _ => ?_); refine G.op (og_app4 rfl rfl rfl zg rfl rfl zh zh) rfl (fun iv2 _ => ?_); refine G.know (fun w hw => by exact (Rd.owned 4 rfl (v := iv2) w hw).one_) (fun hoiv2 => ?_); refine za1 ?_; refine G.op0 (og_st3 rfl rfl rfl (cells_one zc) rfl (by repeat (first | rfl | refine one_cons zc ?_)) (.succ (.succ (.succ (.succ (.succ (.succ (.succ (.succ (.succ (.zero (.cons .nil)))))))))))) (fun _ _ => ?_); refine zbe ?_; refine zbq ?_; refine zbw ?_; refine zcd ?_; refine zbb ?_; refine zaO ?_; refine zdB ?_; refine G.frontR4 iv2 rfl ?_; refine G.frontB4 bk3 rfl ?_
                         refine G.keep3D 2 rfl ?_; refine G.backK (j + 1, un + ct, iv2, its ++ [⟨_, _, _, _, _, _, _⟩], _, _) 0 (by (exact three_eqD rfl (congrArg (fun z => Ch.row iv2 111 7 z) zL) rfl)) (.cons rfl (.cons rfl (.cons rfl (.cons rfl (.nil))))) ?_ ?_ ?_
                         exact ⟨rfl, rfl, trivial⟩
                         exact ⟨⟨by dsimp only; omega, by simp; omega, by dsimp only; omega, by dsimp only; omega⟩, by assumption⟩
                         dsimp only; omega
                     · all_goals
                        replace hc := of_decide_eq_false hc
                        all_goals
                         refine zfL ?_; refine zfO ?_; refine G.frontR3 iv rfl ?_; refine G.frontB3 bk3 rfl ?_; refine G.keep3D 1 rfl ?_; refine G.backK (j + 1, un, iv, its, _, _) 0 (by exact three_eqD rfl rfl rfl) (.cons rfl (.cons rfl (.cons rfl (.cons rfl (.nil))))) ?_ ?_ ?_
                         exact ⟨rfl, rfl, trivial⟩
                         exact ⟨⟨by dsimp only; omega, by simp; omega, by dsimp only; omega, by dsimp only; omega⟩, by assumption⟩
                         dsimp only; omega
                 · all_goals
                    all_goals
                     refine zc1 ?_; refine zaN ?_; refine zbl ?_; refine zcd ?_; refine zfa ?_; refine G.cond rfl (fun hc => ?_) (fun hc => ?_)
                     · all_goals
                        replace hc := of_decide_eq_true hc
                        all_goals
                         refine zct ?_; refine zbw ?_; refine G.v (rv_loadW 1 rfl rfl rfl) rfl ?_; refine za2 (fun vx _ => ?_); refine G.op (og_app4 rfl rfl rfl zg rfl rfl zh zh) rfl (fun iv2 _ => ?_); refine G.know (fun w hw => by exact (Rd.owned 4 rfl (v := iv2) w hw).one_) (fun hoiv2 => ?_); refine za1 ?_; refine G.op0 (og_st3 rfl rfl rfl (cells_one zc) rfl (by repeat (first | rfl | refine one_cons zc ?_)) (.succ (.succ (.succ (.succ (.succ (.succ (.succ (.succ (.succ (.zero (.cons .nil)))))))))))) (fun _ _ => ?_); refine zbe ?_; refine zbq ?_; refine zbw ?_; refine zcd ?_; refine zbb ?_; refine zaO ?_; refine zdB ?_; refine G.frontR4 iv2 rfl ?_; refine G.frontB4 bk3 rfl ?_
                         refine G.keep3D 2 rfl ?_; refine G.backK (j + 1, un + ct, iv2, its ++ [⟨_, _, _, _, _, _, _⟩], _, _) 0 (by (exact three_eqD rfl (congrArg (fun z => Ch.row iv2 111 7 z) zL) rfl)) (.cons rfl (.cons rfl (.cons rfl (.cons rfl (.nil))))) ?_ ?_ ?_
                         exact ⟨rfl, rfl, trivial⟩
                         exact ⟨⟨by dsimp only; omega, by simp; omega, by dsimp only; omega, by dsimp only; omega⟩, by assumption⟩
                         dsimp only; omega
                     · all_goals
                        replace hc := of_decide_eq_false hc
                        all_goals
                         refine zfL ?_; refine zfO ?_; refine G.frontR3 iv rfl ?_; refine G.frontB3 bk3 rfl ?_; refine G.keep3D 1 rfl ?_; refine G.backK (j + 1, un, iv, its, _, _) 0 (by exact three_eqD rfl rfl rfl) (.cons rfl (.cons rfl (.cons rfl (.cons rfl (.nil))))) ?_ ?_ ?_
                         exact ⟨rfl, rfl, trivial⟩
                         exact ⟨⟨by dsimp only; omega, by simp; omega, by dsimp only; omega, by dsimp only; omega⟩, by assumption⟩
                         dsimp only; omega
             · all_goals
                replace hc := of_decide_eq_false hc
                all_goals
                 refine zaW ?_; refine za7 ?_; refine G.know (fun w hw => by exact (Rd.owned 1 rfl (v := iv) w hw).one_) (fun hoiv => ?_); refine G.know (fun w hw => by exact (Rd.owned 3 rfl (v := tv) w hw).one_) (fun hotv => ?_); refine G.know (fun w hw => by exact (Rd.owned 4 rfl (v := pv) w hw).one_) (fun hopv => ?_); refine G.op0 (og_st9 rfl rfl rfl rfl rfl (by repeat (first | rfl | refine one_cons zC ?_)) (.zero (.cons (.cons (.cons (.cons (.cons (.cons (.cons (.cons (.cons (.cons .nil)))))))))))) (fun _ _ => ?_); refine zc2 ?_; refine G.frontB2 cb rfl ?_; refine G.frontR4 pv rfl ?_; refine G.frontR4 tv rfl ?_; refine G.frontR4 iv rfl ?_
                 exact G.retFc ((⟨wy, ⟨pw, pd, ph, pg⟩, 1 + (cl : Int), ps, ty, 7, its⟩, pv, tv, iv), xi, xh) ⟨⟨⟨hopv, hotv, hoiv⟩, by dsimp only; omega, by dsimp only; omega, by dsimp only; omega, by dsimp only; omega, htf⟩, hxi⟩ 9 rfl rfl rfl rfl rfl (fun w hh => hh.sublist (by repeat (first | exact List.Sublist.refl _ | refine List.Sublist.cons_cons _ ?_ | refine List.Sublist.cons _ ?_)))
end Go.Proofs.YtglpgohilfoecaaGreat

/-
  An order that the draws hand out, with one thing turned.
-/
namespace Go.Proofs.YtglpgohilfoecaaGreat
open Go.RowKit
attribute [local irreducible] Go.wpList Go.Code.wp Go.Exit.then Go.Exit.inBlock Go.bodyPost Go.Calls pE pB G RunsV FnV Fn FnM
set_option maxRecDepth 100000
set_option maxHeartbeats 4000000
theorem TyFar.set {l : List TypeM} {k : Nat} {t s : TypeM} (h : TyFar l) (ht : l[k]? = some t) (a : s.id = t.id) (b : s.cost = t.cost) : TyFar (l.set k s) := fun u hu => by
  rcases List.mem_or_eq_of_mem_set hu with hu | hu
  · exact h u hu
  · have := h t (List.mem_of_getElem? ht)
    rw [hu, a, b]; exact this
theorem TyFar.head {l : List TypeM} {t s : TypeM} (h : TyFar (t :: l)) (a : s.id = t.id) (b : s.cost = t.cost) : TyFar (s :: l) := TyFar.set (k := 0) h rfl a b
theorem TyFar.dbl {l : List TypeM} {t : TypeM} (h : TyFar (t :: l)) : TyFar (t :: l ++ [t]) := h.snoc (h t List.mem_cons_self).1 (h t List.mem_cons_self).2
theorem TyFar.nil : TyFar [] := fun _ h => absurd h List.not_mem_nil
theorem l2Draw_any {w0 : World} {v : Value} {l : List Int} {cb i : Nat} {h : Int} (hv : Rd w0 v 1 (l.map bcell)) (hi : i ≤ l.length) :
    FnM Tryz.prog 126 [pB cb 0] w0 [.blk cb 182 [v, .int .i64 i, .int .i64 h]] (fun x : ((ReqM × Value × Value × Value) × Value × List (List Value)) × Nat × Int => ((x.1.1.2.1.oneCell' = true ∧ x.1.1.2.2.1.oneCell' = true ∧ x.1.1.2.2.2.oneCell' = true) ∧ (∀ w, Rd w x.1.2.1 2 x.1.2.2 → Rd w x.1.1.2.1 2 (x.1.1.1.pairs.map PairM.cells)) ∧ x.1.1.1.pairs.length ≤ 33 ∧ x.1.1.1.types.length ≤ 9 ∧ x.1.1.1.items.length ≤ 7 ∧ TyFar x.1.1.1.types) ∧ x.2.1 ≤ l.length)
      (fun x => .agg (x.1.1.1.cells x.1.1.2.1 x.1.1.2.2.1 x.1.1.2.2.2).toArray) (fun x => [.row x.1.1.2.2.2 111 7 (x.1.1.1.items.map ItemM.cells), .row x.1.1.2.2.1 56 7 (x.1.1.1.types.map TypeM.cells), .row x.1.2.1 138 2 x.1.2.2, .blk cb 182 [v, .int .i64 x.2.1, .int .i64 x.2.2]]) := by
  refine FnM.of (n := 120) Tryz.func126 rfl rfl (fun F => ?_); refine zct ?_; refine zbu (fun bk2 _ => ?_); refine zeC ?_
  (refine zdB ?_); refine G.op (og_callN0 rfl rfl rfl (l2Right_any zc zc).toF) rfl ?_; rintro ⟨⟨r, pv, tv, iv⟩, xi, xh⟩ ⟨⟨⟨hopv, hotv, hoiv⟩, hpl, htl1, htl, hil, htf⟩, hxi⟩; try dsimp only
  obtain ⟨wy, ⟨pw, pd, ph, pg⟩, cl, ps, ty, ms, its⟩ := r; try dsimp only [ReqM.cells] at hpl htl1 htl hil ⊢
  obtain ⟨t0, tr, rfl⟩ : ∃ t0 tr, ty = t0 :: tr := (by cases ty with | nil => exact absurd htl1 (by decide) | cons a b => exact ⟨a, b, rfl⟩)
  have htr : tr.length ≤ 7 := Nat.le_of_succ_le_succ htl; replace hxi : xi ≤ l.length := hxi
  refine zbu (fun bk3 _ => ?_); refine G.op0 (og_st0 rfl rfl rfl rfl rfl (by repeat (first | rfl | refine one_cons zC ?_)) (.zero (.cons (.cons (.cons (.cons (.cons (.cons (.cons (.cons (.cons (.cons .nil)))))))))))) (fun _ _ => ?_); refine zeC ?_; refine G.op (og_lit rfl (.cons rfl (.cons rfl (.cons rfl (.cons rfl (.cons rfl (.cons rfl .nil)))))) rfl rfl rfl rfl rfl rfl) rfl (fun vl _ => ?_); refine G.op (og_callM5 rfl rfl rfl (l1PickInt_any zg rfl rfl zc zc)) rfl ?_; rintro ⟨far, xi, xh⟩ ⟨hxm, hxi⟩; try dsimp only
  refine zfb ?_; refine zel ?_; rintro ⟨xr, xi, xh⟩ ⟨⟨hx0, hx1⟩, hxi⟩; try dsimp only
  refine zbe ?_; refine G.block ?_; refine zct ?_; refine zcc ?_; refine G.condD rfl (fun hc => ?_) (fun hc => ?_)
  · refine G.region ?_
    refine zaM ?_; refine G.op (og_lit rfl (.cons rfl (.cons rfl .nil)) rfl rfl rfl rfl rfl rfl) rfl (fun vl _ => ?_); refine zcS ?_; rintro ⟨xr, xi, xh⟩ ⟨hxm, hxi⟩; try dsimp only
    refine za1 ?_; refine G.op0 (og_st3 rfl rfl rfl rfl rfl rfl (.zero (.cons .nil))) (fun _ _ => ?_); refine G.done (G.inN (G.thenN ?_)); refine zct ?_; refine zd6 ?_; refine G.op0 (og_st7 rfl rfl rfl rfl rfl (by repeat (first | rfl | refine one_cons zC ?_)) (.zero (.cons (.cons (.cons (.cons (.cons (.cons (.cons (.cons (.cons (.cons .nil)))))))))))) (fun _ _ => ?_); refine zc2 ?_
    (refine G.frontB7 bk2 rfl ?_); (refine zdB ?_); (refine G.frontR7 pv rfl ?_); (refine G.frontR7 tv rfl ?_); (refine G.frontR7 iv rfl ?_); refine G.retFc (((⟨_, ⟨_, _, _, _⟩, _, ps, t0 :: tr, _, its⟩, pv, tv, iv), pv, ps.map PairM.cells), xi, xh) ⟨⟨⟨zc, zc, zc⟩, fun _ h => h, zr, zr, zr, zaF⟩, hxi⟩ 4 rfl rfl rfl rfl rfl (fun w hh => hh.sublist ?_); (repeat (first | exact List.Sublist.refl _ | refine List.Sublist.cons_cons _ ?_ | refine List.Sublist.cons _ ?_)); done
  refine zct ?_; refine zcc ?_; refine G.condD rfl (fun hc => ?_) (fun hc => ?_)
  · refine G.region ?_
    refine zaM ?_; refine za1 ?_; refine za1 ?_; refine G.op0 (og_st2 rfl rfl rfl rfl rfl rfl (.succ (.zero (.cons .nil)))) (fun _ _ => ?_); refine G.done (G.inN (G.thenN ?_)); refine zbQ ?_; refine G.op0 (og_st6 rfl rfl rfl rfl rfl (by repeat (first | rfl | refine one_cons zC ?_)) (.zero (.cons (.cons (.cons (.cons (.cons (.cons (.cons (.cons (.cons (.cons .nil)))))))))))) (fun _ _ => ?_); refine zc2 ?_
    (refine zfv ?_); (refine zdB ?_); (refine G.frontR6 pv rfl ?_); (refine G.frontR6 tv rfl ?_); (refine G.frontR6 iv rfl ?_); refine G.retFc (((⟨_, ⟨_, _, _, _⟩, _, ps, t0 :: tr, _, its⟩, pv, tv, iv), pv, ps.map PairM.cells), xi, xh) ⟨⟨⟨zc, zc, zc⟩, fun _ h => h, zr, zr, zr, zaF⟩, hxi⟩ 4 rfl rfl rfl rfl rfl (fun w hh => hh.sublist ?_); (repeat (first | exact List.Sublist.refl _ | refine List.Sublist.cons_cons _ ?_ | refine List.Sublist.cons _ ?_)); done
  refine zct ?_; refine zcc ?_; refine G.condD rfl (fun hc => ?_) (fun hc => ?_)
  · refine G.region ?_
    refine zaM ?_; refine za1 ?_; refine za1 ?_; refine G.op0 (og_st2 rfl rfl rfl rfl rfl rfl (.succ (.succ (.succ (.succ (.zero (.cons .nil))))))) (fun _ _ => ?_); refine G.done (G.inN (G.thenN ?_)); refine zbQ ?_; refine G.op0 (og_st6 rfl rfl rfl rfl rfl (by repeat (first | rfl | refine one_cons zC ?_)) (.zero (.cons (.cons (.cons (.cons (.cons (.cons (.cons (.cons (.cons (.cons .nil)))))))))))) (fun _ _ => ?_); refine zc2 ?_
    (refine zfv ?_); (refine zdB ?_); (refine G.frontR6 pv rfl ?_); (refine G.frontR6 tv rfl ?_); (refine G.frontR6 iv rfl ?_); refine G.retFc (((⟨_, ⟨_, _, _, _⟩, _, ps, t0 :: tr, _, its⟩, pv, tv, iv), pv, ps.map PairM.cells), xi, xh) ⟨⟨⟨zc, zc, zc⟩, fun _ h => h, zr, zr, zr, zaF⟩, hxi⟩ 4 rfl rfl rfl rfl rfl (fun w hh => hh.sublist ?_); (repeat (first | exact List.Sublist.refl _ | refine List.Sublist.cons_cons _ ?_ | refine List.Sublist.cons _ ?_)); done
  refine zct ?_; refine zcc ?_; refine G.condD rfl (fun hc => ?_) (fun hc => ?_)
  · refine G.region ?_
    refine zb5 (fun vl _ => ?_); refine zcS ?_; rintro ⟨xr, xi, xh⟩ ⟨hxm, hxi⟩; try dsimp only
    refine za1 ?_; refine G.op0 (og_st3 rfl rfl rfl rfl rfl rfl (.succ (.succ (.succ (.succ (.succ (.zero (.cons .nil)))))))) (fun _ _ => ?_); refine G.done (G.inN (G.thenN ?_)); refine zct ?_; refine zd6 ?_; refine G.op0 (og_st7 rfl rfl rfl rfl rfl (by repeat (first | rfl | refine one_cons zC ?_)) (.zero (.cons (.cons (.cons (.cons (.cons (.cons (.cons (.cons (.cons (.cons .nil)))))))))))) (fun _ _ => ?_); refine zc2 ?_
    (refine G.frontB7 bk2 rfl ?_); (refine zdB ?_); (refine G.frontR7 pv rfl ?_); (refine G.frontR7 tv rfl ?_); (refine G.frontR7 iv rfl ?_); refine G.retFc (((⟨_, ⟨_, _, _, _⟩, _, ps, t0 :: tr, _, its⟩, pv, tv, iv), pv, ps.map PairM.cells), xi, xh) ⟨⟨⟨zc, zc, zc⟩, fun _ h => h, zr, zr, zr, zaF⟩, hxi⟩ 4 rfl rfl rfl rfl rfl (fun w hh => hh.sublist ?_); (repeat (first | exact List.Sublist.refl _ | refine List.Sublist.cons_cons _ ?_ | refine List.Sublist.cons _ ?_)); done
  refine zct ?_; refine zcc ?_; refine G.condD rfl (fun hc => ?_) (fun hc => ?_)
  · refine zfO ?_
    refine G.frontR5 pv rfl ?_; refine G.drawD2 [10, 11] rfl ?_; refine zeN ?_; refine GE.q2 5 rfl za rfl (qg_runs (rv_move rfl)) zt rfl ?_; refine zf0 ?_; rintro ⟨xa, xi, xh⟩ ⟨⟨hx0, hx1⟩, hxi⟩; try dsimp only
    refine GE.q2 4 rfl za rfl (qg_runs (rv_subB rfl rfl zb zb)) zt rfl ?_; refine GE.ol 6 za rfl rfl (og_callM0 rfl rfl rfl (l1Below_any _ zc zc).toF) rfl zf ?_; rintro ⟨xb, xi, xh⟩ ⟨⟨hy0, hy1⟩, hxi⟩; try dsimp only
    refine GE.ol 7 za rfl rfl (og_runs (rv_build2 rfl (.cons rfl (.cons rfl .nil)) (.cons rfl rfl (.zero (.cons .nil)) (.cons rfl rfl (.succ (.zero (.cons .nil))) .nil)))) rfl zf (fun _ _ => ?_); refine GE.ol 8 za rfl rfl (og_lit rfl (.cons rfl .nil) rfl rfl rfl rfl rfl rfl) rfl zk (fun vl _ => ?_); refine GE.ol 9 za rfl rfl (og_app2 rfl rfl rfl zg rfl rfl zh zh) rfl zk (fun vp _ => ?_); refine GE.knowD (fun w hw => by exact (Rd.owned 2 rfl (v := vp) w hw).one_) (fun hovp => ?_); refine GE.t 10 za rfl rfl rfl (og_runs (rv_field rfl)) rfl (fun _ _ => ?_); refine GE.t0 11 za rfl rfl rfl (og_st4 rfl rfl rfl (cells_one zc) rfl (by repeat (first | rfl | refine one_cons zc ?_)) (.succ (.succ (.succ (.succ (.succ (.succ (.zero (.cons .nil))))))))) (fun _ _ => ?_); refine zb3 ?_; refine G.inN (G.thenN ?_); refine zct ?_; refine G.v (rv_loadW 4 rfl rfl rfl) rfl ?_; refine G.op0 (og_st7 rfl rfl rfl rfl rfl (by repeat (first | rfl | refine one_cons zC ?_)) (.zero (.cons (.cons (.cons (.cons (.cons (.cons (.cons (.cons (.cons (.cons .nil)))))))))))) (fun _ _ => ?_); refine G.done ?_
    refine G.thenN (G.ret ?_)
    (refine G.frontB7 bk2 rfl ?_); (refine G.frontB2 cb rfl ?_); (refine G.frontR3 vp rfl ?_); refine G.rowEq ((ps ++ [(⟨xa - 1, xb⟩ : PairM)]).map PairM.cells) zL rfl ?_; (refine G.frontR7 tv rfl ?_); (refine G.frontR7 iv rfl ?_); refine G.retFc (((⟨_, ⟨_, _, _, _⟩, _, ps ++ [⟨xa - 1, xb⟩], t0 :: tr, _, its⟩, vp, tv, iv), vp, (ps ++ [(⟨xa - 1, xb⟩ : PairM)]).map PairM.cells), xi, xh) ⟨⟨⟨zc, zc, zc⟩, fun _ h => h, zv, zr, zr, zaF⟩, hxi⟩ 4 rfl rfl rfl rfl rfl (fun w hh => hh.sublist ?_); (repeat (first | exact List.Sublist.refl _ | refine List.Sublist.cons_cons _ ?_ | refine List.Sublist.cons _ ?_)); done
  refine zct ?_; refine zcc ?_; refine G.condD rfl (fun hc => ?_) (fun hc => ?_)
  · refine G.region ?_
    refine zbw ?_; refine zaM ?_; refine G.v (rv_indexH rfl rfl zT rfl zat) rfl ?_; refine zcg ?_; refine G.op0 (og_stE4 rfl rfl rfl zat rfl rfl rfl rfl (.succ (.succ (.zero (.cons .nil))))) (fun _ _ => ?_); refine G.done (G.inN (G.thenN ?_)); refine zbQ ?_; refine G.op0 (og_st6 rfl rfl rfl rfl rfl (by repeat (first | rfl | refine one_cons zC ?_)) (.zero (.cons (.cons (.cons (.cons (.cons (.cons (.cons (.cons (.cons (.cons .nil)))))))))))) (fun _ _ => ?_); refine zc2 ?_
    (refine zfv ?_); (refine zdB ?_); (refine G.frontR6 pv rfl ?_); (refine G.frontR6 tv rfl ?_); refine G.rowEq (({ t0 with h := far } :: tr).map TypeM.cells) rfl rfl ?_; (refine G.frontR6 iv rfl ?_); refine G.retFc (((⟨_, ⟨_, _, _, _⟩, _, ps, { t0 with h := far } :: tr, _, its⟩, pv, tv, iv), pv, ps.map PairM.cells), xi, xh) ⟨⟨⟨zc, zc, zc⟩, fun _ h => h, zr, zv, zr, (by exact htf.head rfl rfl)⟩, hxi⟩ 4 rfl rfl rfl rfl rfl (fun w hh => hh.sublist ?_); (repeat (first | exact List.Sublist.refl _ | refine List.Sublist.cons_cons _ ?_ | refine List.Sublist.cons _ ?_)); done
  refine zct ?_; refine zcc ?_; refine G.condD rfl (fun hc => ?_) (fun hc => ?_)
  · refine zfO ?_
    refine G.drawD1 [8, 9, 10] rfl ?_; refine GE.q2 0 rfl za rfl (qg_runs (rv_field rfl)) zn rfl ?_; refine GE.q2 1 rfl za rfl (qg_runs (rv_load1 1 rfl rfl rfl)) zn rfl ?_; refine zeZ ?_; refine GE.q2 3 rfl za rfl (qg_runs (rv_field rfl)) zn rfl ?_; refine GE.q2 4 rfl za rfl (qg_runs (rv_load1 1 rfl rfl rfl)) zn rfl ?_; refine GE.q2 5 rfl za rfl (qg_runs (rv_len rfl zA)) zn rfl ?_; refine GE.q2 7 rfl za rfl (qg_runs (rv_move rfl)) zn rfl ?_; refine GE.ol 6 za rfl rfl (og_callM0 rfl rfl rfl (l1Below_any _ zc zc).toF) rfl zj ?_; rintro ⟨xr, xi, xh⟩ ⟨⟨hx0, hx1⟩, hxi⟩; try dsimp only
    obtain ⟨k, rfl⟩ := Int.eq_ofNat_of_zero_le hx0; obtain ⟨t1, ht1⟩ := get_of_lt (l := t0 :: tr) (k := k) (by dsimp only at *; simp at *; omega); have hel := get_map ht1 TypeM.cells
    refine GE.t 8 za rfl rfl rfl (og_runs (rv_indexH rfl rfl zT rfl zc)) rfl (fun _ _ => ?_); refine zds (fun _ _ => ?_); refine GE.t0 10 za rfl rfl rfl (og_stE4 rfl rfl rfl zc rfl rfl rfl rfl (.succ (.succ (.succ (.succ (.succ (.zero (.cons .nil)))))))) (fun _ _ => ?_); refine zb3 ?_; refine G.inN (G.thenN ?_); refine zbQ ?_; refine G.op0 (og_st6 rfl rfl rfl rfl rfl (by repeat (first | rfl | refine one_cons zC ?_)) (.zero (.cons (.cons (.cons (.cons (.cons (.cons (.cons (.cons (.cons (.cons .nil)))))))))))) (fun _ _ => ?_); refine zc2 ?_
    (refine zfv ?_); (refine zdB ?_); (refine G.frontR6 pv rfl ?_); (refine G.frontR6 tv rfl ?_); refine G.rowEq (((t0 :: tr).set k { t1 with g := far }).map TypeM.cells) (by rw [List.map_set]; rfl) rfl ?_; (refine G.frontR6 iv rfl ?_); refine G.retFc (((⟨_, ⟨_, _, _, _⟩, _, ps, (t0 :: tr).set k { t1 with g := far }, _, its⟩, pv, tv, iv), pv, ps.map PairM.cells), xi, xh) ⟨⟨⟨zc, zc, zc⟩, fun _ h => h, zr, zv, zr, (by exact htf.set ht1 rfl rfl)⟩, hxi⟩ 4 rfl rfl rfl rfl rfl (fun w hh => hh.sublist ?_); (repeat (first | exact List.Sublist.refl _ | refine List.Sublist.cons_cons _ ?_ | refine List.Sublist.cons _ ?_)); done
  refine zct ?_; refine zcc ?_; refine G.condD rfl (fun hc => ?_) (fun hc => ?_)
  · refine G.region ?_
    refine zb5 (fun vl _ => ?_); refine zcS ?_; rintro ⟨xr, xi, xh⟩ ⟨hxm, hxi⟩; try dsimp only
    refine za1 ?_; refine G.op0 (og_st3 rfl rfl rfl rfl rfl rfl (.succ (.succ (.succ (.succ (.succ (.succ (.succ (.succ (.zero (.cons .nil))))))))))) (fun _ _ => ?_); refine G.done (G.inN (G.thenN ?_)); refine zct ?_; refine zd6 ?_; refine G.op0 (og_st7 rfl rfl rfl rfl rfl (by repeat (first | rfl | refine one_cons zC ?_)) (.zero (.cons (.cons (.cons (.cons (.cons (.cons (.cons (.cons (.cons (.cons .nil)))))))))))) (fun _ _ => ?_); refine zc2 ?_
    (refine G.frontB7 bk2 rfl ?_); (refine zdB ?_); (refine G.frontR7 pv rfl ?_); (refine G.frontR7 tv rfl ?_); (refine G.frontR7 iv rfl ?_); refine G.retFc (((⟨_, ⟨_, _, _, _⟩, _, ps, t0 :: tr, _, its⟩, pv, tv, iv), pv, ps.map PairM.cells), xi, xh) ⟨⟨⟨zc, zc, zc⟩, fun _ h => h, zr, zr, zr, zaF⟩, hxi⟩ 4 rfl rfl rfl rfl rfl (fun w hh => hh.sublist ?_); (repeat (first | exact List.Sublist.refl _ | refine List.Sublist.cons_cons _ ?_ | refine List.Sublist.cons _ ?_)); done
  refine zct ?_; refine zcc ?_; refine G.condD rfl (fun hc => ?_) (fun hc => ?_)
  · refine zfO ?_
    refine G.frontR3 iv rfl ?_; refine G.drawD2 [9, 10] rfl ?_; refine zeN ?_; refine GE.q2 4 rfl za rfl (qg_runs (rv_move rfl)) zt rfl ?_; refine zf0 ?_; rintro ⟨xa, xi, xh⟩ ⟨⟨hx0, hx1⟩, hxi⟩; try dsimp only
    refine GE.ol 5 za rfl rfl (og_callM0 rfl rfl rfl (l1Below_any _ zc zc).toF) rfl zf ?_; rintro ⟨xb, xi, xh⟩ ⟨⟨hy0, hy1⟩, hxi⟩; try dsimp only
    refine GE.ol 6 za rfl rfl (og_runs (rv_build2 rfl (.cons rfl (.cons rfl (.cons rfl (.cons rfl (.cons rfl (.cons rfl (.cons rfl .nil))))))) (.cons rfl rfl (.zero (.cons .nil)) (.cons rfl rfl (.succ (.zero (.cons .nil))) (.cons rfl rfl (.succ (.succ (.zero (.cons .nil)))) (.cons rfl rfl (.succ (.succ (.succ (.zero (.cons .nil))))) (.cons rfl rfl (.succ (.succ (.succ (.succ (.zero (.cons .nil)))))) (.cons rfl rfl (.succ (.succ (.succ (.succ (.succ (.zero (.cons .nil))))))) (.cons rfl rfl (.succ (.succ (.succ (.succ (.succ (.succ (.zero (.cons .nil)))))))) .nil))))))))) rfl zf (fun _ _ => ?_); refine GE.ol 7 za rfl rfl (og_lit rfl (.cons rfl .nil) rfl rfl rfl rfl rfl rfl) rfl zk (fun vl _ => ?_); refine GE.ol 8 za rfl rfl (og_app2 rfl rfl rfl zg rfl rfl zh zh) rfl zk (fun vi _ => ?_); refine GE.knowD (fun w hw => by exact (Rd.owned 2 rfl (v := vi) w hw).one_) (fun hovi => ?_); refine GE.t 9 za rfl rfl rfl (og_runs (rv_field rfl)) rfl (fun _ _ => ?_)
    refine GE.t0 10 za rfl rfl rfl (og_st4 rfl rfl rfl (cells_one zc) rfl (by repeat (first | rfl | refine one_cons zc ?_)) (.succ (.succ (.succ (.succ (.succ (.succ (.succ (.succ (.succ (.zero (.cons .nil)))))))))))) (fun _ _ => ?_); refine zb3 ?_; refine G.inN (G.thenN ?_); refine zct ?_; refine G.v (rv_loadW 4 rfl rfl rfl) rfl ?_; refine G.op0 (og_st7 rfl rfl rfl rfl rfl (by repeat (first | rfl | refine one_cons zC ?_)) (.zero (.cons (.cons (.cons (.cons (.cons (.cons (.cons (.cons (.cons (.cons .nil)))))))))))) (fun _ _ => ?_); refine zc2 ?_
    (refine G.frontB7 bk2 rfl ?_); (refine G.frontB2 cb rfl ?_); (refine G.frontR7 pv rfl ?_); (refine G.frontR7 tv rfl ?_); (refine G.frontR5 vi rfl ?_); refine G.rowEq ((its ++ [(⟨3, 1, 2, 3, 4, xa, xb⟩ : ItemM)]).map ItemM.cells) zL rfl ?_; refine G.retFc (((⟨_, ⟨_, _, _, _⟩, _, ps, t0 :: tr, _, its ++ [⟨3, 1, 2, 3, 4, xa, xb⟩]⟩, pv, tv, vi), pv, ps.map PairM.cells), xi, xh) ⟨⟨⟨zc, zc, zc⟩, fun _ h => h, zr, zr, zv, zaF⟩, hxi⟩ 4 rfl rfl rfl rfl rfl (fun w hh => hh.sublist ?_); (repeat (first | exact List.Sublist.refl _ | refine List.Sublist.cons_cons _ ?_ | refine List.Sublist.cons _ ?_)); done
  refine zct ?_; refine zcc ?_; refine G.condD rfl (fun hc => ?_) (fun hc => ?_); refine zct ?_; refine zbw ?_; refine G.v (rv_len rfl zA) rfl ?_; refine zdK ?_; refine zbe ?_; refine G.condD rfl (fun hc => ?_) (fun hc => ?_)
  · obtain ⟨i0, ir, rfl⟩ : ∃ i0 ir, its = i0 :: ir := (by cases its with | nil => exact absurd hc (by decide) | cons a b => exact ⟨a, b, rfl⟩); have hir : ir.length ≤ 5 := Nat.le_of_succ_le_succ hil
    refine G.region ?_; refine zbw ?_; refine zaM ?_; refine G.v (rv_indexH rfl rfl zA rfl zat) rfl ?_; refine zcg ?_; refine G.op0 (og_stE3 rfl rfl rfl zat rfl rfl rfl rfl (.succ (.succ (.succ (.zero (.cons .nil)))))) (fun _ _ => ?_); refine G.done (G.inN (G.thenN ?_)); refine zbQ ?_; refine G.op0 (og_st6 rfl rfl rfl rfl rfl (by repeat (first | rfl | refine one_cons zC ?_)) (.zero (.cons (.cons (.cons (.cons (.cons (.cons (.cons (.cons (.cons (.cons .nil)))))))))))) (fun _ _ => ?_); refine zc2 ?_
    (refine zfv ?_); (refine zdB ?_); (refine G.frontR6 pv rfl ?_); (refine G.frontR6 tv rfl ?_); (refine G.frontR6 iv rfl ?_); refine G.rowEq (({ i0 with d := far } :: ir).map ItemM.cells) rfl rfl ?_; refine G.retFc (((⟨_, ⟨_, _, _, _⟩, _, ps, t0 :: tr, _, { i0 with d := far } :: ir⟩, pv, tv, iv), pv, ps.map PairM.cells), xi, xh) ⟨⟨⟨zc, zc, zc⟩, fun _ h => h, zr, zr, zv, zaF⟩, hxi⟩ 4 rfl rfl rfl rfl rfl (fun w hh => hh.sublist ?_); (repeat (first | exact List.Sublist.refl _ | refine List.Sublist.cons_cons _ ?_ | refine List.Sublist.cons _ ?_)); done
  · refine G.skip ?_
    refine G.inN (G.thenN ?_); refine zbQ ?_; refine G.op0 (og_st6 rfl rfl rfl rfl rfl (by repeat (first | rfl | refine one_cons zC ?_)) (.zero (.cons (.cons (.cons (.cons (.cons (.cons (.cons (.cons (.cons (.cons .nil)))))))))))) (fun _ _ => ?_); refine zc2 ?_
    (refine zfv ?_); (refine zdB ?_); (refine G.frontR6 pv rfl ?_); (refine G.frontR6 tv rfl ?_); (refine G.frontR6 iv rfl ?_); refine G.retFc (((⟨_, ⟨_, _, _, _⟩, _, ps, t0 :: tr, _, its⟩, pv, tv, iv), pv, ps.map PairM.cells), xi, xh) ⟨⟨⟨zc, zc, zc⟩, fun _ h => h, zr, zr, zr, zaF⟩, hxi⟩ 4 rfl rfl rfl rfl rfl (fun w hh => hh.sublist ?_); (repeat (first | exact List.Sublist.refl _ | refine List.Sublist.cons_cons _ ?_ | refine List.Sublist.cons _ ?_)); done
  refine zct ?_; refine zcc ?_; refine G.condD rfl (fun hc => ?_) (fun hc => ?_); refine zct ?_; refine zbw ?_; refine G.v (rv_len rfl z6) rfl ?_; refine zdK ?_; refine zbe ?_; refine G.condD rfl (fun hc => ?_) (fun hc => ?_)
  · have hpq : (ps.map PairM.cells).length = ps.length := List.length_map ..; have hpp : 0 < ps.length := zb
    refine G.region ?_; refine zbw ?_; refine G.v (rv_sliceL (l := 1) rfl rfl z6 zb) rfl ?_; refine G.know (fun w hw => by exact (Rd.sub (l := 1) (k := (ps.map PairM.cells).length) (Rd.owned 5 rfl (v := pv) w hw) zb (Nat.le_refl _)).one_) (fun hosv => ?_); refine za1 ?_; refine G.op0 (og_st2 rfl rfl rfl (cells_one zc) rfl (by repeat (first | rfl | refine one_cons zc ?_)) (.succ (.succ (.succ (.succ (.succ (.succ (.zero (.cons .nil))))))))) (fun _ _ => ?_); refine G.done (G.inN (G.thenN ?_)); refine zbQ ?_; refine G.op0 (og_st6 rfl rfl rfl rfl rfl (by repeat (first | rfl | refine one_cons zC ?_)) (.zero (.cons (.cons (.cons (.cons (.cons (.cons (.cons (.cons (.cons (.cons .nil)))))))))))) (fun _ _ => ?_); refine zc2 ?_
    (refine zfv ?_); (refine zdB ?_); (refine G.frontR6 pv rfl ?_); (refine G.frontR6 tv rfl ?_); (refine G.frontR6 iv rfl ?_); refine G.retFc (((⟨_, ⟨_, _, _, _⟩, _, ps.drop 1, t0 :: tr, _, its⟩, subV pv 2 1 (ps.map PairM.cells).length, tv, iv), pv, ps.map PairM.cells), xi, xh) ⟨⟨⟨zc, zc, zc⟩, fun _ h => Rd.subL h zb, zv, zr, zr, zaF⟩, hxi⟩ 4 rfl rfl rfl rfl rfl (fun w hh => hh.sublist ?_); (repeat (first | exact List.Sublist.refl _ | refine List.Sublist.cons_cons _ ?_ | refine List.Sublist.cons _ ?_)); done
  · refine G.skip ?_
    refine G.inN (G.thenN ?_); refine zbQ ?_; refine G.op0 (og_st6 rfl rfl rfl rfl rfl (by repeat (first | rfl | refine one_cons zC ?_)) (.zero (.cons (.cons (.cons (.cons (.cons (.cons (.cons (.cons (.cons (.cons .nil)))))))))))) (fun _ _ => ?_); refine zc2 ?_
    (refine zfv ?_); (refine zdB ?_); (refine G.frontR6 pv rfl ?_); (refine G.frontR6 tv rfl ?_); (refine G.frontR6 iv rfl ?_); refine G.retFc (((⟨_, ⟨_, _, _, _⟩, _, ps, t0 :: tr, _, its⟩, pv, tv, iv), pv, ps.map PairM.cells), xi, xh) ⟨⟨⟨zc, zc, zc⟩, fun _ h => h, zr, zr, zr, zaF⟩, hxi⟩ 4 rfl rfl rfl rfl rfl (fun w hh => hh.sublist ?_); (repeat (first | exact List.Sublist.refl _ | refine List.Sublist.cons_cons _ ?_ | refine List.Sublist.cons _ ?_)); done
  refine zct ?_; refine zcc ?_; refine G.condD rfl (fun hc => ?_) (fun hc => ?_)
  · refine G.frontR4 tv rfl ?_
    refine G.drawD1 [8, 9] rfl ?_; refine GE.q2 0 rfl za rfl (qg_runs (rv_field rfl)) zn rfl ?_; refine GE.q2 1 rfl za rfl (qg_runs (rv_load1 2 rfl rfl rfl)) zn rfl ?_; refine GE.ol 2 za rfl rfl (og_runs (rv_field rfl)) rfl zj (fun _ _ => ?_); refine GE.ol 3 za rfl rfl (og_runs (rv_load1 3 rfl rfl rfl)) rfl zj (fun _ _ => ?_); refine GE.ol 4 za rfl rfl (og_runs (rv_indexH rfl rfl zg rfl zat)) rfl zj (fun _ _ => ?_); refine GE.ol 5 za rfl rfl (og_runs (rv_loadEW rfl zg zat rfl)) rfl zj (fun _ _ => ?_); refine GE.ol 6 za rfl rfl (og_lit rfl (.cons rfl .nil) rfl rfl rfl rfl rfl rfl) rfl zf (fun vl _ => ?_); refine GE.ol 7 za rfl rfl (og_app1 rfl rfl rfl zg rfl rfl zh zh) rfl zf (fun vt _ => ?_); refine GE.knowD (fun w hw => by exact (Rd.owned 1 rfl (v := vt) w hw).one_) (fun hovt => ?_); refine GE.t 8 za rfl rfl rfl (og_runs (rv_field rfl)) rfl (fun _ _ => ?_)
    refine GE.t0 9 za rfl rfl rfl (og_st4 rfl rfl rfl (cells_one zc) rfl (by repeat (first | rfl | refine one_cons zc ?_)) (.succ (.succ (.succ (.succ (.succ (.succ (.succ (.zero (.cons .nil)))))))))) (fun _ _ => ?_); refine zb3 ?_; refine G.inN (G.thenN ?_); refine zct ?_; refine G.v (rv_loadW 4 rfl rfl rfl) rfl ?_; refine G.op0 (og_st7 rfl rfl rfl rfl rfl (by repeat (first | rfl | refine one_cons zC ?_)) (.zero (.cons (.cons (.cons (.cons (.cons (.cons (.cons (.cons (.cons (.cons .nil)))))))))))) (fun _ _ => ?_); refine zc2 ?_
    (refine G.frontB7 bk2 rfl ?_); (refine G.frontB3 cb rfl ?_); (refine G.frontR7 pv rfl ?_); (refine G.frontR4 vt rfl ?_); refine G.rowEq (((t0 :: tr) ++ [t0]).map TypeM.cells) zL rfl ?_; (refine G.frontR7 iv rfl ?_); refine G.retFc (((⟨_, ⟨_, _, _, _⟩, _, ps, (t0 :: tr) ++ [t0], _, its⟩, pv, vt, iv), pv, ps.map PairM.cells), xi, xh) ⟨⟨⟨zc, zc, zc⟩, fun _ h => h, zr, zv, zr, (by exact htf.dbl)⟩, hxi⟩ 4 rfl rfl rfl rfl rfl (fun w hh => hh.sublist ?_); (repeat (first | exact List.Sublist.refl _ | refine List.Sublist.cons_cons _ ?_ | refine List.Sublist.cons _ ?_)); done
  refine zct ?_; refine zcc ?_; refine G.condD rfl (fun hc => ?_) (fun hc => ?_)
  · refine G.region ?_
    refine za1 ?_; refine G.op0 (og_st2 rfl rfl rfl (cells_one zat) rfl (by repeat (rfl)) (.succ (.succ (.succ (.succ (.succ (.succ (.succ (.zero (.cons .nil)))))))))) (fun _ _ => ?_); refine G.done (G.inN (G.thenN ?_)); refine zbQ ?_; refine G.op0 (og_st6 rfl rfl rfl rfl rfl (by repeat (first | rfl | refine one_cons zC ?_)) (.zero (.cons (.cons (.cons (.cons (.cons (.cons (.cons (.cons (.cons (.cons .nil)))))))))))) (fun _ _ => ?_); refine zc2 ?_
    (refine zfv ?_); (refine zdB ?_); (refine G.frontR6 pv rfl ?_); refine G.heap (fun w hh => hh.nilRow 56 7) ?_; (refine G.frontR6 iv rfl ?_); refine G.retFc (((⟨_, ⟨_, _, _, _⟩, _, ps, [], _, its⟩, pv, .slice none 0 0, iv), pv, ps.map PairM.cells), xi, xh) ⟨⟨⟨zc, zat, zc⟩, fun _ h => h, zr, (by exact Nat.zero_le _), zr, (by exact TyFar.nil)⟩, hxi⟩ 4 rfl rfl rfl rfl rfl (fun w hh => hh.sublist ?_); (repeat (first | exact List.Sublist.refl _ | refine List.Sublist.cons_cons _ ?_ | refine List.Sublist.cons _ ?_)); done
  · refine G.skip ?_
    refine G.inN (G.thenN ?_); refine zbQ ?_; refine G.op0 (og_st6 rfl rfl rfl rfl rfl (by repeat (first | rfl | refine one_cons zC ?_)) (.zero (.cons (.cons (.cons (.cons (.cons (.cons (.cons (.cons (.cons (.cons .nil)))))))))))) (fun _ _ => ?_); refine zc2 ?_
    (refine zfv ?_); (refine zdB ?_); (refine G.frontR6 pv rfl ?_); (refine G.frontR6 tv rfl ?_); (refine G.frontR6 iv rfl ?_); refine G.retFc (((⟨_, ⟨_, _, _, _⟩, _, ps, t0 :: tr, _, its⟩, pv, tv, iv), pv, ps.map PairM.cells), xi, xh) ⟨⟨⟨zc, zc, zc⟩, fun _ h => h, zr, zr, zr, zaF⟩, hxi⟩ 4 rfl rfl rfl rfl rfl (fun w hh => hh.sublist ?_); (repeat (first | exact List.Sublist.refl _ | refine List.Sublist.cons_cons _ ?_ | refine List.Sublist.cons _ ?_)); done
end Go.Proofs.YtglpgohilfoecaaGreat

/-
  An order of which nothing is wrong, as the draws hand it out.
-/
namespace Go.Proofs.YtglpgohilfoecaaGreat
open Go.RowKit
theorem one_eqD {a a' : Ch} {F : List Ch} (h1 : a = a') : a :: F = [a'] ++ F := by subst h1; rfl
theorem G.keep1D {n : Nat} {w0 : World} {fr : Fr} {H : List Ch} (m : Nat) {c1 : Ch} {J : List Ch} {K : Act → World → Prop} (hH : H = c1 :: J) (h : G n w0 fr (c1 :: J.drop m) K) : G n w0 fr H K := by
  subst hH
  exact G.heap (fun w hh => hh.sublist (List.Sublist.cons_cons _ (List.drop_sublist _ _))) h
attribute [local irreducible] Go.wpList Go.Code.wp Go.Exit.then Go.Exit.inBlock Go.bodyPost Go.Calls pE pB G RunsV FnV Fn FnM
set_option maxRecDepth 100000
set_option maxHeartbeats 4000000
theorem l5Good_any {w0 : World} {v : Value} {l : List Int} {cb i : Nat} {h : Int} (hv : Rd w0 v 1 (l.map bcell)) (hi : i ≤ l.length) :
    FnM Tryz.prog 125 [pB cb 0] w0 [.blk cb 182 [v, .int .i64 i, .int .i64 h]] (fun x : (ReqM × Value × Value × Value) × Nat × Int => ((x.1.2.1.oneCell' = true ∧ x.1.2.2.1.oneCell' = true ∧ x.1.2.2.2.oneCell' = true) ∧ x.1.1.pairs.length ≤ 32 ∧ 1 ≤ x.1.1.types.length ∧ x.1.1.types.length ≤ 8 ∧ x.1.1.items.length ≤ 6 ∧ TyFar x.1.1.types) ∧ x.2.1 ≤ l.length)
      (fun x => .agg (x.1.1.cells x.1.2.1 x.1.2.2.1 x.1.2.2.2).toArray) (fun x => [.row x.1.2.2.2 111 7 (x.1.1.items.map ItemM.cells), .row x.1.2.2.1 56 7 (x.1.1.types.map TypeM.cells), .row x.1.2.1 138 2 (x.1.1.pairs.map PairM.cells), .blk cb 182 [v, .int .i64 x.2.1, .int .i64 x.2.2]]) := by
  refine FnM.of (n := 46) Tryz.func125 rfl rfl (fun F => ?_); refine zct ?_; refine zbu (fun bk2 _ => ?_); refine zeC ?_
  (refine zdB ?_); refine G.op (og_callN0 rfl rfl rfl (l2Right_any zc zc).toF) rfl ?_; rintro ⟨⟨r, pv, tv, iv⟩, xi, xh⟩ ⟨⟨⟨hopv, hotv, hoiv⟩, hpl, htl1, htl, hil, htf⟩, hxi⟩; try dsimp only
  obtain ⟨wy, ⟨pw, pd, ph, pg⟩, cl, ps, ty, ms, its⟩ := r; try dsimp only at hpl htl1 htl hil
  replace hxi : xi ≤ l.length := hxi
  refine zbu (fun bk3 _ => ?_); refine G.op0 (og_st0 rfl rfl rfl rfl rfl (by repeat (first | rfl | refine one_cons zC ?_)) (.zero (.cons (.cons (.cons (.cons (.cons (.cons (.cons (.cons (.cons (.cons .nil)))))))))))) (fun _ _ => ?_); refine ze1 ?_; refine za7 ?_; refine G.op (og_callV rfl rfl (fun w hh => sclass_any (r := ⟨wy, ⟨pw, pd, ph, pg⟩, cl, ps, ty, ms, its⟩) w (by exact Rd.owned 3 rfl _ hh) zan zax)) rfl (fun _ _ => ?_); refine zeG ?_; refine G.condD rfl (fun hc => ?_) (fun hc => ?_); refine zct ?_; refine zbG ?_; refine za1 ?_; refine G.op0 (og_st0 rfl rfl rfl rfl rfl rfl (.succ (.zero (.cons (.cons (.cons (.cons .nil))))))) (fun _ _ => ?_); refine zbe ?_; refine za7 ?_
  refine G.op (og_callV rfl rfl (fun w hh => smasterOf_any (r := ⟨wy, ⟨30, 25, 24, 400⟩, cl, ps, ty, ms, its⟩) w zan)) rfl (fun _ _ => ?_); refine zbi (fun bk4 _ => ?_); refine zaV (fun _ _ => ?_); refine zaL ?_; refine za6 (fun kv _ => ?_); refine G.know (fun w hw => (Rd.owned 0 rfl (v := kv) w hw).one_) (fun hokv => ?_); refine zd8 ?_; refine G.frontR0 kv rfl ?_; refine G.loopK (ι := Nat × Value × List ItemM) (ks := [2, 3, 4]) (fun x => [(6, x.2.1), (7, .int .i64 (x.1 : Int))]) (fun x => [.row x.2.1 111 7 (x.2.2.map ItemM.cells)]) (fun x => (x.1 ≤ its.length ∧ x.2.2.length ≤ x.1) ∧ x.2.1.oneCell' = true) (fun x => its.length - x.1) (0, kv, []) (.cons rfl (.cons rfl (.cons rfl (.nil)))) rfl ?_ ?_ ?_
  exact ⟨⟨Nat.zero_le _, Nat.le_refl _⟩, hokv⟩
  exact ⟨rfl, rfl, trivial⟩
  rintro ⟨k, kv2, ks⟩ ⟨⟨hk, hkl⟩, hokv2⟩
  dsimp only at hk hkl hokv2 ⊢
  have hil3 : (its.map ItemM.cells).length = its.length := List.length_map ..
  have hks3 : (ks.map ItemM.cells).length = ks.length := List.length_map ..
  refine zeA ?_; refine zbw ?_; refine G.v (rv_len rfl zA) rfl ?_; refine zaT ?_; refine G.condD rfl (fun hc => ?_) (fun hc => ?_)
  obtain ⟨x0, hx0⟩ := get_of_lt (l := its) (k := k) zb; have hel := get_map hx0 ItemM.cells; have hklt : k < its.length := zb
  refine za3 ?_; refine zeS ?_; refine GE.q 0 rfl za rfl (qg_runs (rv_field rfl)) rfl ?_; refine GE.q 1 rfl za rfl (qg_runs (rv_load1 2 rfl rfl rfl)) rfl ?_; refine zcO ?_; refine GE.q 3 rfl za rfl (qg_runs (rv_indexH rfl rfl zA rfl zc)) rfl ?_; refine GE.q 4 rfl za rfl (qg_runs (rv_loadEW rfl zA zc rfl)) rfl ?_; refine GE.ol 5 za rfl rfl (og_runs (rv_loadW 1 rfl rfl rfl)) rfl zd (fun _ _ => ?_); refine GE.ol 6 za rfl rfl (og_callV rfl rfl (fun w _ => sfits_any x0 _ w)) rfl zd (fun _ _ => ?_); refine zbm ?_; refine G.cond rfl (fun hc => ?_) (fun hc => ?_); refine zbq ?_; refine zbw ?_; refine zaM ?_; refine G.v (rv_indexH rfl rfl zA rfl zc) rfl ?_; refine G.v (rv_loadEW rfl zA zc rfl) rfl ?_; refine za2 (fun vx _ => ?_)
  refine zbI (fun kv3 _ => ?_); refine G.know (fun w hw => by exact (Rd.owned 1 rfl (v := kv3) w hw).one_) (fun hokv3 => ?_); refine zbb ?_; refine zaO ?_; refine G.frontR1 kv3 rfl ?_; refine G.keep1D 1 rfl ?_; refine G.backK (k + 1, kv3, ks ++ [x0]) 0 (by (exact one_eqD (congrArg (fun z => Ch.row kv3 111 7 z) zL))) (.cons rfl (.cons rfl (.cons rfl (.nil)))) ?_ ?_ ?_
  exact ⟨rfl, rfl, trivial⟩
  exact ⟨⟨by dsimp only; omega, by dsimp only; (try simp only [List.length_append, List.length_cons, List.length_nil]); omega⟩, by assumption⟩
  dsimp only; omega
  refine zfL ?_; refine G.frontR0 kv2 rfl ?_; refine G.keep1D 0 rfl ?_; refine G.backK (k + 1, kv2, ks) 0 (by exact one_eqD rfl) (.cons rfl (.cons rfl (.cons rfl (.nil)))) ?_ ?_ ?_
  exact ⟨rfl, rfl, trivial⟩
  exact ⟨⟨by dsimp only; omega, by dsimp only; (try simp only [List.length_append, List.length_cons, List.length_nil]); omega⟩, by assumption⟩
  dsimp only; omega
  · refine G.exit ?_
    refine G.thenX (G.thenX (G.inX (G.thenN ?_))); refine zbq ?_; refine za1 ?_; refine G.op0 (og_st2 rfl rfl rfl (cells_one zc) rfl (by repeat (first | rfl | refine one_cons zc ?_)) (.succ (.succ (.succ (.succ (.succ (.succ (.succ (.succ (.succ (.zero (.cons .nil)))))))))))) (fun _ _ => ?_); refine zbe ?_; refine zbQ ?_; refine G.op0 (og_st7 rfl rfl rfl rfl rfl (by repeat (first | rfl | refine one_cons zC ?_)) (.zero (.cons (.cons (.cons (.cons (.cons (.cons (.cons (.cons (.cons (.cons .nil)))))))))))) (fun _ _ => ?_); refine zc2 ?_
    (refine G.frontB7 bk2 rfl ?_); (refine G.frontB7 cb rfl ?_); (refine G.frontR7 pv rfl ?_); (refine G.frontR7 tv rfl ?_); (refine G.frontR4 kv2 rfl ?_); refine G.retFc ((⟨_, ⟨_, _, _, _⟩, _, ps, ty, _, ks⟩, pv, tv, kv2), xi, xh) ⟨⟨⟨hopv, hotv, hokv2⟩, hpl, htl1, htl, by dsimp only; omega, htf⟩, hxi⟩ 4 rfl rfl rfl rfl rfl (fun w hh => hh.sublist ?_); (repeat (first | exact List.Sublist.refl _ | refine List.Sublist.cons_cons _ ?_ | refine List.Sublist.cons _ ?_)); done
  · refine G.skip ?_
    refine G.thenN ?_; refine za7 ?_; refine G.op0 (og_st5 rfl rfl rfl rfl rfl (by repeat (first | rfl | refine one_cons zC ?_)) (.zero (.cons (.cons (.cons (.cons (.cons (.cons (.cons (.cons (.cons (.cons .nil)))))))))))) (fun _ _ => ?_); refine zc2 ?_
    (refine G.frontB5 bk2 rfl ?_); (refine G.frontB5 cb rfl ?_); (refine G.frontR5 pv rfl ?_); (refine G.frontR5 tv rfl ?_); (refine G.frontR5 iv rfl ?_); refine G.retFc ((⟨_, ⟨_, _, _, _⟩, _, ps, ty, _, its⟩, pv, tv, iv), xi, xh) ⟨⟨⟨hopv, hotv, hoiv⟩, hpl, htl1, htl, hil, htf⟩, hxi⟩ 4 rfl rfl rfl rfl rfl (fun w hh => hh.sublist ?_); (repeat (first | exact List.Sublist.refl _ | refine List.Sublist.cons_cons _ ?_ | refine List.Sublist.cons _ ?_)); done
end Go.Proofs.YtglpgohilfoecaaGreat

/-
  Orders and units, as the draws hand them out.
-/
namespace Go.Proofs.YtglpgohilfoecaaGreat
open Go.RowKit
/-- What is known of a drawn order: its parts lie in rows; the pairs may be read past a row's front. -/
def DrawnOk (x : (ReqM × Value × Value × Value) × Value × List (List Value)) : Prop :=
  (x.1.2.1.oneCell' = true ∧ x.1.2.2.1.oneCell' = true ∧ x.1.2.2.2.oneCell' = true) ∧ (∀ w, Rd w x.2.1 2 x.2.2 → Rd w x.1.2.1 2 (x.1.1.pairs.map PairM.cells)) ∧ x.1.1.pairs.length ≤ 33 ∧ x.1.1.types.length ≤ 9 ∧ x.1.1.items.length ≤ 7 ∧ TyFar x.1.1.types
attribute [local irreducible] Go.wpList Go.Code.wp Go.Exit.then Go.Exit.inBlock Go.bodyPost Go.Calls pE pB G RunsV FnV Fn FnM
set_option maxRecDepth 100000
set_option maxHeartbeats 4000000
theorem drawClass_any {v : Value} {l : List Int} (w : World) (hv : Rd w v 1 (l.map bcell)) : Fn Tryz.prog 69 [v] w (fun x : (ReqM × Value × Value × Value) × Value × List (List Value) => DrawnOk x)
    (fun x => .agg (x.1.1.cells x.1.2.1 x.1.2.2.1 x.1.2.2.2).toArray) (fun x => [.row x.1.2.2.2 111 7 (x.1.1.items.map ItemM.cells), .row x.1.2.2.1 56 7 (x.1.1.types.map TypeM.cells), .row x.2.1 138 2 x.2.2]) := by
  refine Fn.of (n := 12) Tryz.func69 rfl rfl ?_; refine zct ?_; refine zbu (fun bk2 _ => ?_); refine zeC ?_; refine G.op (og_callF1 rfl rfl (fun w hh => l1New_any w zH)) rfl ?_; rintro ⟨cb, ch⟩ _; try dsimp only
  have h0 : (0 : Nat) ≤ l.length := Nat.zero_le _
  refine zfb ?_; refine G.op (og_callM0 rfl rfl rfl (l1Once_any _ zc zc).toF) rfl ?_; rintro ⟨xr, xi, xh⟩ hxi; try dsimp only
  refine zbe ?_; refine G.cond rfl (fun hc => ?_) (fun hc => ?_)
  · refine G.seq ?_
    refine zbq ?_
    (refine zfO ?_); refine G.op (og_callN0 rfl rfl rfl (l5Good_any zc zc).toF) rfl ?_; rintro ⟨⟨r, pv, tv, iv⟩, xi, xh⟩ ⟨⟨⟨hopv, hotv, hoiv⟩, hpl, htl1, htl, hil, htf⟩, hxi⟩; try dsimp only
    refine G.op0 (og_st4 rfl rfl rfl rfl rfl (by repeat (first | rfl | refine one_cons zC ?_)) (.zero (.cons (.cons (.cons (.cons (.cons (.cons (.cons (.cons (.cons (.cons .nil)))))))))))) (fun _ _ => ?_); refine zc2 ?_; refine G.thenR ?_
    (refine G.frontB4 bk2 rfl ?_); (refine G.frontR3 pv rfl ?_); (refine G.frontR3 tv rfl ?_); (refine G.frontR3 iv rfl ?_); refine G.retFc ((r, pv, tv, iv), pv, r.pairs.map PairM.cells) ⟨⟨hopv, hotv, hoiv⟩, fun _ h => h, Nat.le_trans hpl (by decide), Nat.le_trans htl (by decide), Nat.le_trans hil (by decide), htf⟩ 3 rfl rfl rfl rfl rfl (fun w hh => hh.sublist ?_); (repeat (first | exact List.Sublist.refl _ | refine List.Sublist.cons_cons _ ?_ | refine List.Sublist.cons _ ?_)); done
  · refine G.skip ?_
    refine G.thenN ?_; refine zaN ?_
    (refine zfO ?_); refine G.op (og_callN0 rfl rfl rfl (l2Draw_any zc zc).toF) rfl ?_; rintro ⟨⟨⟨r, pv, tv, iv⟩, pv0, es0⟩, xi, xh⟩ ⟨⟨⟨hopv, hotv, hoiv⟩, hrd, hpl, htl, hil, htf⟩, hxi⟩; try dsimp only
    refine G.op0 (og_st4 rfl rfl rfl rfl rfl (by repeat (first | rfl | refine one_cons zC ?_)) (.zero (.cons (.cons (.cons (.cons (.cons (.cons (.cons (.cons (.cons (.cons .nil)))))))))))) (fun _ _ => ?_); refine zc2 ?_
    (refine G.frontB4 bk2 rfl ?_); (refine G.frontR3 pv0 rfl ?_); (refine G.frontR3 tv rfl ?_); (refine G.frontR3 iv rfl ?_); refine G.retFc ((r, pv, tv, iv), pv0, es0) ⟨⟨hopv, hotv, hoiv⟩, hrd, hpl, htl, hil, htf⟩ 3 rfl rfl rfl rfl rfl (fun w hh => hh.sublist ?_); (repeat (first | exact List.Sublist.refl _ | refine List.Sublist.cons_cons _ ?_ | refine List.Sublist.cons _ ?_)); done
end Go.Proofs.YtglpgohilfoecaaGreat

/-
  Orders, as more draws hand them out.
-/
namespace Go.Proofs.YtglpgohilfoecaaGreat
open Go.RowKit
attribute [local irreducible] Go.wpList Go.Code.wp Go.Exit.then Go.Exit.inBlock Go.bodyPost Go.Calls pE pB G RunsV FnV Fn FnM
set_option maxRecDepth 100000
set_option maxHeartbeats 4000000
theorem dDrawPlanOf_any {v : Value} {l : List Int} (w : World) (hv : Rd w v 1 (l.map bcell)) : Fn Tryz.prog 38 [v] w (fun x : (ReqM × Value × Value × Value) × Value × List (List Value) => DrawnOk x)
    (fun x => .agg (x.1.1.cells x.1.2.1 x.1.2.2.1 x.1.2.2.2).toArray) (fun x => [.row x.1.2.2.2 111 7 (x.1.1.items.map ItemM.cells), .row x.1.2.2.1 56 7 (x.1.1.types.map TypeM.cells), .row x.2.1 138 2 x.2.2]) := by
  refine Fn.of (n := 5) Tryz.func38 rfl rfl ?_; refine zct ?_; refine zbu (fun bk2 _ => ?_); refine zeC ?_
  (refine G.op (og_callF3 rfl rfl (fun w hh => drawClass_any w zH)) rfl ?_; rintro ⟨⟨r, pv, tv, iv⟩, pv0, es0⟩ hdr; try dsimp only)
  have hopv := hdr.1.1; have hotv := hdr.1.2.1; have hoiv := hdr.1.2.2; dsimp only at hopv hotv hoiv
  refine G.op0 (og_st3 rfl rfl rfl rfl rfl (by repeat (first | rfl | refine one_cons zC ?_)) (.zero (.cons (.cons (.cons (.cons (.cons (.cons (.cons (.cons (.cons (.cons .nil)))))))))))) (fun _ _ => ?_); refine zc2 ?_
  (refine G.frontB3 bk2 rfl ?_); (refine G.frontR3 pv0 rfl ?_); (refine G.frontR3 tv rfl ?_); (refine G.frontR3 iv rfl ?_); refine G.retFc ((r, pv, tv, iv), pv0, es0) hdr 3 rfl rfl rfl rfl rfl (fun w hh => hh.sublist ?_); (repeat (first | exact List.Sublist.refl _ | refine List.Sublist.cons_cons _ ?_ | refine List.Sublist.cons _ ?_)); done
end Go.Proofs.YtglpgohilfoecaaGreat

/-
  The law of the pallets needed.
-/
namespace Go.Proofs.YtglpgohilfoecaaGreat
open Go.RowKit
/-- What lies on the first pallets. -/
def onFirst (r : ReqM) (k : Nat) : Int := ((List.range k).map fun q : Nat => palletGramM r (cartonsM r) (planSpotsM r) (q : Int)).sum
theorem onFirst_next (r : ReqM) (k : Nat) : onFirst r (k + 1) = onFirst r k + palletGramM r (cartonsM r) (planSpotsM r) (k : Int) := by
  rw [onFirst, List.range_succ, List.map_append, List.sum_append]; simp [onFirst]
theorem onFirst_in {r : ReqM} {n : Nat} (h : NeedOk r n) (hg : 1 ≤ r.pal.g ∧ r.pal.g ≤ 100000) : ∀ k, 0 ≤ onFirst r k ∧ onFirst r k ≤ r.pal.g * k ∧ onFirst r k ≤ 100000 * k
  | 0 => ⟨Int.le_refl 0, by rw [onFirst]; simp, by rw [onFirst]; simp⟩
  | k + 1 => by
    have ih := onFirst_in h hg k
    have := h.gs (k : Int)
    rw [onFirst_next, Int.natCast_add, Int.mul_add]
    omega
theorem gross_next {r : ReqM} {cs : List CartonM} {k : Nat} {c : CartonM} (h : cs[k]? = some c) : ((cs.take (k + 1)).map (grossM r)).sum = ((cs.take k).map (grossM r)).sum + grossM r c := by
  rw [List.take_add_one, h, List.map_append, List.sum_append]; simp
theorem gross_sumIn {r : ReqM} : ∀ cs : List CartonM, (∀ c ∈ cs, c.l.length ≤ 1048576) → 0 ≤ (cs.map (grossM r)).sum ∧ (cs.map (grossM r)).sum ≤ 104857700000 * cs.length
  | [], _ => by simp
  | c :: cs, h => by
    have h1 := gross_in (r := r) (h c List.mem_cons_self)
    have h2 := gross_sumIn (r := r) cs (fun d hd => h d (List.mem_cons_of_mem _ hd))
    rw [List.map_cons, List.sum_cons, List.length_cons]; omega
theorem need_at {r : ReqM} {n : Nat} (h : NeedOk r n) {cs : List (CartonM × Value)} (hcs : cs.map Prod.fst = cartonsM r) {q a b : Int} (ha : a ∈ onPalletM cs.length (planSpotsM r) q) (hb : b ∈ onPalletM cs.length (planSpotsM r) q) :
    ∃ (i j : Nat) (x y : CartonM × Value), a = (i : Int) ∧ b = (j : Int) ∧ cs[i]? = some x ∧ cs[j]? = some y ∧ x.1.g = y.1.g := by
  have el : cs.length = (cartonsM r).length := by rw [← hcs, List.length_map]
  rw [el] at ha hb
  obtain ⟨i, j, x, y, ea, eb, hx, hy, hg⟩ := h.same q a b ha hb
  rw [← hcs, List.getElem?_map, Option.map_eq_some_iff] at hx hy
  obtain ⟨x', hx', ex⟩ := hx
  obtain ⟨y', hy', ey⟩ := hy
  exact ⟨i, j, x', y', ea, eb, hx', hy', by rw [ex, ey, hg]⟩
theorem onp_len (n : Nat) (ss : List SpotM) (k : Int) : (onPalletM n ss k).length ≤ ss.length := by
  rw [onPalletM]; split
  · exact where_len _ _
  · simp
attribute [local irreducible] Go.wpList Go.Code.wp Go.Exit.then Go.Exit.inBlock Go.bodyPost Go.Calls pE pB G RunsV FnV Fn FnM
set_option maxRecDepth 100000
set_option maxHeartbeats 4000000
theorem fnPalletsNeeded_any {v : Value} {l : List Int} {w : World} (h : Rd w v 1 (l.map bcell)) : FnV Tryz.prog 7 [v] w (.bool true) := by
  refine FnV.of (n := 121) Tryz.func7 rfl rfl ?_; refine zcK ?_; refine G.op (og_callV rfl rfl (fun w hh => big_any w zH)) rfl (fun _ _ => ?_); refine zbe ?_; refine G.condD rfl (fun hc => ?_) (fun hc => ?_)
  simp only [List.length_map] at hc
  refine zdM ?_
  exact G.retFV rfl rfl rfl
  simp only [List.length_map] at hc
  refine zc1 ?_; refine zaN ?_; refine G.op (og_callF3 rfl rfl (fun w hh => dDrawPlanOf_any w zH)) rfl ?_; rintro ⟨⟨r, pv, tv, iv⟩, pv0, es0⟩ hdr; try dsimp only
  have hopv := hdr.1.1; have hotv := hdr.1.2.1; have hoiv := hdr.1.2.2; dsimp only at hopv hotv hoiv
  have hsl := planSpots_len r
  have hcn := cartons_lenP r
  refine zbu (fun bk3 _ => ?_); refine G.op0 (og_st0 rfl rfl rfl rfl rfl (by repeat (first | rfl | refine one_cons zC ?_)) (.zero (.cons (.cons (.cons (.cons (.cons (.cons (.cons (.cons (.cons (.cons .nil)))))))))))) (fun _ _ => ?_); refine zbe ?_; refine za7 ?_; refine G.op (og_callF3 rfl rfl (fun w hh => planOf_any (r := r) w (hdr.2.1 _ (by exact Rd.owned 3 rfl _ hh)) zan zax)) rfl ?_; rintro ⟨⟨cv, cs⟩, sv⟩ ⟨hcv, hsv, hcs⟩; try dsimp only
  have hcl : cs.length = (cartonsM r).length := zaw; have hcl2 : (cs.map CartonM.cells).length = cs.length := List.length_map ..
  have h48 : ∀ c ∈ cs, c.1.l.length ≤ 48 := (fun c hc => cartons_elt zap)
  have h48b : ∀ c ∈ cs.map Prod.fst, c.l.length ≤ 1048576 := (fun c hc => by obtain ⟨d, hd, e⟩ := List.mem_map.1 hc; have := h48 d hd; rw [← e]; omega)
  refine zbi (fun bk4 _ => ?_); refine G.op0 (og_st0 rfl rfl rfl rfl rfl (by repeat (first | rfl | refine one_cons zc ?_)) (.zero (.cons (.cons .nil)))) (fun _ _ => ?_); refine zfC ?_; refine G.v (rv_loadW 4 rfl rfl rfl) rfl (G.op (og_callF3 rfl rfl (fun w hh => splanOf_any (r := r) w (hdr.2.1 _ zaJ) (by exact Rd.owned 6 rfl _ hh) (by exact Rd.owned 5 rfl _ hh))) rfl ?_); rintro ⟨⟨dv, ds⟩, ev⟩ ⟨hdv, hev, hds⟩; try dsimp only
  refine zbi (fun bk6 _ => ?_); refine G.op0 (og_st0 rfl rfl rfl rfl rfl (by repeat (first | rfl | refine one_cons zc ?_)) (.zero (.cons (.cons .nil)))) (fun _ _ => ?_); refine zbk ?_; refine zaZ ?_; refine G.v (rv_neqb rfl rfl) rfl ?_; refine zbe ?_; refine G.condD rfl (fun hc => ?_) (fun hc => ?_)
  simp only [List.length_map] at hc
  exfalso; contradiction
  simp only [List.length_map] at hc
  refine zc1 ?_; refine zeA ?_; refine zcI ?_; refine G.cond rfl (fun hc => ?_) (fun hc => ?_)
  have hno : ¬ classM r = 0 := (by clear h; simp_all); have hp0 : palletsM (planSpotsM r) = 0 := (by rw [planSpots_no hno]; rfl)
  refine zct ?_; refine za1 ?_; refine G.v (rv_load1 4 rfl rfl rfl) rfl (G.op (og_callV rfl rfl (fun w hh => pallets_any (bs := planSpotsM r) w zaJ)) rfl (fun _ _ => ?_)); refine zcc ?_; refine G.ret (G.thenR ?_)
  exact G.retFV rfl rfl (by (congr 1; exact decide_eq_true zb))
  have hyes : classM r = 0 := (by clear h; simp_all); obtain ⟨n, hN⟩ := need_ok hyes; have hpal := hN.pal; have hge := hN.ge; have hle9 := hN.le; have hpg : 1 ≤ r.pal.g ∧ r.pal.g ≤ 100000 := (by have := pal_of hyes; simp only [palletOkM, inB, Bool.and_eq_true, decide_eq_true_eq] at this; omega)
  have hml : palletsM (planSpotsM r) * r.pal.g = r.pal.g * (n : Int) := (by rw [hpal, Int.mul_comm])
  have hml2 : 0 ≤ r.pal.g * (n : Int) ∧ r.pal.g * (n : Int) ≤ 100000 * (n : Int) := ⟨Int.mul_nonneg zb zb, Int.mul_le_mul_of_nonneg_right hpg.2 zb⟩
  refine zc1 ?_; refine zct ?_; refine za1 ?_; refine G.v (rv_load1 4 rfl rfl rfl) rfl (G.op (og_callV rfl rfl (fun w hh => pallets_any (bs := planSpotsM r) w zaJ)) rfl (fun _ _ => ?_)); refine zaL ?_; refine zf2 ?_; refine G.loopK (ι := Nat) (ks := [3, 4, 8]) (fun k => [(9, .int .i64 (onFirst r k)), (10, .int .i64 (k : Int))]) (fun _ => []) (fun k => k ≤ n) (fun k => n - k) 0 (.cons rfl (.cons rfl (.cons rfl (.nil)))) rfl ?_ ?_ ?_
  exact Nat.zero_le _
  exact ⟨rfl, rfl, trivial⟩
  rintro k hk
  have hof := onFirst_in hN hpg k
  have hgk := hN.gs (k : Int)
  have hofn := onFirst_next r k
  have hol := onp_len cs.length (planSpotsM r) (k : Int)
  have hol2 : ((onPalletM cs.length (planSpotsM r) (k : Int)).map icell).length = (onPalletM cs.length (planSpotsM r) (k : Int)).length := List.length_map ..
  refine zcu ?_; refine zaT ?_; refine G.condD rfl (fun hc => ?_) (fun hc => ?_)
  · refine G.skip ?_
    refine G.thenN (G.seq (G.block ?_)); refine zaN ?_; refine G.v (rv_loadW 8 rfl rfl rfl) rfl (G.v (rv_loadW 4 rfl rfl rfl) rfl ?_); refine zaM ?_; refine G.op (og_callV rfl rfl (fun w hh => (palletGram_any (r := r) (cs := cs) (ss := planSpotsM r) (z := (k : Int)) w (hdr.2.1 _ (by exact Rd.owned 11 rfl _ hh)) (by exact Rd.owned 10 rfl _ hh) (by exact Rd.owned 9 rfl _ hh) (by exact Rd.owned 6 rfl _ hh) (by exact Subs.owned 5 rfl _ hh) zaJ zb h48b).mono (congrArg (fun z => Value.int .i64 (palletGramM r z (planSpotsM r) (k : Int))) hcs))) rfl (fun _ _ => ?_); refine zcd ?_; refine zfC ?_; refine G.v (rv_loadW 4 rfl rfl rfl) rfl ?_; refine zaM ?_; refine G.op (og_callF1 rfl rfl (fun w hh => onPallet_any (cs := cs) (ss := planSpotsM r) (z := (k : Int)) w (by exact Rd.owned 6 rfl _ hh) zaJ zb)) rfl ?_; rintro vl hvl; try dsimp only
    refine zaL ?_; refine zb8 ?_; refine G.loopK (ι := Nat) (ks := [3, 4, 8, 9, 10, 11]) (fun i => [(12, .int .i64 ((i + 1 : Nat) : Int))]) (fun _ => []) (fun i => i ≤ (onPalletM cs.length (planSpotsM r) (k : Int)).length) (fun i => (onPalletM cs.length (planSpotsM r) (k : Int)).length - i) 0 (.cons rfl (.cons rfl (.cons rfl (.cons rfl (.cons rfl (.cons rfl (.nil))))))) rfl ?_ ?_ ?_
    exact Nat.zero_le _
    exact ⟨rfl, trivial⟩
    rintro i hi
    by_cases hlt : i + 1 < (onPalletM cs.length (planSpotsM r) (k : Int)).length
    case' pos => (obtain ⟨a1, ha1⟩ := get_of_lt hlt; obtain ⟨a0, ha0⟩ := get_of_lt (l := onPalletM cs.length (planSpotsM r) (k : Int)) (k := 0) zb; obtain ⟨i1, j1, x1, x0, rfl, rfl, hx1, hx0, hgg⟩ := need_at hN hcs (List.mem_of_getElem? ha1) (List.mem_of_getElem? ha0); have he := get_map ha1 icell; have he0 := get_map ha0 icell; have he1 := get_map hx1 CartonM.cells; have he2 := get_map hx0 CartonM.cells)
    all_goals
     refine zcu ?_; refine zde ?_; refine zaT ?_; refine G.cond rfl (fun hc => ?_) (fun hc => ?_)
     · all_goals
        replace hc := of_decide_eq_true hc
        simp only [List.length_map] at hc
        try (exfalso; omega)
        all_goals
         refine za3 ?_; refine zeS ?_; refine GE.q 0 rfl za rfl (qg_runs (rv_field rfl)) rfl ?_; refine GE.q 1 rfl za rfl (qg_runs (rv_load1 5 rfl rfl rfl)) rfl ?_; refine zcO ?_; refine zbO ?_; refine GE.q 4 rfl za rfl (qg_runs (rv_indexH rfl rfl zg rfl zq)) rfl ?_; refine GE.q 5 rfl za rfl (qg_runs (rv_loadE rfl zg zq rfl)) rfl ?_; refine GE.q 6 rfl za rfl (qg_runs (rv_indexH rfl rfl zaj rfl (by exact he1))) rfl ?_; refine GE.q 7 rfl za rfl (qg_runs (rv_fieldE rfl)) rfl ?_; refine GE.q 8 rfl za rfl (qg_runs (rv_loadE rfl zaj (by exact he1) rfl)) rfl ?_; refine zeo ?_; refine GE.q 10 rfl za rfl (qg_runs (rv_load1 5 rfl rfl rfl)) rfl ?_; refine GE.ol 11 za rfl rfl (og_runs (rv_move rfl)) rfl zd (fun _ _ => ?_)
         refine GE.ol 12 za rfl rfl (og_runs (rv_indexH rfl rfl zg rfl (by exact he0))) rfl zd (fun _ _ => ?_); refine GE.ol 13 za rfl rfl (og_runs (rv_loadE rfl zg (by exact he0) rfl)) rfl zd (fun _ _ => ?_); refine GE.ol 14 za rfl rfl (og_runs (rv_indexH rfl rfl zaj rfl (by exact he2))) rfl zd (fun _ _ => ?_); refine GE.ol 15 za rfl rfl (og_runs (rv_fieldE rfl)) rfl zd (fun _ _ => ?_); refine GE.ol 16 za rfl rfl (og_runs (rv_loadE rfl zaj (by exact he2) rfl)) rfl zd (fun _ _ => ?_); refine GE.ol 17 za rfl rfl (og_runs (rv_neq rfl rfl)) rfl zd (fun _ _ => ?_); refine zbm ?_; refine G.cond rfl (fun hc => ?_) (fun hc => ?_)
         · all_goals
            replace hc := of_decide_eq_true hc
            exfalso; contradiction
         · all_goals
            replace hc := of_decide_eq_false hc
            all_goals
             refine zfL ?_; refine G.backK (i + 1) 0 rfl (.cons rfl (.cons rfl (.cons rfl (.cons rfl (.cons rfl (.cons rfl (.nil))))))) ?_ ?_ ?_
             exact ⟨congrArg (fun z => some (Value.int .i64 z)) zb, trivial⟩
             omega
             omega
     · all_goals
        replace hc := of_decide_eq_false hc
        simp only [List.length_map] at hc
        try (exfalso; omega)
        all_goals
         refine zcZ ?_; refine zaO ?_; refine G.backK (k + 1) 1 rfl (.cons rfl (.cons rfl (.cons rfl (.nil)))) ?_ ?_ ?_
         exact ⟨congrArg (fun z => some (Value.int .i64 z)) hofn.symm, rfl, trivial⟩
         omega
         omega
  · refine G.exit ?_
    refine G.thenX (G.thenX (G.inX (G.thenN ?_))); refine zf2 ?_; refine G.loopK (ι := Nat) (ks := [3, 4, 8, 9]) (fun i => [(13, .int .i64 (((cs.map Prod.fst).take i).map (grossM r)).sum), (14, .int .i64 (i : Int))]) (fun _ => []) (fun i => i ≤ cs.length) (fun i => cs.length - i) 0 (.cons rfl (.cons rfl (.cons rfl (.cons rfl (.nil))))) rfl ?_ ?_ ?_
    exact Nat.zero_le _
    exact ⟨rfl, rfl, trivial⟩
    rintro i hi
    have hgs2 := gross_sumIn (r := r) ((cs.map Prod.fst).take i) (fun c hc => h48b c (List.mem_of_mem_take hc))
    have hgl2 : ((cs.map Prod.fst).take i).length = i := (by rw [List.length_take, List.length_map]; omega)
    by_cases hlt2 : i < cs.length
    case' pos => (obtain ⟨b, hb⟩ := get_of_lt hlt2; have he := get_map hb CartonM.cells; have hb1 : (cs.map Prod.fst)[i]? = some b.1 := (by rw [List.getElem?_map, hb]; rfl); have hn := gross_next (r := r) hb1; have hbl9 := h48 b (List.mem_of_getElem? hb); have hgr := gross_in (r := r) (h48b b.1 (List.mem_of_getElem? hb1)))
    case' neg => (have hkn : k = n := zb; have hsum : onFirst r k = (((cs.map Prod.fst).take i).map (grossM r)).sum := (by rw [hkn, List.take_of_length_le zY, show cs.map Prod.fst = cartonsM r from hcs]; exact hN.sum); have hof3 : onFirst r k ≤ r.pal.g * (n : Int) := (by rw [← hkn]; exact hof.2.1))
    all_goals
     refine zeA ?_; refine za1 ?_; refine G.v (rv_load1 4 rfl rfl rfl) rfl (G.v (rv_len rfl zaa) rfl ?_); refine zaT ?_; refine G.cond rfl (fun hc => ?_) (fun hc => ?_)
     · all_goals
        replace hc := of_decide_eq_true hc
        simp only [List.length_map] at hc
        try (exfalso; omega)
        all_goals
         refine za3 ?_; refine G.drawL [9] ?_; refine zes ?_; refine GE.q 1 rfl za rfl (qg_runs (rv_loadW 8 rfl rfl rfl)) rfl ?_; refine zdL ?_; refine GE.q 3 rfl za rfl (qg_runs (rv_load1 4 rfl rfl rfl)) rfl ?_; refine GE.ol 4 za rfl rfl (og_runs (rv_move rfl)) rfl zd (fun _ _ => ?_); refine GE.ol 5 za rfl rfl (og_runs (rv_indexH rfl rfl zaa rfl zq)) rfl zd (fun _ _ => ?_); refine GE.ol 6 za rfl rfl (og_runs (rv_loadEW rfl zaa zq rfl)) rfl zd (fun _ _ => ?_); refine GE.ol 7 za rfl rfl (og_callV rfl rfl (fun w hh => gross_any (r := r) b w (hdr.2.1 _ (by exact Rd.owned 11 rfl _ hh)) (by exact Rd.owned 10 rfl _ hh) (by exact Rd.owned 9 rfl _ hh) (Subs.at (by exact Subs.owned 5 rfl _ hh) hb) zb)) rfl zd (fun _ _ => ?_); refine GE.ol 8 za rfl rfl (og_runs (rv_addB rfl rfl zb zb)) rfl zd (fun _ _ => ?_)
         refine zfX (fun _ _ => ?_); refine zb3 ?_; refine zaO ?_; refine G.backK (i + 1) 0 rfl (.cons rfl (.cons rfl (.cons rfl (.cons rfl (.nil))))) ?_ ?_ ?_
         exact ⟨congrArg (fun z => some (Value.int .i64 z)) hn.symm, rfl, trivial⟩
         exact hlt2
         omega
     · all_goals
        replace hc := of_decide_eq_false hc
        simp only [List.length_map] at hc
        try (exfalso; omega)
        all_goals
         refine zaW ?_; refine zaZ ?_; refine G.v (rv_eql rfl rfl) rfl ?_; refine zaM ?_
         all_goals (((with_reducible refine G.gP rfl rfl (fun hg => ?_) (fun hg => ?_)) <;> (try exact Bool.noConfusion hg) <;> (try (exfalso; (have hq := of_decide_eq_false hg; omega))) <;> ((refine zbr ?_))))
         all_goals (((refine zaQ ?_; (refine za1 ?_))))
         all_goals (((refine zaQ ?_; (refine za1 ?_))))
         all_goals (((refine zaQ ?_; (refine G.v (rv_load1 8 rfl rfl rfl) rfl ?_))))
         all_goals (((refine zaQ ?_; refine G.v (rv_mulB rfl rfl zb zb) rfl ?_)))
         all_goals (((refine zbr ?_)))
         all_goals (((refine zaQ ?_; refine zdW ?_)))
         all_goals ((refine zba ?_))
         all_goals (refine zaM ?_)
         all_goals (((with_reducible refine G.gP rfl rfl (fun hg => ?_) (fun hg => ?_)) <;> (try exact Bool.noConfusion hg) <;> (try (exfalso; (have hq := of_decide_eq_false hg; omega))) <;> ((refine zbr ?_))))
         all_goals (((refine zaQ ?_; (refine G.v (rv_loadW 8 rfl rfl rfl) rfl ?_))))
         all_goals (((refine zaQ ?_; (refine G.op (og_callF2 rfl rfl (fun w hh => groupsOf_any (r := r) w (hdr.2.1 _ (by exact Rd.owned 11 rfl _ hh)) (by exact Rd.owned 10 rfl _ hh) (by exact Rd.owned 9 rfl _ hh))) rfl ?_; rintro ⟨vg, gs⟩ ⟨hvg, hgs⟩; try dsimp only))))
         all_goals (try (have hgl : (gs.map gcell).length = (groupsOfM r).length := (by rw [← show gs.map Prod.fst = groupsOfM r from hgs]; simp)))
         all_goals (((refine zaQ ?_; refine zc0 ?_)))
         all_goals (((refine zaQ ?_; refine zdW ?_)))
         all_goals ((refine zba ?_))
         all_goals (refine zaM ?_)
         all_goals (((with_reducible refine G.gP rfl rfl (fun hg => ?_) (fun hg => ?_)) <;> (try exact Bool.noConfusion hg) <;> (try (exfalso; (have hq := of_decide_eq_false hg; omega))) <;> ((refine zbr ?_))))
         all_goals (((refine zaQ ?_; (refine za1 ?_))))
         all_goals (((refine zaQ ?_; (refine G.v (rv_load1 6 rfl rfl rfl) rfl ?_))))
         all_goals (((refine zaQ ?_; refine G.v (rv_len rfl (by exact Rd.owned 8 rfl)) rfl ?_)))
         all_goals (((refine zaQ ?_; refine G.v (rv_leq rfl rfl) rfl ?_)))
         all_goals ((refine zba ?_))
         all_goals (refine zcD ?_)
         all_goals
          refine zc2 ?_
          exact G.retFV rfl rfl (by (congr 1; exact decide_eq_true zb))
end Go.Proofs.YtglpgohilfoecaaGreat
