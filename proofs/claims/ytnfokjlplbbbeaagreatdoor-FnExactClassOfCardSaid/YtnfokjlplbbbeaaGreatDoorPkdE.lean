/-
  Texts of this proof, one behind the other: Draws, DrawR, RdS, RdT, ClsO, Open, LaidF.
-/
import Derived.Test.YtnfokjlplbbbeaaGreatDoorPkdA
import Derived.Test.YtnfokjlplbbbeaaGreatDoorPkdC
import Derived.Test.YtnfokjlplbbbeaaGreatDoorPkdD
import Derived.ProofKit
import Derived.OpenShut
import Derived.ShutString
import Derived.ChangeOld
import Derived.Deep.Slices
import Derived.Deep.Fields
import Derived.Test.YtnfokjlplbbbeaaGreatDoorRows
import Derived.Test.YtnfokjlplbbbeaaGreatDoorTie
import Derived.Test.YtnfokjlplbbbeaaGreatDoorCards
import Derived.SizedLaws
import Derived.ChangeSame
import Derived.ChangeVars
import Derived.JoinedOf
import Derived.JoinedAt
import Derived.RowKit
import Derived.RowKitTokens
import Derived.LaidLaws
import Derived.LaidHandle
import Derived.LaidMore
import Derived.SevenTiedAt
import Derived.Stop.Joined
import Derived.Stop.LaidErr
import Derived.Lib.LaidTab

/-
  What the draws hand out: numbers in bounds, a cursor that is moved.
-/
namespace Go.Proofs.YtnfokjlplbbbeaaGreatDoor
open Go.RowKit
attribute [local irreducible] Go.wpList Go.Code.wp Go.Exit.then Go.Exit.inBlock Go.bodyPost Go.Calls pE pB G RunsV FnV Fn FnM
set_option maxRecDepth 100000
set_option maxHeartbeats 4000000

def bcell (z : Int) : List Value := [.int .u8 z]
end Go.Proofs.YtnfokjlplbbbeaaGreatDoor

/-
  Orders that the draws hand out.
-/
namespace Go.Proofs.YtnfokjlplbbbeaaGreatDoor
open Go.RowKit
theorem G.cut {P : Program} {n : Nat} {w0 : World} {fr : Fr} {H : List Ch} {Q : Exit → Act → World → Prop} {K : Act → World → Prop} {ι : Type} {c : Code} {ks : List Nat} {gr : Fr} {H0 : List Ch} (ch : ι → Fr) (hs : ι → List Ch) (pI : ι → Prop) (m0 : Nat) (hk : Keep fr ks gr) (hH0 : H.drop m0 = H0)
    (h1 : G n w0 fr H (c.wp P (Exit.then (fun a w => ∃ i, pI i ∧ Rep n a (ch i ++ gr) ∧ HeapOk w0 w (hs i ++ H0)) Q))) (h2 : ∀ i, pI i → G n w0 (ch i ++ gr) (hs i ++ H0) (Exit.then K Q .normal)) : G n w0 fr H (c.wp P (Exit.then K Q)) := by
  intro a w hr hh
  refine wp_mono (h1 a w hr hh) fun e a' w' hq => ?_
  cases e with
  | normal => obtain ⟨i, h3, h4, h5⟩ := hq; exact h2 i h3 a' w' h4 h5
  | exit id => exact hq
  | goto l => exact hq
  | ret => exact hq
  | panic ch => exact hq
  | outgrown => exact hq
theorem G.cutEnd {n : Nat} {w0 : World} {fr : Fr} {H : List Ch} {Q : Exit → Act → World → Prop} {ι : Type} {ks : List Nat} {gr : Fr} {H0 : List Ch} {ch : ι → Fr} {hs : ι → List Ch} {pI : ι → Prop} (i' : ι) (m : Nat) (hH : H.drop m = hs i' ++ H0) (hk : Keep fr ks gr) (hc : Sub (ch i') fr) (hp : pI i') :
    G n w0 fr H (Exit.then (fun a' w' => ∃ i', pI i' ∧ Rep n a' (ch i' ++ gr) ∧ HeapOk w0 w' (hs i' ++ H0)) Q .normal) :=
  fun _ _ hr hh => ⟨i', hp, hr.sub (Sub.append hc hk.sub), hH ▸ hh.drop m⟩
attribute [local irreducible] Go.wpList Go.Code.wp Go.Exit.then Go.Exit.inBlock Go.bodyPost Go.Calls pE pB G RunsV FnV Fn FnM
set_option maxRecDepth 100000
set_option maxHeartbeats 4000000
/-- Drawn types have small numbers and cost little. -/
def TyFar (l : List TypeM) : Prop := ∀ t ∈ l, t.id ≤ 20 ∧ t.cost ≤ 20
theorem TyFar.one {t : TypeM} (a : t.id ≤ 20) (b : t.cost ≤ 20) : TyFar [t] := fun s hs => by
  rw [List.mem_singleton.1 hs]; exact ⟨a, b⟩
end Go.Proofs.YtnfokjlplbbbeaaGreatDoor

/-
  An order read: the reference's way.
-/
namespace Go.Proofs.YtnfokjlplbbbeaaGreatDoor
open Go.RowKit Go.Lib
/-- The numbers of the line at a place, where it is such a line. -/
def l4M (ls : List (List UInt8)) (k : Nat) (wd : List UInt8) (n : Nat) : Option (List Int) := (ls[k]?).bind (wordsM wd n)
theorem l4_at {ls : List (List UInt8)} {k : Nat} {q : List UInt8} (h : ls[k]? = some q) (wd : List UInt8) (n : Nat) : l4M ls k wd n = wordsM wd n q := by rw [l4M, h]; rfl
theorem l4_out {ls : List (List UInt8)} {k : Nat} (h : ¬ k < ls.length) (wd : List UInt8) (n : Nat) : l4M ls k wd n = none := by rw [l4M, List.getElem?_eq_none (by omega)]; rfl
theorem l4_len {ls : List (List UInt8)} {k : Nat} {wd : List UInt8} {n : Nat} {x : List Int} (h : l4M ls k wd n = some x) : x.length = n ∧ k < ls.length ∧ ∃ q, ls[k]? = some q ∧ wordsM wd n q = some x := by
  rw [l4M] at h
  cases hq : ls[k]? with
  | none => rw [hq] at h; cases h
  | some q => rw [hq] at h; exact ⟨words_len h, (List.getElem?_eq_some_iff.1 hq).1, q, rfl, h⟩
theorem drop_at {ls : List (List UInt8)} {k : Nat} {q : List UInt8} (h : ls[k]? = some q) : ls.drop k = q :: ls.drop (k + 1) := by
  have hk : k < ls.length := (List.getElem?_eq_some_iff.1 h).1
  rw [List.drop_eq_getElem_cons hk, (List.getElem?_eq_some_iff.1 h).2]
/-- What holds of a state of the reading, where f reads the rest. -/
def OrdS (f : ReqM → List (List UInt8) → Option ReqM) (ls : List (List UInt8)) (x : Nat × ReqM × Value × Value × Value × Value) : Prop :=
  x.1 ≤ ls.length ∧ (x.2.1.pairs.length ≤ x.1 ∧ x.2.1.types.length ≤ x.1 ∧ x.2.1.items.length ≤ x.1) ∧ f x.2.1 (ls.drop x.1) = goWay ls ∧ x.2.2.1.oneCell' = true ∧ x.2.2.2.1.oneCell' = true ∧ x.2.2.2.2.1.oneCell' = true ∧ x.2.2.2.2.2.oneCell' = true
section
variable {ls : List (List UInt8)} {k : Nat} {r : ReqM} {pv tv iv vn pv2 vn2 : Value} {n : List Int}
theorem drop_none {wd : List UInt8} {c : Nat} (h : l4M ls k wd c = none) : ls.drop k = [] ∨ ∃ q, ls.drop k = q :: ls.drop (k + 1) ∧ wordsM wd c q = none := by
  cases hq : ls[k]? with
  | none => exact .inl (List.drop_eq_nil_of_le (by have := List.getElem?_eq_none_iff.1 hq; omega))
  | some q => exact .inr ⟨q, drop_at hq, by rw [← l4_at hq]; exact h⟩
theorem OrdS.nextWith (h : OrdS goWith ls (k, r, pv, tv, iv, vn)) (hn : l4M ls k wWith 2 = some n) (h1 : pv2.oneCell' = true) (h2 : vn2.oneCell' = true) : OrdS goWith ls (k + 1, putWith r n, pv2, tv, iv, vn2) := by
  obtain ⟨a1, ⟨a2, a3, a4⟩, a5, g1, g2, g3, _⟩ := h
  obtain ⟨_, b1, q, b2, b3⟩ := l4_len hn
  dsimp only at a1 a2 a3 a4 a5 g1 g2 g3
  rw [drop_at b2, goWith, b3] at a5
  refine ⟨by dsimp only; omega, ⟨?_, ?_, ?_⟩, a5, h1, g2, g3, h2⟩
  all_goals dsimp only [putWith]
  all_goals first | omega | (rw [List.length_append, List.length_singleton]; omega)
theorem OrdS.endWith (h : OrdS goWith ls (k, r, pv, tv, iv, vn)) (hn : l4M ls k wWith 2 = none) (h2 : vn2.oneCell' = true) : OrdS goTypes ls (k, r, pv, tv, iv, vn2) := by
  obtain ⟨a1, a2, a5, g1, g2, g3, _⟩ := h
  refine ⟨a1, a2, ?_, g1, g2, g3, h2⟩
  dsimp only at a5 ⊢
  rw [← a5]
  rcases drop_none hn with e | ⟨q, e, e2⟩
  · rw [e]; rfl
  · rw [e, goWith, e2]
theorem OrdS.nextTypes (h : OrdS goTypes ls (k, r, pv, tv, iv, vn)) (hn : l4M ls k wType 7 = some n) (h1 : pv2.oneCell' = true) (h2 : vn2.oneCell' = true) : OrdS goTypes ls (k + 1, putType r n, pv, pv2, iv, vn2) := by
  obtain ⟨a1, ⟨a2, a3, a4⟩, a5, g1, g2, g3, _⟩ := h
  obtain ⟨_, b1, q, b2, b3⟩ := l4_len hn
  dsimp only at a1 a2 a3 a4 a5 g1 g2 g3
  rw [drop_at b2, goTypes, b3] at a5
  refine ⟨by dsimp only; omega, ⟨?_, ?_, ?_⟩, a5, g1, h1, g3, h2⟩
  all_goals dsimp only [putType]
  all_goals first | omega | (rw [List.length_append, List.length_singleton]; omega)
theorem OrdS.endTypes (h : OrdS goTypes ls (k, r, pv, tv, iv, vn)) (hn : l4M ls k wType 7 = none) (h2 : vn2.oneCell' = true) : OrdS goMaster ls (k, r, pv, tv, iv, vn2) := by
  obtain ⟨a1, a2, a5, g1, g2, g3, _⟩ := h
  refine ⟨a1, a2, ?_, g1, g2, g3, h2⟩
  dsimp only at a5 ⊢
  rw [← a5]
  rcases drop_none hn with e | ⟨q, e, e2⟩
  · rw [e]; rfl
  · rw [e, goTypes, e2]
theorem OrdS.nextItems (h : OrdS goItems ls (k, r, pv, tv, iv, vn)) (hn : l4M ls k wItem 7 = some n) (h1 : pv2.oneCell' = true) (h2 : vn2.oneCell' = true) : OrdS goItems ls (k + 1, putItem r n, pv, tv, pv2, vn2) := by
  obtain ⟨a1, ⟨a2, a3, a4⟩, a5, g1, g2, g3, _⟩ := h
  obtain ⟨_, b1, q, b2, b3⟩ := l4_len hn
  dsimp only at a1 a2 a3 a4 a5 g1 g2 g3
  rw [drop_at b2, goItems, b3] at a5
  refine ⟨by dsimp only; omega, ⟨?_, ?_, ?_⟩, a5, g1, g2, h1, h2⟩
  all_goals dsimp only [putItem]
  all_goals first | omega | (rw [List.length_append, List.length_singleton]; omega)
theorem OrdS.master (h : OrdS goMaster ls (k, r, pv, tv, iv, vn)) (hn : l4M ls k wMaster 1 = some n) (h2 : vn2.oneCell' = true) : OrdS goItems ls (k + 1, putMaster r n, pv, tv, iv, vn2) := by
  obtain ⟨a1, ⟨a2, a3, a4⟩, a5, g1, g2, g3, _⟩ := h
  obtain ⟨_, b1, q, b2, b3⟩ := l4_len hn
  dsimp only at a1 a2 a3 a4 a5 g1 g2 g3
  rw [drop_at b2, goMaster, b3] at a5
  exact ⟨by dsimp only; omega, ⟨by dsimp only [putMaster]; omega, by dsimp only [putMaster]; omega, by dsimp only [putMaster]; omega⟩, a5, g1, g2, g3, h2⟩
theorem OrdS.noMaster (h : OrdS goMaster ls (k, r, pv, tv, iv, vn)) (hn : l4M ls k wMaster 1 = none) : goWay ls = none := by
  obtain ⟨_, _, a5, _⟩ := h
  dsimp only at a5
  rw [← a5]
  rcases drop_none hn with e | ⟨q, e, e2⟩
  · rw [e]; rfl
  · rw [e, goMaster, e2]
theorem OrdS.endItems (h : OrdS goItems ls (k, r, pv, tv, iv, vn)) (hn : l4M ls k wItem 7 = none) : goWay ls = if k < ls.length then none else some r := by
  obtain ⟨a1, _, a5, _⟩ := h
  dsimp only at a1 a5
  rw [← a5]
  rcases drop_none hn with e | ⟨q, e, e2⟩
  · rw [e, if_neg (by have := List.drop_eq_nil_iff.1 e; omega), goItems]
  · rw [e, goItems, e2, if_pos]
    have h3 : (ls.drop k).length = ls.length - k := List.length_drop
    rw [e, List.length_cons] at h3; omega
/-- The first three lines. -/
theorem way_none (h : ¬ (1 ≤ ls.length ∧ (ls[0]? = some wWayF ∨ ls[0]? = some wWayN))) : goWay ls = none := by
  cases ls with
  | nil => rfl
  | cons l ls =>
    rw [goWay, if_neg (fun e => h ⟨by simp, .inl (by rw [e]; rfl)⟩), if_neg (fun e => h ⟨by simp, .inr (by rw [e]; rfl)⟩)]
theorem way_pallet (h : ls[0]? = some wWayF ∧ r = reqZ ∨ ls[0]? = some wWayN ∧ r = { reqZ with way := 1 }) : goWay ls = match l4M ls 1 wPallet 4 with
    | some n => goClasses (putPallet r n) (ls.drop 2)
    | none => none := by
  have hg : goWay ls = goPallet r (ls.drop 1) := by
    rcases h with ⟨h, rfl⟩ | ⟨h, rfl⟩
    · have e := drop_at h
      rw [List.drop_zero] at e
      rw [e, goWay, if_pos rfl]; rfl
    · have e := drop_at h
      rw [List.drop_zero] at e
      rw [e, goWay, if_neg (by decide), if_pos rfl]; rfl
  rw [hg]
  cases hp : l4M ls 1 wPallet 4 with
  | none =>
    rcases drop_none hp with e | ⟨q, e, e2⟩
    · rw [e]; rfl
    · rw [e, goPallet, e2]
  | some n =>
    obtain ⟨_, _, q, b2, b3⟩ := l4_len hp
    rw [drop_at b2, goPallet, b3]
theorem go_classes (r : ReqM) : goClasses r (ls.drop 2) = match l4M ls 2 wClasses 1 with
    | some n => goWith (putClasses r n) (ls.drop 3)
    | none => none := by
  cases hp : l4M ls 2 wClasses 1 with
  | none =>
    rcases drop_none hp with e | ⟨q, e, e2⟩
    · rw [e]; rfl
    · rw [e, goClasses, e2]
  | some n =>
    obtain ⟨_, _, q, b2, b3⟩ := l4_len hp
    rw [drop_at b2, goClasses, b3]
end
theorem none_of {o : Option (List Int)} (h : o.isSome = false) : o = none := Option.not_isSome_iff_eq_none.1 (by rw [h]; decide)
theorem keep6O {n : Nat} {w0 : World} {fr : Fr} {H : List Ch} (m : Nat) {c1 c2 c3 c4 c5 c6 : Ch} {J : List Ch} {K : Act → World → Prop} (hH : H = c1 :: c2 :: c3 :: c4 :: c5 :: c6 :: J) (h : G n w0 fr (c1 :: c2 :: c3 :: c4 :: c5 :: c6 :: J.drop m) K) : G n w0 fr H K := G.heap (fun w hh => by subst hH; exact hh.sublist (List.Sublist.cons_cons _ (List.Sublist.cons_cons _ (List.Sublist.cons_cons _ (List.Sublist.cons_cons _ (List.Sublist.cons_cons _ (List.Sublist.cons_cons _ (List.drop_sublist m J)))))))) h
attribute [local irreducible] Go.wpList Go.Code.wp Go.Exit.then Go.Exit.inBlock Go.bodyPost Go.Calls pE pB G RunsV FnV Fn FnM
set_option maxRecDepth 100000
set_option maxHeartbeats 4000000
theorem l4Nums_any {wd l : List UInt8} {n : Nat} (hl : l.length ≤ 1048576) (hn : n ≤ 1000) (w : World) : Fn Tryz.prog 76 [sv l, sv wd, .int .i64 (n : Int)] w (fun v : Value => v.oneCell' = true) (fun v => .tuple #[v, .bool (wordsM wd n l).isSome]) (fun v => [.row v 3 1 (((wordsM wd n l).getD []).map icell)]) := by
  have hpl := parts_len 32 l
  obtain ⟨p, ps, hpp⟩ : ∃ p ps, partsM 32 l = p :: ps := (by cases h : partsM 32 l with | nil => exact absurd h (parts_ne 32 l) | cons p ps => exact ⟨p, ps, rfl⟩)
  have hwp := words_parts (wd := wd) hpp n
  rw [hpp] at hpl
  have hpl2 : (((p :: ps)).map scell).length = ps.length + 1 := (by rw [List.length_map, List.length_cons])
  have hpl3 : (p :: ps).length = ps.length + 1 := List.length_cons ..
  have he0 : ((p :: ps).map scell)[0]? = some (scell p) := rfl
  refine Fn.of (n := 51) Tryz.func76 rfl rfl ?_; refine G.seq (G.region (G.v (rv_assign rfl) rfl (G.v (rv_assign rfl) rfl (G.done (G.thenN (G.seq (G.region (G.v (rv_move rfl) rfl ?_))))))))
  (refine G.op (og_callF1 rfl rfl (fun w hh => sparts_any (b := 32) hl w)) rfl ?_; rintro vp hvp; try dsimp only)
  (first | refine G.frontR0 vp rfl ?_ | refine G.frontR1 vp rfl ?_ | refine G.frontR2 vp rfl ?_ | refine G.frontR3 vp rfl ?_ | refine G.frontR4 vp rfl ?_ | refine G.frontR5 vp rfl ?_ | refine G.frontR6 vp rfl ?_ | refine G.frontR7 vp rfl ?_ | refine G.frontR8 vp rfl ?_ | refine G.frontR9 vp rfl ?_ | refine G.frontR10 vp rfl ?_ | refine G.frontR11 vp rfl ?_ | refine G.frontR12 vp rfl ?_ | refine G.frontR13 vp rfl ?_)
  refine G.rowEq ((p :: ps).map scell) (by rw [hpp]) rfl ?_; refine G.v (rv_assign rfl) rfl (G.done (G.thenN (G.seq (G.region ?_)))); refine G.op (og_lit rfl .nil rfl rfl rfl rfl rfl rfl) rfl (fun vl _ => ?_); refine G.know (fun w hw => by first | exact (Rd.owned 0 rfl (v := vl) w hw).one_ | exact (Rd.owned 1 rfl (v := vl) w hw).one_ | exact (Rd.owned 2 rfl (v := vl) w hw).one_ | exact (Rd.owned 3 rfl (v := vl) w hw).one_ | exact (Rd.owned 4 rfl (v := vl) w hw).one_ | exact (Rd.owned 5 rfl (v := vl) w hw).one_) (fun hovl => ?_); refine G.v (rv_assign rfl) rfl (G.done (G.thenN (G.seq (G.seq (G.region (G.v (rv_move rfl) rfl ?_))))))
  (first | refine G.v (rv_indexH (k := 0) rfl rfl (by first | exact Rd.owned 0 rfl | exact Rd.owned 1 rfl | exact Rd.owned 2 rfl) rfl he0) rfl ?_ | refine G.v (rv_indexH rfl rfl (by first | exact Rd.stays (by assumption) | exact Rd.owned 0 rfl | exact Rd.owned 1 rfl | exact Rd.owned 2 rfl | exact Rd.owned 3 rfl | exact Rd.owned 4 rfl | exact Rd.owned 5 rfl | exact Rd.owned 6 rfl | exact Rd.owned 7 rfl) rfl (by first | exact he0 | exact he)) rfl ?_ | refine G.v (rv_index rfl rfl (by first | exact Rd.stays (by assumption) | exact Rd.owned 0 rfl | exact Rd.owned 1 rfl | exact Rd.owned 2 rfl | exact Rd.owned 3 rfl | exact Rd.owned 4 rfl | exact Rd.owned 5 rfl | exact Rd.owned 6 rfl | exact Rd.owned 7 rfl) rfl (by assumption)) rfl ?_)
  refine G.v (rv_loadE rfl (by first | exact Rd.stays (by assumption) | exact Rd.owned 0 rfl | exact Rd.owned 1 rfl | exact Rd.owned 2 rfl | exact Rd.owned 3 rfl | exact Rd.owned 4 rfl | exact Rd.owned 5 rfl | exact Rd.owned 6 rfl | exact Rd.owned 7 rfl) (by first | exact he0 | exact he) rfl) rfl ?_; refine G.v (rv_move rfl) rfl ?_; refine G.v (rv_neqS rfl rfl) rfl ?_; refine G.v (rv_move rfl) rfl ?_
  all_goals (((with_reducible refine G.gP rfl rfl (fun hg => ?_) (fun hg => ?_)) <;> (try exact Bool.noConfusion hg) <;> (try (exfalso; first | (have hq := of_decide_eq_false hg; omega) | (have hq := of_decide_eq_true hg; omega); done)) <;> (first | (refine G.gY rfl rfl ?_; refine G.v (rv_move rfl) rfl ?_) | refine G.gN rfl rfl rfl ?_ | refine G.gU rfl rfl rfl ?_)))
  all_goals ((first | (refine G.gY rfl rfl ?_; refine G.v (rv_lenE rfl (by first | exact Rd.owned 0 rfl | exact Rd.owned 1 rfl | exact Rd.owned 2 rfl) hpl2) rfl ?_) | refine G.gN rfl rfl rfl ?_ | refine G.gU rfl rfl rfl ?_))
  all_goals ((first | (refine G.gY rfl rfl ?_; refine G.v (rv_move rfl) rfl ?_) | refine G.gN rfl rfl rfl ?_ | refine G.gU rfl rfl rfl ?_))
  all_goals ((first | (refine G.gY rfl rfl ?_; (first | refine G.v (rv_incr rfl rfl (by omega)) rfl ?_ | refine G.v (rv_addB rfl rfl (by omega) (by omega)) rfl ?_)) | refine G.gN rfl rfl rfl ?_ | refine G.gU rfl rfl rfl ?_))
  all_goals ((first | (refine G.gY rfl rfl ?_; refine G.v (rv_neq rfl rfl) rfl ?_) | refine G.gN rfl rfl rfl ?_ | refine G.gU rfl rfl rfl ?_))
  all_goals ((first | refine G.v (rv_pickT rfl rfl) rfl ?_ | refine G.v (rv_pickF rfl rfl) rfl ?_))
  all_goals
   refine G.done (G.thenN ?_); refine G.cond rfl (fun hc => ?_) (fun hc => ?_)
   · try exact Bool.noConfusion hc
     all_goals
      try replace hc := of_decide_eq_true hc
      try (exfalso; first | contradiction | omega)
      all_goals
       refine G.seq (G.region (G.v (rv_move rfl) rfl (G.v (rv_assign rfl) rfl (G.v (rv_assign rfl) rfl (G.done (G.thenN (G.ret (G.thenR ?_))))))))
       first | (have hno : wordsM wd n l = none := hwp.trans (if_neg (fun e => of_decide_eq_true hg e.1)); (first | refine G.frontR0 vl rfl ?_ | refine G.frontR1 vl rfl ?_ | refine G.frontR2 vl rfl ?_ | refine G.frontR3 vl rfl ?_ | refine G.frontR4 vl rfl ?_ | refine G.frontR5 vl rfl ?_ | refine G.frontR6 vl rfl ?_ | refine G.frontR7 vl rfl ?_ | refine G.frontR8 vl rfl ?_ | refine G.frontR9 vl rfl ?_ | refine G.frontR10 vl rfl ?_ | refine G.frontR11 vl rfl ?_ | refine G.frontR12 vl rfl ?_ | refine G.frontR13 vl rfl ?_); exact G.retL vl hovl rfl (.cons (.tmp rfl) (.cons (.tmp rfl) .nil)) (by rw [hno]; rfl) (fun w hh => by rw [hno]; exact hh.sublist (by repeat (first | exact List.Sublist.refl _ | refine List.Sublist.cons_cons _ ?_ | refine List.Sublist.cons _ ?_)))) | (have hno : wordsM wd n l = none := hwp.trans (if_neg (fun e => by omega)); (first | refine G.frontR0 vl rfl ?_ | refine G.frontR1 vl rfl ?_ | refine G.frontR2 vl rfl ?_ | refine G.frontR3 vl rfl ?_ | refine G.frontR4 vl rfl ?_ | refine G.frontR5 vl rfl ?_ | refine G.frontR6 vl rfl ?_ | refine G.frontR7 vl rfl ?_ | refine G.frontR8 vl rfl ?_ | refine G.frontR9 vl rfl ?_ | refine G.frontR10 vl rfl ?_ | refine G.frontR11 vl rfl ?_ | refine G.frontR12 vl rfl ?_ | refine G.frontR13 vl rfl ?_); exact G.retL vl hovl rfl (.cons (.tmp rfl) (.cons (.tmp rfl) .nil)) (by rw [hno]; rfl) (fun w hh => by rw [hno]; exact hh.sublist (by repeat (first | exact List.Sublist.refl _ | refine List.Sublist.cons_cons _ ?_ | refine List.Sublist.cons _ ?_)))) | (have hno : wordsM wd n l = none := (hwp.trans (if_pos ⟨hpw, hpn⟩)).trans (nums_no (List.mem_of_getElem? hq) (by simpa using hc)); (first | refine G.frontR0 vz rfl ?_ | refine G.frontR1 vz rfl ?_ | refine G.frontR2 vz rfl ?_ | refine G.frontR3 vz rfl ?_ | refine G.frontR4 vz rfl ?_ | refine G.frontR5 vz rfl ?_ | refine G.frontR6 vz rfl ?_ | refine G.frontR7 vz rfl ?_ | refine G.frontR8 vz rfl ?_ | refine G.frontR9 vz rfl ?_ | refine G.frontR10 vz rfl ?_ | refine G.frontR11 vz rfl ?_ | refine G.frontR12 vz rfl ?_ | refine G.frontR13 vz rfl ?_); exact G.retL vz hovz rfl (.cons (.tmp rfl) (.cons (.tmp rfl) .nil)) (by rw [hno]; rfl) (fun w hh => by rw [hno]; exact hh.sublist (by repeat (first | exact List.Sublist.refl _ | refine List.Sublist.cons_cons _ ?_ | refine List.Sublist.cons _ ?_)))) | (have hyes : wordsM wd n l = some ns := (hwp.trans (if_pos ⟨hpw, hpn⟩)).trans hnA; (first | refine G.frontR0 v rfl ?_ | refine G.frontR1 v rfl ?_ | refine G.frontR2 v rfl ?_ | refine G.frontR3 v rfl ?_ | refine G.frontR4 v rfl ?_ | refine G.frontR5 v rfl ?_ | refine G.frontR6 v rfl ?_ | refine G.frontR7 v rfl ?_ | refine G.frontR8 v rfl ?_ | refine G.frontR9 v rfl ?_ | refine G.frontR10 v rfl ?_ | refine G.frontR11 v rfl ?_ | refine G.frontR12 v rfl ?_ | refine G.frontR13 v rfl ?_); exact G.retL v hov rfl (.cons (.tmp rfl) (.cons (.tmp rfl) .nil)) (by rw [hyes]; rfl) (fun w hh => by rw [hyes]; exact hh.sublist (by repeat (first | exact List.Sublist.refl _ | refine List.Sublist.cons_cons _ ?_ | refine List.Sublist.cons _ ?_))))
   · try exact Bool.noConfusion hc
     all_goals
      try replace hc := of_decide_eq_false hc
      try (exfalso; first | contradiction | omega)
      all_goals
       refine G.skip (G.thenN (G.seq (G.seq (G.region (G.v (rv_assign rfl) rfl (G.done (G.thenN (G.block ?_))))))))
       -- loop 0: turned [9, 10], kept [8]
       have hpw : p = wd := (by first | exact Decidable.not_not.1 (of_decide_eq_false (by assumption)) | simp_all); have hpn : ps.length = n := (by omega)
       (first | refine G.frontR0 vl rfl ?_ | refine G.frontR1 vl rfl ?_ | refine G.frontR2 vl rfl ?_ | refine G.frontR3 vl rfl ?_ | refine G.frontR4 vl rfl ?_ | refine G.frontR5 vl rfl ?_ | refine G.frontR6 vl rfl ?_ | refine G.frontR7 vl rfl ?_ | refine G.frontR8 vl rfl ?_ | refine G.frontR9 vl rfl ?_ | refine G.frontR10 vl rfl ?_ | refine G.frontR11 vl rfl ?_ | refine G.frontR12 vl rfl ?_ | refine G.frontR13 vl rfl ?_)
       (first | refine G.frontR0 vp rfl ?_ | refine G.frontR1 vp rfl ?_ | refine G.frontR2 vp rfl ?_ | refine G.frontR3 vp rfl ?_ | refine G.frontR4 vp rfl ?_ | refine G.frontR5 vp rfl ?_ | refine G.frontR6 vp rfl ?_ | refine G.frontR7 vp rfl ?_ | refine G.frontR8 vp rfl ?_ | refine G.frontR9 vp rfl ?_ | refine G.frontR10 vp rfl ?_ | refine G.frontR11 vp rfl ?_ | refine G.frontR12 vp rfl ?_ | refine G.frontR13 vp rfl ?_)
       refine G.loopK (ι := Nat × Value × List Int) (ks := [8]) (fun x => [(9, x.2.1), (10, .int .i64 ((x.1 + 1 : Nat) : Int))]) (fun x => [.row vp 9 1 ((p :: ps).map scell), .row x.2.1 3 1 (x.2.2.map icell)]) (fun x => (x.1 ≤ ps.length ∧ x.2.2.length = x.1) ∧ numsM (ps.take x.1) = some x.2.2 ∧ x.2.1.oneCell' = true) (fun x => ps.length - x.1) (0, vl, []) (.cons rfl (.nil)) rfl ?_ ?_ ?_
       · exact ⟨⟨Nat.zero_le _, rfl⟩, rfl, hovl⟩
       · exact ⟨rfl, rfl, trivial⟩
       rintro ⟨k, v, ns⟩ ⟨⟨hk, hnl⟩, hns, hov⟩
       dsimp only at hk hnl hns hov ⊢
       have hnlm : (ns.map icell).length = ns.length := List.length_map ..
       by_cases hlt : k < ps.length
       case' pos => (obtain ⟨q, hq⟩ := get_of_lt hlt; have he : ((p :: ps).map scell)[k + 1]? = some (scell q) := get_map hq scell)
       case' neg => (have hnA : numsM ps = some ns := (by rw [← hns, take_all hlt]))
       all_goals
        refine G.seq (G.seq (G.region (G.v (rv_move rfl) rfl (G.v (rv_move rfl) rfl ?_)))); refine G.v (rv_len rfl (by first | exact Rd.stays (by assumption) | exact Rd.owned 0 rfl | exact Rd.owned 1 rfl | exact Rd.owned 2 rfl | exact Rd.owned 3 rfl | exact Rd.owned 4 rfl | exact Rd.owned 5 rfl | exact Rd.owned 6 rfl | exact Rd.owned 7 rfl)) rfl ?_; refine G.v (rv_lss rfl rfl) rfl (G.done (G.thenN ?_)); refine G.cond rfl (fun hc => ?_) (fun hc => ?_)
        · try exact Bool.noConfusion hc
          all_goals
           try replace hc := of_decide_eq_true hc
           try (exfalso; first | contradiction | omega)
           all_goals
            refine G.skip (G.thenN (G.seq (G.block (G.seq (G.region (G.v (rv_move rfl) rfl (G.v (rv_move rfl) rfl ?_))))))); refine G.v (rv_indexH (k := k + 1) rfl rfl (by first | exact Rd.owned 0 rfl | exact Rd.owned 1 rfl) rfl he) rfl ?_; refine G.v (rv_loadE rfl (by first | exact Rd.stays (by assumption) | exact Rd.owned 0 rfl | exact Rd.owned 1 rfl | exact Rd.owned 2 rfl | exact Rd.owned 3 rfl | exact Rd.owned 4 rfl | exact Rd.owned 5 rfl | exact Rd.owned 6 rfl | exact Rd.owned 7 rfl) (by first | exact he0 | exact he) rfl) rfl ?_; refine G.op (og_callV rfl rfl (fun w hh => snumber_any w)) rfl (fun _ _ => ?_); refine G.v (rv_move rfl) rfl (G.v (rv_extract rfl rfl) rfl (G.v (rv_extract rfl rfl) rfl (G.v (rv_assign rfl) rfl (G.v (rv_assign rfl) rfl (G.done (G.thenN (G.seq (G.seq (G.region (G.v (rv_move rfl) rfl (G.v (rv_not rfl) rfl ?_))))))))))); refine G.done (G.thenN ?_); refine G.cond rfl (fun hc => ?_) (fun hc => ?_)
            · try exact Bool.noConfusion hc
              all_goals
               try replace hc := of_decide_eq_true hc
               try (exfalso; first | contradiction | omega)
               all_goals
                refine G.seq (G.region ?_); refine G.op (og_lit rfl .nil rfl rfl rfl rfl rfl rfl) rfl (fun vz _ => ?_); refine G.know (fun w hw => (Rd.owned 0 rfl (v := vz) w hw).one_) (fun hovz => ?_); refine G.v (rv_assign rfl) rfl (G.v (rv_assign rfl) rfl (G.done (G.thenN (G.ret (G.thenR (G.inR (G.thenR (G.thenR (G.inR (G.thenR ?_))))))))))
                first | (have hno : wordsM wd n l = none := hwp.trans (if_neg (fun e => of_decide_eq_true hg e.1)); (first | refine G.frontR0 vl rfl ?_ | refine G.frontR1 vl rfl ?_ | refine G.frontR2 vl rfl ?_ | refine G.frontR3 vl rfl ?_ | refine G.frontR4 vl rfl ?_ | refine G.frontR5 vl rfl ?_ | refine G.frontR6 vl rfl ?_ | refine G.frontR7 vl rfl ?_ | refine G.frontR8 vl rfl ?_ | refine G.frontR9 vl rfl ?_ | refine G.frontR10 vl rfl ?_ | refine G.frontR11 vl rfl ?_ | refine G.frontR12 vl rfl ?_ | refine G.frontR13 vl rfl ?_); exact G.retL vl hovl rfl (.cons (.tmp rfl) (.cons (.tmp rfl) .nil)) (by rw [hno]; rfl) (fun w hh => by rw [hno]; exact hh.sublist (by repeat (first | exact List.Sublist.refl _ | refine List.Sublist.cons_cons _ ?_ | refine List.Sublist.cons _ ?_)))) | (have hno : wordsM wd n l = none := hwp.trans (if_neg (fun e => by omega)); (first | refine G.frontR0 vl rfl ?_ | refine G.frontR1 vl rfl ?_ | refine G.frontR2 vl rfl ?_ | refine G.frontR3 vl rfl ?_ | refine G.frontR4 vl rfl ?_ | refine G.frontR5 vl rfl ?_ | refine G.frontR6 vl rfl ?_ | refine G.frontR7 vl rfl ?_ | refine G.frontR8 vl rfl ?_ | refine G.frontR9 vl rfl ?_ | refine G.frontR10 vl rfl ?_ | refine G.frontR11 vl rfl ?_ | refine G.frontR12 vl rfl ?_ | refine G.frontR13 vl rfl ?_); exact G.retL vl hovl rfl (.cons (.tmp rfl) (.cons (.tmp rfl) .nil)) (by rw [hno]; rfl) (fun w hh => by rw [hno]; exact hh.sublist (by repeat (first | exact List.Sublist.refl _ | refine List.Sublist.cons_cons _ ?_ | refine List.Sublist.cons _ ?_)))) | (have hno : wordsM wd n l = none := (hwp.trans (if_pos ⟨hpw, hpn⟩)).trans (nums_no (List.mem_of_getElem? hq) (by simpa using hc)); (first | refine G.frontR0 vz rfl ?_ | refine G.frontR1 vz rfl ?_ | refine G.frontR2 vz rfl ?_ | refine G.frontR3 vz rfl ?_ | refine G.frontR4 vz rfl ?_ | refine G.frontR5 vz rfl ?_ | refine G.frontR6 vz rfl ?_ | refine G.frontR7 vz rfl ?_ | refine G.frontR8 vz rfl ?_ | refine G.frontR9 vz rfl ?_ | refine G.frontR10 vz rfl ?_ | refine G.frontR11 vz rfl ?_ | refine G.frontR12 vz rfl ?_ | refine G.frontR13 vz rfl ?_); exact G.retL vz hovz rfl (.cons (.tmp rfl) (.cons (.tmp rfl) .nil)) (by rw [hno]; rfl) (fun w hh => by rw [hno]; exact hh.sublist (by repeat (first | exact List.Sublist.refl _ | refine List.Sublist.cons_cons _ ?_ | refine List.Sublist.cons _ ?_)))) | (have hyes : wordsM wd n l = some ns := (hwp.trans (if_pos ⟨hpw, hpn⟩)).trans hnA; (first | refine G.frontR0 v rfl ?_ | refine G.frontR1 v rfl ?_ | refine G.frontR2 v rfl ?_ | refine G.frontR3 v rfl ?_ | refine G.frontR4 v rfl ?_ | refine G.frontR5 v rfl ?_ | refine G.frontR6 v rfl ?_ | refine G.frontR7 v rfl ?_ | refine G.frontR8 v rfl ?_ | refine G.frontR9 v rfl ?_ | refine G.frontR10 v rfl ?_ | refine G.frontR11 v rfl ?_ | refine G.frontR12 v rfl ?_ | refine G.frontR13 v rfl ?_); exact G.retL v hov rfl (.cons (.tmp rfl) (.cons (.tmp rfl) .nil)) (by rw [hyes]; rfl) (fun w hh => by rw [hyes]; exact hh.sublist (by repeat (first | exact List.Sublist.refl _ | refine List.Sublist.cons_cons _ ?_ | refine List.Sublist.cons _ ?_))))
            · try exact Bool.noConfusion hc
              all_goals
               try replace hc := of_decide_eq_false hc
               try (exfalso; first | contradiction | omega)
               all_goals
                refine G.skip (G.thenN (G.region (G.v (rv_move rfl) rfl (G.v (rv_move rfl) rfl ?_)))); refine G.op (og_lit rfl (.cons rfl .nil) rfl rfl rfl rfl rfl rfl) rfl (fun vx _ => ?_)
                (first | refine G.op (og_app0 rfl rfl rfl (by first | exact Rd.stays (by assumption) | exact Rd.owned 0 rfl | exact Rd.owned 1 rfl | exact Rd.owned 2 rfl | exact Rd.owned 3 rfl | exact Rd.owned 4 rfl | exact Rd.owned 5 rfl | exact Rd.owned 6 rfl | exact Rd.owned 7 rfl) rfl rfl (by first | (simp; done) | (simp; omega)) (by first | (simp; done) | (simp; omega))) rfl (fun va _ => ?_) | refine G.op (og_app1 rfl rfl rfl (by first | exact Rd.stays (by assumption) | exact Rd.owned 0 rfl | exact Rd.owned 1 rfl | exact Rd.owned 2 rfl | exact Rd.owned 3 rfl | exact Rd.owned 4 rfl | exact Rd.owned 5 rfl | exact Rd.owned 6 rfl | exact Rd.owned 7 rfl) rfl rfl (by first | (simp; done) | (simp; omega)) (by first | (simp; done) | (simp; omega))) rfl (fun va _ => ?_) | refine G.op (og_app2 rfl rfl rfl (by first | exact Rd.stays (by assumption) | exact Rd.owned 0 rfl | exact Rd.owned 1 rfl | exact Rd.owned 2 rfl | exact Rd.owned 3 rfl | exact Rd.owned 4 rfl | exact Rd.owned 5 rfl | exact Rd.owned 6 rfl | exact Rd.owned 7 rfl) rfl rfl (by first | (simp; done) | (simp; omega)) (by first | (simp; done) | (simp; omega))) rfl (fun va _ => ?_) | refine G.op (og_app3 rfl rfl rfl (by first | exact Rd.stays (by assumption) | exact Rd.owned 0 rfl | exact Rd.owned 1 rfl | exact Rd.owned 2 rfl | exact Rd.owned 3 rfl | exact Rd.owned 4 rfl | exact Rd.owned 5 rfl | exact Rd.owned 6 rfl | exact Rd.owned 7 rfl) rfl rfl (by first | (simp; done) | (simp; omega)) (by first | (simp; done) | (simp; omega))) rfl (fun va _ => ?_) | refine G.op (og_app4 rfl rfl rfl (by first | exact Rd.stays (by assumption) | exact Rd.owned 0 rfl | exact Rd.owned 1 rfl | exact Rd.owned 2 rfl | exact Rd.owned 3 rfl | exact Rd.owned 4 rfl | exact Rd.owned 5 rfl | exact Rd.owned 6 rfl | exact Rd.owned 7 rfl) rfl rfl (by first | (simp; done) | (simp; omega)) (by first | (simp; done) | (simp; omega))) rfl (fun va _ => ?_) | refine G.op (og_app5 rfl rfl rfl (by first | exact Rd.stays (by assumption) | exact Rd.owned 0 rfl | exact Rd.owned 1 rfl | exact Rd.owned 2 rfl | exact Rd.owned 3 rfl | exact Rd.owned 4 rfl | exact Rd.owned 5 rfl | exact Rd.owned 6 rfl | exact Rd.owned 7 rfl) rfl rfl (by first | (simp; done) | (simp; omega)) (by first | (simp; done) | (simp; omega))) rfl (fun va _ => ?_) | refine G.op (og_app6 rfl rfl rfl (by first | exact Rd.stays (by assumption) | exact Rd.owned 0 rfl | exact Rd.owned 1 rfl | exact Rd.owned 2 rfl | exact Rd.owned 3 rfl | exact Rd.owned 4 rfl | exact Rd.owned 5 rfl | exact Rd.owned 6 rfl | exact Rd.owned 7 rfl) rfl rfl (by first | (simp; done) | (simp; omega)) (by first | (simp; done) | (simp; omega))) rfl (fun va _ => ?_) | refine G.op (og_app7 rfl rfl rfl (by first | exact Rd.stays (by assumption) | exact Rd.owned 0 rfl | exact Rd.owned 1 rfl | exact Rd.owned 2 rfl | exact Rd.owned 3 rfl | exact Rd.owned 4 rfl | exact Rd.owned 5 rfl | exact Rd.owned 6 rfl | exact Rd.owned 7 rfl) rfl rfl (by first | (simp; done) | (simp; omega)) (by first | (simp; done) | (simp; omega))) rfl (fun va _ => ?_))
                refine G.know (fun w hw => by first | exact (Rd.owned 0 rfl (v := va) w hw).one_ | exact (Rd.owned 1 rfl (v := va) w hw).one_ | exact (Rd.owned 2 rfl (v := va) w hw).one_ | exact (Rd.owned 3 rfl (v := va) w hw).one_ | exact (Rd.owned 4 rfl (v := va) w hw).one_ | exact (Rd.owned 5 rfl (v := va) w hw).one_) (fun hova => ?_); refine G.v (rv_assign rfl) rfl (G.done (G.inN (G.thenN (G.region (G.v (rv_move rfl) rfl ?_)))))
                (first | refine G.v (rv_incr rfl rfl (by omega)) rfl ?_ | refine G.v (rv_addB rfl rfl (by omega) (by omega)) rfl ?_)
                refine G.v (rv_assign rfl) rfl (G.done ?_)
                (first | refine G.frontR0 va rfl ?_ | refine G.frontR1 va rfl ?_ | refine G.frontR2 va rfl ?_ | refine G.frontR3 va rfl ?_ | refine G.frontR4 va rfl ?_ | refine G.frontR5 va rfl ?_ | refine G.frontR6 va rfl ?_ | refine G.frontR7 va rfl ?_ | refine G.frontR8 va rfl ?_ | refine G.frontR9 va rfl ?_ | refine G.frontR10 va rfl ?_ | refine G.frontR11 va rfl ?_ | refine G.frontR12 va rfl ?_ | refine G.frontR13 va rfl ?_)
                (first | refine G.frontR0 vp rfl ?_ | refine G.frontR1 vp rfl ?_ | refine G.frontR2 vp rfl ?_ | refine G.frontR3 vp rfl ?_ | refine G.frontR4 vp rfl ?_ | refine G.frontR5 vp rfl ?_ | refine G.frontR6 vp rfl ?_ | refine G.frontR7 vp rfl ?_ | refine G.frontR8 vp rfl ?_ | refine G.frontR9 vp rfl ?_ | refine G.frontR10 vp rfl ?_ | refine G.frontR11 vp rfl ?_ | refine G.frontR12 vp rfl ?_ | refine G.frontR13 vp rfl ?_)
                first | (refine G.keep2 1 rfl ?_; refine G.backK (k + 1, va, ns ++ [(numberM q).1]) 0 (two_eq rfl (congrArg (fun z => Ch.row va 3 1 z) (by rw [List.map_append]; rfl))) (.cons rfl (.nil)) ?_ ?_ ?_) | (refine G.keep2 0 rfl ?_; refine G.backK (k + 1, va, ns ++ [(numberM q).1]) 0 (two_eq rfl (congrArg (fun z => Ch.row va 3 1 z) (by rw [List.map_append]; rfl))) (.cons rfl (.nil)) ?_ ?_ ?_)
                · exact ⟨rfl, rfl, trivial⟩
                · exact ⟨⟨hlt, by dsimp only; rw [List.length_append, List.length_singleton]; omega⟩, nums_next hq hns (by simpa using hc), hova⟩
                · dsimp only; omega
        · try exact Bool.noConfusion hc
          all_goals
           try replace hc := of_decide_eq_false hc
           try (exfalso; first | contradiction | omega)
           all_goals
            refine G.exit (G.thenX (G.thenX (G.inX (G.thenN (G.seq (G.region (G.v (rv_move rfl) rfl (G.v (rv_assign rfl) rfl (G.v (rv_assign rfl) rfl (G.done (G.thenN ?_))))))))))); refine G.ret ?_
            first | (have hno : wordsM wd n l = none := hwp.trans (if_neg (fun e => of_decide_eq_true hg e.1)); (first | refine G.frontR0 vl rfl ?_ | refine G.frontR1 vl rfl ?_ | refine G.frontR2 vl rfl ?_ | refine G.frontR3 vl rfl ?_ | refine G.frontR4 vl rfl ?_ | refine G.frontR5 vl rfl ?_ | refine G.frontR6 vl rfl ?_ | refine G.frontR7 vl rfl ?_ | refine G.frontR8 vl rfl ?_ | refine G.frontR9 vl rfl ?_ | refine G.frontR10 vl rfl ?_ | refine G.frontR11 vl rfl ?_ | refine G.frontR12 vl rfl ?_ | refine G.frontR13 vl rfl ?_); exact G.retL vl hovl rfl (.cons (.tmp rfl) (.cons (.tmp rfl) .nil)) (by rw [hno]; rfl) (fun w hh => by rw [hno]; exact hh.sublist (by repeat (first | exact List.Sublist.refl _ | refine List.Sublist.cons_cons _ ?_ | refine List.Sublist.cons _ ?_)))) | (have hno : wordsM wd n l = none := hwp.trans (if_neg (fun e => by omega)); (first | refine G.frontR0 vl rfl ?_ | refine G.frontR1 vl rfl ?_ | refine G.frontR2 vl rfl ?_ | refine G.frontR3 vl rfl ?_ | refine G.frontR4 vl rfl ?_ | refine G.frontR5 vl rfl ?_ | refine G.frontR6 vl rfl ?_ | refine G.frontR7 vl rfl ?_ | refine G.frontR8 vl rfl ?_ | refine G.frontR9 vl rfl ?_ | refine G.frontR10 vl rfl ?_ | refine G.frontR11 vl rfl ?_ | refine G.frontR12 vl rfl ?_ | refine G.frontR13 vl rfl ?_); exact G.retL vl hovl rfl (.cons (.tmp rfl) (.cons (.tmp rfl) .nil)) (by rw [hno]; rfl) (fun w hh => by rw [hno]; exact hh.sublist (by repeat (first | exact List.Sublist.refl _ | refine List.Sublist.cons_cons _ ?_ | refine List.Sublist.cons _ ?_)))) | (have hno : wordsM wd n l = none := (hwp.trans (if_pos ⟨hpw, hpn⟩)).trans (nums_no (List.mem_of_getElem? hq) (by simpa using hc)); (first | refine G.frontR0 vz rfl ?_ | refine G.frontR1 vz rfl ?_ | refine G.frontR2 vz rfl ?_ | refine G.frontR3 vz rfl ?_ | refine G.frontR4 vz rfl ?_ | refine G.frontR5 vz rfl ?_ | refine G.frontR6 vz rfl ?_ | refine G.frontR7 vz rfl ?_ | refine G.frontR8 vz rfl ?_ | refine G.frontR9 vz rfl ?_ | refine G.frontR10 vz rfl ?_ | refine G.frontR11 vz rfl ?_ | refine G.frontR12 vz rfl ?_ | refine G.frontR13 vz rfl ?_); exact G.retL vz hovz rfl (.cons (.tmp rfl) (.cons (.tmp rfl) .nil)) (by rw [hno]; rfl) (fun w hh => by rw [hno]; exact hh.sublist (by repeat (first | exact List.Sublist.refl _ | refine List.Sublist.cons_cons _ ?_ | refine List.Sublist.cons _ ?_)))) | (have hyes : wordsM wd n l = some ns := (hwp.trans (if_pos ⟨hpw, hpn⟩)).trans hnA; (first | refine G.frontR0 v rfl ?_ | refine G.frontR1 v rfl ?_ | refine G.frontR2 v rfl ?_ | refine G.frontR3 v rfl ?_ | refine G.frontR4 v rfl ?_ | refine G.frontR5 v rfl ?_ | refine G.frontR6 v rfl ?_ | refine G.frontR7 v rfl ?_ | refine G.frontR8 v rfl ?_ | refine G.frontR9 v rfl ?_ | refine G.frontR10 v rfl ?_ | refine G.frontR11 v rfl ?_ | refine G.frontR12 v rfl ?_ | refine G.frontR13 v rfl ?_); exact G.retL v hov rfl (.cons (.tmp rfl) (.cons (.tmp rfl) .nil)) (by rw [hyes]; rfl) (fun w hh => by rw [hyes]; exact hh.sublist (by repeat (first | exact List.Sublist.refl _ | refine List.Sublist.cons_cons _ ?_ | refine List.Sublist.cons _ ?_))))
theorem l4Line_any {vp : Value} {wd : List UInt8} {L : List (List UInt8)} {m k n : Nat} (hm : L.length = m + 1) (hb : ∀ q ∈ L, q.length ≤ 1048576) (hk : k ≤ 1000) (hn : n ≤ 1000) (hm2 : m ≤ 1048577) (w : World) (h : Rd w vp 1 (L.map scell)) : Fn Tryz.prog 47 [vp, .int .i64 (k : Int), sv wd, .int .i64 (n : Int)] w (fun v : Value => v.oneCell' = true) (fun v => .tuple #[v, .bool (l4M (L.take m) k wd n).isSome]) (fun v => [.row v 3 1 (((l4M (L.take m) k wd n).getD []).map icell)]) := by
  have hLm : (L.map scell).length = m + 1 := (by rw [List.length_map]; exact hm)
  have htk2 : (L.take m).length = m := (by rw [List.length_take]; omega)
  obtain ⟨q, hq⟩ : ∃ q, k < m → L[k]? = some q := (by by_cases hkm : k < m; (obtain ⟨q, hq⟩ := get_of_lt (l := L) (k := k) (by omega); exact ⟨q, fun _ => hq⟩); exact ⟨[], fun e => absurd e hkm⟩)
  refine Fn.of (n := 25) Tryz.func47 rfl rfl ?_; refine G.seq (G.region (G.v (rv_assign rfl) rfl (G.v (rv_assign rfl) rfl (G.done (G.thenN (G.seq (G.seq (G.region (G.v (rv_move rfl) rfl (G.v (rv_move rfl) rfl ?_)))))))))); refine G.v (rv_lenE rfl (Rd.stays h) hLm) rfl ?_; refine G.v (rv_decr1 rfl rfl (by omega)) rfl ?_; refine G.v (rv_geq rfl rfl) rfl (G.done (G.thenN ?_)); refine G.cond rfl (fun hc => ?_) (fun hc => ?_)
  · try exact Bool.noConfusion hc
    all_goals
     try replace hc := of_decide_eq_true hc
     try (exfalso; first | contradiction | omega)
     all_goals
      refine G.seq (G.region ?_); refine G.op (og_lit rfl .nil rfl rfl rfl rfl rfl rfl) rfl (fun vz _ => ?_); refine G.know (fun w hw => (Rd.owned 0 rfl (v := vz) w hw).one_) (fun hovz => ?_); refine G.v (rv_assign rfl) rfl (G.v (rv_assign rfl) rfl (G.done (G.thenN (G.ret (G.thenR ?_)))))
      first | (have hno : l4M (L.take m) k wd n = none := l4_out (by rw [htk2]; omega) wd n; (first | refine G.frontR0 vz rfl ?_ | refine G.frontR1 vz rfl ?_ | refine G.frontR2 vz rfl ?_ | refine G.frontR3 vz rfl ?_ | refine G.frontR4 vz rfl ?_ | refine G.frontR5 vz rfl ?_ | refine G.frontR6 vz rfl ?_ | refine G.frontR7 vz rfl ?_ | refine G.frontR8 vz rfl ?_ | refine G.frontR9 vz rfl ?_ | refine G.frontR10 vz rfl ?_ | refine G.frontR11 vz rfl ?_ | refine G.frontR12 vz rfl ?_ | refine G.frontR13 vz rfl ?_); exact G.retL vz hovz rfl (.cons (.tmp rfl) (.cons (.tmp rfl) .nil)) (by rw [hno]; rfl) (fun w hh => by rw [hno]; exact hh.sublist (by repeat (first | exact List.Sublist.refl _ | refine List.Sublist.cons_cons _ ?_ | refine List.Sublist.cons _ ?_)))) | ((first | refine G.frontR0 v rfl ?_ | refine G.frontR1 v rfl ?_ | refine G.frontR2 v rfl ?_ | refine G.frontR3 v rfl ?_ | refine G.frontR4 v rfl ?_ | refine G.frontR5 v rfl ?_ | refine G.frontR6 v rfl ?_ | refine G.frontR7 v rfl ?_ | refine G.frontR8 v rfl ?_ | refine G.frontR9 v rfl ?_ | refine G.frontR10 v rfl ?_ | refine G.frontR11 v rfl ?_ | refine G.frontR12 v rfl ?_ | refine G.frontR13 v rfl ?_); exact G.retL v hv rfl (.cons (.tmp rfl) (.cons (.tmp rfl) .nil)) (by rw [hl4]) (fun w hh => by rw [hl4]; exact hh.sublist (by repeat (first | exact List.Sublist.refl _ | refine List.Sublist.cons_cons _ ?_ | refine List.Sublist.cons _ ?_))))
  · try exact Bool.noConfusion hc
    all_goals
     try replace hc := of_decide_eq_false hc
     try (exfalso; first | contradiction | omega)
     all_goals
      have hkm : k < m := (by omega); replace hq := hq hkm; have he := get_map hq scell; have hql := hb q (List.mem_of_getElem? hq); have hqt : (L.take m)[k]? = some q := (by rw [List.getElem?_take_of_lt hkm]; exact hq); have hl4 := l4_at hqt wd n
      all_goals
       refine G.skip (G.thenN (G.seq (G.region (G.v (rv_move rfl) rfl (G.v (rv_move rfl) rfl ?_))))); refine G.v (rv_indexH (k := k) rfl rfl (Rd.stays h) rfl he) rfl ?_; refine G.v (rv_loadE rfl (by first | exact Rd.stays (by assumption) | exact Rd.owned 0 rfl | exact Rd.owned 1 rfl | exact Rd.owned 2 rfl | exact Rd.stays h) (by first | exact he) rfl) rfl ?_; refine G.v (rv_move rfl) rfl (G.v (rv_move rfl) rfl ?_)
       (refine G.op (og_callF1 rfl rfl (fun w hh => l4Nums_any (wd := wd) (l := q) (n := n) hql hn w)) rfl ?_; rintro v hv; try dsimp only)
       refine G.v (rv_extract rfl rfl) rfl (G.v (rv_extract rfl rfl) rfl (G.v (rv_assign rfl) rfl (G.v (rv_assign rfl) rfl (G.done (G.thenN (G.ret ?_))))))
       first | (have hno : l4M (L.take m) k wd n = none := l4_out (by rw [htk2]; omega) wd n; (first | refine G.frontR0 vz rfl ?_ | refine G.frontR1 vz rfl ?_ | refine G.frontR2 vz rfl ?_ | refine G.frontR3 vz rfl ?_ | refine G.frontR4 vz rfl ?_ | refine G.frontR5 vz rfl ?_ | refine G.frontR6 vz rfl ?_ | refine G.frontR7 vz rfl ?_ | refine G.frontR8 vz rfl ?_ | refine G.frontR9 vz rfl ?_ | refine G.frontR10 vz rfl ?_ | refine G.frontR11 vz rfl ?_ | refine G.frontR12 vz rfl ?_ | refine G.frontR13 vz rfl ?_); exact G.retL vz hovz rfl (.cons (.tmp rfl) (.cons (.tmp rfl) .nil)) (by rw [hno]; rfl) (fun w hh => by rw [hno]; exact hh.sublist (by repeat (first | exact List.Sublist.refl _ | refine List.Sublist.cons_cons _ ?_ | refine List.Sublist.cons _ ?_)))) | ((first | refine G.frontR0 v rfl ?_ | refine G.frontR1 v rfl ?_ | refine G.frontR2 v rfl ?_ | refine G.frontR3 v rfl ?_ | refine G.frontR4 v rfl ?_ | refine G.frontR5 v rfl ?_ | refine G.frontR6 v rfl ?_ | refine G.frontR7 v rfl ?_ | refine G.frontR8 v rfl ?_ | refine G.frontR9 v rfl ?_ | refine G.frontR10 v rfl ?_ | refine G.frontR11 v rfl ?_ | refine G.frontR12 v rfl ?_ | refine G.frontR13 v rfl ?_); exact G.retL v hv rfl (.cons (.tmp rfl) (.cons (.tmp rfl) .nil)) (by rw [hl4]) (fun w hh => by rw [hl4]; exact hh.sublist (by repeat (first | exact List.Sublist.refl _ | refine List.Sublist.cons_cons _ ?_ | refine List.Sublist.cons _ ?_))))
end Go.Proofs.YtnfokjlplbbbeaaGreatDoor

/-
  An order read: the reference's way; what is wrong with a text.
-/
namespace Go.Proofs.YtnfokjlplbbbeaaGreatDoor
open Go.RowKit Go.Lib
theorem run_is (ls : List (List UInt8)) : runM reqZ (-1) ls = goWay ls := run_way ls
attribute [local irreducible] Go.wpList Go.Code.wp Go.Exit.then Go.Exit.inBlock Go.bodyPost Go.Calls pE pB G RunsV FnV Fn FnM
set_option maxRecDepth 100000
set_option maxHeartbeats 4000000
theorem sreadOrder_any {l : List UInt8} (hl : l.length ≤ 1048576) (w : World) : Fn Tryz.prog 17 [sv l] w (OrdR l) (fun x => .tuple #[.agg (x.1.1.cells x.1.2.1 x.1.2.2.1 x.1.2.2.2).toArray, .int .i64 x.2])
    (fun x => [.row x.1.2.2.2 44 7 (x.1.1.items.map ItemM.cells), .row x.1.2.2.1 37 7 (x.1.1.types.map TypeM.cells), .row x.1.2.1 60 2 (x.1.1.pairs.map PairM.cells)]) := by
  have hpl := parts_len 10 l
  have hpe := parts_each 10 l
  have hpn := parts_ne 10 l
  have hro := readO_no (l := l)
  have hrr := readO_run (l := l)
  have hry := fun r => readO_yes (l := l) (r := r)
  generalize hL : partsM 10 l = L at hpl hpe hpn hro hrr hry
  obtain ⟨m, hm⟩ : ∃ m, L.length = m + 1 := ⟨L.length - 1, by have := List.length_pos_iff.2 hpn; omega⟩
  obtain ⟨z, hz⟩ := get_of_lt (l := L) (k := m) (by omega)
  obtain ⟨y, hy⟩ := get_of_lt (l := L) (k := 0) (by omega)
  have hla := last_atO hm hz
  have hm1 : L.length - 1 = m := (by omega)
  have hLm : (L.map scell).length = m + 1 := (by rw [List.length_map]; exact hm)
  have hez := get_map hz scell
  have hey := get_map hy scell
  have hbL : ∀ q ∈ L, q.length ≤ 1048576 := (fun q hq => by have := hpe q hq; omega)
  have hm2 : m ≤ 1048577 := (by omega)
  have htk2 : (L.take m).length = m := (by rw [List.length_take]; omega)
  have hyt : 1 ≤ m → (L.take m)[0]? = some y := (fun h1 => by rw [List.getElem?_take_of_lt (by omega)]; exact hy)
  have hwn := way_none (ls := L.take m)
  have hwp := fun r => way_pallet (ls := L.take m) (r := r)
  have hgc := go_classes (ls := L.take m)
  rw [htk2] at hwn
  rw [hm1] at hro hrr hry
  rw [run_is] at hrr
  simp only [run_is] at hry
  refine Fn.of (n := 217) Tryz.func17 rfl rfl ?_; refine G.seq (G.region ?_); refine G.op (og_alloc) rfl (fun bk2 _ => ?_); refine G.v (rv_assign rfl) rfl (G.done (G.thenN (G.seq (G.region (G.v (rv_move rfl) rfl ?_)))))
  (refine G.op (og_callF1 rfl rfl (fun w hh => sparts_any (b := 10) hl w)) rfl ?_; rintro vp hvp; try dsimp only)
  refine G.frontR0 vp rfl ?_; refine G.rowEq (L.map scell) (by rw [hL]) rfl ?_; refine G.v (rv_assign rfl) rfl (G.done (G.thenN (G.seq (G.region (G.v (rv_move rfl) rfl ?_))))); refine G.v (rv_lenE rfl (Rd.owned 0 rfl) hLm) rfl ?_; refine G.v (rv_decr1 rfl rfl (by omega)) rfl ?_; refine G.v (rv_assign rfl) rfl (G.done (G.thenN (G.seq (G.seq (G.region (G.v (rv_move rfl) rfl (G.v (rv_gtr rfl rfl) rfl (G.done (G.thenN ?_))))))))); refine G.cond rfl (fun hc => ?_) (fun hc => ?_)
  · try exact Bool.noConfusion hc
    all_goals
     try replace hc := of_decide_eq_true hc
     try (exfalso; contradiction)
     all_goals
      refine G.seq (G.region ?_); refine G.v (rv_build2 rfl .nil .nil) rfl ?_; refine G.op0 (og_st1 rfl rfl rfl rfl rfl (by repeat (rfl)) (.zero (.cons (.cons (.cons (.cons (.cons (.cons (.cons (.cons (.cons (.cons .nil)))))))))))) (fun _ _ => ?_); refine G.v (rv_assign rfl) rfl (G.done (G.thenN (G.ret (G.thenR ?_))))
      (have hno9 : readM l = none := hro (fun e => by omega); refine G.heap (fun w hh => hh.nilRow 60 2) ?_; refine G.heap (fun w hh => hh.nilRow 37 7) ?_; refine G.heap (fun w hh => hh.nilRow 44 7) ?_; exact G.retL ((reqZ, .slice none 0 0, .slice none 0 0, .slice none 0 0), 60) (OrdR.no hno9 (by decide)) rfl (.cons (by exact .cell 4 rfl rfl rfl) (.cons (.tmp rfl) .nil)) rfl (fun w hh => hh.sublist (by repeat (first | exact List.Sublist.refl _ | refine List.Sublist.cons_cons _ ?_ | refine List.Sublist.cons _ ?_))))
  · try exact Bool.noConfusion hc
    all_goals
     try replace hc := of_decide_eq_false hc
     try (exfalso; contradiction)
     all_goals
      refine G.skip (G.thenN (G.seq (G.region ?_))); refine G.v (rv_build2 rfl .nil .nil) rfl ?_; refine G.op (og_alloc) rfl (fun bk6 _ => ?_); refine G.op0 (og_st0 rfl rfl rfl rfl rfl (by repeat (rfl)) (.zero (.cons (.cons (.cons (.cons (.cons (.cons (.cons (.cons (.cons (.cons .nil)))))))))))) (fun _ _ => ?_); refine G.done (G.thenN (G.seq (G.region (G.v (rv_assign rfl) rfl (G.done (G.thenN (G.seq (G.seq ?_)))))))); refine G.cut (ι := Bool) (ks := [2, 4, 5, 6]) (fun x => [(32, .bool x)]) (fun _ => []) (fun x => (x = false → 1 ≤ m ∧ (y = wWayF ∨ y = wWayN)) ∧ (x = true → ¬ (1 ≤ m ∧ (y = wWayF ∨ y = wWayN)))) 0 (.cons rfl (.cons rfl (.cons rfl (.cons rfl (.nil))))) rfl ?_ ?_
      focus
        refine G.region (G.v (rv_move rfl) rfl (G.v (rv_lss rfl rfl) rfl (G.v (rv_move rfl) rfl ?_)))
        all_goals (((with_reducible refine G.gP rfl rfl (fun hg => ?_) (fun hg => ?_)) <;> (try exact Bool.noConfusion hg) <;> (try (exfalso; (have hq := of_decide_eq_false hg; omega))) <;> (first | (refine G.gY rfl rfl ?_; refine G.v (rv_move rfl) rfl ?_) | refine G.gN rfl rfl rfl ?_)))
        all_goals ((first | (refine G.gY rfl rfl ?_; refine G.v (rv_indexH (k := 0) rfl rfl (by exact Rd.owned 1 rfl) rfl hey) rfl ?_) | refine G.gN rfl rfl rfl ?_))
        all_goals ((first | (refine G.gY rfl rfl ?_; refine G.v (rv_loadE rfl (by exact Rd.owned 1 rfl) (by exact hey) rfl) rfl ?_) | refine G.gN rfl rfl rfl ?_))
        all_goals ((first | (refine G.gY rfl rfl ?_; refine G.v (rv_neqS rfl rfl) rfl ?_) | refine G.gN rfl rfl rfl ?_))
        all_goals ((first | (refine G.gY rfl rfl ?_; refine G.v (rv_move rfl) rfl ?_) | refine G.gN rfl rfl rfl ?_))
        all_goals ((first | refine G.gU rfl rfl rfl ?_ | ((with_reducible refine G.gP rfl rfl (fun hg => ?_) (fun hg => ?_)) <;> (try exact Bool.noConfusion hg) <;> (try (exfalso; (have hq := of_decide_eq_false hg; omega))) <;> (first | (refine G.gY rfl rfl ?_; refine G.v (rv_move rfl) rfl ?_) | refine G.gN rfl rfl rfl ?_))))
        all_goals ((first | (refine G.gY rfl rfl ?_; refine G.v (rv_indexH (k := 0) rfl rfl (by exact Rd.owned 1 rfl) rfl hey) rfl ?_) | refine G.gN rfl rfl rfl ?_ | refine G.gU rfl rfl rfl ?_))
        all_goals ((first | (refine G.gY rfl rfl ?_; refine G.v (rv_loadE rfl (by exact Rd.owned 1 rfl) (by exact hey) rfl) rfl ?_) | refine G.gN rfl rfl rfl ?_ | refine G.gU rfl rfl rfl ?_))
        all_goals ((first | (refine G.gY rfl rfl ?_; refine G.v (rv_neqS rfl rfl) rfl ?_) | refine G.gN rfl rfl rfl ?_ | refine G.gU rfl rfl rfl ?_))
        all_goals ((first | (refine G.gY rfl rfl ?_; (first | refine G.v (rv_pickT rfl rfl) rfl ?_ | refine G.v (rv_pickF rfl rfl) rfl ?_)) | refine G.gN rfl rfl rfl ?_))
        all_goals ((first | refine G.v (rv_pickT rfl rfl) rfl ?_ | refine G.v (rv_pickF rfl rfl) rfl ?_))
        all_goals
         refine G.done ?_
         first | (refine G.cutEnd true 0 rfl (.cons rfl (.cons rfl (.cons rfl (.cons rfl (.nil))))) ⟨rfl, trivial⟩ ?_) | (refine G.cutEnd (decide (¬ y = wWayN)) 0 rfl (.cons rfl (.cons rfl (.cons rfl (.cons rfl (.nil))))) ⟨rfl, trivial⟩ ?_) | (refine G.cutEnd false 0 rfl (.cons rfl (.cons rfl (.cons rfl (.cons rfl (.nil))))) ⟨rfl, trivial⟩ ?_)
         · constructor <;> intro hx <;> first | (exfalso; exact Bool.noConfusion hx) | (simp_all; done) | (simp_all; omega)
      rintro bx ⟨hbF, hbT⟩
      refine G.thenN ?_; refine G.cond rfl (fun hc => ?_) (fun hc => ?_)
      · try exact Bool.noConfusion hc
        all_goals
         try replace hc := of_decide_eq_true hc
         try (exfalso; contradiction)
         all_goals
          have hno : goWay (L.take m) = none := hwn (fun e => hbT hc ⟨e.1, by rw [hyt e.1] at e; rcases e.2 with e2 | e2; exact .inl (Option.some.inj e2); exact .inr (Option.some.inj e2)⟩)
          all_goals
           refine G.seq (G.region ?_); refine G.v (rv_build2 rfl .nil .nil) rfl ?_; refine G.op0 (og_st2 rfl rfl rfl rfl rfl (by repeat (rfl)) (.zero (.cons (.cons (.cons (.cons (.cons (.cons (.cons (.cons (.cons (.cons .nil)))))))))))) (fun _ _ => ?_); refine G.v (rv_assign rfl) rfl (G.done (G.thenN (G.ret (G.thenR ?_))))
           (have hno9 : readM l = none := hrr hno; refine G.heap (fun w hh => hh.nilRow 60 2) ?_; refine G.heap (fun w hh => hh.nilRow 37 7) ?_; refine G.heap (fun w hh => hh.nilRow 44 7) ?_; exact G.retL ((reqZ, .slice none 0 0, .slice none 0 0, .slice none 0 0), 0) (OrdR.no hno9 (by decide)) rfl (.cons (by exact .cell 5 rfl rfl rfl) (.cons (.tmp rfl) .nil)) rfl (fun w hh => hh.sublist (by repeat (first | exact List.Sublist.refl _ | refine List.Sublist.cons_cons _ ?_ | refine List.Sublist.cons _ ?_))))
      · try exact Bool.noConfusion hc
        all_goals
         try replace hc := of_decide_eq_false hc
         try (exfalso; contradiction)
         all_goals
          obtain ⟨hm3, hyw⟩ := hbF hc
          all_goals
           refine G.skip (G.thenN (G.seq (G.seq (G.region (G.v (rv_move rfl) rfl ?_))))); refine G.v (rv_indexH (k := 0) rfl rfl (by exact Rd.owned 1 rfl) rfl hey) rfl ?_; refine G.v (rv_loadE rfl (by exact Rd.owned 1 rfl) (by exact hey) rfl) rfl ?_; refine G.v (rv_eqlS rfl rfl) rfl ?_; refine G.done (G.thenN ?_); refine G.frontB0 bk6 rfl ?_; refine G.cut (ι := Int) (ks := [2, 4, 5, 6]) (fun _ => []) (fun x => [.blk bk6 32 (ReqM.cells { reqZ with way := x } (.slice none 0 0) (.slice none 0 0) (.slice none 0 0))]) (fun x => (L.take m)[0]? = some wWayF ∧ x = 0 ∨ (L.take m)[0]? = some wWayN ∧ x = 1) 1 (.cons rfl (.cons rfl (.cons rfl (.cons rfl (.nil))))) rfl ?_ ?_
           focus
             refine G.cond rfl (fun hc => ?_) (fun hc => ?_)
             · try exact Bool.noConfusion hc
               all_goals
                try replace hc := of_decide_eq_true hc
                try (exfalso; contradiction)
                all_goals
                 refine G.region (G.v (rv_field rfl) rfl ?_); refine G.op0 (og_st0 rfl rfl rfl rfl rfl rfl (.zero (.cons .nil))) (fun _ _ => ?_); refine G.done ?_; refine G.cutEnd 1 0 rfl (.cons rfl (.cons rfl (.cons rfl (.cons rfl (.nil))))) ?_ ?_
                 · exact trivial
                 · (exact .inr ⟨by rw [hyt hm3]; exact congrArg some (by simpa using hc), rfl⟩)
             · try exact Bool.noConfusion hc
               all_goals
                try replace hc := of_decide_eq_false hc
                try (exfalso; contradiction)
                all_goals
                 refine G.skip ?_; refine G.cutEnd 0 0 rfl (.cons rfl (.cons rfl (.cons rfl (.cons rfl (.nil))))) ?_ ?_
                 · exact trivial
                 · (exact .inl ⟨by rw [hyt hm3]; exact congrArg some (hyw.resolve_right (by simpa using hc)), rfl⟩)
           rintro wy hwy
           have hwq := hwp { reqZ with way := wy } (by rcases hwy with ⟨a, rfl⟩ | ⟨a, rfl⟩; exact .inl ⟨a, rfl⟩; exact .inr ⟨a, rfl⟩)
           refine G.thenN (G.seq (G.region (G.v (rv_assign rfl) rfl (G.done (G.thenN (G.seq (G.region (G.v (rv_move rfl) rfl (G.v (rv_move rfl) rfl ?_)))))))))
           (refine G.op (og_callF1 rfl rfl (fun w hh => l4Line_any (L := L) (m := m) (k := 1) (wd := wPallet) (n := 4) hm hbL (by omega) (by omega) hm2 w (by exact Rd.owned 1 rfl _ hh))) rfl ?_; rintro v1 hv1; try dsimp only)
           refine G.v (rv_move rfl) rfl (G.v (rv_extract rfl rfl) rfl (G.v (rv_extract rfl rfl) rfl (G.v (rv_assign rfl) rfl (G.v (rv_assign rfl) rfl (G.done (G.thenN (G.seq (G.seq (G.region (G.v (rv_move rfl) rfl (G.v (rv_not rfl) rfl ?_))))))))))); refine G.done (G.thenN ?_); refine G.cond rfl (fun hc => ?_) (fun hc => ?_)
           · try exact Bool.noConfusion hc
             all_goals
              try replace hc := of_decide_eq_true hc
              try (exfalso; contradiction)
              all_goals
               have hno : goWay (L.take m) = none := (by rw [hwq, (none_of (by simpa using hc) : l4M (L.take m) 1 wPallet 4 = none)])
               all_goals
                refine G.seq (G.region ?_); refine G.v (rv_build2 rfl .nil .nil) rfl ?_; refine G.v (rv_move rfl) rfl ?_; refine G.op0 (og_st3 rfl rfl rfl rfl rfl (by repeat (rfl)) (.zero (.cons (.cons (.cons (.cons (.cons (.cons (.cons (.cons (.cons (.cons .nil)))))))))))) (fun _ _ => ?_); refine G.v (rv_assign rfl) rfl (G.done (G.thenN (G.ret (G.thenR ?_))))
                (have hno9 : readM l = none := hrr hno; refine G.heap (fun w hh => hh.nilRow 60 2) ?_; refine G.heap (fun w hh => hh.nilRow 37 7) ?_; refine G.heap (fun w hh => hh.nilRow 44 7) ?_; exact G.retL ((reqZ, .slice none 0 0, .slice none 0 0, .slice none 0 0), 1) (OrdR.no hno9 (by decide)) rfl (.cons (by exact .cell 6 rfl rfl rfl) (.cons (.tmp rfl) .nil)) rfl (fun w hh => hh.sublist (by repeat (first | exact List.Sublist.refl _ | refine List.Sublist.cons_cons _ ?_ | refine List.Sublist.cons _ ?_))))
           · try exact Bool.noConfusion hc
             all_goals
              try replace hc := of_decide_eq_false hc
              try (exfalso; contradiction)
              all_goals
               obtain ⟨n1, hn1⟩ := Option.isSome_iff_exists.1 (by simpa using hc : (l4M (L.take m) 1 wPallet 4).isSome = true); obtain ⟨a, b, c, d, rfl⟩ := four_of (l4_len hn1).1; have e0 : ([a, b, c, d].map icell)[0]? = some (icell a) := rfl; have e1 : ([a, b, c, d].map icell)[1]? = some (icell b) := rfl; have e2 : ([a, b, c, d].map icell)[2]? = some (icell c) := rfl; have e3 : ([a, b, c, d].map icell)[3]? = some (icell d) := rfl; rw [hn1] at hwq; dsimp only at hwq; have hmk1 := (l4_len hn1).2.1; rw [htk2] at hmk1
               refine G.frontR0 v1 rfl ?_; refine G.rowEq ([a, b, c, d].map icell) (by rw [hn1]; rfl) rfl ?_
               all_goals
                refine G.skip (G.thenN (G.seq ?_)); refine G.drawL [13, 14] ?_; refine GE.q 0 rfl (by as_aux_lemma => kernel_rfl) rfl (qg_runs (rv_move rfl)) rfl ?_; refine GE.q 1 rfl (by as_aux_lemma => kernel_rfl) rfl (qg_runs (rv_indexH rfl rfl (by exact Rd.owned 0 rfl) rfl (by exact e0))) rfl ?_; refine GE.q 2 rfl (by as_aux_lemma => kernel_rfl) rfl (qg_runs (rv_loadE rfl (by exact Rd.owned 0 rfl) (by exact e0) rfl)) rfl ?_; refine GE.q 3 rfl (by as_aux_lemma => kernel_rfl) rfl (qg_runs (rv_move rfl)) rfl ?_; refine GE.q 4 rfl (by as_aux_lemma => kernel_rfl) rfl (qg_runs (rv_indexH rfl rfl (by exact Rd.owned 0 rfl) rfl (by exact e1))) rfl ?_; refine GE.q 5 rfl (by as_aux_lemma => kernel_rfl) rfl (qg_runs (rv_loadE rfl (by exact Rd.owned 0 rfl) (by exact e1) rfl)) rfl ?_; refine GE.q 6 rfl (by as_aux_lemma => kernel_rfl) rfl (qg_runs (rv_move rfl)) rfl ?_; refine GE.q 7 rfl (by as_aux_lemma => kernel_rfl) rfl (qg_runs (rv_indexH rfl rfl (by exact Rd.owned 0 rfl) rfl (by exact e2))) rfl ?_; refine GE.q 8 rfl (by as_aux_lemma => kernel_rfl) rfl (qg_runs (rv_loadE rfl (by exact Rd.owned 0 rfl) (by exact e2) rfl)) rfl ?_; refine GE.ol 9 (by as_aux_lemma => kernel_rfl) rfl rfl (og_runs (rv_move rfl)) rfl (fun _ _ h => by exact h) (fun _ _ => ?_); refine GE.ol 10 (by as_aux_lemma => kernel_rfl) rfl rfl (og_runs (rv_indexH rfl rfl (by exact Rd.owned 0 rfl) rfl (by exact e3))) rfl (fun _ _ h => by exact h) (fun _ _ => ?_)
                refine GE.ol 11 (by as_aux_lemma => kernel_rfl) rfl rfl (og_runs (rv_loadE rfl (by exact Rd.owned 0 rfl) (by exact e3) rfl)) rfl (fun _ _ h => by exact h) (fun _ _ => ?_); refine GE.ol 12 (by as_aux_lemma => kernel_rfl) rfl rfl (og_runs (rv_build2 rfl (.cons rfl (.cons rfl (.cons rfl (.cons rfl .nil)))) (.cons rfl rfl (.zero (.cons .nil)) (.cons rfl rfl (.succ (.zero (.cons .nil))) (.cons rfl rfl (.succ (.succ (.zero (.cons .nil)))) (.cons rfl rfl (.succ (.succ (.succ (.zero (.cons .nil))))) .nil)))))) rfl (fun _ _ h => by exact h) (fun _ _ => ?_); refine GE.t 13 (by as_aux_lemma => kernel_rfl) rfl rfl rfl (og_runs (rv_field rfl)) rfl (fun _ _ => ?_); refine GE.t0 14 (by as_aux_lemma => kernel_rfl) rfl rfl rfl (og_st1 rfl rfl rfl rfl rfl rfl (.succ (.zero (.cons (.cons (.cons (.cons .nil))))))) (fun _ _ => ?_); refine GE.done (by as_aux_lemma => kernel_rfl) ?_; refine G.thenN (G.seq (G.region (G.v (rv_assign rfl) rfl (G.done (G.thenN (G.seq (G.region (G.v (rv_move rfl) rfl (G.v (rv_move rfl) rfl ?_)))))))))
                (refine G.op (og_callF1 rfl rfl (fun w hh => l4Line_any (L := L) (m := m) (k := 2) (wd := wClasses) (n := 1) hm hbL (by omega) (by omega) hm2 w (by exact Rd.owned 2 rfl _ hh))) rfl ?_; rintro v2 hv2; try dsimp only)
                refine G.v (rv_move rfl) rfl (G.v (rv_extract rfl rfl) rfl (G.v (rv_extract rfl rfl) rfl (G.v (rv_assign rfl) rfl (G.v (rv_assign rfl) rfl (G.done (G.thenN (G.seq (G.seq (G.region (G.v (rv_move rfl) rfl (G.v (rv_not rfl) rfl ?_))))))))))); refine G.done (G.thenN ?_); refine G.cond rfl (fun hc => ?_) (fun hc => ?_)
                · try exact Bool.noConfusion hc
                  all_goals
                   try replace hc := of_decide_eq_true hc
                   try (exfalso; contradiction)
                   all_goals
                    have hno : goWay (L.take m) = none := (by rw [hwq, hgc, (none_of (by simpa using hc) : l4M (L.take m) 2 wClasses 1 = none)])
                    all_goals
                     refine G.seq (G.region ?_); refine G.v (rv_build2 rfl .nil .nil) rfl ?_; refine G.v (rv_move rfl) rfl ?_; refine G.op0 (og_st4 rfl rfl rfl rfl rfl (by repeat (rfl)) (.zero (.cons (.cons (.cons (.cons (.cons (.cons (.cons (.cons (.cons (.cons .nil)))))))))))) (fun _ _ => ?_); refine G.v (rv_assign rfl) rfl (G.done (G.thenN (G.ret (G.thenR ?_))))
                     (have hno9 : readM l = none := hrr hno; refine G.heap (fun w hh => hh.nilRow 60 2) ?_; refine G.heap (fun w hh => hh.nilRow 37 7) ?_; refine G.heap (fun w hh => hh.nilRow 44 7) ?_; exact G.retL ((reqZ, .slice none 0 0, .slice none 0 0, .slice none 0 0), 2) (OrdR.no hno9 (by decide)) rfl (.cons (by exact .cell 7 rfl rfl rfl) (.cons (.tmp rfl) .nil)) rfl (fun w hh => hh.sublist (by repeat (first | exact List.Sublist.refl _ | refine List.Sublist.cons_cons _ ?_ | refine List.Sublist.cons _ ?_))))
                · try exact Bool.noConfusion hc
                  all_goals
                   try replace hc := of_decide_eq_false hc
                   try (exfalso; contradiction)
                   all_goals
                    obtain ⟨n2, hn2⟩ := Option.isSome_iff_exists.1 (by simpa using hc : (l4M (L.take m) 2 wClasses 1).isSome = true); obtain ⟨cl, rfl⟩ := one_of (l4_len hn2).1; have e0 : ([cl].map icell)[0]? = some (icell cl) := rfl; rw [hgc, hn2] at hwq; dsimp only at hwq; have hmk2 := (l4_len hn2).2.1; rw [htk2] at hmk2
                    refine G.frontR0 v2 rfl ?_; refine G.rowEq ([cl].map icell) (by rw [hn2]; rfl) rfl ?_
                    all_goals
                     refine G.skip (G.thenN (G.seq (G.region (G.v (rv_move rfl) rfl ?_)))); refine G.v (rv_indexH rfl rfl (by exact Rd.owned 0 rfl) rfl (by exact e0)) rfl ?_; refine G.v (rv_loadE rfl (by exact Rd.owned 0 rfl) (by exact e0) rfl) rfl ?_; refine G.v (rv_field rfl) rfl ?_; refine G.op0 (og_st2 rfl rfl rfl rfl rfl rfl (.succ (.succ (.succ (.succ (.succ (.zero (.cons .nil)))))))) (fun _ _ => ?_); refine G.done (G.thenN (G.seq (G.region (G.v (rv_assign rfl) rfl (G.done (G.thenN (G.seq (G.region (G.v (rv_move rfl) rfl (G.v (rv_move rfl) rfl ?_))))))))))
                     (refine G.op (og_callF1 rfl rfl (fun w hh => l4Line_any (L := L) (m := m) (k := 3) (wd := wWith) (n := 2) hm hbL (by omega) (by omega) hm2 w (by exact Rd.owned 3 rfl _ hh))) rfl ?_; rintro v3 hv3; try dsimp only)
                     refine G.v (rv_move rfl) rfl (G.v (rv_extract rfl rfl) rfl (G.v (rv_extract rfl rfl) rfl (G.v (rv_assign rfl) rfl (G.v (rv_assign rfl) rfl (G.done (G.thenN (G.seq (G.block ?_))))))))
                     -- loop 0: turned [7, 8, 9], kept [2, 4, 5, 6]
                     refine G.frontR4 vp rfl ?_; refine G.frontR1 v3 rfl ?_; refine G.heap (fun w hh => hh.nilRow 44 7) ?_; refine G.heap (fun w hh => hh.nilRow 37 7) ?_; refine G.heap (fun w hh => hh.nilRow 60 2) ?_; refine G.frontB7 bk6 rfl ?_; refine G.loopK (ι := Nat × ReqM × Value × Value × Value × Value) (ks := [2, 4, 5, 6]) (fun x => [(7, .int .i64 (x.1 : Int)), (8, x.2.2.2.2.2), (9, .bool (l4M (L.take m) x.1 wWith 2).isSome)]) (fun x => [.blk bk6 32 (x.2.1.cells x.2.2.1 x.2.2.2.1 x.2.2.2.2.1), .row x.2.2.1 60 2 (x.2.1.pairs.map PairM.cells), .row x.2.2.2.1 37 7 (x.2.1.types.map TypeM.cells), .row x.2.2.2.2.1 44 7 (x.2.1.items.map ItemM.cells), .row x.2.2.2.2.2 3 1 (((l4M (L.take m) x.1 wWith 2).getD []).map icell), .row vp 9 1 (L.map scell)]) (fun x => OrdS goWith (L.take m) x) (fun x => m - x.1) (3, ⟨wy, ⟨a, b, c, d⟩, cl, [], [], 0, []⟩, .slice none 0 0, .slice none 0 0, .slice none 0 0, v3) (.cons rfl (.cons rfl (.cons rfl (.cons rfl (.nil))))) rfl ?_ ?_ ?_
                     · exact ⟨by rw [htk2]; dsimp only; omega, ⟨Nat.zero_le _, Nat.zero_le _, Nat.zero_le _⟩, hwq.symm, rfl, rfl, rfl, hv3⟩
                     · exact ⟨rfl, rfl, rfl, trivial⟩
                     rintro ⟨k, ⟨wy, ⟨pw, pd, ph, pg⟩, cl, ps, ts, ms, its⟩, pv, tv, iv, vn⟩ hS0
                     obtain ⟨hk, ⟨hn1l, hn2l, hn3l⟩, hrun0, hov1, hov2, hov3, hov4⟩ := id hS0
                     dsimp only [ReqM.cells] at hk hn1l hn2l hn3l hov1 hov2 hov3 hov4 ⊢
                     have hpsm : (ps.map PairM.cells).length = ps.length := List.length_map ..
                     have htsm : (ts.map TypeM.cells).length = ts.length := List.length_map ..
                     have hism : (its.map ItemM.cells).length = its.length := List.length_map ..
                     rw [htk2] at hk
                     all_goals
                      refine G.seq (G.seq (G.region (G.v (rv_move rfl) rfl (G.done (G.thenN ?_))))); refine G.cond rfl (fun hc => ?_) (fun hc => ?_)
                      · try exact Bool.noConfusion hc
                        all_goals
                         try replace hc := of_decide_eq_true hc
                         try (exfalso; contradiction)
                         all_goals
                          obtain ⟨nn, hnn⟩ := Option.isSome_iff_exists.1 (by simpa using hc : (l4M (L.take m) k wWith 2).isSome = true); obtain ⟨a, b, rfl⟩ := two_of (l4_len hnn).1; have e0 : ([a, b].map icell)[0]? = some (icell a) := rfl; have e1 : ([a, b].map icell)[1]? = some (icell b) := rfl; have hkm := (l4_len hnn).2.1; rw [htk2] at hkm
                          refine G.frontR4 vn rfl ?_; refine G.rowEq ([a, b].map icell) (by rw [hnn]; rfl) rfl ?_
                          all_goals
                           refine G.skip (G.thenN (G.block (G.seq ?_))); refine G.frontR2 pv rfl ?_; refine G.drawD1 [11, 12] rfl ?_; refine GE.q2 0 rfl (by as_aux_lemma => kernel_rfl) rfl (qg_runs (rv_field rfl)) (fun _ h => by exact h.drop 1) rfl ?_; refine GE.q2 1 rfl (by as_aux_lemma => kernel_rfl) rfl (qg_runs (rv_load1 1 rfl rfl rfl)) (fun _ h => by exact h.drop 1) rfl ?_; refine GE.q2 2 rfl (by as_aux_lemma => kernel_rfl) rfl (qg_runs (rv_move rfl)) (fun _ h => by exact h.drop 1) rfl ?_; refine GE.q2 3 rfl (by as_aux_lemma => kernel_rfl) rfl (qg_runs (rv_indexH rfl rfl (by exact Rd.owned 0 rfl) rfl (by exact e0))) (fun _ h => by exact h.drop 1) rfl ?_; refine GE.q2 4 rfl (by as_aux_lemma => kernel_rfl) rfl (qg_runs (rv_loadE rfl (by exact Rd.owned 0 rfl) (by exact e0) rfl)) (fun _ h => by exact h.drop 1) rfl ?_; refine GE.ol 5 (by as_aux_lemma => kernel_rfl) rfl rfl (og_runs (rv_move rfl)) rfl (fun _ _ h => by exact h.drop 1) (fun _ _ => ?_); refine GE.ol 6 (by as_aux_lemma => kernel_rfl) rfl rfl (og_runs (rv_indexH rfl rfl (by exact Rd.owned 1 rfl) rfl (by exact e1))) rfl (fun _ _ h => by exact h.drop 1) (fun _ _ => ?_); refine GE.ol 7 (by as_aux_lemma => kernel_rfl) rfl rfl (og_runs (rv_loadE rfl (by exact Rd.owned 1 rfl) (by exact e1) rfl)) rfl (fun _ _ h => by exact h.drop 1) (fun _ _ => ?_)
                           refine GE.ol 8 (by as_aux_lemma => kernel_rfl) rfl rfl (og_runs (rv_build2 rfl (.cons rfl (.cons rfl .nil)) (.cons rfl rfl (.zero (.cons .nil)) (.cons rfl rfl (.succ (.zero (.cons .nil))) .nil)))) rfl (fun _ _ h => by exact h.drop 1) (fun _ _ => ?_); refine GE.ol 9 (by as_aux_lemma => kernel_rfl) rfl rfl (og_lit rfl (.cons rfl .nil) rfl rfl rfl rfl rfl rfl) rfl (fun _ _ h => by exact h.drop 2) (fun vl _ => ?_); refine GE.ol 10 (by as_aux_lemma => kernel_rfl) rfl rfl (og_app1 rfl rfl rfl (by exact Rd.owned 0 rfl) rfl rfl (by (simp; omega)) (by (simp; omega))) rfl (fun _ _ h => by exact h.drop 2) (fun vp2 _ => ?_); refine GE.knowP (fun w hw => by exact (Rd.owned 1 rfl (v := vp2) w hw).one_) (fun hovp2 => ?_); refine GE.t 11 (by as_aux_lemma => kernel_rfl) rfl rfl rfl (og_runs (rv_field rfl)) rfl (fun _ _ => ?_); refine GE.t0 12 (by as_aux_lemma => kernel_rfl) rfl rfl rfl (og_st3 rfl rfl rfl (cells_one (by assumption)) rfl (by repeat (first | rfl | refine one_cons (by assumption) ?_)) (.succ (.succ (.succ (.succ (.succ (.succ (.zero (.cons .nil))))))))) (fun _ _ => ?_); refine GE.done (by as_aux_lemma => kernel_rfl) ?_; refine G.thenN (G.seq (G.region (G.v (rv_move rfl) rfl ?_))); refine G.v (rv_incr rfl rfl (by omega)) rfl ?_; refine G.v (rv_assign rfl) rfl (G.done (G.thenN (G.region (G.v (rv_move rfl) rfl (G.v (rv_move rfl) rfl ?_)))))
                           (refine G.op (og_callF1 rfl rfl (fun w hh => l4Line_any (L := L) (m := m) (k := (k + 1)) (wd := wWith) (n := 2) hm hbL (by omega) (by omega) hm2 w (by exact Rd.owned 6 rfl _ hh))) rfl ?_; rintro v4 hv4; try dsimp only)
                           refine G.v (rv_move rfl) rfl (G.v (rv_extract rfl rfl) rfl (G.v (rv_extract rfl rfl) rfl (G.v (rv_assign rfl) rfl (G.v (rv_assign rfl) rfl (G.done (G.inN ?_)))))); refine G.frontR7 vp rfl ?_; refine G.frontR1 v4 rfl ?_; refine G.frontR7 iv rfl ?_; refine G.frontR7 tv rfl ?_; refine G.frontR5 vp2 rfl ?_; refine G.rowEq ((ps ++ [(⟨a, b⟩ : PairM)]).map PairM.cells) (List.map_append (f := PairM.cells) (l₁ := ps) (l₂ := [⟨a, b⟩])).symm rfl ?_; refine G.frontB7 bk6 rfl ?_
                           (refine keep6O 2 rfl ?_; refine G.backK (k + 1, putWith ⟨wy, ⟨pw, pd, ph, pg⟩, cl, ps, ts, ms, its⟩ [a, b], vp2, tv, iv, v4) 0 rfl (.cons rfl (.cons rfl (.cons rfl (.cons rfl (.nil))))) ?_ ?_ ?_)
                           · exact ⟨rfl, rfl, rfl, trivial⟩
                           · exact hS0.nextWith hnn hovp2 hv4
                           · dsimp only; omega
                      · try exact Bool.noConfusion hc
                        all_goals
                         try replace hc := of_decide_eq_false hc
                         try (exfalso; contradiction)
                         all_goals
                          have hno0 : l4M (L.take m) k wWith 2 = none := none_of (by simpa using hc)
                          all_goals
                           refine G.exit (G.thenX (G.thenX (G.inX (G.thenN (G.seq (G.region (G.v (rv_move rfl) rfl (G.v (rv_move rfl) rfl ?_))))))))
                           (refine G.op (og_callF1 rfl rfl (fun w hh => l4Line_any (L := L) (m := m) (k := k) (wd := wType) (n := 7) hm hbL (by omega) (by omega) hm2 w (by exact Rd.owned 5 rfl _ hh))) rfl ?_; rintro v5 hv5; try dsimp only)
                           refine G.v (rv_move rfl) rfl (G.v (rv_extract rfl rfl) rfl (G.v (rv_extract rfl rfl) rfl (G.v (rv_assign rfl) rfl (G.v (rv_assign rfl) rfl (G.done (G.thenN (G.seq (G.block ?_))))))))
                           -- loop 1: turned [7, 8, 9], kept [2, 4, 5, 6]
                           refine G.frontR6 vp rfl ?_; refine G.frontR1 v5 rfl ?_; refine G.frontR5 iv rfl ?_; refine G.frontR5 tv rfl ?_; refine G.frontR5 pv rfl ?_; refine G.frontB5 bk6 rfl ?_; refine G.loopK (ι := Nat × ReqM × Value × Value × Value × Value) (ks := [2, 4, 5, 6]) (fun x => [(7, .int .i64 (x.1 : Int)), (8, x.2.2.2.2.2), (9, .bool (l4M (L.take m) x.1 wType 7).isSome)]) (fun x => [.blk bk6 32 (x.2.1.cells x.2.2.1 x.2.2.2.1 x.2.2.2.2.1), .row x.2.2.1 60 2 (x.2.1.pairs.map PairM.cells), .row x.2.2.2.1 37 7 (x.2.1.types.map TypeM.cells), .row x.2.2.2.2.1 44 7 (x.2.1.items.map ItemM.cells), .row x.2.2.2.2.2 3 1 (((l4M (L.take m) x.1 wType 7).getD []).map icell), .row vp 9 1 (L.map scell)]) (fun x => OrdS goTypes (L.take m) x) (fun x => m - x.1) (k, ⟨wy, ⟨pw, pd, ph, pg⟩, cl, ps, ts, ms, its⟩, pv, tv, iv, v5) (.cons rfl (.cons rfl (.cons rfl (.cons rfl (.nil))))) rfl ?_ ?_ ?_
                           · exact hS0.endWith hno0 hv5
                           · exact ⟨rfl, rfl, rfl, trivial⟩
                           rintro ⟨k, ⟨wy, ⟨pw, pd, ph, pg⟩, cl, ps, ts, ms, its⟩, pv, tv, iv, vn⟩ hS1
                           obtain ⟨hk, ⟨hn1l, hn2l, hn3l⟩, hrun1, hov1, hov2, hov3, hov4⟩ := id hS1
                           dsimp only [ReqM.cells] at hk hn1l hn2l hn3l hov1 hov2 hov3 hov4 ⊢
                           have hpsm : (ps.map PairM.cells).length = ps.length := List.length_map ..
                           have htsm : (ts.map TypeM.cells).length = ts.length := List.length_map ..
                           have hism : (its.map ItemM.cells).length = its.length := List.length_map ..
                           rw [htk2] at hk
                           all_goals
                            refine G.seq (G.seq (G.region (G.v (rv_move rfl) rfl (G.done (G.thenN ?_))))); refine G.cond rfl (fun hc => ?_) (fun hc => ?_)
                            · try exact Bool.noConfusion hc
                              all_goals
                               try replace hc := of_decide_eq_true hc
                               try (exfalso; contradiction)
                               all_goals
                                obtain ⟨nn, hnn⟩ := Option.isSome_iff_exists.1 (by simpa using hc : (l4M (L.take m) k wType 7).isSome = true); obtain ⟨a, b, c, d, e, f, g, rfl⟩ := seven_of (l4_len hnn).1; have e0 : ([a, b, c, d, e, f, g].map icell)[0]? = some (icell a) := rfl; have e1 : ([a, b, c, d, e, f, g].map icell)[1]? = some (icell b) := rfl; have e2 : ([a, b, c, d, e, f, g].map icell)[2]? = some (icell c) := rfl; have e3 : ([a, b, c, d, e, f, g].map icell)[3]? = some (icell d) := rfl; have e4 : ([a, b, c, d, e, f, g].map icell)[4]? = some (icell e) := rfl; have e5 : ([a, b, c, d, e, f, g].map icell)[5]? = some (icell f) := rfl; have e6 : ([a, b, c, d, e, f, g].map icell)[6]? = some (icell g) := rfl; have hkm := (l4_len hnn).2.1; rw [htk2] at hkm
                                refine G.frontR4 vn rfl ?_; refine G.rowEq ([a, b, c, d, e, f, g].map icell) (by rw [hnn]; rfl) rfl ?_
                                all_goals
                                 refine G.skip (G.thenN (G.block (G.seq ?_))); refine G.frontR3 tv rfl ?_; refine G.drawD1 [26, 27] rfl ?_; refine GE.q2 0 rfl (by as_aux_lemma => kernel_rfl) rfl (qg_runs (rv_field rfl)) (fun _ h => by exact h.drop 1) rfl ?_; refine GE.q2 1 rfl (by as_aux_lemma => kernel_rfl) rfl (qg_runs (rv_load1 1 rfl rfl rfl)) (fun _ h => by exact h.drop 1) rfl ?_; refine GE.q2 2 rfl (by as_aux_lemma => kernel_rfl) rfl (qg_runs (rv_move rfl)) (fun _ h => by exact h.drop 1) rfl ?_; refine GE.q2 3 rfl (by as_aux_lemma => kernel_rfl) rfl (qg_runs (rv_indexH rfl rfl (by exact Rd.owned 0 rfl) rfl (by exact e0))) (fun _ h => by exact h.drop 1) rfl ?_; refine GE.q2 4 rfl (by as_aux_lemma => kernel_rfl) rfl (qg_runs (rv_loadE rfl (by exact Rd.owned 0 rfl) (by exact e0) rfl)) (fun _ h => by exact h.drop 1) rfl ?_; refine GE.q2 5 rfl (by as_aux_lemma => kernel_rfl) rfl (qg_runs (rv_move rfl)) (fun _ h => by exact h.drop 1) rfl ?_; refine GE.q2 6 rfl (by as_aux_lemma => kernel_rfl) rfl (qg_runs (rv_indexH rfl rfl (by exact Rd.owned 0 rfl) rfl (by exact e1))) (fun _ h => by exact h.drop 1) rfl ?_; refine GE.q2 7 rfl (by as_aux_lemma => kernel_rfl) rfl (qg_runs (rv_loadE rfl (by exact Rd.owned 0 rfl) (by exact e1) rfl)) (fun _ h => by exact h.drop 1) rfl ?_; refine GE.q2 8 rfl (by as_aux_lemma => kernel_rfl) rfl (qg_runs (rv_move rfl)) (fun _ h => by exact h.drop 1) rfl ?_
                                 refine GE.q2 9 rfl (by as_aux_lemma => kernel_rfl) rfl (qg_runs (rv_indexH rfl rfl (by exact Rd.owned 0 rfl) rfl (by exact e2))) (fun _ h => by exact h.drop 1) rfl ?_; refine GE.q2 10 rfl (by as_aux_lemma => kernel_rfl) rfl (qg_runs (rv_loadE rfl (by exact Rd.owned 0 rfl) (by exact e2) rfl)) (fun _ h => by exact h.drop 1) rfl ?_; refine GE.q2 11 rfl (by as_aux_lemma => kernel_rfl) rfl (qg_runs (rv_move rfl)) (fun _ h => by exact h.drop 1) rfl ?_; refine GE.q2 12 rfl (by as_aux_lemma => kernel_rfl) rfl (qg_runs (rv_indexH rfl rfl (by exact Rd.owned 0 rfl) rfl (by exact e3))) (fun _ h => by exact h.drop 1) rfl ?_; refine GE.q2 13 rfl (by as_aux_lemma => kernel_rfl) rfl (qg_runs (rv_loadE rfl (by exact Rd.owned 0 rfl) (by exact e3) rfl)) (fun _ h => by exact h.drop 1) rfl ?_; refine GE.q2 14 rfl (by as_aux_lemma => kernel_rfl) rfl (qg_runs (rv_move rfl)) (fun _ h => by exact h.drop 1) rfl ?_; refine GE.q2 15 rfl (by as_aux_lemma => kernel_rfl) rfl (qg_runs (rv_indexH rfl rfl (by exact Rd.owned 0 rfl) rfl (by exact e4))) (fun _ h => by exact h.drop 1) rfl ?_; refine GE.q2 16 rfl (by as_aux_lemma => kernel_rfl) rfl (qg_runs (rv_loadE rfl (by exact Rd.owned 0 rfl) (by exact e4) rfl)) (fun _ h => by exact h.drop 1) rfl ?_; refine GE.q2 17 rfl (by as_aux_lemma => kernel_rfl) rfl (qg_runs (rv_move rfl)) (fun _ h => by exact h.drop 1) rfl ?_
                                 refine GE.q2 18 rfl (by as_aux_lemma => kernel_rfl) rfl (qg_runs (rv_indexH rfl rfl (by exact Rd.owned 0 rfl) rfl (by exact e5))) (fun _ h => by exact h.drop 1) rfl ?_; refine GE.q2 19 rfl (by as_aux_lemma => kernel_rfl) rfl (qg_runs (rv_loadE rfl (by exact Rd.owned 0 rfl) (by exact e5) rfl)) (fun _ h => by exact h.drop 1) rfl ?_; refine GE.ol 20 (by as_aux_lemma => kernel_rfl) rfl rfl (og_runs (rv_move rfl)) rfl (fun _ _ h => by exact h.drop 1) (fun _ _ => ?_); refine GE.ol 21 (by as_aux_lemma => kernel_rfl) rfl rfl (og_runs (rv_indexH rfl rfl (by exact Rd.owned 1 rfl) rfl (by exact e6))) rfl (fun _ _ h => by exact h.drop 1) (fun _ _ => ?_); refine GE.ol 22 (by as_aux_lemma => kernel_rfl) rfl rfl (og_runs (rv_loadE rfl (by exact Rd.owned 1 rfl) (by exact e6) rfl)) rfl (fun _ _ h => by exact h.drop 1) (fun _ _ => ?_)
                                 refine GE.ol 23 (by as_aux_lemma => kernel_rfl) rfl rfl (og_runs (rv_build2 rfl (.cons rfl (.cons rfl (.cons rfl (.cons rfl (.cons rfl (.cons rfl (.cons rfl .nil))))))) (.cons rfl rfl (.zero (.cons .nil)) (.cons rfl rfl (.succ (.zero (.cons .nil))) (.cons rfl rfl (.succ (.succ (.zero (.cons .nil)))) (.cons rfl rfl (.succ (.succ (.succ (.zero (.cons .nil))))) (.cons rfl rfl (.succ (.succ (.succ (.succ (.zero (.cons .nil)))))) (.cons rfl rfl (.succ (.succ (.succ (.succ (.succ (.zero (.cons .nil))))))) (.cons rfl rfl (.succ (.succ (.succ (.succ (.succ (.succ (.zero (.cons .nil)))))))) .nil))))))))) rfl (fun _ _ h => by exact h.drop 1) (fun _ _ => ?_); refine GE.ol 24 (by as_aux_lemma => kernel_rfl) rfl rfl (og_lit rfl (.cons rfl .nil) rfl rfl rfl rfl rfl rfl) rfl (fun _ _ h => by exact h.drop 2) (fun vl _ => ?_); refine GE.ol 25 (by as_aux_lemma => kernel_rfl) rfl rfl (og_app1 rfl rfl rfl (by exact Rd.owned 0 rfl) rfl rfl (by (simp; omega)) (by (simp; omega))) rfl (fun _ _ h => by exact h.drop 2) (fun vt2 _ => ?_); refine GE.knowP (fun w hw => by exact (Rd.owned 1 rfl (v := vt2) w hw).one_) (fun hovt2 => ?_); refine GE.t 26 (by as_aux_lemma => kernel_rfl) rfl rfl rfl (og_runs (rv_field rfl)) rfl (fun _ _ => ?_)
                                 refine GE.t0 27 (by as_aux_lemma => kernel_rfl) rfl rfl rfl (og_st3 rfl rfl rfl (cells_one (by assumption)) rfl (by repeat (first | rfl | refine one_cons (by assumption) ?_)) (.succ (.succ (.succ (.succ (.succ (.succ (.succ (.zero (.cons .nil)))))))))) (fun _ _ => ?_); refine GE.done (by as_aux_lemma => kernel_rfl) ?_; refine G.thenN (G.seq (G.region (G.v (rv_move rfl) rfl ?_))); refine G.v (rv_incr rfl rfl (by omega)) rfl ?_; refine G.v (rv_assign rfl) rfl (G.done (G.thenN (G.region (G.v (rv_move rfl) rfl (G.v (rv_move rfl) rfl ?_)))))
                                 (refine G.op (og_callF1 rfl rfl (fun w hh => l4Line_any (L := L) (m := m) (k := (k + 1)) (wd := wType) (n := 7) hm hbL (by omega) (by omega) hm2 w (by exact Rd.owned 6 rfl _ hh))) rfl ?_; rintro v6 hv6; try dsimp only)
                                 refine G.v (rv_move rfl) rfl (G.v (rv_extract rfl rfl) rfl (G.v (rv_extract rfl rfl) rfl (G.v (rv_assign rfl) rfl (G.v (rv_assign rfl) rfl (G.done (G.inN ?_)))))); refine G.frontR7 vp rfl ?_; refine G.frontR1 v6 rfl ?_; refine G.frontR7 iv rfl ?_; refine G.frontR4 vt2 rfl ?_; refine G.rowEq ((ts ++ [(⟨a, b, c, d, e, f, g⟩ : TypeM)]).map TypeM.cells) (List.map_append (f := TypeM.cells) (l₁ := ts) (l₂ := [⟨a, b, c, d, e, f, g⟩])).symm rfl ?_; refine G.frontR7 pv rfl ?_; refine G.frontB7 bk6 rfl ?_
                                 (refine keep6O 2 rfl ?_; refine G.backK (k + 1, putType ⟨wy, ⟨pw, pd, ph, pg⟩, cl, ps, ts, ms, its⟩ [a, b, c, d, e, f, g], pv, vt2, iv, v6) 0 rfl (.cons rfl (.cons rfl (.cons rfl (.cons rfl (.nil))))) ?_ ?_ ?_)
                                 · exact ⟨rfl, rfl, rfl, trivial⟩
                                 · exact hS1.nextTypes hnn hovt2 hv6
                                 · dsimp only; omega
                            · try exact Bool.noConfusion hc
                              all_goals
                               try replace hc := of_decide_eq_false hc
                               try (exfalso; contradiction)
                               all_goals
                                have hno1 : l4M (L.take m) k wType 7 = none := none_of (by simpa using hc)
                                all_goals
                                 refine G.exit (G.thenX (G.thenX (G.inX (G.thenN (G.seq (G.region (G.v (rv_move rfl) rfl (G.v (rv_move rfl) rfl ?_))))))))
                                 (refine G.op (og_callF1 rfl rfl (fun w hh => l4Line_any (L := L) (m := m) (k := k) (wd := wMaster) (n := 1) hm hbL (by omega) (by omega) hm2 w (by exact Rd.owned 5 rfl _ hh))) rfl ?_; rintro v7 hv7; try dsimp only)
                                 refine G.v (rv_move rfl) rfl (G.v (rv_extract rfl rfl) rfl (G.v (rv_extract rfl rfl) rfl (G.v (rv_assign rfl) rfl (G.v (rv_assign rfl) rfl (G.done (G.thenN (G.seq (G.seq (G.region (G.v (rv_move rfl) rfl (G.v (rv_not rfl) rfl ?_))))))))))); refine G.done (G.thenN ?_); refine G.cond rfl (fun hc => ?_) (fun hc => ?_)
                                 · try exact Bool.noConfusion hc
                                   all_goals
                                    try replace hc := of_decide_eq_true hc
                                    try (exfalso; contradiction)
                                    all_goals
                                     have hno : goWay (L.take m) = none := (hS1.endTypes hno1 hv7).noMaster (none_of (by simpa using hc))
                                     all_goals
                                      refine G.seq (G.region ?_); refine G.v (rv_build2 rfl .nil .nil) rfl ?_; refine G.v (rv_move rfl) rfl ?_; refine G.op0 (og_st10 rfl rfl rfl rfl rfl (by repeat (rfl)) (.zero (.cons (.cons (.cons (.cons (.cons (.cons (.cons (.cons (.cons (.cons .nil)))))))))))) (fun _ _ => ?_); refine G.v (rv_assign rfl) rfl (G.done (G.thenN (G.ret (G.thenR ?_))))
                                      (have hno9 : readM l = none := hrr hno; refine G.heap (fun w hh => hh.nilRow 60 2) ?_; refine G.heap (fun w hh => hh.nilRow 37 7) ?_; refine G.heap (fun w hh => hh.nilRow 44 7) ?_; exact G.retL ((reqZ, .slice none 0 0, .slice none 0 0, .slice none 0 0), (k : Int)) (OrdR.no hno9 (Int.natCast_nonneg _)) rfl (.cons (by exact .cell 13 rfl rfl rfl) (.cons (.tmp rfl) .nil)) rfl (fun w hh => hh.sublist (by repeat (first | exact List.Sublist.refl _ | refine List.Sublist.cons_cons _ ?_ | refine List.Sublist.cons _ ?_))))
                                 · try exact Bool.noConfusion hc
                                   all_goals
                                    try replace hc := of_decide_eq_false hc
                                    try (exfalso; contradiction)
                                    all_goals
                                     obtain ⟨n3, hn3⟩ := Option.isSome_iff_exists.1 (by simpa using hc : (l4M (L.take m) k wMaster 1).isSome = true); obtain ⟨mm, rfl⟩ := one_of (l4_len hn3).1; have e0 : ([mm].map icell)[0]? = some (icell mm) := rfl; have hmk3 := (l4_len hn3).2.1; rw [htk2] at hmk3
                                     refine G.frontR0 v7 rfl ?_; refine G.rowEq ([mm].map icell) (by rw [hn3]; rfl) rfl ?_
                                     all_goals
                                      refine G.skip (G.thenN (G.seq (G.region (G.v (rv_move rfl) rfl ?_)))); refine G.v (rv_indexH rfl rfl (by exact Rd.owned 0 rfl) rfl (by exact e0)) rfl ?_; refine G.v (rv_loadE rfl (by exact Rd.owned 0 rfl) (by exact e0) rfl) rfl ?_; refine G.v (rv_field rfl) rfl ?_; refine G.op0 (og_st1 rfl rfl rfl rfl rfl rfl (.succ (.succ (.succ (.succ (.succ (.succ (.succ (.succ (.zero (.cons .nil))))))))))) (fun _ _ => ?_); refine G.done (G.thenN (G.seq (G.region (G.v (rv_move rfl) rfl ?_)))); refine G.v (rv_incr rfl rfl (by omega)) rfl ?_; refine G.v (rv_assign rfl) rfl (G.done (G.thenN (G.seq (G.region (G.v (rv_move rfl) rfl (G.v (rv_move rfl) rfl ?_))))))
                                      (refine G.op (og_callF1 rfl rfl (fun w hh => l4Line_any (L := L) (m := m) (k := (k + 1)) (wd := wItem) (n := 7) hm hbL (by omega) (by omega) hm2 w (by exact Rd.owned 6 rfl _ hh))) rfl ?_; rintro v8 hv8; try dsimp only)
                                      refine G.v (rv_move rfl) rfl (G.v (rv_extract rfl rfl) rfl (G.v (rv_extract rfl rfl) rfl (G.v (rv_assign rfl) rfl (G.v (rv_assign rfl) rfl (G.done (G.thenN (G.seq (G.block ?_))))))))
                                      -- loop 2: turned [7, 8, 9], kept [2, 4, 5, 6]
                                      refine G.frontR7 vp rfl ?_; refine G.frontR1 v8 rfl ?_; refine G.frontR6 iv rfl ?_; refine G.frontR6 tv rfl ?_; refine G.frontR6 pv rfl ?_; refine G.frontB6 bk6 rfl ?_; refine G.loopK (ι := Nat × ReqM × Value × Value × Value × Value) (ks := [2, 4, 5, 6]) (fun x => [(7, .int .i64 (x.1 : Int)), (8, x.2.2.2.2.2), (9, .bool (l4M (L.take m) x.1 wItem 7).isSome)]) (fun x => [.blk bk6 32 (x.2.1.cells x.2.2.1 x.2.2.2.1 x.2.2.2.2.1), .row x.2.2.1 60 2 (x.2.1.pairs.map PairM.cells), .row x.2.2.2.1 37 7 (x.2.1.types.map TypeM.cells), .row x.2.2.2.2.1 44 7 (x.2.1.items.map ItemM.cells), .row x.2.2.2.2.2 3 1 (((l4M (L.take m) x.1 wItem 7).getD []).map icell), .row vp 9 1 (L.map scell)]) (fun x => OrdS goItems (L.take m) x) (fun x => m - x.1) (k + 1, putMaster ⟨wy, ⟨pw, pd, ph, pg⟩, cl, ps, ts, ms, its⟩ [mm], pv, tv, iv, v8) (.cons rfl (.cons rfl (.cons rfl (.cons rfl (.nil))))) rfl ?_ ?_ ?_
                                      · exact (hS1.endTypes hno1 hv7).master hn3 hv8
                                      · exact ⟨rfl, rfl, rfl, trivial⟩
                                      rintro ⟨k, ⟨wy, ⟨pw, pd, ph, pg⟩, cl, ps, ts, ms, its⟩, pv, tv, iv, vn⟩ hS2
                                      obtain ⟨hk, ⟨hn1l, hn2l, hn3l⟩, hrun2, hov1, hov2, hov3, hov4⟩ := id hS2
                                      dsimp only [ReqM.cells] at hk hn1l hn2l hn3l hov1 hov2 hov3 hov4 ⊢
                                      have hpsm : (ps.map PairM.cells).length = ps.length := List.length_map ..
                                      have htsm : (ts.map TypeM.cells).length = ts.length := List.length_map ..
                                      have hism : (its.map ItemM.cells).length = its.length := List.length_map ..
                                      rw [htk2] at hk
                                      all_goals
                                       refine G.seq (G.seq (G.region (G.v (rv_move rfl) rfl (G.done (G.thenN ?_))))); refine G.cond rfl (fun hc => ?_) (fun hc => ?_)
                                       · try exact Bool.noConfusion hc
                                         all_goals
                                          try replace hc := of_decide_eq_true hc
                                          try (exfalso; contradiction)
                                          all_goals
                                           obtain ⟨nn, hnn⟩ := Option.isSome_iff_exists.1 (by simpa using hc : (l4M (L.take m) k wItem 7).isSome = true); obtain ⟨a, b, c, d, e, f, g, rfl⟩ := seven_of (l4_len hnn).1; have e0 : ([a, b, c, d, e, f, g].map icell)[0]? = some (icell a) := rfl; have e1 : ([a, b, c, d, e, f, g].map icell)[1]? = some (icell b) := rfl; have e2 : ([a, b, c, d, e, f, g].map icell)[2]? = some (icell c) := rfl; have e3 : ([a, b, c, d, e, f, g].map icell)[3]? = some (icell d) := rfl; have e4 : ([a, b, c, d, e, f, g].map icell)[4]? = some (icell e) := rfl; have e5 : ([a, b, c, d, e, f, g].map icell)[5]? = some (icell f) := rfl; have e6 : ([a, b, c, d, e, f, g].map icell)[6]? = some (icell g) := rfl; have hkm := (l4_len hnn).2.1; rw [htk2] at hkm
                                           refine G.frontR4 vn rfl ?_; refine G.rowEq ([a, b, c, d, e, f, g].map icell) (by rw [hnn]; rfl) rfl ?_
                                           all_goals
                                            refine G.skip (G.thenN (G.block (G.seq ?_))); refine G.frontR4 iv rfl ?_; refine G.drawD1 [26, 27] rfl ?_; refine GE.q2 0 rfl (by as_aux_lemma => kernel_rfl) rfl (qg_runs (rv_field rfl)) (fun _ h => by exact h.drop 1) rfl ?_; refine GE.q2 1 rfl (by as_aux_lemma => kernel_rfl) rfl (qg_runs (rv_load1 1 rfl rfl rfl)) (fun _ h => by exact h.drop 1) rfl ?_; refine GE.q2 2 rfl (by as_aux_lemma => kernel_rfl) rfl (qg_runs (rv_move rfl)) (fun _ h => by exact h.drop 1) rfl ?_; refine GE.q2 3 rfl (by as_aux_lemma => kernel_rfl) rfl (qg_runs (rv_indexH rfl rfl (by exact Rd.owned 0 rfl) rfl (by exact e0))) (fun _ h => by exact h.drop 1) rfl ?_; refine GE.q2 4 rfl (by as_aux_lemma => kernel_rfl) rfl (qg_runs (rv_loadE rfl (by exact Rd.owned 0 rfl) (by exact e0) rfl)) (fun _ h => by exact h.drop 1) rfl ?_; refine GE.q2 5 rfl (by as_aux_lemma => kernel_rfl) rfl (qg_runs (rv_move rfl)) (fun _ h => by exact h.drop 1) rfl ?_; refine GE.q2 6 rfl (by as_aux_lemma => kernel_rfl) rfl (qg_runs (rv_indexH rfl rfl (by exact Rd.owned 0 rfl) rfl (by exact e1))) (fun _ h => by exact h.drop 1) rfl ?_; refine GE.q2 7 rfl (by as_aux_lemma => kernel_rfl) rfl (qg_runs (rv_loadE rfl (by exact Rd.owned 0 rfl) (by exact e1) rfl)) (fun _ h => by exact h.drop 1) rfl ?_; refine GE.q2 8 rfl (by as_aux_lemma => kernel_rfl) rfl (qg_runs (rv_move rfl)) (fun _ h => by exact h.drop 1) rfl ?_
                                            refine GE.q2 9 rfl (by as_aux_lemma => kernel_rfl) rfl (qg_runs (rv_indexH rfl rfl (by exact Rd.owned 0 rfl) rfl (by exact e2))) (fun _ h => by exact h.drop 1) rfl ?_; refine GE.q2 10 rfl (by as_aux_lemma => kernel_rfl) rfl (qg_runs (rv_loadE rfl (by exact Rd.owned 0 rfl) (by exact e2) rfl)) (fun _ h => by exact h.drop 1) rfl ?_; refine GE.q2 11 rfl (by as_aux_lemma => kernel_rfl) rfl (qg_runs (rv_move rfl)) (fun _ h => by exact h.drop 1) rfl ?_; refine GE.q2 12 rfl (by as_aux_lemma => kernel_rfl) rfl (qg_runs (rv_indexH rfl rfl (by exact Rd.owned 0 rfl) rfl (by exact e3))) (fun _ h => by exact h.drop 1) rfl ?_; refine GE.q2 13 rfl (by as_aux_lemma => kernel_rfl) rfl (qg_runs (rv_loadE rfl (by exact Rd.owned 0 rfl) (by exact e3) rfl)) (fun _ h => by exact h.drop 1) rfl ?_; refine GE.q2 14 rfl (by as_aux_lemma => kernel_rfl) rfl (qg_runs (rv_move rfl)) (fun _ h => by exact h.drop 1) rfl ?_; refine GE.q2 15 rfl (by as_aux_lemma => kernel_rfl) rfl (qg_runs (rv_indexH rfl rfl (by exact Rd.owned 0 rfl) rfl (by exact e4))) (fun _ h => by exact h.drop 1) rfl ?_; refine GE.q2 16 rfl (by as_aux_lemma => kernel_rfl) rfl (qg_runs (rv_loadE rfl (by exact Rd.owned 0 rfl) (by exact e4) rfl)) (fun _ h => by exact h.drop 1) rfl ?_; refine GE.q2 17 rfl (by as_aux_lemma => kernel_rfl) rfl (qg_runs (rv_move rfl)) (fun _ h => by exact h.drop 1) rfl ?_
                                            refine GE.q2 18 rfl (by as_aux_lemma => kernel_rfl) rfl (qg_runs (rv_indexH rfl rfl (by exact Rd.owned 0 rfl) rfl (by exact e5))) (fun _ h => by exact h.drop 1) rfl ?_; refine GE.q2 19 rfl (by as_aux_lemma => kernel_rfl) rfl (qg_runs (rv_loadE rfl (by exact Rd.owned 0 rfl) (by exact e5) rfl)) (fun _ h => by exact h.drop 1) rfl ?_; refine GE.ol 20 (by as_aux_lemma => kernel_rfl) rfl rfl (og_runs (rv_move rfl)) rfl (fun _ _ h => by exact h.drop 1) (fun _ _ => ?_); refine GE.ol 21 (by as_aux_lemma => kernel_rfl) rfl rfl (og_runs (rv_indexH rfl rfl (by exact Rd.owned 1 rfl) rfl (by exact e6))) rfl (fun _ _ h => by exact h.drop 1) (fun _ _ => ?_); refine GE.ol 22 (by as_aux_lemma => kernel_rfl) rfl rfl (og_runs (rv_loadE rfl (by exact Rd.owned 1 rfl) (by exact e6) rfl)) rfl (fun _ _ h => by exact h.drop 1) (fun _ _ => ?_)
                                            refine GE.ol 23 (by as_aux_lemma => kernel_rfl) rfl rfl (og_runs (rv_build2 rfl (.cons rfl (.cons rfl (.cons rfl (.cons rfl (.cons rfl (.cons rfl (.cons rfl .nil))))))) (.cons rfl rfl (.zero (.cons .nil)) (.cons rfl rfl (.succ (.zero (.cons .nil))) (.cons rfl rfl (.succ (.succ (.zero (.cons .nil)))) (.cons rfl rfl (.succ (.succ (.succ (.zero (.cons .nil))))) (.cons rfl rfl (.succ (.succ (.succ (.succ (.zero (.cons .nil)))))) (.cons rfl rfl (.succ (.succ (.succ (.succ (.succ (.zero (.cons .nil))))))) (.cons rfl rfl (.succ (.succ (.succ (.succ (.succ (.succ (.zero (.cons .nil)))))))) .nil))))))))) rfl (fun _ _ h => by exact h.drop 1) (fun _ _ => ?_); refine GE.ol 24 (by as_aux_lemma => kernel_rfl) rfl rfl (og_lit rfl (.cons rfl .nil) rfl rfl rfl rfl rfl rfl) rfl (fun _ _ h => by exact h.drop 2) (fun vl _ => ?_); refine GE.ol 25 (by as_aux_lemma => kernel_rfl) rfl rfl (og_app1 rfl rfl rfl (by exact Rd.owned 0 rfl) rfl rfl (by (simp; omega)) (by (simp; omega))) rfl (fun _ _ h => by exact h.drop 2) (fun vi2 _ => ?_); refine GE.knowP (fun w hw => by exact (Rd.owned 1 rfl (v := vi2) w hw).one_) (fun hovi2 => ?_); refine GE.t 26 (by as_aux_lemma => kernel_rfl) rfl rfl rfl (og_runs (rv_field rfl)) rfl (fun _ _ => ?_)
                                            refine GE.t0 27 (by as_aux_lemma => kernel_rfl) rfl rfl rfl (og_st3 rfl rfl rfl (cells_one (by assumption)) rfl (by repeat (first | rfl | refine one_cons (by assumption) ?_)) (.succ (.succ (.succ (.succ (.succ (.succ (.succ (.succ (.succ (.zero (.cons .nil)))))))))))) (fun _ _ => ?_); refine GE.done (by as_aux_lemma => kernel_rfl) ?_; refine G.thenN (G.seq (G.region (G.v (rv_move rfl) rfl ?_))); refine G.v (rv_incr rfl rfl (by omega)) rfl ?_; refine G.v (rv_assign rfl) rfl (G.done (G.thenN (G.region (G.v (rv_move rfl) rfl (G.v (rv_move rfl) rfl ?_)))))
                                            (refine G.op (og_callF1 rfl rfl (fun w hh => l4Line_any (L := L) (m := m) (k := (k + 1)) (wd := wItem) (n := 7) hm hbL (by omega) (by omega) hm2 w (by exact Rd.owned 6 rfl _ hh))) rfl ?_; rintro v9 hv9; try dsimp only)
                                            refine G.v (rv_move rfl) rfl (G.v (rv_extract rfl rfl) rfl (G.v (rv_extract rfl rfl) rfl (G.v (rv_assign rfl) rfl (G.v (rv_assign rfl) rfl (G.done (G.inN ?_)))))); refine G.frontR7 vp rfl ?_; refine G.frontR1 v9 rfl ?_; refine G.frontR3 vi2 rfl ?_; refine G.rowEq ((its ++ [(⟨a, b, c, d, e, f, g⟩ : ItemM)]).map ItemM.cells) (List.map_append (f := ItemM.cells) (l₁ := its) (l₂ := [⟨a, b, c, d, e, f, g⟩])).symm rfl ?_; refine G.frontR7 tv rfl ?_; refine G.frontR7 pv rfl ?_; refine G.frontB7 bk6 rfl ?_
                                            (refine keep6O 2 rfl ?_; refine G.backK (k + 1, putItem ⟨wy, ⟨pw, pd, ph, pg⟩, cl, ps, ts, ms, its⟩ [a, b, c, d, e, f, g], pv, tv, vi2, v9) 0 rfl (.cons rfl (.cons rfl (.cons rfl (.cons rfl (.nil))))) ?_ ?_ ?_)
                                            · exact ⟨rfl, rfl, rfl, trivial⟩
                                            · exact hS2.nextItems hnn hovi2 hv9
                                            · dsimp only; omega
                                       · try exact Bool.noConfusion hc
                                         all_goals
                                          try replace hc := of_decide_eq_false hc
                                          try (exfalso; contradiction)
                                          all_goals
                                           have hno2 : l4M (L.take m) k wItem 7 = none := none_of (by simpa using hc); have hend := hS2.endItems hno2; rw [htk2] at hend
                                           all_goals
                                            refine G.exit (G.thenX (G.thenX (G.inX (G.thenN (G.seq (G.seq (G.region (G.v (rv_move rfl) rfl (G.v (rv_move rfl) rfl (G.v (rv_lss rfl rfl) rfl (G.v (rv_move rfl) rfl ?_)))))))))))
                                            all_goals (((with_reducible refine G.gP rfl rfl (fun hg => ?_) (fun hg => ?_)) <;> (try exact Bool.noConfusion hg) <;> (try (exfalso; (have hq := of_decide_eq_false hg; omega))) <;> (first | (refine G.gY rfl rfl ?_; refine G.v (rv_move rfl) rfl ?_) | refine G.gN rfl rfl rfl ?_)))
                                            all_goals ((first | (refine G.gY rfl rfl ?_; refine G.v (rv_move rfl) rfl ?_) | refine G.gN rfl rfl rfl ?_))
                                            all_goals ((first | (refine G.gY rfl rfl ?_; refine G.v (rv_indexH (k := m) rfl rfl (by exact Rd.owned 5 rfl) rfl hez) rfl ?_) | refine G.gN rfl rfl rfl ?_))
                                            all_goals ((first | (refine G.gY rfl rfl ?_; refine G.v (rv_loadE rfl (by exact Rd.owned 5 rfl) (by exact hez) rfl) rfl ?_) | refine G.gN rfl rfl rfl ?_))
                                            all_goals ((first | (refine G.gY rfl rfl ?_; refine G.v (rv_neqS rfl rfl) rfl ?_) | refine G.gN rfl rfl rfl ?_))
                                            all_goals ((first | refine G.v (rv_pickT rfl rfl) rfl ?_ | refine G.v (rv_pickF rfl rfl) rfl ?_))
                                            all_goals
                                             refine G.done (G.thenN ?_); refine G.cond rfl (fun hc => ?_) (fun hc => ?_)
                                             · try exact Bool.noConfusion hc
                                               all_goals
                                                try replace hc := of_decide_eq_true hc
                                                try (exfalso; contradiction)
                                                all_goals
                                                 refine G.seq (G.region ?_); refine G.v (rv_build2 rfl .nil .nil) rfl ?_; refine G.v (rv_move rfl) rfl ?_; refine G.op0 (og_st11 rfl rfl rfl rfl rfl (by repeat (rfl)) (.zero (.cons (.cons (.cons (.cons (.cons (.cons (.cons (.cons (.cons (.cons .nil)))))))))))) (fun _ _ => ?_); refine G.v (rv_assign rfl) rfl (G.done (G.thenN (G.ret (G.thenR ?_))))
                                                 (have hno9 : readM l = none := (by first | exact hrr (hend.trans (if_pos (by have hq9 := of_decide_eq_true hg; omega))) | exact hro (fun e => by have e2 := Option.some.inj (hla.symm.trans e.2); simp_all)); refine G.heap (fun w hh => hh.nilRow 60 2) ?_; refine G.heap (fun w hh => hh.nilRow 37 7) ?_; refine G.heap (fun w hh => hh.nilRow 44 7) ?_; exact G.retL ((reqZ, .slice none 0 0, .slice none 0 0, .slice none 0 0), (k : Int)) (OrdR.no hno9 (Int.natCast_nonneg _)) rfl (.cons (by exact .cell 14 rfl rfl rfl) (.cons (.tmp rfl) .nil)) rfl (fun w hh => hh.sublist (by repeat (first | exact List.Sublist.refl _ | refine List.Sublist.cons_cons _ ?_ | refine List.Sublist.cons _ ?_))))
                                             · try exact Bool.noConfusion hc
                                               all_goals
                                                try replace hc := of_decide_eq_false hc
                                                try (exfalso; contradiction)
                                                all_goals
                                                 refine G.skip (G.thenN (G.seq (G.region (G.v (rv_loadW 0 rfl rfl rfl) rfl ?_)))); refine G.op0 (og_st11 rfl rfl rfl rfl rfl (by repeat (first | rfl | refine one_cons (by first | rfl | assumption) ?_)) (.zero (.cons (.cons (.cons (.cons (.cons (.cons (.cons (.cons (.cons (.cons .nil)))))))))))) (fun _ _ => ?_); refine G.v (rv_assign rfl) rfl (G.done (G.thenN (G.ret ?_)))
                                                 (have hyes : readM l = some ⟨wy, ⟨pw, pd, ph, pg⟩, cl, ps, ts, ms, its⟩ := hry _ (hend.trans (if_neg (by have hq9 := of_decide_eq_false hg; omega))) (by omega) (by rw [hla]; simp_all); (refine G.frontR1 pv rfl ?_); (refine G.frontR2 tv rfl ?_); (refine G.frontR3 iv rfl ?_); exact G.retL ((⟨wy, ⟨pw, pd, ph, pg⟩, cl, ps, ts, ms, its⟩, pv, tv, iv), -1) ⟨⟨hov1, hov2, hov3⟩, .inr ⟨hyes, rfl⟩⟩ rfl (.cons (by exact .cell 11 rfl rfl rfl) (.cons (.tmp rfl) .nil)) rfl (fun w hh => hh.sublist (by repeat (first | exact List.Sublist.refl _ | refine List.Sublist.cons_cons _ ?_ | refine List.Sublist.cons _ ?_))))
end Go.Proofs.YtnfokjlplbbbeaaGreatDoor

/-
  What is wrong with a text of an order: both ways, and the law.
-/
namespace Go.Proofs.YtnfokjlplbbbeaaGreatDoor
open Go.RowKit Go.Lib
theorem ord_class {l : List UInt8} {r : ReqM} {pv tv iv : Value} {k : Int} (h : OrdR l ((r, pv, tv, iv), k)) : (0 ≤ k → classOfM l = 1) ∧ (¬ 0 ≤ k → classOfM l = classM r) := by
  obtain ⟨_, h | h⟩ := h
  · exact ⟨fun _ => class_no h.1, fun e => absurd h.2 e⟩
  · refine ⟨fun e => ?_, fun _ => class_yes h.1⟩
    have h2 : k = -1 := h.2
    omega
attribute [local irreducible] Go.wpList Go.Code.wp Go.Exit.then Go.Exit.inBlock Go.bodyPost Go.Calls pE pB G RunsV FnV Fn FnM
set_option maxRecDepth 100000
set_option maxHeartbeats 4000000
theorem classOf_any {l : List UInt8} (hl : l.length ≤ 1048576) (w : World) (ht : TabI w) (hte : TabE w) : FnV Tryz.prog 6 [sv l] w (.int .i64 (classOfM l)) := by
  refine FnV.of (n := 14) Tryz.func6 rfl rfl ?_; refine G.seq (G.region (G.v (rv_assign rfl) rfl (G.done (G.thenN (G.seq (G.region (G.v (rv_move rfl) rfl ?_)))))))
  (refine G.op (og_callF3 rfl rfl (fun w hh => readOrder_any hl w (ht.stays hh) (hte.stays hh))) rfl ?_; rintro ⟨⟨r, pv, tv, iv⟩, pl⟩ hor; try dsimp only)
  obtain ⟨hy1, hy2⟩ := ord_class hor; obtain ⟨hop, hot, hoi⟩ := hor.1; dsimp only at hop hot hoi
  refine G.v (rv_move rfl) rfl (G.v (rv_extract rfl rfl) rfl (G.v (rv_extract rfl rfl) rfl ?_)); refine G.op (og_alloc) rfl (fun bk3 _ => ?_)
  (first | refine G.op0 (og_st0 rfl rfl rfl rfl rfl (by repeat (first | rfl | refine one_cons (by first | rfl | assumption) ?_)) (.zero (.cons (.cons (.cons (.cons (.cons (.cons (.cons (.cons (.cons (.cons .nil)))))))))))) (fun _ _ => ?_) | refine G.op0 (og_st1 rfl rfl rfl rfl rfl (by repeat (first | rfl | refine one_cons (by first | rfl | assumption) ?_)) (.zero (.cons (.cons (.cons (.cons (.cons (.cons (.cons (.cons (.cons (.cons .nil)))))))))))) (fun _ _ => ?_) | refine G.op0 (og_st2 rfl rfl rfl rfl rfl (by repeat (first | rfl | refine one_cons (by first | rfl | assumption) ?_)) (.zero (.cons (.cons (.cons (.cons (.cons (.cons (.cons (.cons (.cons (.cons .nil)))))))))))) (fun _ _ => ?_) | refine G.op0 (og_st3 rfl rfl rfl rfl rfl (by repeat (first | rfl | refine one_cons (by first | rfl | assumption) ?_)) (.zero (.cons (.cons (.cons (.cons (.cons (.cons (.cons (.cons (.cons (.cons .nil)))))))))))) (fun _ _ => ?_) | refine G.op0 (og_st4 rfl rfl rfl rfl rfl (by repeat (first | rfl | refine one_cons (by first | rfl | assumption) ?_)) (.zero (.cons (.cons (.cons (.cons (.cons (.cons (.cons (.cons (.cons (.cons .nil)))))))))))) (fun _ _ => ?_))
  refine G.v (rv_assign rfl) rfl (G.done (G.thenN (G.seq (G.seq (G.region (G.v (rv_move rfl) rfl (G.v (rv_geq rfl rfl) rfl (G.done (G.thenN ?_))))))))); refine G.cond rfl (fun hc => ?_) (fun hc => ?_)
  · try exact Bool.noConfusion hc
    all_goals
     try replace hc := of_decide_eq_true hc
     try (exfalso; first | contradiction | omega)
     all_goals
      refine G.seq (G.region (G.v (rv_assign rfl) rfl (G.done (G.thenN (G.ret (G.thenR ?_))))))
      first | exact G.retFV rfl rfl (congrArg (Value.int .i64) (hy1 (by omega)).symm) | exact G.retFV rfl rfl (congrArg (Value.int .i64) (hy2 (by omega)).symm)
  · try exact Bool.noConfusion hc
    all_goals
     try replace hc := of_decide_eq_false hc
     try (exfalso; first | contradiction | omega)
     all_goals
      refine G.skip (G.thenN (G.seq (G.region ?_)))
      (first | refine G.v (rv_loadW 0 rfl rfl rfl) rfl ?_ | refine G.v (rv_loadW 1 rfl rfl rfl) rfl ?_ | refine G.v (rv_loadW 2 rfl rfl rfl) rfl ?_ | refine G.v (rv_loadW 3 rfl rfl rfl) rfl ?_ | refine G.v (rv_loadW 4 rfl rfl rfl) rfl ?_ | refine G.v (rv_loadP 0 rfl rfl (.one (.one (.one (.one (.one (.one (.one (.one (.one (.one .nil))))))))))) rfl ?_ | refine G.v (rv_loadP 1 rfl rfl (.one (.one (.one (.one (.one (.one (.one (.one (.one (.one .nil))))))))))) rfl ?_ | refine G.v (rv_loadP 2 rfl rfl (.one (.one (.one (.one (.one (.one (.one (.one (.one (.one .nil))))))))))) rfl ?_ | refine G.v (rv_loadP 3 rfl rfl (.one (.one (.one (.one (.one (.one (.one (.one (.one (.one .nil))))))))))) rfl ?_ | refine G.v (rv_loadP 4 rfl rfl (.one (.one (.one (.one (.one (.one (.one (.one (.one (.one .nil))))))))))) rfl ?_)
      refine G.op (og_callV rfl rfl (fun w hh => class_any (r := r) w (by first | exact Rd.stays (by assumption) _ hh | exact Rd.owned 0 rfl _ hh | exact Rd.owned 1 rfl _ hh | exact Rd.owned 2 rfl _ hh | exact Rd.owned 3 rfl _ hh | exact Rd.owned 4 rfl _ hh | exact Rd.owned 5 rfl _ hh | exact Rd.owned 6 rfl _ hh | exact Rd.owned 7 rfl _ hh | exact Rd.owned 8 rfl _ hh | exact Rd.owned 9 rfl _ hh | exact Rd.owned 10 rfl _ hh | exact Rd.owned 11 rfl _ hh | exact Rd.owned 12 rfl _ hh | exact Rd.owned 13 rfl _ hh | exact Rd.owned 14 rfl _ hh | exact Rd.owned 15 rfl _ hh) (by first | exact Rd.stays (by assumption) _ hh | exact Rd.owned 0 rfl _ hh | exact Rd.owned 1 rfl _ hh | exact Rd.owned 2 rfl _ hh | exact Rd.owned 3 rfl _ hh | exact Rd.owned 4 rfl _ hh | exact Rd.owned 5 rfl _ hh | exact Rd.owned 6 rfl _ hh | exact Rd.owned 7 rfl _ hh | exact Rd.owned 8 rfl _ hh | exact Rd.owned 9 rfl _ hh | exact Rd.owned 10 rfl _ hh | exact Rd.owned 11 rfl _ hh | exact Rd.owned 12 rfl _ hh | exact Rd.owned 13 rfl _ hh | exact Rd.owned 14 rfl _ hh | exact Rd.owned 15 rfl _ hh) (by first | exact Rd.stays (by assumption) _ hh | exact Rd.owned 0 rfl _ hh | exact Rd.owned 1 rfl _ hh | exact Rd.owned 2 rfl _ hh | exact Rd.owned 3 rfl _ hh | exact Rd.owned 4 rfl _ hh | exact Rd.owned 5 rfl _ hh | exact Rd.owned 6 rfl _ hh | exact Rd.owned 7 rfl _ hh | exact Rd.owned 8 rfl _ hh | exact Rd.owned 9 rfl _ hh | exact Rd.owned 10 rfl _ hh | exact Rd.owned 11 rfl _ hh | exact Rd.owned 12 rfl _ hh | exact Rd.owned 13 rfl _ hh | exact Rd.owned 14 rfl _ hh | exact Rd.owned 15 rfl _ hh))) rfl (fun _ _ => ?_)
      refine G.v (rv_assign rfl) rfl (G.done (G.thenN (G.ret ?_)))
      first | exact G.retFV rfl rfl (congrArg (Value.int .i64) (hy1 (by omega)).symm) | exact G.retFV rfl rfl (congrArg (Value.int .i64) (hy2 (by omega)).symm)
theorem sclassOf_any {l : List UInt8} (hl : l.length ≤ 1048576) (w : World) : FnV Tryz.prog 5 [sv l] w (.int .i64 (classOfM l)) := by
  refine FnV.of (n := 14) Tryz.func5 rfl rfl ?_; refine G.seq (G.region (G.v (rv_assign rfl) rfl (G.done (G.thenN (G.seq (G.region (G.v (rv_move rfl) rfl ?_)))))))
  (refine G.op (og_callF3 rfl rfl (fun w hh => sreadOrder_any hl w)) rfl ?_; rintro ⟨⟨r, pv, tv, iv⟩, pl⟩ hor; try dsimp only)
  obtain ⟨hy1, hy2⟩ := ord_class hor; obtain ⟨hop, hot, hoi⟩ := hor.1; dsimp only at hop hot hoi
  refine G.v (rv_move rfl) rfl (G.v (rv_extract rfl rfl) rfl (G.v (rv_extract rfl rfl) rfl ?_)); refine G.op (og_alloc) rfl (fun bk3 _ => ?_)
  (first | refine G.op0 (og_st0 rfl rfl rfl rfl rfl (by repeat (first | rfl | refine one_cons (by first | rfl | assumption) ?_)) (.zero (.cons (.cons (.cons (.cons (.cons (.cons (.cons (.cons (.cons (.cons .nil)))))))))))) (fun _ _ => ?_) | refine G.op0 (og_st1 rfl rfl rfl rfl rfl (by repeat (first | rfl | refine one_cons (by first | rfl | assumption) ?_)) (.zero (.cons (.cons (.cons (.cons (.cons (.cons (.cons (.cons (.cons (.cons .nil)))))))))))) (fun _ _ => ?_) | refine G.op0 (og_st2 rfl rfl rfl rfl rfl (by repeat (first | rfl | refine one_cons (by first | rfl | assumption) ?_)) (.zero (.cons (.cons (.cons (.cons (.cons (.cons (.cons (.cons (.cons (.cons .nil)))))))))))) (fun _ _ => ?_) | refine G.op0 (og_st3 rfl rfl rfl rfl rfl (by repeat (first | rfl | refine one_cons (by first | rfl | assumption) ?_)) (.zero (.cons (.cons (.cons (.cons (.cons (.cons (.cons (.cons (.cons (.cons .nil)))))))))))) (fun _ _ => ?_) | refine G.op0 (og_st4 rfl rfl rfl rfl rfl (by repeat (first | rfl | refine one_cons (by first | rfl | assumption) ?_)) (.zero (.cons (.cons (.cons (.cons (.cons (.cons (.cons (.cons (.cons (.cons .nil)))))))))))) (fun _ _ => ?_))
  refine G.v (rv_assign rfl) rfl (G.done (G.thenN (G.seq (G.seq (G.region (G.v (rv_move rfl) rfl (G.v (rv_geq rfl rfl) rfl (G.done (G.thenN ?_))))))))); refine G.cond rfl (fun hc => ?_) (fun hc => ?_)
  · try exact Bool.noConfusion hc
    all_goals
     try replace hc := of_decide_eq_true hc
     try (exfalso; first | contradiction | omega)
     all_goals
      refine G.seq (G.region (G.v (rv_assign rfl) rfl (G.done (G.thenN (G.ret (G.thenR ?_))))))
      first | exact G.retFV rfl rfl (congrArg (Value.int .i64) (hy1 (by omega)).symm) | exact G.retFV rfl rfl (congrArg (Value.int .i64) (hy2 (by omega)).symm)
  · try exact Bool.noConfusion hc
    all_goals
     try replace hc := of_decide_eq_false hc
     try (exfalso; first | contradiction | omega)
     all_goals
      refine G.skip (G.thenN (G.seq (G.region ?_)))
      (first | refine G.v (rv_loadW 0 rfl rfl rfl) rfl ?_ | refine G.v (rv_loadW 1 rfl rfl rfl) rfl ?_ | refine G.v (rv_loadW 2 rfl rfl rfl) rfl ?_ | refine G.v (rv_loadW 3 rfl rfl rfl) rfl ?_ | refine G.v (rv_loadW 4 rfl rfl rfl) rfl ?_ | refine G.v (rv_loadP 0 rfl rfl (.one (.one (.one (.one (.one (.one (.one (.one (.one (.one .nil))))))))))) rfl ?_ | refine G.v (rv_loadP 1 rfl rfl (.one (.one (.one (.one (.one (.one (.one (.one (.one (.one .nil))))))))))) rfl ?_ | refine G.v (rv_loadP 2 rfl rfl (.one (.one (.one (.one (.one (.one (.one (.one (.one (.one .nil))))))))))) rfl ?_ | refine G.v (rv_loadP 3 rfl rfl (.one (.one (.one (.one (.one (.one (.one (.one (.one (.one .nil))))))))))) rfl ?_ | refine G.v (rv_loadP 4 rfl rfl (.one (.one (.one (.one (.one (.one (.one (.one (.one (.one .nil))))))))))) rfl ?_)
      refine G.op (og_callV rfl rfl (fun w hh => sclass_any (r := r) w (by first | exact Rd.stays (by assumption) _ hh | exact Rd.owned 0 rfl _ hh | exact Rd.owned 1 rfl _ hh | exact Rd.owned 2 rfl _ hh | exact Rd.owned 3 rfl _ hh | exact Rd.owned 4 rfl _ hh | exact Rd.owned 5 rfl _ hh | exact Rd.owned 6 rfl _ hh | exact Rd.owned 7 rfl _ hh | exact Rd.owned 8 rfl _ hh | exact Rd.owned 9 rfl _ hh | exact Rd.owned 10 rfl _ hh | exact Rd.owned 11 rfl _ hh | exact Rd.owned 12 rfl _ hh | exact Rd.owned 13 rfl _ hh | exact Rd.owned 14 rfl _ hh | exact Rd.owned 15 rfl _ hh) (by first | exact Rd.stays (by assumption) _ hh | exact Rd.owned 0 rfl _ hh | exact Rd.owned 1 rfl _ hh | exact Rd.owned 2 rfl _ hh | exact Rd.owned 3 rfl _ hh | exact Rd.owned 4 rfl _ hh | exact Rd.owned 5 rfl _ hh | exact Rd.owned 6 rfl _ hh | exact Rd.owned 7 rfl _ hh | exact Rd.owned 8 rfl _ hh | exact Rd.owned 9 rfl _ hh | exact Rd.owned 10 rfl _ hh | exact Rd.owned 11 rfl _ hh | exact Rd.owned 12 rfl _ hh | exact Rd.owned 13 rfl _ hh | exact Rd.owned 14 rfl _ hh | exact Rd.owned 15 rfl _ hh) (by first | exact Rd.stays (by assumption) _ hh | exact Rd.owned 0 rfl _ hh | exact Rd.owned 1 rfl _ hh | exact Rd.owned 2 rfl _ hh | exact Rd.owned 3 rfl _ hh | exact Rd.owned 4 rfl _ hh | exact Rd.owned 5 rfl _ hh | exact Rd.owned 6 rfl _ hh | exact Rd.owned 7 rfl _ hh | exact Rd.owned 8 rfl _ hh | exact Rd.owned 9 rfl _ hh | exact Rd.owned 10 rfl _ hh | exact Rd.owned 11 rfl _ hh | exact Rd.owned 12 rfl _ hh | exact Rd.owned 13 rfl _ hh | exact Rd.owned 14 rfl _ hh | exact Rd.owned 15 rfl _ hh))) rfl (fun _ _ => ?_)
      refine G.v (rv_assign rfl) rfl (G.done (G.thenN (G.ret ?_)))
      first | exact G.retFV rfl rfl (congrArg (Value.int .i64) (hy1 (by omega)).symm) | exact G.retFV rfl rfl (congrArg (Value.int .i64) (hy2 (by omega)).symm)
theorem fnExactClassOf_any {l : List UInt8} {w : World} (ht : TabI w) (hte : TabE w) : FnV Tryz.prog 3 [sv l] w (.bool true) := by
  refine FnV.of (n := 15) Tryz.func3 rfl rfl ?_; refine G.seq (G.region (G.v (rv_assign rfl) rfl (G.done (G.thenN (G.seq (G.seq (G.region (G.v (rv_move rfl) rfl ?_)))))))); refine G.v (rv_lenS rfl) rfl ?_; refine G.v (rv_gtr rfl rfl) rfl (G.done (G.thenN ?_)); refine G.cond rfl (fun hc => ?_) (fun hc => ?_)
  · try exact Bool.noConfusion hc
    all_goals
     try replace hc := of_decide_eq_true hc
     try (exfalso; first | contradiction | omega)
     all_goals
      refine G.seq (G.region (G.v (rv_assign rfl) rfl (G.done (G.thenN (G.ret (G.thenR ?_))))))
      first | exact G.retFV rfl rfl rfl | (exfalso; simp_all; done) | (exfalso; omega)
  · try exact Bool.noConfusion hc
    all_goals
     try replace hc := of_decide_eq_false hc
     try (exfalso; first | contradiction | omega)
     all_goals
      refine G.skip (G.thenN (G.seq (G.region (G.v (rv_move rfl) rfl ?_)))); refine G.op (og_callV rfl rfl (fun w hh => sclassOf_any (l := l) (by omega) w)) rfl (fun _ _ => ?_); refine G.v (rv_assign rfl) rfl (G.done (G.thenN (G.seq (G.region (G.v (rv_move rfl) rfl ?_))))); refine G.op (og_callV rfl rfl (fun w hh => classOf_any (l := l) (by omega) w (ht.stays hh) (hte.stays hh))) rfl (fun _ _ => ?_); refine G.v (rv_assign rfl) rfl (G.done (G.thenN (G.seq (G.seq (G.region (G.v (rv_move rfl) rfl (G.v (rv_move rfl) rfl (G.v (rv_neq rfl rfl) rfl (G.done (G.thenN ?_)))))))))); refine G.cond rfl (fun hc => ?_) (fun hc => ?_)
      · try exact Bool.noConfusion hc
        all_goals
         try replace hc := of_decide_eq_true hc
         try (exfalso; first | contradiction | omega)
         all_goals
          refine G.seq (G.region (G.v (rv_assign rfl) rfl (G.done (G.thenN (G.ret (G.thenR ?_))))))
          first | exact G.retFV rfl rfl rfl | (exfalso; simp_all; done) | (exfalso; omega)
      · try exact Bool.noConfusion hc
        all_goals
         try replace hc := of_decide_eq_false hc
         try (exfalso; first | contradiction | omega)
         all_goals
          refine G.skip (G.thenN (G.seq (G.region (G.v (rv_assign rfl) rfl (G.done (G.thenN (G.ret ?_)))))))
          first | exact G.retFV rfl rfl rfl | (exfalso; simp_all; done) | (exfalso; omega)
end Go.Proofs.YtnfokjlplbbbeaaGreatDoor

/-
  The arguments of a law, opened: what can be read as data reads as lists of cells.
-/
namespace Go.Proofs.YtnfokjlplbbbeaaGreatDoor
open Go.RowKit Go.ChangeShapes Go.WideShapes Go.Deep

section
variable {H : Type} {enc : TypeId × Value → H} {P : Program} {w : World} {base : Nat} {spare : Nat → Bool} {held : Bool}

section
variable {t ti e t3 : TypeId} {fs : Array Field} {fuel : Nat} {cs : List Value} {x : DataW H × List MemPlace}
end
/-- All fields are int64. -/
def intsB (P : Program) (t : TypeId) (n : Nat) : Bool :=
  match P.underlying t with
  | some (.struct fs) => fs.size == n && oneCellFields P fs && P.cellsOf t == n && fs.toList.all fun f => match P.underlying f.type with | some (.int .i64) => true | _ => false
  | _ => false

end
end Go.Proofs.YtnfokjlplbbbeaaGreatDoor

/-
  What a row's listed variables hold, as the walks ask it; the door's own heap meets the list.
-/
namespace Go.Proofs.YtnfokjlplbbbeaaGreatDoor
open Go.RowKit Go.ChangeAt
namespace LaidF
theorem gP : Tryz.prog.globalNamed "internal/strconv.uint64pow10" = some 1 := by kernel_rfl
theorem gPT : (Tryz.prog.globals[1]?).map (·.type) = some 145 := by kernel_rfl
theorem cP : Tryz.prog.cellsOf 114 = 1 := by kernel_rfl
theorem cPT : Tryz.prog.cellsOf 145 = 20 := by kernel_rfl
theorem eP : (Rows.laid_internal_strconv_uint64pow10 : DataW Unit) = Lib.tabData .u64 Lib.pow10Tab := by kernel_rfl
theorem tabI {W : World} {r : List (String × DataW Unit)} (h : laidMet Tryz.prog (("internal/strconv.uint64pow10", Rows.laid_internal_strconv_uint64pow10) :: r) W) : TabI W := by
  rw [eP] at h
  exact Lib.tabIs_of_head gP gPT Tryz.underlying145 Tryz.underlying114 cP cPT h
theorem gS : Tryz.prog.globalNamed "strconv.ErrSyntax" = some 2 := by kernel_rfl
theorem gST : (Tryz.prog.globals[2]?).map (·.type) = some 95 := by kernel_rfl
theorem gR : Tryz.prog.globalNamed "strconv.ErrRange" = some 3 := by kernel_rfl
theorem gRT : (Tryz.prog.globals[3]?).map (·.type) = some 95 := by kernel_rfl
theorem cE : Tryz.prog.cellsOf 156 = 1 := by kernel_rfl
theorem cS : Tryz.prog.cellsOf 9 = 1 := by kernel_rfl
theorem star : "*" ++ "errors.errorString" = "*errors.errorString" := by decide
theorem rowP (u : TypeId) (h : Tryz.prog.typeName? 3 u = some "*errors.errorString") : u = 154 :=
  typeName_ptr_named (nm := "errors.errorString") (by rw [star]; kernel_rfl) (by kernel_rfl) (by decide) u (by rw [star]; exact h)
theorem tabE {W : World} {r : List (String × DataW Unit)} (h : laidMet Tryz.prog (("strconv.ErrRange", Rows.laid_strconv_ErrRange) :: ("strconv.ErrSyntax", Rows.laid_strconv_ErrSyntax) :: r) W) : TabE W := by
  obtain ⟨a0, s0, hv0, _, _, _⟩ := laid_sentinel h gR gRT Tryz.underlying95 rowP Tryz.underlying154 Tryz.underlying156 rfl rfl Tryz.underlying9 cE cS
  obtain ⟨a1, s1, hv1, _, _, _⟩ := laid_sentinel h.tail gS gST Tryz.underlying95 rowP Tryz.underlying154 Tryz.underlying156 rfl rfl Tryz.underlying9 cE cS
  exact ⟨⟨_, _, hv1⟩, ⟨_, _, hv0⟩⟩
end LaidF
end Go.Proofs.YtnfokjlplbbbeaaGreatDoor
