/-
  No two boxes are in one place, and none is outside. No program is in sight here.
-/
import Derived.Test.YticgeijklhlonaaSpotP
namespace Go.Proofs.Yticgeijklhlonaa
open Go.RowKit
def Sep (a : BoxM) (s : SpotM) (b : BoxM) (t : SpotM) : Prop := s.p ≠ t.p ∨ s.x + a.w ≤ t.x ∨ t.x + b.w ≤ s.x ∨ s.y + a.d ≤ t.y ∨ t.y + b.d ≤ s.y ∨ s.z + a.h ≤ t.z ∨ t.z + b.h ≤ s.z
theorem Sep.symm {a b : BoxM} {s t : SpotM} (h : Sep a s b t) : Sep b t a s := by unfold Sep at *; omega
def Inn (p : PalletM) (a : BoxM) (s : SpotM) : Prop := 0 ≤ s.p ∧ 0 ≤ s.x ∧ s.x + a.w ≤ p.w ∧ 0 ≤ s.y ∧ s.y + a.d ≤ p.d ∧ 0 ≤ s.z ∧ s.z + a.h ≤ p.h
structure Inv (p : PalletM) (l : List BoxM) (out : List SpotM) (dn : List (Int × Int)) (F : BoxM → SpotM → Prop) : Prop where
  len : out.length = l.length
  at_ : ∀ e ∈ dn, ∃ (j : Nat) (s : SpotM), e.1 = (j : Int) ∧ j < l.length ∧ out[j]? = some s ∧ s.p = e.2 ∧ Inn p (boxAt l j) s ∧ F (boxAt l j) s
  ap : ∀ e ∈ dn, ∀ e' ∈ dn, e.1 ≠ e'.1 → ∀ s t, out[e.1.toNat]? = some s → out[e'.1.toNat]? = some t → Sep (boxAt l e.1.toNat) s (boxAt l e'.1.toNat) t
section
variable {p : PalletM} {l : List BoxM} {out : List SpotM} {dn : List (Int × Int)} {F F' : BoxM → SpotM → Prop}
theorem Inv.weak (h : Inv p l out dn F) (hw : ∀ a s, F a s → F' a s) : Inv p l out dn F' :=
  ⟨h.len, fun e he => by obtain ⟨j, s, h1, h2, h3, h4, h5, h6⟩ := h.at_ e he; exact ⟨j, s, h1, h2, h3, h4, h5, hw _ _ h6⟩, h.ap⟩
theorem Inv.place {j : Nat} {s : SpotM} (h : Inv p l out dn F) (hj : j < l.length) (hnew : ∀ e ∈ dn, e.1 ≠ (j : Int)) (hin : Inn p (boxAt l j) s) (hF : F' (boxAt l j) s) (hw : ∀ a t, F a t → F' a t) (hsep : ∀ a t, F a t → Sep a t (boxAt l j) s) :
    Inv p l (out.set j s) (dn ++ [((j : Int), s.p)]) F' := by
  have hjo : j < out.length := by rw [h.len]; exact hj
  have hself : (out.set j s)[j]? = some s := by rw [List.getElem?_set_self hjo]
  have hoth : ∀ i : Nat, i ≠ j → (out.set j s)[i]? = out[i]? := fun i hi => List.getElem?_set_ne (Ne.symm hi)
  have old : ∀ e ∈ dn, ∃ (i : Nat) (u : SpotM), e.1 = (i : Int) ∧ i < l.length ∧ i ≠ j ∧ out[i]? = some u ∧ u.p = e.2 ∧ Inn p (boxAt l i) u ∧ F (boxAt l i) u := fun e he => by
    obtain ⟨i, u, h1, h2, h3, h4, h5, h6⟩ := h.at_ e he
    exact ⟨i, u, h1, h2, fun hij => hnew e he (by rw [h1, hij]), h3, h4, h5, h6⟩
  refine ⟨by rw [List.length_set]; exact h.len, fun e he => ?_, fun e he e' he' hne a b ha hb => ?_⟩
  · rcases List.mem_append.1 he with he | he
    · obtain ⟨i, u, h1, h2, h3, h4, h5, h6, h7⟩ := old e he
      exact ⟨i, u, h1, h2, by rw [hoth i h3]; exact h4, h5, h6, hw _ _ h7⟩
    · rw [List.mem_singleton.1 he]; exact ⟨j, s, rfl, hj, hself, rfl, hin, hF⟩
  · rcases List.mem_append.1 he with he | he
    · obtain ⟨i, u, h1, h2, h3, h4, h5, h6, h7⟩ := old e he
      have e1 : e.1.toNat = i := by rw [h1]; rfl
      rw [e1, hoth i h3] at ha
      rcases List.mem_append.1 he' with he' | he'
      · obtain ⟨i', u', g1, g2, g3, g4, g5, g6, g7⟩ := old e' he'
        have e2 : e'.1.toNat = i' := by rw [g1]; rfl
        rw [e2, hoth i' g3] at hb
        exact h.ap e he e' he' hne a b (by rw [e1]; exact ha) (by rw [e2]; exact hb)
      · rw [List.mem_singleton.1 he'] at hb ⊢
        simp only [Int.toNat_natCast] at hb ⊢
        rw [hself] at hb; cases hb
        rw [h4] at ha; cases ha
        rw [e1]; exact hsep _ _ h7
    · rw [List.mem_singleton.1 he] at ha hne ⊢
      simp only [Int.toNat_natCast] at ha ⊢
      rw [hself] at ha; cases ha
      rcases List.mem_append.1 he' with he' | he'
      · obtain ⟨i', u', g1, g2, g3, g4, g5, g6, g7⟩ := old e' he'
        have e2 : e'.1.toNat = i' := by rw [g1]; rfl
        rw [e2, hoth i' g3] at hb
        rw [g4] at hb; cases hb
        rw [e2]; exact (hsep _ _ g7).symm
      · rw [List.mem_singleton.1 he'] at hne; exact absurd rfl hne
end
def F0 (o : Int) (_ : BoxM) (s : SpotM) : Prop := s.p < o
def F1 (o z : Int) (a : BoxM) (s : SpotM) : Prop := s.p < o ∨ (s.p = o ∧ s.z + a.h ≤ z)
def F2 (o z y H : Int) (a : BoxM) (s : SpotM) : Prop := s.p < o ∨ (s.p = o ∧ (s.z + a.h ≤ z ∨ (s.z = z ∧ a.h ≤ H ∧ s.y + a.d ≤ y)))
def F3 (o z y x H D : Int) (a : BoxM) (s : SpotM) : Prop := s.p < o ∨ (s.p = o ∧ (s.z + a.h ≤ z ∨ (s.z = z ∧ a.h ≤ H ∧ (s.y + a.d ≤ y ∨ (s.y = y ∧ a.d ≤ D ∧ s.x + a.w ≤ x)))))
theorem sum_nn {α : Type} {f : α → Int} : ∀ {xs : List α}, (∀ x ∈ xs, 0 ≤ f x) → 0 ≤ (xs.map f).sum
  | [], _ => by simp
  | x :: r, h => by
    have h1 := h x List.mem_cons_self
    have h2 := sum_nn (xs := r) fun y hy => h y (List.mem_cons_of_mem _ hy)
    simp only [List.map_cons, List.sum_cons]; omega
theorem new_of {dn : List (Int × Int)} {b : Int} {r : List Int} (h : (dn.map Prod.fst ++ b :: r).Nodup) : ∀ e ∈ dn, e.1 ≠ b := fun e he hb => by
  have := (List.nodup_append.1 h).2.2 e.1 (List.mem_map.2 ⟨e, he, rfl⟩) b List.mem_cons_self
  exact this hb
section
variable {p : PalletM} {l : List BoxM} {ss : List ShelfM} {ls : List LayerM}
theorem boxes_inv {o z y H D : Int} (ho : 0 ≤ o) (hy : 0 ≤ y) (hz : 0 ≤ z) (hyd : y + D ≤ p.d) (hzh : z + H ≤ p.h) (hpw : p.w ≤ 2000) (hbx : ∀ j, j < l.length → 1 ≤ (boxAt l j).w) :
    ∀ (bs : List Int) (dn : List (Int × Int)) (st : List SpotM × Int), (∀ b ∈ bs, ∃ j : Nat, b = (j : Int) ∧ j < l.length ∧ (boxAt l j).d ≤ D ∧ (boxAt l j).h ≤ H) → (dn.map Prod.fst ++ bs).Nodup → 0 ≤ st.2 → st.2 + (bs.map (wAt l)).sum ≤ p.w → Inv p l st.1 dn (F3 o z y st.2 H D) →
      Inv p l (bs.foldl (boxStep l o y z) st).1 (dn ++ bs.map fun b => (b, o)) (F3 o z y (bs.foldl (boxStep l o y z) st).2 H D) ∧ (bs.foldl (boxStep l o y z) st).2 = st.2 + (bs.map (wAt l)).sum
  | [], dn, st, _, _, _, _, h => by simpa using h
  | b :: r, dn, st, hb, hn, h0, hs, h => by
    obtain ⟨j, rfl, hj, hd, hh⟩ := hb b List.mem_cons_self
    have hw1 := hbx j hj
    have hnn : 0 ≤ (r.map (wAt l)).sum := sum_nn fun x hx => by
      obtain ⟨i, rfl, hi, _, _⟩ := hb x (List.mem_cons_of_mem _ hx)
      have := hbx i hi
      simp only [wAt, Int.toNat_natCast]; omega
    have hwj : wAt l (j : Int) = (boxAt l j).w := by simp [wAt]
    simp only [List.map_cons, List.sum_cons, hwj] at hs
    have hst : boxStep l o y z st (j : Int) = (st.1.set j ⟨o, st.2, y, z⟩, st.2 + (boxAt l j).w) := by
      simp only [boxStep, Int.toNat_natCast]
      rw [wrap64_id (by omega) (by omega)]
    rw [List.foldl_cons, hst]
    have hp := h.place (F' := F3 o z y (st.2 + (boxAt l j).w) H D) (s := ⟨o, st.2, y, z⟩) hj (new_of hn) (by unfold Inn; dsimp only; omega) (by unfold F3; dsimp only; omega)
      (fun a t ht => by unfold F3 at *; omega) (fun a t ht => by unfold F3 at ht; unfold Sep; dsimp only; omega)
    have := boxes_inv ho hy hz hyd hzh hpw hbx r (dn ++ [((j : Int), o)]) (st.1.set j ⟨o, st.2, y, z⟩, st.2 + (boxAt l j).w) (fun x hx => hb x (List.mem_cons_of_mem _ hx)) (by simpa using hn) (by dsimp only; omega) (by dsimp only; omega) hp
    refine ⟨by simpa using this.1, ?_⟩
    rw [this.2]; simp only [List.map_cons, List.sum_cons, hwj]; omega
def BB (ss : List ShelfM) (k : Int) : List Int := (shAt ss k).l
def CC (ss : List ShelfM) (ls : List LayerM) (i : Int) : List Int := (lyAt ls i).l.flatMap (BB ss)
theorem shelves_inv {o z H : Int} (ho : 0 ≤ o) (hz : 0 ≤ z) (hzh : z + H ≤ p.h) (hpw : p.w ≤ 2000) (hpd : p.d ≤ 2000) (hbx : ∀ j, j < l.length → 1 ≤ (boxAt l j).w) :
    ∀ (ks : List Int) (dn : List (Int × Int)) (st : List SpotM × Int), (∀ k ∈ ks, ShOk p l (shAt ss k) ∧ (shAt ss k).h ≤ H ∧ 1 ≤ (shAt ss k).d) → (dn.map Prod.fst ++ ks.flatMap (BB ss)).Nodup → 0 ≤ st.2 → st.2 + (ks.map fun k => (shAt ss k).d).sum ≤ p.d → Inv p l st.1 dn (F2 o z st.2 H) →
      Inv p l (ks.foldl (shelfStep l ss o z) st).1 (dn ++ (ks.flatMap (BB ss)).map fun b => (b, o)) (F2 o z (ks.foldl (shelfStep l ss o z) st).2 H) ∧ (ks.foldl (shelfStep l ss o z) st).2 = st.2 + (ks.map fun k => (shAt ss k).d).sum
  | [], dn, st, _, _, _, _, h => by simpa using h
  | k :: r, dn, st, hk, hn, h0, hs, h => by
    obtain ⟨hok, hth, hd1⟩ := hk k List.mem_cons_self
    have hnn : 0 ≤ (r.map fun k => (shAt ss k).d).sum := sum_nn fun x hx => by
      have := (hk x (List.mem_cons_of_mem _ hx)).2.2; omega
    simp only [List.map_cons, List.sum_cons] at hs
    rw [List.flatMap_cons] at hn
    have hst : shelfStep l ss o z st k = (((shAt ss k).l.foldl (boxStep l o st.2 z) (st.1, 0)).1, st.2 + (shAt ss k).d) := by
      simp only [shelfStep]
      rw [wrap64_id (by omega) (by omega)]
    rw [List.foldl_cons, hst]
    have hn1 : (dn.map Prod.fst ++ (shAt ss k).l).Nodup := by
      rw [← List.append_assoc] at hn
      exact (List.nodup_append.1 hn).1
    have hin := boxes_inv (p := p) (l := l) ho h0 hz (D := (shAt ss k).d) (by omega) hzh hpw hbx (shAt ss k).l dn (st.1, 0) (fun b hb => by
      obtain ⟨j, h1, h2, h3, h4⟩ := hok.at_ b hb
      exact ⟨j, h1, h2, h3, by omega⟩) hn1 (Int.le_refl 0) (by dsimp only; rw [hok.ws]; have := hok.wb; omega) (h.weak fun a s hs => by unfold F2 at hs; unfold F3; omega)
    have hnx := hin.1.weak (F' := F2 o z (st.2 + (shAt ss k).d) H) (fun a s hs => by unfold F3 at hs; unfold F2; omega)
    have := shelves_inv ho hz hzh hpw hpd hbx r (dn ++ (shAt ss k).l.map fun b => (b, o)) (((shAt ss k).l.foldl (boxStep l o st.2 z) (st.1, 0)).1, st.2 + (shAt ss k).d) (fun x hx => hk x (List.mem_cons_of_mem _ hx)) (by
      rw [List.map_append, List.map_map]
      have e : (Prod.fst ∘ fun b : Int => (b, o)) = id := rfl
      rw [e, List.map_id, List.append_assoc]; exact hn) (by dsimp only; omega) (by dsimp only; omega) hnx
    refine ⟨?_, by rw [this.2]; simp only [List.map_cons, List.sum_cons]; omega⟩
    have h3 := this.1
    rw [List.flatMap_cons, List.map_append, ← List.append_assoc]
    exact h3
structure LyOk (p : PalletM) (l : List BoxM) (ss : List ShelfM) (t : LayerM) : Prop where
  at_ : ∀ k ∈ t.l, ShOk p l (shAt ss k) ∧ (shAt ss k).h ≤ t.h ∧ 1 ≤ (shAt ss k).d
  ds : (t.l.map fun k => (shAt ss k).d).sum = t.d
  gs : (t.l.map fun k => (shAt ss k).g).sum = t.g
  db : t.d ≤ p.d
  h1 : 1 ≤ t.h
theorem layers_inv {o : Int} (ho : 0 ≤ o) (hpw : p.w ≤ 2000) (hpd : p.d ≤ 2000) (hph : p.h ≤ 2000) (hbx : ∀ j, j < l.length → 1 ≤ (boxAt l j).w) :
    ∀ (ks : List Int) (dn : List (Int × Int)) (st : List SpotM × Int), (∀ k ∈ ks, LyOk p l ss (lyAt ls k)) → (dn.map Prod.fst ++ ks.flatMap (CC ss ls)).Nodup → 0 ≤ st.2 → st.2 + (ks.map fun k => (lyAt ls k).h).sum ≤ p.h → Inv p l st.1 dn (F1 o st.2) →
      Inv p l (ks.foldl (layerStep l ss ls o) st).1 (dn ++ (ks.flatMap (CC ss ls)).map fun b => (b, o)) (F1 o (ks.foldl (layerStep l ss ls o) st).2) ∧ (ks.foldl (layerStep l ss ls o) st).2 = st.2 + (ks.map fun k => (lyAt ls k).h).sum
  | [], dn, st, _, _, _, _, h => by simpa using h
  | k :: r, dn, st, hk, hn, h0, hs, h => by
    have hok := hk k List.mem_cons_self
    have hh1 := hok.h1
    have hnn : 0 ≤ (r.map fun k => (lyAt ls k).h).sum := sum_nn fun x hx => by
      have := (hk x (List.mem_cons_of_mem _ hx)).h1; omega
    simp only [List.map_cons, List.sum_cons] at hs
    rw [List.flatMap_cons] at hn
    have hst : layerStep l ss ls o st k = (((lyAt ls k).l.foldl (shelfStep l ss o st.2) (st.1, 0)).1, st.2 + (lyAt ls k).h) := by
      simp only [layerStep]
      rw [wrap64_id (by omega) (by omega)]
    rw [List.foldl_cons, hst]
    have hn1 : (dn.map Prod.fst ++ (lyAt ls k).l.flatMap (BB ss)).Nodup := by
      rw [← List.append_assoc] at hn
      exact (List.nodup_append.1 hn).1
    have hin := shelves_inv (p := p) (l := l) (ss := ss) ho h0 (H := (lyAt ls k).h) (by omega) hpw hpd hbx (lyAt ls k).l dn (st.1, 0) (fun b hb => hok.at_ b hb) hn1 (Int.le_refl 0) (by dsimp only; rw [hok.ds]; have := hok.db; omega) (h.weak fun a s hs => by unfold F1 at hs; unfold F2; omega)
    have hnx := hin.1.weak (F' := F1 o (st.2 + (lyAt ls k).h)) (fun a s hs => by unfold F2 at hs; unfold F1; omega)
    have := layers_inv ho hpw hpd hph hbx r (dn ++ ((lyAt ls k).l.flatMap (BB ss)).map fun b => (b, o)) (((lyAt ls k).l.foldl (shelfStep l ss o st.2) (st.1, 0)).1, st.2 + (lyAt ls k).h) (fun x hx => hk x (List.mem_cons_of_mem _ hx)) (by
      rw [List.map_append, List.map_map]
      have e : (Prod.fst ∘ fun b : Int => (b, o)) = id := rfl
      rw [e, List.map_id, List.append_assoc]; exact hn) (by dsimp only; omega) (by dsimp only; omega) hnx
    refine ⟨?_, by rw [this.2]; simp only [List.map_cons, List.sum_cons]; omega⟩
    have h3 := this.1
    rw [List.flatMap_cons, List.map_append, ← List.append_assoc]
    exact h3
structure LdOk (p : PalletM) (l : List BoxM) (ss : List ShelfM) (ls : List LayerM) (t : LoadM) : Prop where
  at_ : ∀ k ∈ t.l, LyOk p l ss (lyAt ls k)
  hs : (t.l.map fun k => (lyAt ls k).h).sum = t.h
  gs : (t.l.map fun k => (lyAt ls k).g).sum = t.g
  hb : t.h ≤ p.h
def TT (ss : List ShelfM) (ls : List LayerM) (xs : List (LoadM × Nat)) : List (Int × Int) := xs.flatMap fun x => (x.1.l.flatMap (CC ss ls)).map fun b => (b, (x.2 : Int))
theorem loads_inv (hpw : p.w ≤ 2000) (hpd : p.d ≤ 2000) (hph : p.h ≤ 2000) (hbx : ∀ j, j < l.length → 1 ≤ (boxAt l j).w) :
    ∀ (ms : List LoadM) (o : Nat) (dn : List (Int × Int)) (out : List SpotM), (∀ t ∈ ms, LdOk p l ss ls t) → (dn.map Prod.fst ++ (TT ss ls (ms.zipIdx o)).map Prod.fst).Nodup → Inv p l out dn (F0 o) →
      Inv p l ((ms.zipIdx o).foldl (loadStep l ss ls) out) (dn ++ TT ss ls (ms.zipIdx o)) (F0 ((o + ms.length : Nat) : Int))
  | [], o, dn, out, _, _, h => by simpa [TT] using h
  | t :: r, o, dn, out, hk, hn, h => by
    have hok := hk t List.mem_cons_self
    rw [List.zipIdx_cons, List.foldl_cons]
    rw [List.zipIdx_cons] at hn
    have eT : TT ss ls ((t, o) :: r.zipIdx (o + 1)) = ((t.l.flatMap (CC ss ls)).map fun b => (b, (o : Int))) ++ TT ss ls (r.zipIdx (o + 1)) := by simp [TT]
    have eF : ((t.l.flatMap (CC ss ls)).map fun b => (b, (o : Int))).map Prod.fst = t.l.flatMap (CC ss ls) := by
      rw [List.map_map]
      have e : (Prod.fst ∘ fun b : Int => (b, (o : Int))) = id := rfl
      rw [e, List.map_id]
    rw [eT, List.map_append, eF] at hn
    have hn1 : (dn.map Prod.fst ++ t.l.flatMap (CC ss ls)).Nodup := by
      rw [← List.append_assoc] at hn
      exact (List.nodup_append.1 hn).1
    have hin := layers_inv (p := p) (l := l) (ss := ss) (ls := ls) (o := (o : Int)) (by omega) hpw hpd hph hbx t.l dn (out, 0) hok.at_ hn1 (Int.le_refl 0) (by dsimp only; rw [hok.hs]; have := hok.hb; omega) (h.weak fun a s hs => by unfold F0 at hs; unfold F1; omega)
    have hnx := hin.1.weak (F' := F0 ((o + 1 : Nat) : Int)) (fun a s hs => by unfold F1 at hs; unfold F0; omega)
    have := loads_inv hpw hpd hph hbx r (o + 1) (dn ++ (t.l.flatMap (CC ss ls)).map fun b => (b, (o : Int))) (loadStep l ss ls out (t, o)) (fun x hx => hk x (List.mem_cons_of_mem _ hx)) (by
      rw [List.map_append, eF, List.append_assoc]; exact hn) hnx
    rw [eT, ← List.append_assoc, show o + (t :: r).length = o + 1 + r.length from by simp only [List.length_cons]; omega]
    exact this
end
end Go.Proofs.Yticgeijklhlonaa
