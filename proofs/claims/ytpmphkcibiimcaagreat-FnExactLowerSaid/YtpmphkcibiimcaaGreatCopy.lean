/-
  The built-in copy, into an owned slice.
-/
import Derived.Test.YtpmphkcibiimcaaGreatSlc
namespace Go.Proofs.YtpmphkcibiimcaaGreat
open Go.RowKit
section
variable {P : Program} {n : Nat} {w0 : World} {fr : Fr} {H : List Ch}
theorem take_flat {s : Nat} : ∀ {es : List (List Value)} (m : Nat), (∀ e ∈ es, e.length = s) → (es.take m).flatten = es.flatten.take (m * s)
  | [], m, _ => by simp
  | e :: es, 0, _ => by simp
  | e :: es, m + 1, h => by
    have := take_flat (es := es) m (fun x hx => h x (List.mem_cons_of_mem _ hx))
    have he := h e (List.mem_cons_self)
    rw [List.take_succ_cons, List.flatten_cons, List.flatten_cons, this, List.take_append, he]
    rw [List.take_of_length_le (l := e) (by rw [he, Nat.succ_mul]; omega), show (m + 1) * s - s = m * s by rw [Nat.succ_mul]; omega]
theorem drop_flat {s : Nat} : ∀ {es : List (List Value)} (m : Nat), (∀ e ∈ es, e.length = s) → (es.drop m).flatten = es.flatten.drop (m * s)
  | [], m, _ => by simp
  | e :: es, 0, _ => by simp
  | e :: es, m + 1, h => by
    have := drop_flat (es := es) m (fun x hx => h x (List.mem_cons_of_mem _ hx))
    have he := h e (List.mem_cons_self)
    rw [List.drop_succ_cons, List.flatten_cons, this, List.drop_append, he]
    have hd0 : e.drop ((m + 1) * s) = [] := List.drop_eq_nil_of_le (by rw [he, Nat.succ_mul]; omega)
    rw [hd0, show (m + 1) * s - s = m * s by rw [Nat.succ_mul]; omega, List.nil_append]
/-- What a copy leaves. -/
def copyM {α : Type} (es es2 : List α) (p : Nat) : List α := es.take p ++ es2.take (es.length - p) ++ es.drop (p + min es2.length (es.length - p))
theorem copy_len {α : Type} {es es2 : List α} {p : Nat} (hp : p ≤ es.length) : (copyM es es2 p).length = es.length := by
  simp only [copyM, List.length_append, List.length_take, List.length_drop]; omega
theorem og_copy {x y : Operand} {t e : TypeId} {s bs : Nat} {zs : List Value} [hT : TySlice P t e] [hI : TyInfo P e s zs bs] (i : Nat) {v dst src : Value} {es es2 : List (List Value)} (p : Nat)
    (hx : opv fr x = some dst) (hy : opv fr y = some src) (hi : H[i]? = some (.row v e s es)) (hd : (dst = v ∧ p = 0) ∨ dst = subV v s p es.length) (hp : p < es.length) (h2 : ∀ w, HeapOk w0 w H → Rd w src s es2) :
    OpG P n w0 fr H (.call ⟨.builtin .copy, #[x, y], #[t, t]⟩) Triv (fun _ : Unit => .int .i64 (min es2.length (es.length - p) : Nat)) (fun _ => H.set i (.row v e s (copyM es es2 p))) :=
  fun a w hr hh d T pos af gd K hK => by
    have hf := hh.front hi
    obtain ⟨hrow, hgood⟩ := hf.ok _ (List.mem_cons_self)
    have hlen := fun e he => (hgood e he).1
    have hfl := flatten_len hlen
    have hsrc := h2 w hh
    obtain ⟨ii, zz, g1, g2, g3, g4, g5⟩ := hI.get
    rcases hrow.2 with ⟨rfl, hn⟩ | ⟨g, cap, cur, rfl, hB, hg, hle, hcm, hsz, htk⟩
    · omega
    · obtain ⟨cap', hd'⟩ : ∃ cap', dst = .slice (some ⟨g, p * s, none⟩) (es.length - p) cap' := by
        rcases hd with ⟨rfl, rfl⟩ | rfl
        · exact ⟨cap, by simp⟩
        · refine ⟨cap - p, ?_⟩
          simp only [subV, sliced, if_neg (show ¬ cap = p by omega), Option.map_some, Addr.add_lit, Nat.zero_add]
      subst hd'
      have hcap : es.length * s ≤ cap * s := Nat.mul_le_mul_right s hle
      obtain ⟨m, hmd⟩ : ∃ m, m = min es2.length (es.length - p) := ⟨_, rfl⟩
      obtain ⟨us, hus⟩ : ∃ us, us = (es2.take m).flatten := ⟨_, rfl⟩
      have hg2 : ∀ e ∈ es2, e.length = s := fun e he => (hsrc.good e he).1
      have hgm : ∀ e ∈ es2.take m, e.length = s := fun e he => hg2 e (List.mem_of_mem_take he)
      have husl : us.length = m * s := by rw [hus, flatten_len hgm, List.length_take]; congr 1; omega
      have h1 : ∀ u ∈ us, u.oneCell' = true := by
        intro u hu
        rw [hus] at hu
        obtain ⟨e', he, hue⟩ := List.mem_flatten.1 hu
        exact (hsrc.good e' (List.mem_of_mem_take he)).2 u hue
      have hpm : p * s + m * s ≤ es.length * s := by
        rw [← Nat.add_mul]; exact Nat.mul_le_mul_right s (by omega)
      have hfirst : (Builtin.firstCells s m src).run P w = .ok us.toArray w := by
        obtain ⟨ad, cap2, rfl, k1, k2, k3⟩ := hsrc.form
        cases ad with
        | none =>
          have h0 : es2.length = 0 := by
            rcases Nat.eq_zero_or_pos es2.length with h | h
            · exact h
            · obtain ⟨b, o, hbo⟩ := k3 h; cases hbo
          have : us = [] := by rw [hus, List.eq_nil_of_length_eq_zero h0]; simp
          rw [this]; rfl
        | some ad =>
          have hl := run_loadCells_list (P := P) w ad us (fun j u hj => by
            have hpos : 0 < es2.length := by
              rcases Nat.eq_zero_or_pos es2.length with h | h
              · rw [hus, List.eq_nil_of_length_eq_zero h] at hj; simp at hj
              · exact h
            obtain ⟨b, o, hbo⟩ := k3 hpos
            injection hbo with hbo
            subst hbo
            rw [hus, take_flat m hg2] at hj
            have hj2 : es2.flatten[j]? = some u := by
              have hlt : j < m * s := by
                rcases Nat.lt_or_ge j (m * s) with h | h
                · exact h
                · rw [List.getElem?_eq_none (by rw [List.length_take]; omega)] at hj; cases hj
              rwa [List.getElem?_take_of_lt hlt] at hj
            have := hsrc.cells j u hj2
            rw [Addr.add_lit]
            exact this)
          rw [husl] at hl
          exact hl
      have hlenOf : (Builtin.lenOf src).run P w = .ok es2.length w := by
        obtain ⟨ad, cap2, rfl, k1, k2, k3⟩ := hsrc.form
        rfl
      have hst := run_storeCells_at P g (p * s) e us 0 cur w hg (by omega) h1
      simp only [Nat.add_zero] at hst
      have hrun : (execOp a.eval ⟨d, .call ⟨.builtin .copy, #[x, y], #[t, t]⟩, T, pos, af, gd⟩).run P w = .ok (.value (.int .i64 (m : Nat))) (w.setRow g (cur.toList.take (p * s) ++ us ++ cur.toList.drop (p * s + us.length)).toArray) := by
        have hz : (Builtin.copy_ #[t, t] T #[.slice (some ⟨g, p * s, none⟩) (es.length - p) cap', src]).run P w = .ok (.int .i64 (m : Nat)) (w.setRow g (cur.toList.take (p * s) ++ us ++ cur.toList.drop (p * s + us.length)).toArray) := by
          have hmm : Nat.min es2.length (es.length - p) = m := hmd.symm
          simp only [Builtin.copy_, List.getElem?_toArray, List.getElem?_cons_zero, List.getElem?_cons_succ, Sem.run_bind, Sem.run_pure, run_underlying hT.h, Result.andThen_ok, sizeOf, typeInfo, run_program, g1, g2, hlenOf, hmm, hfirst, List.toList_toArray, hst]
          rfl
        simp only [execOp, resolve, invoke, builtin, Sem.run_bind, Sem.run_pure, Result.andThen_ok, List.map_toArray, List.map_cons, List.map_nil, hr.opv hx, hr.opv hy, hz]
      unfold okAt; rw [hrun]
      rw [hmd]
      refine hK () _ trivial (HeapOk.perm ?_ (perm_set hi))
      have hnewlen : (cur.toList.take (p * s) ++ us ++ cur.toList.drop (p * s + us.length)).length = cur.size := by
        simp only [List.length_append, List.length_take, List.length_drop, Array.length_toList]; omega
      have hcgood : ∀ e0 ∈ copyM es es2 p, e0.length = s ∧ ∀ u ∈ e0, u.oneCell' = true := by
        intro e0 he0
        rcases List.mem_append.1 he0 with he0 | he0
        · rcases List.mem_append.1 he0 with he0 | he0
          · exact hgood e0 (List.mem_of_mem_take he0)
          · exact hsrc.good e0 (List.mem_of_mem_take he0)
        · exact hgood e0 (List.mem_of_mem_drop he0)
      have hcl : (copyM es es2 p).length = es.length := copy_len (by omega)
      have hcf : (copyM es es2 p).flatten = (cur.toList.take (p * s) ++ us ++ cur.toList.drop (p * s + us.length)).take (es.length * s) := by
        have ht : es2.take (es.length - p) = es2.take m := by
          apply List.ext_getElem?
          intro j
          rw [List.getElem?_take, List.getElem?_take]
          by_cases c : j < es2.length
          · by_cases c2 : j < es.length - p
            · rw [if_pos c2, if_pos (by omega)]
            · rw [if_neg c2, if_neg (by omega)]
          · rw [List.getElem?_eq_none (by omega)]; simp
        rw [copyM, ht, List.flatten_append, List.flatten_append, take_flat p hlen, drop_flat _ hlen, ← hus, ← hmd, ← htk, List.take_take, Nat.min_eq_left (Nat.mul_le_mul_right s (Nat.le_of_lt hp)), List.drop_take, husl, Nat.add_mul]
        rw [List.take_append, List.take_append]
        simp only [List.length_append, List.length_take, Array.length_toList, husl]
        rw [Nat.min_eq_left (by omega : p * s ≤ cur.size), List.take_take, Nat.min_eq_right (by omega : p * s ≤ es.length * s), List.take_of_length_le (l := us) (by omega)]
        try (congr 2; omega)
      refine ⟨hf.below.trans ⟨rfl, rfl, rfl, by simp, fun q hq => setRow_other w g q _ (by omega)⟩, fun d hd => ?_, ?_⟩
      · rcases List.mem_cons.1 hd with rfl | hd
        · refine ⟨⟨?_, .inr ⟨g, cap, _, by rw [hcl], hB, setRow_heap w g cur _ e _ hg, by rw [hcl]; exact hle, hcm, by rw [List.size_toArray, hnewlen, hsz], ?_⟩⟩, hcgood⟩
          · rw [flatten_len (fun e he => (hcgood e he).1)]
          · rw [hcf, List.toList_toArray, hcl]
        · have hd' := hf.ok d (List.mem_cons_of_mem _ hd)
          refine Ch.ok_of hd' fun q hq => setRow_other w g q _ ?_
          have := (List.pairwise_cons.1 hf.ap).1 d hd g rfl
          rintro rfl
          exact this hq
      · have := List.pairwise_cons.1 hf.ap
        exact List.pairwise_cons.2 ⟨fun d hd q hq => this.1 d hd q hq, this.2⟩
theorem og_copy0 {x y : Operand} {t e : TypeId} {s bs : Nat} {zs : List Value} [hT : TySlice P t e] [hI : TyInfo P e s zs bs] {F : List Ch} {v dst src : Value} {es es2 : List (List Value)} (p : Nat)
    (hx : opv fr x = some dst) (hy : opv fr y = some src) (hH : H = .row v e s es :: F) (hd : (dst = v ∧ p = 0) ∨ dst = subV v s p es.length) (hp : p < es.length) (h2 : ∀ w, HeapOk w0 w H → Rd w src s es2) :
    OpG P n w0 fr H (.call ⟨.builtin .copy, #[x, y], #[t, t]⟩) Triv (fun _ : Unit => .int .i64 (min es2.length (es.length - p) : Nat)) (fun _ => .row v e s (copyM es es2 p) :: F) := by
  subst hH; exact og_copy 0 p hx hy rfl hd hp h2
theorem og_copy1 {x y : Operand} {t e : TypeId} {s bs : Nat} {zs : List Value} [hT : TySlice P t e] [hI : TyInfo P e s zs bs] {a1 : Ch} {F : List Ch} {v dst src : Value} {es es2 : List (List Value)} (p : Nat)
    (hx : opv fr x = some dst) (hy : opv fr y = some src) (hH : H = a1 :: .row v e s es :: F) (hd : (dst = v ∧ p = 0) ∨ dst = subV v s p es.length) (hp : p < es.length) (h2 : ∀ w, HeapOk w0 w H → Rd w src s es2) :
    OpG P n w0 fr H (.call ⟨.builtin .copy, #[x, y], #[t, t]⟩) Triv (fun _ : Unit => .int .i64 (min es2.length (es.length - p) : Nat)) (fun _ => a1 :: .row v e s (copyM es es2 p) :: F) := by
  subst hH; exact og_copy 1 p hx hy rfl hd hp h2
theorem og_copy2 {x y : Operand} {t e : TypeId} {s bs : Nat} {zs : List Value} [hT : TySlice P t e] [hI : TyInfo P e s zs bs] {a1 a2 : Ch} {F : List Ch} {v dst src : Value} {es es2 : List (List Value)} (p : Nat)
    (hx : opv fr x = some dst) (hy : opv fr y = some src) (hH : H = a1 :: a2 :: .row v e s es :: F) (hd : (dst = v ∧ p = 0) ∨ dst = subV v s p es.length) (hp : p < es.length) (h2 : ∀ w, HeapOk w0 w H → Rd w src s es2) :
    OpG P n w0 fr H (.call ⟨.builtin .copy, #[x, y], #[t, t]⟩) Triv (fun _ : Unit => .int .i64 (min es2.length (es.length - p) : Nat)) (fun _ => a1 :: a2 :: .row v e s (copyM es es2 p) :: F) := by
  subst hH; exact og_copy 2 p hx hy rfl hd hp h2
theorem og_copy3 {x y : Operand} {t e : TypeId} {s bs : Nat} {zs : List Value} [hT : TySlice P t e] [hI : TyInfo P e s zs bs] {a1 a2 a3 : Ch} {F : List Ch} {v dst src : Value} {es es2 : List (List Value)} (p : Nat)
    (hx : opv fr x = some dst) (hy : opv fr y = some src) (hH : H = a1 :: a2 :: a3 :: .row v e s es :: F) (hd : (dst = v ∧ p = 0) ∨ dst = subV v s p es.length) (hp : p < es.length) (h2 : ∀ w, HeapOk w0 w H → Rd w src s es2) :
    OpG P n w0 fr H (.call ⟨.builtin .copy, #[x, y], #[t, t]⟩) Triv (fun _ : Unit => .int .i64 (min es2.length (es.length - p) : Nat)) (fun _ => a1 :: a2 :: a3 :: .row v e s (copyM es es2 p) :: F) := by
  subst hH; exact og_copy 3 p hx hy rfl hd hp h2
theorem og_copy4 {x y : Operand} {t e : TypeId} {s bs : Nat} {zs : List Value} [hT : TySlice P t e] [hI : TyInfo P e s zs bs] {a1 a2 a3 a4 : Ch} {F : List Ch} {v dst src : Value} {es es2 : List (List Value)} (p : Nat)
    (hx : opv fr x = some dst) (hy : opv fr y = some src) (hH : H = a1 :: a2 :: a3 :: a4 :: .row v e s es :: F) (hd : (dst = v ∧ p = 0) ∨ dst = subV v s p es.length) (hp : p < es.length) (h2 : ∀ w, HeapOk w0 w H → Rd w src s es2) :
    OpG P n w0 fr H (.call ⟨.builtin .copy, #[x, y], #[t, t]⟩) Triv (fun _ : Unit => .int .i64 (min es2.length (es.length - p) : Nat)) (fun _ => a1 :: a2 :: a3 :: a4 :: .row v e s (copyM es es2 p) :: F) := by
  subst hH; exact og_copy 4 p hx hy rfl hd hp h2
theorem og_copy5 {x y : Operand} {t e : TypeId} {s bs : Nat} {zs : List Value} [hT : TySlice P t e] [hI : TyInfo P e s zs bs] {a1 a2 a3 a4 a5 : Ch} {F : List Ch} {v dst src : Value} {es es2 : List (List Value)} (p : Nat)
    (hx : opv fr x = some dst) (hy : opv fr y = some src) (hH : H = a1 :: a2 :: a3 :: a4 :: a5 :: .row v e s es :: F) (hd : (dst = v ∧ p = 0) ∨ dst = subV v s p es.length) (hp : p < es.length) (h2 : ∀ w, HeapOk w0 w H → Rd w src s es2) :
    OpG P n w0 fr H (.call ⟨.builtin .copy, #[x, y], #[t, t]⟩) Triv (fun _ : Unit => .int .i64 (min es2.length (es.length - p) : Nat)) (fun _ => a1 :: a2 :: a3 :: a4 :: a5 :: .row v e s (copyM es es2 p) :: F) := by
  subst hH; exact og_copy 5 p hx hy rfl hd hp h2
theorem GS.o1 {HC : List Ch} {Q : Exit → Act → World → Prop} {ops : Array Oper} {ls : List Nat} {f d : Nat} {listed : Array Bool} {o : Op} {T : TypeId} {pos : String} {af : Array Edge} (i : Nat) {X : Type} {φ : X → Prop} {val : X → Value} {H' : X → List Ch} (hB : onlyL ops listed i = true) (hL : ls.contains i = true) (hi : ops[i]? = some ⟨some d, o, T, pos, af, none⟩)
    (ho : OpG P n w0 fr H o φ val H') (hd : Nat.ble (d + 1) n = true) (hH : ∀ x w, HeapOk w0 w (H' x) → HeapOk w0 w HC) (h : ∀ x, φ x → GS P ops Q ls n w0 HC f (listed.setIfInBounds i true) ((d, val x) :: fr) (H' x)) : GS P ops Q ls n w0 HC (f + 1) listed fr H := by
  intro a w hra hh
  have hr : Region.ready .any ops listed = [i] := by simpa [onlyL] using hB
  refine wpS_all hr (by simp) fun w1 he j hj => ?_
  simp only [List.mem_singleton] at hj
  subst hj
  unfold okOp
  simp only [hi, Region.wanted, if_true]
  exact ho a w1 hra (hh.ext he) _ _ _ _ _ _ fun x w' hx hw => ⟨fun h => (by rw [hL] at h; cases h), fun _ => hH x w' hw, h x hx _ _ (hra.put (Nat.le_of_ble_eq_true hd) _) hw⟩
end
end Go.Proofs.YtpmphkcibiimcaaGreat
