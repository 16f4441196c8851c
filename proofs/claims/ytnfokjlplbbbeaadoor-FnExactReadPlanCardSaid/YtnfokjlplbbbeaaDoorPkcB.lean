/-
  Texts of this proof, one behind the other: Swap, Slc, Push.
-/
import Derived.Test.YtnfokjlplbbbeaaDoorPkcA

/-
  Regions that draw their order and turn a chunk that they read ahead of it.
-/
namespace Go.Proofs.YtnfokjlplbbbeaaDoor
open Go.RowKit
section
variable {P : Program} {ops : Array Oper} {Q : Exit → Act → World → Prop} {ls : List Nat} {C : World → Prop}
/-- Whatever order is taken: an operation that is not among 'ls' turns nothing; behind one of 'ls' the class holds. -/
def wpS (P : Program) (ops : Array Oper) (Q : Exit → Act → World → Prop) (ls : List Nat) (C : World → Prop) : Nat → Array Bool → Act → World → Prop
  | 0, listed, a, w => ∀ w1, Ext w w1 → Region.ready .any ops listed = [] ∧ Q .normal a w1
  | f + 1, listed, a, w => ∀ w1, Ext w w1 → (Region.ready .any ops listed = [] → Q .normal a w1) ∧
      ∀ i ∈ Region.ready .any ops listed, okOp P ops i (fun a' w' => (ls.contains i = false → Ext w1 w') ∧ (ls.contains i = true → C w') ∧ wpS P ops Q ls C f (listed.setIfInBounds i true) a' w') a w1
theorem wpS.ext : ∀ {f : Nat} {listed : Array Bool} {a : Act} {w w1 : World}, wpS P ops Q ls C f listed a w → Ext w w1 → wpS P ops Q ls C f listed a w1
  | 0, _, _, _, _, h, e => fun w2 e2 => h w2 (e.trans e2)
  | _ + 1, _, _, _, _, h, e => fun w2 e2 => h w2 (e.trans e2)
theorem wpS_first {i : Nat} {oi : Oper} {v : Value} {D : World → Prop} (B : List Nat) (hB : ∀ j ∈ B, waitsB ops j i = true ∨ ∃ m ∈ B, waitsB ops j m = true) (hi : ops[i]? = some oi) (hiL : ls.contains i = false) (hsel : ∀ (j : Nat) (o : Oper) cs b, ops[j]? = some o → o.op ≠ .select cs b) (hD : ∀ w w', D w → Ext w w' → D w') :
    ∀ (f : Nat) (listed : Array Bool) (a : Act) (w : World),
      (∀ j oj, ops[j]? = some oj → j ≠ i → listed.getD j true = false → (∀ e ∈ oj.after, Region.binds .any e = true → e.on ≠ i) → oi.apart ops oj = true) →
      ((∀ w, C w → D w) ∨ ∀ j, ls.contains j = true → j ∈ B ∨ listed.getD j true = true) → (∀ j ∈ B, listed.getD j true = false) → i ∈ Region.ready .any ops listed → YieldsE P ops D oi v a → D w →
      wpS P ops Q ls C f (listed.setIfInBounds i true) (a.put oi.dst v) w → wpS P ops Q ls C (f + 1) listed a w := by
  intro f
  induction f with
  | zero =>
    intro listed a w _ _ _ hr hy hw H w1 he
    refine ⟨fun h => (by rw [h] at hr; cases hr), fun j hj => ?_⟩
    by_cases hji : j = i
    · subst hji
      exact hy.ok hi (hD _ _ hw he) fun w' he' => ⟨fun _ => he', fun h => (by rw [hiL] at h; cases h), H.ext (he.trans he')⟩
    · have := ready_mono hj hji
      rw [(H w (Ext.refl _)).1] at this
      cases this
  | succ f ih =>
    intro listed a w hfree hls hBu hr hy hw H w1 he
    refine ⟨fun h => (by rw [h] at hr; cases hr), fun j hj => ?_⟩
    by_cases hji : j = i
    · subst hji
      exact hy.ok hi (hD _ _ hw he) fun w' he' => ⟨fun _ => he', fun h => (by rw [hiL] at h; cases h), H.ext (he.trans he')⟩
    · have h1 := (H w1 he).2 j (ready_mono hj hji)
      obtain ⟨hjun, oj, hoj, hall⟩ := mem_ready.1 hj
      have hun : ∀ m, waitsB ops j m = true → listed.getD m true = false → False := fun m hm hmu => by
        unfold waitsB at hm
        rw [hoj] at hm
        obtain ⟨e, he, hb⟩ := Array.any_eq_true'.1 hm
        simp only [Bool.and_eq_true, beq_iff_eq] at hb
        have h1 := hall e he hb.1
        rw [hb.2] at h1
        rcases Nat.lt_or_ge m listed.size with h' | h'
        · simp [h'] at hmu h1; rw [hmu] at h1; cases h1
        · simp [Array.getElem?_eq_none h'] at h1
      have hiu := (mem_ready.1 hr).1
      have hjB : j ∉ B := fun hb => by
        rcases hB j hb with h | ⟨m, hm, h⟩
        · exact hun i h hiu
        · exact hun m h (hBu m hm)
      have hnot : ∀ e ∈ oj.after, Region.binds .any e = true → e.on ≠ i := fun e he hb heq => by
        have h1 := hall e he hb
        rw [heq] at h1
        rcases Nat.lt_or_ge i listed.size with h' | h'
        · simp [h'] at hiu h1; rw [hiu] at h1; cases h1
        · simp [Array.getElem?_eq_none h'] at h1
      have h2 := okOp_put hoj (hfree j oj hoj hji hjun hnot) (fun cs b => hsel i oi cs b hi) (fun cs b => hsel j oj cs b hoj) hy h1
      have hfree' : ∀ k ok, ops[k]? = some ok → k ≠ i → (listed.setIfInBounds j true).getD k true = false →
          (∀ e ∈ ok.after, Region.binds .any e = true → e.on ≠ i) → oi.apart ops ok = true := fun k ok hk hki hun hno => by
        refine hfree k ok hk hki ?_ hno
        by_cases hjk : j = k
        · subst hjk; exact hjun
        · rw [getD_set_ne true hjk] at hun; exact hun
      refine okOp_mono (fun a' w' ⟨hy', hq, hl, h3⟩ => ⟨hq, hl, ih (listed.setIfInBounds j true) a' w' hfree' ?_ ?_ (ready_mono hr (Ne.symm hji)) hy' ?_ ?_⟩) h2
      · rcases hls with h | h
        · exact .inl h
        · refine .inr fun k hk => ?_
          rcases h k hk with h | h
          · exact .inl h
          · by_cases e : j = k
            · subst e; rw [hjun] at h; cases h
            · exact .inr (by rw [getD_set_ne true e]; exact h)
      · intro k hk
        have : j ≠ k := fun e => hjB (e ▸ hk)
        rw [getD_set_ne true this]; exact hBu k hk
      · cases hcj : ls.contains j with
        | false => exact hD _ _ (hD _ _ hw he) (hq hcj)
        | true =>
          rcases hls with h | h
          · exact h _ (hl hcj)
          · rcases h j hcj with h | h
            · exact absurd h hjB
            · rw [hjun] at h; cases h
      · rw [Array.setIfInBounds_comm _ _ hji]
        exact h3
theorem wpS_done {listed : Array Bool} {a : Act} {w : World} (hr : Region.ready .any ops listed = []) (h : ∀ w1, Ext w w1 → Q .normal a w1) : ∀ f, wpS P ops Q ls C f listed a w
  | 0 => fun w1 he => ⟨hr, h w1 he⟩
  | _ + 1 => fun w1 he => ⟨fun _ => h w1 he, by rw [hr]; simp⟩
end
section
variable {P : Program} {n : Nat} {w0 : World} {fr : Fr} {H HC : List Ch} {Q : Exit → Act → World → Prop} {ops : Array Oper} {ls : List Nat} {f i d : Nat} {listed : Array Bool} {o : Op} {T : TypeId} {pos : String} {af : Array Edge}
def GS (P : Program) (ops : Array Oper) (Q : Exit → Act → World → Prop) (ls : List Nat) (n : Nat) (w0 : World) (HC : List Ch) (f : Nat) (listed : Array Bool) (fr : Fr) (H : List Ch) : Prop :=
  G n w0 fr H (wpS P ops Q ls (fun w => HeapOk w0 w HC) f listed)
def firstS (ops : Array Oper) (ls : List Nat) (listed : Array Bool) (i : Nat) : Bool :=
  Region.noSelect ops && Region.free .any ops listed i && (Region.ready .any ops listed).contains i && !ls.contains i
def chainS (ops : Array Oper) (ls B : List Nat) (listed : Array Bool) (i : Nat) : Bool :=
  (ls.all fun j => B.contains j || listed.getD j true) && (B.all fun j => waitsB ops j i || B.any fun m => waitsB ops j m) && B.all fun j => !listed.getD j true
theorem firstS_spec (h : firstS ops ls listed i = true) : Region.noSelect ops = true ∧ Region.free .any ops listed i = true ∧ i ∈ Region.ready .any ops listed ∧ ls.contains i = false := by
  simp only [firstS, Bool.and_eq_true, List.contains_iff_mem, Bool.not_eq_true'] at h
  obtain ⟨⟨⟨h1, h2⟩, h3⟩, h4⟩ := h
  exact ⟨h1, h2, h3, h4⟩
theorem chainS_spec {B : List Nat} (h : chainS ops ls B listed i = true) : (∀ j, ls.contains j = true → j ∈ B ∨ listed.getD j true = true) ∧ (∀ j ∈ B, waitsB ops j i = true ∨ ∃ m ∈ B, waitsB ops j m = true) ∧ ∀ j ∈ B, listed.getD j true = false := by
  simp only [chainS, Bool.and_eq_true, List.all_eq_true, List.contains_iff_mem, Bool.or_eq_true, List.any_eq_true, Bool.not_eq_true'] at h
  exact ⟨fun j hj => h.1.1 j (by simpa using hj), h.1.2, h.2⟩
/-- A quiet operation that reads. -/
theorem GS.q (i : Nat) (B : List Nat) {v : Value} (hi : ops[i]? = some ⟨some d, o, T, pos, af, none⟩) (hF : firstS ops ls listed i = true) (hB : chainS ops ls B listed i = true)
    (hq : QuietG P n w0 fr H o v) (hd : Nat.ble (d + 1) n = true) (h : GS P ops Q ls n w0 HC f (listed.setIfInBounds i true) ((d, v) :: fr) H) : GS P ops Q ls n w0 HC (f + 1) listed fr H := by
  intro a w hra hh
  obtain ⟨h1, h2, h3, h4⟩ := firstS_spec hF
  obtain ⟨b1, b2, b3⟩ := chainS_spec hB
  exact wpS_first (D := fun w => HeapOk w0 w H) B b2 hi h4 (Region.noSelect_spec h1) (fun w w' hw e => HeapOk.ext hw e) f listed a w (Region.free_spec hi h2) (.inr b1) b3 h3
    (.inl ⟨by simp [Region.wanted], fun w' hw' => hq a w' hra hw' _ _ _ _ _⟩) hh (h _ _ (hra.put (Nat.le_of_ble_eq_true hd) v) hh)
/-- .. that needs no more than the class. -/
theorem GS.p (i : Nat) {v : Value} (hi : ops[i]? = some ⟨some d, o, T, pos, af, none⟩) (hF : firstS ops ls listed i = true)
    (hq : QuietG P n w0 fr HC o v) (hH : ∀ w, HeapOk w0 w H → HeapOk w0 w HC) (hd : Nat.ble (d + 1) n = true) (h : GS P ops Q ls n w0 HC f (listed.setIfInBounds i true) ((d, v) :: fr) H) : GS P ops Q ls n w0 HC (f + 1) listed fr H := by
  intro a w hra hh
  obtain ⟨h1, h2, h3, h4⟩ := firstS_spec hF
  exact wpS_first (D := fun w => HeapOk w0 w HC) [] (by simp) hi h4 (Region.noSelect_spec h1) (fun w w' hw e => HeapOk.ext hw e) f listed a w (Region.free_spec hi h2) (.inl fun _ h => h) (by simp) h3
    (.inl ⟨by simp [Region.wanted], fun w' hw' => hq a w' hra hw' _ _ _ _ _⟩) (hH w hh) (h _ _ (hra.put (Nat.le_of_ble_eq_true hd) v) hh)
theorem GS.done (hr : Region.ready .any ops listed = []) (h : G n w0 fr H (Q .normal)) : GS P ops Q ls n w0 HC f listed fr H :=
  fun a _ hra hh => wpS_done hr (fun w1 e => h a w1 hra (hh.ext e)) f
end
/-! ### Numbers that are counted -/
section
variable {P : Program} {n : Nat} {w0 : World} {fr : Fr} {H : List Ch} {x y : Operand} {t t' : TypeId} {p q : Nat}
end
end Go.Proofs.YtnfokjlplbbbeaaDoor

/-
  Parts of slices.
-/
namespace Go.Proofs.YtnfokjlplbbbeaaDoor
open Go.RowKit
def subV (v : Value) (s l h : Nat) : Value := match v with
  | .slice a _ c => sliced a l h c s
  | u => u
section
variable {P : Program} {n : Nat} {w0 : World} {fr : Fr} {H : List Ch}
theorem rv_sliceH {x y : Operand} {t e : TypeId} {s bs : Nat} {zs : List Value} [hT : TySlice P t e] [hI : TyInfo P e s zs bs] {v : Value} {es : List (List Value)} {k : IntKind} {h : Nat} (hx : opv fr x = some v) (hy : opv fr y = some (.int k (h : Int))) (hv : ∀ w, HeapOk w0 w H → Rd w v s es) (hh : h ≤ es.length) :
    RunsV P n w0 fr H (.slice t x none (some y) none) (subV v s 0 h) := fun a w hr hw _ _ _ _ _ => by
  obtain ⟨ad, cap, rfl, h1, h2, h3⟩ := (hv w hw).form
  obtain ⟨i, z, g1, g2, g3, g4, g5⟩ := hI.get
  have e1 : (h : Int) ≤ (cap : Int) := by omega
  have e2 : (0 : Int) ≤ (h : Int) := by omega
  simp [execOp, hr.opv hx, hr.opv hy, Instr.sliceAt, Instr.slice, run_underlying hT.h, Instr.sliceBounds, run_sliceBound, sizeOf, typeInfo, g1, g2, subV, sliced, e1, e2]
theorem rv_sliceL {x y : Operand} {t e : TypeId} {s bs : Nat} {zs : List Value} [hT : TySlice P t e] [hI : TyInfo P e s zs bs] {v : Value} {es : List (List Value)} {k : IntKind} {l : Nat} (hx : opv fr x = some v) (hy : opv fr y = some (.int k (l : Int))) (hv : ∀ w, HeapOk w0 w H → Rd w v s es) (hh : l ≤ es.length) :
    RunsV P n w0 fr H (.slice t x (some y) none none) (subV v s l es.length) := fun a w hr hw _ _ _ _ _ => by
  obtain ⟨ad, cap, rfl, h1, h2, h3⟩ := (hv w hw).form
  obtain ⟨i, z, g1, g2, g3, g4, g5⟩ := hI.get
  have e1 : (l : Int) ≤ (es.length : Int) := by omega
  have e2 : (0 : Int) ≤ (l : Int) := by omega
  have e3 : (es.length : Int) ≤ (cap : Int) := by omega
  simp [execOp, hr.opv hx, hr.opv hy, Instr.sliceAt, Instr.slice, run_underlying hT.h, Instr.sliceBounds, run_sliceBound, sizeOf, typeInfo, g1, g2, subV, sliced, e1, e2, e3]
theorem flatten_sub {s : Nat} {es : List (List Value)} (hl : ∀ e ∈ es, e.length = s) {l : Nat} {j : Nat} {u : Value} {m : Nat} (h : ((es.drop l).take m).flatten[j]? = some u) : es.flatten[l * s + j]? = some u := by
  by_cases hll : l ≤ es.length
  · have e1 : es.flatten = (es.take l).flatten ++ ((es.drop l).take m).flatten ++ ((es.drop l).drop m).flatten := by
      rw [← List.flatten_append, ← List.flatten_append, List.append_assoc, List.take_append_drop, List.take_append_drop]
    have e2 : (es.take l).flatten.length = l * s := by
      rw [flatten_len (s := s) (fun e he => hl e (List.mem_of_mem_take he)), List.length_take, Nat.min_eq_left hll]
    have hj : j < ((es.drop l).take m).flatten.length := by
      rcases Nat.lt_or_ge j ((es.drop l).take m).flatten.length with h1 | h1
      · exact h1
      · rw [List.getElem?_eq_none h1] at h; cases h
    rw [e1, List.append_assoc, List.getElem?_append_right (by omega), e2, show l * s + j - l * s = j from by omega, List.getElem?_append_left hj]
    exact h
  · rw [List.drop_eq_nil_of_le (by omega)] at h; simp at h
theorem Rd.sub {w : World} {v : Value} {s : Nat} {es : List (List Value)} (h : Rd w v s es) {l k : Nat} (h1 : l ≤ k) (h2 : k ≤ es.length) : Rd w (subV v s l k) s ((es.drop l).take (k - l)) := by
  obtain ⟨a, cap, rfl, q1, q2, q3⟩ := h.form
  have hlen : ((es.drop l).take (k - l)).length = k - l := by rw [List.length_take, List.length_drop]; omega
  refine ⟨⟨if cap = l then a else a.map (·.add (l * s)), cap - l, by rw [hlen]; rfl, by omega, by omega, fun hp => ?_⟩, fun e he => h.good e (List.mem_of_mem_drop (List.mem_of_mem_take he)), fun j u hj => ?_⟩
  · rw [hlen] at hp
    obtain ⟨b, o, rfl⟩ := q3 (by omega)
    rw [if_neg (by omega)]
    exact ⟨b, o + l * s, by simp [Addr.add_lit]⟩
  · have hp : 0 < k - l := by
      rcases Nat.eq_zero_or_pos (k - l) with h0 | h0
      · rw [h0] at hj; simp at hj
      · exact h0
    obtain ⟨b, o, rfl⟩ := q3 (by omega)
    have := h.cells _ _ (flatten_sub (fun e he => (h.good e he).1) hj)
    simp only [subV, sliced, if_neg (show ¬ cap = l from by omega), blkOf, offOf, Option.map_some, Addr.add_lit] at this ⊢
    rw [← this]; congr 2; omega
theorem Rd.subH {α : Type} {c : α → List Value} {w : World} {v : Value} {s : Nat} {l : List α} (h : Rd w v s (l.map c)) {k : Nat} (hk : k ≤ l.length) : Rd w (subV v s 0 k) s ((l.take k).map c) := by
  have := h.sub (Nat.zero_le k) (by simpa using hk)
  rwa [List.drop_zero, Nat.sub_zero, ← List.map_take] at this
theorem Rd.subL {α : Type} {c : α → List Value} {w : World} {v : Value} {s : Nat} {l : List α} (h : Rd w v s (l.map c)) {k : Nat} (hk : k ≤ l.length) : Rd w (subV v s k (l.map c).length) s ((l.drop k).map c) := by
  have := h.sub (l := k) (k := (l.map c).length) (by simpa using hk) (Nat.le_refl _)
  rwa [← List.map_drop, List.take_of_length_le (by simp)] at this
end
end Go.Proofs.YtnfokjlplbbbeaaDoor

/-
  Rows that are pushed into groups.
-/
namespace Go.Proofs.YtnfokjlplbbbeaaDoor
open Go.RowKit
theorem G.pushRow {n : Nat} {w0 : World} {fr : Fr} {H F : List Ch} {t : TypeId} {s : Nat} {v : Value} {es : List (List Value)} {rs : List (Value × List (List Value))} (rs' : List (Value × List (List Value))) {K : Act → World → Prop} (e : rs ++ [(v, es)] = rs') (hH : H = .row v t s es :: .grp t s rs :: F) (h : G n w0 fr (.grp t s rs' :: F) K) : G n w0 fr H K :=
  G.heap (fun w hh => by subst e hH; exact hh.push) h
theorem G.keep2 {n : Nat} {w0 : World} {fr : Fr} {H : List Ch} (m : Nat) {c1 c2 : Ch} {J : List Ch} {K : Act → World → Prop} (hH : H = c1 :: c2 :: J) (h : G n w0 fr (c1 :: c2 :: J.drop m) K) : G n w0 fr H K := G.heap (fun w hh => by subst hH; exact hh.sublist (List.Sublist.cons_cons _ (List.Sublist.cons_cons _ (List.drop_sublist m J)))) h
theorem G.keep1 {n : Nat} {w0 : World} {fr : Fr} {H : List Ch} (m : Nat) {c1 : Ch} {J : List Ch} {K : Act → World → Prop} (hH : H = c1 :: J) (h : G n w0 fr (c1 :: J.drop m) K) : G n w0 fr H K := G.heap (fun w hh => by subst hH; exact hh.sublist (List.Sublist.cons_cons _ (List.drop_sublist m J))) h
end Go.Proofs.YtnfokjlplbbbeaaDoor
