/-
  Regions that draw their order and turn a chunk that they read ahead of it.
-/
import Derived.Test.YtpmphkcibiimcaaGreatMove
import Derived.Test.YtpmphkcibiimcaaGreatBits
namespace Go.Proofs.YtpmphkcibiimcaaGreat
open Go.RowKit
section
variable {P : Program} {ops : Array Oper} {Q : Exit → Act → World → Prop} {ls : List Nat} {C : World → Prop}
/-- Whatever order is taken: an operation that is not among 'ls' turns nothing; behind one of 'ls' the class holds. -/
def wpS (P : Program) (ops : Array Oper) (Q : Exit → Act → World → Prop) (ls : List Nat) (C : World → Prop) : Nat → Array Bool → Act → World → Prop
  | 0, listed, a, w => ∀ w1, Ext w w1 → Region.ready .any ops listed = [] ∧ Q .normal a w1
  | f + 1, listed, a, w => ∀ w1, Ext w w1 → (Region.ready .any ops listed = [] → Q .normal a w1) ∧
      ∀ i ∈ Region.ready .any ops listed, okOp P ops i (fun a' w' => (ls.contains i = false → Ext w1 w') ∧ (ls.contains i = true → C w') ∧ wpS P ops Q ls C f (listed.setIfInBounds i true) a' w') a w1
theorem wpS.ext : ∀ {f : Nat} {listed : Array Bool} {a : Act} {w w1 : World}, wpS P ops Q ls C f listed a w → Ext w w1 → wpS P ops Q ls C f listed a w1
  | 0, _, _, _, _, h, e => fun w2 e2 => h w2 (e.trans e2)
  | _ + 1, _, _, _, _, h, e => fun w2 e2 => h w2 (e.trans e2)
theorem wpAny_of_S : ∀ (f : Nat) (listed : Array Bool) (a : Act) (w : World), wpS P ops Q ls C f listed a w → wpAny P .any ops Q f listed a w
  | 0, _, _, _, h => h _ (Ext.refl _)
  | f + 1, _, _, w, h => ⟨(h w (Ext.refl _)).1, fun i hi => wpOp_of_ok (okOp_mono (fun a' w' hk => wpAny_of_S f _ a' w' hk.2.2) ((h w (Ext.refl _)).2 i hi))⟩
theorem wpS_first {i : Nat} {oi : Oper} {v : Value} {D : World → Prop} (B : List Nat) (hB : ∀ j ∈ B, waitsB ops j i = true ∨ ∃ m ∈ B, waitsB ops j m = true) (hi : ops[i]? = some oi) (hiL : ls.contains i = false) (hsel : ∀ (j : Nat) (o : Oper) cs b, ops[j]? = some o → o.op ≠ .select cs b) (hD : ∀ w w', D w → Ext w w' → D w') :
    ∀ (f : Nat) (listed : Array Bool) (a : Act) (w : World),
      (∀ j oj, ops[j]? = some oj → j ≠ i → listed.getD j true = false → (∀ e ∈ oj.after, Region.binds .any e = true → e.on ≠ i) → oi.apart ops oj = true) →
      ((∀ w, C w → D w) ∨ ∀ j, ls.contains j = true → j ∈ B ∨ listed.getD j true = true) → (∀ j ∈ B, listed.getD j true = false) → i ∈ Region.ready .any ops listed → YieldsE P ops D oi v a → D w →
      wpS P ops Q ls C f (listed.setIfInBounds i true) (a.put oi.dst v) w → wpS P ops Q ls C (f + 1) listed a w := by
  intro f
  induction f with
  | zero =>
    intro listed a w _ _ _ hr hy hw H w1 he
    refine ⟨fun h => (by rw [h] at hr; cases hr), fun j hj => ?_⟩
    by_cases hji : j = i
    · subst hji
      exact hy.ok hi (hD _ _ hw he) fun w' he' => ⟨fun _ => he', fun h => (by rw [hiL] at h; cases h), H.ext (he.trans he')⟩
    · have := ready_mono hj hji
      rw [(H w (Ext.refl _)).1] at this
      cases this
  | succ f ih =>
    intro listed a w hfree hls hBu hr hy hw H w1 he
    refine ⟨fun h => (by rw [h] at hr; cases hr), fun j hj => ?_⟩
    by_cases hji : j = i
    · subst hji
      exact hy.ok hi (hD _ _ hw he) fun w' he' => ⟨fun _ => he', fun h => (by rw [hiL] at h; cases h), H.ext (he.trans he')⟩
    · have h1 := (H w1 he).2 j (ready_mono hj hji)
      obtain ⟨hjun, oj, hoj, hall⟩ := mem_ready.1 hj
      have hun : ∀ m, waitsB ops j m = true → listed.getD m true = false → False := fun m hm hmu => by
        unfold waitsB at hm
        rw [hoj] at hm
        obtain ⟨e, he, hb⟩ := Array.any_eq_true'.1 hm
        simp only [Bool.and_eq_true, beq_iff_eq] at hb
        have h1 := hall e he hb.1
        rw [hb.2] at h1
        rcases Nat.lt_or_ge m listed.size with h' | h'
        · simp [h'] at hmu h1; rw [hmu] at h1; cases h1
        · simp [Array.getElem?_eq_none h'] at h1
      have hiu := (mem_ready.1 hr).1
      have hjB : j ∉ B := fun hb => by
        rcases hB j hb with h | ⟨m, hm, h⟩
        · exact hun i h hiu
        · exact hun m h (hBu m hm)
      have hnot : ∀ e ∈ oj.after, Region.binds .any e = true → e.on ≠ i := fun e he hb heq => by
        have h1 := hall e he hb
        rw [heq] at h1
        rcases Nat.lt_or_ge i listed.size with h' | h'
        · simp [h'] at hiu h1; rw [hiu] at h1; cases h1
        · simp [Array.getElem?_eq_none h'] at h1
      have h2 := okOp_put hoj (hfree j oj hoj hji hjun hnot) (fun cs b => hsel i oi cs b hi) (fun cs b => hsel j oj cs b hoj) hy h1
      have hfree' : ∀ k ok, ops[k]? = some ok → k ≠ i → (listed.setIfInBounds j true).getD k true = false →
          (∀ e ∈ ok.after, Region.binds .any e = true → e.on ≠ i) → oi.apart ops ok = true := fun k ok hk hki hun hno => by
        refine hfree k ok hk hki ?_ hno
        by_cases hjk : j = k
        · subst hjk; exact hjun
        · rw [getD_set_ne true hjk] at hun; exact hun
      refine okOp_mono (fun a' w' ⟨hy', hq, hl, h3⟩ => ⟨hq, hl, ih (listed.setIfInBounds j true) a' w' hfree' ?_ ?_ (ready_mono hr (Ne.symm hji)) hy' ?_ ?_⟩) h2
      · rcases hls with h | h
        · exact .inl h
        · refine .inr fun k hk => ?_
          rcases h k hk with h | h
          · exact .inl h
          · by_cases e : j = k
            · subst e; rw [hjun] at h; cases h
            · exact .inr (by rw [getD_set_ne true e]; exact h)
      · intro k hk
        have : j ≠ k := fun e => hjB (e ▸ hk)
        rw [getD_set_ne true this]; exact hBu k hk
      · cases hcj : ls.contains j with
        | false => exact hD _ _ (hD _ _ hw he) (hq hcj)
        | true =>
          rcases hls with h | h
          · exact h _ (hl hcj)
          · rcases h j hcj with h | h
            · exact absurd h hjB
            · rw [hjun] at h; cases h
      · rw [Array.setIfInBounds_comm _ _ hji]
        exact h3
theorem wpS_all {rs : List Nat} {f : Nat} {listed : Array Bool} {a : Act} {w : World} (hr : Region.ready .any ops listed = rs) (hne : rs ≠ [])
    (h : ∀ w1, Ext w w1 → ∀ i ∈ rs, okOp P ops i (fun a' w' => (ls.contains i = false → Ext w1 w') ∧ (ls.contains i = true → C w') ∧ wpS P ops Q ls C f (listed.setIfInBounds i true) a' w') a w1) : wpS P ops Q ls C (f + 1) listed a w :=
  fun w1 he => ⟨fun h0 => absurd (hr ▸ h0) hne, hr ▸ h w1 he⟩
theorem wpS_done {listed : Array Bool} {a : Act} {w : World} (hr : Region.ready .any ops listed = []) (h : ∀ w1, Ext w w1 → Q .normal a w1) : ∀ f, wpS P ops Q ls C f listed a w
  | 0 => fun w1 he => ⟨hr, h w1 he⟩
  | _ + 1 => fun w1 he => ⟨fun _ => h w1 he, by rw [hr]; simp⟩
end
section
variable {P : Program} {n : Nat} {w0 : World} {fr : Fr} {H HC : List Ch} {Q : Exit → Act → World → Prop} {ops : Array Oper} {ls : List Nat} {f i d : Nat} {listed : Array Bool} {o : Op} {T : TypeId} {pos : String} {af : Array Edge}
def GS (P : Program) (ops : Array Oper) (Q : Exit → Act → World → Prop) (ls : List Nat) (n : Nat) (w0 : World) (HC : List Ch) (f : Nat) (listed : Array Bool) (fr : Fr) (H : List Ch) : Prop :=
  G n w0 fr H (wpS P ops Q ls (fun w => HeapOk w0 w HC) f listed)
def firstS (ops : Array Oper) (ls : List Nat) (listed : Array Bool) (i : Nat) : Bool :=
  Region.noSelect ops && Region.free .any ops listed i && (Region.ready .any ops listed).contains i && !ls.contains i
def chainS (ops : Array Oper) (ls B : List Nat) (listed : Array Bool) (i : Nat) : Bool :=
  (ls.all fun j => B.contains j || listed.getD j true) && (B.all fun j => waitsB ops j i || B.any fun m => waitsB ops j m) && B.all fun j => !listed.getD j true
theorem firstS_spec (h : firstS ops ls listed i = true) : Region.noSelect ops = true ∧ Region.free .any ops listed i = true ∧ i ∈ Region.ready .any ops listed ∧ ls.contains i = false := by
  simp only [firstS, Bool.and_eq_true, List.contains_iff_mem, Bool.not_eq_true'] at h
  obtain ⟨⟨⟨h1, h2⟩, h3⟩, h4⟩ := h
  exact ⟨h1, h2, h3, h4⟩
theorem chainS_spec {B : List Nat} (h : chainS ops ls B listed i = true) : (∀ j, ls.contains j = true → j ∈ B ∨ listed.getD j true = true) ∧ (∀ j ∈ B, waitsB ops j i = true ∨ ∃ m ∈ B, waitsB ops j m = true) ∧ ∀ j ∈ B, listed.getD j true = false := by
  simp only [chainS, Bool.and_eq_true, List.all_eq_true, List.contains_iff_mem, Bool.or_eq_true, List.any_eq_true, Bool.not_eq_true'] at h
  exact ⟨fun j hj => h.1.1 j (by simpa using hj), h.1.2, h.2⟩
/-- A quiet operation that reads. -/
theorem GS.q (i : Nat) (B : List Nat) {v : Value} (hi : ops[i]? = some ⟨some d, o, T, pos, af, none⟩) (hF : firstS ops ls listed i = true) (hB : chainS ops ls B listed i = true)
    (hq : QuietG P n w0 fr H o v) (hd : Nat.ble (d + 1) n = true) (h : GS P ops Q ls n w0 HC f (listed.setIfInBounds i true) ((d, v) :: fr) H) : GS P ops Q ls n w0 HC (f + 1) listed fr H := by
  intro a w hra hh
  obtain ⟨h1, h2, h3, h4⟩ := firstS_spec hF
  obtain ⟨b1, b2, b3⟩ := chainS_spec hB
  exact wpS_first (D := fun w => HeapOk w0 w H) B b2 hi h4 (Region.noSelect_spec h1) (fun w w' hw e => HeapOk.ext hw e) f listed a w (Region.free_spec hi h2) (.inr b1) b3 h3
    (.inl ⟨by simp [Region.wanted], fun w' hw' => hq a w' hra hw' _ _ _ _ _⟩) hh (h _ _ (hra.put (Nat.le_of_ble_eq_true hd) v) hh)
/-- .. that needs no more than the class. -/
theorem GS.p (i : Nat) {v : Value} (hi : ops[i]? = some ⟨some d, o, T, pos, af, none⟩) (hF : firstS ops ls listed i = true)
    (hq : QuietG P n w0 fr HC o v) (hH : ∀ w, HeapOk w0 w H → HeapOk w0 w HC) (hd : Nat.ble (d + 1) n = true) (h : GS P ops Q ls n w0 HC f (listed.setIfInBounds i true) ((d, v) :: fr) H) : GS P ops Q ls n w0 HC (f + 1) listed fr H := by
  intro a w hra hh
  obtain ⟨h1, h2, h3, h4⟩ := firstS_spec hF
  exact wpS_first (D := fun w => HeapOk w0 w HC) [] (by simp) hi h4 (Region.noSelect_spec h1) (fun w w' hw e => HeapOk.ext hw e) f listed a w (Region.free_spec hi h2) (.inl fun _ h => h) (by simp) h3
    (.inl ⟨by simp [Region.wanted], fun w' hw' => hq a w' hra hw' _ _ _ _ _⟩) (hH w hh) (h _ _ (hra.put (Nat.le_of_ble_eq_true hd) v) hh)
/-- One that turns a chunk, and is alone. -/
theorem GS.o0 (i : Nat) {X : Type} {φ : X → Prop} {val : X → Value} {H' : X → List Ch} (hB : onlyL ops listed i = true) (hL : ls.contains i = true) (hi : ops[i]? = some ⟨none, o, T, pos, af, none⟩)
    (ho : OpG P n w0 fr H o φ val H') (hH : ∀ x w, HeapOk w0 w (H' x) → HeapOk w0 w HC) (h : ∀ x, φ x → GS P ops Q ls n w0 HC f (listed.setIfInBounds i true) fr (H' x)) : GS P ops Q ls n w0 HC (f + 1) listed fr H := by
  intro a w hra hh
  have hr : Region.ready .any ops listed = [i] := by simpa [onlyL] using hB
  refine wpS_all hr (by simp) fun w1 he j hj => ?_
  simp only [List.mem_singleton] at hj
  subst hj
  unfold okOp
  simp only [hi, Region.wanted, if_true]
  exact ho a w1 hra (hh.ext he) _ _ _ _ _ _ fun x w' hx hw => ⟨fun h => (by rw [hL] at h; cases h), fun _ => hH x w' hw, h x hx _ _ (hra.put_none _) hw⟩
theorem GS.done (hr : Region.ready .any ops listed = []) (h : G n w0 fr H (Q .normal)) : GS P ops Q ls n w0 HC f listed fr H :=
  fun a _ hra hh => wpS_done hr (fun w1 e => h a w1 hra (hh.ext e)) f
theorem G.drawS [hW : Wide P] {id : Nat} {l : List Oper} (ls : List Nat) {c : Ch} {F : List Ch} (hH : H = c :: F)
    (h : GS P l.toArray Q ls n w0 F l.length (Array.replicate l.length false) fr H) : G n w0 fr H ((Code.region id l.toArray true).wp P Q) := by
  intro a w hr hh
  refine wp_region_any hW.h (wpAny_of_S (ls := ls) (C := fun w => HeapOk w0 w F) _ _ _ _ ?_)
  rw [List.size_toArray]
  exact h a _ hr hh.drew
end
/-! ### Numbers that are counted -/
section
variable {P : Program} {n : Nat} {w0 : World} {fr : Fr} {H : List Ch} {x y : Operand} {t t' : TypeId} {p q : Nat}
theorem rv_addN (hx : opv fr x = some (.int .i64 (p : Int))) (hy : opv fr y = some (.int .i64 (q : Int))) (h : p + q < 9223372036854775807) : RunsV P n w0 fr H (.binOp .add t x y t') (.int .i64 ((p + q : Nat) : Int)) := by
  have := rv_addB (P := P) (n := n) (w0 := w0) (H := H) (t := t) (t' := t') hx hy (by omega) (by omega)
  simpa using this
theorem rv_subN (hx : opv fr x = some (.int .i64 (p : Int))) (hy : opv fr y = some (.int .i64 (q : Int))) (h : q ≤ p) (h2 : p < 9223372036854775807) : RunsV P n w0 fr H (.binOp .sub t x y t') (.int .i64 ((p - q : Nat) : Int)) := by
  have := rv_subB (P := P) (n := n) (w0 := w0) (H := H) (t := t) (t' := t') hx hy (by omega) (by omega)
  rwa [show (p : Int) - q = ((p - q : Nat) : Int) from by omega] at this
theorem rv_dblN (hx : opv fr x = some (.int .i64 2)) (hy : opv fr y = some (.int .i64 (q : Int))) (h : q < 4611686018427387903) : RunsV P n w0 fr H (.binOp .mul t x y t') (.int .i64 ((2 * q : Nat) : Int)) := by
  have := rv_mulB (P := P) (n := n) (w0 := w0) (H := H) (t := t) (t' := t') hx hy (by omega) (by omega)
  simpa using this
theorem rv_dblM (hx : opv fr x = some (.int .i64 (q : Int))) (hy : opv fr y = some (.int .i64 2)) (h : q < 4611686018427387903) : RunsV P n w0 fr H (.binOp .mul t x y t') (.int .i64 ((2 * q : Nat) : Int)) := by
  have := rv_mulB (P := P) (n := n) (w0 := w0) (H := H) (t := t) (t' := t') hx hy (by omega) (by omega)
  rwa [show (q : Int) * 2 = ((2 * q : Nat) : Int) from by omega] at this
theorem half_eq {p m : Nat} (h : p < 9223372036854775807) (hm : p / 2 = m) : IntKind.i64.wrap ((IntKind.u64.wrap (p : Int)).fdiv (2 ^ (min (1 : Int).toNat IntKind.u64.bits))) = (m : Int) := by
  have e1 : IntKind.u64.wrap (p : Int) = p := by
    simp only [IntKind.wrap, IntKind.signed, IntKind.bits]; simp; omega
  have e2 : (min (1 : Int).toNat IntKind.u64.bits) = 1 := by decide
  rw [e1, e2, show (2 : Int) ^ 1 = 2 from rfl]
  have e3 : (p : Int).fdiv 2 = (m : Int) := by rw [Int.fdiv_eq_ediv_of_nonneg _ (by omega)]; omega
  rw [e3]; exact wrap64_id (by omega) (by omega)
theorem rv_half {src dst : TypeId} {m : Nat} {z : Int} [hs : TyInt P src .u64] [hd : TyInt P dst .i64] (hx : opv fr x = some (.int .u64 z)) (hz : z = (IntKind.u64.wrap (p : Int)).fdiv (2 ^ (min (1 : Int).toNat IntKind.u64.bits))) (h : p < 9223372036854775807) (hm : p / 2 = m) : RunsV P n w0 fr H (.convert src dst x) (.int .i64 (m : Int)) := by
  have := rv_conv (P := P) (n := n) (w0 := w0) (H := H) (src := src) (dst := dst) (k2 := .i64) hx
  rwa [hz, half_eq h hm] at this
end
end Go.Proofs.YtpmphkcibiimcaaGreat
