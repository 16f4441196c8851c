/-
  Regions that draw their order, in the logic of chunks.
-/
import Derived.Test.YtpmphkcibiimcaaGreatCall
import Derived.Deep.Quiet
namespace Go.Proofs.YtpmphkcibiimcaaGreat
open Go.RowKit

def Ext (w w' : World) : Prop := Below w.heap.size w w'
theorem Ext.refl (w : World) : Ext w w := Below.refl _ _
theorem Ext.trans {a b c : World} (h : Ext a b) (k : Ext b c) : Ext a c := Below.trans h (Below.mono k h.size)

section
variable {P : Program} {ops : Array Oper} {Q : Exit → Act → World → Prop} {C : World → Prop} {qs : List Nat}

theorem okUpon_mono {K K' : Value → World → Prop} (h : ∀ v w, K v w → K' v w) : ∀ {r : Result Next}, okUpon P K r → okUpon P K' r := by
  intro r hr
  cases r with
  | ok x w' =>
    cases x <;> simp only [okUpon] at hr ⊢ <;> first
      | exact h _ _ hr
      | exact Calls.mono hr fun e w'' ⟨v, he, hv⟩ => ⟨v, he, h _ _ hv⟩
  | halt x w' => simp only [okUpon] at hr

def okOp (P : Program) (ops : Array Oper) (i : Nat) (K : Act → World → Prop) (a : Act) (w : World) : Prop :=
  match ops[i]? with
  | none => K a w
  | some o => if Region.wanted o (yielded ops a.tmps) then okAt P o a w (fun v w' => K (a.put o.dst v) w') else K (a.put o.dst undef) w

theorem okOp_mono {i : Nat} {a : Act} {w : World} {K K' : Act → World → Prop} (h : ∀ a w, K a w → K' a w) (hh : okOp P ops i K a w) : okOp P ops i K' a w := by
  unfold okOp at *
  split
  · rename_i ho; simp only [ho] at hh; exact h _ _ hh
  · rename_i o ho
    simp only [ho] at hh
    split
    · rename_i hw; simp only [hw, if_true] at hh; exact okUpon_mono (fun v w hk => h _ _ hk) hh
    · rename_i hw; simp only [hw] at hh; exact h _ _ hh

theorem wpOp_of_ok {i : Nat} {a : Act} {w : World} {K : Act → World → Prop} (h : okOp P ops i K a w) : wpOp P ops Q i K a w := by
  unfold okOp at h
  unfold wpOp
  split
  · rename_i ho; simpa [ho] using h
  · rename_i o ho
    simp only [ho] at h
    split
    · rename_i hw
      simp only [hw, if_true] at h
      exact .inl (wp_of_okAt h)
    · rename_i hw; simp only [hw] at h; exact h

/-- Operation j waits for operation i, by an edge of its own. -/
def waitsB (ops : Array Oper) (j i : Nat) : Bool :=
  match ops[j]? with
  | some oj => oj.after.any fun e => Region.binds .any e && e.on == i
  | none => false

/-- Whatever order is taken; whatever more lies there. The class is asked behind every operation but those of 'qs' (the tail's). -/
def wpE (P : Program) (ops : Array Oper) (Q : Exit → Act → World → Prop) (qs : List Nat) (C : World → Prop) : Nat → Array Bool → Act → World → Prop
  | 0, listed, a, w => ∀ w1, Ext w w1 → Region.ready .any ops listed = [] ∧ Q .normal a w1
  | f + 1, listed, a, w => ∀ w1, Ext w w1 → (Region.ready .any ops listed = [] → Q .normal a w1) ∧
      ∀ i ∈ Region.ready .any ops listed, okOp P ops i (fun a' w' => (qs.contains i = false → C w') ∧ wpE P ops Q qs C f (listed.setIfInBounds i true) a' w') a w1

theorem wpE.ext : ∀ {f : Nat} {listed : Array Bool} {a : Act} {w w1 : World}, wpE P ops Q qs C f listed a w → Ext w w1 → wpE P ops Q qs C f listed a w1
  | 0, _, _, _, _, h, e => fun w2 e2 => h w2 (e.trans e2)
  | _ + 1, _, _, _, _, h, e => fun w2 e2 => h w2 (e.trans e2)

theorem wpAny_of_E : ∀ (f : Nat) (listed : Array Bool) (a : Act) (w : World), wpE P ops Q qs C f listed a w → wpAny P .any ops Q f listed a w
  | 0, _, _, _, h => h _ (Ext.refl _)
  | f + 1, _, _, w, h => ⟨(h w (Ext.refl _)).1, fun i hi => wpOp_of_ok (okOp_mono (fun a' w' hk => wpAny_of_E f _ a' w' hk.2) ((h w (Ext.refl _)).2 i hi))⟩

/-- A quiet operation: one value in every world of the class, and nothing turned but that more may lie there. -/
def quietE (P : Program) (C : World → Prop) (o : Oper) (v : Value) (a : Act) : Prop := ∀ w, C w → okAt P o a w fun u w' => u = v ∧ Ext w w'

def YieldsE (P : Program) (ops : Array Oper) (C : World → Prop) (o : Oper) (v : Value) (a : Act) : Prop :=
  (Region.wanted o (yielded ops a.tmps) = true ∧ quietE P C o v a) ∨ (Region.wanted o (yielded ops a.tmps) = false ∧ v = undef)

theorem YieldsE.ok {i : Nat} {o : Oper} {v : Value} {a : Act} (hi : ops[i]? = some o) (hy : YieldsE P ops C o v a) {K : Act → World → Prop} {w : World} (hw : C w) (h : ∀ w', Ext w w' → K (a.put o.dst v) w') : okOp P ops i K a w := by
  unfold okOp
  simp only [hi]
  rcases hy with ⟨h1, h2⟩ | ⟨h1, rfl⟩
  · simp only [h1, if_true]
    exact okUpon_mono (fun u w' ⟨hu, he⟩ => by subst hu; exact h w' he) (h2 w hw)
  · simp only [h1, Bool.false_eq_true, if_false]
    exact h w (Ext.refl w)

theorem YieldsE.of_same {o : Oper} {v : Value} {a a' : Act} (hy : YieldsE P ops C o v a) (he : execOp a'.eval o = execOp a.eval o) (hw : Region.wanted o (yielded ops a'.tmps) = Region.wanted o (yielded ops a.tmps)) : YieldsE P ops C o v a' := by
  unfold YieldsE quietE okAt at *
  rw [he, hw]; exact hy

theorem okOp_put {j : Nat} {oi oj : Oper} {v : Value} (hj : ops[j]? = some oj) (hap : oi.apart ops oj = true)
    (hsi : ∀ cs b, oi.op ≠ .select cs b) (hsj : ∀ cs b, oj.op ≠ .select cs b) {K : Act → World → Prop} {a : Act} {w : World}
    (hy : YieldsE P ops C oi v a) (h : okOp P ops j K (a.put oi.dst v) w) :
    okOp P ops j (fun a' w' => YieldsE P ops C oi v a' ∧ K (a'.put oi.dst v) w') a w := by
  obtain ⟨h1, h2, h3⟩ := Oper.apart_spec hap
  have keep : ∀ (a : Act), YieldsE P ops C oi v a → ∀ u, YieldsE P ops C oi v (a.put oj.dst u) := fun a hy u =>
    hy.of_same (execOp_put oi hsi a oj.dst u h3) (wanted_put oi a oj.dst u h3)
  unfold okOp at *
  simp only [hj] at *
  rw [wanted_put oj a oi.dst v h1] at h
  split
  · rename_i hw
    simp only [hw, if_true] at h
    unfold okAt at *
    rw [execOp_put oj hsj a oi.dst v h1] at h
    exact okUpon_mono (fun u w' hk => ⟨keep a hy u, by rw [← Act.put_comm a v u h2]; exact hk⟩) h
  · rename_i hw
    simp only [hw] at h
    exact ⟨keep a hy _, by rw [← Act.put_comm a v undef h2]; exact h⟩

theorem wpE_first {i : Nat} {oi : Oper} {v : Value} (hq : ∀ j, qs.contains j = true → waitsB ops j i = true) (hi : ops[i]? = some oi) (hsel : ∀ (j : Nat) (o : Oper) cs b, ops[j]? = some o → o.op ≠ .select cs b) (hC : ∀ w w', C w → Ext w w' → C w') :
    ∀ (f : Nat) (listed : Array Bool) (a : Act) (w : World),
      (∀ j oj, ops[j]? = some oj → j ≠ i → listed.getD j true = false → (∀ e ∈ oj.after, Region.binds .any e = true → e.on ≠ i) → oi.apart ops oj = true) →
      i ∈ Region.ready .any ops listed → YieldsE P ops C oi v a → C w →
      wpE P ops Q qs C f (listed.setIfInBounds i true) (a.put oi.dst v) w → wpE P ops Q qs C (f + 1) listed a w := by
  intro f
  induction f with
  | zero =>
    intro listed a w _ hr hy hw H w1 he
    refine ⟨fun h => (by rw [h] at hr; cases hr), fun j hj => ?_⟩
    by_cases hji : j = i
    · subst hji
      exact hy.ok hi (hC _ _ hw he) fun w' he' => ⟨fun _ => hC _ _ hw (he.trans he'), H.ext (he.trans he')⟩
    · have := ready_mono hj hji
      rw [(H w (Ext.refl _)).1] at this
      cases this
  | succ f ih =>
    intro listed a w hfree hr hy hw H w1 he
    refine ⟨fun h => (by rw [h] at hr; cases hr), fun j hj => ?_⟩
    by_cases hji : j = i
    · subst hji
      exact hy.ok hi (hC _ _ hw he) fun w' he' => ⟨fun _ => hC _ _ hw (he.trans he'), H.ext (he.trans he')⟩
    · have h1 := (H w1 he).2 j (ready_mono hj hji)
      obtain ⟨hjun, oj, hoj, hall⟩ := mem_ready.1 hj
      have hnot : ∀ e ∈ oj.after, Region.binds .any e = true → e.on ≠ i := fun e he hb heq => by
        have h1 := hall e he hb
        have h0 := (mem_ready.1 hr).1
        rw [heq] at h1
        rcases Nat.lt_or_ge i listed.size with h' | h'
        · simp [h'] at h0 h1; rw [h0] at h1; cases h1
        · simp [Array.getElem?_eq_none h'] at h1
      have h2 := okOp_put hoj (hfree j oj hoj hji hjun hnot) (fun cs b => hsel i oi cs b hi) (fun cs b => hsel j oj cs b hoj) hy h1
      have hfree' : ∀ k ok, ops[k]? = some ok → k ≠ i → (listed.setIfInBounds j true).getD k true = false →
          (∀ e ∈ ok.after, Region.binds .any e = true → e.on ≠ i) → oi.apart ops ok = true := fun k ok hk hki hun hno => by
        refine hfree k ok hk hki ?_ hno
        by_cases hjk : j = k
        · subst hjk; exact hjun
        · rw [getD_set_ne true hjk] at hun; exact hun
      have hjq : qs.contains j = false := by
        cases hcj : qs.contains j with
        | false => rfl
        | true =>
          have hwj := hq j hcj
          unfold waitsB at hwj
          rw [hoj] at hwj
          obtain ⟨e, he, hb⟩ := Array.any_eq_true'.1 hwj
          simp only [Bool.and_eq_true, beq_iff_eq] at hb
          exact absurd hb.2 (hnot e he hb.1)
      refine okOp_mono (fun a' w' ⟨hy', hc', h3⟩ => ⟨hc', ih (listed.setIfInBounds j true) a' w' hfree' (ready_mono hr (Ne.symm hji)) hy' (hc' hjq) ?_⟩) h2
      rw [Array.setIfInBounds_comm _ _ hji]
      exact h3

/-- Each operation in its turn, whichever is ready. -/
theorem wpE_all {rs : List Nat} {f : Nat} {listed : Array Bool} {a : Act} {w : World} (hr : Region.ready .any ops listed = rs) (hne : rs ≠ [])
    (h : ∀ w1, Ext w w1 → ∀ i ∈ rs, okOp P ops i (fun a' w' => (qs.contains i = false → C w') ∧ wpE P ops Q qs C f (listed.setIfInBounds i true) a' w') a w1) : wpE P ops Q qs C (f + 1) listed a w :=
  fun w1 he => ⟨fun h0 => absurd (hr ▸ h0) hne, hr ▸ h w1 he⟩

theorem wpE_done {listed : Array Bool} {a : Act} {w : World} (hr : Region.ready .any ops listed = []) (h : ∀ w1, Ext w w1 → Q .normal a w1) : ∀ f, wpE P ops Q qs C f listed a w
  | 0 => fun w1 he => ⟨hr, h w1 he⟩
  | _ + 1 => fun w1 he => ⟨fun _ => h w1 he, by rw [hr]; simp⟩
end

theorem HeapOk.ext {w0 w w' : World} {H : List Ch} (h : HeapOk w0 w H) (e : Ext w w') : HeapOk w0 w' H := by
  have := h.call (N := []) ⟨e, by simp, List.Pairwise.nil⟩
  simpa using this

section
variable {P : Program} {n : Nat} {w0 : World} {fr : Fr} {H HC : List Ch} {Q : Exit → Act → World → Prop} {ops : Array Oper}

/-- The state within a region that draws. -/
def GE (P : Program) (ops : Array Oper) (Q : Exit → Act → World → Prop) (qs : List Nat) (n : Nat) (w0 : World) (HC : List Ch) (f : Nat) (listed : Array Bool) (fr : Fr) (H : List Ch) : Prop :=
  G n w0 fr H (wpE P ops Q qs (fun w => HeapOk w0 w HC) f listed)

class Wide (P : Program) : Prop where
  h : P.follows .mixedOrders = true

theorem G.draw [hW : Wide P] {id : Nat} {l : List Oper} (qs : List Nat) (HC : List Ch) (f : Nat) (listed : Array Bool) (hf : Nat.beq l.length f = true) (hl : Array.replicate f false = listed)
    (h : GE P l.toArray Q qs n w0 HC f listed fr H) : G n w0 fr H ((Code.region id l.toArray true).wp P Q) := by
  intro a w hr hh
  have hf' := Nat.eq_of_beq_eq_true hf
  subst hf'
  refine wp_region_any hW.h (wpAny_of_E (qs := qs) (C := fun w => HeapOk w0 w HC) _ _ _ _ ?_)
  rw [List.size_toArray, hl]
  exact h a _ hr hh.drew

/-- What is asked of a quiet operation. -/
def QuietG (P : Program) (n : Nat) (w0 : World) (fr : Fr) (HC : List Ch) (o : Op) (v : Value) : Prop :=
  ∀ a w, Rep n a fr → HeapOk w0 w HC → ∀ (d : Option Tmp) (T : TypeId) (pos : String) (af : Array Edge) (gd : Option (Nat × Bool)), okAt P ⟨d, o, T, pos, af, gd⟩ a w fun u w' => u = v ∧ Ext w w'

theorem qg_runs {o : Op} {v : Value} (h : RunsV P n w0 fr HC o v) : QuietG P n w0 fr HC o v := fun a w hr hh d T pos af gd => by
  unfold okAt; rw [h a w hr hh d T pos af gd]; exact ⟨rfl, Ext.refl _⟩
theorem qg_call {f : FuncId} [hF : FnOk P f] {fo : Operand} {xs : List Operand} {vs caps : List Value} {ts : Array TypeId} {v : Value}
    (hf : opv fr fo = some (.func (.func f) #[] caps.toArray)) (hx : opvs fr xs = some vs) (hc : ∀ w, HeapOk w0 w HC → FnV P f (vs ++ caps) w v) : QuietG P n w0 fr HC (.call ⟨.value fo, xs.toArray, ts⟩) v := fun a w hr hh d T pos af gd => by
  unfold okAt; rw [run_call hr hf hx]
  exact Calls.mono (hc w hh) fun e w' ⟨he, hw⟩ => ⟨v, he, rfl, hw.below⟩

/-- The guard of an operation, as it stands. -/
def guardIs (ops : Array Oper) (fr : Fr) : Option (Nat × Bool) → Option Bool
  | none => some true
  | some (j, b) => match (ops[j]?).bind (·.dst) with
    | some t => match fget fr t with
      | some (.bool c) => some (c == b)
      | some (.tuple _) => some false
      | _ => none
    | none => none

theorem wanted_of {a : Act} (hr : Rep n a fr) {o : Oper} {c : Bool} (h : guardIs ops fr o.guard = some c) : Region.wanted o (yielded ops a.tmps) = c := by
  unfold Region.wanted
  cases hg : o.guard with
  | none => rw [hg] at h; simp only [guardIs, Option.some.injEq] at h; exact h
  | some x =>
    obtain ⟨j, b⟩ := x
    rw [hg] at h
    simp only [guardIs] at h
    split at h
    · rename_i t ht
      split at h
      · rename_i u hu
        simp only [Option.some.injEq] at h
        simp only [yields hr ht hu]
        subst h
        cases u <;> cases b <;> rfl
      · rename_i u hu
        simp only [Option.some.injEq] at h
        simp only [yieldsU hr ht hu]
        subst h
        cases b <;> rfl
      · cases h
    · cases h

theorem og_runs {o : Op} {v : Value} (h : RunsV P n w0 fr H o v) : OpG P n w0 fr H o Triv (fun _ : Unit => v) (fun _ => H) := fun a w hr hh d T pos af gd K hK => by
  unfold okAt; rw [h a w hr hh d T pos af gd]; exact hK () w trivial hh
theorem G.drawH [hW : Wide P] {id : Nat} {l : List Oper} (qs : List Nat) (f : Nat) (listed : Array Bool) (hf : Nat.beq l.length f = true) (hl : Array.replicate f false = listed)
    (h : GE P l.toArray Q qs n w0 H f listed fr H) : G n w0 fr H ((Code.region id l.toArray true).wp P Q) := G.draw qs H f listed hf hl h

/-- May operation i be taken first? -/
def firstB (ops : Array Oper) (qs : List Nat) (listed : Array Bool) (i : Nat) (listed' : Array Bool) : Bool :=
  Region.noSelect ops && Region.free .any ops listed i && (Region.ready .any ops listed).contains i && (qs.all fun j => waitsB ops j i) && (listed.setIfInBounds i true == listed')
/-- Is operation i the only one that is ready? -/
def onlyB (ops : Array Oper) (listed : Array Bool) (i : Nat) (listed' : Array Bool) : Bool :=
  (Region.ready .any ops listed == [i]) && (listed.setIfInBounds i true == listed')

theorem firstB_spec {qs : List Nat} {listed listed' : Array Bool} {i : Nat} (h : firstB ops qs listed i listed' = true) :
    Region.noSelect ops = true ∧ Region.free .any ops listed i = true ∧ i ∈ Region.ready .any ops listed ∧ (∀ j, qs.contains j = true → waitsB ops j i = true) ∧ listed.setIfInBounds i true = listed' := by
  simp only [firstB, Bool.and_eq_true, List.all_eq_true, List.contains_iff_mem, beq_iff_eq] at h
  obtain ⟨⟨⟨⟨h1, h2⟩, h3⟩, h4⟩, h5⟩ := h
  exact ⟨h1, h2, h3, fun j hj => h4 j (by simpa using hj), h5⟩

section
variable {qs : List Nat} {f i d : Nat} {listed listed' : Array Bool} {o : Op} {T : TypeId} {pos : String} {af : Array Edge} {gd : Option (Nat × Bool)}
/-- A quiet operation is taken first. -/
theorem GE.quiet {v : Value} (hi : ops[i]? = some ⟨some d, o, T, pos, af, gd⟩) (hB : firstB ops qs listed i listed' = true) (hg : guardIs ops fr gd = some true)
    (hq : QuietG P n w0 fr HC o v) (hH : ∀ w, HeapOk w0 w H → HeapOk w0 w HC) (hd : Nat.ble (d + 1) n = true)
    (h : GE P ops Q qs n w0 HC f listed' ((d, v) :: fr) H) : GE P ops Q qs n w0 HC (f + 1) listed fr H := by
  intro a w hra hh
  obtain ⟨h1, h2, h3, h4, h5⟩ := firstB_spec hB
  refine wpE_first h4 hi (Region.noSelect_spec h1) (fun w w' hw e => HeapOk.ext hw e) f listed a w (Region.free_spec hi h2) h3 (.inl ⟨wanted_of hra hg, fun w' hw' => hq a w' hra hw' _ _ _ _ _⟩) (hH w hh) ?_
  rw [h5]
  exact h _ _ (hra.put (Nat.le_of_ble_eq_true hd) v) hh
theorem GE.skip (hi : ops[i]? = some ⟨some d, o, T, pos, af, gd⟩) (hB : firstB ops qs listed i listed' = true) (hg : guardIs ops fr gd = some false)
    (hH : ∀ w, HeapOk w0 w H → HeapOk w0 w HC) (hd : Nat.ble (d + 1) n = true)
    (h : GE P ops Q qs n w0 HC f listed' ((d, undef) :: fr) H) : GE P ops Q qs n w0 HC (f + 1) listed fr H := by
  intro a w hra hh
  obtain ⟨h1, h2, h3, h4, h5⟩ := firstB_spec hB
  refine wpE_first h4 hi (Region.noSelect_spec h1) (fun w w' hw e => HeapOk.ext hw e) f listed a w (Region.free_spec hi h2) h3 (.inr ⟨wanted_of hra hg, rfl⟩) (hH w hh) ?_
  rw [h5]
  exact h _ _ (hra.put (Nat.le_of_ble_eq_true hd) undef) hh
/-- A test that is not known yet. -/
theorem GE.part {t : Nat} {b : Bool} (ht : fget fr t = some (.bool b)) (h1 : b = true → GE P ops Q qs n w0 HC f listed ((t, .bool true) :: fr) H) (h2 : b = false → GE P ops Q qs n w0 HC f listed ((t, .bool false) :: fr) H) : GE P ops Q qs n w0 HC f listed fr H :=
  G.part ht h1 h2
/-- All have been carried out. -/
theorem GE.done (hr : Region.ready .any ops listed = []) (h : G n w0 fr H (Q .normal)) : GE P ops Q qs n w0 HC f listed fr H :=
  fun a _ hra hh => wpE_done hr (fun w1 e => h a w1 hra (hh.ext e)) f

theorem GE.one {o : Oper} (hB : onlyB ops listed i listed' = true) (hi : ops[i]? = some o) (hg : guardIs ops fr o.guard = some true)
    (h : ∀ a w, Rep n a fr → HeapOk w0 w H → okAt P o a w fun v w' => (qs.contains i = false → HeapOk w0 w' HC) ∧ wpE P ops Q qs (fun w => HeapOk w0 w HC) f listed' (a.put o.dst v) w') : GE P ops Q qs n w0 HC (f + 1) listed fr H := by
  intro a w hra hh
  simp only [onlyB, Bool.and_eq_true, beq_iff_eq] at hB
  refine wpE_all hB.1 (by simp) fun w1 he j hj => ?_
  simp only [List.mem_singleton] at hj
  subst hj
  unfold okOp
  simp only [hi, wanted_of hra hg, if_true]
  rw [hB.2]
  exact h a w1 hra (hh.ext he)
/-- The tail: an operation that alone is ready, of those behind which no class is asked. -/
theorem GE.opT {X : Type} {φ : X → Prop} {val : X → Value} {H' : X → List Ch} (hB : onlyB ops listed i listed' = true) (hT : qs.contains i = true) (hi : ops[i]? = some ⟨some d, o, T, pos, af, gd⟩) (hg : guardIs ops fr gd = some true)
    (ho : OpG P n w0 fr H o φ val H') (hd : Nat.ble (d + 1) n = true) (h : ∀ x, φ x → GE P ops Q qs n w0 HC f listed' ((d, val x) :: fr) (H' x)) : GE P ops Q qs n w0 HC (f + 1) listed fr H :=
  GE.one hB hi hg fun a w hra hh => ho a w hra hh _ _ _ _ _ _ fun x w' hx hw => ⟨fun h => (by rw [hT] at h; cases h), h x hx _ _ (hra.put (Nat.le_of_ble_eq_true hd) _) hw⟩
theorem GE.opT0 {X : Type} {φ : X → Prop} {val : X → Value} {H' : X → List Ch} (hB : onlyB ops listed i listed' = true) (hT : qs.contains i = true) (hi : ops[i]? = some ⟨none, o, T, pos, af, gd⟩) (hg : guardIs ops fr gd = some true)
    (ho : OpG P n w0 fr H o φ val H') (h : ∀ x, φ x → GE P ops Q qs n w0 HC f listed' fr (H' x)) : GE P ops Q qs n w0 HC (f + 1) listed fr H :=
  GE.one hB hi hg fun a w hra hh => ho a w hra hh _ _ _ _ _ _ fun x w' hx hw => ⟨fun h => (by rw [hT] at h; cases h), h x hx _ _ (hra.put_none _) hw⟩
/-- An operation that alone is ready; the class stays. -/
theorem GE.op {X : Type} {φ : X → Prop} {val : X → Value} {H' : X → List Ch} (hB : onlyB ops listed i listed' = true) (hi : ops[i]? = some ⟨some d, o, T, pos, af, gd⟩) (hg : guardIs ops fr gd = some true)
    (ho : OpG P n w0 fr H o φ val H') (hd : Nat.ble (d + 1) n = true) (hH : ∀ x w, HeapOk w0 w (H' x) → HeapOk w0 w HC) (h : ∀ x, φ x → GE P ops Q qs n w0 HC f listed' ((d, val x) :: fr) (H' x)) : GE P ops Q qs n w0 HC (f + 1) listed fr H :=
  GE.one hB hi hg fun a w hra hh => ho a w hra hh _ _ _ _ _ _ fun x w' hx hw => ⟨fun _ => hH x w' hw, h x hx _ _ (hra.put (Nat.le_of_ble_eq_true hd) _) hw⟩
/-- Several are ready. -/
theorem GE.any {rs : List Nat} (hr : Region.ready .any ops listed = rs) (hne : rs ≠ []) (h : ∀ i ∈ rs, G n w0 fr H (okOp P ops i fun a' w' => (qs.contains i = false → HeapOk w0 w' HC) ∧ wpE P ops Q qs (fun w => HeapOk w0 w HC) f (listed.setIfInBounds i true) a' w')) : GE P ops Q qs n w0 HC (f + 1) listed fr H :=
  fun a w hra hh => wpE_all hr hne fun w1 he j hj => h j hj a w1 hra (hh.ext he)
/-- One of several: the operation of a 'GE.any'. -/
theorem GE.pickOp {X : Type} {φ : X → Prop} {val : X → Value} {H' : X → List Ch} (hi : ops[i]? = some ⟨some d, o, T, pos, af, gd⟩) (hg : guardIs ops fr gd = some true) (hl : listed.setIfInBounds i true = listed')
    (ho : OpG P n w0 fr H o φ val H') (hd : Nat.ble (d + 1) n = true) (hH : ∀ x w, HeapOk w0 w (H' x) → HeapOk w0 w HC) (h : ∀ x, φ x → GE P ops Q qs n w0 HC f listed' ((d, val x) :: fr) (H' x)) :
    G n w0 fr H (okOp P ops i fun a' w' => (qs.contains i = false → HeapOk w0 w' HC) ∧ wpE P ops Q qs (fun w => HeapOk w0 w HC) f (listed.setIfInBounds i true) a' w') := by
  intro a w hra hh
  unfold okOp
  have hw := wanted_of (ops := ops) hra (o := ⟨some d, o, T, pos, af, gd⟩) hg
  simp only [hi, hw, if_true]
  rw [hl]
  exact ho a w hra hh _ _ _ _ _ _ fun x w' hx hw => ⟨fun _ => hH x w' hw, h x hx _ _ (hra.put (Nat.le_of_ble_eq_true hd) _) hw⟩

/-! Short forms. -/
theorem G.drawL [hW : Wide P] {id : Nat} {l : List Oper} (qs : List Nat)
    (h : GE P l.toArray Q qs n w0 H l.length (Array.replicate l.length false) fr H) : G n w0 fr H ((Code.region id l.toArray true).wp P Q) := G.draw qs H l.length _ (by simp) rfl h
def firstL (ops : Array Oper) (qs : List Nat) (listed : Array Bool) (i : Nat) : Bool := firstB ops qs listed i (listed.setIfInBounds i true)
def onlyL (ops : Array Oper) (listed : Array Bool) (i : Nat) : Bool := Region.ready .any ops listed == [i]
theorem GE.q (i : Nat) {v : Value} (hi : ops[i]? = some ⟨some d, o, T, pos, af, gd⟩) (hB : firstL ops qs listed i = true) (hg : guardIs ops fr gd = some true)
    (hq : QuietG P n w0 fr H o v) (hd : Nat.ble (d + 1) n = true)
    (h : GE P ops Q qs n w0 H f (listed.setIfInBounds i true) ((d, v) :: fr) H) : GE P ops Q qs n w0 H (f + 1) listed fr H := GE.quiet hi hB hg hq (fun _ h => h) hd h
theorem GE.qn (i : Nat) (hi : ops[i]? = some ⟨some d, o, T, pos, af, gd⟩) (hB : firstL ops qs listed i = true) (hg : guardIs ops fr gd = some false) (hd : Nat.ble (d + 1) n = true)
    (h : GE P ops Q qs n w0 H f (listed.setIfInBounds i true) ((d, undef) :: fr) H) : GE P ops Q qs n w0 H (f + 1) listed fr H := GE.skip hi hB hg (fun _ h => h) hd h
theorem onlyB_of (h : onlyL ops listed i = true) : onlyB ops listed i (listed.setIfInBounds i true) = true := by
  simp only [onlyL, onlyB, Bool.and_eq_true] at *
  exact ⟨h, by simp⟩
theorem GE.t (i : Nat) {X : Type} {φ : X → Prop} {val : X → Value} {H' : X → List Ch} (hB : onlyL ops listed i = true) (hT : qs.contains i = true) (hi : ops[i]? = some ⟨some d, o, T, pos, af, gd⟩) (hg : guardIs ops fr gd = some true)
    (ho : OpG P n w0 fr H o φ val H') (hd : Nat.ble (d + 1) n = true) (h : ∀ x, φ x → GE P ops Q qs n w0 HC f (listed.setIfInBounds i true) ((d, val x) :: fr) (H' x)) : GE P ops Q qs n w0 HC (f + 1) listed fr H := GE.opT (onlyB_of hB) hT hi hg ho hd h
theorem GE.t0 (i : Nat) {X : Type} {φ : X → Prop} {val : X → Value} {H' : X → List Ch} (hB : onlyL ops listed i = true) (hT : qs.contains i = true) (hi : ops[i]? = some ⟨none, o, T, pos, af, gd⟩) (hg : guardIs ops fr gd = some true)
    (ho : OpG P n w0 fr H o φ val H') (h : ∀ x, φ x → GE P ops Q qs n w0 HC f (listed.setIfInBounds i true) fr (H' x)) : GE P ops Q qs n w0 HC (f + 1) listed fr H := GE.opT0 (onlyB_of hB) hT hi hg ho h
theorem GE.ol (i : Nat) {X : Type} {φ : X → Prop} {val : X → Value} {H' : X → List Ch} (hB : onlyL ops listed i = true) (hi : ops[i]? = some ⟨some d, o, T, pos, af, gd⟩) (hg : guardIs ops fr gd = some true)
    (ho : OpG P n w0 fr H o φ val H') (hd : Nat.ble (d + 1) n = true) (hH : ∀ x w, HeapOk w0 w (H' x) → HeapOk w0 w HC) (h : ∀ x, φ x → GE P ops Q qs n w0 HC f (listed.setIfInBounds i true) ((d, val x) :: fr) (H' x)) : GE P ops Q qs n w0 HC (f + 1) listed fr H := GE.op (onlyB_of hB) hi hg ho hd hH h
end
end
end Go.Proofs.YtpmphkcibiimcaaGreat
