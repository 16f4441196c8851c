/-
  Calls that turn one chunk, regions in which one chunk is turned, and several results, in the logic of chunks.
-/
import Derived.Test.YtpmphkcibiimcaaGreatDraw
namespace Go.Proofs.YtpmphkcibiimcaaGreat
open Go.RowKit
/-- A call that turns chunks, beside others that are given. -/
def FnMF (P : Program) (f : FuncId) (vs : List Value) (w0 : World) (cin F : List Ch) {X : Type} (φ : X → Prop) (rv : X → Value) (out : X → List Ch) : Prop :=
  ∀ (w : World), HeapOk w0 w (cin ++ F) → Calls P f vs.toArray w fun e w' => ∃ x, φ x ∧ e = .returned (rv x) ∧ HeapOk w0 w' (out x ++ F)
theorem FnM.toF {P : Program} {f : FuncId} {vs : List Value} {w0 : World} {cin F : List Ch} {X : Type} {φ : X → Prop} {rv : X → Value} {out : X → List Ch} (h : FnM P f vs w0 cin φ rv out) : FnMF P f vs w0 cin F φ rv out := fun w hh => h w F hh
theorem FnMF.of {P : Program} {f : FuncId} {fn : Func} {c : Code} {vs : List Value} {w0 : World} {cin F : List Ch} {X : Type} {φ : X → Prop} {rv : X → Value} {out : X → List Ch} {n : Nat}
    (hf : P.funcs[f]? = some fn) (hb : fn.body = some c) (hn : Nat.beq (vs.length + (fn.ntmps - vs.length)) n = true)
    (h : G n w0 (argFr 0 vs) (cin ++ F) (c.wp P (bodyPost P fn fun e w' => ∃ x, φ x ∧ e = .returned (rv x) ∧ HeapOk w0 w' (out x ++ F)))) : FnMF P f vs w0 cin F φ rv out :=
  fun _ hh => calls_begin hf hb hn hh h
section
variable {P : Program} {n : Nat} {w0 : World} {fr : Fr} {H : List Ch} {Q : Exit → Act → World → Prop}
theorem og_callMF {f : FuncId} [hF : FnOk P f] {fo : Operand} {xs : List Operand} {vs caps : List Value} {ts : Array TypeId} {X : Type} {φ : X → Prop} {rv : X → Value} {cin F : List Ch} {out : X → List Ch} (hf : opv fr fo = some (.func (.func f) #[] caps.toArray)) (hx : opvs fr xs = some vs) (hc : FnMF P f (vs ++ caps) w0 cin F φ rv out) (hp : H.Perm (cin ++ F)) :
    OpG P n w0 fr H (.call ⟨.value fo, xs.toArray, ts⟩) φ rv (fun x => out x ++ F) :=
  fun a w hr hh d T pos af gd K hK => by
    unfold okAt; rw [run_call hr hf hx]
    exact Calls.mono (hc w (hh.perm hp)) fun e w' ⟨x, hφ, he, hw⟩ => ⟨_, he, hK x _ hφ hw⟩
/-! ### A call that turns one chunk; the chunk comes to the front -/
section
variable {f : FuncId} [hF : FnOk P f] {fo : Operand} {xs : List Operand} {vs caps : List Value} {ts : Array TypeId} {X : Type} {φ : X → Prop} {rv : X → Value} {c a1 a2 a3 a4 a5 a6 : Ch} {F : List Ch} {out : X → Ch}
theorem og_callM0 (hf : opv fr fo = some (.func (.func f) #[] caps.toArray)) (hx : opvs fr xs = some vs) (hH : H = c :: F) (hc : FnMF P f (vs ++ caps) w0 [c] F φ rv (fun x => [out x])) :
    OpG P n w0 fr H (.call ⟨.value fo, xs.toArray, ts⟩) φ rv (fun x => out x :: F) := og_callMF hf hx hc (by subst hH; exact (front_perm (i := 0) rfl).symm)
theorem og_callM1 (hf : opv fr fo = some (.func (.func f) #[] caps.toArray)) (hx : opvs fr xs = some vs) (hH : H = a1 :: c :: F) (hc : FnMF P f (vs ++ caps) w0 [c] (a1 :: F) φ rv (fun x => [out x])) :
    OpG P n w0 fr H (.call ⟨.value fo, xs.toArray, ts⟩) φ rv (fun x => out x :: a1 :: F) := og_callMF hf hx hc (by subst hH; exact (front_perm (i := 1) rfl).symm)
theorem og_callM2 (hf : opv fr fo = some (.func (.func f) #[] caps.toArray)) (hx : opvs fr xs = some vs) (hH : H = a1 :: a2 :: c :: F) (hc : FnMF P f (vs ++ caps) w0 [c] (a1 :: a2 :: F) φ rv (fun x => [out x])) :
    OpG P n w0 fr H (.call ⟨.value fo, xs.toArray, ts⟩) φ rv (fun x => out x :: a1 :: a2 :: F) := og_callMF hf hx hc (by subst hH; exact (front_perm (i := 2) rfl).symm)
theorem og_callM3 (hf : opv fr fo = some (.func (.func f) #[] caps.toArray)) (hx : opvs fr xs = some vs) (hH : H = a1 :: a2 :: a3 :: c :: F) (hc : FnMF P f (vs ++ caps) w0 [c] (a1 :: a2 :: a3 :: F) φ rv (fun x => [out x])) :
    OpG P n w0 fr H (.call ⟨.value fo, xs.toArray, ts⟩) φ rv (fun x => out x :: a1 :: a2 :: a3 :: F) := og_callMF hf hx hc (by subst hH; exact (front_perm (i := 3) rfl).symm)
theorem og_callM4 (hf : opv fr fo = some (.func (.func f) #[] caps.toArray)) (hx : opvs fr xs = some vs) (hH : H = a1 :: a2 :: a3 :: a4 :: c :: F) (hc : FnMF P f (vs ++ caps) w0 [c] (a1 :: a2 :: a3 :: a4 :: F) φ rv (fun x => [out x])) :
    OpG P n w0 fr H (.call ⟨.value fo, xs.toArray, ts⟩) φ rv (fun x => out x :: a1 :: a2 :: a3 :: a4 :: F) := og_callMF hf hx hc (by subst hH; exact (front_perm (i := 4) rfl).symm)
theorem og_callM5 (hf : opv fr fo = some (.func (.func f) #[] caps.toArray)) (hx : opvs fr xs = some vs) (hH : H = a1 :: a2 :: a3 :: a4 :: a5 :: c :: F) (hc : FnMF P f (vs ++ caps) w0 [c] (a1 :: a2 :: a3 :: a4 :: a5 :: F) φ rv (fun x => [out x])) :
    OpG P n w0 fr H (.call ⟨.value fo, xs.toArray, ts⟩) φ rv (fun x => out x :: a1 :: a2 :: a3 :: a4 :: a5 :: F) := og_callMF hf hx hc (by subst hH; exact (front_perm (i := 5) rfl).symm)
theorem og_callM6 (hf : opv fr fo = some (.func (.func f) #[] caps.toArray)) (hx : opvs fr xs = some vs) (hH : H = a1 :: a2 :: a3 :: a4 :: a5 :: a6 :: c :: F) (hc : FnMF P f (vs ++ caps) w0 [c] (a1 :: a2 :: a3 :: a4 :: a5 :: a6 :: F) φ rv (fun x => [out x])) :
    OpG P n w0 fr H (.call ⟨.value fo, xs.toArray, ts⟩) φ rv (fun x => out x :: a1 :: a2 :: a3 :: a4 :: a5 :: a6 :: F) := og_callMF hf hx hc (by subst hH; exact (front_perm (i := 6) rfl).symm)
/-- A call that turns the chunk in front, and leaves others ahead of it. -/
theorem og_callN0 {outs : X → List Ch} (hf : opv fr fo = some (.func (.func f) #[] caps.toArray)) (hx : opvs fr xs = some vs) (hH : H = c :: F) (hc : FnMF P f (vs ++ caps) w0 [c] F φ rv outs) :
    OpG P n w0 fr H (.call ⟨.value fo, xs.toArray, ts⟩) φ rv (fun x => outs x ++ F) := og_callMF hf hx hc (by subst hH; exact (front_perm (i := 0) rfl).symm)
end
/-! ### A region that draws, but for one chunk -/
section
variable [hW : Wide P] {id : Nat} {l : List Oper} {c a1 a2 a3 a4 a5 a6 : Ch} {F : List Ch}
theorem G.drawD1 {c1 : Ch} (qs : List Nat) (hH : H = c1 :: F) (h : GE P l.toArray Q qs n w0 F l.length (Array.replicate l.length false) fr H) : G n w0 fr H ((Code.region id l.toArray true).wp P Q) := G.draw qs F l.length _ (by simp) rfl h
theorem G.drawD2 {c1 c2 : Ch} (qs : List Nat) (hH : H = c1 :: c2 :: F) (h : GE P l.toArray Q qs n w0 F l.length (Array.replicate l.length false) fr H) : G n w0 fr H ((Code.region id l.toArray true).wp P Q) := G.draw qs F l.length _ (by simp) rfl h
theorem G.drawD3 {c1 c2 c3 : Ch} (qs : List Nat) (hH : H = c1 :: c2 :: c3 :: F) (h : GE P l.toArray Q qs n w0 F l.length (Array.replicate l.length false) fr H) : G n w0 fr H ((Code.region id l.toArray true).wp P Q) := G.draw qs F l.length _ (by simp) rfl h
theorem G.drawD4 {c1 c2 c3 c4 : Ch} (qs : List Nat) (hH : H = c1 :: c2 :: c3 :: c4 :: F) (h : GE P l.toArray Q qs n w0 F l.length (Array.replicate l.length false) fr H) : G n w0 fr H ((Code.region id l.toArray true).wp P Q) := G.draw qs F l.length _ (by simp) rfl h
theorem G.drawD5 {c1 c2 c3 c4 c5 : Ch} (qs : List Nat) (hH : H = c1 :: c2 :: c3 :: c4 :: c5 :: F) (h : GE P l.toArray Q qs n w0 F l.length (Array.replicate l.length false) fr H) : G n w0 fr H ((Code.region id l.toArray true).wp P Q) := G.draw qs F l.length _ (by simp) rfl h
theorem G.drawD6 {c1 c2 c3 c4 c5 c6 : Ch} (qs : List Nat) (hH : H = c1 :: c2 :: c3 :: c4 :: c5 :: c6 :: F) (h : GE P l.toArray Q qs n w0 F l.length (Array.replicate l.length false) fr H) : G n w0 fr H ((Code.region id l.toArray true).wp P Q) := G.draw qs F l.length _ (by simp) rfl h
end
/-- The chunk of a block comes to the front. -/
theorem G.frontB0 {F : List Ch} (b : Nat) {t : TypeId} {cs : List Value} {K : Act → World → Prop} (hH : H = .blk b t cs :: F) (h : G n w0 fr (.blk b t cs :: F) K) : G n w0 fr H K := G.perm (by subst hH; exact (front_perm (i := 0) rfl).symm) h
theorem G.frontB1 {a1 : Ch} {F : List Ch} (b : Nat) {t : TypeId} {cs : List Value} {K : Act → World → Prop} (hH : H = a1 :: .blk b t cs :: F) (h : G n w0 fr (.blk b t cs :: a1 :: F) K) : G n w0 fr H K := G.perm (by subst hH; exact (front_perm (i := 1) rfl).symm) h
theorem G.frontB2 {a1 a2 : Ch} {F : List Ch} (b : Nat) {t : TypeId} {cs : List Value} {K : Act → World → Prop} (hH : H = a1 :: a2 :: .blk b t cs :: F) (h : G n w0 fr (.blk b t cs :: a1 :: a2 :: F) K) : G n w0 fr H K := G.perm (by subst hH; exact (front_perm (i := 2) rfl).symm) h
theorem G.frontB3 {a1 a2 a3 : Ch} {F : List Ch} (b : Nat) {t : TypeId} {cs : List Value} {K : Act → World → Prop} (hH : H = a1 :: a2 :: a3 :: .blk b t cs :: F) (h : G n w0 fr (.blk b t cs :: a1 :: a2 :: a3 :: F) K) : G n w0 fr H K := G.perm (by subst hH; exact (front_perm (i := 3) rfl).symm) h
theorem G.frontB4 {a1 a2 a3 a4 : Ch} {F : List Ch} (b : Nat) {t : TypeId} {cs : List Value} {K : Act → World → Prop} (hH : H = a1 :: a2 :: a3 :: a4 :: .blk b t cs :: F) (h : G n w0 fr (.blk b t cs :: a1 :: a2 :: a3 :: a4 :: F) K) : G n w0 fr H K := G.perm (by subst hH; exact (front_perm (i := 4) rfl).symm) h
theorem G.frontB5 {a1 a2 a3 a4 a5 : Ch} {F : List Ch} (b : Nat) {t : TypeId} {cs : List Value} {K : Act → World → Prop} (hH : H = a1 :: a2 :: a3 :: a4 :: a5 :: .blk b t cs :: F) (h : G n w0 fr (.blk b t cs :: a1 :: a2 :: a3 :: a4 :: a5 :: F) K) : G n w0 fr H K := G.perm (by subst hH; exact (front_perm (i := 5) rfl).symm) h
theorem G.frontB6 {a1 a2 a3 a4 a5 a6 : Ch} {F : List Ch} (b : Nat) {t : TypeId} {cs : List Value} {K : Act → World → Prop} (hH : H = a1 :: a2 :: a3 :: a4 :: a5 :: a6 :: .blk b t cs :: F) (h : G n w0 fr (.blk b t cs :: a1 :: a2 :: a3 :: a4 :: a5 :: a6 :: F) K) : G n w0 fr H K := G.perm (by subst hH; exact (front_perm (i := 6) rfl).symm) h
theorem G.frontB7 {a1 a2 a3 a4 a5 a6 a7 : Ch} {F : List Ch} (b : Nat) {t : TypeId} {cs : List Value} {K : Act → World → Prop} (hH : H = a1 :: a2 :: a3 :: a4 :: a5 :: a6 :: a7 :: .blk b t cs :: F) (h : G n w0 fr (.blk b t cs :: a1 :: a2 :: a3 :: a4 :: a5 :: a6 :: a7 :: F) K) : G n w0 fr H K := G.perm (by subst hH; exact (front_perm (i := 7) rfl).symm) h
theorem G.frontB8 {a1 a2 a3 a4 a5 a6 a7 a8 : Ch} {F : List Ch} (b : Nat) {t : TypeId} {cs : List Value} {K : Act → World → Prop} (hH : H = a1 :: a2 :: a3 :: a4 :: a5 :: a6 :: a7 :: a8 :: .blk b t cs :: F) (h : G n w0 fr (.blk b t cs :: a1 :: a2 :: a3 :: a4 :: a5 :: a6 :: a7 :: a8 :: F) K) : G n w0 fr H K := G.perm (by subst hH; exact (front_perm (i := 8) rfl).symm) h
theorem G.frontB9 {a1 a2 a3 a4 a5 a6 a7 a8 a9 : Ch} {F : List Ch} (b : Nat) {t : TypeId} {cs : List Value} {K : Act → World → Prop} (hH : H = a1 :: a2 :: a3 :: a4 :: a5 :: a6 :: a7 :: a8 :: a9 :: .blk b t cs :: F) (h : G n w0 fr (.blk b t cs :: a1 :: a2 :: a3 :: a4 :: a5 :: a6 :: a7 :: a8 :: a9 :: F) K) : G n w0 fr H K := G.perm (by subst hH; exact (front_perm (i := 9) rfl).symm) h
theorem G.frontB10 {a1 a2 a3 a4 a5 a6 a7 a8 a9 a10 : Ch} {F : List Ch} (b : Nat) {t : TypeId} {cs : List Value} {K : Act → World → Prop} (hH : H = a1 :: a2 :: a3 :: a4 :: a5 :: a6 :: a7 :: a8 :: a9 :: a10 :: .blk b t cs :: F) (h : G n w0 fr (.blk b t cs :: a1 :: a2 :: a3 :: a4 :: a5 :: a6 :: a7 :: a8 :: a9 :: a10 :: F) K) : G n w0 fr H K := G.perm (by subst hH; exact (front_perm (i := 10) rfl).symm) h
theorem G.frontB11 {a1 a2 a3 a4 a5 a6 a7 a8 a9 a10 a11 : Ch} {F : List Ch} (b : Nat) {t : TypeId} {cs : List Value} {K : Act → World → Prop} (hH : H = a1 :: a2 :: a3 :: a4 :: a5 :: a6 :: a7 :: a8 :: a9 :: a10 :: a11 :: .blk b t cs :: F) (h : G n w0 fr (.blk b t cs :: a1 :: a2 :: a3 :: a4 :: a5 :: a6 :: a7 :: a8 :: a9 :: a10 :: a11 :: F) K) : G n w0 fr H K := G.perm (by subst hH; exact (front_perm (i := 11) rfl).symm) h
theorem G.frontB12 {a1 a2 a3 a4 a5 a6 a7 a8 a9 a10 a11 a12 : Ch} {F : List Ch} (b : Nat) {t : TypeId} {cs : List Value} {K : Act → World → Prop} (hH : H = a1 :: a2 :: a3 :: a4 :: a5 :: a6 :: a7 :: a8 :: a9 :: a10 :: a11 :: a12 :: .blk b t cs :: F) (h : G n w0 fr (.blk b t cs :: a1 :: a2 :: a3 :: a4 :: a5 :: a6 :: a7 :: a8 :: a9 :: a10 :: a11 :: a12 :: F) K) : G n w0 fr H K := G.perm (by subst hH; exact (front_perm (i := 12) rfl).symm) h
theorem G.frontB13 {a1 a2 a3 a4 a5 a6 a7 a8 a9 a10 a11 a12 a13 : Ch} {F : List Ch} (b : Nat) {t : TypeId} {cs : List Value} {K : Act → World → Prop} (hH : H = a1 :: a2 :: a3 :: a4 :: a5 :: a6 :: a7 :: a8 :: a9 :: a10 :: a11 :: a12 :: a13 :: .blk b t cs :: F) (h : G n w0 fr (.blk b t cs :: a1 :: a2 :: a3 :: a4 :: a5 :: a6 :: a7 :: a8 :: a9 :: a10 :: a11 :: a12 :: a13 :: F) K) : G n w0 fr H K := G.perm (by subst hH; exact (front_perm (i := 13) rfl).symm) h
/-- Steps among a drawn region's. -/
theorem GE.q2 {qs : List Nat} {HC : List Ch} {f d : Nat} {listed : Array Bool} {ops : Array Oper} {o : Op} {T : TypeId} {pos : String} {af : Array Edge} {gd : Option (Nat × Bool)} (i : Nat) {v : Value} (hi : ops[i]? = some ⟨some d, o, T, pos, af, gd⟩) (hB : firstL ops qs listed i = true) (hg : guardIs ops fr gd = some true)
    (hq : QuietG P n w0 fr HC o v) (hH : ∀ w, HeapOk w0 w H → HeapOk w0 w HC) (hd : Nat.ble (d + 1) n = true)
    (h : GE P ops Q qs n w0 HC f (listed.setIfInBounds i true) ((d, v) :: fr) H) : GE P ops Q qs n w0 HC (f + 1) listed fr H := GE.quiet hi hB hg hq hH hd h
theorem GE.qn2 {qs : List Nat} {HC : List Ch} {f d : Nat} {listed : Array Bool} {ops : Array Oper} {o : Op} {T : TypeId} {pos : String} {af : Array Edge} {gd : Option (Nat × Bool)} (i : Nat) (hi : ops[i]? = some ⟨some d, o, T, pos, af, gd⟩) (hB : firstL ops qs listed i = true) (hg : guardIs ops fr gd = some false) (hH : ∀ w, HeapOk w0 w H → HeapOk w0 w HC) (hd : Nat.ble (d + 1) n = true)
    (h : GE P ops Q qs n w0 HC f (listed.setIfInBounds i true) ((d, undef) :: fr) H) : GE P ops Q qs n w0 HC (f + 1) listed fr H := GE.skip hi hB hg hH hd h
theorem GE.ol0 {qs : List Nat} {HC : List Ch} {f : Nat} {listed : Array Bool} {ops : Array Oper} {o : Op} {T : TypeId} {pos : String} {af : Array Edge} {gd : Option (Nat × Bool)} (i : Nat) {X : Type} {φ : X → Prop} {val : X → Value} {H' : X → List Ch} (hB : onlyL ops listed i = true) (hi : ops[i]? = some ⟨none, o, T, pos, af, gd⟩) (hg : guardIs ops fr gd = some true)
    (ho : OpG P n w0 fr H o φ val H') (hH : ∀ x w, HeapOk w0 w (H' x) → HeapOk w0 w HC) (h : ∀ x, φ x → GE P ops Q qs n w0 HC f (listed.setIfInBounds i true) fr (H' x)) : GE P ops Q qs n w0 HC (f + 1) listed fr H :=
  GE.one (onlyB_of hB) hi hg fun a w hra hh => ho a w hra hh _ _ _ _ _ _ fun x w' hx hw => ⟨fun _ => hH x w' hw, h x hx _ _ (hra.put_none _) hw⟩

/-! ### Stores, appends and calls that leave the list of chunks written out -/
inductive Over : List Value → List Value → List Value → Prop where
  | nil {cs : List Value} : Over [] cs cs
  | cons {u c : Value} {us cs cs' : List Value} (h : Over us cs cs') : Over (u :: us) (c :: cs) (u :: cs')
inductive Splice : Nat → List Value → List Value → List Value → Prop where
  | zero {us cs cs' : List Value} (h : Over us cs cs') : Splice 0 us cs cs'
  | succ {o : Nat} {c : Value} {us cs cs' : List Value} (h : Splice o us cs cs') : Splice (o + 1) us (c :: cs) (c :: cs')
theorem Over.eq {us cs cs' : List Value} (h : Over us cs cs') : us ++ cs.drop us.length = cs' ∧ us.length ≤ cs.length := by
  induction h with
  | nil => simp
  | cons h ih => simp [ih.1, ih.2]
theorem Splice.eq {o : Nat} {us cs cs' : List Value} (h : Splice o us cs cs') : cs.take o ++ us ++ cs.drop (o + us.length) = cs' ∧ o + us.length ≤ cs.length := by
  induction h with
  | zero h => have := h.eq; simp [this.1, this.2]
  | succ h ih =>
    rename_i o c us cs cs'
    have e : o + 1 + us.length = (o + us.length) + 1 := by omega
    rw [e]
    simp only [List.take_succ_cons, List.drop_succ_cons, List.cons_append, List.length_cons]
    exact ⟨by rw [ih.1], by omega⟩
theorem Splice.len {o : Nat} {us cs cs' : List Value} (h : Splice o us cs cs') : cs'.length = cs.length := by
  have := h.eq
  rw [← this.1]; simp only [List.length_append, List.length_take, List.length_drop]; omega
inductive Fills (pl : List (Nat × Nat)) : List Value → List Nat → List (List Value) → List Value → Prop where
  | nil {cs : List Value} : Fills pl cs [] [] cs
  | cons {i off size : Nat} {is : List Nat} {u cs cs1 cs' : List Value} {us : List (List Value)} (h1 : pl[i]? = some (off, size)) (h2 : Nat.beq u.length size = true) (h3 : Splice off u cs cs1) (h4 : Fills pl cs1 is us cs') : Fills pl cs (i :: is) (u :: us) cs'
theorem Fills.eq {pl : List (Nat × Nat)} {cs : List Value} {is : List Nat} {us : List (List Value)} {cs' : List Value} (h : Fills pl cs is us cs') : fillL (fun i => pl[i]?) cs is us = some cs' := by
  induction h with
  | nil => rfl
  | cons h1 h2 h3 h4 ih =>
    have := h3.eq
    simp only [fillL, h1, h2, Bool.true_and, Nat.ble_eq_true_of_le this.2, cond_true, this.1]
    exact ih
theorem rv_build2 {t : TypeId} {s bs : Nat} {zs : List Value} {pl : List (Nat × Nat)} [hI : TyInfo P t s zs bs] [hP : TyPlaces P t pl] {ps : List (Nat × Operand)} {is : List Nat} {vs : List Value} {us : List (List Value)} {cs : List Value}
    (hp : pairs fr ps = some (is, vs)) (hu : CellsOf vs us) (hf : Fills pl zs is us cs) : RunsV P n w0 fr H (.build t ps.toArray) (.agg cs.toArray) := rv_build hp hu hf.eq
/-- A part of a list. -/
inductive Part : Nat → Nat → List Value → List Value → Prop where
  | nil {cs : List Value} : Part 0 0 cs []
  | one {m : Nat} {c : Value} {cs us : List Value} (h : Part 0 m cs us) : Part 0 (m + 1) (c :: cs) (c :: us)
  | skip {o m : Nat} {c : Value} {cs us : List Value} (h : Part o m cs us) : Part (o + 1) m (c :: cs) us
theorem Part.eq {o m : Nat} {cs us : List Value} (h : Part o m cs us) : (cs.drop o).take m = us ∧ us.length = m := by
  induction h with
  | nil => simp
  | one h ih =>
    have h1 := ih.1
    simp only [List.drop_zero] at h1
    simp [h1, ih.2]
  | skip h ih => simpa using ih
theorem rv_loadP {x : Operand} {t : TypeId} {s bs : Nat} {zs : List Value} [hT : TyAgg P t] [hI : TyInfo P t s zs bs] {b o : Nat} (i : Nat) {t' : TypeId} {cs us : List Value} (hx : opv fr x = some (pB b o)) (hi : H[i]? = some (.blk b t' cs))
    (hu : Part o s cs us) : RunsV P n w0 fr H (.load t x) (.agg us.toArray) := rv_loadS i hx hi hu.eq.1 (by rw [hu.eq.2]; simp)
theorem rv_loadEP {x : Operand} {t : TypeId} {z bs : Nat} {zs : List Value} [hT : TyAgg P t] [hI : TyInfo P t z zs bs] {v : Value} {s k c : Nat} {es : List (List Value)} {e us : List Value} (hx : opv fr x = some (pE v s k c)) (hv : ∀ w, HeapOk w0 w H → Rd w v s es) (hk : es[k]? = some e)
    (hu : Part c z e us) : RunsV P n w0 fr H (.load t x) (.agg us.toArray) := rv_loadES hx hv hk hu.eq.1 (by rw [hu.eq.2]; simp)
theorem og_st0 {x y : Operand} {t : TypeId} {s bs : Nat} {zs : List Value} [hI : TyInfo P t s zs bs] {b o : Nat} {F : List Ch} {t' : TypeId} {cs us cs' : List Value} {v : Value}
    (hx : opv fr x = some (pB b o)) (hy : opv fr y = some v) (hH : H = .blk b t' cs :: F) (hu : v.cells = us.toArray) (hl : Nat.beq us.length s = true) (h1 : us.all Value.oneCell' = true) (hs : Splice o us cs cs') :
    OpG P n w0 fr H (.store t x y) Triv (fun _ : Unit => undef) (fun _ => .blk b t' cs' :: F) := by
  subst hH; exact og_store 0 hx hy rfl hu hl h1 (Nat.ble_eq_true_of_le hs.eq.2) hs.eq.1
theorem og_stE0 {x y : Operand} {t : TypeId} {z bs : Nat} {zs : List Value} [hI : TyInfo P t z zs bs] {v : Value} {s k c : Nat} {F : List Ch} {t' : TypeId} {es : List (List Value)} {e us e' : List Value} {u : Value}
    (hx : opv fr x = some (pE v s k c)) (hy : opv fr y = some u) (hH : H = .row v t' s es :: F) (hk : es[k]? = some e) (hu : u.cells = us.toArray) (hl : Nat.beq us.length z = true) (h1 : us.all Value.oneCell' = true) (hlen : Nat.beq e.length s = true) (hs : Splice c us e e') :
    OpG P n w0 fr H (.store t x y) Triv (fun _ : Unit => undef) (fun _ => .row v t' s (es.set k e') :: F) := by
  subst hH; exact og_storeE 0 hx hy rfl hk hu hl h1 (Nat.ble_eq_true_of_le (by rw [← Nat.eq_of_beq_eq_true hlen]; exact hs.eq.2)) hs.eq.1
theorem og_app0 {x y : Operand} {t e : TypeId} {s bs : Nat} {zs : List Value} [hT : TySlice P t e] [hI : TyInfo P e s zs bs] {F : List Ch} {v v2 : Value} {es es2 : List (List Value)}
    (hx : opv fr x = some v) (hy : opv fr y = some v2) (hH : H = .row v e s es :: F) (h2 : ∀ w, HeapOk w0 w H → Rd w v2 s es2) (hz : Nat.beq zs.length s = true) (hs1 : Nat.ble 1 s = true)
    (hb : (es.length + es2.length) * bs ≤ 140737488355328) (hm : es.length + es2.length ≤ 9223372036854775807) : OpG P n w0 fr H (.call ⟨.builtin .append, #[x, y], #[t, t]⟩) Triv (fun v' : Value => v') (fun v' => .row v' e s (es ++ es2) :: F) := by
  subst hH; exact og_append 0 hx hy rfl h2 hz hs1 hb hm
theorem og_st1 {x y : Operand} {t : TypeId} {s bs : Nat} {zs : List Value} [hI : TyInfo P t s zs bs] {b o : Nat} {a1 : Ch} {F : List Ch} {t' : TypeId} {cs us cs' : List Value} {v : Value}
    (hx : opv fr x = some (pB b o)) (hy : opv fr y = some v) (hH : H = a1 :: .blk b t' cs :: F) (hu : v.cells = us.toArray) (hl : Nat.beq us.length s = true) (h1 : us.all Value.oneCell' = true) (hs : Splice o us cs cs') :
    OpG P n w0 fr H (.store t x y) Triv (fun _ : Unit => undef) (fun _ => a1 :: .blk b t' cs' :: F) := by
  subst hH; exact og_store 1 hx hy rfl hu hl h1 (Nat.ble_eq_true_of_le hs.eq.2) hs.eq.1
theorem og_stE1 {x y : Operand} {t : TypeId} {z bs : Nat} {zs : List Value} [hI : TyInfo P t z zs bs] {v : Value} {s k c : Nat} {a1 : Ch} {F : List Ch} {t' : TypeId} {es : List (List Value)} {e us e' : List Value} {u : Value}
    (hx : opv fr x = some (pE v s k c)) (hy : opv fr y = some u) (hH : H = a1 :: .row v t' s es :: F) (hk : es[k]? = some e) (hu : u.cells = us.toArray) (hl : Nat.beq us.length z = true) (h1 : us.all Value.oneCell' = true) (hlen : Nat.beq e.length s = true) (hs : Splice c us e e') :
    OpG P n w0 fr H (.store t x y) Triv (fun _ : Unit => undef) (fun _ => a1 :: .row v t' s (es.set k e') :: F) := by
  subst hH; exact og_storeE 1 hx hy rfl hk hu hl h1 (Nat.ble_eq_true_of_le (by rw [← Nat.eq_of_beq_eq_true hlen]; exact hs.eq.2)) hs.eq.1
theorem og_app1 {x y : Operand} {t e : TypeId} {s bs : Nat} {zs : List Value} [hT : TySlice P t e] [hI : TyInfo P e s zs bs] {a1 : Ch} {F : List Ch} {v v2 : Value} {es es2 : List (List Value)}
    (hx : opv fr x = some v) (hy : opv fr y = some v2) (hH : H = a1 :: .row v e s es :: F) (h2 : ∀ w, HeapOk w0 w H → Rd w v2 s es2) (hz : Nat.beq zs.length s = true) (hs1 : Nat.ble 1 s = true)
    (hb : (es.length + es2.length) * bs ≤ 140737488355328) (hm : es.length + es2.length ≤ 9223372036854775807) : OpG P n w0 fr H (.call ⟨.builtin .append, #[x, y], #[t, t]⟩) Triv (fun v' : Value => v') (fun v' => a1 :: .row v' e s (es ++ es2) :: F) := by
  subst hH; exact og_append 1 hx hy rfl h2 hz hs1 hb hm
theorem og_st2 {x y : Operand} {t : TypeId} {s bs : Nat} {zs : List Value} [hI : TyInfo P t s zs bs] {b o : Nat} {a1 a2 : Ch} {F : List Ch} {t' : TypeId} {cs us cs' : List Value} {v : Value}
    (hx : opv fr x = some (pB b o)) (hy : opv fr y = some v) (hH : H = a1 :: a2 :: .blk b t' cs :: F) (hu : v.cells = us.toArray) (hl : Nat.beq us.length s = true) (h1 : us.all Value.oneCell' = true) (hs : Splice o us cs cs') :
    OpG P n w0 fr H (.store t x y) Triv (fun _ : Unit => undef) (fun _ => a1 :: a2 :: .blk b t' cs' :: F) := by
  subst hH; exact og_store 2 hx hy rfl hu hl h1 (Nat.ble_eq_true_of_le hs.eq.2) hs.eq.1
theorem og_stE2 {x y : Operand} {t : TypeId} {z bs : Nat} {zs : List Value} [hI : TyInfo P t z zs bs] {v : Value} {s k c : Nat} {a1 a2 : Ch} {F : List Ch} {t' : TypeId} {es : List (List Value)} {e us e' : List Value} {u : Value}
    (hx : opv fr x = some (pE v s k c)) (hy : opv fr y = some u) (hH : H = a1 :: a2 :: .row v t' s es :: F) (hk : es[k]? = some e) (hu : u.cells = us.toArray) (hl : Nat.beq us.length z = true) (h1 : us.all Value.oneCell' = true) (hlen : Nat.beq e.length s = true) (hs : Splice c us e e') :
    OpG P n w0 fr H (.store t x y) Triv (fun _ : Unit => undef) (fun _ => a1 :: a2 :: .row v t' s (es.set k e') :: F) := by
  subst hH; exact og_storeE 2 hx hy rfl hk hu hl h1 (Nat.ble_eq_true_of_le (by rw [← Nat.eq_of_beq_eq_true hlen]; exact hs.eq.2)) hs.eq.1
theorem og_app2 {x y : Operand} {t e : TypeId} {s bs : Nat} {zs : List Value} [hT : TySlice P t e] [hI : TyInfo P e s zs bs] {a1 a2 : Ch} {F : List Ch} {v v2 : Value} {es es2 : List (List Value)}
    (hx : opv fr x = some v) (hy : opv fr y = some v2) (hH : H = a1 :: a2 :: .row v e s es :: F) (h2 : ∀ w, HeapOk w0 w H → Rd w v2 s es2) (hz : Nat.beq zs.length s = true) (hs1 : Nat.ble 1 s = true)
    (hb : (es.length + es2.length) * bs ≤ 140737488355328) (hm : es.length + es2.length ≤ 9223372036854775807) : OpG P n w0 fr H (.call ⟨.builtin .append, #[x, y], #[t, t]⟩) Triv (fun v' : Value => v') (fun v' => a1 :: a2 :: .row v' e s (es ++ es2) :: F) := by
  subst hH; exact og_append 2 hx hy rfl h2 hz hs1 hb hm
theorem og_st3 {x y : Operand} {t : TypeId} {s bs : Nat} {zs : List Value} [hI : TyInfo P t s zs bs] {b o : Nat} {a1 a2 a3 : Ch} {F : List Ch} {t' : TypeId} {cs us cs' : List Value} {v : Value}
    (hx : opv fr x = some (pB b o)) (hy : opv fr y = some v) (hH : H = a1 :: a2 :: a3 :: .blk b t' cs :: F) (hu : v.cells = us.toArray) (hl : Nat.beq us.length s = true) (h1 : us.all Value.oneCell' = true) (hs : Splice o us cs cs') :
    OpG P n w0 fr H (.store t x y) Triv (fun _ : Unit => undef) (fun _ => a1 :: a2 :: a3 :: .blk b t' cs' :: F) := by
  subst hH; exact og_store 3 hx hy rfl hu hl h1 (Nat.ble_eq_true_of_le hs.eq.2) hs.eq.1
theorem og_stE3 {x y : Operand} {t : TypeId} {z bs : Nat} {zs : List Value} [hI : TyInfo P t z zs bs] {v : Value} {s k c : Nat} {a1 a2 a3 : Ch} {F : List Ch} {t' : TypeId} {es : List (List Value)} {e us e' : List Value} {u : Value}
    (hx : opv fr x = some (pE v s k c)) (hy : opv fr y = some u) (hH : H = a1 :: a2 :: a3 :: .row v t' s es :: F) (hk : es[k]? = some e) (hu : u.cells = us.toArray) (hl : Nat.beq us.length z = true) (h1 : us.all Value.oneCell' = true) (hlen : Nat.beq e.length s = true) (hs : Splice c us e e') :
    OpG P n w0 fr H (.store t x y) Triv (fun _ : Unit => undef) (fun _ => a1 :: a2 :: a3 :: .row v t' s (es.set k e') :: F) := by
  subst hH; exact og_storeE 3 hx hy rfl hk hu hl h1 (Nat.ble_eq_true_of_le (by rw [← Nat.eq_of_beq_eq_true hlen]; exact hs.eq.2)) hs.eq.1
theorem og_app3 {x y : Operand} {t e : TypeId} {s bs : Nat} {zs : List Value} [hT : TySlice P t e] [hI : TyInfo P e s zs bs] {a1 a2 a3 : Ch} {F : List Ch} {v v2 : Value} {es es2 : List (List Value)}
    (hx : opv fr x = some v) (hy : opv fr y = some v2) (hH : H = a1 :: a2 :: a3 :: .row v e s es :: F) (h2 : ∀ w, HeapOk w0 w H → Rd w v2 s es2) (hz : Nat.beq zs.length s = true) (hs1 : Nat.ble 1 s = true)
    (hb : (es.length + es2.length) * bs ≤ 140737488355328) (hm : es.length + es2.length ≤ 9223372036854775807) : OpG P n w0 fr H (.call ⟨.builtin .append, #[x, y], #[t, t]⟩) Triv (fun v' : Value => v') (fun v' => a1 :: a2 :: a3 :: .row v' e s (es ++ es2) :: F) := by
  subst hH; exact og_append 3 hx hy rfl h2 hz hs1 hb hm
theorem og_st4 {x y : Operand} {t : TypeId} {s bs : Nat} {zs : List Value} [hI : TyInfo P t s zs bs] {b o : Nat} {a1 a2 a3 a4 : Ch} {F : List Ch} {t' : TypeId} {cs us cs' : List Value} {v : Value}
    (hx : opv fr x = some (pB b o)) (hy : opv fr y = some v) (hH : H = a1 :: a2 :: a3 :: a4 :: .blk b t' cs :: F) (hu : v.cells = us.toArray) (hl : Nat.beq us.length s = true) (h1 : us.all Value.oneCell' = true) (hs : Splice o us cs cs') :
    OpG P n w0 fr H (.store t x y) Triv (fun _ : Unit => undef) (fun _ => a1 :: a2 :: a3 :: a4 :: .blk b t' cs' :: F) := by
  subst hH; exact og_store 4 hx hy rfl hu hl h1 (Nat.ble_eq_true_of_le hs.eq.2) hs.eq.1
theorem og_stE4 {x y : Operand} {t : TypeId} {z bs : Nat} {zs : List Value} [hI : TyInfo P t z zs bs] {v : Value} {s k c : Nat} {a1 a2 a3 a4 : Ch} {F : List Ch} {t' : TypeId} {es : List (List Value)} {e us e' : List Value} {u : Value}
    (hx : opv fr x = some (pE v s k c)) (hy : opv fr y = some u) (hH : H = a1 :: a2 :: a3 :: a4 :: .row v t' s es :: F) (hk : es[k]? = some e) (hu : u.cells = us.toArray) (hl : Nat.beq us.length z = true) (h1 : us.all Value.oneCell' = true) (hlen : Nat.beq e.length s = true) (hs : Splice c us e e') :
    OpG P n w0 fr H (.store t x y) Triv (fun _ : Unit => undef) (fun _ => a1 :: a2 :: a3 :: a4 :: .row v t' s (es.set k e') :: F) := by
  subst hH; exact og_storeE 4 hx hy rfl hk hu hl h1 (Nat.ble_eq_true_of_le (by rw [← Nat.eq_of_beq_eq_true hlen]; exact hs.eq.2)) hs.eq.1
theorem og_app4 {x y : Operand} {t e : TypeId} {s bs : Nat} {zs : List Value} [hT : TySlice P t e] [hI : TyInfo P e s zs bs] {a1 a2 a3 a4 : Ch} {F : List Ch} {v v2 : Value} {es es2 : List (List Value)}
    (hx : opv fr x = some v) (hy : opv fr y = some v2) (hH : H = a1 :: a2 :: a3 :: a4 :: .row v e s es :: F) (h2 : ∀ w, HeapOk w0 w H → Rd w v2 s es2) (hz : Nat.beq zs.length s = true) (hs1 : Nat.ble 1 s = true)
    (hb : (es.length + es2.length) * bs ≤ 140737488355328) (hm : es.length + es2.length ≤ 9223372036854775807) : OpG P n w0 fr H (.call ⟨.builtin .append, #[x, y], #[t, t]⟩) Triv (fun v' : Value => v') (fun v' => a1 :: a2 :: a3 :: a4 :: .row v' e s (es ++ es2) :: F) := by
  subst hH; exact og_append 4 hx hy rfl h2 hz hs1 hb hm
theorem og_st5 {x y : Operand} {t : TypeId} {s bs : Nat} {zs : List Value} [hI : TyInfo P t s zs bs] {b o : Nat} {a1 a2 a3 a4 a5 : Ch} {F : List Ch} {t' : TypeId} {cs us cs' : List Value} {v : Value}
    (hx : opv fr x = some (pB b o)) (hy : opv fr y = some v) (hH : H = a1 :: a2 :: a3 :: a4 :: a5 :: .blk b t' cs :: F) (hu : v.cells = us.toArray) (hl : Nat.beq us.length s = true) (h1 : us.all Value.oneCell' = true) (hs : Splice o us cs cs') :
    OpG P n w0 fr H (.store t x y) Triv (fun _ : Unit => undef) (fun _ => a1 :: a2 :: a3 :: a4 :: a5 :: .blk b t' cs' :: F) := by
  subst hH; exact og_store 5 hx hy rfl hu hl h1 (Nat.ble_eq_true_of_le hs.eq.2) hs.eq.1
theorem og_stE5 {x y : Operand} {t : TypeId} {z bs : Nat} {zs : List Value} [hI : TyInfo P t z zs bs] {v : Value} {s k c : Nat} {a1 a2 a3 a4 a5 : Ch} {F : List Ch} {t' : TypeId} {es : List (List Value)} {e us e' : List Value} {u : Value}
    (hx : opv fr x = some (pE v s k c)) (hy : opv fr y = some u) (hH : H = a1 :: a2 :: a3 :: a4 :: a5 :: .row v t' s es :: F) (hk : es[k]? = some e) (hu : u.cells = us.toArray) (hl : Nat.beq us.length z = true) (h1 : us.all Value.oneCell' = true) (hlen : Nat.beq e.length s = true) (hs : Splice c us e e') :
    OpG P n w0 fr H (.store t x y) Triv (fun _ : Unit => undef) (fun _ => a1 :: a2 :: a3 :: a4 :: a5 :: .row v t' s (es.set k e') :: F) := by
  subst hH; exact og_storeE 5 hx hy rfl hk hu hl h1 (Nat.ble_eq_true_of_le (by rw [← Nat.eq_of_beq_eq_true hlen]; exact hs.eq.2)) hs.eq.1
theorem og_app5 {x y : Operand} {t e : TypeId} {s bs : Nat} {zs : List Value} [hT : TySlice P t e] [hI : TyInfo P e s zs bs] {a1 a2 a3 a4 a5 : Ch} {F : List Ch} {v v2 : Value} {es es2 : List (List Value)}
    (hx : opv fr x = some v) (hy : opv fr y = some v2) (hH : H = a1 :: a2 :: a3 :: a4 :: a5 :: .row v e s es :: F) (h2 : ∀ w, HeapOk w0 w H → Rd w v2 s es2) (hz : Nat.beq zs.length s = true) (hs1 : Nat.ble 1 s = true)
    (hb : (es.length + es2.length) * bs ≤ 140737488355328) (hm : es.length + es2.length ≤ 9223372036854775807) : OpG P n w0 fr H (.call ⟨.builtin .append, #[x, y], #[t, t]⟩) Triv (fun v' : Value => v') (fun v' => a1 :: a2 :: a3 :: a4 :: a5 :: .row v' e s (es ++ es2) :: F) := by
  subst hH; exact og_append 5 hx hy rfl h2 hz hs1 hb hm
theorem og_st6 {x y : Operand} {t : TypeId} {s bs : Nat} {zs : List Value} [hI : TyInfo P t s zs bs] {b o : Nat} {a1 a2 a3 a4 a5 a6 : Ch} {F : List Ch} {t' : TypeId} {cs us cs' : List Value} {v : Value}
    (hx : opv fr x = some (pB b o)) (hy : opv fr y = some v) (hH : H = a1 :: a2 :: a3 :: a4 :: a5 :: a6 :: .blk b t' cs :: F) (hu : v.cells = us.toArray) (hl : Nat.beq us.length s = true) (h1 : us.all Value.oneCell' = true) (hs : Splice o us cs cs') :
    OpG P n w0 fr H (.store t x y) Triv (fun _ : Unit => undef) (fun _ => a1 :: a2 :: a3 :: a4 :: a5 :: a6 :: .blk b t' cs' :: F) := by
  subst hH; exact og_store 6 hx hy rfl hu hl h1 (Nat.ble_eq_true_of_le hs.eq.2) hs.eq.1
theorem og_stE6 {x y : Operand} {t : TypeId} {z bs : Nat} {zs : List Value} [hI : TyInfo P t z zs bs] {v : Value} {s k c : Nat} {a1 a2 a3 a4 a5 a6 : Ch} {F : List Ch} {t' : TypeId} {es : List (List Value)} {e us e' : List Value} {u : Value}
    (hx : opv fr x = some (pE v s k c)) (hy : opv fr y = some u) (hH : H = a1 :: a2 :: a3 :: a4 :: a5 :: a6 :: .row v t' s es :: F) (hk : es[k]? = some e) (hu : u.cells = us.toArray) (hl : Nat.beq us.length z = true) (h1 : us.all Value.oneCell' = true) (hlen : Nat.beq e.length s = true) (hs : Splice c us e e') :
    OpG P n w0 fr H (.store t x y) Triv (fun _ : Unit => undef) (fun _ => a1 :: a2 :: a3 :: a4 :: a5 :: a6 :: .row v t' s (es.set k e') :: F) := by
  subst hH; exact og_storeE 6 hx hy rfl hk hu hl h1 (Nat.ble_eq_true_of_le (by rw [← Nat.eq_of_beq_eq_true hlen]; exact hs.eq.2)) hs.eq.1
theorem og_app6 {x y : Operand} {t e : TypeId} {s bs : Nat} {zs : List Value} [hT : TySlice P t e] [hI : TyInfo P e s zs bs] {a1 a2 a3 a4 a5 a6 : Ch} {F : List Ch} {v v2 : Value} {es es2 : List (List Value)}
    (hx : opv fr x = some v) (hy : opv fr y = some v2) (hH : H = a1 :: a2 :: a3 :: a4 :: a5 :: a6 :: .row v e s es :: F) (h2 : ∀ w, HeapOk w0 w H → Rd w v2 s es2) (hz : Nat.beq zs.length s = true) (hs1 : Nat.ble 1 s = true)
    (hb : (es.length + es2.length) * bs ≤ 140737488355328) (hm : es.length + es2.length ≤ 9223372036854775807) : OpG P n w0 fr H (.call ⟨.builtin .append, #[x, y], #[t, t]⟩) Triv (fun v' : Value => v') (fun v' => a1 :: a2 :: a3 :: a4 :: a5 :: a6 :: .row v' e s (es ++ es2) :: F) := by
  subst hH; exact og_append 6 hx hy rfl h2 hz hs1 hb hm
theorem og_st7 {x y : Operand} {t : TypeId} {s bs : Nat} {zs : List Value} [hI : TyInfo P t s zs bs] {b o : Nat} {a1 a2 a3 a4 a5 a6 a7 : Ch} {F : List Ch} {t' : TypeId} {cs us cs' : List Value} {v : Value}
    (hx : opv fr x = some (pB b o)) (hy : opv fr y = some v) (hH : H = a1 :: a2 :: a3 :: a4 :: a5 :: a6 :: a7 :: .blk b t' cs :: F) (hu : v.cells = us.toArray) (hl : Nat.beq us.length s = true) (h1 : us.all Value.oneCell' = true) (hs : Splice o us cs cs') :
    OpG P n w0 fr H (.store t x y) Triv (fun _ : Unit => undef) (fun _ => a1 :: a2 :: a3 :: a4 :: a5 :: a6 :: a7 :: .blk b t' cs' :: F) := by
  subst hH; exact og_store 7 hx hy rfl hu hl h1 (Nat.ble_eq_true_of_le hs.eq.2) hs.eq.1
theorem og_stE7 {x y : Operand} {t : TypeId} {z bs : Nat} {zs : List Value} [hI : TyInfo P t z zs bs] {v : Value} {s k c : Nat} {a1 a2 a3 a4 a5 a6 a7 : Ch} {F : List Ch} {t' : TypeId} {es : List (List Value)} {e us e' : List Value} {u : Value}
    (hx : opv fr x = some (pE v s k c)) (hy : opv fr y = some u) (hH : H = a1 :: a2 :: a3 :: a4 :: a5 :: a6 :: a7 :: .row v t' s es :: F) (hk : es[k]? = some e) (hu : u.cells = us.toArray) (hl : Nat.beq us.length z = true) (h1 : us.all Value.oneCell' = true) (hlen : Nat.beq e.length s = true) (hs : Splice c us e e') :
    OpG P n w0 fr H (.store t x y) Triv (fun _ : Unit => undef) (fun _ => a1 :: a2 :: a3 :: a4 :: a5 :: a6 :: a7 :: .row v t' s (es.set k e') :: F) := by
  subst hH; exact og_storeE 7 hx hy rfl hk hu hl h1 (Nat.ble_eq_true_of_le (by rw [← Nat.eq_of_beq_eq_true hlen]; exact hs.eq.2)) hs.eq.1
theorem og_app7 {x y : Operand} {t e : TypeId} {s bs : Nat} {zs : List Value} [hT : TySlice P t e] [hI : TyInfo P e s zs bs] {a1 a2 a3 a4 a5 a6 a7 : Ch} {F : List Ch} {v v2 : Value} {es es2 : List (List Value)}
    (hx : opv fr x = some v) (hy : opv fr y = some v2) (hH : H = a1 :: a2 :: a3 :: a4 :: a5 :: a6 :: a7 :: .row v e s es :: F) (h2 : ∀ w, HeapOk w0 w H → Rd w v2 s es2) (hz : Nat.beq zs.length s = true) (hs1 : Nat.ble 1 s = true)
    (hb : (es.length + es2.length) * bs ≤ 140737488355328) (hm : es.length + es2.length ≤ 9223372036854775807) : OpG P n w0 fr H (.call ⟨.builtin .append, #[x, y], #[t, t]⟩) Triv (fun v' : Value => v') (fun v' => a1 :: a2 :: a3 :: a4 :: a5 :: a6 :: a7 :: .row v' e s (es ++ es2) :: F) := by
  subst hH; exact og_append 7 hx hy rfl h2 hz hs1 hb hm
theorem og_st8 {x y : Operand} {t : TypeId} {s bs : Nat} {zs : List Value} [hI : TyInfo P t s zs bs] {b o : Nat} {a1 a2 a3 a4 a5 a6 a7 a8 : Ch} {F : List Ch} {t' : TypeId} {cs us cs' : List Value} {v : Value}
    (hx : opv fr x = some (pB b o)) (hy : opv fr y = some v) (hH : H = a1 :: a2 :: a3 :: a4 :: a5 :: a6 :: a7 :: a8 :: .blk b t' cs :: F) (hu : v.cells = us.toArray) (hl : Nat.beq us.length s = true) (h1 : us.all Value.oneCell' = true) (hs : Splice o us cs cs') :
    OpG P n w0 fr H (.store t x y) Triv (fun _ : Unit => undef) (fun _ => a1 :: a2 :: a3 :: a4 :: a5 :: a6 :: a7 :: a8 :: .blk b t' cs' :: F) := by
  subst hH; exact og_store 8 hx hy rfl hu hl h1 (Nat.ble_eq_true_of_le hs.eq.2) hs.eq.1
theorem og_stE8 {x y : Operand} {t : TypeId} {z bs : Nat} {zs : List Value} [hI : TyInfo P t z zs bs] {v : Value} {s k c : Nat} {a1 a2 a3 a4 a5 a6 a7 a8 : Ch} {F : List Ch} {t' : TypeId} {es : List (List Value)} {e us e' : List Value} {u : Value}
    (hx : opv fr x = some (pE v s k c)) (hy : opv fr y = some u) (hH : H = a1 :: a2 :: a3 :: a4 :: a5 :: a6 :: a7 :: a8 :: .row v t' s es :: F) (hk : es[k]? = some e) (hu : u.cells = us.toArray) (hl : Nat.beq us.length z = true) (h1 : us.all Value.oneCell' = true) (hlen : Nat.beq e.length s = true) (hs : Splice c us e e') :
    OpG P n w0 fr H (.store t x y) Triv (fun _ : Unit => undef) (fun _ => a1 :: a2 :: a3 :: a4 :: a5 :: a6 :: a7 :: a8 :: .row v t' s (es.set k e') :: F) := by
  subst hH; exact og_storeE 8 hx hy rfl hk hu hl h1 (Nat.ble_eq_true_of_le (by rw [← Nat.eq_of_beq_eq_true hlen]; exact hs.eq.2)) hs.eq.1
theorem og_app8 {x y : Operand} {t e : TypeId} {s bs : Nat} {zs : List Value} [hT : TySlice P t e] [hI : TyInfo P e s zs bs] {a1 a2 a3 a4 a5 a6 a7 a8 : Ch} {F : List Ch} {v v2 : Value} {es es2 : List (List Value)}
    (hx : opv fr x = some v) (hy : opv fr y = some v2) (hH : H = a1 :: a2 :: a3 :: a4 :: a5 :: a6 :: a7 :: a8 :: .row v e s es :: F) (h2 : ∀ w, HeapOk w0 w H → Rd w v2 s es2) (hz : Nat.beq zs.length s = true) (hs1 : Nat.ble 1 s = true)
    (hb : (es.length + es2.length) * bs ≤ 140737488355328) (hm : es.length + es2.length ≤ 9223372036854775807) : OpG P n w0 fr H (.call ⟨.builtin .append, #[x, y], #[t, t]⟩) Triv (fun v' : Value => v') (fun v' => a1 :: a2 :: a3 :: a4 :: a5 :: a6 :: a7 :: a8 :: .row v' e s (es ++ es2) :: F) := by
  subst hH; exact og_append 8 hx hy rfl h2 hz hs1 hb hm
theorem og_st9 {x y : Operand} {t : TypeId} {s bs : Nat} {zs : List Value} [hI : TyInfo P t s zs bs] {b o : Nat} {a1 a2 a3 a4 a5 a6 a7 a8 a9 : Ch} {F : List Ch} {t' : TypeId} {cs us cs' : List Value} {v : Value}
    (hx : opv fr x = some (pB b o)) (hy : opv fr y = some v) (hH : H = a1 :: a2 :: a3 :: a4 :: a5 :: a6 :: a7 :: a8 :: a9 :: .blk b t' cs :: F) (hu : v.cells = us.toArray) (hl : Nat.beq us.length s = true) (h1 : us.all Value.oneCell' = true) (hs : Splice o us cs cs') :
    OpG P n w0 fr H (.store t x y) Triv (fun _ : Unit => undef) (fun _ => a1 :: a2 :: a3 :: a4 :: a5 :: a6 :: a7 :: a8 :: a9 :: .blk b t' cs' :: F) := by
  subst hH; exact og_store 9 hx hy rfl hu hl h1 (Nat.ble_eq_true_of_le hs.eq.2) hs.eq.1
theorem og_stE9 {x y : Operand} {t : TypeId} {z bs : Nat} {zs : List Value} [hI : TyInfo P t z zs bs] {v : Value} {s k c : Nat} {a1 a2 a3 a4 a5 a6 a7 a8 a9 : Ch} {F : List Ch} {t' : TypeId} {es : List (List Value)} {e us e' : List Value} {u : Value}
    (hx : opv fr x = some (pE v s k c)) (hy : opv fr y = some u) (hH : H = a1 :: a2 :: a3 :: a4 :: a5 :: a6 :: a7 :: a8 :: a9 :: .row v t' s es :: F) (hk : es[k]? = some e) (hu : u.cells = us.toArray) (hl : Nat.beq us.length z = true) (h1 : us.all Value.oneCell' = true) (hlen : Nat.beq e.length s = true) (hs : Splice c us e e') :
    OpG P n w0 fr H (.store t x y) Triv (fun _ : Unit => undef) (fun _ => a1 :: a2 :: a3 :: a4 :: a5 :: a6 :: a7 :: a8 :: a9 :: .row v t' s (es.set k e') :: F) := by
  subst hH; exact og_storeE 9 hx hy rfl hk hu hl h1 (Nat.ble_eq_true_of_le (by rw [← Nat.eq_of_beq_eq_true hlen]; exact hs.eq.2)) hs.eq.1
theorem og_app9 {x y : Operand} {t e : TypeId} {s bs : Nat} {zs : List Value} [hT : TySlice P t e] [hI : TyInfo P e s zs bs] {a1 a2 a3 a4 a5 a6 a7 a8 a9 : Ch} {F : List Ch} {v v2 : Value} {es es2 : List (List Value)}
    (hx : opv fr x = some v) (hy : opv fr y = some v2) (hH : H = a1 :: a2 :: a3 :: a4 :: a5 :: a6 :: a7 :: a8 :: a9 :: .row v e s es :: F) (h2 : ∀ w, HeapOk w0 w H → Rd w v2 s es2) (hz : Nat.beq zs.length s = true) (hs1 : Nat.ble 1 s = true)
    (hb : (es.length + es2.length) * bs ≤ 140737488355328) (hm : es.length + es2.length ≤ 9223372036854775807) : OpG P n w0 fr H (.call ⟨.builtin .append, #[x, y], #[t, t]⟩) Triv (fun v' : Value => v') (fun v' => a1 :: a2 :: a3 :: a4 :: a5 :: a6 :: a7 :: a8 :: a9 :: .row v' e s (es ++ es2) :: F) := by
  subst hH; exact og_append 9 hx hy rfl h2 hz hs1 hb hm
theorem og_st10 {x y : Operand} {t : TypeId} {s bs : Nat} {zs : List Value} [hI : TyInfo P t s zs bs] {b o : Nat} {a1 a2 a3 a4 a5 a6 a7 a8 a9 a10 : Ch} {F : List Ch} {t' : TypeId} {cs us cs' : List Value} {v : Value}
    (hx : opv fr x = some (pB b o)) (hy : opv fr y = some v) (hH : H = a1 :: a2 :: a3 :: a4 :: a5 :: a6 :: a7 :: a8 :: a9 :: a10 :: .blk b t' cs :: F) (hu : v.cells = us.toArray) (hl : Nat.beq us.length s = true) (h1 : us.all Value.oneCell' = true) (hs : Splice o us cs cs') :
    OpG P n w0 fr H (.store t x y) Triv (fun _ : Unit => undef) (fun _ => a1 :: a2 :: a3 :: a4 :: a5 :: a6 :: a7 :: a8 :: a9 :: a10 :: .blk b t' cs' :: F) := by
  subst hH; exact og_store 10 hx hy rfl hu hl h1 (Nat.ble_eq_true_of_le hs.eq.2) hs.eq.1
theorem og_stE10 {x y : Operand} {t : TypeId} {z bs : Nat} {zs : List Value} [hI : TyInfo P t z zs bs] {v : Value} {s k c : Nat} {a1 a2 a3 a4 a5 a6 a7 a8 a9 a10 : Ch} {F : List Ch} {t' : TypeId} {es : List (List Value)} {e us e' : List Value} {u : Value}
    (hx : opv fr x = some (pE v s k c)) (hy : opv fr y = some u) (hH : H = a1 :: a2 :: a3 :: a4 :: a5 :: a6 :: a7 :: a8 :: a9 :: a10 :: .row v t' s es :: F) (hk : es[k]? = some e) (hu : u.cells = us.toArray) (hl : Nat.beq us.length z = true) (h1 : us.all Value.oneCell' = true) (hlen : Nat.beq e.length s = true) (hs : Splice c us e e') :
    OpG P n w0 fr H (.store t x y) Triv (fun _ : Unit => undef) (fun _ => a1 :: a2 :: a3 :: a4 :: a5 :: a6 :: a7 :: a8 :: a9 :: a10 :: .row v t' s (es.set k e') :: F) := by
  subst hH; exact og_storeE 10 hx hy rfl hk hu hl h1 (Nat.ble_eq_true_of_le (by rw [← Nat.eq_of_beq_eq_true hlen]; exact hs.eq.2)) hs.eq.1
theorem og_app10 {x y : Operand} {t e : TypeId} {s bs : Nat} {zs : List Value} [hT : TySlice P t e] [hI : TyInfo P e s zs bs] {a1 a2 a3 a4 a5 a6 a7 a8 a9 a10 : Ch} {F : List Ch} {v v2 : Value} {es es2 : List (List Value)}
    (hx : opv fr x = some v) (hy : opv fr y = some v2) (hH : H = a1 :: a2 :: a3 :: a4 :: a5 :: a6 :: a7 :: a8 :: a9 :: a10 :: .row v e s es :: F) (h2 : ∀ w, HeapOk w0 w H → Rd w v2 s es2) (hz : Nat.beq zs.length s = true) (hs1 : Nat.ble 1 s = true)
    (hb : (es.length + es2.length) * bs ≤ 140737488355328) (hm : es.length + es2.length ≤ 9223372036854775807) : OpG P n w0 fr H (.call ⟨.builtin .append, #[x, y], #[t, t]⟩) Triv (fun v' : Value => v') (fun v' => a1 :: a2 :: a3 :: a4 :: a5 :: a6 :: a7 :: a8 :: a9 :: a10 :: .row v' e s (es ++ es2) :: F) := by
  subst hH; exact og_append 10 hx hy rfl h2 hz hs1 hb hm
theorem og_st11 {x y : Operand} {t : TypeId} {s bs : Nat} {zs : List Value} [hI : TyInfo P t s zs bs] {b o : Nat} {a1 a2 a3 a4 a5 a6 a7 a8 a9 a10 a11 : Ch} {F : List Ch} {t' : TypeId} {cs us cs' : List Value} {v : Value}
    (hx : opv fr x = some (pB b o)) (hy : opv fr y = some v) (hH : H = a1 :: a2 :: a3 :: a4 :: a5 :: a6 :: a7 :: a8 :: a9 :: a10 :: a11 :: .blk b t' cs :: F) (hu : v.cells = us.toArray) (hl : Nat.beq us.length s = true) (h1 : us.all Value.oneCell' = true) (hs : Splice o us cs cs') :
    OpG P n w0 fr H (.store t x y) Triv (fun _ : Unit => undef) (fun _ => a1 :: a2 :: a3 :: a4 :: a5 :: a6 :: a7 :: a8 :: a9 :: a10 :: a11 :: .blk b t' cs' :: F) := by
  subst hH; exact og_store 11 hx hy rfl hu hl h1 (Nat.ble_eq_true_of_le hs.eq.2) hs.eq.1
theorem og_stE11 {x y : Operand} {t : TypeId} {z bs : Nat} {zs : List Value} [hI : TyInfo P t z zs bs] {v : Value} {s k c : Nat} {a1 a2 a3 a4 a5 a6 a7 a8 a9 a10 a11 : Ch} {F : List Ch} {t' : TypeId} {es : List (List Value)} {e us e' : List Value} {u : Value}
    (hx : opv fr x = some (pE v s k c)) (hy : opv fr y = some u) (hH : H = a1 :: a2 :: a3 :: a4 :: a5 :: a6 :: a7 :: a8 :: a9 :: a10 :: a11 :: .row v t' s es :: F) (hk : es[k]? = some e) (hu : u.cells = us.toArray) (hl : Nat.beq us.length z = true) (h1 : us.all Value.oneCell' = true) (hlen : Nat.beq e.length s = true) (hs : Splice c us e e') :
    OpG P n w0 fr H (.store t x y) Triv (fun _ : Unit => undef) (fun _ => a1 :: a2 :: a3 :: a4 :: a5 :: a6 :: a7 :: a8 :: a9 :: a10 :: a11 :: .row v t' s (es.set k e') :: F) := by
  subst hH; exact og_storeE 11 hx hy rfl hk hu hl h1 (Nat.ble_eq_true_of_le (by rw [← Nat.eq_of_beq_eq_true hlen]; exact hs.eq.2)) hs.eq.1
theorem og_app11 {x y : Operand} {t e : TypeId} {s bs : Nat} {zs : List Value} [hT : TySlice P t e] [hI : TyInfo P e s zs bs] {a1 a2 a3 a4 a5 a6 a7 a8 a9 a10 a11 : Ch} {F : List Ch} {v v2 : Value} {es es2 : List (List Value)}
    (hx : opv fr x = some v) (hy : opv fr y = some v2) (hH : H = a1 :: a2 :: a3 :: a4 :: a5 :: a6 :: a7 :: a8 :: a9 :: a10 :: a11 :: .row v e s es :: F) (h2 : ∀ w, HeapOk w0 w H → Rd w v2 s es2) (hz : Nat.beq zs.length s = true) (hs1 : Nat.ble 1 s = true)
    (hb : (es.length + es2.length) * bs ≤ 140737488355328) (hm : es.length + es2.length ≤ 9223372036854775807) : OpG P n w0 fr H (.call ⟨.builtin .append, #[x, y], #[t, t]⟩) Triv (fun v' : Value => v') (fun v' => a1 :: a2 :: a3 :: a4 :: a5 :: a6 :: a7 :: a8 :: a9 :: a10 :: a11 :: .row v' e s (es ++ es2) :: F) := by
  subst hH; exact og_append 11 hx hy rfl h2 hz hs1 hb hm
theorem og_st12 {x y : Operand} {t : TypeId} {s bs : Nat} {zs : List Value} [hI : TyInfo P t s zs bs] {b o : Nat} {a1 a2 a3 a4 a5 a6 a7 a8 a9 a10 a11 a12 : Ch} {F : List Ch} {t' : TypeId} {cs us cs' : List Value} {v : Value}
    (hx : opv fr x = some (pB b o)) (hy : opv fr y = some v) (hH : H = a1 :: a2 :: a3 :: a4 :: a5 :: a6 :: a7 :: a8 :: a9 :: a10 :: a11 :: a12 :: .blk b t' cs :: F) (hu : v.cells = us.toArray) (hl : Nat.beq us.length s = true) (h1 : us.all Value.oneCell' = true) (hs : Splice o us cs cs') :
    OpG P n w0 fr H (.store t x y) Triv (fun _ : Unit => undef) (fun _ => a1 :: a2 :: a3 :: a4 :: a5 :: a6 :: a7 :: a8 :: a9 :: a10 :: a11 :: a12 :: .blk b t' cs' :: F) := by
  subst hH; exact og_store 12 hx hy rfl hu hl h1 (Nat.ble_eq_true_of_le hs.eq.2) hs.eq.1
theorem og_stE12 {x y : Operand} {t : TypeId} {z bs : Nat} {zs : List Value} [hI : TyInfo P t z zs bs] {v : Value} {s k c : Nat} {a1 a2 a3 a4 a5 a6 a7 a8 a9 a10 a11 a12 : Ch} {F : List Ch} {t' : TypeId} {es : List (List Value)} {e us e' : List Value} {u : Value}
    (hx : opv fr x = some (pE v s k c)) (hy : opv fr y = some u) (hH : H = a1 :: a2 :: a3 :: a4 :: a5 :: a6 :: a7 :: a8 :: a9 :: a10 :: a11 :: a12 :: .row v t' s es :: F) (hk : es[k]? = some e) (hu : u.cells = us.toArray) (hl : Nat.beq us.length z = true) (h1 : us.all Value.oneCell' = true) (hlen : Nat.beq e.length s = true) (hs : Splice c us e e') :
    OpG P n w0 fr H (.store t x y) Triv (fun _ : Unit => undef) (fun _ => a1 :: a2 :: a3 :: a4 :: a5 :: a6 :: a7 :: a8 :: a9 :: a10 :: a11 :: a12 :: .row v t' s (es.set k e') :: F) := by
  subst hH; exact og_storeE 12 hx hy rfl hk hu hl h1 (Nat.ble_eq_true_of_le (by rw [← Nat.eq_of_beq_eq_true hlen]; exact hs.eq.2)) hs.eq.1
theorem og_app12 {x y : Operand} {t e : TypeId} {s bs : Nat} {zs : List Value} [hT : TySlice P t e] [hI : TyInfo P e s zs bs] {a1 a2 a3 a4 a5 a6 a7 a8 a9 a10 a11 a12 : Ch} {F : List Ch} {v v2 : Value} {es es2 : List (List Value)}
    (hx : opv fr x = some v) (hy : opv fr y = some v2) (hH : H = a1 :: a2 :: a3 :: a4 :: a5 :: a6 :: a7 :: a8 :: a9 :: a10 :: a11 :: a12 :: .row v e s es :: F) (h2 : ∀ w, HeapOk w0 w H → Rd w v2 s es2) (hz : Nat.beq zs.length s = true) (hs1 : Nat.ble 1 s = true)
    (hb : (es.length + es2.length) * bs ≤ 140737488355328) (hm : es.length + es2.length ≤ 9223372036854775807) : OpG P n w0 fr H (.call ⟨.builtin .append, #[x, y], #[t, t]⟩) Triv (fun v' : Value => v') (fun v' => a1 :: a2 :: a3 :: a4 :: a5 :: a6 :: a7 :: a8 :: a9 :: a10 :: a11 :: a12 :: .row v' e s (es ++ es2) :: F) := by
  subst hH; exact og_append 12 hx hy rfl h2 hz hs1 hb hm
theorem og_st13 {x y : Operand} {t : TypeId} {s bs : Nat} {zs : List Value} [hI : TyInfo P t s zs bs] {b o : Nat} {a1 a2 a3 a4 a5 a6 a7 a8 a9 a10 a11 a12 a13 : Ch} {F : List Ch} {t' : TypeId} {cs us cs' : List Value} {v : Value}
    (hx : opv fr x = some (pB b o)) (hy : opv fr y = some v) (hH : H = a1 :: a2 :: a3 :: a4 :: a5 :: a6 :: a7 :: a8 :: a9 :: a10 :: a11 :: a12 :: a13 :: .blk b t' cs :: F) (hu : v.cells = us.toArray) (hl : Nat.beq us.length s = true) (h1 : us.all Value.oneCell' = true) (hs : Splice o us cs cs') :
    OpG P n w0 fr H (.store t x y) Triv (fun _ : Unit => undef) (fun _ => a1 :: a2 :: a3 :: a4 :: a5 :: a6 :: a7 :: a8 :: a9 :: a10 :: a11 :: a12 :: a13 :: .blk b t' cs' :: F) := by
  subst hH; exact og_store 13 hx hy rfl hu hl h1 (Nat.ble_eq_true_of_le hs.eq.2) hs.eq.1
theorem og_stE13 {x y : Operand} {t : TypeId} {z bs : Nat} {zs : List Value} [hI : TyInfo P t z zs bs] {v : Value} {s k c : Nat} {a1 a2 a3 a4 a5 a6 a7 a8 a9 a10 a11 a12 a13 : Ch} {F : List Ch} {t' : TypeId} {es : List (List Value)} {e us e' : List Value} {u : Value}
    (hx : opv fr x = some (pE v s k c)) (hy : opv fr y = some u) (hH : H = a1 :: a2 :: a3 :: a4 :: a5 :: a6 :: a7 :: a8 :: a9 :: a10 :: a11 :: a12 :: a13 :: .row v t' s es :: F) (hk : es[k]? = some e) (hu : u.cells = us.toArray) (hl : Nat.beq us.length z = true) (h1 : us.all Value.oneCell' = true) (hlen : Nat.beq e.length s = true) (hs : Splice c us e e') :
    OpG P n w0 fr H (.store t x y) Triv (fun _ : Unit => undef) (fun _ => a1 :: a2 :: a3 :: a4 :: a5 :: a6 :: a7 :: a8 :: a9 :: a10 :: a11 :: a12 :: a13 :: .row v t' s (es.set k e') :: F) := by
  subst hH; exact og_storeE 13 hx hy rfl hk hu hl h1 (Nat.ble_eq_true_of_le (by rw [← Nat.eq_of_beq_eq_true hlen]; exact hs.eq.2)) hs.eq.1
theorem og_app13 {x y : Operand} {t e : TypeId} {s bs : Nat} {zs : List Value} [hT : TySlice P t e] [hI : TyInfo P e s zs bs] {a1 a2 a3 a4 a5 a6 a7 a8 a9 a10 a11 a12 a13 : Ch} {F : List Ch} {v v2 : Value} {es es2 : List (List Value)}
    (hx : opv fr x = some v) (hy : opv fr y = some v2) (hH : H = a1 :: a2 :: a3 :: a4 :: a5 :: a6 :: a7 :: a8 :: a9 :: a10 :: a11 :: a12 :: a13 :: .row v e s es :: F) (h2 : ∀ w, HeapOk w0 w H → Rd w v2 s es2) (hz : Nat.beq zs.length s = true) (hs1 : Nat.ble 1 s = true)
    (hb : (es.length + es2.length) * bs ≤ 140737488355328) (hm : es.length + es2.length ≤ 9223372036854775807) : OpG P n w0 fr H (.call ⟨.builtin .append, #[x, y], #[t, t]⟩) Triv (fun v' : Value => v') (fun v' => a1 :: a2 :: a3 :: a4 :: a5 :: a6 :: a7 :: a8 :: a9 :: a10 :: a11 :: a12 :: a13 :: .row v' e s (es ++ es2) :: F) := by
  subst hH; exact og_append 13 hx hy rfl h2 hz hs1 hb hm
theorem og_appGrp {x y : Operand} {t e : TypeId} {s bs : Nat} {zs : List Value} [hT : TySlice P t e] [hI : TyInfo P e s zs bs] (i : Nat) {q : Nat} {v v2 : Value} {es es2 : List (List Value)} {rs : List (Value × List (List Value))}
    (hi : H[i]? = some (.grp e s rs)) (hq : rs[q]? = some (v, es)) (hx : opv fr x = some v) (hy : opv fr y = some v2) (h2 : ∀ w, HeapOk w0 w H → Rd w v2 s es2) (hz : Nat.beq zs.length s = true) (hs1 : Nat.ble 1 s = true)
    (hb : (es.length + es2.length) * bs ≤ 140737488355328) (hm : es.length + es2.length ≤ 9223372036854775807) : OpG P n w0 fr H (.call ⟨.builtin .append, #[x, y], #[t, t]⟩) Triv (fun v' : Value => v') (fun v' => H.set i (.grp e s (rs.set q (v', es ++ es2)))) :=
  fun a w hr hh d T pos af gd K hK => by
    have hf := (hh.front hi).focus hq
    obtain ⟨v', w', hrun, hh'⟩ := run_append_row (P := P) (ty := T) hT hI (Nat.eq_of_beq_eq_true hz) (Nat.le_of_ble_eq_true hs1) hf (h2 w hh) hb hm
    have : (execOp a.eval ⟨d, .call ⟨.builtin .append, #[x, y], #[t, t]⟩, T, pos, af, gd⟩).run P w = .ok (.value v') w' := by
      simp only [execOp, resolve, invoke, builtin, Sem.run_bind, Sem.run_pure, Result.andThen_ok, List.map_toArray, List.map_cons, List.map_nil, hr.opv hx, hr.opv hy, hrun]
    unfold okAt; rw [this]
    exact hK v' _ trivial ((HeapOk.unfocus hq hh').perm (perm_set hi))
/-- A row takes the place of another in a group. -/
theorem HeapOk.swap {w : World} {t : TypeId} {s q : Nat} {v : Value} {es : List (List Value)} {rs : List (Value × List (List Value))} {r : Value × List (List Value)} (h : HeapOk w0 w (.row v t s es :: .grp t s rs :: H)) (hq : rs[q]? = some r) : HeapOk w0 w (.grp t s (rs.set q (v, es)) :: H) := by
  have h1 : HeapOk w0 w (.grp t s rs :: .row v t s es :: H) := h.perm (List.Perm.swap _ _ _)
  have h2 : HeapOk w0 w (.grp t s (rs.eraseIdx q) :: .row v t s es :: H) := (h1.grpPerm (front_permG hq).symm).grpSub (List.sublist_cons_self _ _)
  have h3 : HeapOk w0 w (.row v t s es :: .grp t s (rs.eraseIdx q) :: H) := h2.perm (List.Perm.swap _ _ _)
  exact h3.join.grpPerm (perm_setG hq)
theorem og_appG0 {x y : Operand} {t e : TypeId} {s bs : Nat} {zs : List Value} [hT : TySlice P t e] [hI : TyInfo P e s zs bs] {F : List Ch} {q : Nat} {v v2 : Value} {es es2 : List (List Value)} {rs : List (Value × List (List Value))}
    (hx : opv fr x = some v) (hy : opv fr y = some v2) (hH : H = .grp e s rs :: F) (hq : rs[q]? = some (v, es)) (h2 : ∀ w, HeapOk w0 w H → Rd w v2 s es2) (hz : Nat.beq zs.length s = true) (hs1 : Nat.ble 1 s = true)
    (hb : (es.length + es2.length) * bs ≤ 140737488355328) (hm : es.length + es2.length ≤ 9223372036854775807) : OpG P n w0 fr H (.call ⟨.builtin .append, #[x, y], #[t, t]⟩) Triv (fun v' : Value => v') (fun v' => .grp e s (rs.set q (v', es ++ es2)) :: F) := by
  subst hH; exact og_appGrp 0 rfl hq hx hy h2 hz hs1 hb hm
theorem og_appG1 {x y : Operand} {t e : TypeId} {s bs : Nat} {zs : List Value} [hT : TySlice P t e] [hI : TyInfo P e s zs bs] {a1 : Ch} {F : List Ch} {q : Nat} {v v2 : Value} {es es2 : List (List Value)} {rs : List (Value × List (List Value))}
    (hx : opv fr x = some v) (hy : opv fr y = some v2) (hH : H = a1 :: .grp e s rs :: F) (hq : rs[q]? = some (v, es)) (h2 : ∀ w, HeapOk w0 w H → Rd w v2 s es2) (hz : Nat.beq zs.length s = true) (hs1 : Nat.ble 1 s = true)
    (hb : (es.length + es2.length) * bs ≤ 140737488355328) (hm : es.length + es2.length ≤ 9223372036854775807) : OpG P n w0 fr H (.call ⟨.builtin .append, #[x, y], #[t, t]⟩) Triv (fun v' : Value => v') (fun v' => a1 :: .grp e s (rs.set q (v', es ++ es2)) :: F) := by
  subst hH; exact og_appGrp 1 rfl hq hx hy h2 hz hs1 hb hm
theorem og_appG2 {x y : Operand} {t e : TypeId} {s bs : Nat} {zs : List Value} [hT : TySlice P t e] [hI : TyInfo P e s zs bs] {a1 a2 : Ch} {F : List Ch} {q : Nat} {v v2 : Value} {es es2 : List (List Value)} {rs : List (Value × List (List Value))}
    (hx : opv fr x = some v) (hy : opv fr y = some v2) (hH : H = a1 :: a2 :: .grp e s rs :: F) (hq : rs[q]? = some (v, es)) (h2 : ∀ w, HeapOk w0 w H → Rd w v2 s es2) (hz : Nat.beq zs.length s = true) (hs1 : Nat.ble 1 s = true)
    (hb : (es.length + es2.length) * bs ≤ 140737488355328) (hm : es.length + es2.length ≤ 9223372036854775807) : OpG P n w0 fr H (.call ⟨.builtin .append, #[x, y], #[t, t]⟩) Triv (fun v' : Value => v') (fun v' => a1 :: a2 :: .grp e s (rs.set q (v', es ++ es2)) :: F) := by
  subst hH; exact og_appGrp 2 rfl hq hx hy h2 hz hs1 hb hm
theorem og_appG3 {x y : Operand} {t e : TypeId} {s bs : Nat} {zs : List Value} [hT : TySlice P t e] [hI : TyInfo P e s zs bs] {a1 a2 a3 : Ch} {F : List Ch} {q : Nat} {v v2 : Value} {es es2 : List (List Value)} {rs : List (Value × List (List Value))}
    (hx : opv fr x = some v) (hy : opv fr y = some v2) (hH : H = a1 :: a2 :: a3 :: .grp e s rs :: F) (hq : rs[q]? = some (v, es)) (h2 : ∀ w, HeapOk w0 w H → Rd w v2 s es2) (hz : Nat.beq zs.length s = true) (hs1 : Nat.ble 1 s = true)
    (hb : (es.length + es2.length) * bs ≤ 140737488355328) (hm : es.length + es2.length ≤ 9223372036854775807) : OpG P n w0 fr H (.call ⟨.builtin .append, #[x, y], #[t, t]⟩) Triv (fun v' : Value => v') (fun v' => a1 :: a2 :: a3 :: .grp e s (rs.set q (v', es ++ es2)) :: F) := by
  subst hH; exact og_appGrp 3 rfl hq hx hy h2 hz hs1 hb hm
theorem og_appG4 {x y : Operand} {t e : TypeId} {s bs : Nat} {zs : List Value} [hT : TySlice P t e] [hI : TyInfo P e s zs bs] {a1 a2 a3 a4 : Ch} {F : List Ch} {q : Nat} {v v2 : Value} {es es2 : List (List Value)} {rs : List (Value × List (List Value))}
    (hx : opv fr x = some v) (hy : opv fr y = some v2) (hH : H = a1 :: a2 :: a3 :: a4 :: .grp e s rs :: F) (hq : rs[q]? = some (v, es)) (h2 : ∀ w, HeapOk w0 w H → Rd w v2 s es2) (hz : Nat.beq zs.length s = true) (hs1 : Nat.ble 1 s = true)
    (hb : (es.length + es2.length) * bs ≤ 140737488355328) (hm : es.length + es2.length ≤ 9223372036854775807) : OpG P n w0 fr H (.call ⟨.builtin .append, #[x, y], #[t, t]⟩) Triv (fun v' : Value => v') (fun v' => a1 :: a2 :: a3 :: a4 :: .grp e s (rs.set q (v', es ++ es2)) :: F) := by
  subst hH; exact og_appGrp 4 rfl hq hx hy h2 hz hs1 hb hm
theorem og_appG5 {x y : Operand} {t e : TypeId} {s bs : Nat} {zs : List Value} [hT : TySlice P t e] [hI : TyInfo P e s zs bs] {a1 a2 a3 a4 a5 : Ch} {F : List Ch} {q : Nat} {v v2 : Value} {es es2 : List (List Value)} {rs : List (Value × List (List Value))}
    (hx : opv fr x = some v) (hy : opv fr y = some v2) (hH : H = a1 :: a2 :: a3 :: a4 :: a5 :: .grp e s rs :: F) (hq : rs[q]? = some (v, es)) (h2 : ∀ w, HeapOk w0 w H → Rd w v2 s es2) (hz : Nat.beq zs.length s = true) (hs1 : Nat.ble 1 s = true)
    (hb : (es.length + es2.length) * bs ≤ 140737488355328) (hm : es.length + es2.length ≤ 9223372036854775807) : OpG P n w0 fr H (.call ⟨.builtin .append, #[x, y], #[t, t]⟩) Triv (fun v' : Value => v') (fun v' => a1 :: a2 :: a3 :: a4 :: a5 :: .grp e s (rs.set q (v', es ++ es2)) :: F) := by
  subst hH; exact og_appGrp 5 rfl hq hx hy h2 hz hs1 hb hm
theorem og_appG6 {x y : Operand} {t e : TypeId} {s bs : Nat} {zs : List Value} [hT : TySlice P t e] [hI : TyInfo P e s zs bs] {a1 a2 a3 a4 a5 a6 : Ch} {F : List Ch} {q : Nat} {v v2 : Value} {es es2 : List (List Value)} {rs : List (Value × List (List Value))}
    (hx : opv fr x = some v) (hy : opv fr y = some v2) (hH : H = a1 :: a2 :: a3 :: a4 :: a5 :: a6 :: .grp e s rs :: F) (hq : rs[q]? = some (v, es)) (h2 : ∀ w, HeapOk w0 w H → Rd w v2 s es2) (hz : Nat.beq zs.length s = true) (hs1 : Nat.ble 1 s = true)
    (hb : (es.length + es2.length) * bs ≤ 140737488355328) (hm : es.length + es2.length ≤ 9223372036854775807) : OpG P n w0 fr H (.call ⟨.builtin .append, #[x, y], #[t, t]⟩) Triv (fun v' : Value => v') (fun v' => a1 :: a2 :: a3 :: a4 :: a5 :: a6 :: .grp e s (rs.set q (v', es ++ es2)) :: F) := by
  subst hH; exact og_appGrp 6 rfl hq hx hy h2 hz hs1 hb hm
theorem og_appG7 {x y : Operand} {t e : TypeId} {s bs : Nat} {zs : List Value} [hT : TySlice P t e] [hI : TyInfo P e s zs bs] {a1 a2 a3 a4 a5 a6 a7 : Ch} {F : List Ch} {q : Nat} {v v2 : Value} {es es2 : List (List Value)} {rs : List (Value × List (List Value))}
    (hx : opv fr x = some v) (hy : opv fr y = some v2) (hH : H = a1 :: a2 :: a3 :: a4 :: a5 :: a6 :: a7 :: .grp e s rs :: F) (hq : rs[q]? = some (v, es)) (h2 : ∀ w, HeapOk w0 w H → Rd w v2 s es2) (hz : Nat.beq zs.length s = true) (hs1 : Nat.ble 1 s = true)
    (hb : (es.length + es2.length) * bs ≤ 140737488355328) (hm : es.length + es2.length ≤ 9223372036854775807) : OpG P n w0 fr H (.call ⟨.builtin .append, #[x, y], #[t, t]⟩) Triv (fun v' : Value => v') (fun v' => a1 :: a2 :: a3 :: a4 :: a5 :: a6 :: a7 :: .grp e s (rs.set q (v', es ++ es2)) :: F) := by
  subst hH; exact og_appGrp 7 rfl hq hx hy h2 hz hs1 hb hm
theorem og_appG8 {x y : Operand} {t e : TypeId} {s bs : Nat} {zs : List Value} [hT : TySlice P t e] [hI : TyInfo P e s zs bs] {a1 a2 a3 a4 a5 a6 a7 a8 : Ch} {F : List Ch} {q : Nat} {v v2 : Value} {es es2 : List (List Value)} {rs : List (Value × List (List Value))}
    (hx : opv fr x = some v) (hy : opv fr y = some v2) (hH : H = a1 :: a2 :: a3 :: a4 :: a5 :: a6 :: a7 :: a8 :: .grp e s rs :: F) (hq : rs[q]? = some (v, es)) (h2 : ∀ w, HeapOk w0 w H → Rd w v2 s es2) (hz : Nat.beq zs.length s = true) (hs1 : Nat.ble 1 s = true)
    (hb : (es.length + es2.length) * bs ≤ 140737488355328) (hm : es.length + es2.length ≤ 9223372036854775807) : OpG P n w0 fr H (.call ⟨.builtin .append, #[x, y], #[t, t]⟩) Triv (fun v' : Value => v') (fun v' => a1 :: a2 :: a3 :: a4 :: a5 :: a6 :: a7 :: a8 :: .grp e s (rs.set q (v', es ++ es2)) :: F) := by
  subst hH; exact og_appGrp 8 rfl hq hx hy h2 hz hs1 hb hm
theorem og_appG9 {x y : Operand} {t e : TypeId} {s bs : Nat} {zs : List Value} [hT : TySlice P t e] [hI : TyInfo P e s zs bs] {a1 a2 a3 a4 a5 a6 a7 a8 a9 : Ch} {F : List Ch} {q : Nat} {v v2 : Value} {es es2 : List (List Value)} {rs : List (Value × List (List Value))}
    (hx : opv fr x = some v) (hy : opv fr y = some v2) (hH : H = a1 :: a2 :: a3 :: a4 :: a5 :: a6 :: a7 :: a8 :: a9 :: .grp e s rs :: F) (hq : rs[q]? = some (v, es)) (h2 : ∀ w, HeapOk w0 w H → Rd w v2 s es2) (hz : Nat.beq zs.length s = true) (hs1 : Nat.ble 1 s = true)
    (hb : (es.length + es2.length) * bs ≤ 140737488355328) (hm : es.length + es2.length ≤ 9223372036854775807) : OpG P n w0 fr H (.call ⟨.builtin .append, #[x, y], #[t, t]⟩) Triv (fun v' : Value => v') (fun v' => a1 :: a2 :: a3 :: a4 :: a5 :: a6 :: a7 :: a8 :: a9 :: .grp e s (rs.set q (v', es ++ es2)) :: F) := by
  subst hH; exact og_appGrp 9 rfl hq hx hy h2 hz hs1 hb hm
theorem og_appG10 {x y : Operand} {t e : TypeId} {s bs : Nat} {zs : List Value} [hT : TySlice P t e] [hI : TyInfo P e s zs bs] {a1 a2 a3 a4 a5 a6 a7 a8 a9 a10 : Ch} {F : List Ch} {q : Nat} {v v2 : Value} {es es2 : List (List Value)} {rs : List (Value × List (List Value))}
    (hx : opv fr x = some v) (hy : opv fr y = some v2) (hH : H = a1 :: a2 :: a3 :: a4 :: a5 :: a6 :: a7 :: a8 :: a9 :: a10 :: .grp e s rs :: F) (hq : rs[q]? = some (v, es)) (h2 : ∀ w, HeapOk w0 w H → Rd w v2 s es2) (hz : Nat.beq zs.length s = true) (hs1 : Nat.ble 1 s = true)
    (hb : (es.length + es2.length) * bs ≤ 140737488355328) (hm : es.length + es2.length ≤ 9223372036854775807) : OpG P n w0 fr H (.call ⟨.builtin .append, #[x, y], #[t, t]⟩) Triv (fun v' : Value => v') (fun v' => a1 :: a2 :: a3 :: a4 :: a5 :: a6 :: a7 :: a8 :: a9 :: a10 :: .grp e s (rs.set q (v', es ++ es2)) :: F) := by
  subst hH; exact og_appGrp 10 rfl hq hx hy h2 hz hs1 hb hm
theorem og_appG11 {x y : Operand} {t e : TypeId} {s bs : Nat} {zs : List Value} [hT : TySlice P t e] [hI : TyInfo P e s zs bs] {a1 a2 a3 a4 a5 a6 a7 a8 a9 a10 a11 : Ch} {F : List Ch} {q : Nat} {v v2 : Value} {es es2 : List (List Value)} {rs : List (Value × List (List Value))}
    (hx : opv fr x = some v) (hy : opv fr y = some v2) (hH : H = a1 :: a2 :: a3 :: a4 :: a5 :: a6 :: a7 :: a8 :: a9 :: a10 :: a11 :: .grp e s rs :: F) (hq : rs[q]? = some (v, es)) (h2 : ∀ w, HeapOk w0 w H → Rd w v2 s es2) (hz : Nat.beq zs.length s = true) (hs1 : Nat.ble 1 s = true)
    (hb : (es.length + es2.length) * bs ≤ 140737488355328) (hm : es.length + es2.length ≤ 9223372036854775807) : OpG P n w0 fr H (.call ⟨.builtin .append, #[x, y], #[t, t]⟩) Triv (fun v' : Value => v') (fun v' => a1 :: a2 :: a3 :: a4 :: a5 :: a6 :: a7 :: a8 :: a9 :: a10 :: a11 :: .grp e s (rs.set q (v', es ++ es2)) :: F) := by
  subst hH; exact og_appGrp 11 rfl hq hx hy h2 hz hs1 hb hm
theorem og_appG12 {x y : Operand} {t e : TypeId} {s bs : Nat} {zs : List Value} [hT : TySlice P t e] [hI : TyInfo P e s zs bs] {a1 a2 a3 a4 a5 a6 a7 a8 a9 a10 a11 a12 : Ch} {F : List Ch} {q : Nat} {v v2 : Value} {es es2 : List (List Value)} {rs : List (Value × List (List Value))}
    (hx : opv fr x = some v) (hy : opv fr y = some v2) (hH : H = a1 :: a2 :: a3 :: a4 :: a5 :: a6 :: a7 :: a8 :: a9 :: a10 :: a11 :: a12 :: .grp e s rs :: F) (hq : rs[q]? = some (v, es)) (h2 : ∀ w, HeapOk w0 w H → Rd w v2 s es2) (hz : Nat.beq zs.length s = true) (hs1 : Nat.ble 1 s = true)
    (hb : (es.length + es2.length) * bs ≤ 140737488355328) (hm : es.length + es2.length ≤ 9223372036854775807) : OpG P n w0 fr H (.call ⟨.builtin .append, #[x, y], #[t, t]⟩) Triv (fun v' : Value => v') (fun v' => a1 :: a2 :: a3 :: a4 :: a5 :: a6 :: a7 :: a8 :: a9 :: a10 :: a11 :: a12 :: .grp e s (rs.set q (v', es ++ es2)) :: F) := by
  subst hH; exact og_appGrp 12 rfl hq hx hy h2 hz hs1 hb hm
theorem og_appG13 {x y : Operand} {t e : TypeId} {s bs : Nat} {zs : List Value} [hT : TySlice P t e] [hI : TyInfo P e s zs bs] {a1 a2 a3 a4 a5 a6 a7 a8 a9 a10 a11 a12 a13 : Ch} {F : List Ch} {q : Nat} {v v2 : Value} {es es2 : List (List Value)} {rs : List (Value × List (List Value))}
    (hx : opv fr x = some v) (hy : opv fr y = some v2) (hH : H = a1 :: a2 :: a3 :: a4 :: a5 :: a6 :: a7 :: a8 :: a9 :: a10 :: a11 :: a12 :: a13 :: .grp e s rs :: F) (hq : rs[q]? = some (v, es)) (h2 : ∀ w, HeapOk w0 w H → Rd w v2 s es2) (hz : Nat.beq zs.length s = true) (hs1 : Nat.ble 1 s = true)
    (hb : (es.length + es2.length) * bs ≤ 140737488355328) (hm : es.length + es2.length ≤ 9223372036854775807) : OpG P n w0 fr H (.call ⟨.builtin .append, #[x, y], #[t, t]⟩) Triv (fun v' : Value => v') (fun v' => a1 :: a2 :: a3 :: a4 :: a5 :: a6 :: a7 :: a8 :: a9 :: a10 :: a11 :: a12 :: a13 :: .grp e s (rs.set q (v', es ++ es2)) :: F) := by
  subst hH; exact og_appGrp 13 rfl hq hx hy h2 hz hs1 hb hm
theorem og_appG14 {x y : Operand} {t e : TypeId} {s bs : Nat} {zs : List Value} [hT : TySlice P t e] [hI : TyInfo P e s zs bs] {a1 a2 a3 a4 a5 a6 a7 a8 a9 a10 a11 a12 a13 a14 : Ch} {F : List Ch} {q : Nat} {v v2 : Value} {es es2 : List (List Value)} {rs : List (Value × List (List Value))}
    (hx : opv fr x = some v) (hy : opv fr y = some v2) (hH : H = a1 :: a2 :: a3 :: a4 :: a5 :: a6 :: a7 :: a8 :: a9 :: a10 :: a11 :: a12 :: a13 :: a14 :: .grp e s rs :: F) (hq : rs[q]? = some (v, es)) (h2 : ∀ w, HeapOk w0 w H → Rd w v2 s es2) (hz : Nat.beq zs.length s = true) (hs1 : Nat.ble 1 s = true)
    (hb : (es.length + es2.length) * bs ≤ 140737488355328) (hm : es.length + es2.length ≤ 9223372036854775807) : OpG P n w0 fr H (.call ⟨.builtin .append, #[x, y], #[t, t]⟩) Triv (fun v' : Value => v') (fun v' => a1 :: a2 :: a3 :: a4 :: a5 :: a6 :: a7 :: a8 :: a9 :: a10 :: a11 :: a12 :: a13 :: a14 :: .grp e s (rs.set q (v', es ++ es2)) :: F) := by
  subst hH; exact og_appGrp 14 rfl hq hx hy h2 hz hs1 hb hm
theorem og_appG15 {x y : Operand} {t e : TypeId} {s bs : Nat} {zs : List Value} [hT : TySlice P t e] [hI : TyInfo P e s zs bs] {a1 a2 a3 a4 a5 a6 a7 a8 a9 a10 a11 a12 a13 a14 a15 : Ch} {F : List Ch} {q : Nat} {v v2 : Value} {es es2 : List (List Value)} {rs : List (Value × List (List Value))}
    (hx : opv fr x = some v) (hy : opv fr y = some v2) (hH : H = a1 :: a2 :: a3 :: a4 :: a5 :: a6 :: a7 :: a8 :: a9 :: a10 :: a11 :: a12 :: a13 :: a14 :: a15 :: .grp e s rs :: F) (hq : rs[q]? = some (v, es)) (h2 : ∀ w, HeapOk w0 w H → Rd w v2 s es2) (hz : Nat.beq zs.length s = true) (hs1 : Nat.ble 1 s = true)
    (hb : (es.length + es2.length) * bs ≤ 140737488355328) (hm : es.length + es2.length ≤ 9223372036854775807) : OpG P n w0 fr H (.call ⟨.builtin .append, #[x, y], #[t, t]⟩) Triv (fun v' : Value => v') (fun v' => a1 :: a2 :: a3 :: a4 :: a5 :: a6 :: a7 :: a8 :: a9 :: a10 :: a11 :: a12 :: a13 :: a14 :: a15 :: .grp e s (rs.set q (v', es ++ es2)) :: F) := by
  subst hH; exact og_appGrp 15 rfl hq hx hy h2 hz hs1 hb hm
/-- A nil row joins the group in front. -/
theorem G.pushNil {F : List Ch} {t : TypeId} {s : Nat} {rs : List (Value × List (List Value))} (rs' : List (Value × List (List Value))) {K : Act → World → Prop} (e : rs ++ [(.slice none 0 0, [])] = rs') (hH : H = .grp t s rs :: F) (h : G n w0 fr (.grp t s rs' :: F) K) : G n w0 fr H K :=
  G.heap (fun w hh => by subst e hH; exact (hh.nilRow t s).push) h
theorem G.rowEq {F : List Ch} {v : Value} {t : TypeId} {s : Nat} {es : List (List Value)} (es' : List (List Value)) {K : Act → World → Prop} (e : es = es') (hH : H = .row v t s es :: F) (h : G n w0 fr (.row v t s es' :: F) K) : G n w0 fr H K := by subst e hH; exact h
theorem G.swapRow {F : List Ch} {t : TypeId} {s q : Nat} {v : Value} {es : List (List Value)} {rs : List (Value × List (List Value))} {r : Value × List (List Value)} (rs' : List (Value × List (List Value))) {K : Act → World → Prop} (hq : rs[q]? = some r) (e : rs.set q (v, es) = rs') (hH : H = .row v t s es :: .grp t s rs :: F) (h : G n w0 fr (.grp t s rs' :: F) K) : G n w0 fr H K :=
  G.heap (fun w hh => by subst e hH; exact hh.swap hq) h
/-- A row, or a group, comes to the front. -/
theorem G.frontR0 {F : List Ch} (v : Value) {t : TypeId} {s : Nat} {es : List (List Value)} {K : Act → World → Prop} (hH : H = .row v t s es :: F) (h : G n w0 fr (.row v t s es :: F) K) : G n w0 fr H K := G.perm (by subst hH; exact (front_perm (i := 0) rfl).symm) h
theorem G.frontG0 {F : List Ch} (rs : List (Value × List (List Value))) {t : TypeId} {s : Nat} {K : Act → World → Prop} (hH : H = .grp t s rs :: F) (h : G n w0 fr (.grp t s rs :: F) K) : G n w0 fr H K := G.perm (by subst hH; exact (front_perm (i := 0) rfl).symm) h
theorem G.frontR1 {a1 : Ch} {F : List Ch} (v : Value) {t : TypeId} {s : Nat} {es : List (List Value)} {K : Act → World → Prop} (hH : H = a1 :: .row v t s es :: F) (h : G n w0 fr (.row v t s es :: a1 :: F) K) : G n w0 fr H K := G.perm (by subst hH; exact (front_perm (i := 1) rfl).symm) h
theorem G.frontG1 {a1 : Ch} {F : List Ch} (rs : List (Value × List (List Value))) {t : TypeId} {s : Nat} {K : Act → World → Prop} (hH : H = a1 :: .grp t s rs :: F) (h : G n w0 fr (.grp t s rs :: a1 :: F) K) : G n w0 fr H K := G.perm (by subst hH; exact (front_perm (i := 1) rfl).symm) h
theorem G.frontR2 {a1 a2 : Ch} {F : List Ch} (v : Value) {t : TypeId} {s : Nat} {es : List (List Value)} {K : Act → World → Prop} (hH : H = a1 :: a2 :: .row v t s es :: F) (h : G n w0 fr (.row v t s es :: a1 :: a2 :: F) K) : G n w0 fr H K := G.perm (by subst hH; exact (front_perm (i := 2) rfl).symm) h
theorem G.frontG2 {a1 a2 : Ch} {F : List Ch} (rs : List (Value × List (List Value))) {t : TypeId} {s : Nat} {K : Act → World → Prop} (hH : H = a1 :: a2 :: .grp t s rs :: F) (h : G n w0 fr (.grp t s rs :: a1 :: a2 :: F) K) : G n w0 fr H K := G.perm (by subst hH; exact (front_perm (i := 2) rfl).symm) h
theorem G.frontR3 {a1 a2 a3 : Ch} {F : List Ch} (v : Value) {t : TypeId} {s : Nat} {es : List (List Value)} {K : Act → World → Prop} (hH : H = a1 :: a2 :: a3 :: .row v t s es :: F) (h : G n w0 fr (.row v t s es :: a1 :: a2 :: a3 :: F) K) : G n w0 fr H K := G.perm (by subst hH; exact (front_perm (i := 3) rfl).symm) h
theorem G.frontG3 {a1 a2 a3 : Ch} {F : List Ch} (rs : List (Value × List (List Value))) {t : TypeId} {s : Nat} {K : Act → World → Prop} (hH : H = a1 :: a2 :: a3 :: .grp t s rs :: F) (h : G n w0 fr (.grp t s rs :: a1 :: a2 :: a3 :: F) K) : G n w0 fr H K := G.perm (by subst hH; exact (front_perm (i := 3) rfl).symm) h
theorem G.frontR4 {a1 a2 a3 a4 : Ch} {F : List Ch} (v : Value) {t : TypeId} {s : Nat} {es : List (List Value)} {K : Act → World → Prop} (hH : H = a1 :: a2 :: a3 :: a4 :: .row v t s es :: F) (h : G n w0 fr (.row v t s es :: a1 :: a2 :: a3 :: a4 :: F) K) : G n w0 fr H K := G.perm (by subst hH; exact (front_perm (i := 4) rfl).symm) h
theorem G.frontG4 {a1 a2 a3 a4 : Ch} {F : List Ch} (rs : List (Value × List (List Value))) {t : TypeId} {s : Nat} {K : Act → World → Prop} (hH : H = a1 :: a2 :: a3 :: a4 :: .grp t s rs :: F) (h : G n w0 fr (.grp t s rs :: a1 :: a2 :: a3 :: a4 :: F) K) : G n w0 fr H K := G.perm (by subst hH; exact (front_perm (i := 4) rfl).symm) h
theorem G.frontR5 {a1 a2 a3 a4 a5 : Ch} {F : List Ch} (v : Value) {t : TypeId} {s : Nat} {es : List (List Value)} {K : Act → World → Prop} (hH : H = a1 :: a2 :: a3 :: a4 :: a5 :: .row v t s es :: F) (h : G n w0 fr (.row v t s es :: a1 :: a2 :: a3 :: a4 :: a5 :: F) K) : G n w0 fr H K := G.perm (by subst hH; exact (front_perm (i := 5) rfl).symm) h
theorem G.frontG5 {a1 a2 a3 a4 a5 : Ch} {F : List Ch} (rs : List (Value × List (List Value))) {t : TypeId} {s : Nat} {K : Act → World → Prop} (hH : H = a1 :: a2 :: a3 :: a4 :: a5 :: .grp t s rs :: F) (h : G n w0 fr (.grp t s rs :: a1 :: a2 :: a3 :: a4 :: a5 :: F) K) : G n w0 fr H K := G.perm (by subst hH; exact (front_perm (i := 5) rfl).symm) h
theorem G.frontR6 {a1 a2 a3 a4 a5 a6 : Ch} {F : List Ch} (v : Value) {t : TypeId} {s : Nat} {es : List (List Value)} {K : Act → World → Prop} (hH : H = a1 :: a2 :: a3 :: a4 :: a5 :: a6 :: .row v t s es :: F) (h : G n w0 fr (.row v t s es :: a1 :: a2 :: a3 :: a4 :: a5 :: a6 :: F) K) : G n w0 fr H K := G.perm (by subst hH; exact (front_perm (i := 6) rfl).symm) h
theorem G.frontG6 {a1 a2 a3 a4 a5 a6 : Ch} {F : List Ch} (rs : List (Value × List (List Value))) {t : TypeId} {s : Nat} {K : Act → World → Prop} (hH : H = a1 :: a2 :: a3 :: a4 :: a5 :: a6 :: .grp t s rs :: F) (h : G n w0 fr (.grp t s rs :: a1 :: a2 :: a3 :: a4 :: a5 :: a6 :: F) K) : G n w0 fr H K := G.perm (by subst hH; exact (front_perm (i := 6) rfl).symm) h
theorem G.frontR7 {a1 a2 a3 a4 a5 a6 a7 : Ch} {F : List Ch} (v : Value) {t : TypeId} {s : Nat} {es : List (List Value)} {K : Act → World → Prop} (hH : H = a1 :: a2 :: a3 :: a4 :: a5 :: a6 :: a7 :: .row v t s es :: F) (h : G n w0 fr (.row v t s es :: a1 :: a2 :: a3 :: a4 :: a5 :: a6 :: a7 :: F) K) : G n w0 fr H K := G.perm (by subst hH; exact (front_perm (i := 7) rfl).symm) h
theorem G.frontG7 {a1 a2 a3 a4 a5 a6 a7 : Ch} {F : List Ch} (rs : List (Value × List (List Value))) {t : TypeId} {s : Nat} {K : Act → World → Prop} (hH : H = a1 :: a2 :: a3 :: a4 :: a5 :: a6 :: a7 :: .grp t s rs :: F) (h : G n w0 fr (.grp t s rs :: a1 :: a2 :: a3 :: a4 :: a5 :: a6 :: a7 :: F) K) : G n w0 fr H K := G.perm (by subst hH; exact (front_perm (i := 7) rfl).symm) h
theorem G.frontR8 {a1 a2 a3 a4 a5 a6 a7 a8 : Ch} {F : List Ch} (v : Value) {t : TypeId} {s : Nat} {es : List (List Value)} {K : Act → World → Prop} (hH : H = a1 :: a2 :: a3 :: a4 :: a5 :: a6 :: a7 :: a8 :: .row v t s es :: F) (h : G n w0 fr (.row v t s es :: a1 :: a2 :: a3 :: a4 :: a5 :: a6 :: a7 :: a8 :: F) K) : G n w0 fr H K := G.perm (by subst hH; exact (front_perm (i := 8) rfl).symm) h
theorem G.frontG8 {a1 a2 a3 a4 a5 a6 a7 a8 : Ch} {F : List Ch} (rs : List (Value × List (List Value))) {t : TypeId} {s : Nat} {K : Act → World → Prop} (hH : H = a1 :: a2 :: a3 :: a4 :: a5 :: a6 :: a7 :: a8 :: .grp t s rs :: F) (h : G n w0 fr (.grp t s rs :: a1 :: a2 :: a3 :: a4 :: a5 :: a6 :: a7 :: a8 :: F) K) : G n w0 fr H K := G.perm (by subst hH; exact (front_perm (i := 8) rfl).symm) h
theorem G.frontR9 {a1 a2 a3 a4 a5 a6 a7 a8 a9 : Ch} {F : List Ch} (v : Value) {t : TypeId} {s : Nat} {es : List (List Value)} {K : Act → World → Prop} (hH : H = a1 :: a2 :: a3 :: a4 :: a5 :: a6 :: a7 :: a8 :: a9 :: .row v t s es :: F) (h : G n w0 fr (.row v t s es :: a1 :: a2 :: a3 :: a4 :: a5 :: a6 :: a7 :: a8 :: a9 :: F) K) : G n w0 fr H K := G.perm (by subst hH; exact (front_perm (i := 9) rfl).symm) h
theorem G.frontG9 {a1 a2 a3 a4 a5 a6 a7 a8 a9 : Ch} {F : List Ch} (rs : List (Value × List (List Value))) {t : TypeId} {s : Nat} {K : Act → World → Prop} (hH : H = a1 :: a2 :: a3 :: a4 :: a5 :: a6 :: a7 :: a8 :: a9 :: .grp t s rs :: F) (h : G n w0 fr (.grp t s rs :: a1 :: a2 :: a3 :: a4 :: a5 :: a6 :: a7 :: a8 :: a9 :: F) K) : G n w0 fr H K := G.perm (by subst hH; exact (front_perm (i := 9) rfl).symm) h
theorem G.frontR10 {a1 a2 a3 a4 a5 a6 a7 a8 a9 a10 : Ch} {F : List Ch} (v : Value) {t : TypeId} {s : Nat} {es : List (List Value)} {K : Act → World → Prop} (hH : H = a1 :: a2 :: a3 :: a4 :: a5 :: a6 :: a7 :: a8 :: a9 :: a10 :: .row v t s es :: F) (h : G n w0 fr (.row v t s es :: a1 :: a2 :: a3 :: a4 :: a5 :: a6 :: a7 :: a8 :: a9 :: a10 :: F) K) : G n w0 fr H K := G.perm (by subst hH; exact (front_perm (i := 10) rfl).symm) h
theorem G.frontG10 {a1 a2 a3 a4 a5 a6 a7 a8 a9 a10 : Ch} {F : List Ch} (rs : List (Value × List (List Value))) {t : TypeId} {s : Nat} {K : Act → World → Prop} (hH : H = a1 :: a2 :: a3 :: a4 :: a5 :: a6 :: a7 :: a8 :: a9 :: a10 :: .grp t s rs :: F) (h : G n w0 fr (.grp t s rs :: a1 :: a2 :: a3 :: a4 :: a5 :: a6 :: a7 :: a8 :: a9 :: a10 :: F) K) : G n w0 fr H K := G.perm (by subst hH; exact (front_perm (i := 10) rfl).symm) h
theorem G.frontR11 {a1 a2 a3 a4 a5 a6 a7 a8 a9 a10 a11 : Ch} {F : List Ch} (v : Value) {t : TypeId} {s : Nat} {es : List (List Value)} {K : Act → World → Prop} (hH : H = a1 :: a2 :: a3 :: a4 :: a5 :: a6 :: a7 :: a8 :: a9 :: a10 :: a11 :: .row v t s es :: F) (h : G n w0 fr (.row v t s es :: a1 :: a2 :: a3 :: a4 :: a5 :: a6 :: a7 :: a8 :: a9 :: a10 :: a11 :: F) K) : G n w0 fr H K := G.perm (by subst hH; exact (front_perm (i := 11) rfl).symm) h
theorem G.frontG11 {a1 a2 a3 a4 a5 a6 a7 a8 a9 a10 a11 : Ch} {F : List Ch} (rs : List (Value × List (List Value))) {t : TypeId} {s : Nat} {K : Act → World → Prop} (hH : H = a1 :: a2 :: a3 :: a4 :: a5 :: a6 :: a7 :: a8 :: a9 :: a10 :: a11 :: .grp t s rs :: F) (h : G n w0 fr (.grp t s rs :: a1 :: a2 :: a3 :: a4 :: a5 :: a6 :: a7 :: a8 :: a9 :: a10 :: a11 :: F) K) : G n w0 fr H K := G.perm (by subst hH; exact (front_perm (i := 11) rfl).symm) h
theorem G.frontR12 {a1 a2 a3 a4 a5 a6 a7 a8 a9 a10 a11 a12 : Ch} {F : List Ch} (v : Value) {t : TypeId} {s : Nat} {es : List (List Value)} {K : Act → World → Prop} (hH : H = a1 :: a2 :: a3 :: a4 :: a5 :: a6 :: a7 :: a8 :: a9 :: a10 :: a11 :: a12 :: .row v t s es :: F) (h : G n w0 fr (.row v t s es :: a1 :: a2 :: a3 :: a4 :: a5 :: a6 :: a7 :: a8 :: a9 :: a10 :: a11 :: a12 :: F) K) : G n w0 fr H K := G.perm (by subst hH; exact (front_perm (i := 12) rfl).symm) h
theorem G.frontG12 {a1 a2 a3 a4 a5 a6 a7 a8 a9 a10 a11 a12 : Ch} {F : List Ch} (rs : List (Value × List (List Value))) {t : TypeId} {s : Nat} {K : Act → World → Prop} (hH : H = a1 :: a2 :: a3 :: a4 :: a5 :: a6 :: a7 :: a8 :: a9 :: a10 :: a11 :: a12 :: .grp t s rs :: F) (h : G n w0 fr (.grp t s rs :: a1 :: a2 :: a3 :: a4 :: a5 :: a6 :: a7 :: a8 :: a9 :: a10 :: a11 :: a12 :: F) K) : G n w0 fr H K := G.perm (by subst hH; exact (front_perm (i := 12) rfl).symm) h
theorem G.frontR13 {a1 a2 a3 a4 a5 a6 a7 a8 a9 a10 a11 a12 a13 : Ch} {F : List Ch} (v : Value) {t : TypeId} {s : Nat} {es : List (List Value)} {K : Act → World → Prop} (hH : H = a1 :: a2 :: a3 :: a4 :: a5 :: a6 :: a7 :: a8 :: a9 :: a10 :: a11 :: a12 :: a13 :: .row v t s es :: F) (h : G n w0 fr (.row v t s es :: a1 :: a2 :: a3 :: a4 :: a5 :: a6 :: a7 :: a8 :: a9 :: a10 :: a11 :: a12 :: a13 :: F) K) : G n w0 fr H K := G.perm (by subst hH; exact (front_perm (i := 13) rfl).symm) h
theorem G.frontG13 {a1 a2 a3 a4 a5 a6 a7 a8 a9 a10 a11 a12 a13 : Ch} {F : List Ch} (rs : List (Value × List (List Value))) {t : TypeId} {s : Nat} {K : Act → World → Prop} (hH : H = a1 :: a2 :: a3 :: a4 :: a5 :: a6 :: a7 :: a8 :: a9 :: a10 :: a11 :: a12 :: a13 :: .grp t s rs :: F) (h : G n w0 fr (.grp t s rs :: a1 :: a2 :: a3 :: a4 :: a5 :: a6 :: a7 :: a8 :: a9 :: a10 :: a11 :: a12 :: a13 :: F) K) : G n w0 fr H K := G.perm (by subst hH; exact (front_perm (i := 13) rfl).symm) h
theorem G.frontR14 {a1 a2 a3 a4 a5 a6 a7 a8 a9 a10 a11 a12 a13 a14 : Ch} {F : List Ch} (v : Value) {t : TypeId} {s : Nat} {es : List (List Value)} {K : Act → World → Prop} (hH : H = a1 :: a2 :: a3 :: a4 :: a5 :: a6 :: a7 :: a8 :: a9 :: a10 :: a11 :: a12 :: a13 :: a14 :: .row v t s es :: F) (h : G n w0 fr (.row v t s es :: a1 :: a2 :: a3 :: a4 :: a5 :: a6 :: a7 :: a8 :: a9 :: a10 :: a11 :: a12 :: a13 :: a14 :: F) K) : G n w0 fr H K := G.perm (by subst hH; exact (front_perm (i := 14) rfl).symm) h
theorem G.frontG14 {a1 a2 a3 a4 a5 a6 a7 a8 a9 a10 a11 a12 a13 a14 : Ch} {F : List Ch} (rs : List (Value × List (List Value))) {t : TypeId} {s : Nat} {K : Act → World → Prop} (hH : H = a1 :: a2 :: a3 :: a4 :: a5 :: a6 :: a7 :: a8 :: a9 :: a10 :: a11 :: a12 :: a13 :: a14 :: .grp t s rs :: F) (h : G n w0 fr (.grp t s rs :: a1 :: a2 :: a3 :: a4 :: a5 :: a6 :: a7 :: a8 :: a9 :: a10 :: a11 :: a12 :: a13 :: a14 :: F) K) : G n w0 fr H K := G.perm (by subst hH; exact (front_perm (i := 14) rfl).symm) h
theorem G.frontR15 {a1 a2 a3 a4 a5 a6 a7 a8 a9 a10 a11 a12 a13 a14 a15 : Ch} {F : List Ch} (v : Value) {t : TypeId} {s : Nat} {es : List (List Value)} {K : Act → World → Prop} (hH : H = a1 :: a2 :: a3 :: a4 :: a5 :: a6 :: a7 :: a8 :: a9 :: a10 :: a11 :: a12 :: a13 :: a14 :: a15 :: .row v t s es :: F) (h : G n w0 fr (.row v t s es :: a1 :: a2 :: a3 :: a4 :: a5 :: a6 :: a7 :: a8 :: a9 :: a10 :: a11 :: a12 :: a13 :: a14 :: a15 :: F) K) : G n w0 fr H K := G.perm (by subst hH; exact (front_perm (i := 15) rfl).symm) h
theorem G.frontG15 {a1 a2 a3 a4 a5 a6 a7 a8 a9 a10 a11 a12 a13 a14 a15 : Ch} {F : List Ch} (rs : List (Value × List (List Value))) {t : TypeId} {s : Nat} {K : Act → World → Prop} (hH : H = a1 :: a2 :: a3 :: a4 :: a5 :: a6 :: a7 :: a8 :: a9 :: a10 :: a11 :: a12 :: a13 :: a14 :: a15 :: .grp t s rs :: F) (h : G n w0 fr (.grp t s rs :: a1 :: a2 :: a3 :: a4 :: a5 :: a6 :: a7 :: a8 :: a9 :: a10 :: a11 :: a12 :: a13 :: a14 :: a15 :: F) K) : G n w0 fr H K := G.perm (by subst hH; exact (front_perm (i := 15) rfl).symm) h
section
variable {f : FuncId} [hF : FnOk P f] {fo : Operand} {xs : List Operand} {vs caps : List Value} {ts : Array TypeId} {X : Type} {φ : X → Prop} {rv : X → Value} {c1 c2 c3 : Ch} {F : List Ch} {o1 o2 o3 : X → Ch}
theorem og_callMM1 (hf : opv fr fo = some (.func (.func f) #[] caps.toArray)) (hx : opvs fr xs = some vs) (hH : H = c1 :: F) (hc : FnMF P f (vs ++ caps) w0 [c1] F φ rv (fun x => [o1 x])) :
    OpG P n w0 fr H (.call ⟨.value fo, xs.toArray, ts⟩) φ rv (fun x => o1 x :: F) := og_callMF hf hx hc (by subst hH; exact List.Perm.refl _)
theorem og_callMM2 (hf : opv fr fo = some (.func (.func f) #[] caps.toArray)) (hx : opvs fr xs = some vs) (hH : H = c1 :: c2 :: F) (hc : FnMF P f (vs ++ caps) w0 [c1, c2] F φ rv (fun x => [o1 x, o2 x])) :
    OpG P n w0 fr H (.call ⟨.value fo, xs.toArray, ts⟩) φ rv (fun x => o1 x :: o2 x :: F) := og_callMF hf hx hc (by subst hH; exact List.Perm.refl _)
theorem og_callMM3 (hf : opv fr fo = some (.func (.func f) #[] caps.toArray)) (hx : opvs fr xs = some vs) (hH : H = c1 :: c2 :: c3 :: F) (hc : FnMF P f (vs ++ caps) w0 [c1, c2, c3] F φ rv (fun x => [o1 x, o2 x, o3 x])) :
    OpG P n w0 fr H (.call ⟨.value fo, xs.toArray, ts⟩) φ rv (fun x => o1 x :: o2 x :: o3 x :: F) := og_callMF hf hx hc (by subst hH; exact List.Perm.refl _)
end
section
variable {f : FuncId} [hF : FnOk P f] {fo : Operand} {xs : List Operand} {vs caps : List Value} {ts : Array TypeId} {X : Type} {φ : X → Prop} {rv : X → Value}
theorem og_callF1 {o1 : X → Ch} (hf : opv fr fo = some (.func (.func f) #[] caps.toArray)) (hx : opvs fr xs = some vs) (hc : ∀ w, HeapOk w0 w H → Fn P f (vs ++ caps) w φ rv (fun x => [o1 x])) :
    OpG P n w0 fr H (.call ⟨.value fo, xs.toArray, ts⟩) φ rv (fun x => o1 x :: H) := og_callF hf hx hc
theorem og_callF2 {o1 o2 : X → Ch} (hf : opv fr fo = some (.func (.func f) #[] caps.toArray)) (hx : opvs fr xs = some vs) (hc : ∀ w, HeapOk w0 w H → Fn P f (vs ++ caps) w φ rv (fun x => [o1 x, o2 x])) :
    OpG P n w0 fr H (.call ⟨.value fo, xs.toArray, ts⟩) φ rv (fun x => o1 x :: o2 x :: H) := og_callF hf hx hc
theorem og_callF3 {o1 o2 o3 : X → Ch} (hf : opv fr fo = some (.func (.func f) #[] caps.toArray)) (hx : opvs fr xs = some vs) (hc : ∀ w, HeapOk w0 w H → Fn P f (vs ++ caps) w φ rv (fun x => [o1 x, o2 x, o3 x])) :
    OpG P n w0 fr H (.call ⟨.value fo, xs.toArray, ts⟩) φ rv (fun x => o1 x :: o2 x :: o3 x :: H) := og_callF hf hx hc
theorem og_callF0 (hf : opv fr fo = some (.func (.func f) #[] caps.toArray)) (hx : opvs fr xs = some vs) (hc : ∀ w, HeapOk w0 w H → Fn P f (vs ++ caps) w φ rv (fun _ => [])) :
    OpG P n w0 fr H (.call ⟨.value fo, xs.toArray, ts⟩) φ rv (fun _ => H) := og_callF hf hx hc
end
/-! ### Several results -/
inductive ResV (P : Program) (fr : Fr) (H : List Ch) : ResultVar → Value → Prop where
  | tmp {t : Nat} {v : Value} (h : fget fr t = some v) : ResV P fr H (.tmp t) v
  | cell {t : Nat} {T : TypeId} {s bs : Nat} {zs : List Value} [hT : TyAgg P T] [hI : TyInfo P T s zs bs] {b : Nat} (i : Nat) {t' : TypeId} {us : List Value} (hv : fget fr t = some (pB b 0)) (hi : H[i]? = some (.blk b t' us)) (hl : Nat.beq us.length s = true) : ResV P fr H (.cell t T) (.agg us.toArray)
inductive ResL (P : Program) (fr : Fr) (H : List Ch) : List ResultVar → List Value → Prop where
  | nil : ResL P fr H [] []
  | cons {r : ResultVar} {v : Value} {rs : List ResultVar} {vs : List Value} (h : ResV P fr H r v) (hs : ResL P fr H rs vs) : ResL P fr H (r :: rs) (v :: vs)
def resRun (tmps : Array Value) : ResultVar → Sem Value
  | .tmp t => pure (tmps.getD t undef)
  | .cell a t => do loadVar t (← asAddr (tmps.getD a undef))
theorem ResV.run {r : ResultVar} {v : Value} (h : ResV P fr H r v) {a : Act} (hr : Rep n a fr) {w : World} (hh : HeapOk w0 w H) : (resRun a.tmps r).run P w = .ok v w := by
  cases h with
  | tmp h => simp only [resRun, hr.val _ _ h, Sem.run_pure]
  | @cell t T s bs zs hT hI b i t' us hv hi hl =>
    have hp := hr.val t _ hv
    have := run_loadAgg (P := P) hT hI (w := w) (b := b) (o := 0) (Nat.eq_of_beq_eq_true hl) (fun j u hj => by rw [hh.blk (List.mem_of_getElem? hi)]; simpa using hj)
    simp only [Instr.loadAt, Instr.sureAddr, Sem.run_bind, Sem.run_pure, Result.andThen_ok] at this
    simp only [resRun, hp, pB, asAddr, Sem.run_bind, Sem.run_pure, Result.andThen_ok, this]
theorem ResL.run {rs : List ResultVar} {vs : List Value} (h : ResL P fr H rs vs) {a : Act} (hr : Rep n a fr) {w : World} (hh : HeapOk w0 w H) : (rs.mapM (resRun a.tmps)).run P w = .ok vs w := by
  induction h with
  | nil => rfl
  | cons h hs ih => simp only [List.mapM_cons, Sem.run_bind, h.run hr hh, Result.andThen_ok, ih, Sem.run_pure]
theorem results_all {fn : Func} {rs : List ResultVar} {v1 v2 : Value} {vs : List Value} (hres : fn.results = rs.toArray) (h : ResL P fr H rs (v1 :: v2 :: vs)) {a : Act} (hr : Rep n a fr) {w : World} (hh : HeapOk w0 w H) :
    (results fn a.tmps).run P w = .ok (.tuple (v1 :: v2 :: vs).toArray) w := by
  have := h.run hr hh
  have e : (fn.results.mapM (resRun a.tmps) : Sem (Array Value)).run P w = .ok (v1 :: v2 :: vs).toArray w := by
    rw [hres, Array.mapM_eq_mapM_toList, Sem.run_map, this]; rfl
  have e2 : (results fn a.tmps : Sem Value) = (do let vs ← fn.results.mapM (resRun a.tmps); pure (if h : vs.size = 1 then vs[0] else .tuple vs)) := by
    unfold results; congr 1
  rw [e2, Sem.run_bind, e, Result.andThen_ok]
  simp
theorem G.retL {fn : Func} {rs : List ResultVar} {v1 v2 : Value} {vs : List Value} {X : Type} {φ : X → Prop} {rv : X → Value} {nw : X → List Ch} (x : X) (hφ : φ x) (hres : fn.results = rs.toArray) (hv : ResL P fr H rs (v1 :: v2 :: vs)) (he : Value.tuple (v1 :: v2 :: vs).toArray = rv x) (hH : ∀ w, HeapOk w0 w H → HeapOk w0 w (nw x)) :
    G n w0 fr H (bodyPost P fn (fun e w' => ∃ x, φ x ∧ e = .returned (rv x) ∧ HeapOk w0 w' (nw x)) .ret) :=
  fun _ w hr hh => ⟨hr.defs, _, results_all hres hv hr hh, x, hφ, by rw [he], hH w hh⟩
theorem G.retVL {fn : Func} {rs : List ResultVar} {v1 v2 : Value} {vs : List Value} {v : Value} (hres : fn.results = rs.toArray) (hv : ResL P fr H rs (v1 :: v2 :: vs)) (he : Value.tuple (v1 :: v2 :: vs).toArray = v) :
    G n w0 fr H (bodyPost P fn (fun e w' => e = .returned v ∧ HeapOk w0 w' []) .ret) :=
  fun _ _ hr hh => ⟨hr.defs, _, results_all hres hv hr hh, by rw [he], hh.none⟩
/-- The end of a function that turns chunks and returns nothing. -/
theorem G.retF0 {fn : Func} {X : Type} {φ : X → Prop} {rv : X → Value} {nw : X → List Ch} (x : X) (hφ : φ x) (hres : fn.results = #[]) (he : Value.tuple #[] = rv x) (hH : ∀ w, HeapOk w0 w H → HeapOk w0 w (nw x)) :
    G n w0 fr H (bodyPost P fn (fun e w' => ∃ x, φ x ∧ e = .returned (rv x) ∧ HeapOk w0 w' (nw x)) .ret) := G.retV0 hres fun w h => ⟨x, hφ, by rw [he], hH w h⟩
theorem G.endF0 {fn : Func} {X : Type} {φ : X → Prop} {rv : X → Value} {nw : X → List Ch} (x : X) (hφ : φ x) (hres : fn.results = #[]) (he : Value.tuple #[] = rv x) (hH : ∀ w, HeapOk w0 w H → HeapOk w0 w (nw x)) :
    G n w0 fr H (bodyPost P fn (fun e w' => ∃ x, φ x ∧ e = .returned (rv x) ∧ HeapOk w0 w' (nw x)) .normal) := G.endV0 hres fun w h => ⟨x, hφ, by rw [he], hH w h⟩
end
end Go.Proofs.YtpmphkcibiimcaaGreat
