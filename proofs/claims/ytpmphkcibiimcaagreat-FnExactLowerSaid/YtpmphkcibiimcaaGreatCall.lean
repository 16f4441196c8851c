/-
  Calls of functions, stores into rows, and the frame of a contract, in the logic of chunks.
-/
import Derived.Test.YtpmphkcibiimcaaGreatOwn
namespace Go.Proofs.YtpmphkcibiimcaaGreat
open Go.RowKit

/-! ### Choosing chunks -/
def pickL : List Ch → List Nat → Option (List Ch)
  | _, [] => some []
  | H, i :: is => match H[i]? with
    | some c => match pickL (H.eraseIdx i) is with
      | some r => some (c :: r)
      | none => none
    | none => none

theorem pickL_perm : ∀ {is : List Nat} {H r : List Ch}, pickL H is = some r → ∃ K, H.Perm (r ++ K)
  | [], H, r, h => by
    simp only [pickL, Option.some.injEq] at h
    subst h
    exact ⟨H, List.Perm.refl _⟩
  | i :: is, H, r, h => by
    simp only [pickL] at h
    split at h
    · rename_i c hc
      split at h
      · rename_i r' hr
        simp only [Option.some.injEq] at h
        subst h
        obtain ⟨K, hK⟩ := pickL_perm hr
        exact ⟨K, (front_perm hc).symm.trans (hK.cons c)⟩
      · cases h
    · cases h

theorem HeapOk.pick {w0 w : World} {H r : List Ch} (is : List Nat) (e : pickL H is = some r) (h : HeapOk w0 w H) : HeapOk w0 w r := by
  obtain ⟨K, hK⟩ := pickL_perm e
  exact (h.perm hK).sublist (List.sublist_append_left r K)

theorem HeapOk.none {w0 w : World} {H : List Ch} (h : HeapOk w0 w H) : HeapOk w0 w [] := h.sublist (List.nil_sublist _)

/-! ### Contracts -/
/-- A call gives one value, and leaves nothing behind that is spoken of. -/
def FnV (P : Program) (f : FuncId) (vs : List Value) (w : World) (v : Value) : Prop := Calls P f vs.toArray w fun e w' => e = .returned v ∧ HeapOk w w' []
/-- A call gives a value that hangs on what it makes. -/
def Fn (P : Program) (f : FuncId) (vs : List Value) (w : World) {X : Type} (φ : X → Prop) (rv : X → Value) (nw : X → List Ch) : Prop := Calls P f vs.toArray w fun e w' => ∃ x, φ x ∧ e = .returned (rv x) ∧ HeapOk w w' (nw x)
/-- A call that turns chunks: whatever else there is stays. -/
def FnM (P : Program) (f : FuncId) (vs : List Value) (w0 : World) (cin : List Ch) {X : Type} (φ : X → Prop) (rv : X → Value) (out : X → List Ch) : Prop :=
  ∀ (w : World) (F : List Ch), HeapOk w0 w (cin ++ F) → Calls P f vs.toArray w fun e w' => ∃ x, φ x ∧ e = .returned (rv x) ∧ HeapOk w0 w' (out x ++ F)

theorem FnV.mono {P : Program} {f : FuncId} {vs : List Value} {w : World} {v v' : Value} (h : FnV P f vs w v) (e : v = v') : FnV P f vs w v' := e ▸ h

class FnOk (P : Program) (f : FuncId) : Prop where
  h : (P.funcs[f]?).map (fun fn => (fn.name == "runtime.NumGoroutine", fn.body.isNone)) = some (false, false)

def argFr : Nat → List Value → Fr
  | _, [] => []
  | k, v :: r => (k, v) :: argFr (k + 1) r

theorem argFr_get : ∀ {vs : List Value} {k t : Nat} {v : Value}, fget (argFr k vs) t = some v → k ≤ t ∧ vs[t - k]? = some v
  | u :: r, k, t, v, h => by
    simp only [argFr] at h
    rw [fget_cons] at h
    split at h
    · rename_i e; subst e
      simp only [Option.some.injEq] at h
      subst h
      simp
    · have := argFr_get h
      refine ⟨by omega, ?_⟩
      rw [show t - k = (t - (k + 1)) + 1 from by omega]
      simpa using this.2

theorem calls_begin {P : Program} {f : FuncId} {fn : Func} {c : Code} {vs : List Value} {w0 w : World} {R : Ending → World → Prop} {H : List Ch} {n : Nat}
    (hf : P.funcs[f]? = some fn) (hb : fn.body = some c) (hn : Nat.beq (vs.length + (fn.ntmps - vs.length)) n = true) (hh : HeapOk w0 w H)
    (h : G n w0 (argFr 0 vs) H (c.wp P (bodyPost P fn R))) : Calls P f vs.toArray w R :=
  calls_of_G hf hb (Nat.eq_of_beq_eq_true hn).symm hh (fun t v hv => by simpa using (argFr_get hv).2) h

theorem FnV.of {P : Program} {f : FuncId} {fn : Func} {c : Code} {vs : List Value} {w : World} {v : Value} {n : Nat}
    (hf : P.funcs[f]? = some fn) (hb : fn.body = some c) (hn : Nat.beq (vs.length + (fn.ntmps - vs.length)) n = true)
    (h : G n w (argFr 0 vs) [] (c.wp P (bodyPost P fn fun e w' => e = .returned v ∧ HeapOk w w' []))) : FnV P f vs w v := calls_begin hf hb hn (HeapOk.refl w) h
theorem Fn.of {P : Program} {f : FuncId} {fn : Func} {c : Code} {vs : List Value} {w : World} {X : Type} {φ : X → Prop} {rv : X → Value} {nw : X → List Ch} {n : Nat}
    (hf : P.funcs[f]? = some fn) (hb : fn.body = some c) (hn : Nat.beq (vs.length + (fn.ntmps - vs.length)) n = true)
    (h : G n w (argFr 0 vs) [] (c.wp P (bodyPost P fn fun e w' => ∃ x, φ x ∧ e = .returned (rv x) ∧ HeapOk w w' (nw x)))) : Fn P f vs w φ rv nw := calls_begin hf hb hn (HeapOk.refl w) h
theorem FnM.of {P : Program} {f : FuncId} {fn : Func} {c : Code} {vs : List Value} {w0 : World} {cin : List Ch} {X : Type} {φ : X → Prop} {rv : X → Value} {out : X → List Ch} {n : Nat}
    (hf : P.funcs[f]? = some fn) (hb : fn.body = some c) (hn : Nat.beq (vs.length + (fn.ntmps - vs.length)) n = true)
    (h : ∀ F, G n w0 (argFr 0 vs) (cin ++ F) (c.wp P (bodyPost P fn fun e w' => ∃ x, φ x ∧ e = .returned (rv x) ∧ HeapOk w0 w' (out x ++ F)))) : FnM P f vs w0 cin φ rv out :=
  fun _ F hh => calls_begin hf hb hn hh (h F)

section
variable {P : Program} {n : Nat} {w0 : World} {fr : Fr} {H : List Ch} {Q : Exit → Act → World → Prop}

/-- The end of a function that returns one value. -/
theorem G.retFV {fn : Func} {t : Nat} {v v' : Value} (hres : fn.results = #[.tmp t]) (hv : fget fr t = some v') (he : v' = v) : G n w0 fr H (bodyPost P fn (fun e w' => e = .returned v ∧ HeapOk w0 w' []) .ret) :=
  G.retV hres hv fun w h => ⟨by rw [he], h.none⟩
theorem G.retF {fn : Func} {t : Nat} {v' : Value} {X : Type} {φ : X → Prop} {rv : X → Value} {nw : X → List Ch} (x : X) (hφ : φ x) (hres : fn.results = #[.tmp t]) (hv : fget fr t = some v') (he : v' = rv x) (hH : ∀ w, HeapOk w0 w H → HeapOk w0 w (nw x)) :
    G n w0 fr H (bodyPost P fn (fun e w' => ∃ x, φ x ∧ e = .returned (rv x) ∧ HeapOk w0 w' (nw x)) .ret) :=
  G.retV hres hv fun w h => ⟨x, hφ, by rw [he], hH w h⟩
theorem G.retF2 {fn : Func} {t t' : Nat} {v u : Value} {X : Type} {φ : X → Prop} {rv : X → Value} {nw : X → List Ch} (x : X) (hφ : φ x) (hres : fn.results = #[.tmp t, .tmp t']) (hv : fget fr t = some v) (hu : fget fr t' = some u) (he : Value.tuple #[v, u] = rv x) (hH : ∀ w, HeapOk w0 w H → HeapOk w0 w (nw x)) :
    G n w0 fr H (bodyPost P fn (fun e w' => ∃ x, φ x ∧ e = .returned (rv x) ∧ HeapOk w0 w' (nw x)) .ret) :=
  G.retV2 hres hv hu fun w h => ⟨x, hφ, by rw [he], hH w h⟩
/-- A struct result lies in a block of its own. -/
theorem results_cell {fn : Func} {t : Nat} {T : TypeId} {s bs : Nat} {zs : List Value} (hT : TyAgg P T) (hI : TyInfo P T s zs bs) (hres : fn.results = #[.cell t T]) {a : Act} (hr : Rep n a fr) {b : Nat} (hv : fget fr t = some (pB b 0)) {i : Nat} {t' : TypeId} {us : List Value} (hi : H[i]? = some (.blk b t' us)) (hl : us.length = s) {w : World} (hh : HeapOk w0 w H) :
    (results fn a.tmps).run P w = .ok (.agg us.toArray) w := by
  have hp := hr.val t _ hv
  rw [Array.getD_eq_getD_getElem?] at hp
  have := run_loadAgg (P := P) hT hI (w := w) (b := b) (o := 0) hl (fun j u hj => by rw [hh.blk (List.mem_of_getElem? hi)]; simpa using hj)
  simp only [Instr.loadAt, Instr.sureAddr, Sem.run_bind, Sem.run_pure, Result.andThen_ok] at this
  simp [results, hres, hp, pB, asAddr, this]
theorem G.retFVc {fn : Func} {t : Nat} {T : TypeId} {s bs : Nat} {zs : List Value} [hT : TyAgg P T] [hI : TyInfo P T s zs bs] {v : Value} {b : Nat} (i : Nat) {t' : TypeId} {us : List Value} (hres : fn.results = #[.cell t T]) (hv : fget fr t = some (pB b 0)) (hi : H[i]? = some (.blk b t' us)) (hl : Nat.beq us.length s = true) (he : Value.agg us.toArray = v) :
    G n w0 fr H (bodyPost P fn (fun e w' => e = .returned v ∧ HeapOk w0 w' []) .ret) :=
  fun _ _ hr hh => ⟨hr.defs, _, results_cell hT hI hres hr hv hi (Nat.eq_of_beq_eq_true hl) hh, by rw [he], hh.none⟩
theorem G.retFc {fn : Func} {t : Nat} {T : TypeId} {s bs : Nat} {zs : List Value} [hT : TyAgg P T] [hI : TyInfo P T s zs bs] {X : Type} {φ : X → Prop} {rv : X → Value} {nw : X → List Ch} (x : X) (hφ : φ x) {b : Nat} (i : Nat) {t' : TypeId} {us : List Value} (hres : fn.results = #[.cell t T]) (hv : fget fr t = some (pB b 0)) (hi : H[i]? = some (.blk b t' us)) (hl : Nat.beq us.length s = true) (he : Value.agg us.toArray = rv x) (hH : ∀ w, HeapOk w0 w H → HeapOk w0 w (nw x)) :
    G n w0 fr H (bodyPost P fn (fun e w' => ∃ x, φ x ∧ e = .returned (rv x) ∧ HeapOk w0 w' (nw x)) .ret) :=
  fun _ w hr hh => ⟨hr.defs, _, results_cell hT hI hres hr hv hi (Nat.eq_of_beq_eq_true hl) hh, x, hφ, by rw [he], hH w hh⟩

/-! ### The call itself -/
theorem run_callFunc {f : FuncId} [hF : FnOk P f] (args : Array Value) (w : World) : (callFunc f args).run P w = .ok (.enter f args) w := by
  have := hF.h
  cases hf : P.funcs[f]? with
  | none => simp [hf] at this
  | some fn =>
    simp only [hf, Option.map_some, Option.some.injEq, Prod.mk.injEq] at this
    have h1 : ¬ fn.name = "runtime.NumGoroutine" := by simpa using this.1
    have h2 : ¬ fn.body = none := fun h => by simp [h] at this
    simp [callFunc, hf, h1, h2]

theorem run_call {f : FuncId} [hF : FnOk P f] {d : Option Tmp} {fo : Operand} {xs : List Operand} {vs caps : List Value} {ts : Array TypeId} {T : TypeId} {pos : String} {af : Array Edge} {gd : Option (Nat × Bool)} {a : Act} {w : World} (hr : Rep n a fr) (hf : opv fr fo = some (.func (.func f) #[] caps.toArray)) (hx : opvs fr xs = some vs) :
    (execOp a.eval ⟨d, .call ⟨.value fo, xs.toArray, ts⟩, T, pos, af, gd⟩).run P w = .ok (.enter f (vs ++ caps).toArray) w := by
  have := hr.opvs hx
  simp [execOp, resolve, hr.opv hf, Deferred.ofValue, invoke, run_callFunc, this]

section
variable {f : FuncId} [hF : FnOk P f] {fo : Operand} {xs : List Operand} {vs caps : List Value} {ts : Array TypeId}
theorem og_callV {v : Value} (hf : opv fr fo = some (.func (.func f) #[] caps.toArray)) (hx : opvs fr xs = some vs) (hc : ∀ w, HeapOk w0 w H → FnV P f (vs ++ caps) w v) :
    OpG P n w0 fr H (.call ⟨.value fo, xs.toArray, ts⟩) Triv (fun _ : Unit => v) (fun _ => H) :=
  fun a w hr hh d T pos af gd K hK => by
    unfold okAt; rw [run_call hr hf hx]
    exact Calls.mono (hc w hh) fun e w' ⟨he, hw⟩ => ⟨v, he, hK () _ trivial (by simpa using hh.call hw)⟩
theorem og_callF {X : Type} {φ : X → Prop} {rv : X → Value} {nw : X → List Ch} (hf : opv fr fo = some (.func (.func f) #[] caps.toArray)) (hx : opvs fr xs = some vs) (hc : ∀ w, HeapOk w0 w H → Fn P f (vs ++ caps) w φ rv nw) :
    OpG P n w0 fr H (.call ⟨.value fo, xs.toArray, ts⟩) φ rv (fun x => nw x ++ H) :=
  fun a w hr hh d T pos af gd K hK => by
    unfold okAt; rw [run_call hr hf hx]
    exact Calls.mono (hc w hh) fun e w' ⟨x, hφ, he, hw⟩ => ⟨_, he, hK x _ hφ (hh.call hw)⟩
theorem og_callM {X : Type} {φ : X → Prop} {rv : X → Value} {cin F : List Ch} {out : X → List Ch} (hf : opv fr fo = some (.func (.func f) #[] caps.toArray)) (hx : opvs fr xs = some vs) (hc : FnM P f (vs ++ caps) w0 cin φ rv out) (hp : H.Perm (cin ++ F)) :
    OpG P n w0 fr H (.call ⟨.value fo, xs.toArray, ts⟩) φ rv (fun x => out x ++ F) :=
  fun a w hr hh d T pos af gd K hK => by
    unfold okAt; rw [run_call hr hf hx]
    exact Calls.mono (hc w F (hh.perm hp)) fun e w' ⟨x, hφ, he, hw⟩ => ⟨_, he, hK x _ hφ hw⟩
end

/-! ### A store into a row -/
theorem flatten_set {s : Nat} : ∀ {es : List (List Value)} {k : Nat} {e e' : List Value}, (∀ e ∈ es, e.length = s) → es[k]? = some e → e'.length = s →
    (es.set k e').flatten = es.flatten.take (k * s) ++ e' ++ es.flatten.drop (k * s + s)
  | [], k, e, e', _, hk, _ => by simp at hk
  | x :: xs, 0, e, e', hl, hk, he => by
    have hx := hl x (List.mem_cons_self)
    simp only [List.set_cons_zero, List.flatten_cons, Nat.zero_mul, List.take_zero, List.nil_append, Nat.zero_add]
    rw [← hx, List.drop_left]
  | x :: xs, k + 1, e, e', hl, hk, he => by
    have hx := hl x (List.mem_cons_self)
    simp only [List.getElem?_cons_succ] at hk
    have ih := flatten_set (fun e he => hl e (List.mem_cons_of_mem _ he)) hk he
    simp only [List.set_cons_succ, List.flatten_cons, ih]
    rw [show (k + 1) * s = x.length + k * s from by rw [hx, Nat.succ_mul]; omega, List.take_length_add_append]
    rw [show x.length + k * s + s = x.length + (k * s + s) from by omega, List.drop_length_add_append]
    simp

theorem splice_seg (l : List Value) (p c : Nat) (us : List Value) (s : Nat) (e : List Value) (hp : p + s ≤ l.length) (hc : c + us.length ≤ s) (he : e = (l.drop p).take s) :
    l.take (p + c) ++ us ++ l.drop (p + c + us.length) = l.take p ++ (e.take c ++ us ++ e.drop (c + us.length)) ++ l.drop (p + s) := by
  subst he
  have h1 : l.take (p + c) = l.take p ++ ((l.drop p).take s).take c := by
    rw [List.take_take, Nat.min_eq_left (by omega), List.take_add]
  have h2 : l.drop (p + c + us.length) = ((l.drop p).take s).drop (c + us.length) ++ l.drop (p + s) := by
    rw [List.drop_take, List.drop_drop]
    have : l.drop (p + s) = (l.drop (p + (c + us.length))).drop (s - (c + us.length)) := by
      rw [List.drop_drop]; congr 1; omega
    rw [this, List.take_append_drop]; congr 1; omega
  rw [h1, h2]; simp

theorem flatten_elem {s : Nat} : ∀ {es : List (List Value)} {k : Nat} {e : List Value}, (∀ e ∈ es, e.length = s) → es[k]? = some e → e = (es.flatten.drop (k * s)).take s
  | [], k, e, _, hk => by simp at hk
  | x :: xs, 0, e, hl, hk => by
    have hx := hl x (List.mem_cons_self)
    simp only [List.getElem?_cons_zero, Option.some.injEq] at hk
    subst hk
    simp only [Nat.zero_mul, List.drop_zero, List.flatten_cons]
    rw [← hx, List.take_left]
  | x :: xs, k + 1, e, hl, hk => by
    have hx := hl x (List.mem_cons_self)
    simp only [List.getElem?_cons_succ] at hk
    have ih := flatten_elem (fun e he => hl e (List.mem_cons_of_mem _ he)) hk
    rw [List.flatten_cons, show (k + 1) * s = x.length + k * s from by rw [hx, Nat.succ_mul]; omega, List.drop_length_add_append]
    exact ih

theorem og_storeE {x y : Operand} {t : TypeId} {z bs : Nat} {zs : List Value} [hI : TyInfo P t z zs bs] {v : Value} {s k c : Nat} (i : Nat) {t' : TypeId} {es : List (List Value)} {e us e' : List Value} {u : Value}
    (hx : opv fr x = some (pE v s k c)) (hy : opv fr y = some u) (hi : H[i]? = some (.row v t' s es)) (hk : es[k]? = some e) (hu : u.cells = us.toArray) (hl : Nat.beq us.length z = true) (h1 : us.all Value.oneCell' = true) (hc : Nat.ble (c + us.length) s = true)
    (he : e.take c ++ us ++ e.drop (c + us.length) = e') : OpG P n w0 fr H (.store t x y) Triv (fun _ : Unit => undef) (fun _ => H.set i (.row v t' s (es.set k e'))) :=
  fun a w hr hh d T pos af gd K hK => by
    have hf := hh.front hi
    obtain ⟨hrow, hgood⟩ := hf.ok _ (List.mem_cons_self)
    have hlen := fun e he => (hgood e he).1
    have hkl : k < es.length := by
      rcases Nat.lt_or_ge k es.length with h | h
      · exact h
      · rw [List.getElem?_eq_none h] at hk; cases hk
    have hcs := Nat.le_of_ble_eq_true hc
    have hel : e.length = s := hlen e (List.mem_of_getElem? hk)
    have hfl := flatten_len hlen
    have hks : k * s + s ≤ es.length * s := by
      have : (k + 1) * s ≤ es.length * s := Nat.mul_le_mul_right s hkl
      rwa [Nat.succ_mul] at this
    rcases hrow.2 with ⟨rfl, hn⟩ | ⟨g, cap, cur, rfl, hB, hg, hle, hcm, hsz, htk⟩
    · omega
    · have hcap : es.length * s ≤ cap * s := Nat.mul_le_mul_right s hle
      obtain ⟨ii, zz, g1, g2, g3, g4, g5⟩ := hI.get
      have hl' := Nat.eq_of_beq_eq_true hl
      have hst := run_storeCells_at P g (k * s + c) t' us 0 cur w hg (by omega) (by simpa using h1)
      simp only [Nat.add_zero] at hst
      have hrun : (execOp a.eval ⟨d, .store t x y, T, pos, af, gd⟩).run P w = .ok .skip (w.setRow g (cur.toList.take (k * s + c) ++ us ++ cur.toList.drop (k * s + c + us.length)).toArray) := by
        have hz : (Instr.storeAt t (.pointer (some ⟨g, k * s + c, none⟩)) u).run P w = .ok () (w.setRow g (cur.toList.take (k * s + c) ++ us ++ cur.toList.drop (k * s + c + us.length)).toArray) := by
          subst hl'
          simp [Instr.storeAt, Instr.sureAddr, storeVar, sizeOf, typeInfo, g1, g2, hu, hst]
        have hpe : pE (.slice (some ⟨g, 0, none⟩) es.length cap) s k c = .pointer (some ⟨g, k * s + c, none⟩) := by simp [pE, blkOf, offOf]
        rw [hpe] at hx
        simp only [execOp, hr.opv hx, hr.opv hy, Sem.run_bind, hz, Result.andThen_ok, Sem.run_pure]
      unfold okAt; rw [hrun]
      have hel2 : e = (cur.toList.drop (k * s)).take s := by
        have := flatten_elem hlen hk
        rw [this, ← htk, List.drop_take, List.take_take]
        congr 1; omega
      have hsplice := splice_seg cur.toList (k * s) c us s e (by rw [Array.length_toList, hsz]; omega) hcs hel2
      rw [he] at hsplice
      have he'l : e'.length = s := by
        rw [← he]; simp only [List.length_append, List.length_take, List.length_drop]; omega
      refine hK () _ trivial (HeapOk.perm ?_ (perm_set hi))
      have hnewlen : (cur.toList.take (k * s + c) ++ us ++ cur.toList.drop (k * s + c + us.length)).length = cur.size := by
        simp only [List.length_append, List.length_take, List.length_drop, Array.length_toList]; omega
      refine ⟨hf.below.trans ⟨rfl, rfl, rfl, by simp, fun q hq => setRow_other w g q _ (by omega)⟩, fun d hd => ?_, ?_⟩
      · rcases List.mem_cons.1 hd with rfl | hd
        · refine ⟨⟨?_, .inr ⟨g, cap, _, by simp, hB, setRow_heap w g cur _ t' _ hg, by simpa using hle, hcm, by rw [List.size_toArray, hnewlen, hsz], ?_⟩⟩, fun e0 he0 => ?_⟩
          · rw [flatten_set hlen hk he'l, List.length_append, List.length_append, List.length_take, List.length_drop, hfl, he'l, List.length_set]; omega
          · simp only [List.length_set, List.toList_toArray]
            rw [hsplice, flatten_set hlen hk he'l, ← htk, List.drop_take]
            rw [List.take_append, List.take_append]
            simp only [List.length_append, List.length_take, Array.length_toList, he'l]
            have m1 : min (k * s) cur.size = k * s := by omega
            rw [m1, List.take_take, List.take_take]
            have m2 : min (es.length * s) (k * s) = k * s := by omega
            have m3 : min (k * s) (es.length * s) = k * s := by omega
            rw [m2, m3, List.take_of_length_le (l := e') (by omega)]
          · rcases List.mem_or_eq_of_mem_set he0 with he0 | rfl
            · exact hgood e0 he0
            · refine ⟨he'l, fun q hq => ?_⟩
              rw [← he] at hq
              have hge := (hgood e (List.mem_of_getElem? hk)).2
              rcases List.mem_append.1 hq with hq | hq
              · rcases List.mem_append.1 hq with hq | hq
                · exact hge q (List.mem_of_mem_take hq)
                · exact List.all_eq_true.1 h1 q hq
              · exact hge q (List.mem_of_mem_drop hq)
        · have hd' := hf.ok d (List.mem_cons_of_mem _ hd)
          refine Ch.ok_of hd' fun q hq => setRow_other w g q _ ?_
          have := (List.pairwise_cons.1 hf.ap).1 d hd g rfl
          rintro rfl
          exact this hq
      · have := List.pairwise_cons.1 hf.ap
        exact List.pairwise_cons.2 ⟨fun d hd q hq => this.1 d hd q hq, this.2⟩

end
end Go.Proofs.YtpmphkcibiimcaaGreat
