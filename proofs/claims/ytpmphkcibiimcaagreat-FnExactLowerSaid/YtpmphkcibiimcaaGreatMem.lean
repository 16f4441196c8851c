/-
  The operations that read or make memory, in the logic of chunks.
-/
import Derived.Test.YtpmphkcibiimcaaGreatCore
namespace Go.Proofs.YtpmphkcibiimcaaGreat
open Go.RowKit

/-! ### What is known of the types -/
def aggB : TypeDesc → Bool
  | .struct _ | .array _ _ => true
  | _ => false
class TyInfo (P : Program) (t : TypeId) (s : outParam Nat) (zs : outParam (List Value)) (bs : outParam Nat) : Prop where
  h : (P.info? t).map (fun i => (i.zero.map (·.cells.toList), i.size, i.bytes)) = some (some zs, s, bs)
class TyOne (P : Program) (t : TypeId) : Prop where
  h : (P.underlying t).map aggB = some false
class TyInt (P : Program) (t : TypeId) (k : outParam IntKind) : Prop where
  h : P.underlying t = some (.int k)
  g : P.intKind t = k
class TyAgg (P : Program) (t : TypeId) : Prop where
  h : (P.underlying t).map aggB = some true
class TySlice (P : Program) (t : TypeId) (e : outParam TypeId) : Prop where
  h : P.underlying t = some (.slice e)
def fldOff (P : Program) (t : TypeId) (f : Nat) : Option Nat :=
  match P.underlying t with
  | some (.struct fs) => match fs[f]? with
    | some fd => match P.info? fd.type with
      | some i => if i.size = 0 then none else some fd.offset
      | none => none
    | none => none
  | _ => none
class TyFld (P : Program) (t : TypeId) (f : Nat) (off : outParam Nat) : Prop where
  h : fldOff P t f = some off

class TyBool (P : Program) (t : TypeId) : Prop where
  h : P.underlying t = some .bool

theorem TyInfo.get {P : Program} {t : TypeId} {s bs : Nat} {zs : List Value} (h : TyInfo P t s zs bs) : ∃ i z, P.info? t = some i ∧ i.size = s ∧ i.bytes = bs ∧ i.zero = some z ∧ z.cells = zs.toArray := by
  have := h.h
  cases hi : P.info? t with
  | none => simp [hi] at this
  | some i =>
    simp only [hi, Option.map_some, Option.some.injEq, Prod.mk.injEq] at this
    obtain ⟨h1, h2, h3⟩ := this
    cases hz : i.zero with
    | none => simp [hz] at h1
    | some z =>
      simp only [hz, Option.map_some, Option.some.injEq] at h1
      exact ⟨i, z, rfl, h2, h3, hz, by rw [← h1]⟩

section
variable {P : Program} {n : Nat} {w0 : World} {fr : Fr} {H : List Ch} {Q : Exit → Act → World → Prop}

theorem run_isAgg_one {t : TypeId} (h : (P.underlying t).map aggB = some false) (w : World) : (isAgg t).run P w = .ok false w := by
  cases hu : P.underlying t with
  | none => simp [hu] at h
  | some d =>
    simp only [hu, Option.map_some, Option.some.injEq] at h
    simp only [isAgg, Sem.run_bind, run_underlying hu, Result.andThen_ok]
    cases d <;> first | rfl | (simp [aggB] at h)
theorem run_isAgg_agg {t : TypeId} (h : (P.underlying t).map aggB = some true) (w : World) : (isAgg t).run P w = .ok true w := by
  cases hu : P.underlying t with
  | none => simp [hu] at h
  | some d =>
    simp only [hu, Option.map_some, Option.some.injEq] at h
    simp only [isAgg, Sem.run_bind, run_underlying hu, Result.andThen_ok]
    cases d <;> first | rfl | (simp [aggB] at h)

theorem run_loadOne {t : TypeId} (h : TyOne P t) {w : World} {p : Addr} {v : Value} (hc : w.cell? p = some v) : (Instr.loadAt t (.pointer (some p))).run P w = .ok v w := by
  simp [Instr.loadAt, Instr.sureAddr, loadVar, run_isAgg_one h.h, hc]
theorem run_loadAgg {t : TypeId} {s bs : Nat} {zs : List Value} (h : TyAgg P t) (hi : TyInfo P t s zs bs) {w : World} {b o : Nat} {us : List Value} (hl : us.length = s) (hc : ∀ j u, us[j]? = some u → w.cell? ⟨b, o + j, none⟩ = some u) :
    (Instr.loadAt t (.pointer (some ⟨b, o, none⟩))).run P w = .ok (.agg us.toArray) w := by
  obtain ⟨i, z, h1, h2, h3, h4, h5⟩ := hi.get
  have hL := run_loadCells_list (P := P) w ⟨b, o, none⟩ us (fun j v hj => by rw [Addr.add_lit]; exact hc j v hj)
  subst hl
  simp [Instr.loadAt, Instr.sureAddr, loadVar, run_isAgg_agg h.h, sizeOf, typeInfo, h1, h2, hL]

theorem HeapOk.blk {w w0 : World} {H : List Ch} {b : Nat} {t : TypeId} {cs : List Value} (h : HeapOk w0 w H) (hm : Ch.blk b t cs ∈ H) (o : Nat) : w.cell? ⟨b, o, none⟩ = cs[o]? := by
  have := (h.ok _ hm).2
  simp [World.cell?, this]

/-- A cell of a block that is known. -/
theorem rv_load1 {x : Operand} {t : TypeId} [hT : TyOne P t] {b o : Nat} {v : Value} (i : Nat) {t' : TypeId} {cs : List Value} (hx : opv fr x = some (pB b o)) (hi : H[i]? = some (.blk b t' cs)) (hv : cs[o]? = some v) :
    RunsV P n w0 fr H (.load t x) v := fun a w hr hh _ _ _ _ _ => by
  have hc := hh.blk (List.mem_of_getElem? hi) o
  simp only [execOp, hr.opv hx, pB, Sem.run_bind, run_loadOne hT (hc.trans hv), Result.andThen_ok, Sem.run_pure]
/-- A struct within a block that is known. -/
theorem rv_loadS {x : Operand} {t : TypeId} {s bs : Nat} {zs : List Value} [hT : TyAgg P t] [hI : TyInfo P t s zs bs] {b o : Nat} (i : Nat) {t' : TypeId} {cs us : List Value} (hx : opv fr x = some (pB b o)) (hi : H[i]? = some (.blk b t' cs))
    (hu : (cs.drop o).take s = us) (hl : Nat.beq us.length s = true) : RunsV P n w0 fr H (.load t x) (.agg us.toArray) := fun a w hr hh _ _ _ _ _ => by
  have hl' := Nat.eq_of_beq_eq_true hl
  have := run_loadAgg hT hI (w := w) (b := b) (o := o) hl' (fun j u hj => by
    rw [hh.blk (List.mem_of_getElem? hi)]
    rw [← hu, List.getElem?_take] at hj
    split at hj
    · rw [List.getElem?_drop] at hj; exact hj
    · cases hj)
  simp only [execOp, hr.opv hx, pB, Sem.run_bind, this, Result.andThen_ok, Sem.run_pure]

/-- A whole block that is one struct. -/
theorem rv_loadW {x : Operand} {t : TypeId} {s bs : Nat} {zs : List Value} [hT : TyAgg P t] [hI : TyInfo P t s zs bs] {b : Nat} (i : Nat) {t' : TypeId} {cs : List Value} (hx : opv fr x = some (pB b 0)) (hi : H[i]? = some (.blk b t' cs))
    (hl : Nat.beq cs.length s = true) : RunsV P n w0 fr H (.load t x) (.agg cs.toArray) :=
  rv_loadS i hx hi (List.take_of_length_le (by rw [List.drop_zero, Nat.eq_of_beq_eq_true hl]; exact Nat.le_refl _)) hl

/-- A cell of an element of a slice that reads. -/
theorem rv_loadE {x : Operand} {t : TypeId} [hT : TyOne P t] {v : Value} {s k c : Nat} {es : List (List Value)} {e : List Value} {u : Value} (hx : opv fr x = some (pE v s k c)) (hv : ∀ w, HeapOk w0 w H → Rd w v s es) (hk : es[k]? = some e) (hc : e[c]? = some u) :
    RunsV P n w0 fr H (.load t x) u := fun a w hr hh _ _ _ _ _ => by
  simp only [execOp, hr.opv hx, pE, Sem.run_bind, run_loadOne hT ((hv w hh).cell hk hc), Result.andThen_ok, Sem.run_pure]
/-- An element, or a struct within it. -/
theorem rv_loadES {x : Operand} {t : TypeId} {z bs : Nat} {zs : List Value} [hT : TyAgg P t] [hI : TyInfo P t z zs bs] {v : Value} {s k c : Nat} {es : List (List Value)} {e us : List Value} (hx : opv fr x = some (pE v s k c)) (hv : ∀ w, HeapOk w0 w H → Rd w v s es) (hk : es[k]? = some e)
    (hu : (e.drop c).take z = us) (hl : Nat.beq us.length z = true) : RunsV P n w0 fr H (.load t x) (.agg us.toArray) := fun a w hr hh _ _ _ _ _ => by
  have hl' := Nat.eq_of_beq_eq_true hl
  have := run_loadAgg hT hI (w := w) (b := blkOf v) (o := offOf v + (k * s + c)) hl' (fun j u hj => by
    rw [← hu, List.getElem?_take] at hj
    split at hj
    · rw [List.getElem?_drop] at hj
      have := (hv w hh).cell hk hj
      rwa [show offOf v + (k * s + (c + j)) = offOf v + (k * s + c) + j from by omega] at this
    · cases hj)
  simp only [execOp, hr.opv hx, pE, Sem.run_bind, this, Result.andThen_ok, Sem.run_pure]

/-- A whole element. -/
theorem rv_loadEW {x : Operand} {t : TypeId} {z bs : Nat} {zs : List Value} [hT : TyAgg P t] [hI : TyInfo P t z zs bs] {v : Value} {k : Nat} {es : List (List Value)} {e : List Value} (hx : opv fr x = some (pE v z k 0)) (hv : ∀ w, HeapOk w0 w H → Rd w v z es) (hk : es[k]? = some e)
    (hl : Nat.beq e.length z = true) : RunsV P n w0 fr H (.load t x) (.agg e.toArray) :=
  rv_loadES hx hv hk (List.take_of_length_le (by rw [List.drop_zero, Nat.eq_of_beq_eq_true hl]; exact Nat.le_refl _)) hl

/-- Facts on what was there when the call began stay. -/
theorem Rd.stays {v : Value} {s : Nat} {es : List (List Value)} (h : Rd w0 v s es) : ∀ w, HeapOk w0 w H → Rd w v s es := fun _ hh => h.below hh.below
theorem HeapOk.rdGrp {w0 w : World} {H : List Ch} {t : TypeId} {s : Nat} {rs : List (Value × List (List Value))} (h : HeapOk w0 w H) (hm : Ch.grp t s rs ∈ H) {r : Value × List (List Value)} (hr : r ∈ rs) : Rd w r.1 s r.2 := Rd.of_row (t := t) ((h.ok _ hm).1 r hr)
theorem Rd.grp {t : TypeId} {s : Nat} {rs : List (Value × List (List Value))} (i : Nat) (hi : H[i]? = some (.grp t s rs)) {v : Value} {es : List (List Value)} (hr : (v, es) ∈ rs) : ∀ w, HeapOk w0 w H → Rd w v s es := fun _ hh => hh.rdGrp (List.mem_of_getElem? hi) hr
/-- A block reads as a slice of one. -/
theorem Rd.ofBlk {b : Nat} {t : TypeId} {cs : List Value} (i : Nat) (hi : H[i]? = some (.blk b t cs)) (hg : cs.all Value.oneCell' = true) : ∀ w, HeapOk w0 w H → Rd w (.slice (some ⟨b, 0, none⟩) 1 1) cs.length [cs] := fun w hh =>
  ⟨⟨some ⟨b, 0, none⟩, 1, rfl, Nat.le_refl _, by simp [maxLen], fun _ => ⟨b, 0, rfl⟩⟩, fun e he => by
    have : e = cs := by simpa using he
    subst this
    exact ⟨rfl, fun u hu => List.all_eq_true.1 hg u hu⟩, fun j u hj => by
    have h := hh.blk (List.mem_of_getElem? hi) j
    simp only [blkOf, offOf, Nat.zero_add]
    rw [h]
    simpa using hj⟩
theorem pB_eq_pE (q s : Nat) : pB q 0 = pE (.slice (some ⟨q, 0, none⟩) 1 1) s 0 0 := by simp [pB, pE, blkOf, offOf]
theorem Rd.owned {v : Value} {t : TypeId} {s : Nat} {es : List (List Value)} (i : Nat) (hi : H[i]? = some (.row v t s es)) : ∀ w, HeapOk w0 w H → Rd w v s es := fun _ hh => hh.rd (List.mem_of_getElem? hi)

/-! ### Addresses -/
theorem run_fieldAt {t : TypeId} {f off : Nat} (h : TyFld P t f off) (w : World) (b o : Nat) : (Instr.fieldAt t (.pointer (some ⟨b, o, none⟩)) f).run P w = .ok (.pointer (some ⟨b, o + off, none⟩)) w := by
  have := h.h
  unfold fldOff at this
  split at this
  · rename_i fs hu
    split at this
    · rename_i fd hf
      split at this
      · rename_i i hi
        split at this
        · cases this
        · rename_i hz
          simp only [Option.some.injEq] at this
          subst this
          simp [Instr.fieldAt, run_underlying hu, hf, Instr.sureAddr, fieldPlace, sizeOf, typeInfo, hi, hz, Addr.add_lit]
      · cases this
    · cases this
  · cases this

theorem rv_field {x : Operand} {t : TypeId} {f off : Nat} [hT : TyFld P t f off] {b o : Nat} (hx : opv fr x = some (pB b o)) : RunsV P n w0 fr H (.fieldAddr t x f) (pB b (o + off)) := fun a w hr hh _ _ _ _ _ => by
  simp only [execOp, hr.opv hx, pB, Sem.run_bind, run_fieldAt hT, Result.andThen_ok, Sem.run_pure]
theorem rv_fieldE {x : Operand} {t : TypeId} {f off : Nat} [hT : TyFld P t f off] {v : Value} {s k c : Nat} (hx : opv fr x = some (pE v s k c)) : RunsV P n w0 fr H (.fieldAddr t x f) (pE v s k (c + off)) := fun a w hr hh _ _ _ _ _ => by
  simp only [execOp, hr.opv hx, pE, Sem.run_bind, run_fieldAt hT, Result.andThen_ok, Sem.run_pure, Nat.add_assoc]
theorem rv_nilCheckE {x : Operand} {v : Value} {s k c : Nat} (hx : opv fr x = some (pE v s k c)) : RunsV P n w0 fr H (.nilCheck x) (pE v s k c) := rv_nilCheck hx
theorem rv_nilCheckB {x : Operand} {b o : Nat} (hx : opv fr x = some (pB b o)) : RunsV P n w0 fr H (.nilCheck x) (pB b o) := rv_nilCheck hx

theorem rv_index {x y : Operand} {t e : TypeId} {s bs : Nat} {zs : List Value} [hT : TySlice P t e] [hI : TyInfo P e s zs bs] {v : Value} {es : List (List Value)} {kk : IntKind} {i : Int} {k : Nat} (hx : opv fr x = some v) (hy : opv fr y = some (.int kk i)) (hv : ∀ w, HeapOk w0 w H → Rd w v s es)
    (hi : i = (k : Int)) (hk : k < es.length) : RunsV P n w0 fr H (.indexAddr t x y) (pE v s k 0) := fun a w hr hh _ _ _ _ _ => by
  obtain ⟨ad, cap, rfl, h1, h2, h3⟩ := (hv w hh).form
  obtain ⟨b, o, rfl⟩ := h3 (by omega)
  obtain ⟨inf, z, g1, g2, g3, g4, g5⟩ := hI.get
  subst hi
  have hlt : (0 : Int) ≤ (k : Int) ∧ (k : Int) < (es.length : Int) := by omega
  simp [execOp, hr.opv hx, hr.opv hy, Instr.indexAt, asIntOf, run_underlying hT.h, hlt, sizeOf, typeInfo, g1, g2, pE, blkOf, offOf, Addr.add_lit]
  omega

theorem rv_indexH {x y : Operand} {t e : TypeId} {s bs : Nat} {zs : List Value} [hT : TySlice P t e] [hI : TyInfo P e s zs bs] {v : Value} {es : List (List Value)} {kk : IntKind} {i : Int} {k : Nat} {el : List Value} (hx : opv fr x = some v) (hy : opv fr y = some (.int kk i)) (hv : ∀ w, HeapOk w0 w H → Rd w v s es)
    (hi : i = (k : Int)) (hk : es[k]? = some el) : RunsV P n w0 fr H (.indexAddr t x y) (pE v s k 0) :=
  rv_index hx hy hv hi (by
    rcases Nat.lt_or_ge k es.length with h | h
    · exact h
    · rw [List.getElem?_eq_none h] at hk; cases hk)

theorem rv_len {x : Operand} {t : TypeId} {e : TypeId} [hT : TySlice P t e] {v : Value} {s : Nat} {es : List (List Value)} (hx : opv fr x = some v) (hv : ∀ w, HeapOk w0 w H → Rd w v s es) :
    RunsV P n w0 fr H (.call ⟨.builtin .len, #[x], #[t]⟩) (.int .i64 (es.length : Int)) := fun a w hr hh _ _ _ _ _ => by
  obtain ⟨ad, cap, rfl, h1, h2, h3⟩ := (hv w hh).form
  simp [execOp, resolve, invoke, builtin, hr.opv hx, Builtin.len_, run_underlying hT.h, goInt]

theorem rv_max {x y : Operand} {ts : Array TypeId} {k k' : IntKind} {p q : Int} (hx : opv fr x = some (.int k p)) (hy : opv fr y = some (.int k' q)) :
    RunsV P n w0 fr H (.call ⟨.builtin .max, #[x, y], ts⟩) (.int k (max p q)) := fun a w hr hh _ _ _ _ _ => by
  have e : max p q = if q > p then q else p := by split <;> omega
  simp only [execOp, resolve, invoke, builtin, List.map_toArray, List.map_cons, List.map_nil, hr.opv hx, hr.opv hy, Builtin.max_, Builtin.max2, Sem.run_bind, Sem.run_pure, Result.andThen_ok, e]
  simp [Builtin.max2, Sem.run_bind, Sem.run_pure, Result.andThen_ok]

theorem rv_neqb {x y : Operand} {t t' : TypeId} [hT : TyBool P t] {p q : Bool} (hx : opv fr x = some (.bool p)) (hy : opv fr y = some (.bool q)) : RunsV P n w0 fr H (.binOp .neq t x y t') (.bool (decide (¬ p = q))) := fun a w hr _ _ _ _ _ _ => by
  have : (!(p == q)) = decide (¬ p = q) := by cases p <;> cases q <;> rfl
  simp [execOp, hr.opv hx, hr.opv hy, eqGuard_at_bool, binOp, run_equal_bool w t p q hT.h]
  cases p <;> cases q <;> rfl
theorem rv_eqlb {x y : Operand} {t t' : TypeId} [hT : TyBool P t] {p q : Bool} (hx : opv fr x = some (.bool p)) (hy : opv fr y = some (.bool q)) : RunsV P n w0 fr H (.binOp .eql t x y t') (.bool (decide (p = q))) := fun a w hr _ _ _ _ _ _ => by
  simp [execOp, hr.opv hx, hr.opv hy, eqGuard_at_bool, binOp, run_equal_bool w t p q hT.h]
  cases p <;> cases q <;> rfl

/-! ### Making memory -/
theorem run_newVar (t : TypeId) (v : Value) (w : World) : (newVar t v).run P w = .ok ⟨w.heap.size, 0, none⟩ (w.alloc (.cells v.cells t)) := by
  simp [newVar, newRow, World.alloc_eq]

theorem og_box {x : Operand} {t : TypeId} {v : Value} {cs : List Value} (hx : opv fr x = some v) (hc : v.cells = cs.toArray) : OpG P n w0 fr H (.box t x) Triv (fun b => pB b 0) (fun b => .blk b t cs :: H) :=
  fun a w hr hh d T pos af gd K hK => by
    have hrun : (execOp a.eval ⟨d, .box t x, T, pos, af, gd⟩).run P w = .ok (.value (pB w.heap.size 0)) (w.alloc (.cells cs.toArray t)) := by
      simp [execOp, hr.opv hx, Instr.box, run_newVar, pB, hc]
    unfold okAt; rw [hrun]
    exact hK w.heap.size _ trivial (hh.alloc t cs)

theorem og_alloc {t : TypeId} {s bs : Nat} {zs : List Value} [hI : TyInfo P t s zs bs] : OpG P n w0 fr H (.alloc t) Triv (fun b => pB b 0) (fun b => .blk b t zs :: H) :=
  fun a w hr hh d T pos af gd K hK => by
    obtain ⟨i, z, h1, h2, h3, h4, h5⟩ := hI.get
    have hrun : (execOp a.eval ⟨d, .alloc t, T, pos, af, gd⟩).run P w = .ok (.value (pB w.heap.size 0)) (w.alloc (.cells zs.toArray t)) := by
      simp [execOp, Instr.alloc, zeroValue, typeInfo, h1, h4, run_newVar, pB, h5]
    unfold okAt; rw [hrun]
    exact hK w.heap.size _ trivial (hh.alloc t zs)

theorem HeapOk.setRowBlk {w : World} {H : List Ch} {b : Nat} {t : TypeId} {cs : List Value} (h : HeapOk w0 w (.blk b t cs :: H)) (cs' : List Value) :
    HeapOk w0 (w.setRow b cs'.toArray) (.blk b t cs' :: H) := by
  have hb := h.ok _ (List.mem_cons_self)
  refine ⟨h.below.trans ⟨rfl, rfl, rfl, by simp, fun k hk => setRow_other w b k _ (by have := hb.1; omega)⟩, fun c hc => ?_, ?_⟩
  · rcases List.mem_cons.1 hc with rfl | hc
    · exact ⟨hb.1, setRow_heap w b _ _ t _ hb.2⟩
    · refine Ch.ok_of (h.ok c (List.mem_cons_of_mem _ hc)) fun k hk => setRow_other w b k _ ?_
      have := (List.pairwise_cons.1 h.ap).1 c hc b rfl
      rintro rfl
      exact this hk
  · have := List.pairwise_cons.1 h.ap
    exact List.pairwise_cons.2 ⟨fun d hd k hk => this.1 d hd k hk, this.2⟩

theorem front_perm : ∀ {H : List Ch} {i : Nat} {c : Ch}, H[i]? = some c → (c :: H.eraseIdx i).Perm H
  | [], i, c, h => by simp at h
  | x :: r, 0, c, h => by
    simp only [List.getElem?_cons_zero, Option.some.injEq] at h
    subst h
    exact List.Perm.refl _
  | x :: r, i + 1, c, h => by
    simp only [List.getElem?_cons_succ] at h
    simp only [List.eraseIdx_cons_succ]
    exact (List.Perm.swap x c _).trans ((front_perm h).cons x)

theorem perm_set : ∀ {H : List Ch} {i : Nat} {c c' : Ch}, H[i]? = some c → (c' :: H.eraseIdx i).Perm (H.set i c')
  | [], i, c, c', h => by simp at h
  | x :: r, 0, c, c', h => List.Perm.refl _
  | x :: r, i + 1, c, c', h => by
    simp only [List.getElem?_cons_succ] at h
    simp only [List.eraseIdx_cons_succ, List.set_cons_succ]
    exact (List.Perm.swap x c' _).trans ((perm_set h).cons x)

theorem HeapOk.front {w : World} {H : List Ch} {i : Nat} {c : Ch} (h : HeapOk w0 w H) (hi : H[i]? = some c) : HeapOk w0 w (c :: H.eraseIdx i) := h.perm (front_perm hi).symm

/-- Storing a value (one cell, or the cells of a struct) into a block that is known. -/
theorem run_storeAt {w : World} {t : TypeId} {s bs : Nat} {zs : List Value} (hI : TyInfo P t s zs bs) {b o : Nat} {t' : TypeId} {cs : List Value} {v : Value} {us : List Value} (hb : w.heap[b]? = some (.cells cs.toArray t' (0, 0)))
    (hu : v.cells = us.toArray) (hl : us.length = s) (h1 : ∀ u ∈ us, u.oneCell' = true) (ho : o + us.length ≤ cs.length) :
    (Instr.storeAt t (.pointer (some ⟨b, o, none⟩)) v).run P w = .ok () (w.setRow b (cs.take o ++ us ++ cs.drop (o + us.length)).toArray) := by
  obtain ⟨i, z, g1, g2, g3, g4, g5⟩ := hI.get
  have := run_storeCells_at P b o t' us 0 cs.toArray w hb (by simpa using ho) h1
  simp only [Nat.add_zero] at this
  subst hl
  simp [Instr.storeAt, Instr.sureAddr, storeVar, sizeOf, typeInfo, g1, g2, hu, this]

theorem cells_one {v : Value} (h : v.oneCell' = true) : v.cells = [v].toArray := by cases v <;> first | rfl | cases h
theorem one_cons {v : Value} {us : List Value} (h : v.oneCell' = true) (hs : us.all Value.oneCell' = true) : (v :: us).all Value.oneCell' = true := by simp [h, hs]

theorem og_store {x y : Operand} {t : TypeId} {s bs : Nat} {zs : List Value} [hI : TyInfo P t s zs bs] {b o : Nat} (i : Nat) {t' : TypeId} {cs us cs' : List Value} {v : Value}
    (hx : opv fr x = some (pB b o)) (hy : opv fr y = some v) (hi : H[i]? = some (.blk b t' cs)) (hu : v.cells = us.toArray) (hl : Nat.beq us.length s = true) (h1 : us.all Value.oneCell' = true) (ho : Nat.ble (o + us.length) cs.length = true)
    (hcs : cs.take o ++ us ++ cs.drop (o + us.length) = cs') : OpG P n w0 fr H (.store t x y) Triv (fun _ : Unit => undef) (fun _ => H.set i (.blk b t' cs')) :=
  fun a w hr hh d T pos af gd K hK => by
    have hf := hh.front hi
    have hb := (hf.ok _ (List.mem_cons_self)).2
    have hrun := run_storeAt (P := P) (t := t) hI (v := v) hb hu (Nat.eq_of_beq_eq_true hl) (by simpa using h1) (Nat.le_of_ble_eq_true ho)
    have : (execOp a.eval ⟨d, .store t x y, T, pos, af, gd⟩).run P w = .ok .skip (w.setRow b (cs.take o ++ us ++ cs.drop (o + us.length)).toArray) := by
      simp only [execOp, hr.opv hx, hr.opv hy, pB, Sem.run_bind, hrun, Result.andThen_ok, Sem.run_pure]
    unfold okAt; rw [this]
    refine hK () _ trivial ?_
    rw [hcs]
    exact (hf.setRowBlk cs').perm (perm_set hi)

/-! ### Owned rows -/
theorem HeapOk.nilRow {w : World} {H : List Ch} (h : HeapOk w0 w H) (t : TypeId) (s : Nat) : HeapOk w0 w (.row (.slice none 0 0) t s [] :: H) :=
  ⟨h.below, fun c hc => by
    rcases List.mem_cons.1 hc with rfl | hc
    · exact ⟨World.ownsRow_nil _ _ _ _, by simp⟩
    · exact h.ok c hc, List.pairwise_cons.2 ⟨fun d hd k hk => by simp [Ch.has, Value.ownBlock] at hk, h.ap⟩⟩
theorem G.nilRow (t : TypeId) (s : Nat) {K : Act → World → Prop} (h : G n w0 fr (.row (.slice none 0 0) t s [] :: H) K) : G n w0 fr H K := fun a w hr hh => h a w hr (hh.nilRow t s)

/-- A block that is filled is a row. -/
theorem HeapOk.rowOfBlk {w : World} {H : List Ch} {b : Nat} {t : TypeId} {s : Nat} {es : List (List Value)} (h : HeapOk w0 w (.blk b t es.flatten :: H)) (hl0 : ∀ e ∈ es, e.length = s ∧ ∀ u ∈ e, u.oneCell' = true) (hm : es.length ≤ maxLen) :
    HeapOk w0 w (.row (.slice (some ⟨b, 0, none⟩) es.length es.length) t s es :: H) := by
  have hb := h.ok _ (List.mem_cons_self)
  have hl : ∀ e ∈ es, e.length = s := fun e he => (hl0 e he).1
  have hfl : es.flatten.length = es.length * s := by
    clear hm hb h hl0
    induction es with
    | nil => simp
    | cons x xs ih => simp [hl x (List.mem_cons_self), ih (fun e he => hl e (List.mem_cons_of_mem _ he)), Nat.succ_mul, Nat.add_comm]
  refine ⟨h.below, fun c hc => ?_, ?_⟩
  · rcases List.mem_cons.1 hc with rfl | hc
    · refine ⟨⟨hfl, .inr ⟨b, es.length, es.flatten.toArray, rfl, hb.1, hb.2, Nat.le_refl _, hm, by simp [hfl], ?_⟩⟩, hl0⟩
      rw [← hfl]; exact List.take_length
    · exact h.ok c (List.mem_cons_of_mem _ hc)
  · have := List.pairwise_cons.1 h.ap
    exact List.pairwise_cons.2 ⟨fun d hd k hk => this.1 d hd k (by simpa [Ch.has, Value.ownBlock] using hk), this.2⟩

/-- make([]T, m), m a number. -/
theorem og_make {x y : Operand} {t e : TypeId} {s bs : Nat} {zs : List Value} [hT : TySlice P t e] [hI : TyInfo P e s zs bs] {k1 k2 : IntKind} {m : Nat}
    (hx : opv fr x = some (.int k1 (m : Int))) (hy : opv fr y = some (.int k2 (m : Int))) (hs : Nat.beq zs.length s = true) (hone : zs.all Value.oneCell' = true) (hpos : Nat.ble 1 s = true) (hm : m * bs ≤ 281474976710656) (hm2 : m ≤ 9223372036854775807) : OpG P n w0 fr H (.makeSlice t x y) Triv (fun v : Value => v) (fun v => .row v e s (List.replicate m zs) :: H) :=
  fun a w hr hh d T pos af gd K hK => by
    obtain ⟨i, z, g1, g2, g3, g4, g5⟩ := hI.get
    have hs' := Nat.eq_of_beq_eq_true hs
    have hpos' := Nat.le_of_ble_eq_true hpos
    have hbm : (i.bytes : Int) * (m : Int) ≤ 281474976710656 := by
      have h1 : ((m * bs : Nat) : Int) ≤ 281474976710656 := by omega
      rw [Int.natCast_mul, Int.mul_comm] at h1
      rw [g3]; exact h1
    have hr' := run_make (P := P) w t e i z hT.h g1 g4 k1 k2 (m : Int) (m : Int) (by omega) (by omega) hbm (by omega)
    have hfl : ∀ m : Nat, (madeCells z.cells (m * i.size)) = ((List.replicate m zs).flatten).toArray := by
      intro m
      rw [g2, g5]
      apply Array.ext'
      apply List.ext_getElem?
      intro j
      have hlen : ((List.replicate m zs).flatten).length = m * s := by simp [hs']
      have hL : (madeCells zs.toArray (m * s)).toList.length = m * s := by simp [madeCells]
      rcases Nat.lt_or_ge j (m * s) with hj | hj
      · have hk : j / s < m := (Nat.div_lt_iff_lt_mul hpos').2 hj
        have hmod : j % s < s := Nat.mod_lt _ hpos'
        have hz : zs[j % s]? = some (zs[j % s]'(by omega)) := List.getElem?_eq_getElem (by omega)
        have := flatten_get (es := List.replicate m zs) (size := s) (by intro e he; rw [(List.mem_replicate.1 he).2]; exact hs') (k := j / s) (e := zs) (by simp [hk]) hz
        rw [show j / s * s + j % s = j from by rw [Nat.mul_comm]; exact Nat.div_add_mod j s] at this
        rw [show ((List.replicate m zs).flatten.toArray).toList = (List.replicate m zs).flatten from rfl, this]
        simp only [madeCells, Array.toList_map, Array.toList_range, List.getElem?_map]
        simp [hj, hs']
        rw [hz]; rfl
      · rw [List.getElem?_eq_none (by omega), List.getElem?_eq_none (by simp [hs']; exact hj)]
    have hrun : (execOp a.eval ⟨d, .makeSlice t x y, T, pos, af, gd⟩).run P w = .ok (.value (.slice (some ⟨w.heap.size, 0, none⟩) m m)) (w.alloc (.cells ((List.replicate m zs).flatten).toArray e)) := by
      simp only [Int.toNat_natCast] at hr'
      rw [hfl] at hr'
      simp only [execOp, hr.opv hx, hr.opv hy, Sem.run_bind, hr', Result.andThen_ok, Sem.run_pure]
    unfold okAt; rw [hrun]
    have hrow := (hh.alloc e ((List.replicate m zs).flatten)).rowOfBlk (s := s) (es := List.replicate m zs) (by intro e he; rw [(List.mem_replicate.1 he).2]; exact ⟨hs', by simpa using hone⟩) (by simp [maxLen]; omega)
    simp only [List.length_replicate] at hrow
    exact hK _ _ trivial hrow

end
end Go.Proofs.YtpmphkcibiimcaaGreat
