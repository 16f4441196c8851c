/-
  append, literals, stores into rows, calls, in the logic of chunks.
-/
import Derived.Test.YtpmphkcibiimcaaGreatMem
import Derived.Maps.AppendAt
namespace Go.Proofs.YtpmphkcibiimcaaGreat
open Go.RowKit

/-! ### The cells of several values -/
def CellsOf : List Value → List (List Value) → Prop
  | [], us => us = []
  | v :: vs, us => ∃ u r, us = u :: r ∧ v.cells = u.toArray ∧ CellsOf vs r

theorem CellsOf.nil : CellsOf [] [] := rfl
theorem CellsOf.cons {v : Value} {vs : List Value} {u : List Value} {us : List (List Value)} (h : v.cells = u.toArray) (hs : CellsOf vs us) : CellsOf (v :: vs) (u :: us) := ⟨u, us, rfl, h, hs⟩

theorem Rd.cells_eq {w : World} {v : Value} {s : Nat} {es : List (List Value)} (h : Rd w v s es) : v.cells = #[v] := by
  obtain ⟨a, cap, rfl, _⟩ := h.form; rfl
theorem Rd.one_ {w : World} {v : Value} {s : Nat} {es : List (List Value)} (h : Rd w v s es) : v.oneCell' = true := by
  obtain ⟨a, cap, rfl, _⟩ := h.form; rfl

/-! ### fill -/
def fillL (pl : Nat → Option (Nat × Nat)) (cs : List Value) : List Nat → List (List Value) → Option (List Value)
  | i :: is, u :: us => match pl i with
    | some (off, size) => bif Nat.beq u.length size && Nat.ble (off + u.length) cs.length then fillL pl (cs.take off ++ u ++ cs.drop (off + u.length)) is us else none
    | none => none
  | _, _ => some cs

theorem foldl_set (off : Nat) : ∀ (u : List Value) (k : Nat) (cs : List Value), off + k + u.length ≤ cs.length →
    (u.zipIdx k).foldl (fun (c : Array Value) (x : Value × Nat) => c.setIfInBounds (off + x.2) x.1) cs.toArray = (cs.take (off + k) ++ u ++ cs.drop (off + k + u.length)).toArray
  | [], k, cs, _ => by simp
  | x :: r, k, cs, h => by
    have ih := foldl_set off r (k + 1) (cs.set (off + k) x) (by simp at h ⊢; omega)
    simp only [List.zipIdx_cons, List.foldl_cons, List.setIfInBounds_toArray]
    rw [ih]
    congr 1
    have := list_seg_step cs (off + k) x r (by simp at h; omega)
    simp only [List.length_cons]
    rw [show off + (k + 1) = off + k + 1 from by omega]
    exact this

theorem fill_fillL (pl : Nat → Option (Nat × Nat)) : ∀ (is : List Nat) (vs : List Value) (us : List (List Value)) (cs cs' : List Value), CellsOf vs us → fillL pl cs is us = some cs' → is.length = vs.length →
    Instr.fill pl cs.toArray (is.zip vs) = some cs'.toArray
  | [], [], us, cs, cs', h, hf, _ => by
    cases h
    simp only [fillL, Option.some.injEq] at hf
    subst hf; rfl
  | i :: is, v :: vs, us, cs, cs', h, hf, hl => by
    obtain ⟨u, r, rfl, hu, hr⟩ := h
    simp only [fillL] at hf
    split at hf
    · rename_i off size hpl
      cases hb : (Nat.beq u.length size && Nat.ble (off + u.length) cs.length) with
      | false => rw [hb] at hf; simp at hf
      | true =>
        rw [hb] at hf
        simp only [cond_true] at hf
        simp only [Bool.and_eq_true] at hb
        have h1 := Nat.eq_of_beq_eq_true hb.1
        have h2 := Nat.le_of_ble_eq_true hb.2
        have := fill_fillL pl is vs r _ cs' hr hf (by simpa using hl)
        simp only [List.zip_cons_cons, Instr.fill, hpl, hu, List.size_toArray]
        rw [if_neg (show ¬ ((decide (u.length ≠ size) || decide (off + u.length > cs.length)) = true) from by simp; omega)]
        have hfold := foldl_set off u 0 cs (by omega)
        simp only [Nat.add_zero] at hfold
        have hz : u.toArray.zipIdx = (u.zipIdx 0).toArray := by simp
        rw [show (u.toArray.zipIdx.foldl (fun cs x => match x with | (c, j) => cs.setIfInBounds (off + j) c) cs.toArray) = (u.zipIdx 0).foldl (fun (c : Array Value) (x : Value × Nat) => c.setIfInBounds (off + x.2) x.1) cs.toArray from by rw [hz]; simp]
        rw [hfold]
        exact this
    · cases hf
  | [], _ :: _, _, _, _, _, _, hl => by simp at hl
  | _ :: _, [], _, _, _, _, _, hl => by simp at hl

def pairs (fr : Fr) : List (Nat × Operand) → Option (List Nat × List Value)
  | [] => some ([], [])
  | (i, x) :: r => match opv fr x with
    | some v => match pairs fr r with
      | some (is, vs) => some (i :: is, v :: vs)
      | none => none
    | none => none

section
variable {P : Program} {n : Nat} {w0 : World} {fr : Fr} {H : List Ch} {Q : Exit → Act → World → Prop}

theorem Rep.pairs {a : Act} (h : Rep n a fr) : ∀ {ps : List (Nat × Operand)} {is : List Nat} {vs : List Value}, pairs fr ps = some (is, vs) → ps.map (fun x => (x.1, a.eval x.2)) = is.zip vs ∧ is.length = vs.length
  | [], is, vs, hx => by
    simp only [Proofs.YtpmphkcibiimcaaGreat.pairs, Option.some.injEq, Prod.mk.injEq] at hx
    obtain ⟨rfl, rfl⟩ := hx; simp
  | (i, x) :: r, is, vs, hx => by
    simp only [Proofs.YtpmphkcibiimcaaGreat.pairs] at hx
    split at hx
    · rename_i v hv
      split at hx
      · rename_i is' vs' hr
        simp only [Option.some.injEq, Prod.mk.injEq] at hx
        obtain ⟨rfl, rfl⟩ := hx
        have := Rep.pairs h hr
        simp [this.1, this.2, h.opv hv]
      · cases hx
    · cases hx

/-- The places of a struct's fields. -/
def places (P : Program) (t : TypeId) : Option (List (Nat × Nat)) :=
  match P.underlying t with
  | some (.struct fs) => fs.toList.mapM fun f => (P.info? f.type).map fun i => (f.offset, i.size)
  | _ => none
class TyPlaces (P : Program) (t : TypeId) (pl : outParam (List (Nat × Nat))) : Prop where
  h : places P t = some pl

theorem run_places {P : Program} {w : World} : ∀ (fs : List Field) (pl : List (Nat × Nat)), fs.mapM (fun f => (P.info? f.type).map fun i => (f.offset, i.size)) = some pl →
    (fs.mapM (fun f => do pure (f.offset, ← sizeOf f.type)) : Sem (List (Nat × Nat))).run P w = .ok pl w
  | [], pl, h => by
    simp only [List.mapM_nil, Option.pure_def, Option.some.injEq] at h
    subst h; rfl
  | f :: fs, pl, h => by
    simp only [List.mapM_cons, Option.bind_eq_bind, Option.bind_eq_some_iff, Option.pure_def, Option.some.injEq] at h
    obtain ⟨x, hx, pl', hp, rfl⟩ := h
    have ih := run_places (w := w) fs pl' hp
    cases hi : P.info? f.type with
    | none => simp [hi] at hx
    | some i =>
      simp only [hi, Option.map_some, Option.some.injEq] at hx
      subst hx
      simp only [List.mapM_cons, Sem.run_bind, sizeOf, typeInfo, run_program, Result.andThen_ok, hi, Sem.run_pure] at ih ⊢
      rw [ih]; rfl

theorem rv_build {t : TypeId} {s bs : Nat} {zs : List Value} {pl : List (Nat × Nat)} [hI : TyInfo P t s zs bs] [hP : TyPlaces P t pl] {ps : List (Nat × Operand)} {is : List Nat} {vs : List Value} {us : List (List Value)} {cs : List Value}
    (hp : pairs fr ps = some (is, vs)) (hu : CellsOf vs us) (hf : fillL (fun i => pl[i]?) zs is us = some cs) : RunsV P n w0 fr H (.build t ps.toArray) (.agg cs.toArray) := fun a w hr hh _ _ _ _ _ => by
  obtain ⟨i, z, h1, h2, h3, h4, h5⟩ := hI.get
  obtain ⟨hm, hl⟩ := hr.pairs hp
  have hfill := fill_fillL _ is vs us zs cs hu hf hl
  have hpl := hP.h
  unfold places at hpl
  split at hpl
  · rename_i fs hfs
    have hrun := run_places (P := P) (w := w) fs.toList pl hpl
    have hrun' : (fs.mapM (fun f => do pure (f.offset, ← sizeOf f.type)) : Sem (Array (Nat × Nat))).run P w = .ok pl.toArray w := by
      rw [Array.mapM_eq_mapM_toList, Sem.run_map, hrun]; rfl
    have e : (ps.toArray.map fun x => (x.1, a.eval x.2)).toList = is.zip vs := by simpa using hm
    simp only [execOp, Sem.run_bind, Instr.build, zeroValue, typeInfo, run_program, Result.andThen_ok, h1, h4, Sem.run_pure, run_underlying hfs, hrun', h5]
    have e2 : (Array.map (fun x => match x with | (i, x) => (i, a.eval x)) ps.toArray).toList = is.zip vs := e
    rw [e2]
    have e3 : (fun x : Nat => pl.toArray[x]?) = fun i : Nat => pl[i]? := by funext i; simp
    rw [e3, hfill]; rfl
  · cases hpl

/-! ### A literal slice -/
def seqFrom : Nat → List Nat → Bool
  | _, [] => true
  | k, i :: r => Nat.beq i k && seqFrom (k + 1) r

theorem fillL_row (s : Nat) : ∀ (us : List (List Value)) (is : List Nat) (k : Nat) (pre post : List Value), (∀ u ∈ us, u.length = s) → pre.length = k * s → post.length = us.length * s → is.length = us.length → seqFrom k is = true →
    fillL (fun i => some (i * s, s)) (pre ++ post) is us = some (pre ++ us.flatten)
  | [], [], k, pre, post, _, _, hp, _, _ => by
    have : post = [] := List.eq_nil_of_length_eq_zero (by simpa using hp)
    simp [fillL, this]
  | u :: us, i :: is, k, pre, post, hu, hpre, hpost, hl, hs => by
    simp only [seqFrom, Bool.and_eq_true] at hs
    have hi := Nat.eq_of_beq_eq_true hs.1
    subst hi
    have hul := hu u (List.mem_cons_self)
    simp only [List.length_cons, Nat.succ_mul] at hpost
    have hb : (Nat.beq u.length s && Nat.ble (i * s + u.length) (pre ++ post).length) = true := by
      rw [Bool.and_eq_true]
      refine ⟨by rw [hul]; simp, Nat.ble_eq_true_of_le ?_⟩
      rw [List.length_append, hul]; omega
    simp only [fillL, hb, cond_true]
    have e1 : (pre ++ post).take (i * s) = pre := by rw [← hpre]; simp
    have e2 : (pre ++ post).drop (i * s + u.length) = post.drop s := by
      rw [← hpre, hul, List.drop_append]; simp
    rw [e1, e2]
    have := fillL_row s us is (i + 1) (pre ++ u) (post.drop s) (fun v hv => hu v (List.mem_cons_of_mem _ hv)) (by rw [List.length_append, hul, hpre, Nat.succ_mul]) (by rw [List.length_drop]; omega) (by simpa using hl) hs.2
    rw [this]; simp
  | [], _ :: _, _, _, _, _, _, _, hl, _ => by simp at hl
  | _ :: _, [], _, _, _, _, _, _, hl, _ => by simp at hl

theorem flatten_len {s : Nat} : ∀ {es : List (List Value)}, (∀ e ∈ es, e.length = s) → es.flatten.length = es.length * s
  | [], _ => by simp
  | x :: xs, h => by
    have := flatten_len (es := xs) (fun e he => h e (List.mem_cons_of_mem _ he))
    simp only [List.flatten_cons, List.length_append, List.length_cons, this, h x (List.mem_cons_self), Nat.succ_mul]
    omega

theorem og_lit {t e : TypeId} {s bs : Nat} {zs : List Value} [hT : TySlice P t e] [hI : TyInfo P e s zs bs] {m : Nat} {ps : List (Nat × Operand)} {is : List Nat} {vs : List Value} {us : List (List Value)}
    (hp : pairs fr ps = some (is, vs)) (hu : CellsOf vs us) (hg : us.all (fun u => Nat.beq u.length s && u.all Value.oneCell') = true) (hseq : seqFrom 0 is = true) (hm : Nat.beq us.length m = true) (hsm : Nat.ble (m * s) 16777216 = true) (hz : Nat.beq zs.length s = true) (hs1 : Nat.ble 1 s = true) : OpG P n w0 fr H (.buildSlice t m ps.toArray) Triv (fun v : Value => v) (fun v => .row v e s us :: H) :=
  fun a w hr hh d T pos af gd K hK => by
    obtain ⟨i, z, h1, h2, h3, h4, h5⟩ := hI.get
    obtain ⟨hmap, hl⟩ := hr.pairs hp
    have hm' := Nat.eq_of_beq_eq_true hm
    have hz' := Nat.eq_of_beq_eq_true hz
    have hs1' := Nat.le_of_ble_eq_true hs1
    have hsm' := Nat.le_of_ble_eq_true hsm
    have hgood : ∀ u ∈ us, u.length = s ∧ ∀ x ∈ u, x.oneCell' = true := by
      intro u hu
      have := List.all_eq_true.1 hg u hu
      simp only [Bool.and_eq_true, List.all_eq_true] at this
      exact ⟨Nat.eq_of_beq_eq_true this.1, this.2⟩
    have hcl : ∀ (vs : List Value) (us : List (List Value)), CellsOf vs us → vs.length = us.length := by
      intro vs
      induction vs with
      | nil => intro us h; cases h; rfl
      | cons v vs ih => rintro us ⟨u, r, rfl, _, hr⟩; simp [ih r hr]
    have hisl : is.length = us.length := hl.trans (hcl vs us hu)
    have hrun : (execOp a.eval ⟨d, .buildSlice t m ps.toArray, T, pos, af, gd⟩).run P w = .ok (.value (.slice (some ⟨w.heap.size, 0, none⟩) us.length us.length)) (w.alloc (.cells us.flatten.toArray e)) := by
      have e2 : (Array.map (fun x => match x with | (i, x) => (i, a.eval x)) ps.toArray).toList = is.zip vs := by
        have : (ps.toArray.map fun x => (x.1, a.eval x.2)).toList = is.zip vs := by simpa using hmap
        exact this
      have hno : ¬ (m * i.size > 2 ^ 24) := by rw [h2]; omega
      have hinit : ∀ zero : Array Value, (m * i.size = 0 ∨ zero = zs.toArray) → Instr.fill (fun j => some (j * i.size, i.size)) ((Array.range (m * i.size)).map (zero[· % zero.size]!)) (is.zip vs) = some us.flatten.toArray := by
        intro zero hzero
        have hrow := fillL_row s us is 0 [] (((Array.range (m * i.size)).map (zero[· % zero.size]!)).toList) (fun u hu => (hgood u hu).1) (by simp) (by simp [h2, hm']) hisl hseq
        simp only [List.nil_append] at hrow
        have := fill_fillL (fun j => some (j * s, s)) is vs us _ _ hu hrow hl
        rw [Array.toArray_toList] at this
        rw [h2] at this ⊢
        exact this
      by_cases h0 : m * i.size = 0
      · simp only [execOp, Sem.run_bind, Instr.buildSlice, run_underlying hT.h, Result.andThen_ok, sizeOf, typeInfo, run_program, h1, Sem.run_pure, if_neg hno, if_pos h0, e2]
        rw [hinit #[] (.inl h0)]
        simp [newRow, World.alloc_eq, hm']
      · simp only [execOp, Sem.run_bind, Instr.buildSlice, run_underlying hT.h, Result.andThen_ok, sizeOf, typeInfo, run_program, h1, Sem.run_pure, if_neg hno, if_neg h0, zeroValue, h4, h5, e2]
        rw [hinit zs.toArray (.inr rfl)]
        simp [newRow, World.alloc_eq, hm']
    unfold okAt; rw [hrun]
    have hlen : us.length ≤ maxLen := by
      have : us.length * s ≤ 16777216 := by rw [hm']; exact hsm'
      have h2 : us.length * 1 ≤ us.length * s := Nat.mul_le_mul_left _ hs1'
      simp only [maxLen]; omega
    exact hK _ _ trivial ((hh.alloc e us.flatten).rowOfBlk (s := s) hgood hlen)

/-! ### append -/
theorem run_append_nil {base : Nat} {t ty e : TypeId} {i : TypeInfo} {size : Nat} {w : World} (ht : P.underlying t = some (.slice e)) (hi : P.info? e = some i)
    {v : Value} {m : Nat} {xs : List Value} (hown : w.ownsRow base e size v m xs) (c : Nat) : (Builtin.append_ #[t, t] ty #[v, .slice none 0 c]).run P w = .ok v w := by
  rcases hown.2 with ⟨rfl, rfl⟩ | ⟨g, cap, cur, rfl, _, _, hnc, _⟩
  · simp [Builtin.append_, run_underlying ht, sizeOf, typeInfo, hi, Builtin.lenOf, Builtin.firstCells]
  · simp [Builtin.append_, run_underlying ht, sizeOf, typeInfo, hi, Builtin.lenOf, Builtin.firstCells, hnc, storeCells]

theorem run_append_row {w : World} {H : List Ch} {t ty e : TypeId} {s bs : Nat} {zs : List Value} (hT : TySlice P t e) (hI : TyInfo P e s zs bs) (hz : zs.length = s) (hs1 : 1 ≤ s) {v v2 : Value} {es es2 : List (List Value)} (hh : HeapOk w0 w (.row v e s es :: H)) (h2 : Rd w v2 s es2)
    (hb : (es.length + es2.length) * bs ≤ 140737488355328) (hm : es.length + es2.length ≤ 9223372036854775807) :
    ∃ v' w', (Builtin.append_ #[t, t] ty #[v, v2]).run P w = .ok v' w' ∧ HeapOk w0 w' (.row v' e s (es ++ es2) :: H) := by
  obtain ⟨i, z, g1, g2, g3, g4, g5⟩ := hI.get
  have hrow := hh.ok _ (List.mem_cons_self)
  obtain ⟨ad, cap, rfl, k1, k2, k3⟩ := h2.form
  have hfl := flatten_len fun e he => (h2.good e he).1
  cases ad with
  | none =>
    have h0 : es2.length = 0 := by
      rcases Nat.eq_zero_or_pos es2.length with h | h
      · exact h
      · obtain ⟨b, o, hbo⟩ := k3 h; cases hbo
    have : es2 = [] := List.eq_nil_of_length_eq_zero h0
    subst this
    exact ⟨v, w, run_append_nil hT.h g1 hrow.1 cap, by simpa using hh⟩
  | some ad =>
    have hcells : ∀ j u, es2.flatten[j]? = some u → w.cell? (ad.add j) = some u := by
      intro j u hj
      have hpos : 0 < es2.length := by
        rcases Nat.eq_zero_or_pos es2.length with h | h
        · have : es2 = [] := List.eq_nil_of_length_eq_zero h
          subst this; simp at hj
        · exact h
      obtain ⟨b, o, hbo⟩ := k3 hpos
      injection hbo with hbo
      subst hbo
      have := h2.cells j u hj
      rw [Addr.add_lit]
      exact this
    obtain ⟨v', w', hrun, ho, hg, _, hblk⟩ := run_append_own_at (P := P) w w0.heap.size t ty e i z s bs hT.h g1 g4 g2 g3 (by rw [g5]; simpa using hz) (by omega) v es.length es.flatten hrow.1 ad es2.length cap es2.flatten hfl hcells
      (by intro u hu; obtain ⟨e', he, hue⟩ := List.mem_flatten.1 hu; exact (h2.good e' he).2 u hue) (by simp only [maxLen]; omega) hb hh.below.size
    refine ⟨v', w', hrun, hh.below.grown hg hh.below.size (fun k hk => (hrow.1.lt k hk).1), fun c hc => ?_, ?_⟩
    · rcases List.mem_cons.1 hc with rfl | hc
      · refine ⟨by simpa using ho, fun e' he => ?_⟩
        rcases List.mem_append.1 he with he | he
        · exact hrow.2 e' he
        · exact h2.good e' he
      · have hc' := hh.ok c (List.mem_cons_of_mem _ hc)
        refine Ch.ok_of hc' fun k hk => hg.block k (Ch.lt hc' hk).2 fun e' => ?_
        exact (List.pairwise_cons.1 hh.ap).1 c hc k e'.symm hk
    · have hp := List.pairwise_cons.1 hh.ap
      refine List.pairwise_cons.2 ⟨fun c hc k hk hk' => ?_, hp.2⟩
      simp only [Ch.has] at hk
      rcases hblk with hblk | hblk
      · exact hp.1 c hc k (hblk.symm.trans hk) hk'
      · rw [hk] at hblk
        simp only [Option.some.injEq] at hblk
        have := (Ch.lt (hh.ok c (List.mem_cons_of_mem _ hc)) hk').2
        omega

theorem og_append {x y : Operand} {t e : TypeId} {s bs : Nat} {zs : List Value} [hT : TySlice P t e] [hI : TyInfo P e s zs bs] (i : Nat) {v v2 : Value} {es es2 : List (List Value)}
    (hx : opv fr x = some v) (hy : opv fr y = some v2) (hi : H[i]? = some (.row v e s es)) (h2 : ∀ w, HeapOk w0 w H → Rd w v2 s es2) (hz : Nat.beq zs.length s = true) (hs1 : Nat.ble 1 s = true)
    (hb : (es.length + es2.length) * bs ≤ 140737488355328) (hm : es.length + es2.length ≤ 9223372036854775807) : OpG P n w0 fr H (.call ⟨.builtin .append, #[x, y], #[t, t]⟩) Triv (fun v' : Value => v') (fun v' => H.set i (.row v' e s (es ++ es2))) :=
  fun a w hr hh d T pos af gd K hK => by
    obtain ⟨v', w', hrun, hh'⟩ := run_append_row (P := P) (ty := T) hT hI (Nat.eq_of_beq_eq_true hz) (Nat.le_of_ble_eq_true hs1) (hh.front hi) (h2 w hh) hb hm
    have : (execOp a.eval ⟨d, .call ⟨.builtin .append, #[x, y], #[t, t]⟩, T, pos, af, gd⟩).run P w = .ok (.value v') w' := by
      simp only [execOp, resolve, invoke, builtin, Sem.run_bind, Sem.run_pure, Result.andThen_ok, List.map_toArray, List.map_cons, List.map_nil, hr.opv hx, hr.opv hy, hrun]
    unfold okAt; rw [this]
    exact hK v' _ trivial (hh'.perm (perm_set hi))

end
end Go.Proofs.YtpmphkcibiimcaaGreat
