/-
  The arguments of a law, opened: what can be read as data reads as lists of cells.
-/
import Derived.Test.YtpmphkcibiimcaaGreatModel
import Derived.ProofKit
import Derived.OpenShut
import Derived.ShutString
import Derived.ChangeOld
import Derived.Deep.Slices
import Derived.Deep.Fields
namespace Go.Proofs.YtpmphkcibiimcaaGreat
open Go.RowKit Go.ChangeShapes Go.WideShapes Go.Deep

section
variable {H : Type} {enc : TypeId × Value → H} {P : Program} {w : World} {base : Nat} {spare : Nat → Bool} {held : Bool}

/-- The cells of a struct whose fields have one cell each. -/
theorem struct_cells {t : TypeId} {fs : Array Field} {fuel : Nat} {cs : List Value} {x : DataW H × List MemPlace} (hs : P.underlying t = some (.struct fs)) (hone : oneCellFields P fs = true) (hC : P.cellsOf t = fs.size) (h : DataW.trod enc P w base spare held fuel t cs = some x) :
    cs.length = fs.size ∧ ∀ (i : Nat) (f : Field), fs[i]? = some f → ∃ v y n, cs[i]? = some v ∧ DataW.trod enc P w base spare held n f.type [v] = some y := by
  obtain ⟨xs, n, _, _, hl, hxl, hg⟩ := DataW.trod_struct hs h
  rw [hC] at hl
  refine ⟨hl, fun i f hf => ?_⟩
  obtain ⟨ho, hk⟩ := hone_of hone i f hf
  have hi : i < fs.size := (Array.getElem?_eq_some_iff.1 hf).1
  have h1 := hg i f hf
  rw [ho, hk] at h1
  have hci : cs[i]? = some (cs[i]'(by omega)) := List.getElem?_eq_getElem (by omega)
  have hd : (cs.drop i).take 1 = [cs[i]'(by omega)] := by
    rw [List.drop_eq_getElem_cons (by omega)]; rfl
  rw [hd] at h1
  have hx : xs[i]? = some (xs[i]'(by omega)) := List.getElem?_eq_getElem (by omega)
  exact ⟨_, _, n, hci, h1.trans hx⟩

theorem trod_int64 {t : TypeId} {fuel : Nat} {v : Value} {x : DataW H × List MemPlace} (ht : P.underlying t = some (.int .i64)) (h : DataW.trod enc P w base spare held fuel t [v] = some x) : ∃ z : Int, v = .int .i64 z ∧ -9223372036854775808 ≤ z ∧ z ≤ 9223372036854775807 := by
  obtain ⟨n, h1, _, h3⟩ := DataW.trod_int ht h
  simp only [List.cons.injEq, and_true] at h1
  refine ⟨n, h1, ?_⟩
  simp [Lit.wf, IntKind.min, IntKind.max, IntKind.signed, IntKind.bits] at h3
  omega

/-- Every element reads: then the slice reads as a list. -/
theorem open_rdQ {α : Type} (mk : α → List Value) (Q : α → Prop) {s : Nat} {t e : TypeId} {fuel : Nat} {v : Value} {x : DataW H × List MemPlace} (ht : P.underlying t = some (.slice e)) (hC : P.cellsOf e = s) (hs : 0 < s)
    (hel : ∀ n cs y, DataW.trod enc P w base spare held n e cs = some y → ∃ b : α, cs = mk b ∧ Q b) (hg : ∀ b, Q b → (mk b).length = s ∧ ∀ u ∈ mk b, u.oneCell' = true)
    (h : DataW.trod enc P w base spare held fuel t [v] = some x) : ∃ bs : List α, Rd w v s (bs.map mk) ∧ ∀ b ∈ bs, Q b := by
  rcases open_slice ht h with ⟨h0, _⟩ | ⟨a, len, cap, m, n, D, Pl, h0, hb, hl, hm, hmm, hx, hi⟩
  · simp only [List.cons.injEq, and_true] at h0
    subst h0
    exact ⟨[], Rd.nil_ w s, by simp⟩
  · simp only [List.cons.injEq, and_true] at h0
    subst h0
    have hlm : len ≤ m := by rw [hmm]; split <;> omega
    have hb : ∀ i, i < len → ∃ b : α, Q b ∧ ∀ j u, (mk b)[j]? = some u → w.cell? (a.add (i * s + j)) = some u := by
      intro i hil
      obtain ⟨cs', h1, h2⟩ := hi i (by omega)
      obtain ⟨b, rfl, hq⟩ := hel _ _ _ h2
      obtain ⟨_, hcl, hat⟩ := World.cells?_some h1
      rw [hC] at hat
      refine ⟨b, hq, fun j u hj => ?_⟩
      have hjl : j < s := by
        have := (hg b hq).1
        rcases Nat.lt_or_ge j (mk b).length with h | h
        · omega
        · rw [List.getElem?_eq_none h] at hj; cases hj
      have := hat j hjl
      rw [hj] at this
      rw [← Go.Deep.add_add]; exact this
    have hall : ∀ k, k ≤ len → ∃ bs : List α, bs.length = k ∧ (∀ b ∈ bs, Q b) ∧ ∀ i b, bs[i]? = some b → ∀ j u, (mk b)[j]? = some u → w.cell? (a.add (i * s + j)) = some u := by
      intro k
      induction k with
      | zero => intro _; exact ⟨[], rfl, by simp, by simp⟩
      | succ k ih =>
        intro hk
        obtain ⟨bs, hbl, hQ, hbs⟩ := ih (by omega)
        obtain ⟨b, hq, hb'⟩ := hb k (by omega)
        refine ⟨bs ++ [b], by simp [hbl], fun x hx => (by rcases List.mem_append.1 hx with hx | hx; · exact hQ x hx
                                                          · rw [List.mem_singleton.1 hx]; exact hq), fun i b' hib => ?_⟩
        rcases Nat.lt_or_ge i bs.length with hlt | hge
        · rw [List.getElem?_append_left hlt] at hib; exact hbs i b' hib
        · rw [List.getElem?_append_right hge] at hib
          have : i - bs.length = 0 := by
            rcases Nat.eq_zero_or_pos (i - bs.length) with h | h
            · exact h
            · rw [List.getElem?_eq_none (by simp; omega)] at hib; cases hib
          rw [this] at hib
          simp only [List.getElem?_cons_zero, Option.some.injEq] at hib
          subst hib
          have : i = k := by omega
          subst this
          exact hb'
    obtain ⟨bs, hbl, hQ, hbs⟩ := hall len (Nat.le_refl _)
    have hgood : ∀ e ∈ bs.map mk, e.length = s ∧ ∀ u ∈ e, u.oneCell' = true := by
      intro e he
      obtain ⟨b, hbm, rfl⟩ := List.mem_map.1 he
      exact hg b (hQ b hbm)
    have hsp : 0 < len → ∃ b o, a = ⟨b, o, none⟩ := by
      intro hpos
      have hb0 : 0 < bs.length := by omega
      have h0 : bs[0]? = some (bs[0]'hb0) := List.getElem?_eq_getElem hb0
      have hm0 : (mk (bs[0]'hb0))[0]? = some ((mk (bs[0]'hb0))[0]'(by have := (hg (bs[0]'hb0) (hQ _ (List.getElem_mem hb0))).1; omega)) := List.getElem?_eq_getElem _
      have := hbs 0 _ h0 0 _ hm0
      obtain ⟨ab, ao, asp⟩ := a
      cases asp with
      | none => exact ⟨ab, ao, rfl⟩
      | some q =>
        simp [World.cell?, Addr.add] at this
        split at this <;> cases this
    refine ⟨bs, ⟨⟨some a, cap, by simp [hbl], by simpa [hbl] using hl, hm, fun hpos => ?_⟩, hgood, ?_⟩, hQ⟩
    · obtain ⟨b, o, rfl⟩ := hsp (by simpa [hbl] using hpos)
      exact ⟨b, o, rfl⟩
    · intro j u hj
      have hlen := flatten_len (es := bs.map mk) (fun e he => (hgood e he).1)
      have hjl : j < bs.length * s := by
        rcases Nat.lt_or_ge j ((bs.map mk).flatten.length) with h | h
        · rw [hlen] at h; simpa using h
        · rw [List.getElem?_eq_none h] at hj; cases hj
      have hpos : 0 < len := by
        rcases Nat.eq_zero_or_pos bs.length with h | h
        · rw [h] at hjl; omega
        · omega
      obtain ⟨b, o, rfl⟩ := hsp hpos
      have hk : j / s < bs.length := (Nat.div_lt_iff_lt_mul hs).2 hjl
      have hbk : bs[j / s]? = some (bs[j / s]'hk) := List.getElem?_eq_getElem hk
      have hc : j % s < (mk (bs[j / s]'hk)).length := by rw [(hg _ (hQ _ (List.getElem_mem hk))).1]; exact Nat.mod_lt _ hs
      have hck := List.getElem?_eq_getElem hc
      have h1 := hbs _ _ hbk _ _ hck
      have h2 := flatten_get (fun e he => (hgood e he).1) (k := j / s) (by rw [List.getElem?_map, hbk]; rfl) hck
      rw [show j / s * s + j % s = j from by rw [Nat.mul_comm]; exact Nat.div_add_mod j s] at h1 h2
      rw [h2] at hj
      simp only [Option.some.injEq] at hj
      subst hj
      simpa [blkOf, offOf, Addr.add_lit] using h1

theorem open_rd {α : Type} (mk : α → List Value) {s : Nat} {t e : TypeId} {fuel : Nat} {v : Value} {x : DataW H × List MemPlace} (ht : P.underlying t = some (.slice e)) (hC : P.cellsOf e = s) (hs : 0 < s)
    (hel : ∀ n cs y, DataW.trod enc P w base spare held n e cs = some y → ∃ b : α, cs = mk b) (hg : ∀ b, (mk b).length = s ∧ ∀ u ∈ mk b, u.oneCell' = true)
    (h : DataW.trod enc P w base spare held fuel t [v] = some x) : ∃ bs : List α, Rd w v s (bs.map mk) := by
  obtain ⟨bs, hb, _⟩ := open_rdQ mk (fun _ => True) ht hC hs (fun n cs y hy => by obtain ⟨b, hb⟩ := hel n cs y hy; exact ⟨b, hb, trivial⟩) (fun b _ => hg b) h
  exact ⟨bs, hb⟩

/-- A list of numbers. -/
theorem open_ints {t e : TypeId} {fuel : Nat} {v : Value} {x : DataW H × List MemPlace} (ht : P.underlying t = some (.slice e)) (hC : P.cellsOf e = 1) (he : P.underlying e = some (.int .i64))
    (h : DataW.trod enc P w base spare held fuel t [v] = some x) : ∃ l : List Int, Rd w v 1 (l.map icell) :=
  open_rd icell ht hC (by omega) (fun n cs y hy => by
    obtain ⟨z, h1, _, _⟩ := DataW.trod_int he hy
    exact ⟨z, h1⟩) (fun b => ⟨rfl, by simp [icell, Value.oneCell']⟩) h

theorem cells_at {t : TypeId} {fs : Array Field} {ts : List TypeId} {fuel : Nat} {cs : List Value} {x : DataW H × List MemPlace} (hs : P.underlying t = some (.struct fs)) (hone : oneCellFields P fs = true) (hC : P.cellsOf t = fs.size) (hT : fs.toList.map (fun f => f.type) = ts)
    (h : DataW.trod enc P w base spare held fuel t cs = some x) : cs.length = ts.length ∧ ∀ (i : Nat) (τ : TypeId), ts[i]? = some τ → ∃ v y n, cs[i]? = some v ∧ DataW.trod enc P w base spare held n τ [v] = some y := by
  obtain ⟨hl, hg⟩ := struct_cells hs hone hC h
  subst hT
  refine ⟨by simp [hl], fun i τ hi => ?_⟩
  rw [List.getElem?_map] at hi
  cases hf : fs.toList[i]? with
  | none => rw [hf] at hi; cases hi
  | some f =>
    rw [hf] at hi
    simp only [Option.map_some, Option.some.injEq] at hi
    subst hi
    exact hg i f (by simpa using hf)

theorem flat_two {t ta tb : TypeId} {fs : Array Field} {fuel : Nat} {cs : List Value} {x : DataW H × List MemPlace} (hs : P.underlying t = some (.struct fs)) (hone : oneCellFields P fs = true) (hC : P.cellsOf t = fs.size) (hT : fs.toList.map (fun f => f.type) = [ta, tb])
    (h : DataW.trod enc P w base spare held fuel t cs = some x) : ∃ a b n m y z, cs = [a, b] ∧ DataW.trod enc P w base spare held n ta [a] = some y ∧ DataW.trod enc P w base spare held m tb [b] = some z := by
  obtain ⟨hl, hg⟩ := cells_at hs hone hC hT h
  obtain ⟨v0, _, _, c0, k0⟩ := hg 0 ta rfl
  obtain ⟨v1, _, _, c1, k1⟩ := hg 1 tb rfl
  match cs, hl with
  | [a, b], _ =>
    simp at c0 c1
    subst c0 c1
    exact ⟨_, _, _, _, _, _, rfl, k0, k1⟩
section
variable {t ti e t3 : TypeId} {fs : Array Field} {fuel : Nat} {cs : List Value} {x : DataW H × List MemPlace}
theorem flat_shelf (hs : P.underlying t = some (.struct fs)) (hone : oneCellFields P fs = true) (hC : P.cellsOf t = fs.size) (hT : fs.toList.map (fun f => f.type) = [ti, t3, t3, t3, t3])
    (hti : P.underlying ti = some (.slice e)) (hCe : P.cellsOf e = 1) (he : P.underlying e = some (.int .i64)) (h3 : P.underlying t3 = some (.int .i64))
    (h : DataW.trod enc P w base spare held fuel t cs = some x) : ∃ b : ShelfM × Value, cs = ShelfM.cells b ∧ Rd w b.2 1 (b.1.l.map icell) := by
  obtain ⟨hl, hg⟩ := cells_at hs hone hC hT h
  obtain ⟨v0, _, _, c0, k0⟩ := hg 0 ti rfl
  obtain ⟨v1, _, _, c1, k1⟩ := hg 1 t3 rfl
  obtain ⟨v2, _, _, c2, k2⟩ := hg 2 t3 rfl
  obtain ⟨v3, _, _, c3, k3⟩ := hg 3 t3 rfl
  obtain ⟨v4, _, _, c4, k4⟩ := hg 4 t3 rfl
  obtain ⟨l, hr⟩ := open_ints hti hCe he k0
  obtain ⟨z1, rfl, _⟩ := trod_int64 h3 k1
  obtain ⟨z2, rfl, _⟩ := trod_int64 h3 k2
  obtain ⟨z3, rfl, _⟩ := trod_int64 h3 k3
  obtain ⟨z4, rfl, _⟩ := trod_int64 h3 k4
  match cs, hl with
  | [a, b, c, d, f], _ =>
    simp at c0 c1 c2 c3 c4
    subst c0 c1 c2 c3 c4
    exact ⟨(⟨l, z1, z2, z3, z4⟩, a), rfl, hr⟩
theorem flat_layer (hs : P.underlying t = some (.struct fs)) (hone : oneCellFields P fs = true) (hC : P.cellsOf t = fs.size) (hT : fs.toList.map (fun f => f.type) = [ti, t3, t3, t3])
    (hti : P.underlying ti = some (.slice e)) (hCe : P.cellsOf e = 1) (he : P.underlying e = some (.int .i64)) (h3 : P.underlying t3 = some (.int .i64))
    (h : DataW.trod enc P w base spare held fuel t cs = some x) : ∃ b : LayerM × Value, cs = LayerM.cells b ∧ Rd w b.2 1 (b.1.l.map icell) := by
  obtain ⟨hl, hg⟩ := cells_at hs hone hC hT h
  obtain ⟨v0, _, _, c0, k0⟩ := hg 0 ti rfl
  obtain ⟨v1, _, _, c1, k1⟩ := hg 1 t3 rfl
  obtain ⟨v2, _, _, c2, k2⟩ := hg 2 t3 rfl
  obtain ⟨v3, _, _, c3, k3⟩ := hg 3 t3 rfl
  obtain ⟨l, hr⟩ := open_ints hti hCe he k0
  obtain ⟨z1, rfl, _⟩ := trod_int64 h3 k1
  obtain ⟨z2, rfl, _⟩ := trod_int64 h3 k2
  obtain ⟨z3, rfl, _⟩ := trod_int64 h3 k3
  match cs, hl with
  | [a, b, c, d], _ =>
    simp at c0 c1 c2 c3
    subst c0 c1 c2 c3
    exact ⟨(⟨l, z1, z2, z3⟩, a), rfl, hr⟩
theorem flat_carton (hs : P.underlying t = some (.struct fs)) (hone : oneCellFields P fs = true) (hC : P.cellsOf t = fs.size) (hT : fs.toList.map (fun f => f.type) = [t3, t3, ti])
    (hti : P.underlying ti = some (.slice e)) (hCe : P.cellsOf e = 1) (he : P.underlying e = some (.int .i64)) (h3 : P.underlying t3 = some (.int .i64))
    (h : DataW.trod enc P w base spare held fuel t cs = some x) : ∃ b : CartonM × Value, cs = CartonM.cells b ∧ Rd w b.2 1 (b.1.l.map icell) := by
  obtain ⟨hl, hg⟩ := cells_at hs hone hC hT h
  obtain ⟨v0, _, _, c0, k0⟩ := hg 0 t3 rfl
  obtain ⟨v1, _, _, c1, k1⟩ := hg 1 t3 rfl
  obtain ⟨v2, _, _, c2, k2⟩ := hg 2 ti rfl
  obtain ⟨l, hr⟩ := open_ints hti hCe he k2
  obtain ⟨z0, rfl, _⟩ := trod_int64 h3 k0
  obtain ⟨z1, rfl, _⟩ := trod_int64 h3 k1
  match cs, hl with
  | [a, b, c], _ =>
    simp at c0 c1 c2
    subst c0 c1 c2
    exact ⟨(⟨z0, z1, l⟩, c), rfl, hr⟩
end
theorem rd_one {v : Value} {s : Nat} {es : List (List Value)} (h : Rd w v s es) : v.oneCell' = true := h.one_

/-- All fields are int64. -/
def intsB (P : Program) (t : TypeId) (n : Nat) : Bool :=
  match P.underlying t with
  | some (.struct fs) => fs.size == n && oneCellFields P fs && P.cellsOf t == n && fs.toList.all fun f => match P.underlying f.type with | some (.int .i64) => true | _ => false
  | _ => false

theorem flat_ints {t : TypeId} {n : Nat} {fuel : Nat} {cs : List Value} {x : DataW H × List MemPlace} (hB : intsB P t n = true) (h : DataW.trod enc P w base spare held fuel t cs = some x) : ∃ zs : List Int, zs.length = n ∧ cs = zs.map (Value.int .i64) := by
  unfold intsB at hB
  split at hB
  · rename_i fs hs
    simp only [Bool.and_eq_true, beq_iff_eq, List.all_eq_true] at hB
    obtain ⟨⟨⟨h1, h2⟩, h3⟩, h4⟩ := hB
    obtain ⟨hl, hg⟩ := struct_cells hs h2 (h3.trans h1.symm) h
    have hall : ∀ i (hi : i < cs.length), ∃ z, cs[i] = Value.int .i64 z := by
      intro i hi
      have hf : fs[i]? = some (fs[i]'(by omega)) := Array.getElem?_eq_getElem (by omega)
      obtain ⟨v, y, m, hc, ht⟩ := hg i _ hf
      have hu := h4 (fs[i]'(by omega)) (Array.getElem_mem_toList _)
      split at hu
      · rename_i hu'
        obtain ⟨z, hz, _⟩ := trod_int64 hu' ht
        rw [List.getElem?_eq_getElem hi] at hc
        simp only [Option.some.injEq] at hc
        exact ⟨z, hc.trans hz⟩
      · cases hu
    clear hg h
    have : ∃ zs : List Int, cs = zs.map (Value.int .i64) := by
      clear hl h1 h2 h3 h4
      induction cs with
      | nil => exact ⟨[], rfl⟩
      | cons c r ih =>
        obtain ⟨z, hz⟩ := hall 0 (by simp)
        obtain ⟨zs, hzs⟩ := ih (fun i hi => hall (i + 1) (by simpa using hi))
        refine ⟨z :: zs, ?_⟩
        simp only [List.getElem_cons_zero] at hz
        rw [hz, hzs]; rfl
    obtain ⟨zs, hzs⟩ := this
    exact ⟨zs, by rw [hzs] at hl; simp at hl; omega, hzs⟩
  · cases hB

theorem flat_ints4 {t : TypeId} {fuel : Nat} {cs : List Value} {x : DataW H × List MemPlace} (hB : intsB P t 4 = true) (h : DataW.trod enc P w base spare held fuel t cs = some x) : ∃ a b c d : Int, cs = [.int .i64 a, .int .i64 b, .int .i64 c, .int .i64 d] := by
  obtain ⟨zs, hl, rfl⟩ := flat_ints hB h
  match zs, hl with
  | [a, b, c, d], _ => exact ⟨a, b, c, d, rfl⟩
theorem flat_ints2 {t : TypeId} {fuel : Nat} {cs : List Value} {x : DataW H × List MemPlace} (hB : intsB P t 2 = true) (h : DataW.trod enc P w base spare held fuel t cs = some x) : ∃ a b : Int, cs = [.int .i64 a, .int .i64 b] := by
  obtain ⟨zs, hl, rfl⟩ := flat_ints hB h
  match zs, hl with
  | [a, b], _ => exact ⟨a, b, rfl⟩
theorem flat_ints7 {t : TypeId} {fuel : Nat} {cs : List Value} {x : DataW H × List MemPlace} (hB : intsB P t 7 = true) (h : DataW.trod enc P w base spare held fuel t cs = some x) : ∃ a b c d e f g : Int, cs = [.int .i64 a, .int .i64 b, .int .i64 c, .int .i64 d, .int .i64 e, .int .i64 f, .int .i64 g] := by
  obtain ⟨zs, hl, rfl⟩ := flat_ints hB h
  match zs, hl with
  | [a, b, c, d, e, f, g], _ => exact ⟨a, b, c, d, e, f, g, rfl⟩

/-- A struct by value. -/
theorem open_val {r : Reach} {b0 : Nat} {t : TypeId} {v : Value} {d : DataW H} {p : List MemPlace} {fs : Array Field} (hs : P.underlying t = some (.struct fs)) (hv : Value.okWide P w r b0 t v) (h : DataW.Trod enc P w base spare held t v d p) :
    ∃ (cs : List Value) (fuel : Nat), v = .agg cs.toArray ∧ DataW.trod enc P w base spare held fuel t cs = some (d, p) := by
  obtain ⟨cs, rfl, _⟩ := okWide_struct hs hv
  obtain ⟨fuel, hf⟩ := h
  exact ⟨cs.toList, fuel, by simp, hf⟩
theorem open_slv {r : Reach} {b0 : Nat} {t e : TypeId} {v : Value} {d : DataW H} {p : List MemPlace} (hs : P.underlying t = some (.slice e)) (hv : Value.okWide P w r b0 t v) (h : DataW.Trod enc P w base spare held t v d p) :
    ∃ fuel : Nat, DataW.trod enc P w base spare held fuel t [v] = some (d, p) := by
  obtain ⟨a, l, c, rfl⟩ := okWide_slice hs hv
  obtain ⟨fuel, hf⟩ := h
  exact ⟨fuel, hf⟩
end
end Go.Proofs.YtpmphkcibiimcaaGreat
