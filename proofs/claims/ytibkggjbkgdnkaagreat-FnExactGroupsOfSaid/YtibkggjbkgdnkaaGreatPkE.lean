/-
  Texts of this proof, one behind the other: Open, OpenR, MarkR, Facts, Grp1, Kinds, Kinds2, Kinds3, PresP, Pres, Grp2, Grp3, MarkSS, PutM, Push, Grp4, Grp5, Grp6.
-/
import Derived.Test.YtibkggjbkgdnkaaGreatPkA
import Derived.ProofKit
import Derived.OpenShut
import Derived.ShutString
import Derived.ChangeOld
import Derived.Deep.Slices
import Derived.Deep.Fields
import Derived.Test.YtibkggjbkgdnkaaGreatPkC
import Derived.Test.YtibkggjbkgdnkaaGreatPkB
import Derived.Test.YtibkggjbkgdnkaaGreatRows
import Derived.JoinedOf
import Derived.Test.YtibkggjbkgdnkaaGreatPkD

/-
  The arguments of a law, opened: what can be read as data reads as lists of cells.
-/
namespace Go.Proofs.YtibkggjbkgdnkaaGreat
open Go.RowKit Go.ChangeShapes Go.WideShapes Go.Deep

section
variable {H : Type} {enc : TypeId × Value → H} {P : Program} {w : World} {base : Nat} {spare : Nat → Bool} {held : Bool}

/-- The cells of a struct whose fields have one cell each. -/
theorem struct_cells {t : TypeId} {fs : Array Field} {fuel : Nat} {cs : List Value} {x : DataW H × List MemPlace} (hs : P.underlying t = some (.struct fs)) (hone : oneCellFields P fs = true) (hC : P.cellsOf t = fs.size) (h : DataW.trod enc P w base spare held fuel t cs = some x) :
    cs.length = fs.size ∧ ∀ (i : Nat) (f : Field), fs[i]? = some f → ∃ v y n, cs[i]? = some v ∧ DataW.trod enc P w base spare held n f.type [v] = some y := by
  obtain ⟨xs, n, _, _, hl, hxl, hg⟩ := DataW.trod_struct hs h
  rw [hC] at hl
  refine ⟨hl, fun i f hf => ?_⟩
  obtain ⟨ho, hk⟩ := hone_of hone i f hf
  have hi : i < fs.size := (Array.getElem?_eq_some_iff.1 hf).1
  have h1 := hg i f hf
  rw [ho, hk] at h1
  have hci : cs[i]? = some (cs[i]'(by omega)) := List.getElem?_eq_getElem (by omega)
  have hd : (cs.drop i).take 1 = [cs[i]'(by omega)] := by
    rw [List.drop_eq_getElem_cons (by omega)]; rfl
  rw [hd] at h1
  have hx : xs[i]? = some (xs[i]'(by omega)) := List.getElem?_eq_getElem (by omega)
  exact ⟨_, _, n, hci, h1.trans hx⟩

theorem trod_int64 {t : TypeId} {fuel : Nat} {v : Value} {x : DataW H × List MemPlace} (ht : P.underlying t = some (.int .i64)) (h : DataW.trod enc P w base spare held fuel t [v] = some x) : ∃ z : Int, v = .int .i64 z ∧ -9223372036854775808 ≤ z ∧ z ≤ 9223372036854775807 := by
  obtain ⟨n, h1, _, h3⟩ := DataW.trod_int ht h
  simp only [List.cons.injEq, and_true] at h1
  refine ⟨n, h1, ?_⟩
  simp [Lit.wf, IntKind.min, IntKind.max, IntKind.signed, IntKind.bits] at h3
  omega

/-- Every element reads: then the slice reads as a list. -/
theorem open_rdQ {α : Type} (mk : α → List Value) (Q : α → Prop) {s : Nat} {t e : TypeId} {fuel : Nat} {v : Value} {x : DataW H × List MemPlace} (ht : P.underlying t = some (.slice e)) (hC : P.cellsOf e = s) (hs : 0 < s)
    (hel : ∀ n cs y, DataW.trod enc P w base spare held n e cs = some y → ∃ b : α, cs = mk b ∧ Q b) (hg : ∀ b, Q b → (mk b).length = s ∧ ∀ u ∈ mk b, u.oneCell' = true)
    (h : DataW.trod enc P w base spare held fuel t [v] = some x) : ∃ bs : List α, Rd w v s (bs.map mk) ∧ ∀ b ∈ bs, Q b := by
  rcases open_slice ht h with ⟨h0, _⟩ | ⟨a, len, cap, m, n, D, Pl, h0, hb, hl, hm, hmm, hx, hi⟩
  · simp only [List.cons.injEq, and_true] at h0
    subst h0
    exact ⟨[], Rd.nil_ w s, by simp⟩
  · simp only [List.cons.injEq, and_true] at h0
    subst h0
    have hlm : len ≤ m := by rw [hmm]; split <;> omega
    have hb : ∀ i, i < len → ∃ b : α, Q b ∧ ∀ j u, (mk b)[j]? = some u → w.cell? (a.add (i * s + j)) = some u := by
      intro i hil
      obtain ⟨cs', h1, h2⟩ := hi i (by omega)
      obtain ⟨b, rfl, hq⟩ := hel _ _ _ h2
      obtain ⟨_, hcl, hat⟩ := World.cells?_some h1
      rw [hC] at hat
      refine ⟨b, hq, fun j u hj => ?_⟩
      have hjl : j < s := by
        have := (hg b hq).1
        rcases Nat.lt_or_ge j (mk b).length with h | h
        · omega
        · rw [List.getElem?_eq_none h] at hj; cases hj
      have := hat j hjl
      rw [hj] at this
      rw [← Go.Deep.add_add]; exact this
    have hall : ∀ k, k ≤ len → ∃ bs : List α, bs.length = k ∧ (∀ b ∈ bs, Q b) ∧ ∀ i b, bs[i]? = some b → ∀ j u, (mk b)[j]? = some u → w.cell? (a.add (i * s + j)) = some u := by
      intro k
      induction k with
      | zero => intro _; exact ⟨[], rfl, by simp, by simp⟩
      | succ k ih =>
        intro hk
        obtain ⟨bs, hbl, hQ, hbs⟩ := ih (by omega)
        obtain ⟨b, hq, hb'⟩ := hb k (by omega)
        refine ⟨bs ++ [b], by simp [hbl], fun x hx => (by rcases List.mem_append.1 hx with hx | hx; · exact hQ x hx
                                                          · rw [List.mem_singleton.1 hx]; exact hq), fun i b' hib => ?_⟩
        rcases Nat.lt_or_ge i bs.length with hlt | hge
        · rw [List.getElem?_append_left hlt] at hib; exact hbs i b' hib
        · rw [List.getElem?_append_right hge] at hib
          have : i - bs.length = 0 := by
            rcases Nat.eq_zero_or_pos (i - bs.length) with h | h
            · exact h
            · rw [List.getElem?_eq_none (by simp; omega)] at hib; cases hib
          rw [this] at hib
          simp only [List.getElem?_cons_zero, Option.some.injEq] at hib
          subst hib
          have : i = k := by omega
          subst this
          exact hb'
    obtain ⟨bs, hbl, hQ, hbs⟩ := hall len (Nat.le_refl _)
    have hgood : ∀ e ∈ bs.map mk, e.length = s ∧ ∀ u ∈ e, u.oneCell' = true := by
      intro e he
      obtain ⟨b, hbm, rfl⟩ := List.mem_map.1 he
      exact hg b (hQ b hbm)
    have hsp : 0 < len → ∃ b o, a = ⟨b, o, none⟩ := by
      intro hpos
      have hb0 : 0 < bs.length := by omega
      have h0 : bs[0]? = some (bs[0]'hb0) := List.getElem?_eq_getElem hb0
      have hm0 : (mk (bs[0]'hb0))[0]? = some ((mk (bs[0]'hb0))[0]'(by have := (hg (bs[0]'hb0) (hQ _ (List.getElem_mem hb0))).1; omega)) := List.getElem?_eq_getElem _
      have := hbs 0 _ h0 0 _ hm0
      obtain ⟨ab, ao, asp⟩ := a
      cases asp with
      | none => exact ⟨ab, ao, rfl⟩
      | some q =>
        simp [World.cell?, Addr.add] at this
        split at this <;> cases this
    refine ⟨bs, ⟨⟨some a, cap, by simp [hbl], by simpa [hbl] using hl, hm, fun hpos => ?_⟩, hgood, ?_⟩, hQ⟩
    · obtain ⟨b, o, rfl⟩ := hsp (by simpa [hbl] using hpos)
      exact ⟨b, o, rfl⟩
    · intro j u hj
      have hlen := flatten_len (es := bs.map mk) (fun e he => (hgood e he).1)
      have hjl : j < bs.length * s := by
        rcases Nat.lt_or_ge j ((bs.map mk).flatten.length) with h | h
        · rw [hlen] at h; simpa using h
        · rw [List.getElem?_eq_none h] at hj; cases hj
      have hpos : 0 < len := by
        rcases Nat.eq_zero_or_pos bs.length with h | h
        · rw [h] at hjl; omega
        · omega
      obtain ⟨b, o, rfl⟩ := hsp hpos
      have hk : j / s < bs.length := (Nat.div_lt_iff_lt_mul hs).2 hjl
      have hbk : bs[j / s]? = some (bs[j / s]'hk) := List.getElem?_eq_getElem hk
      have hc : j % s < (mk (bs[j / s]'hk)).length := by rw [(hg _ (hQ _ (List.getElem_mem hk))).1]; exact Nat.mod_lt _ hs
      have hck := List.getElem?_eq_getElem hc
      have h1 := hbs _ _ hbk _ _ hck
      have h2 := flatten_get (fun e he => (hgood e he).1) (k := j / s) (by rw [List.getElem?_map, hbk]; rfl) hck
      rw [show j / s * s + j % s = j from by rw [Nat.mul_comm]; exact Nat.div_add_mod j s] at h1 h2
      rw [h2] at hj
      simp only [Option.some.injEq] at hj
      subst hj
      simpa [blkOf, offOf, Addr.add_lit] using h1

theorem open_rd {α : Type} (mk : α → List Value) {s : Nat} {t e : TypeId} {fuel : Nat} {v : Value} {x : DataW H × List MemPlace} (ht : P.underlying t = some (.slice e)) (hC : P.cellsOf e = s) (hs : 0 < s)
    (hel : ∀ n cs y, DataW.trod enc P w base spare held n e cs = some y → ∃ b : α, cs = mk b) (hg : ∀ b, (mk b).length = s ∧ ∀ u ∈ mk b, u.oneCell' = true)
    (h : DataW.trod enc P w base spare held fuel t [v] = some x) : ∃ bs : List α, Rd w v s (bs.map mk) := by
  obtain ⟨bs, hb, _⟩ := open_rdQ mk (fun _ => True) ht hC hs (fun n cs y hy => by obtain ⟨b, hb⟩ := hel n cs y hy; exact ⟨b, hb, trivial⟩) (fun b _ => hg b) h
  exact ⟨bs, hb⟩

/-- A list of numbers. -/
theorem open_ints {t e : TypeId} {fuel : Nat} {v : Value} {x : DataW H × List MemPlace} (ht : P.underlying t = some (.slice e)) (hC : P.cellsOf e = 1) (he : P.underlying e = some (.int .i64))
    (h : DataW.trod enc P w base spare held fuel t [v] = some x) : ∃ l : List Int, Rd w v 1 (l.map icell) :=
  open_rd icell ht hC (by omega) (fun n cs y hy => by
    obtain ⟨z, h1, _, _⟩ := DataW.trod_int he hy
    exact ⟨z, h1⟩) (fun b => ⟨rfl, by simp [icell, Value.oneCell']⟩) h

theorem cells_at {t : TypeId} {fs : Array Field} {ts : List TypeId} {fuel : Nat} {cs : List Value} {x : DataW H × List MemPlace} (hs : P.underlying t = some (.struct fs)) (hone : oneCellFields P fs = true) (hC : P.cellsOf t = fs.size) (hT : fs.toList.map (fun f => f.type) = ts)
    (h : DataW.trod enc P w base spare held fuel t cs = some x) : cs.length = ts.length ∧ ∀ (i : Nat) (τ : TypeId), ts[i]? = some τ → ∃ v y n, cs[i]? = some v ∧ DataW.trod enc P w base spare held n τ [v] = some y := by
  obtain ⟨hl, hg⟩ := struct_cells hs hone hC h
  subst hT
  refine ⟨by simp [hl], fun i τ hi => ?_⟩
  rw [List.getElem?_map] at hi
  cases hf : fs.toList[i]? with
  | none => rw [hf] at hi; cases hi
  | some f =>
    rw [hf] at hi
    simp only [Option.map_some, Option.some.injEq] at hi
    subst hi
    exact hg i f (by simpa using hf)

theorem flat_two {t ta tb : TypeId} {fs : Array Field} {fuel : Nat} {cs : List Value} {x : DataW H × List MemPlace} (hs : P.underlying t = some (.struct fs)) (hone : oneCellFields P fs = true) (hC : P.cellsOf t = fs.size) (hT : fs.toList.map (fun f => f.type) = [ta, tb])
    (h : DataW.trod enc P w base spare held fuel t cs = some x) : ∃ a b n m y z, cs = [a, b] ∧ DataW.trod enc P w base spare held n ta [a] = some y ∧ DataW.trod enc P w base spare held m tb [b] = some z := by
  obtain ⟨hl, hg⟩ := cells_at hs hone hC hT h
  obtain ⟨v0, _, _, c0, k0⟩ := hg 0 ta rfl
  obtain ⟨v1, _, _, c1, k1⟩ := hg 1 tb rfl
  match cs, hl with
  | [a, b], _ =>
    simp at c0 c1
    subst c0 c1
    exact ⟨_, _, _, _, _, _, rfl, k0, k1⟩
section
variable {t ti e t3 : TypeId} {fs : Array Field} {fuel : Nat} {cs : List Value} {x : DataW H × List MemPlace}
theorem flat_shelf (hs : P.underlying t = some (.struct fs)) (hone : oneCellFields P fs = true) (hC : P.cellsOf t = fs.size) (hT : fs.toList.map (fun f => f.type) = [ti, t3, t3, t3, t3])
    (hti : P.underlying ti = some (.slice e)) (hCe : P.cellsOf e = 1) (he : P.underlying e = some (.int .i64)) (h3 : P.underlying t3 = some (.int .i64))
    (h : DataW.trod enc P w base spare held fuel t cs = some x) : ∃ b : ShelfM × Value, cs = ShelfM.cells b ∧ Rd w b.2 1 (b.1.l.map icell) := by
  obtain ⟨hl, hg⟩ := cells_at hs hone hC hT h
  obtain ⟨v0, _, _, c0, k0⟩ := hg 0 ti rfl
  obtain ⟨v1, _, _, c1, k1⟩ := hg 1 t3 rfl
  obtain ⟨v2, _, _, c2, k2⟩ := hg 2 t3 rfl
  obtain ⟨v3, _, _, c3, k3⟩ := hg 3 t3 rfl
  obtain ⟨v4, _, _, c4, k4⟩ := hg 4 t3 rfl
  obtain ⟨l, hr⟩ := open_ints hti hCe he k0
  obtain ⟨z1, rfl, _⟩ := trod_int64 h3 k1
  obtain ⟨z2, rfl, _⟩ := trod_int64 h3 k2
  obtain ⟨z3, rfl, _⟩ := trod_int64 h3 k3
  obtain ⟨z4, rfl, _⟩ := trod_int64 h3 k4
  match cs, hl with
  | [a, b, c, d, f], _ =>
    simp at c0 c1 c2 c3 c4
    subst c0 c1 c2 c3 c4
    exact ⟨(⟨l, z1, z2, z3, z4⟩, a), rfl, hr⟩
theorem flat_layer (hs : P.underlying t = some (.struct fs)) (hone : oneCellFields P fs = true) (hC : P.cellsOf t = fs.size) (hT : fs.toList.map (fun f => f.type) = [ti, t3, t3, t3])
    (hti : P.underlying ti = some (.slice e)) (hCe : P.cellsOf e = 1) (he : P.underlying e = some (.int .i64)) (h3 : P.underlying t3 = some (.int .i64))
    (h : DataW.trod enc P w base spare held fuel t cs = some x) : ∃ b : LayerM × Value, cs = LayerM.cells b ∧ Rd w b.2 1 (b.1.l.map icell) := by
  obtain ⟨hl, hg⟩ := cells_at hs hone hC hT h
  obtain ⟨v0, _, _, c0, k0⟩ := hg 0 ti rfl
  obtain ⟨v1, _, _, c1, k1⟩ := hg 1 t3 rfl
  obtain ⟨v2, _, _, c2, k2⟩ := hg 2 t3 rfl
  obtain ⟨v3, _, _, c3, k3⟩ := hg 3 t3 rfl
  obtain ⟨l, hr⟩ := open_ints hti hCe he k0
  obtain ⟨z1, rfl, _⟩ := trod_int64 h3 k1
  obtain ⟨z2, rfl, _⟩ := trod_int64 h3 k2
  obtain ⟨z3, rfl, _⟩ := trod_int64 h3 k3
  match cs, hl with
  | [a, b, c, d], _ =>
    simp at c0 c1 c2 c3
    subst c0 c1 c2 c3
    exact ⟨(⟨l, z1, z2, z3⟩, a), rfl, hr⟩
theorem flat_carton (hs : P.underlying t = some (.struct fs)) (hone : oneCellFields P fs = true) (hC : P.cellsOf t = fs.size) (hT : fs.toList.map (fun f => f.type) = [t3, t3, ti])
    (hti : P.underlying ti = some (.slice e)) (hCe : P.cellsOf e = 1) (he : P.underlying e = some (.int .i64)) (h3 : P.underlying t3 = some (.int .i64))
    (h : DataW.trod enc P w base spare held fuel t cs = some x) : ∃ b : CartonM × Value, cs = CartonM.cells b ∧ Rd w b.2 1 (b.1.l.map icell) := by
  obtain ⟨hl, hg⟩ := cells_at hs hone hC hT h
  obtain ⟨v0, _, _, c0, k0⟩ := hg 0 t3 rfl
  obtain ⟨v1, _, _, c1, k1⟩ := hg 1 t3 rfl
  obtain ⟨v2, _, _, c2, k2⟩ := hg 2 ti rfl
  obtain ⟨l, hr⟩ := open_ints hti hCe he k2
  obtain ⟨z0, rfl, _⟩ := trod_int64 h3 k0
  obtain ⟨z1, rfl, _⟩ := trod_int64 h3 k1
  match cs, hl with
  | [a, b, c], _ =>
    simp at c0 c1 c2
    subst c0 c1 c2
    exact ⟨(⟨z0, z1, l⟩, c), rfl, hr⟩
end
theorem rd_one {v : Value} {s : Nat} {es : List (List Value)} (h : Rd w v s es) : v.oneCell' = true := h.one_

/-- All fields are int64. -/
def intsB (P : Program) (t : TypeId) (n : Nat) : Bool :=
  match P.underlying t with
  | some (.struct fs) => fs.size == n && oneCellFields P fs && P.cellsOf t == n && fs.toList.all fun f => match P.underlying f.type with | some (.int .i64) => true | _ => false
  | _ => false

theorem flat_ints {t : TypeId} {n : Nat} {fuel : Nat} {cs : List Value} {x : DataW H × List MemPlace} (hB : intsB P t n = true) (h : DataW.trod enc P w base spare held fuel t cs = some x) : ∃ zs : List Int, zs.length = n ∧ cs = zs.map (Value.int .i64) := by
  unfold intsB at hB
  split at hB
  · rename_i fs hs
    simp only [Bool.and_eq_true, beq_iff_eq, List.all_eq_true] at hB
    obtain ⟨⟨⟨h1, h2⟩, h3⟩, h4⟩ := hB
    obtain ⟨hl, hg⟩ := struct_cells hs h2 (h3.trans h1.symm) h
    have hall : ∀ i (hi : i < cs.length), ∃ z, cs[i] = Value.int .i64 z := by
      intro i hi
      have hf : fs[i]? = some (fs[i]'(by omega)) := Array.getElem?_eq_getElem (by omega)
      obtain ⟨v, y, m, hc, ht⟩ := hg i _ hf
      have hu := h4 (fs[i]'(by omega)) (Array.getElem_mem_toList _)
      split at hu
      · rename_i hu'
        obtain ⟨z, hz, _⟩ := trod_int64 hu' ht
        rw [List.getElem?_eq_getElem hi] at hc
        simp only [Option.some.injEq] at hc
        exact ⟨z, hc.trans hz⟩
      · cases hu
    clear hg h
    have : ∃ zs : List Int, cs = zs.map (Value.int .i64) := by
      clear hl h1 h2 h3 h4
      induction cs with
      | nil => exact ⟨[], rfl⟩
      | cons c r ih =>
        obtain ⟨z, hz⟩ := hall 0 (by simp)
        obtain ⟨zs, hzs⟩ := ih (fun i hi => hall (i + 1) (by simpa using hi))
        refine ⟨z :: zs, ?_⟩
        simp only [List.getElem_cons_zero] at hz
        rw [hz, hzs]; rfl
    obtain ⟨zs, hzs⟩ := this
    exact ⟨zs, by rw [hzs] at hl; simp at hl; omega, hzs⟩
  · cases hB

theorem flat_ints4 {t : TypeId} {fuel : Nat} {cs : List Value} {x : DataW H × List MemPlace} (hB : intsB P t 4 = true) (h : DataW.trod enc P w base spare held fuel t cs = some x) : ∃ a b c d : Int, cs = [.int .i64 a, .int .i64 b, .int .i64 c, .int .i64 d] := by
  obtain ⟨zs, hl, rfl⟩ := flat_ints hB h
  match zs, hl with
  | [a, b, c, d], _ => exact ⟨a, b, c, d, rfl⟩
theorem flat_ints2 {t : TypeId} {fuel : Nat} {cs : List Value} {x : DataW H × List MemPlace} (hB : intsB P t 2 = true) (h : DataW.trod enc P w base spare held fuel t cs = some x) : ∃ a b : Int, cs = [.int .i64 a, .int .i64 b] := by
  obtain ⟨zs, hl, rfl⟩ := flat_ints hB h
  match zs, hl with
  | [a, b], _ => exact ⟨a, b, rfl⟩
theorem flat_ints7 {t : TypeId} {fuel : Nat} {cs : List Value} {x : DataW H × List MemPlace} (hB : intsB P t 7 = true) (h : DataW.trod enc P w base spare held fuel t cs = some x) : ∃ a b c d e f g : Int, cs = [.int .i64 a, .int .i64 b, .int .i64 c, .int .i64 d, .int .i64 e, .int .i64 f, .int .i64 g] := by
  obtain ⟨zs, hl, rfl⟩ := flat_ints hB h
  match zs, hl with
  | [a, b, c, d, e, f, g], _ => exact ⟨a, b, c, d, e, f, g, rfl⟩

/-- A struct by value. -/
theorem open_val {r : Reach} {b0 : Nat} {t : TypeId} {v : Value} {d : DataW H} {p : List MemPlace} {fs : Array Field} (hs : P.underlying t = some (.struct fs)) (hv : Value.okWide P w r b0 t v) (h : DataW.Trod enc P w base spare held t v d p) :
    ∃ (cs : List Value) (fuel : Nat), v = .agg cs.toArray ∧ DataW.trod enc P w base spare held fuel t cs = some (d, p) := by
  obtain ⟨cs, rfl, _⟩ := okWide_struct hs hv
  obtain ⟨fuel, hf⟩ := h
  exact ⟨cs.toList, fuel, by simp, hf⟩
theorem open_slv {r : Reach} {b0 : Nat} {t e : TypeId} {v : Value} {d : DataW H} {p : List MemPlace} (hs : P.underlying t = some (.slice e)) (hv : Value.okWide P w r b0 t v) (h : DataW.Trod enc P w base spare held t v d p) :
    ∃ fuel : Nat, DataW.trod enc P w base spare held fuel t [v] = some (d, p) := by
  obtain ⟨a, l, c, rfl⟩ := okWide_slice hs hv
  obtain ⟨fuel, hf⟩ := h
  exact ⟨fuel, hf⟩
end
end Go.Proofs.YtibkggjbkgdnkaaGreat

/-
  Orders and cartons, opened.
-/
namespace Go.Proofs.YtibkggjbkgdnkaaGreat
open Go.RowKit Go.ChangeShapes Go.WideShapes Go.Deep
section
variable {H : Type} {enc : TypeId × Value → H} {P : Program} {w : World} {base : Nat} {spare : Nat → Bool} {held : Bool}
theorem fields_at {t : TypeId} {fs : Array Field} {ts : List (TypeId × Nat × Nat)} {m : Nat} {fuel : Nat} {cs : List Value} {x : DataW H × List MemPlace} (hs : P.underlying t = some (.struct fs)) (hC : P.cellsOf t = m) (hT : fs.toList.map (fun f => (f.type, f.offset, P.cellsOf f.type)) = ts)
    (h : DataW.trod enc P w base spare held fuel t cs = some x) : cs.length = m ∧ ∀ (i : Nat) (τ : TypeId) (o k : Nat), ts[i]? = some (τ, o, k) → ∃ y n, DataW.trod enc P w base spare held n τ ((cs.drop o).take k) = some y := by
  obtain ⟨xs, n, _, _, hl, hxl, hg⟩ := DataW.trod_struct hs h
  subst hT
  refine ⟨hl.trans hC, fun i τ o k hi => ?_⟩
  rw [List.getElem?_map] at hi
  cases hf : fs.toList[i]? with
  | none => rw [hf] at hi; cases hi
  | some f =>
    rw [hf] at hi
    simp only [Option.map_some, Option.some.injEq, Prod.mk.injEq] at hi
    obtain ⟨rfl, rfl, rfl⟩ := hi
    have hf' : fs[i]? = some f := by simpa using hf
    have hix : i < xs.length := by rw [hxl]; exact (Array.getElem?_eq_some_iff.1 hf').1
    exact ⟨_, n, (hg i f hf').trans (List.getElem?_eq_getElem hix)⟩
theorem flat_req {t t3 tp tpv ttv tiv : TypeId} {fs : Array Field} {fuel : Nat} {cs : List Value} {x : DataW H × List MemPlace} (hs : P.underlying t = some (.struct fs)) (hC : P.cellsOf t = 10)
    (hT : fs.toList.map (fun f => (f.type, f.offset, P.cellsOf f.type)) = [(t3, 0, 1), (tp, 1, 4), (t3, 5, 1), (tpv, 6, 1), (ttv, 7, 1), (t3, 8, 1), (tiv, 9, 1)]) (h3 : P.underlying t3 = some (.int .i64)) (hp : intsB P tp 4 = true)
    (h : DataW.trod enc P w base spare held fuel t cs = some x) : ∃ (way : Int) (a b c d : Int) (classes : Int) (pv tv : Value) (master : Int) (iv : Value), cs = [.int .i64 way, .int .i64 a, .int .i64 b, .int .i64 c, .int .i64 d, .int .i64 classes, pv, tv, .int .i64 master, iv] ∧
      (∃ n y, DataW.trod enc P w base spare held n tpv [pv] = some y) ∧ (∃ n y, DataW.trod enc P w base spare held n ttv [tv] = some y) ∧ ∃ n y, DataW.trod enc P w base spare held n tiv [iv] = some y := by
  obtain ⟨hl, hg⟩ := fields_at hs hC hT h
  match cs, hl with
  | [c0, c1, c2, c3, c4, c5, c6, c7, c8, c9], _ =>
    obtain ⟨_, _, k0⟩ := hg 0 _ _ _ rfl
    obtain ⟨_, _, k1⟩ := hg 1 _ _ _ rfl
    obtain ⟨_, _, k2⟩ := hg 2 _ _ _ rfl
    obtain ⟨_, _, k3⟩ := hg 3 _ _ _ rfl
    obtain ⟨_, _, k4⟩ := hg 4 _ _ _ rfl
    obtain ⟨_, _, k5⟩ := hg 5 _ _ _ rfl
    obtain ⟨_, _, k6⟩ := hg 6 _ _ _ rfl
    simp only [List.drop_zero, List.drop_succ_cons, List.take_succ_cons, List.take_zero] at k0 k1 k2 k3 k4 k5 k6
    obtain ⟨z0, rfl, _⟩ := trod_int64 h3 k0
    obtain ⟨a, b, c, d, e⟩ := flat_ints4 hp k1
    simp only [List.cons.injEq, and_true] at e
    obtain ⟨rfl, rfl, rfl, rfl⟩ := e
    obtain ⟨z2, rfl, _⟩ := trod_int64 h3 k2
    obtain ⟨z5, rfl, _⟩ := trod_int64 h3 k5
    exact ⟨_, _, _, _, _, _, _, _, _, _, rfl, ⟨_, _, k3⟩, ⟨_, _, k4⟩, ⟨_, _, k6⟩⟩
end
end Go.Proofs.YtibkggjbkgdnkaaGreat

/-
  An order that is marked by numbers that go up.
-/
namespace Go.Proofs.YtibkggjbkgdnkaaGreat
open Go.RowKit
attribute [local irreducible] Go.wpList Go.Code.wp Go.Exit.then Go.Exit.inBlock Go.bodyPost Go.Calls pE pB G RunsV FnV Fn FnM
set_option maxRecDepth 100000
set_option maxHeartbeats 1000000
def mkPairM (k : Int) (_ : PairM) : PairM := ⟨k, k + 1⟩
def cntPairM (_ : PairM) : Nat := 2
theorem markPairS_any {w0 : World} {v : Value} {l : List PairM} {k : Int} (hk : 0 ≤ k) (hb : k + cntG cntPairM l ≤ 4611686018427387904) :
    FnM Tryz.prog 89 [v, .int .i64 k] w0 [.row v 145 2 (l.map PairM.cells)] (fun _ : Unit => True) (fun _ => .int .i64 (k + cntG cntPairM l)) (fun _ => [.row v 145 2 ((markG mkPairM cntPairM k l).map PairM.cells)]) := by
  refine FnM.of (n := 27) Tryz.func89 rfl rfl (fun F => ?_)
  refine G.know (fun w hw => (Rd.owned 0 rfl w hw).le_map) (fun hle => ?_)
  refine G.seq ?_
  refine G.region ?_
  refine G.v (rv_assign rfl) rfl ?_
  refine G.done ?_
  refine G.thenN ?_
  refine G.seq ?_
  refine G.seq ?_
  refine G.region ?_
  refine G.v (rv_assign rfl) rfl ?_
  refine G.done ?_
  refine G.thenN ?_
  refine G.block ?_
  -- loop 0: turned [1, 5], kept [0]
  refine G.loopK (ι := Nat) (ks := [0]) (fun i => [(1, .int .i64 (k + cntG cntPairM (l.take i))), (5, .int .i64 i)]) (fun i => [.row v 145 2 ((mixG mkPairM cntPairM k i l).map PairM.cells)]) (fun i => i ≤ l.length) (fun i => l.length - i) 0 (.cons rfl (.nil)) rfl ?_ ?_ ?_
  · exact Nat.zero_le _
  · exact ⟨congrArg (fun z => some (Value.int .i64 z)) (by simp [cntG]), rfl, trivial⟩
  rintro i hi
  have hml : (mixG mkPairM cntPairM k i l).length = l.length := mix_len
  have hcl : cntG cntPairM (l.take (i + 1)) ≤ cntG cntPairM l := cnt_le _
  by_cases hlt : i < l.length
  case' pos => (obtain ⟨x, hx⟩ := get_of_lt hlt; have he := get_map (mix_get (mk := mkPairM) (cnt := cntPairM) (k := k) hx) PairM.cells; have hcn : cntG cntPairM (l.take (i + 1)) = cntG cntPairM (l.take i) + 2 := cnt_next hx)
  case' neg => (have hal : cntG cntPairM (l.take i) = cntG cntPairM l := cnt_all hlt)
  all_goals
   refine G.seq ?_
   refine G.seq ?_
   refine G.region ?_
   refine G.v (rv_move rfl) rfl ?_
   refine G.v (rv_move rfl) rfl ?_
   refine G.v (rv_len rfl (by exact Rd.owned 0 rfl)) rfl ?_
   refine G.v (rv_lss rfl rfl) rfl ?_
   refine G.done ?_
   refine G.thenN ?_
   refine G.cond rfl (fun hc => ?_) (fun hc => ?_)
   · try exact Bool.noConfusion hc
     all_goals
      try replace hc := of_decide_eq_true hc
      try simp only [List.length_map, hml] at hc
      try (exfalso; omega)
      all_goals
       refine G.skip ?_
       refine G.thenN ?_
       refine G.seq ?_
       refine G.block ?_
       refine G.seq ?_
       refine G.region ?_
       refine G.v (rv_move rfl) rfl ?_
       refine G.v (rv_move rfl) rfl ?_
       refine G.v (rv_move rfl) rfl ?_
       (refine G.v (rv_indexH rfl rfl (by exact Rd.owned 0 rfl) rfl (by exact he)) rfl ?_)
       (refine G.v (rv_fieldE rfl) rfl ?_)
       refine G.op0 (og_stE0 rfl rfl rfl (by exact he) rfl rfl rfl rfl (.zero (.cons .nil))) (fun _ _ => ?_)
       refine G.done ?_
       refine G.thenN ?_
       refine G.seq ?_
       refine G.region ?_
       refine G.v (rv_move rfl) rfl ?_
       (refine G.v (rv_addB rfl rfl (by omega) (by omega)) rfl ?_)
       refine G.v (rv_assign rfl) rfl ?_
       refine G.done ?_
       refine G.thenN ?_
       refine G.seq ?_
       refine G.region ?_
       refine G.v (rv_move rfl) rfl ?_
       refine G.v (rv_move rfl) rfl ?_
       refine G.v (rv_move rfl) rfl ?_
       (refine G.v (rv_indexH rfl rfl (by exact Rd.owned 0 rfl) rfl (by exact get_set1 he)) rfl ?_)
       (refine G.v (rv_fieldE rfl) rfl ?_)
       refine G.op0 (og_stE0 rfl rfl rfl (by exact get_set1 he) rfl rfl rfl rfl (.succ (.zero (.cons .nil)))) (fun _ _ => ?_)
       refine G.done ?_
       refine G.thenN ?_
       refine G.region ?_
       refine G.v (rv_move rfl) rfl ?_
       (refine G.v (rv_addB rfl rfl (by omega) (by omega)) rfl ?_)
       refine G.v (rv_assign rfl) rfl ?_
       refine G.done ?_
       refine G.inN ?_
       refine G.thenN ?_
       refine G.region ?_
       refine G.v (rv_move rfl) rfl ?_
       (refine G.v (rv_incr rfl rfl (by omega)) rfl ?_)
       refine G.v (rv_assign rfl) rfl ?_
       refine G.done ?_
       (refine G.backK (i + 1) 0 (one_eq (congrArg (fun z => Ch.row v 145 2 z) (by rw [List.set_set]; exact mix_map hx))) (.cons rfl (.nil)) ?_ ?_ ?_)
       · exact ⟨congrArg (fun z => some (Value.int .i64 z)) (by omega), rfl, trivial⟩
       · exact hlt
       · omega
   · try exact Bool.noConfusion hc
     all_goals
      try replace hc := of_decide_eq_false hc
      try simp only [List.length_map, hml] at hc
      try (exfalso; omega)
      all_goals
       refine G.exit ?_
       refine G.thenX ?_
       refine G.thenX ?_
       refine G.inX ?_
       refine G.thenN ?_
       refine G.seq ?_
       refine G.region ?_
       refine G.v (rv_move rfl) rfl ?_
       refine G.v (rv_assign rfl) rfl ?_
       refine G.done ?_
       refine G.thenN ?_
       refine G.ret ?_
       exact G.retF () trivial rfl rfl (congrArg (Value.int .i64) (by rw [hal])) (fun w hw => by rw [mix_all hlt] at hw; exact hw)
def mkTypeM (k : Int) (_ : TypeM) : TypeM := ⟨k, k + 1, k + 1 + 1, k + 1 + 1 + 1, k + 1 + 1 + 1 + 1, k + 1 + 1 + 1 + 1 + 1, k + 1 + 1 + 1 + 1 + 1 + 1⟩
def cntTypeM (_ : TypeM) : Nat := 7
theorem markTypeS_any {w0 : World} {v : Value} {l : List TypeM} {k : Int} (hk : 0 ≤ k) (hb : k + cntG cntTypeM l ≤ 4611686018427387904) :
    FnM Tryz.prog 90 [v, .int .i64 k] w0 [.row v 82 7 (l.map TypeM.cells)] (fun _ : Unit => True) (fun _ => .int .i64 (k + cntG cntTypeM l)) (fun _ => [.row v 82 7 ((markG mkTypeM cntTypeM k l).map TypeM.cells)]) := by
  refine FnM.of (n := 62) Tryz.func90 rfl rfl (fun F => ?_)
  refine G.know (fun w hw => (Rd.owned 0 rfl w hw).le_map) (fun hle => ?_)
  refine G.seq ?_
  refine G.region ?_
  refine G.v (rv_assign rfl) rfl ?_
  refine G.done ?_
  refine G.thenN ?_
  refine G.seq ?_
  refine G.seq ?_
  refine G.region ?_
  refine G.v (rv_assign rfl) rfl ?_
  refine G.done ?_
  refine G.thenN ?_
  refine G.block ?_
  -- loop 0: turned [1, 5], kept [0]
  refine G.loopK (ι := Nat) (ks := [0]) (fun i => [(1, .int .i64 (k + cntG cntTypeM (l.take i))), (5, .int .i64 i)]) (fun i => [.row v 82 7 ((mixG mkTypeM cntTypeM k i l).map TypeM.cells)]) (fun i => i ≤ l.length) (fun i => l.length - i) 0 (.cons rfl (.nil)) rfl ?_ ?_ ?_
  · exact Nat.zero_le _
  · exact ⟨congrArg (fun z => some (Value.int .i64 z)) (by simp [cntG]), rfl, trivial⟩
  rintro i hi
  have hml : (mixG mkTypeM cntTypeM k i l).length = l.length := mix_len
  have hcl : cntG cntTypeM (l.take (i + 1)) ≤ cntG cntTypeM l := cnt_le _
  by_cases hlt : i < l.length
  case' pos => (obtain ⟨x, hx⟩ := get_of_lt hlt; have he := get_map (mix_get (mk := mkTypeM) (cnt := cntTypeM) (k := k) hx) TypeM.cells; have hcn : cntG cntTypeM (l.take (i + 1)) = cntG cntTypeM (l.take i) + 7 := cnt_next hx)
  case' neg => (have hal : cntG cntTypeM (l.take i) = cntG cntTypeM l := cnt_all hlt)
  all_goals
   refine G.seq ?_
   refine G.seq ?_
   refine G.region ?_
   refine G.v (rv_move rfl) rfl ?_
   refine G.v (rv_move rfl) rfl ?_
   refine G.v (rv_len rfl (by exact Rd.owned 0 rfl)) rfl ?_
   refine G.v (rv_lss rfl rfl) rfl ?_
   refine G.done ?_
   refine G.thenN ?_
   refine G.cond rfl (fun hc => ?_) (fun hc => ?_)
   · try exact Bool.noConfusion hc
     all_goals
      try replace hc := of_decide_eq_true hc
      try simp only [List.length_map, hml] at hc
      try (exfalso; omega)
      all_goals
       refine G.skip ?_
       refine G.thenN ?_
       refine G.seq ?_
       refine G.block ?_
       refine G.seq ?_
       refine G.region ?_
       refine G.v (rv_move rfl) rfl ?_
       refine G.v (rv_move rfl) rfl ?_
       refine G.v (rv_move rfl) rfl ?_
       (refine G.v (rv_indexH rfl rfl (by exact Rd.owned 0 rfl) rfl (by exact he)) rfl ?_)
       (refine G.v (rv_fieldE rfl) rfl ?_)
       refine G.op0 (og_stE0 rfl rfl rfl (by exact he) rfl rfl rfl rfl (.zero (.cons .nil))) (fun _ _ => ?_)
       refine G.done ?_
       refine G.thenN ?_
       refine G.seq ?_
       refine G.region ?_
       refine G.v (rv_move rfl) rfl ?_
       (refine G.v (rv_addB rfl rfl (by omega) (by omega)) rfl ?_)
       refine G.v (rv_assign rfl) rfl ?_
       refine G.done ?_
       refine G.thenN ?_
       refine G.seq ?_
       refine G.region ?_
       refine G.v (rv_move rfl) rfl ?_
       refine G.v (rv_move rfl) rfl ?_
       refine G.v (rv_move rfl) rfl ?_
       (refine G.v (rv_indexH rfl rfl (by exact Rd.owned 0 rfl) rfl (by exact get_set1 he)) rfl ?_)
       (refine G.v (rv_fieldE rfl) rfl ?_)
       refine G.op0 (og_stE0 rfl rfl rfl (by exact get_set1 he) rfl rfl rfl rfl (.succ (.zero (.cons .nil)))) (fun _ _ => ?_)
       refine G.done ?_
       refine G.thenN ?_
       refine G.seq ?_
       refine G.region ?_
       refine G.v (rv_move rfl) rfl ?_
       (refine G.v (rv_addB rfl rfl (by omega) (by omega)) rfl ?_)
       refine G.v (rv_assign rfl) rfl ?_
       refine G.done ?_
       refine G.thenN ?_
       refine G.seq ?_
       refine G.region ?_
       refine G.v (rv_move rfl) rfl ?_
       refine G.v (rv_move rfl) rfl ?_
       refine G.v (rv_move rfl) rfl ?_
       (refine G.v (rv_indexH rfl rfl (by exact Rd.owned 0 rfl) rfl (by exact get_set1 (get_set1 he))) rfl ?_)
       (refine G.v (rv_fieldE rfl) rfl ?_)
       refine G.op0 (og_stE0 rfl rfl rfl (by exact get_set1 (get_set1 he)) rfl rfl rfl rfl (.succ (.succ (.zero (.cons .nil))))) (fun _ _ => ?_)
       refine G.done ?_
       refine G.thenN ?_
       refine G.seq ?_
       refine G.region ?_
       refine G.v (rv_move rfl) rfl ?_
       (refine G.v (rv_addB rfl rfl (by omega) (by omega)) rfl ?_)
       refine G.v (rv_assign rfl) rfl ?_
       refine G.done ?_
       refine G.thenN ?_
       refine G.seq ?_
       refine G.region ?_
       refine G.v (rv_move rfl) rfl ?_
       refine G.v (rv_move rfl) rfl ?_
       refine G.v (rv_move rfl) rfl ?_
       (refine G.v (rv_indexH rfl rfl (by exact Rd.owned 0 rfl) rfl (by exact get_set1 (get_set1 (get_set1 he)))) rfl ?_)
       (refine G.v (rv_fieldE rfl) rfl ?_)
       refine G.op0 (og_stE0 rfl rfl rfl (by exact get_set1 (get_set1 (get_set1 he))) rfl rfl rfl rfl (.succ (.succ (.succ (.zero (.cons .nil)))))) (fun _ _ => ?_)
       refine G.done ?_
       refine G.thenN ?_
       refine G.seq ?_
       refine G.region ?_
       refine G.v (rv_move rfl) rfl ?_
       (refine G.v (rv_addB rfl rfl (by omega) (by omega)) rfl ?_)
       refine G.v (rv_assign rfl) rfl ?_
       refine G.done ?_
       refine G.thenN ?_
       refine G.seq ?_
       refine G.region ?_
       refine G.v (rv_move rfl) rfl ?_
       refine G.v (rv_move rfl) rfl ?_
       refine G.v (rv_move rfl) rfl ?_
       (refine G.v (rv_indexH rfl rfl (by exact Rd.owned 0 rfl) rfl (by exact get_set1 (get_set1 (get_set1 (get_set1 he))))) rfl ?_)
       (refine G.v (rv_fieldE rfl) rfl ?_)
       refine G.op0 (og_stE0 rfl rfl rfl (by exact get_set1 (get_set1 (get_set1 (get_set1 he)))) rfl rfl rfl rfl (.succ (.succ (.succ (.succ (.zero (.cons .nil))))))) (fun _ _ => ?_)
       refine G.done ?_
       refine G.thenN ?_
       refine G.seq ?_
       refine G.region ?_
       refine G.v (rv_move rfl) rfl ?_
       (refine G.v (rv_addB rfl rfl (by omega) (by omega)) rfl ?_)
       refine G.v (rv_assign rfl) rfl ?_
       refine G.done ?_
       refine G.thenN ?_
       refine G.seq ?_
       refine G.region ?_
       refine G.v (rv_move rfl) rfl ?_
       refine G.v (rv_move rfl) rfl ?_
       refine G.v (rv_move rfl) rfl ?_
       (refine G.v (rv_indexH rfl rfl (by exact Rd.owned 0 rfl) rfl (by exact get_set1 (get_set1 (get_set1 (get_set1 (get_set1 he)))))) rfl ?_)
       (refine G.v (rv_fieldE rfl) rfl ?_)
       refine G.op0 (og_stE0 rfl rfl rfl (by exact get_set1 (get_set1 (get_set1 (get_set1 (get_set1 he))))) rfl rfl rfl rfl (.succ (.succ (.succ (.succ (.succ (.zero (.cons .nil)))))))) (fun _ _ => ?_)
       refine G.done ?_
       refine G.thenN ?_
       refine G.seq ?_
       refine G.region ?_
       refine G.v (rv_move rfl) rfl ?_
       (refine G.v (rv_addB rfl rfl (by omega) (by omega)) rfl ?_)
       refine G.v (rv_assign rfl) rfl ?_
       refine G.done ?_
       refine G.thenN ?_
       refine G.seq ?_
       refine G.region ?_
       refine G.v (rv_move rfl) rfl ?_
       refine G.v (rv_move rfl) rfl ?_
       refine G.v (rv_move rfl) rfl ?_
       (refine G.v (rv_indexH rfl rfl (by exact Rd.owned 0 rfl) rfl (by exact get_set1 (get_set1 (get_set1 (get_set1 (get_set1 (get_set1 he))))))) rfl ?_)
       (refine G.v (rv_fieldE rfl) rfl ?_)
       refine G.op0 (og_stE0 rfl rfl rfl (by exact get_set1 (get_set1 (get_set1 (get_set1 (get_set1 (get_set1 he)))))) rfl rfl rfl rfl (.succ (.succ (.succ (.succ (.succ (.succ (.zero (.cons .nil))))))))) (fun _ _ => ?_)
       refine G.done ?_
       refine G.thenN ?_
       refine G.region ?_
       refine G.v (rv_move rfl) rfl ?_
       (refine G.v (rv_addB rfl rfl (by omega) (by omega)) rfl ?_)
       refine G.v (rv_assign rfl) rfl ?_
       refine G.done ?_
       refine G.inN ?_
       refine G.thenN ?_
       refine G.region ?_
       refine G.v (rv_move rfl) rfl ?_
       (refine G.v (rv_incr rfl rfl (by omega)) rfl ?_)
       refine G.v (rv_assign rfl) rfl ?_
       refine G.done ?_
       (refine G.backK (i + 1) 0 (one_eq (congrArg (fun z => Ch.row v 82 7 z) (by rw [List.set_set, List.set_set, List.set_set, List.set_set, List.set_set, List.set_set]; exact mix_map hx))) (.cons rfl (.nil)) ?_ ?_ ?_)
       · exact ⟨congrArg (fun z => some (Value.int .i64 z)) (by omega), rfl, trivial⟩
       · exact hlt
       · omega
   · try exact Bool.noConfusion hc
     all_goals
      try replace hc := of_decide_eq_false hc
      try simp only [List.length_map, hml] at hc
      try (exfalso; omega)
      all_goals
       refine G.exit ?_
       refine G.thenX ?_
       refine G.thenX ?_
       refine G.inX ?_
       refine G.thenN ?_
       refine G.seq ?_
       refine G.region ?_
       refine G.v (rv_move rfl) rfl ?_
       refine G.v (rv_assign rfl) rfl ?_
       refine G.done ?_
       refine G.thenN ?_
       refine G.ret ?_
       exact G.retF () trivial rfl rfl (congrArg (Value.int .i64) (by rw [hal])) (fun w hw => by rw [mix_all hlt] at hw; exact hw)
def mkItemM (k : Int) (_ : ItemM) : ItemM := ⟨k, k + 1, k + 1 + 1, k + 1 + 1 + 1, k + 1 + 1 + 1 + 1, k + 1 + 1 + 1 + 1 + 1, k + 1 + 1 + 1 + 1 + 1 + 1⟩
def cntItemM (_ : ItemM) : Nat := 7
theorem markItemS_any {w0 : World} {v : Value} {l : List ItemM} {k : Int} (hk : 0 ≤ k) (hb : k + cntG cntItemM l ≤ 4611686018427387904) :
    FnM Tryz.prog 91 [v, .int .i64 k] w0 [.row v 106 7 (l.map ItemM.cells)] (fun _ : Unit => True) (fun _ => .int .i64 (k + cntG cntItemM l)) (fun _ => [.row v 106 7 ((markG mkItemM cntItemM k l).map ItemM.cells)]) := by
  refine FnM.of (n := 62) Tryz.func91 rfl rfl (fun F => ?_)
  refine G.know (fun w hw => (Rd.owned 0 rfl w hw).le_map) (fun hle => ?_)
  refine G.seq ?_
  refine G.region ?_
  refine G.v (rv_assign rfl) rfl ?_
  refine G.done ?_
  refine G.thenN ?_
  refine G.seq ?_
  refine G.seq ?_
  refine G.region ?_
  refine G.v (rv_assign rfl) rfl ?_
  refine G.done ?_
  refine G.thenN ?_
  refine G.block ?_
  -- loop 0: turned [1, 5], kept [0]
  refine G.loopK (ι := Nat) (ks := [0]) (fun i => [(1, .int .i64 (k + cntG cntItemM (l.take i))), (5, .int .i64 i)]) (fun i => [.row v 106 7 ((mixG mkItemM cntItemM k i l).map ItemM.cells)]) (fun i => i ≤ l.length) (fun i => l.length - i) 0 (.cons rfl (.nil)) rfl ?_ ?_ ?_
  · exact Nat.zero_le _
  · exact ⟨congrArg (fun z => some (Value.int .i64 z)) (by simp [cntG]), rfl, trivial⟩
  rintro i hi
  have hml : (mixG mkItemM cntItemM k i l).length = l.length := mix_len
  have hcl : cntG cntItemM (l.take (i + 1)) ≤ cntG cntItemM l := cnt_le _
  by_cases hlt : i < l.length
  case' pos => (obtain ⟨x, hx⟩ := get_of_lt hlt; have he := get_map (mix_get (mk := mkItemM) (cnt := cntItemM) (k := k) hx) ItemM.cells; have hcn : cntG cntItemM (l.take (i + 1)) = cntG cntItemM (l.take i) + 7 := cnt_next hx)
  case' neg => (have hal : cntG cntItemM (l.take i) = cntG cntItemM l := cnt_all hlt)
  all_goals
   refine G.seq ?_
   refine G.seq ?_
   refine G.region ?_
   refine G.v (rv_move rfl) rfl ?_
   refine G.v (rv_move rfl) rfl ?_
   refine G.v (rv_len rfl (by exact Rd.owned 0 rfl)) rfl ?_
   refine G.v (rv_lss rfl rfl) rfl ?_
   refine G.done ?_
   refine G.thenN ?_
   refine G.cond rfl (fun hc => ?_) (fun hc => ?_)
   · try exact Bool.noConfusion hc
     all_goals
      try replace hc := of_decide_eq_true hc
      try simp only [List.length_map, hml] at hc
      try (exfalso; omega)
      all_goals
       refine G.skip ?_
       refine G.thenN ?_
       refine G.seq ?_
       refine G.block ?_
       refine G.seq ?_
       refine G.region ?_
       refine G.v (rv_move rfl) rfl ?_
       refine G.v (rv_move rfl) rfl ?_
       refine G.v (rv_move rfl) rfl ?_
       (refine G.v (rv_indexH rfl rfl (by exact Rd.owned 0 rfl) rfl (by exact he)) rfl ?_)
       (refine G.v (rv_fieldE rfl) rfl ?_)
       refine G.op0 (og_stE0 rfl rfl rfl (by exact he) rfl rfl rfl rfl (.zero (.cons .nil))) (fun _ _ => ?_)
       refine G.done ?_
       refine G.thenN ?_
       refine G.seq ?_
       refine G.region ?_
       refine G.v (rv_move rfl) rfl ?_
       (refine G.v (rv_addB rfl rfl (by omega) (by omega)) rfl ?_)
       refine G.v (rv_assign rfl) rfl ?_
       refine G.done ?_
       refine G.thenN ?_
       refine G.seq ?_
       refine G.region ?_
       refine G.v (rv_move rfl) rfl ?_
       refine G.v (rv_move rfl) rfl ?_
       refine G.v (rv_move rfl) rfl ?_
       (refine G.v (rv_indexH rfl rfl (by exact Rd.owned 0 rfl) rfl (by exact get_set1 he)) rfl ?_)
       (refine G.v (rv_fieldE rfl) rfl ?_)
       refine G.op0 (og_stE0 rfl rfl rfl (by exact get_set1 he) rfl rfl rfl rfl (.succ (.zero (.cons .nil)))) (fun _ _ => ?_)
       refine G.done ?_
       refine G.thenN ?_
       refine G.seq ?_
       refine G.region ?_
       refine G.v (rv_move rfl) rfl ?_
       (refine G.v (rv_addB rfl rfl (by omega) (by omega)) rfl ?_)
       refine G.v (rv_assign rfl) rfl ?_
       refine G.done ?_
       refine G.thenN ?_
       refine G.seq ?_
       refine G.region ?_
       refine G.v (rv_move rfl) rfl ?_
       refine G.v (rv_move rfl) rfl ?_
       refine G.v (rv_move rfl) rfl ?_
       (refine G.v (rv_indexH rfl rfl (by exact Rd.owned 0 rfl) rfl (by exact get_set1 (get_set1 he))) rfl ?_)
       (refine G.v (rv_fieldE rfl) rfl ?_)
       refine G.op0 (og_stE0 rfl rfl rfl (by exact get_set1 (get_set1 he)) rfl rfl rfl rfl (.succ (.succ (.zero (.cons .nil))))) (fun _ _ => ?_)
       refine G.done ?_
       refine G.thenN ?_
       refine G.seq ?_
       refine G.region ?_
       refine G.v (rv_move rfl) rfl ?_
       (refine G.v (rv_addB rfl rfl (by omega) (by omega)) rfl ?_)
       refine G.v (rv_assign rfl) rfl ?_
       refine G.done ?_
       refine G.thenN ?_
       refine G.seq ?_
       refine G.region ?_
       refine G.v (rv_move rfl) rfl ?_
       refine G.v (rv_move rfl) rfl ?_
       refine G.v (rv_move rfl) rfl ?_
       (refine G.v (rv_indexH rfl rfl (by exact Rd.owned 0 rfl) rfl (by exact get_set1 (get_set1 (get_set1 he)))) rfl ?_)
       (refine G.v (rv_fieldE rfl) rfl ?_)
       refine G.op0 (og_stE0 rfl rfl rfl (by exact get_set1 (get_set1 (get_set1 he))) rfl rfl rfl rfl (.succ (.succ (.succ (.zero (.cons .nil)))))) (fun _ _ => ?_)
       refine G.done ?_
       refine G.thenN ?_
       refine G.seq ?_
       refine G.region ?_
       refine G.v (rv_move rfl) rfl ?_
       (refine G.v (rv_addB rfl rfl (by omega) (by omega)) rfl ?_)
       refine G.v (rv_assign rfl) rfl ?_
       refine G.done ?_
       refine G.thenN ?_
       refine G.seq ?_
       refine G.region ?_
       refine G.v (rv_move rfl) rfl ?_
       refine G.v (rv_move rfl) rfl ?_
       refine G.v (rv_move rfl) rfl ?_
       (refine G.v (rv_indexH rfl rfl (by exact Rd.owned 0 rfl) rfl (by exact get_set1 (get_set1 (get_set1 (get_set1 he))))) rfl ?_)
       (refine G.v (rv_fieldE rfl) rfl ?_)
       refine G.op0 (og_stE0 rfl rfl rfl (by exact get_set1 (get_set1 (get_set1 (get_set1 he)))) rfl rfl rfl rfl (.succ (.succ (.succ (.succ (.zero (.cons .nil))))))) (fun _ _ => ?_)
       refine G.done ?_
       refine G.thenN ?_
       refine G.seq ?_
       refine G.region ?_
       refine G.v (rv_move rfl) rfl ?_
       (refine G.v (rv_addB rfl rfl (by omega) (by omega)) rfl ?_)
       refine G.v (rv_assign rfl) rfl ?_
       refine G.done ?_
       refine G.thenN ?_
       refine G.seq ?_
       refine G.region ?_
       refine G.v (rv_move rfl) rfl ?_
       refine G.v (rv_move rfl) rfl ?_
       refine G.v (rv_move rfl) rfl ?_
       (refine G.v (rv_indexH rfl rfl (by exact Rd.owned 0 rfl) rfl (by exact get_set1 (get_set1 (get_set1 (get_set1 (get_set1 he)))))) rfl ?_)
       (refine G.v (rv_fieldE rfl) rfl ?_)
       refine G.op0 (og_stE0 rfl rfl rfl (by exact get_set1 (get_set1 (get_set1 (get_set1 (get_set1 he))))) rfl rfl rfl rfl (.succ (.succ (.succ (.succ (.succ (.zero (.cons .nil)))))))) (fun _ _ => ?_)
       refine G.done ?_
       refine G.thenN ?_
       refine G.seq ?_
       refine G.region ?_
       refine G.v (rv_move rfl) rfl ?_
       (refine G.v (rv_addB rfl rfl (by omega) (by omega)) rfl ?_)
       refine G.v (rv_assign rfl) rfl ?_
       refine G.done ?_
       refine G.thenN ?_
       refine G.seq ?_
       refine G.region ?_
       refine G.v (rv_move rfl) rfl ?_
       refine G.v (rv_move rfl) rfl ?_
       refine G.v (rv_move rfl) rfl ?_
       (refine G.v (rv_indexH rfl rfl (by exact Rd.owned 0 rfl) rfl (by exact get_set1 (get_set1 (get_set1 (get_set1 (get_set1 (get_set1 he))))))) rfl ?_)
       (refine G.v (rv_fieldE rfl) rfl ?_)
       refine G.op0 (og_stE0 rfl rfl rfl (by exact get_set1 (get_set1 (get_set1 (get_set1 (get_set1 (get_set1 he)))))) rfl rfl rfl rfl (.succ (.succ (.succ (.succ (.succ (.succ (.zero (.cons .nil))))))))) (fun _ _ => ?_)
       refine G.done ?_
       refine G.thenN ?_
       refine G.region ?_
       refine G.v (rv_move rfl) rfl ?_
       (refine G.v (rv_addB rfl rfl (by omega) (by omega)) rfl ?_)
       refine G.v (rv_assign rfl) rfl ?_
       refine G.done ?_
       refine G.inN ?_
       refine G.thenN ?_
       refine G.region ?_
       refine G.v (rv_move rfl) rfl ?_
       (refine G.v (rv_incr rfl rfl (by omega)) rfl ?_)
       refine G.v (rv_assign rfl) rfl ?_
       refine G.done ?_
       (refine G.backK (i + 1) 0 (one_eq (congrArg (fun z => Ch.row v 106 7 z) (by rw [List.set_set, List.set_set, List.set_set, List.set_set, List.set_set, List.set_set]; exact mix_map hx))) (.cons rfl (.nil)) ?_ ?_ ?_)
       · exact ⟨congrArg (fun z => some (Value.int .i64 z)) (by omega), rfl, trivial⟩
       · exact hlt
       · omega
   · try exact Bool.noConfusion hc
     all_goals
      try replace hc := of_decide_eq_false hc
      try simp only [List.length_map, hml] at hc
      try (exfalso; omega)
      all_goals
       refine G.exit ?_
       refine G.thenX ?_
       refine G.thenX ?_
       refine G.inX ?_
       refine G.thenN ?_
       refine G.seq ?_
       refine G.region ?_
       refine G.v (rv_move rfl) rfl ?_
       refine G.v (rv_assign rfl) rfl ?_
       refine G.done ?_
       refine G.thenN ?_
       refine G.ret ?_
       exact G.retF () trivial rfl rfl (congrArg (Value.int .i64) (by rw [hal])) (fun w hw => by rw [mix_all hlt] at hw; exact hw)
def cntR (r : ReqM) : Nat := cntG cntPairM r.pairs + cntG cntTypeM r.types + cntG cntItemM r.items
theorem cntR_in {r : ReqM} : cntR r ≤ 7 * reqN r := by
  have h1 := cnt_const (cnt := cntPairM) (m := 2) (fun _ => rfl) r.pairs
  have h2 := cnt_const (cnt := cntTypeM) (m := 7) (fun _ => rfl) r.types
  have h3 := cnt_const (cnt := cntItemM) (m := 7) (fun _ => rfl) r.items
  simp only [cntR, reqN]; omega
def mkR (k : Int) (r : ReqM) : ReqM := { r with pairs := markG mkPairM cntPairM k r.pairs, types := markG mkTypeM cntTypeM (k + cntG cntPairM r.pairs) r.types, items := markG mkItemM cntItemM (k + cntG cntPairM r.pairs + cntG cntTypeM r.types) r.items }
theorem markRequest_any {w0 : World} {r : ReqM} {pv tv iv : Value} {k : Int} (hk : 0 ≤ k) (hb : k + cntR r ≤ 4611686018427387904) :
    FnM Tryz.prog 24 [.agg (r.cells pv tv iv).toArray, .int .i64 k] w0 [.row iv 106 7 (r.items.map ItemM.cells), .row tv 82 7 (r.types.map TypeM.cells), .row pv 145 2 (r.pairs.map PairM.cells)] (fun _ : Unit => True) (fun _ => .int .i64 (k + cntR r))
      (fun _ => [.row iv 106 7 ((mkR k r).items.map ItemM.cells), .row tv 82 7 ((mkR k r).types.map TypeM.cells), .row pv 145 2 ((mkR k r).pairs.map PairM.cells)]) := by
  refine FnM.of (n := 18) Tryz.func24 rfl rfl (fun F => ?_)
  simp only [cntR] at hb
  refine G.seq ?_
  refine G.region ?_
  refine G.op (og_box rfl rfl) rfl (fun bk2 _ => ?_)
  refine G.v (rv_assign rfl) rfl ?_
  refine G.done ?_
  refine G.thenN ?_
  refine G.seq ?_
  refine G.region ?_
  (refine G.v (rv_field rfl) rfl ?_)
  (refine G.v (rv_load1 0 rfl rfl rfl) rfl ?_)
  refine G.v (rv_move rfl) rfl ?_
  ((refine G.frontR3 (pv) rfl ?_); refine G.op (og_callMM1 rfl rfl rfl (markPairS_any (l := r.pairs) hk (by omega)).toF) rfl ?_; rintro ⟨⟩ _; try dsimp only)
  refine G.v (rv_assign rfl) rfl ?_
  refine G.done ?_
  refine G.thenN ?_
  refine G.seq ?_
  refine G.region ?_
  (refine G.v (rv_field rfl) rfl ?_)
  (refine G.v (rv_load1 1 rfl rfl rfl) rfl ?_)
  refine G.v (rv_move rfl) rfl ?_
  ((refine G.frontR3 (tv) rfl ?_); refine G.op (og_callMM1 rfl rfl rfl (markTypeS_any (l := r.types) (by omega) (by omega)).toF) rfl ?_; rintro ⟨⟩ _; try dsimp only)
  refine G.v (rv_assign rfl) rfl ?_
  refine G.done ?_
  refine G.thenN ?_
  refine G.seq ?_
  refine G.region ?_
  (refine G.v (rv_field rfl) rfl ?_)
  (refine G.v (rv_load1 2 rfl rfl rfl) rfl ?_)
  refine G.v (rv_move rfl) rfl ?_
  ((refine G.frontR3 (iv) rfl ?_); refine G.op (og_callMM1 rfl rfl rfl (markItemS_any (l := r.items) (by omega) (by omega)).toF) rfl ?_; rintro ⟨⟩ _; try dsimp only)
  refine G.v (rv_assign rfl) rfl ?_
  refine G.done ?_
  refine G.thenN ?_
  refine G.seq ?_
  refine G.region ?_
  refine G.v (rv_move rfl) rfl ?_
  refine G.v (rv_assign rfl) rfl ?_
  refine G.done ?_
  refine G.thenN ?_
  refine G.ret ?_
  exact G.retF () trivial rfl rfl (congrArg (Value.int .i64) (by simp only [cntR]; omega)) (fun w hw => hw.sublist (by repeat (first | exact List.Sublist.refl _ | refine List.Sublist.cons_cons _ ?_ | refine List.Sublist.cons _ ?_)))
end Go.Proofs.YtibkggjbkgdnkaaGreat

/-
  What hangs on the program alone, of what is asked of a law's row.
-/
namespace Go.Proofs.YtibkggjbkgdnkaaGreat
theorem both {a b : Bool} (h : a = true) (k : b = true) : (a && b) = true := by rw [h, k]; rfl
theorem pfLaid : laidOutB Tryz.prog = true := by kernel_rfl
theorem pfMaps : mapsRowed Tryz.prog = true := by kernel_rfl
theorem pfStops : (Tryz.prog.stops == []) = true := by kernel_rfl
theorem pfKnobs : (Tryz.prog.stopKnobs == []) = true := by kernel_rfl
theorem pfHeard : Tryz.prog.stopsHeard = true := by kernel_rfl
theorem pfEnter : Tryz.prog.mayEnter = true := by kernel_rfl
theorem pfLift : Tryz.prog.liftsFinal = false := by kernel_rfl
end Go.Proofs.YtibkggjbkgdnkaaGreat

/-
  Kinds that lie in a group; the kinds that are there.
-/
namespace Go.Proofs.YtibkggjbkgdnkaaGreat
open Go.RowKit
attribute [local irreducible] Go.wpList Go.Code.wp Go.Exit.then Go.Exit.inBlock Go.bodyPost Go.Calls pE pB G RunsV FnV Fn FnM
set_option maxRecDepth 100000
set_option maxHeartbeats 4000000
def mutM (ps : List PairM) (a b : Int) : Bool := besideM ps a b && besideM ps b a
theorem mutual_any {v : Value} {l : List PairM} (a b : Int) (w : World) (h : Rd w v 2 (l.map PairM.cells)) : FnV Tryz.prog 153 [v, .int .i64 a, .int .i64 b] w (.bool (mutM l a b)) := by
  refine FnV.of (n := 17) Tryz.func153 rfl rfl ?_
  refine G.seq ?_
  refine G.region ?_
  refine G.v (rv_assign rfl) rfl ?_
  refine G.done ?_
  refine G.thenN ?_
  refine G.seq ?_
  refine G.region ?_
  refine G.v (rv_move rfl) rfl ?_
  refine G.v (rv_move rfl) rfl ?_
  refine G.v (rv_move rfl) rfl ?_
  refine G.op (og_callV rfl rfl (fun w hh => beside_any _ _ w (Rd.stays h _ hh))) rfl (fun _ _ => ?_)
  refine G.v (rv_move rfl) rfl ?_
  all_goals (((with_reducible refine G.gP rfl rfl (fun hg => ?_) (fun hg => ?_)) <;> (try exact Bool.noConfusion hg) <;> (first | (refine G.gY rfl rfl ?_; refine G.v (rv_move rfl) rfl ?_) | refine G.gN rfl rfl rfl ?_ | refine G.gU rfl rfl rfl ?_)))
  all_goals ((first | (refine G.gY rfl rfl ?_; refine G.v (rv_move rfl) rfl ?_) | refine G.gN rfl rfl rfl ?_ | refine G.gU rfl rfl rfl ?_))
  all_goals ((first | (refine G.gY rfl rfl ?_; refine G.v (rv_move rfl) rfl ?_) | refine G.gN rfl rfl rfl ?_ | refine G.gU rfl rfl rfl ?_))
  all_goals ((first | (refine G.gY rfl rfl ?_; refine G.op (og_callV rfl rfl (fun w hh => beside_any _ _ w (Rd.stays h _ hh))) rfl (fun _ _ => ?_)) | refine G.gN rfl rfl rfl ?_ | refine G.gU rfl rfl rfl ?_))
  all_goals ((first | refine G.v (rv_pickT rfl rfl) rfl ?_ | refine G.v (rv_pickF rfl rfl) rfl ?_))
  all_goals (refine G.v (rv_assign rfl) rfl ?_)
  all_goals
   refine G.done ?_
   refine G.thenN ?_
   refine G.ret ?_
   refine G.retFV rfl rfl (congrArg Value.bool ?_); simp_all [mutM]
def hasM (l : List Int) (x : Int) : Bool := l.any fun y => decide (y = x)
theorem l1Has_any {v : Value} {l : List Int} (x : Int) (w : World) (h : Rd w v 1 (l.map icell)) : FnV Tryz.prog 94 [v, .int .i64 x] w (.bool (hasM l x)) := by
  have hle := h.le_map
  refine FnV.of (n := 18) Tryz.func94 rfl rfl ?_
  refine G.seq ?_
  refine G.region ?_
  refine G.v (rv_assign rfl) rfl ?_
  refine G.done ?_
  refine G.thenN ?_
  refine G.seq ?_
  refine G.seq ?_
  refine G.region ?_
  refine G.v (rv_assign rfl) rfl ?_
  refine G.done ?_
  refine G.thenN ?_
  refine G.block ?_
  -- loop 0: turned [5], kept [0, 1]
  refine G.loopK (ι := Nat) (ks := [0, 1]) (fun k => [(5, .int .i64 k)]) (fun _ => []) (fun k => k ≤ l.length ∧ (l.take k).any (fun y => decide (y = x)) = false) (fun k => l.length - k) 0 (.cons rfl (.cons rfl (.nil))) rfl ?_ ?_ ?_
  · exact ⟨Nat.zero_le _, rfl⟩
  · exact ⟨rfl, trivial⟩
  rintro k ⟨hk, ht⟩
  by_cases hlt : k < l.length
  case' pos => (obtain ⟨b, hb⟩ := get_of_lt hlt; have he := get_map hb icell)
  all_goals
   refine G.seq ?_
   refine G.seq ?_
   refine G.region ?_
   refine G.v (rv_move rfl) rfl ?_
   refine G.v (rv_move rfl) rfl ?_
   refine G.v (rv_len rfl (by first | exact Rd.stays (by assumption) | exact Rd.owned 0 rfl)) rfl ?_
   refine G.v (rv_lss rfl rfl) rfl ?_
   refine G.done ?_
   refine G.thenN ?_
   refine G.cond rfl (fun hc => ?_) (fun hc => ?_)
   · try exact Bool.noConfusion hc
     all_goals
      try replace hc := of_decide_eq_true hc
      try simp only [List.length_map] at hc
      try (exfalso; first | contradiction | omega)
      all_goals
       refine G.skip ?_
       refine G.thenN ?_
       refine G.seq ?_
       refine G.block ?_
       refine G.seq ?_
       refine G.region ?_
       refine G.v (rv_move rfl) rfl ?_
       refine G.v (rv_move rfl) rfl ?_
       (first | refine G.v (rv_indexH rfl rfl (by first | exact Rd.stays (by assumption) | exact Rd.owned 0 rfl) rfl (by assumption)) rfl ?_ | refine G.v (rv_index rfl rfl (by first | exact Rd.stays (by assumption) | exact Rd.owned 0 rfl) rfl (by assumption)) rfl ?_)
       refine G.v (rv_loadE rfl (by first | exact Rd.stays (by assumption) | exact Rd.owned 0 rfl) (by assumption) rfl) rfl ?_
       refine G.v (rv_move rfl) rfl ?_
       refine G.v (rv_eql rfl rfl) rfl ?_
       refine G.done ?_
       refine G.thenN ?_
       refine G.cond rfl (fun hc => ?_) (fun hc => ?_)
       · try exact Bool.noConfusion hc
         all_goals
          try replace hc := of_decide_eq_true hc
          try simp only [List.length_map] at hc
          try (exfalso; first | contradiction | omega)
          all_goals
           refine G.seq ?_
           refine G.region ?_
           refine G.v (rv_assign rfl) rfl ?_
           refine G.done ?_
           refine G.thenN ?_
           refine G.ret ?_
           refine G.inR ?_
           refine G.thenR ?_
           refine G.thenR ?_
           refine G.inR ?_
           refine G.thenR ?_
           first | exact G.retFV rfl rfl (congrArg Value.bool (any_at (f := fun y => decide (y = x)) hb (decide_eq_true hc)).symm) | exact G.retFV rfl rfl (congrArg Value.bool (any_end ht hlt).symm)
       · try exact Bool.noConfusion hc
         all_goals
          try replace hc := of_decide_eq_false hc
          try simp only [List.length_map] at hc
          try (exfalso; first | contradiction | omega)
          all_goals
           refine G.skip ?_
           refine G.inN ?_
           refine G.thenN ?_
           refine G.region ?_
           refine G.v (rv_move rfl) rfl ?_
           (first | refine G.v (rv_incr rfl rfl (by omega)) rfl ?_ | refine G.v (rv_addB rfl rfl (by omega) (by omega)) rfl ?_)
           refine G.v (rv_assign rfl) rfl ?_
           refine G.done ?_
           first | refine G.backK (k + 1) 0 rfl (.cons rfl (.cons rfl (.nil))) ?_ ?_ ?_ | refine G.backK (k + 1) 1 rfl (.cons rfl (.cons rfl (.nil))) ?_ ?_ ?_
           · exact ⟨rfl, trivial⟩
           · exact ⟨hlt, any_next ht hb (decide_eq_false hc)⟩
           · omega
   · try exact Bool.noConfusion hc
     all_goals
      try replace hc := of_decide_eq_false hc
      try simp only [List.length_map] at hc
      try (exfalso; first | contradiction | omega)
      all_goals
       refine G.exit ?_
       refine G.thenX ?_
       refine G.thenX ?_
       refine G.inX ?_
       refine G.thenN ?_
       refine G.seq ?_
       refine G.region ?_
       refine G.v (rv_assign rfl) rfl ?_
       refine G.done ?_
       refine G.thenN ?_
       refine G.ret ?_
       first | exact G.retFV rfl rfl (congrArg Value.bool (any_at (f := fun y => decide (y = x)) hb (decide_eq_true hc)).symm) | exact G.retFV rfl rfl (congrArg Value.bool (any_end ht hlt).symm)
theorem findInt_any {v : Value} {l : List Int} (x : Int) (w : World) (h : Rd w v 1 (l.map icell)) : FnV Tryz.prog 158 [v, .int .i64 x] w (.int .i64 (idxM (fun y => decide (x = y)) l)) := by
  have hle := h.le_map
  refine FnV.of (n := 19) Tryz.func158 rfl rfl ?_
  refine G.seq ?_
  refine G.region ?_
  refine G.v (rv_assign rfl) rfl ?_
  refine G.done ?_
  refine G.thenN ?_
  refine G.seq ?_
  refine G.seq ?_
  refine G.region ?_
  refine G.v (rv_move rfl) rfl ?_
  refine G.v (rv_len rfl (by first | exact Rd.stays (by assumption) | exact Rd.owned 0 rfl)) rfl ?_
  refine G.v (rv_move rfl) rfl ?_
  refine G.done ?_
  refine G.thenN ?_
  refine G.block ?_
  -- loop 0: turned [8], kept [0, 1, 7]
  refine G.loopK (ι := Nat) (ks := [0, 1, 7]) (fun k => [(8, .int .i64 k)]) (fun _ => []) (fun k => k ≤ l.length ∧ (l.take k).any (fun y => decide (x = y)) = false) (fun k => l.length - k) 0 (.cons rfl (.cons rfl (.cons rfl (.nil)))) rfl ?_ ?_ ?_
  · exact ⟨Nat.zero_le _, rfl⟩
  · exact ⟨rfl, trivial⟩
  rintro k ⟨hk, ht⟩
  by_cases hlt : k < l.length
  case' pos => (obtain ⟨b, hb⟩ := get_of_lt hlt; have he := get_map hb icell)
  all_goals
   refine G.seq ?_
   refine G.region ?_
   refine G.v (rv_lss rfl rfl) rfl ?_
   refine G.done ?_
   refine G.thenN ?_
   refine G.seq ?_
   refine G.cond rfl (fun hc => ?_) (fun hc => ?_)
   · try exact Bool.noConfusion hc
     all_goals
      try replace hc := of_decide_eq_true hc
      try simp only [List.length_map] at hc
      try (exfalso; first | contradiction | omega)
      all_goals
       refine G.skip ?_
       refine G.thenN ?_
       refine G.seq ?_
       refine G.block ?_
       refine G.seq ?_
       refine G.region ?_
       refine G.v (rv_move rfl) rfl ?_
       refine G.v (rv_assign rfl) rfl ?_
       refine G.done ?_
       refine G.thenN ?_
       refine G.seq ?_
       refine G.region ?_
       refine G.v (rv_move rfl) rfl ?_
       refine G.v (rv_move rfl) rfl ?_
       refine G.v (rv_move rfl) rfl ?_
       (first | refine G.v (rv_indexH rfl rfl (by first | exact Rd.stays (by assumption) | exact Rd.owned 0 rfl) rfl (by assumption)) rfl ?_ | refine G.v (rv_index rfl rfl (by first | exact Rd.stays (by assumption) | exact Rd.owned 0 rfl) rfl (by assumption)) rfl ?_)
       refine G.v (rv_loadE rfl (by first | exact Rd.stays (by assumption) | exact Rd.owned 0 rfl) (by assumption) rfl) rfl ?_
       refine G.v (rv_eql rfl rfl) rfl ?_
       refine G.done ?_
       refine G.thenN ?_
       refine G.cond rfl (fun hc => ?_) (fun hc => ?_)
       · try exact Bool.noConfusion hc
         all_goals
          try replace hc := of_decide_eq_true hc
          try simp only [List.length_map] at hc
          try (exfalso; first | contradiction | omega)
          all_goals
           refine G.seq ?_
           refine G.region ?_
           refine G.v (rv_move rfl) rfl ?_
           refine G.v (rv_assign rfl) rfl ?_
           refine G.done ?_
           refine G.thenN ?_
           refine G.ret ?_
           refine G.inR ?_
           refine G.thenR ?_
           refine G.thenR ?_
           refine G.inR ?_
           refine G.thenR ?_
           first | exact G.retFV rfl rfl (congrArg (Value.int .i64) (idx_at ht hb (decide_eq_true hc)).symm) | exact G.retFV rfl rfl (congrArg (Value.int .i64) (idx_none ht hlt).symm)
       · try exact Bool.noConfusion hc
         all_goals
          try replace hc := of_decide_eq_false hc
          try simp only [List.length_map] at hc
          try (exfalso; first | contradiction | omega)
          all_goals
           refine G.skip ?_
           refine G.inN ?_
           refine G.thenN ?_
           refine G.region ?_
           (first | refine G.v (rv_incr rfl rfl (by omega)) rfl ?_ | refine G.v (rv_addB rfl rfl (by omega) (by omega)) rfl ?_)
           refine G.v (rv_move rfl) rfl ?_
           refine G.done ?_
           first | refine G.backK (k + 1) 0 rfl (.cons rfl (.cons rfl (.cons rfl (.nil)))) ?_ ?_ ?_ | refine G.backK (k + 1) 1 rfl (.cons rfl (.cons rfl (.cons rfl (.nil)))) ?_ ?_ ?_
           · exact ⟨rfl, trivial⟩
           · exact ⟨hlt, any_next ht hb (decide_eq_false hc)⟩
           · omega
   · try exact Bool.noConfusion hc
     all_goals
      try replace hc := of_decide_eq_false hc
      try simp only [List.length_map] at hc
      try (exfalso; first | contradiction | omega)
      all_goals
       refine G.exit ?_
       refine G.thenX ?_
       refine G.thenX ?_
       refine G.inX ?_
       refine G.thenN ?_
       refine G.seq ?_
       refine G.region ?_
       refine G.v (rv_assign rfl) rfl ?_
       refine G.done ?_
       refine G.thenN ?_
       refine G.ret ?_
       first | exact G.retFV rfl rfl (congrArg (Value.int .i64) (idx_at ht hb (decide_eq_true hc)).symm) | exact G.retFV rfl rfl (congrArg (Value.int .i64) (idx_none ht hlt).symm)
theorem hasInt_any {v : Value} {l : List Int} (x : Int) (w : World) (h : Rd w v 1 (l.map icell)) : FnV Tryz.prog 97 [v, .int .i64 x] w (.bool (hasM l x)) := by
  refine FnV.of (n := 9) Tryz.func97 rfl rfl ?_
  refine G.seq ?_
  refine G.region ?_
  refine G.v (rv_assign rfl) rfl ?_
  refine G.done ?_
  refine G.thenN ?_
  refine G.seq ?_
  refine G.region ?_
  refine G.v (rv_move rfl) rfl ?_
  refine G.v (rv_move rfl) rfl ?_
  refine G.op (og_callV rfl rfl (fun w hh => findInt_any x w (Rd.stays h _ hh))) rfl (fun _ _ => ?_)
  refine G.v (rv_geq rfl rfl) rfl ?_
  refine G.v (rv_assign rfl) rfl ?_
  refine G.done ?_
  refine G.thenN ?_
  refine G.ret ?_
  exact G.retFV rfl rfl (congrArg Value.bool ((idx_any _ l).trans (by rw [hasM]; congr 1; funext y; exact decide_eq_decide.2 eq_comm)))
/-- Whether a kind may lie beside all of a group. -/
def joinsM (ps : List PairM) (g : List Int) (x : Int) : Bool := g.all fun y => mutM ps x y
theorem l3Joins_any {v u : Value} {ps : List PairM} {l : List Int} (x : Int) (w : World) (h : Rd w v 2 (ps.map PairM.cells)) (h2 : Rd w u 1 (l.map icell)) : FnV Tryz.prog 144 [v, u, .int .i64 x] w (.bool (joinsM ps l x)) := by
  have hle := h2.le_map
  refine FnV.of (n := 32) Tryz.func144 rfl rfl ?_
  refine G.seq ?_
  refine G.region ?_
  refine G.v (rv_assign rfl) rfl ?_
  refine G.done ?_
  refine G.thenN ?_
  refine G.seq ?_
  refine G.seq ?_
  refine G.region ?_
  refine G.v (rv_assign rfl) rfl ?_
  refine G.done ?_
  refine G.thenN ?_
  refine G.block ?_
  -- loop 0: turned [7], kept [0, 1, 2]
  refine G.loopK (ι := Nat) (ks := [0, 1, 2]) (fun k => [(7, .int .i64 k)]) (fun _ => []) (fun k => k ≤ l.length ∧ (l.take k).all (fun y => mutM ps x y) = true) (fun k => l.length - k) 0 (.cons rfl (.cons rfl (.cons rfl (.nil)))) rfl ?_ ?_ ?_
  · exact ⟨Nat.zero_le _, rfl⟩
  · exact ⟨rfl, trivial⟩
  rintro k ⟨hk, ht⟩
  by_cases hlt : k < l.length
  case' pos => (obtain ⟨b, hb⟩ := get_of_lt hlt; have he := get_map hb icell)
  all_goals
   refine G.seq ?_
   refine G.seq ?_
   refine G.region ?_
   refine G.v (rv_move rfl) rfl ?_
   refine G.v (rv_move rfl) rfl ?_
   refine G.v (rv_len rfl (by first | exact Rd.stays (by assumption) | exact Rd.owned 0 rfl)) rfl ?_
   refine G.v (rv_lss rfl rfl) rfl ?_
   refine G.done ?_
   refine G.thenN ?_
   refine G.cond rfl (fun hc => ?_) (fun hc => ?_)
   · try exact Bool.noConfusion hc
     all_goals
      try replace hc := of_decide_eq_true hc
      try simp only [List.length_map] at hc
      try (exfalso; first | contradiction | omega)
      all_goals
       refine G.skip ?_
       refine G.thenN ?_
       refine G.seq ?_
       refine G.block ?_
       refine G.seq ?_
       refine G.region ?_
       refine G.v (rv_move rfl) rfl ?_
       refine G.v (rv_move rfl) rfl ?_
       refine G.v (rv_move rfl) rfl ?_
       (first | refine G.v (rv_indexH rfl rfl (by first | exact Rd.stays (by assumption) | exact Rd.owned 0 rfl) rfl (by assumption)) rfl ?_ | refine G.v (rv_index rfl rfl (by first | exact Rd.stays (by assumption) | exact Rd.owned 0 rfl) rfl (by assumption)) rfl ?_)
       refine G.v (rv_loadE rfl (by first | exact Rd.stays (by assumption) | exact Rd.owned 0 rfl) (by assumption) rfl) rfl ?_
       refine G.v (rv_move rfl) rfl ?_
       refine G.op (og_callV rfl rfl (fun w hh => sbeside_any _ _ w (Rd.stays h _ hh))) rfl (fun _ _ => ?_)
       refine G.v (rv_not rfl) rfl ?_
       refine G.v (rv_move rfl) rfl ?_
       all_goals (((with_reducible refine G.gP rfl rfl (fun hg => ?_) (fun hg => ?_)) <;> (try exact Bool.noConfusion hg) <;> (first | (refine G.gY rfl rfl ?_; refine G.v (rv_move rfl) rfl ?_) | refine G.gN rfl rfl rfl ?_ | refine G.gU rfl rfl rfl ?_)))
       all_goals ((first | (refine G.gY rfl rfl ?_; refine G.v (rv_move rfl) rfl ?_) | refine G.gN rfl rfl rfl ?_ | refine G.gU rfl rfl rfl ?_))
       all_goals ((first | (refine G.gY rfl rfl ?_; refine G.v (rv_move rfl) rfl ?_) | refine G.gN rfl rfl rfl ?_ | refine G.gU rfl rfl rfl ?_))
       all_goals ((first | (refine G.gY rfl rfl ?_; refine G.v (rv_move rfl) rfl ?_) | refine G.gN rfl rfl rfl ?_ | refine G.gU rfl rfl rfl ?_))
       all_goals ((first | (refine G.gY rfl rfl ?_; (first | refine G.v (rv_indexH rfl rfl (by first | exact Rd.stays (by assumption) | exact Rd.owned 0 rfl) rfl (by assumption)) rfl ?_ | refine G.v (rv_index rfl rfl (by first | exact Rd.stays (by assumption) | exact Rd.owned 0 rfl) rfl (by assumption)) rfl ?_)) | refine G.gN rfl rfl rfl ?_ | refine G.gU rfl rfl rfl ?_))
       all_goals ((first | (refine G.gY rfl rfl ?_; refine G.v (rv_loadE rfl (by first | exact Rd.stays (by assumption) | exact Rd.owned 0 rfl) (by assumption) rfl) rfl ?_) | refine G.gN rfl rfl rfl ?_ | refine G.gU rfl rfl rfl ?_))
       all_goals ((first | (refine G.gY rfl rfl ?_; refine G.op (og_callV rfl rfl (fun w hh => sbeside_any _ _ w (Rd.stays h _ hh))) rfl (fun _ _ => ?_)) | refine G.gN rfl rfl rfl ?_ | refine G.gU rfl rfl rfl ?_))
       all_goals ((first | (refine G.gY rfl rfl ?_; refine G.v (rv_not rfl) rfl ?_) | refine G.gN rfl rfl rfl ?_ | refine G.gU rfl rfl rfl ?_))
       all_goals ((first | refine G.v (rv_pickT rfl rfl) rfl ?_ | refine G.v (rv_pickF rfl rfl) rfl ?_))
       all_goals
        refine G.done ?_
        refine G.thenN ?_
        refine G.cond rfl (fun hc => ?_) (fun hc => ?_)
        · try exact Bool.noConfusion hc
          all_goals
           try replace hc := of_decide_eq_true hc
           try simp only [List.length_map] at hc
           try (exfalso; first | contradiction | omega)
           all_goals
            refine G.seq ?_
            refine G.region ?_
            refine G.v (rv_assign rfl) rfl ?_
            refine G.done ?_
            refine G.thenN ?_
            refine G.ret ?_
            refine G.inR ?_
            refine G.thenR ?_
            refine G.thenR ?_
            refine G.inR ?_
            refine G.thenR ?_
            first | exact G.retFV rfl rfl (congrArg Value.bool (all_end ht hlt).symm) | exact G.retFV rfl rfl (congrArg Value.bool (all_no (f := fun y => mutM ps x y) hb (by (simp_all [mutM]; done))).symm)
        · try exact Bool.noConfusion hc
          all_goals
           try replace hc := of_decide_eq_false hc
           try simp only [List.length_map] at hc
           try (exfalso; first | contradiction | omega)
           all_goals
            refine G.skip ?_
            refine G.inN ?_
            refine G.thenN ?_
            refine G.region ?_
            refine G.v (rv_move rfl) rfl ?_
            (first | refine G.v (rv_incr rfl rfl (by omega)) rfl ?_ | refine G.v (rv_addB rfl rfl (by omega) (by omega)) rfl ?_)
            refine G.v (rv_assign rfl) rfl ?_
            refine G.done ?_
            first | refine G.backK (k + 1) 0 rfl (.cons rfl (.cons rfl (.cons rfl (.nil)))) ?_ ?_ ?_ | refine G.backK (k + 1) 1 rfl (.cons rfl (.cons rfl (.cons rfl (.nil)))) ?_ ?_ ?_
            · exact ⟨rfl, trivial⟩
            · exact ⟨hlt, all_next ht hb (by (simp_all [mutM]))⟩
            · omega
   · try exact Bool.noConfusion hc
     all_goals
      try replace hc := of_decide_eq_false hc
      try simp only [List.length_map] at hc
      try (exfalso; first | contradiction | omega)
      all_goals
       refine G.exit ?_
       refine G.thenX ?_
       refine G.thenX ?_
       refine G.inX ?_
       refine G.thenN ?_
       refine G.seq ?_
       refine G.region ?_
       refine G.v (rv_assign rfl) rfl ?_
       refine G.done ?_
       refine G.thenN ?_
       refine G.ret ?_
       first | exact G.retFV rfl rfl (congrArg Value.bool (all_end ht hlt).symm) | exact G.retFV rfl rfl (congrArg Value.bool (all_no (f := fun y => mutM ps x y) hb (by (simp_all [mutM]; done))).symm)
def kindHere (r : ReqM) (c : Nat) : Bool := r.items.any fun x => decide (x.cls = (c : Int))
def presL (r : ReqM) (n : Nat) : List Nat := (List.range n).filter (kindHere r)
/-- The kinds that are there. -/
def presM (r : ReqM) : List Nat := if classM r = 0 then presL r 4 else []
theorem pres_next {r : ReqM} {n : Nat} : presL r (n + 1) = if kindHere r n then presL r n ++ [n] else presL r n := by
  rw [presL, List.range_succ, List.filter_append]
  cases h : kindHere r n <;> simp [presL, h]
theorem pres_len (r : ReqM) (n : Nat) : (presL r n).length ≤ n := by
  have := List.length_filter_le (kindHere r) (List.range n); rwa [List.length_range] at this
theorem pres_yes {r : ReqM} {n : Nat} (h : kindHere r n = true) : (presL r n).map ncell ++ [[.int .i64 (n : Int)]] = (presL r (n + 1)).map ncell := by rw [pres_next, if_pos h, List.map_append]; rfl
theorem pres_no {r : ReqM} {n : Nat} (h : kindHere r n = false) : (presL r n).map ncell = (presL r (n + 1)).map ncell := by rw [pres_next, if_neg (by rw [h]; decide)]
theorem spresent_any {r : ReqM} {pv tv iv : Value} (w : World) (h : Rd w pv 2 (r.pairs.map PairM.cells)) (h2 : Rd w tv 7 (r.types.map TypeM.cells)) (h3 : Rd w iv 7 (r.items.map ItemM.cells)) :
    Fn Tryz.prog 77 [.agg (r.cells pv tv iv).toArray] w (fun v : Value => v.oneCell' = true) (fun v => v) (fun v => [.row v 3 1 ((presM r).map ncell)]) := by
  have hle3 := h3.le_map
  refine Fn.of (n := 40) Tryz.func77 rfl rfl ?_
  refine G.seq ?_
  refine G.region ?_
  refine G.op (og_box rfl rfl) rfl (fun bk1 _ => ?_)
  refine G.v (rv_assign rfl) rfl ?_
  refine G.done ?_
  refine G.thenN ?_
  refine G.seq ?_
  refine G.region ?_
  refine G.op (og_lit rfl .nil rfl rfl rfl rfl rfl rfl) rfl (fun vl _ => ?_)
  refine G.v (rv_assign rfl) rfl ?_
  refine G.done ?_
  refine G.thenN ?_
  refine G.seq ?_
  refine G.seq ?_
  refine G.region ?_
  (first | refine G.v (rv_loadW 0 rfl rfl rfl) rfl ?_ | refine G.v (rv_loadW 1 rfl rfl rfl) rfl ?_ | refine G.v (rv_loadW 2 rfl rfl rfl) rfl ?_ | refine G.v (rv_loadW 3 rfl rfl rfl) rfl ?_ | refine G.v (rv_loadP 0 rfl rfl (.one (.one (.one (.one (.one (.one (.one (.one (.one (.one .nil))))))))))) rfl ?_ | refine G.v (rv_loadP 1 rfl rfl (.one (.one (.one (.one (.one (.one (.one (.one (.one (.one .nil))))))))))) rfl ?_ | refine G.v (rv_loadP 2 rfl rfl (.one (.one (.one (.one (.one (.one (.one (.one (.one (.one .nil))))))))))) rfl ?_ | refine G.v (rv_loadP 3 rfl rfl (.one (.one (.one (.one (.one (.one (.one (.one (.one (.one .nil))))))))))) rfl ?_)
  refine G.op (og_callV rfl rfl (fun w hh => sclass_any (r := r) w (Rd.stays h _ hh) (Rd.stays h2 _ hh) (Rd.stays h3 _ hh))) rfl (fun _ _ => ?_)
  refine G.v (rv_neq rfl rfl) rfl ?_
  refine G.done ?_
  refine G.thenN ?_
  refine G.cond rfl (fun hc => ?_) (fun hc => ?_)
  · try exact Bool.noConfusion hc
    all_goals
     try replace hc := of_decide_eq_true hc
     try simp only [List.length_map] at hc
     try (exfalso; first | contradiction | omega)
     all_goals
      refine G.seq ?_
      refine G.region ?_
      refine G.v (rv_move rfl) rfl ?_
      refine G.v (rv_assign rfl) rfl ?_
      refine G.done ?_
      refine G.thenN ?_
      refine G.ret ?_
      refine G.thenR ?_
      first | (refine G.know (fun w hw => (Rd.owned 0 rfl w hw).one_) (fun hone => G.retF v hone rfl rfl rfl (fun w hw => by rw [presM, if_pos hyes]; rw [show c = 4 by omega] at hw; exact hw.sublist (by repeat (first | exact List.Sublist.refl _ | refine List.Sublist.cons_cons _ ?_ | refine List.Sublist.cons _ ?_)))); done) | (refine G.know (fun w hw => (Rd.owned 0 rfl w hw).one_) (fun hone => G.retF vl hone rfl rfl rfl (fun w hw => by rw [presM, if_neg hc]; exact hw.sublist (by repeat (first | exact List.Sublist.refl _ | refine List.Sublist.cons_cons _ ?_ | refine List.Sublist.cons _ ?_)))); done)
  · try exact Bool.noConfusion hc
    all_goals
     try replace hc := of_decide_eq_false hc
     try simp only [List.length_map] at hc
     try (exfalso; first | contradiction | omega)
     all_goals
      refine G.skip ?_
      refine G.thenN ?_
      refine G.seq ?_
      refine G.seq ?_
      refine G.region ?_
      refine G.v (rv_assign rfl) rfl ?_
      refine G.done ?_
      refine G.thenN ?_
      refine G.block ?_
      -- loop 0: turned [3, 4], kept [1]
      have hyes : classM r = 0 := by omega
      refine G.loopK (ι := Nat × Value) (ks := [1]) (fun x => [(3, x.2), (4, .int .i64 (x.1 : Int))]) (fun x => [.row x.2 3 1 ((presL r x.1).map ncell)]) (fun x => x.1 ≤ 4) (fun x => 4 - x.1) (0, vl) (.cons rfl (.nil)) rfl ?_ ?_ ?_
      · exact Nat.zero_le _
      · exact ⟨rfl, rfl, trivial⟩
      rintro ⟨c, v⟩ hcl
      dsimp only at hcl ⊢
      have hpl := pres_len r c
      have hpl2 : ((presL r c).map ncell).length = (presL r c).length := by simp
      all_goals
       refine G.seq ?_
       refine G.seq ?_
       refine G.region ?_
       refine G.v (rv_move rfl) rfl ?_
       refine G.v (rv_lss rfl rfl) rfl ?_
       refine G.done ?_
       refine G.thenN ?_
       refine G.cond rfl (fun hc => ?_) (fun hc => ?_)
       · try exact Bool.noConfusion hc
         all_goals
          try replace hc := of_decide_eq_true hc
          try simp only [List.length_map] at hc
          try (exfalso; first | contradiction | omega)
          all_goals
           refine G.skip ?_
           refine G.thenN ?_
           refine G.seq ?_
           refine G.block ?_
           refine G.seq ?_
           refine G.region ?_
           refine G.v (rv_assign rfl) rfl ?_
           refine G.done ?_
           refine G.thenN ?_
           refine G.seq ?_
           refine G.seq ?_
           refine G.region ?_
           refine G.v (rv_assign rfl) rfl ?_
           refine G.done ?_
           refine G.thenN ?_
           refine G.block ?_
           -- loop 1: turned [5, 6], kept [1, 3, 4]
           refine G.loopK (ι := Nat) (ks := [1, 3, 4]) (fun k => [(5, .bool ((r.items.take k).any fun x => decide (x.cls = (c : Int)))), (6, .int .i64 k)]) (fun _ => []) (fun k => k ≤ r.items.length) (fun k => r.items.length - k) 0 (.cons rfl (.cons rfl (.cons rfl (.nil)))) rfl ?_ ?_ ?_
           · exact Nat.zero_le _
           · exact ⟨rfl, rfl, trivial⟩
           rintro k hk
           by_cases hlt : k < r.items.length
           case' pos => (obtain ⟨b, hb⟩ := get_of_lt hlt; have he := get_map hb ItemM.cells)
           case' neg => (have ht : ((r.items.take k).any fun x => decide (x.cls = (c : Int))) = kindHere r c := (by rw [kindHere, List.take_of_length_le (by omega)]))
           all_goals
            refine G.seq ?_
            refine G.seq ?_
            refine G.region ?_
            refine G.v (rv_move rfl) rfl ?_
            (first | refine G.v (rv_field rfl) rfl ?_ | refine G.v (rv_fieldE rfl) rfl ?_)
            (first | refine G.v (rv_load1 0 rfl rfl rfl) rfl ?_ | refine G.v (rv_load1 1 rfl rfl rfl) rfl ?_ | refine G.v (rv_load1 2 rfl rfl rfl) rfl ?_ | refine G.v (rv_load1 3 rfl rfl rfl) rfl ?_)
            refine G.v (rv_len rfl (by first | exact Rd.stays (by assumption) | exact Rd.owned 0 rfl | exact Rd.owned 1 rfl | exact Rd.owned 2 rfl | exact Rd.owned 3 rfl)) rfl ?_
            refine G.v (rv_lss rfl rfl) rfl ?_
            refine G.done ?_
            refine G.thenN ?_
            refine G.cond rfl (fun hc => ?_) (fun hc => ?_)
            · try exact Bool.noConfusion hc
              all_goals
               try replace hc := of_decide_eq_true hc
               try simp only [List.length_map] at hc
               try (exfalso; first | contradiction | omega)
               all_goals
                refine G.skip ?_
                refine G.thenN ?_
                refine G.seq ?_
                refine G.block ?_
                refine G.region ?_
                refine G.v (rv_move rfl) rfl ?_
                refine G.v (rv_move rfl) rfl ?_
                all_goals (((with_reducible refine G.gP rfl rfl (fun hg => ?_) (fun hg => ?_)) <;> (try exact Bool.noConfusion hg) <;> (first | (refine G.gY rfl rfl ?_; (first | refine G.v (rv_field rfl) rfl ?_ | refine G.v (rv_fieldE rfl) rfl ?_)) | refine G.gN rfl rfl rfl ?_ | refine G.gU rfl rfl rfl ?_)))
                all_goals ((first | (refine G.gY rfl rfl ?_; (first | refine G.v (rv_load1 0 rfl rfl rfl) rfl ?_ | refine G.v (rv_load1 1 rfl rfl rfl) rfl ?_ | refine G.v (rv_load1 2 rfl rfl rfl) rfl ?_ | refine G.v (rv_load1 3 rfl rfl rfl) rfl ?_)) | refine G.gN rfl rfl rfl ?_ | refine G.gU rfl rfl rfl ?_))
                all_goals ((first | (refine G.gY rfl rfl ?_; refine G.v (rv_move rfl) rfl ?_) | refine G.gN rfl rfl rfl ?_ | refine G.gU rfl rfl rfl ?_))
                all_goals ((first | (refine G.gY rfl rfl ?_; (first | refine G.v (rv_indexH rfl rfl (by first | exact Rd.stays (by assumption) | exact Rd.owned 0 rfl | exact Rd.owned 1 rfl | exact Rd.owned 2 rfl | exact Rd.owned 3 rfl) rfl (by assumption)) rfl ?_ | refine G.v (rv_index rfl rfl (by first | exact Rd.stays (by assumption) | exact Rd.owned 0 rfl | exact Rd.owned 1 rfl | exact Rd.owned 2 rfl | exact Rd.owned 3 rfl) rfl (by assumption)) rfl ?_)) | refine G.gN rfl rfl rfl ?_ | refine G.gU rfl rfl rfl ?_))
                all_goals ((first | (refine G.gY rfl rfl ?_; (first | refine G.v (rv_field rfl) rfl ?_ | refine G.v (rv_fieldE rfl) rfl ?_)) | refine G.gN rfl rfl rfl ?_ | refine G.gU rfl rfl rfl ?_))
                all_goals ((first | (refine G.gY rfl rfl ?_; refine G.v (rv_loadE rfl (by first | exact Rd.stays (by assumption) | exact Rd.owned 0 rfl | exact Rd.owned 1 rfl | exact Rd.owned 2 rfl | exact Rd.owned 3 rfl) (by assumption) rfl) rfl ?_) | refine G.gN rfl rfl rfl ?_ | refine G.gU rfl rfl rfl ?_))
                all_goals ((first | (refine G.gY rfl rfl ?_; refine G.v (rv_move rfl) rfl ?_) | refine G.gN rfl rfl rfl ?_ | refine G.gU rfl rfl rfl ?_))
                all_goals ((first | (refine G.gY rfl rfl ?_; refine G.v (rv_eql rfl rfl) rfl ?_) | refine G.gN rfl rfl rfl ?_ | refine G.gU rfl rfl rfl ?_))
                all_goals ((first | refine G.v (rv_pickT rfl rfl) rfl ?_ | refine G.v (rv_pickF rfl rfl) rfl ?_))
                all_goals (refine G.v (rv_assign rfl) rfl ?_)
                all_goals
                 refine G.done ?_
                 refine G.inN ?_
                 refine G.thenN ?_
                 refine G.region ?_
                 refine G.v (rv_move rfl) rfl ?_
                 (first | refine G.v (rv_incr rfl rfl (by omega)) rfl ?_ | refine G.v (rv_addB rfl rfl (by omega) (by omega)) rfl ?_)
                 refine G.v (rv_assign rfl) rfl ?_
                 refine G.done ?_
                 first | refine G.backK (k + 1) 0 rfl (.cons rfl (.cons rfl (.cons rfl (.nil)))) ?_ ?_ ?_ | refine G.backK (k + 1) 1 rfl (.cons rfl (.cons rfl (.cons rfl (.nil)))) ?_ ?_ ?_ | refine G.backK (k + 1) 2 rfl (.cons rfl (.cons rfl (.cons rfl (.nil)))) ?_ ?_ ?_
                 · exact ⟨congrArg (fun z => some (Value.bool z)) (by rw [List.take_add_one, hb, List.any_append]; simp_all), rfl, trivial⟩
                 · exact hlt
                 · omega
            · try exact Bool.noConfusion hc
              all_goals
               try replace hc := of_decide_eq_false hc
               try simp only [List.length_map] at hc
               try (exfalso; first | contradiction | omega)
               all_goals
                refine G.exit ?_
                refine G.thenX ?_
                refine G.thenX ?_
                refine G.inX ?_
                refine G.thenN ?_
                refine G.seq ?_
                refine G.region ?_
                refine G.v (rv_move rfl) rfl ?_
                refine G.done ?_
                refine G.thenN ?_
                refine G.cond rfl (fun hc => ?_) (fun hc => ?_)
                · try exact Bool.noConfusion hc
                  all_goals
                   try replace hc := of_decide_eq_true hc
                   try simp only [List.length_map] at hc
                   try (exfalso; first | contradiction | omega)
                   all_goals
                    refine G.region ?_
                    refine G.v (rv_move rfl) rfl ?_
                    refine G.v (rv_move rfl) rfl ?_
                    refine G.op (og_lit rfl (.cons rfl .nil) rfl rfl rfl rfl rfl rfl) rfl (fun vl _ => ?_)
                    (first | refine G.op (og_app0 rfl rfl rfl (by first | exact Rd.stays (by assumption) | exact Rd.owned 0 rfl | exact Rd.owned 1 rfl | exact Rd.owned 2 rfl | exact Rd.owned 3 rfl) rfl rfl (by simp; omega) (by simp; omega)) rfl (fun va _ => ?_) | refine G.op (og_app1 rfl rfl rfl (by first | exact Rd.stays (by assumption) | exact Rd.owned 0 rfl | exact Rd.owned 1 rfl | exact Rd.owned 2 rfl | exact Rd.owned 3 rfl) rfl rfl (by simp; omega) (by simp; omega)) rfl (fun va _ => ?_) | refine G.op (og_app2 rfl rfl rfl (by first | exact Rd.stays (by assumption) | exact Rd.owned 0 rfl | exact Rd.owned 1 rfl | exact Rd.owned 2 rfl | exact Rd.owned 3 rfl) rfl rfl (by simp; omega) (by simp; omega)) rfl (fun va _ => ?_) | refine G.op (og_app3 rfl rfl rfl (by first | exact Rd.stays (by assumption) | exact Rd.owned 0 rfl | exact Rd.owned 1 rfl | exact Rd.owned 2 rfl | exact Rd.owned 3 rfl) rfl rfl (by simp; omega) (by simp; omega)) rfl (fun va _ => ?_))
                    refine G.v (rv_assign rfl) rfl ?_
                    refine G.done ?_
                    refine G.inN ?_
                    refine G.thenN ?_
                    refine G.region ?_
                    refine G.v (rv_move rfl) rfl ?_
                    (first | refine G.v (rv_incr rfl rfl (by omega)) rfl ?_ | refine G.v (rv_addB rfl rfl (by omega) (by omega)) rfl ?_)
                    refine G.v (rv_assign rfl) rfl ?_
                    refine G.done ?_
                    first | refine G.backK (c + 1, va) 0 (by first | exact one_eq (congrArg (fun z => Ch.row va 3 1 z) (pres_yes (ht.symm.trans hc))) | exact one_eq (congrArg (fun z => Ch.row v 3 1 z) (pres_no (ht.symm.trans hc)))) (.cons rfl (.nil)) (⟨rfl, rfl, trivial⟩) ?_ ?_ | refine G.backK (c + 1, va) 1 (by first | exact one_eq (congrArg (fun z => Ch.row va 3 1 z) (pres_yes (ht.symm.trans hc))) | exact one_eq (congrArg (fun z => Ch.row v 3 1 z) (pres_no (ht.symm.trans hc)))) (.cons rfl (.nil)) (⟨rfl, rfl, trivial⟩) ?_ ?_ | refine G.backK (c + 1, va) 2 (by first | exact one_eq (congrArg (fun z => Ch.row va 3 1 z) (pres_yes (ht.symm.trans hc))) | exact one_eq (congrArg (fun z => Ch.row v 3 1 z) (pres_no (ht.symm.trans hc)))) (.cons rfl (.nil)) (⟨rfl, rfl, trivial⟩) ?_ ?_ | refine G.backK (c + 1, v) 0 (by first | exact one_eq (congrArg (fun z => Ch.row va 3 1 z) (pres_yes (ht.symm.trans hc))) | exact one_eq (congrArg (fun z => Ch.row v 3 1 z) (pres_no (ht.symm.trans hc)))) (.cons rfl (.nil)) (⟨rfl, rfl, trivial⟩) ?_ ?_ | refine G.backK (c + 1, v) 1 (by first | exact one_eq (congrArg (fun z => Ch.row va 3 1 z) (pres_yes (ht.symm.trans hc))) | exact one_eq (congrArg (fun z => Ch.row v 3 1 z) (pres_no (ht.symm.trans hc)))) (.cons rfl (.nil)) (⟨rfl, rfl, trivial⟩) ?_ ?_ | refine G.backK (c + 1, v) 2 (by first | exact one_eq (congrArg (fun z => Ch.row va 3 1 z) (pres_yes (ht.symm.trans hc))) | exact one_eq (congrArg (fun z => Ch.row v 3 1 z) (pres_no (ht.symm.trans hc)))) (.cons rfl (.nil)) (⟨rfl, rfl, trivial⟩) ?_ ?_
                    · dsimp only; omega
                    · dsimp only; omega
                · try exact Bool.noConfusion hc
                  all_goals
                   try replace hc := of_decide_eq_false hc
                   try simp only [List.length_map] at hc
                   try (exfalso; first | contradiction | omega)
                   all_goals
                    refine G.skip ?_
                    refine G.inN ?_
                    refine G.thenN ?_
                    refine G.region ?_
                    refine G.v (rv_move rfl) rfl ?_
                    (first | refine G.v (rv_incr rfl rfl (by omega)) rfl ?_ | refine G.v (rv_addB rfl rfl (by omega) (by omega)) rfl ?_)
                    refine G.v (rv_assign rfl) rfl ?_
                    refine G.done ?_
                    first | refine G.backK (c + 1, va) 0 (by first | exact one_eq (congrArg (fun z => Ch.row va 3 1 z) (pres_yes (ht.symm.trans hc))) | exact one_eq (congrArg (fun z => Ch.row v 3 1 z) (pres_no (ht.symm.trans hc)))) (.cons rfl (.nil)) (⟨rfl, rfl, trivial⟩) ?_ ?_ | refine G.backK (c + 1, va) 1 (by first | exact one_eq (congrArg (fun z => Ch.row va 3 1 z) (pres_yes (ht.symm.trans hc))) | exact one_eq (congrArg (fun z => Ch.row v 3 1 z) (pres_no (ht.symm.trans hc)))) (.cons rfl (.nil)) (⟨rfl, rfl, trivial⟩) ?_ ?_ | refine G.backK (c + 1, va) 2 (by first | exact one_eq (congrArg (fun z => Ch.row va 3 1 z) (pres_yes (ht.symm.trans hc))) | exact one_eq (congrArg (fun z => Ch.row v 3 1 z) (pres_no (ht.symm.trans hc)))) (.cons rfl (.nil)) (⟨rfl, rfl, trivial⟩) ?_ ?_ | refine G.backK (c + 1, v) 0 (by first | exact one_eq (congrArg (fun z => Ch.row va 3 1 z) (pres_yes (ht.symm.trans hc))) | exact one_eq (congrArg (fun z => Ch.row v 3 1 z) (pres_no (ht.symm.trans hc)))) (.cons rfl (.nil)) (⟨rfl, rfl, trivial⟩) ?_ ?_ | refine G.backK (c + 1, v) 1 (by first | exact one_eq (congrArg (fun z => Ch.row va 3 1 z) (pres_yes (ht.symm.trans hc))) | exact one_eq (congrArg (fun z => Ch.row v 3 1 z) (pres_no (ht.symm.trans hc)))) (.cons rfl (.nil)) (⟨rfl, rfl, trivial⟩) ?_ ?_ | refine G.backK (c + 1, v) 2 (by first | exact one_eq (congrArg (fun z => Ch.row va 3 1 z) (pres_yes (ht.symm.trans hc))) | exact one_eq (congrArg (fun z => Ch.row v 3 1 z) (pres_no (ht.symm.trans hc)))) (.cons rfl (.nil)) (⟨rfl, rfl, trivial⟩) ?_ ?_
                    · dsimp only; omega
                    · dsimp only; omega
       · try exact Bool.noConfusion hc
         all_goals
          try replace hc := of_decide_eq_false hc
          try simp only [List.length_map] at hc
          try (exfalso; first | contradiction | omega)
          all_goals
           refine G.exit ?_
           refine G.thenX ?_
           refine G.thenX ?_
           refine G.inX ?_
           refine G.thenN ?_
           refine G.seq ?_
           refine G.region ?_
           refine G.v (rv_move rfl) rfl ?_
           refine G.v (rv_assign rfl) rfl ?_
           refine G.done ?_
           refine G.thenN ?_
           refine G.ret ?_
           first | (refine G.know (fun w hw => (Rd.owned 0 rfl w hw).one_) (fun hone => G.retF v hone rfl rfl rfl (fun w hw => by rw [presM, if_pos hyes]; rw [show c = 4 by omega] at hw; exact hw.sublist (by repeat (first | exact List.Sublist.refl _ | refine List.Sublist.cons_cons _ ?_ | refine List.Sublist.cons _ ?_)))); done) | (refine G.know (fun w hw => (Rd.owned 0 rfl w hw).one_) (fun hone => G.retF vl hone rfl rfl rfl (fun w hw => by rw [presM, if_neg hc]; exact hw.sublist (by repeat (first | exact List.Sublist.refl _ | refine List.Sublist.cons_cons _ ?_ | refine List.Sublist.cons _ ?_)))); done)
end Go.Proofs.YtibkggjbkgdnkaaGreat

/-
  Owned slices that are cut short, and cleared.
-/
namespace Go.Proofs.YtibkggjbkgdnkaaGreat
open Go.RowKit
section
variable {P : Program} {n : Nat} {w0 : World} {fr : Fr} {H : List Ch}
theorem sub_head {g m cap s k : Nat} : subV (.slice (some ⟨g, 0, none⟩) m cap) s 0 k = .slice (some ⟨g, 0, none⟩) k cap := by simp [subV, sliced, Addr.add_lit]
theorem HeapOk.cutRow {w : World} {v : Value} {t : TypeId} {s : Nat} {es : List (List Value)} (h : HeapOk w0 w (.row v t s es :: H)) (k : Nat) (hk : k ≤ es.length) : HeapOk w0 w (.row (subV v s 0 k) t s (es.take k) :: H) := by
  obtain ⟨hrow, hgood⟩ := h.ok _ (List.mem_cons_self)
  have hlen := fun e he => (hgood e he).1
  have hkl : (es.take k).length = k := by rw [List.length_take]; omega
  have hf : (es.take k).flatten = es.flatten.take (k * s) := take_flat k hlen
  have hks : k * s ≤ es.length * s := Nat.mul_le_mul_right s hk
  have hfl := flatten_len hlen
  have hp := List.pairwise_cons.1 h.ap
  rcases hrow.2 with ⟨rfl, hn⟩ | ⟨g, cap, cur, rfl, hB, hg, hle, hcm, hsz, htk⟩
  · obtain rfl : k = 0 := by omega
    have e0 : es = [] := List.eq_nil_of_length_eq_zero hn
    subst e0
    exact h
  · rw [sub_head]
    refine ⟨h.below, fun c hc => ?_, List.pairwise_cons.2 ⟨fun d hd q hq => hp.1 d hd q hq, hp.2⟩⟩
    rcases List.mem_cons.1 hc with rfl | hc
    · refine ⟨⟨?_, .inr ⟨g, cap, cur, by rw [hkl], hB, hg, by rw [hkl]; omega, hcm, hsz, ?_⟩⟩, fun e he => hgood e (List.mem_of_mem_take he)⟩
      · rw [hkl, hf, List.length_take, hfl]; omega
      · rw [hkl, hf, ← htk, List.take_take, Nat.min_eq_left hks]
    · exact h.ok c (List.mem_cons_of_mem _ hc)
theorem G.cutRow {F : List Ch} {v : Value} {t : TypeId} {s : Nat} {es : List (List Value)} (k : Nat) {K : Act → World → Prop} (hk : k ≤ es.length) (hH : H = .row v t s es :: F) (h : G n w0 fr (.row (subV v s 0 k) t s (es.take k) :: F) K) : G n w0 fr H K :=
  G.heap (fun w hh => by subst hH; exact hh.cutRow k hk) h
theorem og_clear0 {x : Operand} {t e : TypeId} {bs : Nat} {z0 : Value} [hT : TySlice P t e] [hI : TyInfo P e 1 [z0] bs] {F : List Ch} {v dst : Value} {es : List (List Value)} (p : Nat)
    (hx : opv fr x = some dst) (hH : H = .row v e 1 es :: F) (hd : dst = subV v 1 p es.length) (hp : p < es.length) (hz1 : z0.oneCell' = true) :
    OpG P n w0 fr H (.call ⟨.builtin .clear, #[x], #[t]⟩) Triv (fun _ : Unit => .tuple #[]) (fun _ => .row v e 1 (es.take p ++ List.replicate (es.length - p) [z0]) :: F) :=
  fun a w hr hh d T pos af gd K hK => by
    subst hH
    obtain ⟨hrow, hgood⟩ := hh.ok _ (List.mem_cons_self)
    have hlen := fun e he => (hgood e he).1
    have hfl := flatten_len hlen
    obtain ⟨ii, zz, g1, g2, g3, g4, g5⟩ := hI.get
    rcases hrow.2 with ⟨rfl, hn⟩ | ⟨g, cap, cur, rfl, hB, hg, hle, hcm, hsz, htk⟩
    · omega
    · have hd' : dst = .slice (some ⟨g, p, none⟩) (es.length - p) (cap - p) := by
        rw [hd]
        simp only [subV, sliced, if_neg (show ¬ cap = p by omega), Option.map_some, Addr.add_lit, Nat.zero_add, Nat.mul_one]
      subst hd'
      obtain ⟨q, hq⟩ : ∃ q, es.length - p = q + 1 := ⟨es.length - p - 1, by omega⟩
      have hzc : (Builtin.zeroCells #[z0] (es.length - p)).toList = List.replicate (es.length - p) z0 := by
        apply List.ext_getElem
        · simp [Builtin.zeroCells]
        · intro j h1 h2
          simp [Builtin.zeroCells, Nat.mod_one]
      have hst := run_storeCells_at P g p e (List.replicate (es.length - p) z0) 0 cur w hg (by simp; omega) (fun u hu => by rw [(List.mem_replicate.1 hu).2]; exact hz1)
      simp only [Nat.add_zero, List.length_replicate] at hst
      have hrun : (execOp a.eval ⟨d, .call ⟨.builtin .clear, #[x], #[t]⟩, T, pos, af, gd⟩).run P w = .ok (.value (.tuple #[])) (w.setRow g (cur.toList.take p ++ List.replicate (es.length - p) z0 ++ cur.toList.drop (p + (es.length - p))).toArray) := by
        have hz : (Builtin.clear_ #[t] T #[.slice (some ⟨g, p, none⟩) (es.length - p) (cap - p)]).run P w = .ok (.tuple #[]) (w.setRow g (cur.toList.take p ++ List.replicate (es.length - p) z0 ++ cur.toList.drop (p + (es.length - p))).toArray) := by
          rw [hq] at hst hzc ⊢
          simp [Builtin.clear_, run_underlying hT.h, zeroValue, typeInfo, g1, g4, g5, hzc, hst]
        simp only [execOp, resolve, invoke, builtin, Sem.run_bind, Sem.run_pure, Result.andThen_ok, List.map_toArray, List.map_cons, List.map_nil, hr.opv hx, hz]
      unfold okAt; rw [hrun]
      refine hK () _ trivial ?_
      have hnewlen : (cur.toList.take p ++ List.replicate (es.length - p) z0 ++ cur.toList.drop (p + (es.length - p))).length = cur.size := by
        simp only [List.length_append, List.length_take, List.length_drop, Array.length_toList, List.length_replicate]; omega
      have hcl : (es.take p ++ List.replicate (es.length - p) [z0]).length = es.length := by simp; omega
      have hcg : ∀ e0 ∈ es.take p ++ List.replicate (es.length - p) [z0], e0.length = 1 ∧ ∀ u ∈ e0, u.oneCell' = true := by
        intro e0 he0
        rcases List.mem_append.1 he0 with he0 | he0
        · exact hgood e0 (List.mem_of_mem_take he0)
        · rw [(List.mem_replicate.1 he0).2]; exact ⟨rfl, fun u hu => by rw [List.mem_singleton.1 hu]; exact hz1⟩
      have hrep : ∀ m : Nat, (List.replicate m [z0]).flatten = List.replicate m z0 := fun m => by
        induction m with
        | zero => rfl
        | succ m ih => rw [List.replicate_succ, List.flatten_cons, ih, List.replicate_succ]; rfl
      have htp : (es.take p).flatten = cur.toList.take p := by
        rw [take_flat p hlen, ← htk, List.take_take]; congr 1; omega
      refine ⟨hh.below.trans ⟨rfl, rfl, rfl, by simp, fun q hq => setRow_other w g q _ (by omega)⟩, fun d hd => ?_, ?_⟩
      · rcases List.mem_cons.1 hd with rfl | hd
        · refine ⟨⟨?_, .inr ⟨g, cap, _, by rw [hcl], hB, setRow_heap w g cur _ e _ hg, by rw [hcl]; exact hle, hcm, by rw [List.size_toArray, hnewlen, hsz], ?_⟩⟩, hcg⟩
          · rw [flatten_len (fun e he => (hcg e he).1)]
          · rw [List.flatten_append, hrep, htp, hcl, List.toList_toArray, List.take_append]
            simp only [List.length_append, List.length_take, Array.length_toList, List.length_replicate]
            rw [List.take_of_length_le (l := List.take p cur.toList ++ List.replicate (es.length - p) z0) (by simp; omega), show es.length * 1 - (min p cur.size + (es.length - p)) = 0 by omega]; simp
        · have hd' := hh.ok d (List.mem_cons_of_mem _ hd)
          refine Ch.ok_of hd' fun q hq => setRow_other w g q _ ?_
          have := (List.pairwise_cons.1 hh.ap).1 d hd g rfl
          rintro rfl
          exact this hq
      · have := List.pairwise_cons.1 hh.ap
        exact List.pairwise_cons.2 ⟨fun d hd q hq => this.1 d hd q hq, this.2⟩
end
end Go.Proofs.YtibkggjbkgdnkaaGreat

/-
  Equal neighbours that are dropped.
-/
namespace Go.Proofs.YtibkggjbkgdnkaaGreat
open Go.RowKit
attribute [local irreducible] Go.wpList Go.Code.wp Go.Exit.then Go.Exit.inBlock Go.bodyPost Go.Calls pE pB G RunsV FnV Fn FnM
set_option maxRecDepth 100000
set_option maxHeartbeats 4000000
def ddStep (acc : List Int) (x : Int) : List Int := if acc.getLast? = some x then acc else acc ++ [x]
def ddM (l : List Int) : List Int := l.foldl ddStep []
theorem dd_next {l : List Int} {k : Nat} {b : Int} (hb : l[k]? = some b) : ddM (l.take (k + 1)) = ddStep (ddM (l.take k)) b := foldl_take_succ hb ddStep []
theorem ddStep_last (acc : List Int) (x : Int) : (ddStep acc x).getLast? = some x := by
  unfold ddStep; split
  · assumption
  · simp
theorem dd_last {l : List Int} {k : Nat} {a : Int} (ha : l[k]? = some a) : (ddM (l.take (k + 1))).getLast? = some a := by rw [dd_next ha, ddStep_last]
theorem dd_len (l : List Int) : ∀ k, k ≤ l.length → (ddM (l.take k)).length ≤ k
  | 0, _ => by simp [ddM]
  | k + 1, hk => by
    obtain ⟨b, hb⟩ := get_of_lt (l := l) (k := k) (by omega)
    have := dd_len l k (by omega)
    rw [dd_next hb, ddStep]; split
    · omega
    · simp; omega
theorem dd_same {l : List Int} {k : Nat} {a b : Int} (ha : l[k]? = some a) (hb : l[k + 1]? = some b) (h : b = a) : ddM (l.take (k + 1 + 1)) = ddM (l.take (k + 1)) := by
  rw [dd_next hb, ddStep, if_pos (by rw [dd_last ha, h])]
theorem dd_diff {l : List Int} {k : Nat} {a b : Int} (ha : l[k]? = some a) (hb : l[k + 1]? = some b) (h : ¬ b = a) : ddM (l.take (k + 1 + 1)) = ddM (l.take (k + 1)) ++ [b] := by
  rw [dd_next hb, ddStep, if_neg (by rw [dd_last ha]; intro e; exact h (Option.some.inj e).symm)]
/-- The row while it is pressed together. -/
def ddRow (l : List Int) (m : Nat) : List Int := ddM (l.take m) ++ l.drop (ddM (l.take m)).length
theorem ddRow_len {l : List Int} {m : Nat} (h : m ≤ l.length) : (ddRow l m).length = l.length := by
  have := dd_len l m h
  rw [ddRow, List.length_append, List.length_drop]; omega
theorem ddRow_get {l : List Int} {m j : Nat} (h : (ddM (l.take m)).length ≤ j) : (ddRow l m)[j]? = l[j]? := by
  rw [ddRow, List.getElem?_append_right h, List.getElem?_drop]; congr 1; omega
theorem ddRow_set {l : List Int} {k : Nat} {a b : Int} (ha : l[k]? = some a) (hb : l[k + 1]? = some b) (h : ¬ b = a) : (ddRow l (k + 1)).set (ddM (l.take (k + 1))).length b = ddRow l (k + 1 + 1) := by
  have hk := (List.getElem?_eq_some_iff.1 hb).1
  have hl := dd_len l (k + 1) (by omega)
  rw [ddRow, ddRow, dd_diff ha hb h, List.set_append_right _ _ (Nat.le_refl _), Nat.sub_self, List.length_append, List.append_assoc]
  congr 1
  rw [List.drop_eq_getElem_cons (show (ddM (l.take (k + 1))).length < l.length by omega), List.set_cons_zero]
  rfl
theorem dd_one {l : List Int} {b : Int} (hb : l[0]? = some b) : ddM (l.take 1) = l.take 1 := by
  rw [dd_next hb]
  cases l with
  | nil => cases hb
  | cons x r => obtain rfl : x = b := by simpa using hb
                simp [ddM, ddStep]
theorem dd_short {l : List Int} (h : l.length < 2) : ddM l = l := by
  match l, h with
  | [], _ => rfl
  | [x], _ => simp [ddM, ddStep]
theorem dd_go {l : List Int} {j : Nat} {a b : Int} (hd : ddM (l.take (j + 1)) = l.take (j + 1)) (ha : l[j]? = some a) (hb : l[j + 1]? = some b) (h : ¬ b = a) : ddM (l.take (j + 1 + 1)) = l.take (j + 1 + 1) := by
  rw [dd_diff ha hb h, hd, List.take_add_one (i := j + 1), hb]; rfl
theorem s2_rd {w : World} {v : Value} {l : List Int} {m p : Nat} (h : Rd w v 1 ((ddRow l m).map icell)) (hm : m ≤ l.length) (hp : p ≤ l.length) : Rd w (subV v 1 p (l.map icell).length) 1 (((ddRow l m).drop p).map icell) := by
  have := Rd.subL h (k := p) (by rw [ddRow_len hm]; exact hp)
  rwa [List.length_map, ddRow_len hm, ← List.length_map (f := icell)] at this
theorem s2_get {l : List Int} {m p i : Nat} {b : Int} (h : (ddM (l.take m)).length ≤ p + i) (hb : l[p + i]? = some b) : (((ddRow l m).drop p).map icell)[i]? = some (icell b) := by
  rw [List.getElem?_map, List.getElem?_drop, ddRow_get h, hb]; rfl
theorem dd_cut {l : List Int} {m q : Nat} {z : List Value} : ((((ddRow l m).map icell).take (ddM (l.take m)).length) ++ List.replicate q z).take (ddM (l.take m)).length = (ddM (l.take m)).map icell := by
  have e : ((ddRow l m).map icell).take (ddM (l.take m)).length = (ddM (l.take m)).map icell := by
    rw [← List.map_take, ddRow, List.take_left']; rfl
  rw [e, List.take_left']; simp
section
variable {w0 : World} {F : List Ch} {v : Value}
theorem compact_any {l : List Int} (hn : l.length ≤ 1048576) :
    FnMF Tryz.prog 201 [v] w0 [.row v 3 1 (l.map icell)] F (fun x : Value => x.oneCell' = true) (fun x => x) (fun x => [.row x 3 1 ((ddM l).map icell)]) := by
  have hln : (l.map icell).length = l.length := by simp
  refine FnMF.of (n := 61) Tryz.func201 rfl rfl ?_
  refine G.know (fun w hw => (Rd.owned 0 rfl w hw).one_) (fun hone => ?_)
  refine G.seq ?_
  refine G.region ?_
  refine G.v (rv_assign rfl) rfl ?_
  refine G.done ?_
  refine G.thenN ?_
  refine G.seq ?_
  refine G.seq ?_
  refine G.region ?_
  refine G.v (rv_move rfl) rfl ?_
  refine G.v (rv_len rfl (by first | exact Rd.stays (by assumption) | exact Rd.owned 0 rfl | exact Rd.owned 1 rfl | exact (fun w hw => s2_rd (Rd.owned 0 rfl w hw) (by omega) (by omega)))) rfl ?_
  refine G.v (rv_lss rfl rfl) rfl ?_
  refine G.done ?_
  refine G.thenN ?_
  refine G.cond rfl (fun hc => ?_) (fun hc => ?_)
  · try exact Bool.noConfusion hc
    all_goals
     try replace hc := of_decide_eq_true hc
     try simp only [List.length_map] at hc
     try (exfalso; first | contradiction | omega)
     all_goals
      refine G.seq ?_
      refine G.region ?_
      refine G.v (rv_move rfl) rfl ?_
      refine G.v (rv_assign rfl) rfl ?_
      refine G.done ?_
      refine G.thenN ?_
      refine G.ret ?_
      refine G.thenR ?_
      first | exact G.retF v hone rfl rfl rfl (fun w hw => by rw [dd_short (by omega)]; exact hw) | (have he : ddM l = l := (by rw [List.take_of_length_le (by omega)] at hd; exact hd); exact G.retF v hone rfl rfl rfl (fun w hw => by rw [he]; exact hw)) | (refine G.cutRow (ddM (l.take (j + i + 1 + 1))).length (by simp; omega) rfl ?_; refine G.know (fun w hw => (Rd.owned 0 rfl w hw).one_) (fun hone2 => ?_); exact G.retF _ hone2 rfl rfl rfl (fun w hw => by rw [dd_cut] at hw; rw [← (show ddM (l.take (j + i + 1 + 1)) = ddM l by rw [take_all (l := l) (k := j + i + 1 + 1) (by omega)])]; exact hw))
  · try exact Bool.noConfusion hc
    all_goals
     try replace hc := of_decide_eq_false hc
     try simp only [List.length_map] at hc
     try (exfalso; first | contradiction | omega)
     all_goals
      refine G.skip ?_
      refine G.thenN ?_
      refine G.seq ?_
      refine G.seq ?_
      refine G.region ?_
      refine G.v (rv_assign rfl) rfl ?_
      refine G.done ?_
      refine G.thenN ?_
      refine G.block ?_
      -- loop 0: turned [3], kept [0]
      obtain ⟨b0, hb0⟩ := get_of_lt (l := l) (k := 0) (by omega)
      refine G.loopK (ι := Nat) (ks := [0]) (fun j => [(3, .int .i64 ((j + 1 : Nat) : Int))]) (fun _ => [.row v 3 1 (l.map icell)]) (fun j => j + 1 ≤ l.length ∧ ddM (l.take (j + 1)) = l.take (j + 1)) (fun j => l.length - j) 0 (.cons rfl (.nil)) rfl ?_ ?_ ?_
      · exact ⟨by omega, dd_one hb0⟩
      · exact ⟨rfl, trivial⟩
      rintro j ⟨hj, hd⟩
      by_cases hlt : j + 1 < l.length
      case' pos => (obtain ⟨a, ha⟩ := get_of_lt (l := l) (k := j) (by omega); obtain ⟨b, hb⟩ := get_of_lt hlt; have e1 := get_map hb icell; have e2 : (l.map icell)[j + 1 - 1]? = some (icell a) := get_map ha icell)
      all_goals
       refine G.seq ?_
       refine G.seq ?_
       refine G.region ?_
       refine G.v (rv_move rfl) rfl ?_
       refine G.v (rv_move rfl) rfl ?_
       refine G.v (rv_len rfl (by first | exact Rd.stays (by assumption) | exact Rd.owned 0 rfl | exact Rd.owned 1 rfl | exact (fun w hw => s2_rd (Rd.owned 0 rfl w hw) (by omega) (by omega)))) rfl ?_
       refine G.v (rv_lss rfl rfl) rfl ?_
       refine G.done ?_
       refine G.thenN ?_
       refine G.cond rfl (fun hc => ?_) (fun hc => ?_)
       · try exact Bool.noConfusion hc
         all_goals
          try replace hc := of_decide_eq_true hc
          try simp only [List.length_map] at hc
          try (exfalso; first | contradiction | omega)
          all_goals
           refine G.skip ?_
           refine G.thenN ?_
           refine G.seq ?_
           refine G.block ?_
           refine G.seq ?_
           refine G.drawL [] ?_
           refine GE.q 0 rfl (by as_aux_lemma => kernel_rfl) rfl (qg_runs (rv_move rfl)) rfl ?_
           refine GE.q 1 rfl (by as_aux_lemma => kernel_rfl) rfl (qg_runs (rv_move rfl)) rfl ?_
           (first | refine GE.q 2 rfl (by as_aux_lemma => kernel_rfl) rfl (qg_runs (rv_indexH rfl rfl (by first | exact Rd.stays (by assumption) | exact Rd.owned 0 rfl | exact Rd.owned 1 rfl | exact (fun w hw => s2_rd (Rd.owned 0 rfl w hw) (by omega) (by omega))) rfl (by first | exact e1 | exact e2 | exact e3))) rfl ?_ | refine GE.q 2 rfl (by as_aux_lemma => kernel_rfl) rfl (qg_runs (rv_index rfl rfl (by first | exact Rd.stays (by assumption) | exact Rd.owned 0 rfl | exact Rd.owned 1 rfl | exact (fun w hw => s2_rd (Rd.owned 0 rfl w hw) (by omega) (by omega))) rfl (by assumption))) rfl ?_)
           refine GE.q 3 rfl (by as_aux_lemma => kernel_rfl) rfl (qg_runs (rv_loadE rfl (by first | exact Rd.stays (by assumption) | exact Rd.owned 0 rfl | exact Rd.owned 1 rfl | exact (fun w hw => s2_rd (Rd.owned 0 rfl w hw) (by omega) (by omega))) (by first | exact e1 | exact e2 | exact e3) rfl)) rfl ?_
           refine GE.q 4 rfl (by as_aux_lemma => kernel_rfl) rfl (qg_runs (rv_move rfl)) rfl ?_
           refine GE.ol 5 (by as_aux_lemma => kernel_rfl) rfl rfl (og_runs (rv_move rfl)) rfl (fun _ _ h => by first | exact h | exact h.drop 1 | exact h.drop 2 | exact h.drop 3 | exact h.drop 4 | exact h.drop 5 | exact h.drop 6 | exact h.drop 7 | exact h.drop 8 | exact h.drop 9 | exact h.drop 10 | exact h.drop 11 | exact h.drop 12 | exact h.drop 13) (fun _ _ => ?_)
           (first | refine GE.ol 6 (by as_aux_lemma => kernel_rfl) rfl rfl (og_runs (rv_decr rfl rfl (by omega) (by omega))) rfl (fun _ _ h => by first | exact h | exact h.drop 1 | exact h.drop 2 | exact h.drop 3 | exact h.drop 4 | exact h.drop 5 | exact h.drop 6 | exact h.drop 7 | exact h.drop 8 | exact h.drop 9 | exact h.drop 10 | exact h.drop 11 | exact h.drop 12 | exact h.drop 13) (fun _ _ => ?_) | refine GE.ol 6 (by as_aux_lemma => kernel_rfl) rfl rfl (og_runs (rv_subN rfl rfl (by omega) (by omega))) rfl (fun _ _ h => by first | exact h | exact h.drop 1 | exact h.drop 2 | exact h.drop 3 | exact h.drop 4 | exact h.drop 5 | exact h.drop 6 | exact h.drop 7 | exact h.drop 8 | exact h.drop 9 | exact h.drop 10 | exact h.drop 11 | exact h.drop 12 | exact h.drop 13) (fun _ _ => ?_))
           (first | refine GE.ol 7 (by as_aux_lemma => kernel_rfl) rfl rfl (og_runs (rv_indexH rfl rfl (by first | exact Rd.stays (by assumption) | exact Rd.owned 0 rfl | exact Rd.owned 1 rfl | exact (fun w hw => s2_rd (Rd.owned 0 rfl w hw) (by omega) (by omega))) rfl (by first | exact e1 | exact e2 | exact e3))) rfl (fun _ _ h => by first | exact h | exact h.drop 1 | exact h.drop 2 | exact h.drop 3 | exact h.drop 4 | exact h.drop 5 | exact h.drop 6 | exact h.drop 7 | exact h.drop 8 | exact h.drop 9 | exact h.drop 10 | exact h.drop 11 | exact h.drop 12 | exact h.drop 13) (fun _ _ => ?_) | refine GE.ol 7 (by as_aux_lemma => kernel_rfl) rfl rfl (og_runs (rv_index rfl rfl (by first | exact Rd.stays (by assumption) | exact Rd.owned 0 rfl | exact Rd.owned 1 rfl | exact (fun w hw => s2_rd (Rd.owned 0 rfl w hw) (by omega) (by omega))) rfl (by assumption))) rfl (fun _ _ h => by first | exact h | exact h.drop 1 | exact h.drop 2 | exact h.drop 3 | exact h.drop 4 | exact h.drop 5 | exact h.drop 6 | exact h.drop 7 | exact h.drop 8 | exact h.drop 9 | exact h.drop 10 | exact h.drop 11 | exact h.drop 12 | exact h.drop 13) (fun _ _ => ?_))
           refine GE.ol 8 (by as_aux_lemma => kernel_rfl) rfl rfl (og_runs (rv_loadE rfl (by first | exact Rd.stays (by assumption) | exact Rd.owned 0 rfl | exact Rd.owned 1 rfl | exact (fun w hw => s2_rd (Rd.owned 0 rfl w hw) (by omega) (by omega))) (by first | exact e1 | exact e2 | exact e3) rfl)) rfl (fun _ _ h => by first | exact h | exact h.drop 1 | exact h.drop 2 | exact h.drop 3 | exact h.drop 4 | exact h.drop 5 | exact h.drop 6 | exact h.drop 7 | exact h.drop 8 | exact h.drop 9 | exact h.drop 10 | exact h.drop 11 | exact h.drop 12 | exact h.drop 13) (fun _ _ => ?_)
           refine GE.ol 9 (by as_aux_lemma => kernel_rfl) rfl rfl (og_runs (rv_eql rfl rfl)) rfl (fun _ _ h => by first | exact h | exact h.drop 1 | exact h.drop 2 | exact h.drop 3 | exact h.drop 4 | exact h.drop 5 | exact h.drop 6 | exact h.drop 7 | exact h.drop 8 | exact h.drop 9 | exact h.drop 10 | exact h.drop 11 | exact h.drop 12 | exact h.drop 13) (fun _ _ => ?_)
           refine GE.done (by as_aux_lemma => kernel_rfl) ?_
           refine G.thenN ?_
           refine G.cond rfl (fun hc => ?_) (fun hc => ?_)
           · try exact Bool.noConfusion hc
             all_goals
              try replace hc := of_decide_eq_true hc
              try simp only [List.length_map] at hc
              try (exfalso; first | contradiction | omega)
              all_goals
               refine G.seq ?_
               refine G.region ?_
               refine G.v (rv_move rfl) rfl ?_
               refine G.v (rv_move rfl) rfl ?_
               refine G.v (rv_sliceL rfl rfl (by first | exact Rd.stays (by assumption) | exact Rd.owned 0 rfl | exact Rd.owned 1 rfl | exact (fun w hw => s2_rd (Rd.owned 0 rfl w hw) (by omega) (by omega))) (by omega)) rfl ?_
               refine G.v (rv_assign rfl) rfl ?_
               refine G.done ?_
               refine G.thenN ?_
               refine G.seq ?_
               refine G.seq ?_
               refine G.region ?_
               refine G.v (rv_assign rfl) rfl ?_
               refine G.done ?_
               refine G.thenN ?_
               refine G.block ?_
               -- loop 1: turned [3, 5], kept [0, 4]
               have hD0 : ddM (l.take (j + 1 + 1)) = l.take (j + 1) := (dd_same ha hb hc).trans hd
               have hDl : (ddM (l.take (j + 1 + 1))).length = j + 1 := by rw [hD0, List.length_take]; omega
               refine G.rowEq ((ddRow l (j + 0 + 1 + 1)).map icell) (by rw [ddRow, show j + 0 + 1 + 1 = j + 1 + 1 from rfl, hDl, hD0, List.take_append_drop]) rfl ?_
               refine G.loopK (ι := Nat) (ks := [0, 4]) (fun i => [(3, .int .i64 ((ddM (l.take (j + i + 1 + 1))).length : Int)), (5, .int .i64 ((i + 1 : Nat) : Int))]) (fun i => [.row v 3 1 ((ddRow l (j + i + 1 + 1)).map icell)]) (fun i => j + i + 1 + 1 ≤ l.length ∧ (ddM (l.take (j + i + 1 + 1))).length + 1 ≤ j + i + 1 + 1) (fun i => l.length - i) 0 (.cons rfl (.cons rfl (.nil))) rfl ?_ ?_ ?_
               · exact ⟨hlt, by rw [show j + 0 + 1 + 1 = j + 1 + 1 from rfl, hDl]; omega⟩
               · exact ⟨congrArg (fun z : Nat => some (Value.int .i64 (z : Int))) hDl.symm, rfl, trivial⟩
               rintro i ⟨hi, hDi⟩
               have hrl := ddRow_len hi
               have hrl2 : ((ddRow l (j + i + 1 + 1)).map icell).length = l.length := by rw [List.length_map, hrl]
               have hsl : (((ddRow l (j + i + 1 + 1)).drop (j + 1)).map icell).length = l.length - (j + 1) := by rw [List.length_map, List.length_drop, hrl]
               have hsl3 : ((ddRow l (j + i + 1 + 1)).drop (j + 1)).length = l.length - (j + 1) := by rw [List.length_drop, hrl]
               by_cases hlt2 : j + i + 1 + 1 < l.length
               case' pos => (obtain ⟨a2, ha2⟩ := get_of_lt (l := l) (k := j + i + 1) (by omega); obtain ⟨b2, hb2⟩ := get_of_lt hlt2; replace e1 : (((ddRow l (j + i + 1 + 1)).drop (j + 1)).map icell)[i + 1]? = some (icell b2) := s2_get (by omega) (by rw [show j + 1 + (i + 1) = j + i + 1 + 1 by omega]; exact hb2); replace e2 : (((ddRow l (j + i + 1 + 1)).drop (j + 1)).map icell)[i + 1 - 1]? = some (icell a2) := s2_get (by omega) (by rw [show j + 1 + (i + 1 - 1) = j + i + 1 by omega]; exact ha2); obtain ⟨c3, hc3⟩ := get_of_lt (l := ddRow l (j + i + 1 + 1)) (k := (ddM (l.take (j + i + 1 + 1))).length) (by omega); have e3 := get_map hc3 icell)
               all_goals
                refine G.seq ?_
                refine G.seq ?_
                refine G.region ?_
                refine G.v (rv_move rfl) rfl ?_
                refine G.v (rv_move rfl) rfl ?_
                refine G.v (rv_len rfl (by first | exact Rd.stays (by assumption) | exact Rd.owned 0 rfl | exact Rd.owned 1 rfl | exact (fun w hw => s2_rd (Rd.owned 0 rfl w hw) (by omega) (by omega)))) rfl ?_
                refine G.v (rv_lss rfl rfl) rfl ?_
                refine G.done ?_
                refine G.thenN ?_
                refine G.cond rfl (fun hc => ?_) (fun hc => ?_)
                · try exact Bool.noConfusion hc
                  all_goals
                   try replace hc := of_decide_eq_true hc
                   try simp only [List.length_map] at hc
                   try (exfalso; first | contradiction | omega)
                   all_goals
                    refine G.skip ?_
                    refine G.thenN ?_
                    refine G.seq ?_
                    refine G.block ?_
                    refine G.seq ?_
                    refine G.drawL [] ?_
                    refine GE.q 0 rfl (by as_aux_lemma => kernel_rfl) rfl (qg_runs (rv_move rfl)) rfl ?_
                    refine GE.q 1 rfl (by as_aux_lemma => kernel_rfl) rfl (qg_runs (rv_move rfl)) rfl ?_
                    (first | refine GE.q 2 rfl (by as_aux_lemma => kernel_rfl) rfl (qg_runs (rv_indexH rfl rfl (by first | exact Rd.stays (by assumption) | exact Rd.owned 0 rfl | exact Rd.owned 1 rfl | exact (fun w hw => s2_rd (Rd.owned 0 rfl w hw) (by omega) (by omega))) rfl (by first | exact e1 | exact e2 | exact e3))) rfl ?_ | refine GE.q 2 rfl (by as_aux_lemma => kernel_rfl) rfl (qg_runs (rv_index rfl rfl (by first | exact Rd.stays (by assumption) | exact Rd.owned 0 rfl | exact Rd.owned 1 rfl | exact (fun w hw => s2_rd (Rd.owned 0 rfl w hw) (by omega) (by omega))) rfl (by assumption))) rfl ?_)
                    refine GE.q 3 rfl (by as_aux_lemma => kernel_rfl) rfl (qg_runs (rv_loadE rfl (by first | exact Rd.stays (by assumption) | exact Rd.owned 0 rfl | exact Rd.owned 1 rfl | exact (fun w hw => s2_rd (Rd.owned 0 rfl w hw) (by omega) (by omega))) (by first | exact e1 | exact e2 | exact e3) rfl)) rfl ?_
                    refine GE.q 4 rfl (by as_aux_lemma => kernel_rfl) rfl (qg_runs (rv_move rfl)) rfl ?_
                    refine GE.ol 5 (by as_aux_lemma => kernel_rfl) rfl rfl (og_runs (rv_move rfl)) rfl (fun _ _ h => by first | exact h | exact h.drop 1 | exact h.drop 2 | exact h.drop 3 | exact h.drop 4 | exact h.drop 5 | exact h.drop 6 | exact h.drop 7 | exact h.drop 8 | exact h.drop 9 | exact h.drop 10 | exact h.drop 11 | exact h.drop 12 | exact h.drop 13) (fun _ _ => ?_)
                    (first | refine GE.ol 6 (by as_aux_lemma => kernel_rfl) rfl rfl (og_runs (rv_decr rfl rfl (by omega) (by omega))) rfl (fun _ _ h => by first | exact h | exact h.drop 1 | exact h.drop 2 | exact h.drop 3 | exact h.drop 4 | exact h.drop 5 | exact h.drop 6 | exact h.drop 7 | exact h.drop 8 | exact h.drop 9 | exact h.drop 10 | exact h.drop 11 | exact h.drop 12 | exact h.drop 13) (fun _ _ => ?_) | refine GE.ol 6 (by as_aux_lemma => kernel_rfl) rfl rfl (og_runs (rv_subN rfl rfl (by omega) (by omega))) rfl (fun _ _ h => by first | exact h | exact h.drop 1 | exact h.drop 2 | exact h.drop 3 | exact h.drop 4 | exact h.drop 5 | exact h.drop 6 | exact h.drop 7 | exact h.drop 8 | exact h.drop 9 | exact h.drop 10 | exact h.drop 11 | exact h.drop 12 | exact h.drop 13) (fun _ _ => ?_))
                    (first | refine GE.ol 7 (by as_aux_lemma => kernel_rfl) rfl rfl (og_runs (rv_indexH rfl rfl (by first | exact Rd.stays (by assumption) | exact Rd.owned 0 rfl | exact Rd.owned 1 rfl | exact (fun w hw => s2_rd (Rd.owned 0 rfl w hw) (by omega) (by omega))) rfl (by first | exact e1 | exact e2 | exact e3))) rfl (fun _ _ h => by first | exact h | exact h.drop 1 | exact h.drop 2 | exact h.drop 3 | exact h.drop 4 | exact h.drop 5 | exact h.drop 6 | exact h.drop 7 | exact h.drop 8 | exact h.drop 9 | exact h.drop 10 | exact h.drop 11 | exact h.drop 12 | exact h.drop 13) (fun _ _ => ?_) | refine GE.ol 7 (by as_aux_lemma => kernel_rfl) rfl rfl (og_runs (rv_index rfl rfl (by first | exact Rd.stays (by assumption) | exact Rd.owned 0 rfl | exact Rd.owned 1 rfl | exact (fun w hw => s2_rd (Rd.owned 0 rfl w hw) (by omega) (by omega))) rfl (by assumption))) rfl (fun _ _ h => by first | exact h | exact h.drop 1 | exact h.drop 2 | exact h.drop 3 | exact h.drop 4 | exact h.drop 5 | exact h.drop 6 | exact h.drop 7 | exact h.drop 8 | exact h.drop 9 | exact h.drop 10 | exact h.drop 11 | exact h.drop 12 | exact h.drop 13) (fun _ _ => ?_))
                    refine GE.ol 8 (by as_aux_lemma => kernel_rfl) rfl rfl (og_runs (rv_loadE rfl (by first | exact Rd.stays (by assumption) | exact Rd.owned 0 rfl | exact Rd.owned 1 rfl | exact (fun w hw => s2_rd (Rd.owned 0 rfl w hw) (by omega) (by omega))) (by first | exact e1 | exact e2 | exact e3) rfl)) rfl (fun _ _ h => by first | exact h | exact h.drop 1 | exact h.drop 2 | exact h.drop 3 | exact h.drop 4 | exact h.drop 5 | exact h.drop 6 | exact h.drop 7 | exact h.drop 8 | exact h.drop 9 | exact h.drop 10 | exact h.drop 11 | exact h.drop 12 | exact h.drop 13) (fun _ _ => ?_)
                    refine GE.ol 9 (by as_aux_lemma => kernel_rfl) rfl rfl (og_runs (rv_neq rfl rfl)) rfl (fun _ _ h => by first | exact h | exact h.drop 1 | exact h.drop 2 | exact h.drop 3 | exact h.drop 4 | exact h.drop 5 | exact h.drop 6 | exact h.drop 7 | exact h.drop 8 | exact h.drop 9 | exact h.drop 10 | exact h.drop 11 | exact h.drop 12 | exact h.drop 13) (fun _ _ => ?_)
                    refine GE.done (by as_aux_lemma => kernel_rfl) ?_
                    refine G.thenN ?_
                    refine G.cond rfl (fun hc => ?_) (fun hc => ?_)
                    · try exact Bool.noConfusion hc
                      all_goals
                       try replace hc := of_decide_eq_true hc
                       try simp only [List.length_map] at hc
                       try (exfalso; first | contradiction | omega)
                       all_goals
                        refine G.seq ?_
                        refine G.region ?_
                        refine G.v (rv_move rfl) rfl ?_
                        refine G.v (rv_move rfl) rfl ?_
                        refine G.v (rv_move rfl) rfl ?_
                        refine G.v (rv_move rfl) rfl ?_
                        (first | refine G.v (rv_indexH rfl rfl (by first | exact Rd.stays (by assumption) | exact Rd.owned 0 rfl | exact Rd.owned 1 rfl | exact (fun w hw => s2_rd (Rd.owned 0 rfl w hw) (by omega) (by omega))) rfl (by first | exact e1 | exact e2 | exact e3)) rfl ?_ | refine G.v (rv_index rfl rfl (by first | exact Rd.stays (by assumption) | exact Rd.owned 0 rfl | exact Rd.owned 1 rfl | exact (fun w hw => s2_rd (Rd.owned 0 rfl w hw) (by omega) (by omega))) rfl (by assumption)) rfl ?_)
                        refine G.v (rv_loadE rfl (by first | exact Rd.stays (by assumption) | exact Rd.owned 0 rfl | exact Rd.owned 1 rfl | exact (fun w hw => s2_rd (Rd.owned 0 rfl w hw) (by omega) (by omega))) (by first | exact e1 | exact e2 | exact e3) rfl) rfl ?_
                        (first | refine G.v (rv_indexH rfl rfl (by first | exact Rd.stays (by assumption) | exact Rd.owned 0 rfl | exact Rd.owned 1 rfl | exact (fun w hw => s2_rd (Rd.owned 0 rfl w hw) (by omega) (by omega))) rfl (by first | exact e1 | exact e2 | exact e3)) rfl ?_ | refine G.v (rv_index rfl rfl (by first | exact Rd.stays (by assumption) | exact Rd.owned 0 rfl | exact Rd.owned 1 rfl | exact (fun w hw => s2_rd (Rd.owned 0 rfl w hw) (by omega) (by omega))) rfl (by assumption)) rfl ?_)
                        (first | refine G.op0 (og_stE0 rfl rfl rfl (by first | exact e1 | exact e2 | exact e3) rfl rfl rfl rfl (.zero (.cons .nil))) (fun _ _ => ?_) | refine G.op0 (og_stE1 rfl rfl rfl (by first | exact e1 | exact e2 | exact e3) rfl rfl rfl rfl (.zero (.cons .nil))) (fun _ _ => ?_))
                        refine G.done ?_
                        refine G.thenN ?_
                        refine G.region ?_
                        refine G.v (rv_move rfl) rfl ?_
                        (first | refine G.v (rv_incr rfl rfl (by omega)) rfl ?_ | refine G.v (rv_addN rfl rfl (by omega)) rfl ?_)
                        refine G.v (rv_assign rfl) rfl ?_
                        refine G.done ?_
                        refine G.inN ?_
                        refine G.thenN ?_
                        refine G.region ?_
                        refine G.v (rv_move rfl) rfl ?_
                        (first | refine G.v (rv_incr rfl rfl (by omega)) rfl ?_ | refine G.v (rv_addN rfl rfl (by omega)) rfl ?_)
                        refine G.v (rv_assign rfl) rfl ?_
                        refine G.done ?_
                        first | refine G.backK (i + 1) 0 (by first | exact one_eq (congrArg (fun z => Ch.row v 3 1 z) ((List.map_set (f := icell)).symm.trans (congrArg (List.map icell) (ddRow_set ha2 hb2 hc)))) | exact one_eq (congrArg (fun z : List Int => Ch.row v 3 1 (z.map icell)) (show ddRow l (j + i + 1 + 1) = ddRow l (j + i + 1 + 1 + 1) by simp only [ddRow]; rw [dd_same ha2 hb2 (by omega)]))) (.cons rfl (.cons rfl (.nil))) ?_ ?_ ?_
                        · first | exact ⟨congrArg (fun z : Nat => some (Value.int .i64 (z : Int))) (by rw [show j + (i + 1) + 1 + 1 = j + i + 1 + 1 + 1 from rfl, dd_diff ha2 hb2 hc, List.length_append]; rfl), rfl, trivial⟩ | exact ⟨congrArg (fun z : Nat => some (Value.int .i64 (z : Int))) (by rw [show j + (i + 1) + 1 + 1 = j + i + 1 + 1 + 1 from rfl, dd_same ha2 hb2 (by omega)]), rfl, trivial⟩
                        · refine ⟨by omega, ?_⟩; first | (rw [show j + (i + 1) + 1 + 1 = j + i + 1 + 1 + 1 from rfl, dd_diff ha2 hb2 hc, List.length_append]; simp; omega) | (rw [show j + (i + 1) + 1 + 1 = j + i + 1 + 1 + 1 from rfl, dd_same ha2 hb2 (by omega)]; omega)
                        · omega
                    · try exact Bool.noConfusion hc
                      all_goals
                       try replace hc := of_decide_eq_false hc
                       try simp only [List.length_map] at hc
                       try (exfalso; first | contradiction | omega)
                       all_goals
                        refine G.skip ?_
                        refine G.inN ?_
                        refine G.thenN ?_
                        refine G.region ?_
                        refine G.v (rv_move rfl) rfl ?_
                        (first | refine G.v (rv_incr rfl rfl (by omega)) rfl ?_ | refine G.v (rv_addN rfl rfl (by omega)) rfl ?_)
                        refine G.v (rv_assign rfl) rfl ?_
                        refine G.done ?_
                        first | refine G.backK (i + 1) 0 (by first | exact one_eq (congrArg (fun z => Ch.row v 3 1 z) ((List.map_set (f := icell)).symm.trans (congrArg (List.map icell) (ddRow_set ha2 hb2 hc)))) | exact one_eq (congrArg (fun z : List Int => Ch.row v 3 1 (z.map icell)) (show ddRow l (j + i + 1 + 1) = ddRow l (j + i + 1 + 1 + 1) by simp only [ddRow]; rw [dd_same ha2 hb2 (by omega)]))) (.cons rfl (.cons rfl (.nil))) ?_ ?_ ?_
                        · first | exact ⟨congrArg (fun z : Nat => some (Value.int .i64 (z : Int))) (by rw [show j + (i + 1) + 1 + 1 = j + i + 1 + 1 + 1 from rfl, dd_diff ha2 hb2 hc, List.length_append]; rfl), rfl, trivial⟩ | exact ⟨congrArg (fun z : Nat => some (Value.int .i64 (z : Int))) (by rw [show j + (i + 1) + 1 + 1 = j + i + 1 + 1 + 1 from rfl, dd_same ha2 hb2 (by omega)]), rfl, trivial⟩
                        · refine ⟨by omega, ?_⟩; first | (rw [show j + (i + 1) + 1 + 1 = j + i + 1 + 1 + 1 from rfl, dd_diff ha2 hb2 hc, List.length_append]; simp; omega) | (rw [show j + (i + 1) + 1 + 1 = j + i + 1 + 1 + 1 from rfl, dd_same ha2 hb2 (by omega)]; omega)
                        · omega
                · try exact Bool.noConfusion hc
                  all_goals
                   try replace hc := of_decide_eq_false hc
                   try simp only [List.length_map] at hc
                   try (exfalso; first | contradiction | omega)
                   all_goals
                    refine G.exit ?_
                    refine G.thenX ?_
                    refine G.thenX ?_
                    refine G.inX ?_
                    refine G.thenN ?_
                    refine G.seq ?_
                    refine G.region ?_
                    refine G.v (rv_move rfl) rfl ?_
                    refine G.v (rv_move rfl) rfl ?_
                    refine G.v (rv_sliceL rfl rfl (by first | exact Rd.stays (by assumption) | exact Rd.owned 0 rfl | exact Rd.owned 1 rfl | exact (fun w hw => s2_rd (Rd.owned 0 rfl w hw) (by omega) (by omega))) (by omega)) rfl ?_
                    refine G.op0 (og_clear0 ((ddM (l.take (j + i + 1 + 1))).length) rfl rfl rfl (by first | omega | (simp; omega)) rfl) (fun _ _ => ?_)
                    refine G.done ?_
                    refine G.thenN ?_
                    refine G.seq ?_
                    refine G.region ?_
                    refine G.v (rv_move rfl) rfl ?_
                    refine G.v (rv_move rfl) rfl ?_
                    refine G.v (rv_sliceH rfl rfl (Rd.owned 0 rfl) (by simp; omega)) rfl ?_
                    refine G.v (rv_assign rfl) rfl ?_
                    refine G.done ?_
                    refine G.thenN ?_
                    refine G.ret ?_
                    refine G.inR ?_
                    refine G.thenR ?_
                    refine G.thenR ?_
                    refine G.inR ?_
                    refine G.thenR ?_
                    first | exact G.retF v hone rfl rfl rfl (fun w hw => by rw [dd_short (by omega)]; exact hw) | (have he : ddM l = l := (by rw [List.take_of_length_le (by omega)] at hd; exact hd); exact G.retF v hone rfl rfl rfl (fun w hw => by rw [he]; exact hw)) | (refine G.cutRow (ddM (l.take (j + i + 1 + 1))).length (by simp; omega) rfl ?_; refine G.know (fun w hw => (Rd.owned 0 rfl w hw).one_) (fun hone2 => ?_); exact G.retF _ hone2 rfl rfl rfl (fun w hw => by rw [dd_cut] at hw; rw [← (show ddM (l.take (j + i + 1 + 1)) = ddM l by rw [take_all (l := l) (k := j + i + 1 + 1) (by omega)])]; exact hw))
           · try exact Bool.noConfusion hc
             all_goals
              try replace hc := of_decide_eq_false hc
              try simp only [List.length_map] at hc
              try (exfalso; first | contradiction | omega)
              all_goals
               refine G.skip ?_
               refine G.inN ?_
               refine G.thenN ?_
               refine G.region ?_
               refine G.v (rv_move rfl) rfl ?_
               (first | refine G.v (rv_incr rfl rfl (by omega)) rfl ?_ | refine G.v (rv_addN rfl rfl (by omega)) rfl ?_)
               refine G.v (rv_assign rfl) rfl ?_
               refine G.done ?_
               first | refine G.backK (j + 1) 0 rfl (.cons rfl (.nil)) ?_ ?_ ?_ | refine G.backK (j + 1) 1 rfl (.cons rfl (.nil)) ?_ ?_ ?_
               · exact ⟨rfl, trivial⟩
               · exact ⟨by omega, dd_go hd ha hb hc⟩
               · omega
       · try exact Bool.noConfusion hc
         all_goals
          try replace hc := of_decide_eq_false hc
          try simp only [List.length_map] at hc
          try (exfalso; first | contradiction | omega)
          all_goals
           refine G.exit ?_
           refine G.thenX ?_
           refine G.thenX ?_
           refine G.inX ?_
           refine G.thenN ?_
           refine G.seq ?_
           refine G.region ?_
           refine G.v (rv_move rfl) rfl ?_
           refine G.v (rv_assign rfl) rfl ?_
           refine G.done ?_
           refine G.thenN ?_
           refine G.ret ?_
           first | exact G.retF v hone rfl rfl rfl (fun w hw => by rw [dd_short (by omega)]; exact hw) | (have he : ddM l = l := (by rw [List.take_of_length_le (by omega)] at hd; exact hd); exact G.retF v hone rfl rfl rfl (fun w hw => by rw [he]; exact hw)) | (refine G.cutRow (ddM (l.take (j + i + 1 + 1))).length (by simp; omega) rfl ?_; refine G.know (fun w hw => (Rd.owned 0 rfl w hw).one_) (fun hone2 => ?_); exact G.retF _ hone2 rfl rfl rfl (fun w hw => by rw [dd_cut] at hw; rw [← (show ddM (l.take (j + i + 1 + 1)) = ddM l by rw [take_all (l := l) (k := j + i + 1 + 1) (by omega)])]; exact hw))
end
end Go.Proofs.YtibkggjbkgdnkaaGreat

/-
  Slices that are nil; a list's kinds.
-/
namespace Go.Proofs.YtibkggjbkgdnkaaGreat
open Go.RowKit
section
variable {P : Program} {n : Nat} {w0 : World} {fr : Fr} {H : List Ch}
theorem run_eqNilD {t e : TypeId} (hT : P.underlying t = some (.slice e)) (d : Nat) (b : Option Addr) (m c m2 c2 : Nat) (w : World) : (Op.equalIn (d + 1) t (.slice b m c) (.slice none m2 c2)).run P w = .ok b.isNone w := by
  cases b <;> simp [Op.equalIn, run_underlying hT]
theorem run_eqNil {t e : TypeId} (hT : P.underlying t = some (.slice e)) (b : Option Addr) (m c m2 c2 : Nat) (w : World) : (Op.equal t (.slice b m c) (.slice none m2 c2)).run P w = .ok b.isNone w := by
  exact run_eqNilD hT 9999 b m c m2 c2 w
theorem rv_eqNil {x y : Operand} {t t' e : TypeId} [hT : TySlice P t e] {b : Option Addr} {m c m2 c2 : Nat} (hx : opv fr x = some (.slice b m c)) (hy : opv fr y = some (.slice none m2 c2)) : RunsV P n w0 fr H (.binOp .eql t x y t') (.bool b.isNone) := fun a w hr _ _ _ _ _ _ => by
  have h := run_eqNil hT.h b m c m2 c2 w
  simp only [execOp, hr.opv hx, hr.opv hy, Sem.run_bind, eqGuard_at_slice, Sem.run_pure, Result.andThen_ok]
  have e : binOp .eql t (.slice b m c) (.slice none m2 c2) = (do pure (.bool (← Op.equal t (.slice b m c) (.slice none m2 c2)))) := rfl
  rw [e]
  simp only [Sem.run_bind, h, Result.andThen_ok, Sem.run_pure]
end
attribute [local irreducible] Go.wpList Go.Code.wp Go.Exit.then Go.Exit.inBlock Go.bodyPost Go.Calls pE pB G RunsV FnV Fn FnM
set_option maxRecDepth 100000
set_option maxHeartbeats 4000000
theorem clone_any {v : Value} {l : List Int} (w : World) (h : Rd w v 1 (l.map icell)) (hn : l.length ≤ 1048576) : Fn Tryz.prog 124 [v] w (fun v : Value => v.oneCell' = true) (fun v => v) (fun v => [.row v 3 1 (l.map icell)]) := by
  have hln : (l.map icell).length = l.length := by simp
  obtain ⟨ad, cap, e, h1, h2, h3⟩ := h.form
  refine Fn.of (n := 8) Tryz.func124 rfl rfl ?_
  refine G.seq ?_
  refine G.region ?_
  refine G.v (rv_assign rfl) rfl ?_
  refine G.done ?_
  refine G.thenN ?_
  refine G.seq ?_
  refine G.seq ?_
  refine G.region ?_
  refine G.v (rv_move rfl) rfl ?_
  refine G.v (rv_eqNil (by rw [e]; rfl) rfl) rfl ?_
  refine G.done ?_
  refine G.thenN ?_
  refine G.cond rfl (fun hc => ?_) (fun hc => ?_)
  · try exact Bool.noConfusion hc
    all_goals
     try replace hc := of_decide_eq_true hc
     try (exfalso; first | contradiction | omega)
     all_goals
      have hl0 : l = [] := by (cases ad with | none => (rcases Nat.eq_zero_or_pos (l.map icell).length with hz | hz; (exact List.eq_nil_of_length_eq_zero (by omega)); (obtain ⟨b, o, hbo⟩ := h3 hz; cases hbo)) | some a => cases hc)
      all_goals
       refine G.seq ?_
       refine G.region ?_
       refine G.v (rv_assign rfl) rfl ?_
       refine G.done ?_
       refine G.thenN ?_
       refine G.ret ?_
       refine G.thenR ?_
       first | exact G.retF (.slice none 0 0) rfl rfl rfl rfl (fun w hw => by rw [hl0]; exact (hw.none).nilRow _ _) | (refine G.know (fun w hw => (Rd.owned 0 rfl w hw).one_) (fun hone => G.retF va hone rfl rfl rfl (fun w hw => hw.sublist (by repeat (first | exact List.Sublist.refl _ | refine List.Sublist.cons_cons _ ?_ | refine List.Sublist.cons _ ?_)))))
  · try exact Bool.noConfusion hc
    all_goals
     try replace hc := of_decide_eq_false hc
     try (exfalso; first | contradiction | omega)
     all_goals
      refine G.skip ?_
      refine G.thenN ?_
      refine G.seq ?_
      refine G.region ?_
      refine G.op (og_lit rfl .nil rfl rfl rfl rfl rfl rfl) rfl (fun vl _ => ?_)
      refine G.v (rv_move rfl) rfl ?_
      (first | refine G.op (og_app0 rfl rfl rfl (by first | exact Rd.stays (by assumption) | exact Rd.owned 0 rfl | exact Rd.owned 1 rfl) rfl rfl (by simp; omega) (by simp; omega)) rfl (fun va _ => ?_) | refine G.op (og_app1 rfl rfl rfl (by first | exact Rd.stays (by assumption) | exact Rd.owned 0 rfl | exact Rd.owned 1 rfl) rfl rfl (by simp; omega) (by simp; omega)) rfl (fun va _ => ?_))
      refine G.v (rv_assign rfl) rfl ?_
      refine G.done ?_
      refine G.thenN ?_
      refine G.ret ?_
      first | exact G.retF (.slice none 0 0) rfl rfl rfl rfl (fun w hw => by rw [hl0]; exact (hw.none).nilRow _ _) | (refine G.know (fun w hw => (Rd.owned 0 rfl w hw).one_) (fun hone => G.retF va hone rfl rfl rfl (fun w hw => hw.sublist (by repeat (first | exact List.Sublist.refl _ | refine List.Sublist.cons_cons _ ?_ | refine List.Sublist.cons _ ?_)))))
theorem kinds_any {v : Value} {l : List Int} (w : World) (h : Rd w v 1 (l.map icell)) (hn : l.length ≤ 12) : Fn Tryz.prog 149 [v] w (fun v : Value => v.oneCell' = true) (fun v => v) (fun v => [.row v 3 1 ((ddM (sortM l)).map icell)]) := by
  refine Fn.of (n := 10) Tryz.func149 rfl rfl ?_
  refine G.seq ?_
  refine G.region ?_
  refine G.v (rv_assign rfl) rfl ?_
  refine G.done ?_
  refine G.thenN ?_
  refine G.seq ?_
  refine G.region ?_
  refine G.v (rv_move rfl) rfl ?_
  (refine G.op (og_callF1 rfl rfl (fun w hh => clone_any w (Rd.stays h _ hh) (by omega))) rfl ?_; rintro v1 hv1; try dsimp only)
  refine G.v (rv_assign rfl) rfl ?_
  refine G.done ?_
  refine G.thenN ?_
  refine G.seq ?_
  refine G.region ?_
  refine G.v (rv_move rfl) rfl ?_
  ((first | refine G.frontR0 (v1) rfl ?_ | refine G.frontR1 (v1) rfl ?_ | refine G.frontR2 (v1) rfl ?_ | refine G.frontR3 (v1) rfl ?_ | refine G.frontR4 (v1) rfl ?_ | refine G.frontR5 (v1) rfl ?_ | refine G.frontR6 (v1) rfl ?_ | refine G.frontR7 (v1) rfl ?_ | refine G.frontR8 (v1) rfl ?_ | refine G.frontR9 (v1) rfl ?_ | refine G.frontR10 (v1) rfl ?_ | refine G.frontR11 (v1) rfl ?_ | refine G.frontR12 (v1) rfl ?_ | refine G.frontR13 (v1) rfl ?_ | refine G.frontR14 (v1) rfl ?_ | refine G.frontR15 (v1) rfl ?_); refine G.op (og_callMM1 rfl rfl rfl (sort_any (ks := l) hn)) rfl ?_; rintro ⟨⟩ _; try dsimp only)
  refine G.done ?_
  refine G.thenN ?_
  refine G.seq ?_
  refine G.region ?_
  refine G.v (rv_move rfl) rfl ?_
  ((first | refine G.frontR0 (v1) rfl ?_ | refine G.frontR1 (v1) rfl ?_ | refine G.frontR2 (v1) rfl ?_ | refine G.frontR3 (v1) rfl ?_ | refine G.frontR4 (v1) rfl ?_ | refine G.frontR5 (v1) rfl ?_ | refine G.frontR6 (v1) rfl ?_ | refine G.frontR7 (v1) rfl ?_ | refine G.frontR8 (v1) rfl ?_ | refine G.frontR9 (v1) rfl ?_ | refine G.frontR10 (v1) rfl ?_ | refine G.frontR11 (v1) rfl ?_ | refine G.frontR12 (v1) rfl ?_ | refine G.frontR13 (v1) rfl ?_ | refine G.frontR14 (v1) rfl ?_ | refine G.frontR15 (v1) rfl ?_); refine G.op (og_callMM1 rfl rfl rfl (compact_any (l := sortM l) (by rw [sortM_len]; omega))) rfl ?_; rintro v2 hv2; try dsimp only)
  refine G.v (rv_assign rfl) rfl ?_
  refine G.done ?_
  refine G.thenN ?_
  refine G.ret ?_
  exact G.retF v2 hv2 rfl rfl rfl (fun w hw => hw.sublist (by repeat (first | exact List.Sublist.refl _ | refine List.Sublist.cons_cons _ ?_ | refine List.Sublist.cons _ ?_)))
end Go.Proofs.YtibkggjbkgdnkaaGreat

/-
  Kinds, ascending, each once: no program is in sight here.
-/
namespace Go.Proofs.YtibkggjbkgdnkaaGreat
open Go.RowKit
theorem ddStep_mem {acc : List Int} {y x : Int} : x ∈ ddStep acc y ↔ x ∈ acc ∨ x = y := by
  unfold ddStep
  split
  · rename_i h
    have : y ∈ acc := List.mem_of_getLast? h
    constructor
    · exact .inl
    · rintro (h1 | rfl)
      · exact h1
      · exact this
  · simp
theorem dd_memG : ∀ (l acc : List Int) (x : Int), x ∈ l.foldl ddStep acc ↔ x ∈ acc ∨ x ∈ l
  | [], acc, x => by simp
  | y :: r, acc, x => by rw [List.foldl_cons, dd_memG r, ddStep_mem, List.mem_cons, or_assoc]
theorem dd_mem {l : List Int} {x : Int} : x ∈ ddM l ↔ x ∈ l := by rw [ddM, dd_memG]; simp
theorem last_max {acc : List Int} {a y : Int} (h : acc.Pairwise (· < ·)) (hl : acc.getLast? = some y) (ha : a ∈ acc) : a ≤ y := by
  obtain ⟨ys, rfl⟩ := List.getLast?_eq_some_iff.1 hl
  rcases List.mem_append.1 ha with h1 | h1
  · have := (List.pairwise_append.1 h).2.2 a h1 y (by simp); omega
  · simp at h1; omega
theorem dd_ascG : ∀ (l acc : List Int), acc.Pairwise (· < ·) → l.Pairwise (· ≤ ·) → (∀ a ∈ acc, ∀ x ∈ l, a ≤ x) → (l.foldl ddStep acc).Pairwise (· < ·)
  | [], acc, h, _, _ => h
  | y :: r, acc, h, hl, hx => by
    rw [List.foldl_cons]
    have hr := List.pairwise_cons.1 hl
    refine dd_ascG r _ ?_ hr.2 (fun a ha x hxr => ?_)
    · unfold ddStep
      split
      · exact h
      · rename_i hn
        refine List.pairwise_append.2 ⟨h, List.pairwise_singleton _ _, fun a ha b hb => ?_⟩
        obtain rfl : b = y := by simpa using hb
        have h1 := hx a ha b (List.mem_cons_self)
        rcases Int.lt_or_eq_of_le h1 with h2 | h2
        · exact h2
        · exfalso
          cases hq : acc.getLast? with
          | none => rw [List.getLast?_eq_none_iff.1 hq] at ha; simp at ha
          | some z =>
            have h3 := last_max h hq ha
            have h4 := hx z (List.mem_of_getLast? hq) b (List.mem_cons_self)
            exact hn (by rw [hq]; congr 1; omega)
    · rcases ddStep_mem.1 ha with h1 | rfl
      · exact hx a h1 x (List.mem_cons_of_mem _ hxr)
      · exact hr.1 x hxr
theorem dd_asc {l : List Int} (h : l.Pairwise (· ≤ ·)) : (ddM l).Pairwise (· < ·) := dd_ascG l [] List.Pairwise.nil h (fun a ha => by simp at ha)
theorem asc_uniq : ∀ {xs ys : List Int}, xs.Pairwise (· < ·) → ys.Pairwise (· < ·) → (∀ x, x ∈ xs ↔ x ∈ ys) → xs = ys
  | [], [], _, _, _ => rfl
  | [], y :: ys, _, _, h => absurd ((h y).2 (List.mem_cons_self)) (by simp)
  | x :: xs, [], _, _, h => absurd ((h x).1 (List.mem_cons_self)) (by simp)
  | x :: xs, y :: ys, h1, h2, h => by
    have p1 := List.pairwise_cons.1 h1
    have p2 := List.pairwise_cons.1 h2
    have e : x = y := by
      rcases List.mem_cons.1 ((h x).1 (List.mem_cons_self)) with e | e
      · exact e
      · rcases List.mem_cons.1 ((h y).2 (List.mem_cons_self)) with e2 | e2
        · exact e2.symm
        · have := p2.1 x e; have := p1.1 y e2; omega
    subst e
    rw [asc_uniq p1.2 p2.2 (fun z => ⟨fun hz => ?_, fun hz => ?_⟩)]
    · rcases List.mem_cons.1 ((h z).1 (List.mem_cons_of_mem _ hz)) with e | e
      · have := p1.1 z hz; omega
      · exact e
    · rcases List.mem_cons.1 ((h z).2 (List.mem_cons_of_mem _ hz)) with e | e
      · have := p2.1 z hz; omega
      · exact e
theorem kinds_pres {r : ReqM} (h : r.items.all itemOkM = true) : ddM (sortM (r.items.map ItemM.cls)) = (presL r 4).map (fun n : Nat => (n : Int)) := by
  refine asc_uniq (dd_asc (sortM_srt _)) ?_ (fun x => ?_)
  · rw [List.pairwise_map]
    exact (List.pairwise_lt_range.sublist (List.filter_sublist)).imp (fun h => by omega)
  · rw [dd_mem, (sortM_perm _).mem_iff]
    simp only [presL, kindHere, List.mem_map, List.mem_filter, List.mem_range, List.any_eq_true, decide_eq_true_eq]
    constructor
    · rintro ⟨b, hb, rfl⟩
      have hc := List.all_eq_true.1 h b hb
      simp only [itemOkM, Bool.and_eq_true, inB, decide_eq_true_eq] at hc
      have h3 := hc.1.2
      exact ⟨b.cls.toNat, ⟨by omega, b, hb, by omega⟩, by omega⟩
    · rintro ⟨n, ⟨_, b, hb, e⟩, rfl⟩
      exact ⟨b, hb, e⟩
end Go.Proofs.YtibkggjbkgdnkaaGreat

/-
  The kinds that are there: the program's way.
-/
namespace Go.Proofs.YtibkggjbkgdnkaaGreat
open Go.RowKit
attribute [local irreducible] Go.wpList Go.Code.wp Go.Exit.then Go.Exit.inBlock Go.bodyPost Go.Calls pE pB G RunsV FnV Fn FnM
set_option maxRecDepth 100000
set_option maxHeartbeats 4000000
theorem cls_snoc {l : List ItemM} {k : Nat} {b : ItemM} (hb : l[k]? = some b) : ((l.take k).map ItemM.cls).map icell ++ [[.int .i64 b.cls]] = ((l.take (k + 1)).map ItemM.cls).map icell := by
  simp [List.take_add_one, hb, icell]
theorem present_any {r : ReqM} {pv tv iv : Value} (w : World) (h : Rd w pv 2 (r.pairs.map PairM.cells)) (h2 : Rd w tv 7 (r.types.map TypeM.cells)) (h3 : Rd w iv 7 (r.items.map ItemM.cells)) :
    Fn Tryz.prog 84 [.agg (r.cells pv tv iv).toArray] w (fun v : Value => v.oneCell' = true) (fun v => v) (fun v => [.row v 3 1 ((presM r).map ncell)]) := by
  have hle3 := h3.le_map
  refine Fn.of (n := 25) Tryz.func84 rfl rfl ?_
  refine G.seq ?_
  refine G.region ?_
  refine G.op (og_box rfl rfl) rfl (fun bk1 _ => ?_)
  refine G.v (rv_assign rfl) rfl ?_
  refine G.done ?_
  refine G.thenN ?_
  refine G.seq ?_
  refine G.seq ?_
  refine G.region ?_
  (first | refine G.v (rv_loadW 0 rfl rfl rfl) rfl ?_ | refine G.v (rv_loadW 1 rfl rfl rfl) rfl ?_ | refine G.v (rv_loadW 2 rfl rfl rfl) rfl ?_ | refine G.v (rv_loadW 3 rfl rfl rfl) rfl ?_ | refine G.v (rv_loadP 0 rfl rfl (.one (.one (.one (.one (.one (.one (.one (.one (.one (.one .nil))))))))))) rfl ?_ | refine G.v (rv_loadP 1 rfl rfl (.one (.one (.one (.one (.one (.one (.one (.one (.one (.one .nil))))))))))) rfl ?_ | refine G.v (rv_loadP 2 rfl rfl (.one (.one (.one (.one (.one (.one (.one (.one (.one (.one .nil))))))))))) rfl ?_ | refine G.v (rv_loadP 3 rfl rfl (.one (.one (.one (.one (.one (.one (.one (.one (.one (.one .nil))))))))))) rfl ?_)
  refine G.op (og_callV rfl rfl (fun w hh => sound_any (r := r) w (Rd.stays h _ hh) (Rd.stays h2 _ hh) (Rd.stays h3 _ hh))) rfl (fun _ _ => ?_)
  refine G.v (rv_not rfl) rfl ?_
  refine G.done ?_
  refine G.thenN ?_
  refine G.cond rfl (fun hc => ?_) (fun hc => ?_)
  · try exact Bool.noConfusion hc
    all_goals
     try replace hc := of_decide_eq_true hc
     try simp only [List.length_map] at hc
     try (exfalso; first | contradiction | omega)
     all_goals
      refine G.seq ?_
      refine G.region ?_
      refine G.v (rv_assign rfl) rfl ?_
      refine G.done ?_
      refine G.thenN ?_
      refine G.ret ?_
      refine G.thenR ?_
      first | exact G.retF vk hvk rfl rfl rfl (fun w hw => by rw [take_all (by omega), kinds_pres hit] at hw; rw [presM, if_pos hcl]; rw [List.map_map] at hw; exact hw.sublist (by repeat (first | exact List.Sublist.refl _ | refine List.Sublist.cons_cons _ ?_ | refine List.Sublist.cons _ ?_))) | exact G.retF (.slice none 0 0) rfl rfl rfl rfl (fun w hw => by rw [presM, if_neg (by first | exact of_decide_eq_false (by simpa using hc) | simpa using hc)]; exact (hw.none).nilRow _ _)
  · try exact Bool.noConfusion hc
    all_goals
     try replace hc := of_decide_eq_false hc
     try simp only [List.length_map] at hc
     try (exfalso; first | contradiction | omega)
     all_goals
      refine G.skip ?_
      refine G.thenN ?_
      refine G.seq ?_
      refine G.region ?_
      refine G.op (og_lit rfl .nil rfl rfl rfl rfl rfl rfl) rfl (fun vl _ => ?_)
      refine G.v (rv_assign rfl) rfl ?_
      refine G.done ?_
      refine G.thenN ?_
      refine G.seq ?_
      refine G.seq ?_
      refine G.region ?_
      (first | refine G.v (rv_field rfl) rfl ?_ | refine G.v (rv_fieldE rfl) rfl ?_)
      (first | refine G.v (rv_load1 0 rfl rfl rfl) rfl ?_ | refine G.v (rv_load1 1 rfl rfl rfl) rfl ?_ | refine G.v (rv_load1 2 rfl rfl rfl) rfl ?_ | refine G.v (rv_load1 3 rfl rfl rfl) rfl ?_)
      refine G.v (rv_len rfl (by first | exact Rd.stays (by assumption) | exact Rd.owned 0 rfl | exact Rd.owned 1 rfl | exact Rd.owned 2 rfl | exact Rd.owned 3 rfl)) rfl ?_
      refine G.v (rv_move rfl) rfl ?_
      refine G.done ?_
      refine G.thenN ?_
      refine G.block ?_
      -- loop 0: turned [3, 13], kept [11, 12]
      have hcl : classM r = 0 := (by first | exact of_decide_eq_true (by simpa using hc) | simpa using hc)
      have hit := bounds_items (cls_sound hcl)
      have h8 := (bounds_lens (cls_sound hcl)).1
      refine G.loopK (ι := Nat × Value) (ks := [11, 12]) (fun x => [(3, x.2), (13, .int .i64 (x.1 : Int))]) (fun x => [.row x.2 3 1 (((r.items.take x.1).map ItemM.cls).map icell)]) (fun x => x.1 ≤ r.items.length) (fun x => r.items.length - x.1) (0, vl) (.cons rfl (.cons rfl (.nil))) rfl ?_ ?_ ?_
      · exact Nat.zero_le _
      · exact ⟨rfl, rfl, trivial⟩
      rintro ⟨k, v⟩ hk
      dsimp only at hk ⊢
      have hul : (((r.items.take k).map ItemM.cls).map icell).length = k := (by rw [List.length_map, List.length_map, List.length_take]; omega)
      have hul2 : ((r.items.take k).map ItemM.cls).length = k := (by rw [List.length_map, List.length_take]; omega)
      have hul3 : (r.items.take k).length = k := (by rw [List.length_take]; omega)
      by_cases hlt : k < r.items.length
      case' pos => (obtain ⟨b, hb⟩ := get_of_lt hlt; have he := get_map hb ItemM.cells)
      all_goals
       refine G.seq ?_
       refine G.region ?_
       refine G.v (rv_lss rfl rfl) rfl ?_
       refine G.done ?_
       refine G.thenN ?_
       refine G.seq ?_
       refine G.cond rfl (fun hc => ?_) (fun hc => ?_)
       · try exact Bool.noConfusion hc
         all_goals
          try replace hc := of_decide_eq_true hc
          try simp only [List.length_map] at hc
          try (exfalso; first | contradiction | omega)
          all_goals
           refine G.skip ?_
           refine G.thenN ?_
           refine G.seq ?_
           refine G.block ?_
           refine G.seq ?_
           refine G.region ?_
           (first | refine G.v (rv_indexH rfl rfl (by first | exact Rd.stays (by assumption) | exact Rd.owned 0 rfl | exact Rd.owned 1 rfl | exact Rd.owned 2 rfl | exact Rd.owned 3 rfl) rfl (by assumption)) rfl ?_ | refine G.v (rv_index rfl rfl (by first | exact Rd.stays (by assumption) | exact Rd.owned 0 rfl | exact Rd.owned 1 rfl | exact Rd.owned 2 rfl | exact Rd.owned 3 rfl) rfl (by assumption)) rfl ?_)
           (first | refine G.v (rv_loadEW rfl (by first | exact Rd.stays (by assumption) | exact Rd.owned 0 rfl | exact Rd.owned 1 rfl | exact Rd.owned 2 rfl | exact Rd.owned 3 rfl) (by assumption) rfl) rfl ?_ | refine G.v (rv_loadEP rfl (by first | exact Rd.stays (by assumption) | exact Rd.owned 0 rfl | exact Rd.owned 1 rfl | exact Rd.owned 2 rfl | exact Rd.owned 3 rfl) (by assumption) (.one (.one (.one (.one (.one (.one (.one .nil)))))))) rfl ?_)
           refine G.op (og_alloc) rfl (fun bk5 _ => ?_)
           (first | refine G.op0 (og_st0 rfl rfl rfl rfl rfl rfl (.zero (.cons (.cons (.cons (.cons (.cons (.cons (.cons .nil))))))))) (fun _ _ => ?_) | refine G.op0 (og_st1 rfl rfl rfl rfl rfl rfl (.zero (.cons (.cons (.cons (.cons (.cons (.cons (.cons .nil))))))))) (fun _ _ => ?_) | refine G.op0 (og_st2 rfl rfl rfl rfl rfl rfl (.zero (.cons (.cons (.cons (.cons (.cons (.cons (.cons .nil))))))))) (fun _ _ => ?_) | refine G.op0 (og_st3 rfl rfl rfl rfl rfl rfl (.zero (.cons (.cons (.cons (.cons (.cons (.cons (.cons .nil))))))))) (fun _ _ => ?_))
           refine G.done ?_
           refine G.thenN ?_
           refine G.region ?_
           refine G.v (rv_move rfl) rfl ?_
           (first | refine G.v (rv_field rfl) rfl ?_ | refine G.v (rv_fieldE rfl) rfl ?_)
           (first | refine G.v (rv_load1 0 rfl rfl rfl) rfl ?_ | refine G.v (rv_load1 1 rfl rfl rfl) rfl ?_ | refine G.v (rv_load1 2 rfl rfl rfl) rfl ?_ | refine G.v (rv_load1 3 rfl rfl rfl) rfl ?_)
           refine G.op (og_lit rfl (.cons rfl .nil) rfl rfl rfl rfl rfl rfl) rfl (fun vl _ => ?_)
           (first | refine G.op (og_app0 rfl rfl rfl (by first | exact Rd.stays (by assumption) | exact Rd.owned 0 rfl | exact Rd.owned 1 rfl | exact Rd.owned 2 rfl | exact Rd.owned 3 rfl) rfl rfl (by simp; omega) (by simp; omega)) rfl (fun va _ => ?_) | refine G.op (og_app1 rfl rfl rfl (by first | exact Rd.stays (by assumption) | exact Rd.owned 0 rfl | exact Rd.owned 1 rfl | exact Rd.owned 2 rfl | exact Rd.owned 3 rfl) rfl rfl (by simp; omega) (by simp; omega)) rfl (fun va _ => ?_) | refine G.op (og_app2 rfl rfl rfl (by first | exact Rd.stays (by assumption) | exact Rd.owned 0 rfl | exact Rd.owned 1 rfl | exact Rd.owned 2 rfl | exact Rd.owned 3 rfl) rfl rfl (by simp; omega) (by simp; omega)) rfl (fun va _ => ?_) | refine G.op (og_app3 rfl rfl rfl (by first | exact Rd.stays (by assumption) | exact Rd.owned 0 rfl | exact Rd.owned 1 rfl | exact Rd.owned 2 rfl | exact Rd.owned 3 rfl) rfl rfl (by simp; omega) (by simp; omega)) rfl (fun va _ => ?_))
           refine G.v (rv_assign rfl) rfl ?_
           refine G.done ?_
           refine G.inN ?_
           refine G.thenN ?_
           refine G.region ?_
           (first | refine G.v (rv_incr rfl rfl (by omega)) rfl ?_ | refine G.v (rv_addB rfl rfl (by omega) (by omega)) rfl ?_)
           refine G.v (rv_move rfl) rfl ?_
           refine G.done ?_
           first | refine G.backK (k + 1, va) 0 (one_eq (congrArg (fun z => Ch.row va 3 1 z) (cls_snoc hb))) (.cons rfl (.cons rfl (.nil))) ?_ ?_ ?_ | refine G.backK (k + 1, va) 1 (one_eq (congrArg (fun z => Ch.row va 3 1 z) (cls_snoc hb))) (.cons rfl (.cons rfl (.nil))) ?_ ?_ ?_ | refine G.backK (k + 1, va) 2 (one_eq (congrArg (fun z => Ch.row va 3 1 z) (cls_snoc hb))) (.cons rfl (.cons rfl (.nil))) ?_ ?_ ?_ | refine G.backK (k + 1, va) 3 (one_eq (congrArg (fun z => Ch.row va 3 1 z) (cls_snoc hb))) (.cons rfl (.cons rfl (.nil))) ?_ ?_ ?_
           · exact ⟨rfl, rfl, trivial⟩
           · exact hlt
           · dsimp only; omega
       · try exact Bool.noConfusion hc
         all_goals
          try replace hc := of_decide_eq_false hc
          try simp only [List.length_map] at hc
          try (exfalso; first | contradiction | omega)
          all_goals
           refine G.exit ?_
           refine G.thenX ?_
           refine G.thenX ?_
           refine G.inX ?_
           refine G.thenN ?_
           refine G.seq ?_
           refine G.region ?_
           refine G.v (rv_move rfl) rfl ?_
           (refine G.op (og_callF1 rfl rfl (fun w hh => kinds_any (l := (r.items.take k).map ItemM.cls) w (by first | exact Rd.owned 0 rfl _ hh | exact Rd.owned 1 rfl _ hh) (by omega))) rfl ?_; rintro vk hvk; try dsimp only)
           refine G.v (rv_assign rfl) rfl ?_
           refine G.done ?_
           refine G.thenN ?_
           refine G.ret ?_
           first | exact G.retF vk hvk rfl rfl rfl (fun w hw => by rw [take_all (by omega), kinds_pres hit] at hw; rw [presM, if_pos hcl]; rw [List.map_map] at hw; exact hw.sublist (by repeat (first | exact List.Sublist.refl _ | refine List.Sublist.cons_cons _ ?_ | refine List.Sublist.cons _ ?_))) | exact G.retF (.slice none 0 0) rfl rfl rfl rfl (fun w hw => by rw [presM, if_neg (by first | exact of_decide_eq_false (by simpa using hc) | simpa using hc)]; exact (hw.none).nilRow _ _)
end Go.Proofs.YtibkggjbkgdnkaaGreat

/-
  Closures that tell whether a kind may lie beside a group.
-/
namespace Go.Proofs.YtibkggjbkgdnkaaGreat
open Go.RowKit
attribute [local irreducible] Go.wpList Go.Code.wp Go.Exit.then Go.Exit.inBlock Go.bodyPost Go.Calls pE pB G RunsV FnV Fn FnM
set_option maxRecDepth 100000
set_option maxHeartbeats 4000000
theorem indexInt_any {g : Nat} [FnOk Tryz.prog g] {cap : List Value} {v : Value} {l : List Int} {p : Int → Bool} (w : World) (h : Rd w v 1 (l.map icell)) (hf : ∀ (w' : World) (k : Nat) (b : Int), HeapOk w w' [] → l[k]? = some b → FnV Tryz.prog g ([.int .i64 b] ++ cap) w' (.bool (p b))) :
    FnV Tryz.prog 202 [v, .func (.func g) #[] cap.toArray] w (.int .i64 (idxM p l)) := by
  have hle := h.le_map
  have hln : (l.map icell).length = l.length := by simp
  refine FnV.of (n := 19) Tryz.func202 rfl rfl ?_
  refine G.seq ?_
  refine G.region ?_
  refine G.v (rv_assign rfl) rfl ?_
  refine G.done ?_
  refine G.thenN ?_
  refine G.seq ?_
  refine G.seq ?_
  refine G.region ?_
  refine G.v (rv_move rfl) rfl ?_
  refine G.v (rv_len rfl (by first | exact Rd.stays (by assumption))) rfl ?_
  refine G.v (rv_move rfl) rfl ?_
  refine G.done ?_
  refine G.thenN ?_
  refine G.block ?_
  -- loop 0: turned [8], kept [0, 1, 7]
  refine G.loopK (ι := Nat) (ks := [0, 1, 7]) (fun k => [(8, .int .i64 k)]) (fun _ => []) (fun k => k ≤ l.length ∧ (l.take k).any p = false) (fun k => l.length - k) 0 (.cons rfl (.cons rfl (.cons rfl (.nil)))) rfl ?_ ?_ ?_
  · exact ⟨Nat.zero_le _, rfl⟩
  · exact ⟨rfl, trivial⟩
  rintro k ⟨hk, ht⟩
  by_cases hlt : k < l.length
  case' pos => (obtain ⟨b, hb⟩ := get_of_lt hlt; have he := get_map hb icell)
  all_goals
   refine G.seq ?_
   refine G.region ?_
   refine G.v (rv_lss rfl rfl) rfl ?_
   refine G.done ?_
   refine G.thenN ?_
   refine G.seq ?_
   refine G.cond rfl (fun hc => ?_) (fun hc => ?_)
   · try exact Bool.noConfusion hc
     all_goals
      try replace hc := of_decide_eq_true hc
      try (exfalso; first | contradiction | omega)
      all_goals
       refine G.skip ?_
       refine G.thenN ?_
       refine G.seq ?_
       refine G.block ?_
       refine G.seq ?_
       refine G.region ?_
       refine G.v (rv_move rfl) rfl ?_
       refine G.v (rv_assign rfl) rfl ?_
       refine G.done ?_
       refine G.thenN ?_
       refine G.seq ?_
       refine G.region ?_
       refine G.v (rv_move rfl) rfl ?_
       refine G.v (rv_move rfl) rfl ?_
       refine G.v (rv_move rfl) rfl ?_
       (first | refine G.v (rv_indexH rfl rfl (by first | exact Rd.stays (by assumption)) rfl (by assumption)) rfl ?_ | refine G.v (rv_index rfl rfl (by first | exact Rd.stays (by assumption)) rfl (by assumption)) rfl ?_)
       refine G.v (rv_loadE rfl (by first | exact Rd.stays (by assumption)) (by assumption) rfl) rfl ?_
       refine G.op (og_callV rfl rfl (fun w hh => hf w k b hh.none hb)) rfl (fun _ _ => ?_)
       refine G.done ?_
       refine G.thenN ?_
       refine G.cond rfl (fun hc => ?_) (fun hc => ?_)
       · try exact Bool.noConfusion hc
         all_goals
          try replace hc := of_decide_eq_true hc
          try (exfalso; first | contradiction | omega)
          all_goals
           refine G.seq ?_
           refine G.region ?_
           refine G.v (rv_move rfl) rfl ?_
           refine G.v (rv_assign rfl) rfl ?_
           refine G.done ?_
           refine G.thenN ?_
           refine G.ret ?_
           refine G.inR ?_
           refine G.thenR ?_
           refine G.thenR ?_
           refine G.inR ?_
           refine G.thenR ?_
           first | exact G.retFV rfl rfl (congrArg (Value.int .i64) (idx_at ht hb hc).symm) | exact G.retFV rfl rfl (congrArg (Value.int .i64) (idx_none ht hlt).symm)
       · try exact Bool.noConfusion hc
         all_goals
          try replace hc := of_decide_eq_false hc
          try (exfalso; first | contradiction | omega)
          all_goals
           refine G.skip ?_
           refine G.inN ?_
           refine G.thenN ?_
           refine G.region ?_
           (first | refine G.v (rv_incr rfl rfl (by omega)) rfl ?_ | refine G.v (rv_addB rfl rfl (by omega) (by omega)) rfl ?_)
           refine G.v (rv_move rfl) rfl ?_
           refine G.done ?_
           first | refine G.backK (k + 1) 0 rfl (.cons rfl (.cons rfl (.cons rfl (.nil)))) ?_ ?_ ?_
           · exact ⟨rfl, trivial⟩
           · exact ⟨hlt, any_next ht hb hc⟩
           · omega
   · try exact Bool.noConfusion hc
     all_goals
      try replace hc := of_decide_eq_false hc
      try (exfalso; first | contradiction | omega)
      all_goals
       refine G.exit ?_
       refine G.thenX ?_
       refine G.thenX ?_
       refine G.inX ?_
       refine G.thenN ?_
       refine G.seq ?_
       refine G.region ?_
       refine G.v (rv_assign rfl) rfl ?_
       refine G.done ?_
       refine G.thenN ?_
       refine G.ret ?_
       first | exact G.retFV rfl rfl (congrArg (Value.int .i64) (idx_at ht hb hc).symm) | exact G.retFV rfl rfl (congrArg (Value.int .i64) (idx_none ht hlt).symm)
theorem containsInt_any {g : Nat} [FnOk Tryz.prog g] {cap : List Value} {v : Value} {l : List Int} {p : Int → Bool} (w : World) (h : Rd w v 1 (l.map icell)) (hf : ∀ (w' : World) (k : Nat) (b : Int), HeapOk w w' [] → l[k]? = some b → FnV Tryz.prog g ([.int .i64 b] ++ cap) w' (.bool (p b))) :
    FnV Tryz.prog 151 [v, .func (.func g) #[] cap.toArray] w (.bool (l.any p)) := by
  refine FnV.of (n := 9) Tryz.func151 rfl rfl ?_
  refine G.seq ?_
  refine G.region ?_
  refine G.v (rv_assign rfl) rfl ?_
  refine G.done ?_
  refine G.thenN ?_
  refine G.seq ?_
  refine G.region ?_
  refine G.v (rv_move rfl) rfl ?_
  refine G.v (rv_move rfl) rfl ?_
  refine G.op (og_callV rfl rfl (fun w hh => indexInt_any w (Rd.stays h _ hh) (fun w' k b hw hb => hf w' k b ((hh.call hw).none) hb))) rfl (fun _ _ => ?_)
  refine G.v (rv_geq rfl rfl) rfl ?_
  refine G.v (rv_assign rfl) rfl ?_
  refine G.done ?_
  refine G.thenN ?_
  refine G.ret ?_
  exact G.retFV rfl rfl (congrArg Value.bool (idx_any p l))
theorem groups11_any {ps : List PairM} {pv : Value} (k x : Int) {q1 q2 : Nat} (w : World) (h : Rd w pv 2 (ps.map PairM.cells)) (h1 : Rd w (.slice (some ⟨q1, 0, none⟩) 1 1) 1 [[pv]]) (h2 : Rd w (.slice (some ⟨q2, 0, none⟩) 1 1) 1 [[.int .i64 k]]) : FnV Tryz.prog 152 [.int .i64 x, pB q1 0, pB q2 0] w (.bool (!mutM ps k x)) := by
  rw [pB_eq_pE q1 1, pB_eq_pE q2 1]
  refine FnV.of (n := 10) Tryz.func152 rfl rfl ?_
  refine G.seq ?_
  refine G.region ?_
  refine G.v (rv_assign rfl) rfl ?_
  refine G.done ?_
  refine G.thenN ?_
  refine G.seq ?_
  refine G.region ?_
  (first | refine G.v (rv_load1 0 rfl rfl rfl) rfl ?_ | refine G.v (rv_loadE rfl (by first | exact Rd.stays (by assumption) | exact Rd.owned 0 rfl) rfl rfl) rfl ?_)
  (first | refine G.v (rv_load1 0 rfl rfl rfl) rfl ?_ | refine G.v (rv_loadE rfl (by first | exact Rd.stays (by assumption) | exact Rd.owned 0 rfl) rfl rfl) rfl ?_)
  refine G.v (rv_move rfl) rfl ?_
  refine G.op (og_callV rfl rfl (fun w hh => mutual_any _ _ w (Rd.stays h _ hh))) rfl (fun _ _ => ?_)
  refine G.v (rv_not rfl) rfl ?_
  refine G.v (rv_assign rfl) rfl ?_
  refine G.done ?_
  refine G.thenN ?_
  refine G.ret ?_
  exact G.retFV rfl rfl rfl
theorem groups1_any {ps : List PairM} {pv u : Value} {l : List Int} (k : Int) {q1 q2 : Nat} (w : World) (h : Rd w pv 2 (ps.map PairM.cells)) (h3 : Rd w u 1 (l.map icell)) (h1 : Rd w (.slice (some ⟨q1, 0, none⟩) 1 1) 1 [[pv]]) (h2 : Rd w (.slice (some ⟨q2, 0, none⟩) 1 1) 1 [[.int .i64 k]]) : FnV Tryz.prog 150 [u, pB q1 0, pB q2 0] w (.bool (joinsM ps l k)) := by
  refine FnV.of (n := 9) Tryz.func150 rfl rfl ?_
  refine G.seq ?_
  refine G.region ?_
  refine G.v (rv_assign rfl) rfl ?_
  refine G.done ?_
  refine G.thenN ?_
  refine G.seq ?_
  refine G.region ?_
  refine G.v (rv_move rfl) rfl ?_
  refine G.v (rv_makeFunc rfl rfl) rfl ?_
  refine G.op (og_callV rfl rfl (fun w hh => (containsInt_any (l := l) w (Rd.stays h3 _ hh) (fun w' j x hw hb => groups11_any (ps := ps) (pv := pv) k x w' (Rd.stays (Rd.stays h _ hh) w' hw) (Rd.stays (Rd.stays h1 _ hh) w' hw) (Rd.stays (Rd.stays h2 _ hh) w' hw))).mono (congrArg Value.bool any_not))) rfl (fun _ _ => ?_)
  refine G.v (rv_not rfl) rfl ?_
  refine G.v (rv_assign rfl) rfl ?_
  refine G.done ?_
  refine G.thenN ?_
  refine G.ret ?_
  refine G.retFV rfl rfl (congrArg Value.bool ?_); rw [joinsM, Bool.not_not]
end Go.Proofs.YtibkggjbkgdnkaaGreat

/-
  A table of groups, looked through.
-/
namespace Go.Proofs.YtibkggjbkgdnkaaGreat
open Go.RowKit
attribute [local irreducible] Go.wpList Go.Code.wp Go.Exit.then Go.Exit.inBlock Go.bodyPost Go.Calls pE pB G RunsV FnV Fn FnM
set_option maxRecDepth 100000
set_option maxHeartbeats 4000000
def gcell (x : List Int × Value) : List Value := [x.2]
theorem indexTbl_any {g : Nat} [FnOk Tryz.prog g] {cap : List Value} {v : Value} {l : List (List Int × Value)} {p : List Int → Bool} (w : World) (h : Rd w v 1 (l.map gcell)) (hf : ∀ (w' : World) (k : Nat) (b : List Int × Value), HeapOk w w' [] → l[k]? = some b → FnV Tryz.prog g ([b.2] ++ cap) w' (.bool (p b.1))) :
    FnV Tryz.prog 103 [v, .func (.func g) #[] cap.toArray] w (.int .i64 (idxM (fun b => p b.1) l)) := by
  have hle := h.le_map
  have hln : (l.map gcell).length = l.length := by simp
  refine FnV.of (n := 19) Tryz.func103 rfl rfl ?_
  refine G.seq ?_
  refine G.region ?_
  refine G.v (rv_assign rfl) rfl ?_
  refine G.done ?_
  refine G.thenN ?_
  refine G.seq ?_
  refine G.seq ?_
  refine G.region ?_
  refine G.v (rv_move rfl) rfl ?_
  refine G.v (rv_len rfl (by first | exact Rd.stays (by assumption))) rfl ?_
  refine G.v (rv_move rfl) rfl ?_
  refine G.done ?_
  refine G.thenN ?_
  refine G.block ?_
  -- loop 0: turned [8], kept [0, 1, 7]
  refine G.loopK (ι := Nat) (ks := [0, 1, 7]) (fun k => [(8, .int .i64 k)]) (fun _ => []) (fun k => k ≤ l.length ∧ (l.take k).any (fun b => p b.1) = false) (fun k => l.length - k) 0 (.cons rfl (.cons rfl (.cons rfl (.nil)))) rfl ?_ ?_ ?_
  · exact ⟨Nat.zero_le _, rfl⟩
  · exact ⟨rfl, trivial⟩
  rintro k ⟨hk, ht⟩
  by_cases hlt : k < l.length
  case' pos => (obtain ⟨b, hb⟩ := get_of_lt hlt; have he := get_map hb gcell)
  all_goals
   refine G.seq ?_
   refine G.region ?_
   refine G.v (rv_lss rfl rfl) rfl ?_
   refine G.done ?_
   refine G.thenN ?_
   refine G.seq ?_
   refine G.cond rfl (fun hc => ?_) (fun hc => ?_)
   · try exact Bool.noConfusion hc
     all_goals
      try replace hc := of_decide_eq_true hc
      try (exfalso; first | contradiction | omega)
      all_goals
       refine G.skip ?_
       refine G.thenN ?_
       refine G.seq ?_
       refine G.block ?_
       refine G.seq ?_
       refine G.region ?_
       refine G.v (rv_move rfl) rfl ?_
       refine G.v (rv_assign rfl) rfl ?_
       refine G.done ?_
       refine G.thenN ?_
       refine G.seq ?_
       refine G.region ?_
       refine G.v (rv_move rfl) rfl ?_
       refine G.v (rv_move rfl) rfl ?_
       refine G.v (rv_move rfl) rfl ?_
       (first | refine G.v (rv_indexH rfl rfl (by first | exact Rd.stays (by assumption)) rfl (by assumption)) rfl ?_ | refine G.v (rv_index rfl rfl (by first | exact Rd.stays (by assumption)) rfl (by assumption)) rfl ?_)
       refine G.v (rv_loadE rfl (by first | exact Rd.stays (by assumption)) (by assumption) rfl) rfl ?_
       refine G.op (og_callV rfl rfl (fun w hh => hf w k b hh.none hb)) rfl (fun _ _ => ?_)
       refine G.done ?_
       refine G.thenN ?_
       refine G.cond rfl (fun hc => ?_) (fun hc => ?_)
       · try exact Bool.noConfusion hc
         all_goals
          try replace hc := of_decide_eq_true hc
          try (exfalso; first | contradiction | omega)
          all_goals
           refine G.seq ?_
           refine G.region ?_
           refine G.v (rv_move rfl) rfl ?_
           refine G.v (rv_assign rfl) rfl ?_
           refine G.done ?_
           refine G.thenN ?_
           refine G.ret ?_
           refine G.inR ?_
           refine G.thenR ?_
           refine G.thenR ?_
           refine G.inR ?_
           refine G.thenR ?_
           first | exact G.retFV rfl rfl (congrArg (Value.int .i64) (idx_at ht hb hc).symm) | exact G.retFV rfl rfl (congrArg (Value.int .i64) (idx_none ht hlt).symm)
       · try exact Bool.noConfusion hc
         all_goals
          try replace hc := of_decide_eq_false hc
          try (exfalso; first | contradiction | omega)
          all_goals
           refine G.skip ?_
           refine G.inN ?_
           refine G.thenN ?_
           refine G.region ?_
           (first | refine G.v (rv_incr rfl rfl (by omega)) rfl ?_ | refine G.v (rv_addB rfl rfl (by omega) (by omega)) rfl ?_)
           refine G.v (rv_move rfl) rfl ?_
           refine G.done ?_
           first | refine G.backK (k + 1) 0 rfl (.cons rfl (.cons rfl (.cons rfl (.nil)))) ?_ ?_ ?_
           · exact ⟨rfl, trivial⟩
           · exact ⟨hlt, any_next ht hb hc⟩
           · omega
   · try exact Bool.noConfusion hc
     all_goals
      try replace hc := of_decide_eq_false hc
      try (exfalso; first | contradiction | omega)
      all_goals
       refine G.exit ?_
       refine G.thenX ?_
       refine G.thenX ?_
       refine G.inX ?_
       refine G.thenN ?_
       refine G.seq ?_
       refine G.region ?_
       refine G.v (rv_assign rfl) rfl ?_
       refine G.done ?_
       refine G.thenN ?_
       refine G.ret ?_
       first | exact G.retFV rfl rfl (congrArg (Value.int .i64) (idx_at ht hb hc).symm) | exact G.retFV rfl rfl (congrArg (Value.int .i64) (idx_none ht hlt).symm)
theorem eqIntSS_any {u v : Value} {xs ys : List (List Int × Value)} (w : World) (h : Rd w u 1 (xs.map gcell)) (hs : Subs w id xs) (h2 : Rd w v 1 (ys.map gcell)) (hs2 : Subs w id ys) :
    FnV Tryz.prog 22 [u, v] w (.bool (decide (xs.map Prod.fst = ys.map Prod.fst))) := by
  have hle := h.le_map
  have hln : (xs.map gcell).length = xs.length := by simp
  have hln2 : (ys.map gcell).length = ys.length := by simp
  have hln3 : (xs.map Prod.fst).length = xs.length := by simp
  have hln4 : (ys.map Prod.fst).length = ys.length := by simp
  refine FnV.of (n := 27) Tryz.func22 rfl rfl ?_
  refine G.seq ?_
  refine G.region ?_
  refine G.v (rv_assign rfl) rfl ?_
  refine G.done ?_
  refine G.thenN ?_
  refine G.seq ?_
  refine G.seq ?_
  refine G.region ?_
  refine G.v (rv_move rfl) rfl ?_
  refine G.v (rv_len rfl (by first | exact Rd.stays (by assumption))) rfl ?_
  refine G.v (rv_move rfl) rfl ?_
  refine G.v (rv_len rfl (by first | exact Rd.stays (by assumption))) rfl ?_
  refine G.v (rv_neq rfl rfl) rfl ?_
  refine G.done ?_
  refine G.thenN ?_
  refine G.cond rfl (fun hc => ?_) (fun hc => ?_)
  · try exact Bool.noConfusion hc
    all_goals
     try replace hc := of_decide_eq_true hc
     try (exfalso; first | contradiction | omega)
     all_goals
      refine G.seq ?_
      refine G.region ?_
      refine G.v (rv_assign rfl) rfl ?_
      refine G.done ?_
      refine G.thenN ?_
      refine G.ret ?_
      refine G.thenR ?_
      first | exact G.retFV rfl rfl (congrArg Value.bool (by rw [eq_comm, decide_eq_false]; intro hq; have := congrArg List.length hq; omega)) | exact G.retFV rfl rfl (eqS_elt hab.1 hab.2 hc) | exact G.retFV rfl rfl (eqS_all ht (by omega) (by omega))
  · try exact Bool.noConfusion hc
    all_goals
     try replace hc := of_decide_eq_false hc
     try (exfalso; first | contradiction | omega)
     all_goals
      refine G.skip ?_
      refine G.thenN ?_
      refine G.seq ?_
      refine G.seq ?_
      refine G.region ?_
      refine G.v (rv_assign rfl) rfl ?_
      refine G.done ?_
      refine G.thenN ?_
      refine G.block ?_
      -- loop 0: turned [5], kept [0, 1]
      refine G.loopK (ι := Nat) (ks := [0, 1]) (fun k => [(5, .int .i64 k)]) (fun _ => []) (fun k => k ≤ xs.length ∧ (xs.map Prod.fst).take k = (ys.map Prod.fst).take k) (fun k => xs.length - k) 0 (.cons rfl (.cons rfl (.nil))) rfl ?_ ?_ ?_
      · exact ⟨Nat.zero_le _, rfl⟩
      · exact ⟨rfl, trivial⟩
      rintro k ⟨hk, ht⟩
      by_cases hlt : k < xs.length
      case' pos => (obtain ⟨a, ha⟩ := get_of_lt hlt; obtain ⟨b, hb⟩ := get_of_lt (l := ys) (k := k) (by omega); have he := get_map ha gcell; have he2 := get_map hb gcell; have hab := fst_get ha hb)
      all_goals
       refine G.seq ?_
       refine G.seq ?_
       refine G.region ?_
       refine G.v (rv_move rfl) rfl ?_
       refine G.v (rv_move rfl) rfl ?_
       refine G.v (rv_len rfl (by first | exact Rd.stays (by assumption))) rfl ?_
       refine G.v (rv_lss rfl rfl) rfl ?_
       refine G.done ?_
       refine G.thenN ?_
       refine G.cond rfl (fun hc => ?_) (fun hc => ?_)
       · try exact Bool.noConfusion hc
         all_goals
          try replace hc := of_decide_eq_true hc
          try (exfalso; first | contradiction | omega)
          all_goals
           refine G.skip ?_
           refine G.thenN ?_
           refine G.seq ?_
           refine G.block ?_
           refine G.seq ?_
           refine G.drawL [] ?_
           refine GE.q 0 rfl (by as_aux_lemma => kernel_rfl) rfl (qg_runs (rv_move rfl)) rfl ?_
           refine GE.q 1 rfl (by as_aux_lemma => kernel_rfl) rfl (qg_runs (rv_move rfl)) rfl ?_
           (first | refine GE.q 2 rfl (by as_aux_lemma => kernel_rfl) rfl (qg_runs (rv_indexH rfl rfl (by first | exact Rd.stays (by assumption)) rfl (by first | exact he | exact he2))) rfl ?_ | refine GE.q 2 rfl (by as_aux_lemma => kernel_rfl) rfl (qg_runs (rv_index rfl rfl (by first | exact Rd.stays (by assumption)) rfl (by assumption))) rfl ?_)
           refine GE.q 3 rfl (by as_aux_lemma => kernel_rfl) rfl (qg_runs (rv_loadE rfl (by first | exact Rd.stays (by assumption)) (by first | exact he | exact he2) rfl)) rfl ?_
           refine GE.q 4 rfl (by as_aux_lemma => kernel_rfl) rfl (qg_runs (rv_move rfl)) rfl ?_
           refine GE.ol 5 (by as_aux_lemma => kernel_rfl) rfl rfl (og_runs (rv_move rfl)) rfl (fun _ _ h => by first | exact h | exact h.drop 1 | exact h.drop 2 | exact h.drop 3 | exact h.drop 4 | exact h.drop 5 | exact h.drop 6 | exact h.drop 7 | exact h.drop 8 | exact h.drop 9 | exact h.drop 10 | exact h.drop 11 | exact h.drop 12 | exact h.drop 13) (fun _ _ => ?_)
           (first | refine GE.ol 6 (by as_aux_lemma => kernel_rfl) rfl rfl (og_runs (rv_indexH rfl rfl (by first | exact Rd.stays (by assumption)) rfl (by first | exact he | exact he2))) rfl (fun _ _ h => by first | exact h | exact h.drop 1 | exact h.drop 2 | exact h.drop 3 | exact h.drop 4 | exact h.drop 5 | exact h.drop 6 | exact h.drop 7 | exact h.drop 8 | exact h.drop 9 | exact h.drop 10 | exact h.drop 11 | exact h.drop 12 | exact h.drop 13) (fun _ _ => ?_) | refine GE.ol 6 (by as_aux_lemma => kernel_rfl) rfl rfl (og_runs (rv_index rfl rfl (by first | exact Rd.stays (by assumption)) rfl (by assumption))) rfl (fun _ _ h => by first | exact h | exact h.drop 1 | exact h.drop 2 | exact h.drop 3 | exact h.drop 4 | exact h.drop 5 | exact h.drop 6 | exact h.drop 7 | exact h.drop 8 | exact h.drop 9 | exact h.drop 10 | exact h.drop 11 | exact h.drop 12 | exact h.drop 13) (fun _ _ => ?_))
           refine GE.ol 7 (by as_aux_lemma => kernel_rfl) rfl rfl (og_runs (rv_loadE rfl (by first | exact Rd.stays (by assumption)) (by first | exact he | exact he2) rfl)) rfl (fun _ _ h => by first | exact h | exact h.drop 1 | exact h.drop 2 | exact h.drop 3 | exact h.drop 4 | exact h.drop 5 | exact h.drop 6 | exact h.drop 7 | exact h.drop 8 | exact h.drop 9 | exact h.drop 10 | exact h.drop 11 | exact h.drop 12 | exact h.drop 13) (fun _ _ => ?_)
           refine GE.ol 8 (by as_aux_lemma => kernel_rfl) rfl rfl (og_callV rfl rfl (fun w hh => eqIntS_any (xs := a.1) (ys := b.1) w (Rd.stays (hs.at ha) _ hh) (Rd.stays (hs2.at hb) _ hh))) rfl (fun _ _ h => by first | exact h | exact h.drop 1 | exact h.drop 2 | exact h.drop 3 | exact h.drop 4 | exact h.drop 5 | exact h.drop 6 | exact h.drop 7 | exact h.drop 8 | exact h.drop 9 | exact h.drop 10 | exact h.drop 11 | exact h.drop 12 | exact h.drop 13) (fun _ _ => ?_)
           refine GE.ol 9 (by as_aux_lemma => kernel_rfl) rfl rfl (og_runs (rv_not rfl)) rfl (fun _ _ h => by first | exact h | exact h.drop 1 | exact h.drop 2 | exact h.drop 3 | exact h.drop 4 | exact h.drop 5 | exact h.drop 6 | exact h.drop 7 | exact h.drop 8 | exact h.drop 9 | exact h.drop 10 | exact h.drop 11 | exact h.drop 12 | exact h.drop 13) (fun _ _ => ?_)
           refine GE.done (by as_aux_lemma => kernel_rfl) ?_
           refine G.thenN ?_
           refine G.cond rfl (fun hc => ?_) (fun hc => ?_)
           · try exact Bool.noConfusion hc
             all_goals
              try replace hc := of_decide_eq_true hc
              try (exfalso; first | contradiction | omega)
              all_goals
               refine G.seq ?_
               refine G.region ?_
               refine G.v (rv_assign rfl) rfl ?_
               refine G.done ?_
               refine G.thenN ?_
               refine G.ret ?_
               refine G.inR ?_
               refine G.thenR ?_
               refine G.thenR ?_
               refine G.inR ?_
               refine G.thenR ?_
               first | exact G.retFV rfl rfl (congrArg Value.bool (by rw [eq_comm, decide_eq_false]; intro hq; have := congrArg List.length hq; omega)) | exact G.retFV rfl rfl (eqS_elt hab.1 hab.2 hc) | exact G.retFV rfl rfl (eqS_all ht (by omega) (by omega))
           · try exact Bool.noConfusion hc
             all_goals
              try replace hc := of_decide_eq_false hc
              try (exfalso; first | contradiction | omega)
              all_goals
               refine G.skip ?_
               refine G.inN ?_
               refine G.thenN ?_
               refine G.region ?_
               refine G.v (rv_move rfl) rfl ?_
               (first | refine G.v (rv_incr rfl rfl (by omega)) rfl ?_ | refine G.v (rv_addB rfl rfl (by omega) (by omega)) rfl ?_)
               refine G.v (rv_assign rfl) rfl ?_
               refine G.done ?_
               first | refine G.backK (k + 1) 0 rfl (.cons rfl (.cons rfl (.nil))) ?_ ?_ ?_
               · exact ⟨rfl, trivial⟩
               · exact ⟨hlt, eqS_next ht hab.1 hab.2 hc⟩
               · omega
       · try exact Bool.noConfusion hc
         all_goals
          try replace hc := of_decide_eq_false hc
          try (exfalso; first | contradiction | omega)
          all_goals
           refine G.exit ?_
           refine G.thenX ?_
           refine G.thenX ?_
           refine G.inX ?_
           refine G.thenN ?_
           refine G.seq ?_
           refine G.region ?_
           refine G.v (rv_assign rfl) rfl ?_
           refine G.done ?_
           refine G.thenN ?_
           refine G.ret ?_
           first | exact G.retFV rfl rfl (congrArg Value.bool (by rw [eq_comm, decide_eq_false]; intro hq; have := congrArg List.length hq; omega)) | exact G.retFV rfl rfl (eqS_elt hab.1 hab.2 hc) | exact G.retFV rfl rfl (eqS_all ht (by omega) (by omega))
end Go.Proofs.YtibkggjbkgdnkaaGreat

/-
  A table of numbers that is marked by numbers that go up.
-/
namespace Go.Proofs.YtibkggjbkgdnkaaGreat
open Go.RowKit
attribute [local irreducible] Go.wpList Go.Code.wp Go.Exit.then Go.Exit.inBlock Go.bodyPost Go.Calls pE pB G RunsV FnV Fn FnM
set_option maxRecDepth 100000
set_option maxHeartbeats 1000000
def mkSS (k : Int) (t : List Int × Value) : List Int × Value := (markG mkI cntI k t.1, t.2)
def cntSS (t : List Int × Value) : Nat := cntG cntI t.1
theorem mkSS_cells (k : Int) (l : List (List Int × Value)) : (markG mkSS cntSS k l).map gcell = l.map gcell := by
  induction l generalizing k with
  | nil => rfl
  | cons x r ih => simp only [markG, List.map_cons, ih]; rfl
theorem mixSS_cells {k : Int} {i : Nat} {l : List (List Int × Value)} {x : List Int × Value} (_ : l[i]? = some x) : (mixG mkSS cntSS k i l).map gcell = (mixG mkSS cntSS k (i + 1) l).map gcell := by
  simp only [mixG, List.map_append, mkSS_cells]
  rw [← List.map_append, ← List.map_append, List.take_append_drop, List.take_append_drop]
theorem markIntSS_any {w0 : World} {v : Value} {l : List (List Int × Value)} {k : Int} (hk : 0 ≤ k) (hb : k + cntG cntSS l ≤ 4611686018427387904) :
    FnM Tryz.prog 25 [v, .int .i64 k] w0 [.grp 3 1 (l.map (sub id)), .row v 44 1 (l.map gcell)] (fun _ : Unit => True) (fun _ => .int .i64 (k + cntG cntSS l))
      (fun _ => [.grp 3 1 ((markG mkSS cntSS k l).map (sub id)), .row v 44 1 ((markG mkSS cntSS k l).map gcell)]) := by
  refine FnM.of (n := 19) Tryz.func25 rfl rfl (fun F => ?_)
  refine G.know (fun w hw => (Rd.owned 1 rfl w hw).le_map) (fun hle => ?_)
  refine G.seq ?_
  refine G.region ?_
  refine G.v (rv_assign rfl) rfl ?_
  refine G.done ?_
  refine G.thenN ?_
  refine G.seq ?_
  refine G.seq ?_
  refine G.region ?_
  refine G.v (rv_assign rfl) rfl ?_
  refine G.done ?_
  refine G.thenN ?_
  refine G.block ?_
  -- loop 0: turned [1, 5], kept [0]
  refine G.loopK (ι := Nat) (ks := [0]) (fun i => [(1, .int .i64 (k + cntG cntSS (l.take i))), (5, .int .i64 i)]) (fun i => [.grp 3 1 ((mixG mkSS cntSS k i l).map (sub id)), .row v 44 1 ((mixG mkSS cntSS k i l).map gcell)]) (fun i => i ≤ l.length) (fun i => l.length - i) 0 (.cons rfl (.nil)) rfl ?_ ?_ ?_
  · exact Nat.zero_le _
  · exact ⟨congrArg (fun z => some (Value.int .i64 z)) (by simp [cntG]), rfl, trivial⟩
  rintro i hi
  have hml : (mixG mkSS cntSS k i l).length = l.length := mix_len
  have hcl : cntG cntSS (l.take (i + 1)) ≤ cntG cntSS l := cnt_le _
  by_cases hlt : i < l.length
  case' pos => (obtain ⟨x, hx⟩ := get_of_lt hlt; have he := get_map (mix_get (mk := mkSS) (cnt := cntSS) (k := k) hx) gcell; have hgi : ((mixG mkSS cntSS k i l).map (sub id))[i]? = some (x.2, x.1.map icell) := (get_mapS (mix_get hx)); have hcn : cntG cntSS (l.take (i + 1)) = cntG cntSS (l.take i) + cntG cntI x.1 := cnt_next hx)
  case' neg => (have hal : cntG cntSS (l.take i) = cntG cntSS l := cnt_all hlt)
  all_goals
   refine G.seq ?_
   refine G.seq ?_
   refine G.region ?_
   refine G.v (rv_move rfl) rfl ?_
   refine G.v (rv_move rfl) rfl ?_
   refine G.v (rv_len rfl (by first | exact Rd.stays (by assumption) | exact Rd.owned 0 rfl | exact Rd.owned 1 rfl)) rfl ?_
   refine G.v (rv_lss rfl rfl) rfl ?_
   refine G.done ?_
   refine G.thenN ?_
   refine G.cond rfl (fun hc => ?_) (fun hc => ?_)
   · try exact Bool.noConfusion hc
     all_goals
      try replace hc := of_decide_eq_true hc
      try simp only [List.length_map, hml] at hc
      try (exfalso; first | contradiction | omega)
      all_goals
       refine G.skip ?_
       refine G.thenN ?_
       refine G.seq ?_
       refine G.block ?_
       refine G.region ?_
       refine G.v (rv_move rfl) rfl ?_
       refine G.v (rv_move rfl) rfl ?_
       (first | refine G.v (rv_indexH rfl rfl (by first | exact Rd.stays (by assumption) | exact Rd.owned 0 rfl | exact Rd.owned 1 rfl) rfl (by first | exact he)) rfl ?_ | refine G.v (rv_index rfl rfl (by first | exact Rd.stays (by assumption) | exact Rd.owned 0 rfl | exact Rd.owned 1 rfl) rfl (by assumption)) rfl ?_)
       refine G.v (rv_loadE rfl (by first | exact Rd.stays (by assumption) | exact Rd.owned 0 rfl | exact Rd.owned 1 rfl) (by first | exact he) rfl) rfl ?_
       refine G.v (rv_move rfl) rfl ?_
       (first | (refine G.op (og_callM0 rfl rfl rfl (FnMF.grp (markIntS_any (by omega) (by omega)) hgi)) rfl ?_; rintro ⟨⟩ _; try dsimp only) | (refine G.op (og_callM1 rfl rfl rfl (FnMF.grp (markIntS_any (by omega) (by omega)) hgi)) rfl ?_; rintro ⟨⟩ _; try dsimp only) | (refine G.op (og_callM2 rfl rfl rfl (FnMF.grp (markIntS_any (by omega) (by omega)) hgi)) rfl ?_; rintro ⟨⟩ _; try dsimp only) | (refine G.op (og_callM3 rfl rfl rfl (FnMF.grp (markIntS_any (by omega) (by omega)) hgi)) rfl ?_; rintro ⟨⟩ _; try dsimp only) | (refine G.op (og_callM4 rfl rfl rfl (FnMF.grp (markIntS_any (by omega) (by omega)) hgi)) rfl ?_; rintro ⟨⟩ _; try dsimp only))
       refine G.v (rv_assign rfl) rfl ?_
       refine G.done ?_
       refine G.inN ?_
       refine G.thenN ?_
       refine G.region ?_
       refine G.v (rv_move rfl) rfl ?_
       (first | refine G.v (rv_incr rfl rfl (by omega)) rfl ?_ | refine G.v (rv_addB rfl rfl (by omega) (by omega)) rfl ?_)
       refine G.v (rv_assign rfl) rfl ?_
       refine G.done ?_
       first | refine G.backK (i + 1) 0 (two_eq (congrArg (fun z => Ch.grp 3 1 z) (mix_map hx)) (congrArg (fun z => Ch.row v 44 1 z) (mixSS_cells hx))) (.cons rfl (.nil)) ?_ ?_ ?_
       · exact ⟨congrArg (fun z => some (Value.int .i64 z)) (by omega), rfl, trivial⟩
       · exact hlt
       · omega
   · try exact Bool.noConfusion hc
     all_goals
      try replace hc := of_decide_eq_false hc
      try simp only [List.length_map, hml] at hc
      try (exfalso; first | contradiction | omega)
      all_goals
       refine G.exit ?_
       refine G.thenX ?_
       refine G.thenX ?_
       refine G.inX ?_
       refine G.thenN ?_
       refine G.seq ?_
       refine G.region ?_
       refine G.v (rv_move rfl) rfl ?_
       refine G.v (rv_assign rfl) rfl ?_
       refine G.done ?_
       refine G.thenN ?_
       refine G.ret ?_
       exact G.retF () trivial rfl rfl (congrArg (Value.int .i64) (by rw [hal])) (fun w hw => by rw [mix_all hlt] at hw; exact hw)
theorem cntSS_same (k : Int) (t : List Int × Value) : cntSS (mkSS k t) = cntSS t := by simp only [cntSS, mkSS, mark_cnt (mk := mkI) (cnt := cntI) (fun _ _ => rfl)]
theorem mkSS_same (k : Int) (t : List Int × Value) : mkSS k (mkSS k t) = mkSS k t := by simp only [mkSS, mark_mark (mk := mkI) (cnt := cntI) (fun _ _ => rfl) (fun _ _ => rfl)]
theorem heldIntSS_any {v : Value} {l : List (List Int × Value)} {k : Int} (w : World) (h : Rd w v 1 (l.map gcell)) (hs : Subs w id l) (hm : markG mkSS cntSS k l = l) (hk : 0 ≤ k) (hb : k + cntG cntSS l ≤ 4611686018427387904) :
    FnV Tryz.prog 26 [v, .int .i64 k] w (.int .i64 (k + cntG cntSS l)) := by
  have hle := h.le_map
  refine FnV.of (n := 21) Tryz.func26 rfl rfl ?_
  refine G.seq ?_
  refine G.region ?_
  refine G.v (rv_assign rfl) rfl ?_
  refine G.done ?_
  refine G.thenN ?_
  refine G.seq ?_
  refine G.seq ?_
  refine G.region ?_
  refine G.v (rv_assign rfl) rfl ?_
  refine G.done ?_
  refine G.thenN ?_
  refine G.block ?_
  -- loop 0: turned [1, 5], kept [0]
  refine G.loopK (ι := Nat) (ks := [0]) (fun i => [(1, .int .i64 (k + cntG cntSS (l.take i))), (5, .int .i64 i)]) (fun _ => []) (fun i => i ≤ l.length) (fun i => l.length - i) 0 (.cons rfl (.nil)) rfl ?_ ?_ ?_
  · exact Nat.zero_le _
  · exact ⟨congrArg (fun z => some (Value.int .i64 z)) (by simp [cntG]), rfl, trivial⟩
  rintro i hi
  have hcl : cntG cntSS (l.take (i + 1)) ≤ cntG cntSS l := cnt_le _
  by_cases hlt : i < l.length
  case' pos => (obtain ⟨x, hx⟩ := get_of_lt hlt; have he := get_map hx gcell; have hcn : cntG cntSS (l.take (i + 1)) = cntG cntSS (l.take i) + cntG cntI x.1 := cnt_next hx; have hq := held_at hm hx; have hql : markG mkI cntI (k + cntG cntSS (l.take i)) x.1 = x.1 := (congrArg (fun t => t.1) hq).symm)
  case' neg => (have hal : cntG cntSS (l.take i) = cntG cntSS l := cnt_all hlt)
  all_goals
   refine G.seq ?_
   refine G.seq ?_
   refine G.region ?_
   refine G.v (rv_move rfl) rfl ?_
   refine G.v (rv_move rfl) rfl ?_
   refine G.v (rv_len rfl (by first | exact Rd.stays (by assumption))) rfl ?_
   refine G.v (rv_lss rfl rfl) rfl ?_
   refine G.done ?_
   refine G.thenN ?_
   refine G.cond rfl (fun hc => ?_) (fun hc => ?_)
   · try exact Bool.noConfusion hc
     all_goals
      try replace hc := of_decide_eq_true hc
      try simp only [List.length_map] at hc
      try (exfalso; first | contradiction | omega)
      all_goals
       refine G.skip ?_
       refine G.thenN ?_
       refine G.seq ?_
       refine G.block ?_
       refine G.seq ?_
       refine G.region ?_
       refine G.v (rv_move rfl) rfl ?_
       refine G.v (rv_move rfl) rfl ?_
       (first | refine G.v (rv_indexH rfl rfl (by first | exact Rd.stays (by assumption)) rfl (by first | exact he)) rfl ?_ | refine G.v (rv_index rfl rfl (by first | exact Rd.stays (by assumption)) rfl (by assumption)) rfl ?_)
       refine G.v (rv_loadE rfl (by first | exact Rd.stays (by assumption)) (by first | exact he) rfl) rfl ?_
       refine G.v (rv_move rfl) rfl ?_
       refine G.op (og_callV rfl rfl (fun w hh => heldIntS_any (l := x.1) w (Rd.stays (hs.at hx) _ hh) hql (by omega) (by omega))) rfl (fun _ _ => ?_)
       refine G.v (rv_assign rfl) rfl ?_
       refine G.done ?_
       refine G.thenN ?_
       refine G.seq ?_
       refine G.region ?_
       refine G.v (rv_move rfl) rfl ?_
       refine G.v (rv_lss rfl rfl) rfl ?_
       refine G.done ?_
       refine G.thenN ?_
       refine G.cond rfl (fun hc => ?_) (fun hc => ?_)
       · try exact Bool.noConfusion hc
         all_goals
          try replace hc := of_decide_eq_true hc
          try simp only [List.length_map] at hc
          try (exfalso; first | contradiction | omega)
          all_goals
           refine G.seq ?_
           refine G.region ?_
           refine G.v (rv_assign rfl) rfl ?_
           refine G.done ?_
           refine G.thenN ?_
           refine G.ret ?_
           refine G.inR ?_
           refine G.thenR ?_
           refine G.thenR ?_
           refine G.inR ?_
           refine G.thenR ?_
           exact G.retFV rfl rfl (congrArg (Value.int .i64) (by rw [hal]))
       · try exact Bool.noConfusion hc
         all_goals
          try replace hc := of_decide_eq_false hc
          try simp only [List.length_map] at hc
          try (exfalso; first | contradiction | omega)
          all_goals
           refine G.skip ?_
           refine G.inN ?_
           refine G.thenN ?_
           refine G.region ?_
           refine G.v (rv_move rfl) rfl ?_
           (first | refine G.v (rv_incr rfl rfl (by omega)) rfl ?_ | refine G.v (rv_addB rfl rfl (by omega) (by omega)) rfl ?_)
           refine G.v (rv_assign rfl) rfl ?_
           refine G.done ?_
           first | refine G.backK (i + 1) 0 rfl (.cons rfl (.nil)) ?_ ?_ ?_
           · exact ⟨congrArg (fun z => some (Value.int .i64 z)) (by omega), rfl, trivial⟩
           · exact hlt
           · omega
   · try exact Bool.noConfusion hc
     all_goals
      try replace hc := of_decide_eq_false hc
      try simp only [List.length_map] at hc
      try (exfalso; first | contradiction | omega)
      all_goals
       refine G.exit ?_
       refine G.thenX ?_
       refine G.thenX ?_
       refine G.inX ?_
       refine G.thenN ?_
       refine G.seq ?_
       refine G.region ?_
       refine G.v (rv_move rfl) rfl ?_
       refine G.v (rv_assign rfl) rfl ?_
       refine G.done ?_
       refine G.thenN ?_
       refine G.ret ?_
       exact G.retFV rfl rfl (congrArg (Value.int .i64) (by rw [hal]))
theorem heldIntSS_marked {v : Value} {l : List (List Int × Value)} {k : Int} (w : World) (h : Rd w v 1 ((markG mkSS cntSS k l).map gcell)) (hs : Subs w id (markG mkSS cntSS k l)) (hk : 0 ≤ k) (hb : k + cntG cntSS l ≤ 4611686018427387904) :
    FnV Tryz.prog 26 [v, .int .i64 k] w (.int .i64 (k + cntG cntSS l)) := by
  have hc := mark_cnt (mk := mkSS) (cnt := cntSS) cntSS_same l k
  have := heldIntSS_any w h hs (mark_mark (mk := mkSS) (cnt := cntSS) cntSS_same mkSS_same l k) hk (by rw [hc]; exact hb)
  rwa [hc] at this
end Go.Proofs.YtibkggjbkgdnkaaGreat

/-
  Tables of groups: what is put where. No program is in sight here.
-/
namespace Go.Proofs.YtibkggjbkgdnkaaGreat
open Go.RowKit
/-- x is put into the first list that p holds of, or into a list of its own. -/
def putM (p : List Int → Bool) : List (List Int) → Int → List (List Int)
  | [], x => [[x]]
  | g :: r, x => if p g then (g ++ [x]) :: r else g :: putM p r x
theorem put_no {p : List Int → Bool} {x : Int} : ∀ {l : List (List Int)}, l.any p = false → putM p l x = l ++ [[x]]
  | [], _ => rfl
  | g :: r, h => by
    simp only [List.any_cons, Bool.or_eq_false_iff] at h
    rw [putM, h.1, put_no h.2]; simp
theorem put_at {p : List Int → Bool} {x : Int} : ∀ {l : List (List Int)} {k : Nat} {b : List Int}, (l.take k).any p = false → l[k]? = some b → p b = true → putM p l x = l.set k (b ++ [x])
  | [], k, b, _, h, _ => by simp at h
  | g :: r, 0, b, _, h, hb => by
    simp at h; subst h; rw [putM, if_pos hb]; rfl
  | g :: r, k + 1, b, h0, h, hb => by
    simp only [List.take_succ_cons, List.any_cons, Bool.or_eq_false_iff] at h0
    simp only [List.getElem?_cons_succ] at h
    rw [putM, h0.1, put_at h0.2 h hb]; simp
theorem idx_cases {α : Type} (p : α → Bool) : ∀ l : List α, (idxM p l = -1 ∧ l.any p = false) ∨ ∃ (k : Nat) (b : α), idxM p l = (k : Int) ∧ l[k]? = some b ∧ p b = true ∧ (l.take k).any p = false
  | [] => .inl ⟨rfl, rfl⟩
  | x :: r => by
    by_cases hx : p x = true
    · exact .inr ⟨0, x, by rw [idxM, if_pos hx]; rfl, rfl, hx, rfl⟩
    · have hx2 : p x = false := by simpa using hx
      rcases idx_cases p r with ⟨h1, h2⟩ | ⟨k, b, h1, h2, h3, h4⟩
      · exact .inl ⟨by rw [idxM, if_neg hx, if_pos (by omega)], by rw [List.any_cons, hx2, h2]; rfl⟩
      · exact .inr ⟨k + 1, b, by rw [idxM, if_neg hx, if_neg (by omega), h1]; omega, h2, h3, by rw [List.take_succ_cons, List.any_cons, hx2, h4]; rfl⟩
theorem idx_map {α β : Type} (f : α → β) (p : β → Bool) : ∀ l : List α, idxM p (l.map f) = idxM (fun a => p (f a)) l
  | [] => rfl
  | x :: r => by rw [List.map_cons, idxM, idxM, idx_map f p r]
/-- The first place from i on that p holds of. -/
def idxFrom {α : Type} (p : α → Bool) (l : List α) (i : Nat) : Int := if idxM p (l.drop i) < 0 then -1 else idxM p (l.drop i) + i
theorem from_end {α : Type} {p : α → Bool} {l : List α} : idxFrom p l l.length = -1 := by
  rw [idxFrom, List.drop_length]; rfl
theorem from_yes {α : Type} {p : α → Bool} {l : List α} {i : Nat} {b : α} (hb : l[i]? = some b) (h : p b = true) : (i : Int) = idxFrom p l i := by
  obtain ⟨h1, rfl⟩ := List.getElem?_eq_some_iff.1 hb
  rw [idxFrom, List.drop_eq_getElem_cons h1, idxM, if_pos h]; simp
theorem from_no {α : Type} {p : α → Bool} {l : List α} {i : Nat} {b : α} (hb : l[i]? = some b) (h : p b = false) : idxFrom p l (i + 1) = idxFrom p l i := by
  obtain ⟨h1, rfl⟩ := List.getElem?_eq_some_iff.1 hb
  have e : idxM p (l.drop i) = if idxM p (l.drop (i + 1)) < 0 then -1 else idxM p (l.drop (i + 1)) + 1 := by
    rw [List.drop_eq_getElem_cons h1, idxM, if_neg (by rw [h]; decide)]
  unfold idxFrom
  rw [e]
  have hg := idx_ge p (l.drop (i + 1))
  split <;> split <;> omega
theorem from_zero {α : Type} {p : α → Bool} {l : List α} : idxFrom p l 0 = idxM p l := by
  rw [idxFrom, List.drop_zero]
  have := idx_ge p l
  split
  · omega
  · simp
def putAll (p : List Int → Int → Bool) (l : List Int) : List (List Int) := l.foldl (fun out x => putM (fun g => p g x) out x) []
theorem putAll_next {p : List Int → Int → Bool} {l : List Int} {k : Nat} {x : Int} (h : l[k]? = some x) : putAll p (l.take (k + 1)) = putM (fun g => p g x) (putAll p (l.take k)) x := foldl_take_succ h _ []
theorem put_sum (p : List Int → Bool) (x : Int) : ∀ l : List (List Int), ((putM p l x).map List.length).sum = (l.map List.length).sum + 1
  | [] => rfl
  | g :: r => by
    have := put_sum p x r
    rw [putM]; split
    · simp only [List.map_cons, List.sum_cons, List.length_append, List.length_singleton]; omega
    · simp only [List.map_cons, List.sum_cons]; omega
theorem put_lenle (p : List Int → Bool) (x : Int) : ∀ l : List (List Int), (putM p l x).length ≤ l.length + 1
  | [] => Nat.le_refl _
  | g :: r => by
    have := put_lenle p x r
    rw [putM]; split
    · simp only [List.length_cons]; omega
    · simp only [List.length_cons]; omega
theorem putAll_sumG (p : List Int → Int → Bool) : ∀ (l : List Int) (out : List (List Int)), ((l.foldl (fun out x => putM (fun g => p g x) out x) out).map List.length).sum = (out.map List.length).sum + l.length
  | [], out => by simp
  | x :: r, out => by
    rw [List.foldl_cons, putAll_sumG p r, put_sum, List.length_cons]; omega
theorem putAll_lenG (p : List Int → Int → Bool) : ∀ (l : List Int) (out : List (List Int)), (l.foldl (fun out x => putM (fun g => p g x) out x) out).length ≤ out.length + l.length
  | [], out => by simp
  | x :: r, out => by
    have h1 := putAll_lenG p r (putM (fun g => p g x) out x)
    have h2 := put_lenle (fun g => p g x) x out
    rw [List.foldl_cons, List.length_cons]; omega
theorem putAll_sum (p : List Int → Int → Bool) (l : List Int) : ((putAll p l).map List.length).sum = l.length := by rw [putAll, putAll_sumG]; simp
theorem putAll_len (p : List Int → Int → Bool) (l : List Int) : (putAll p l).length ≤ l.length := by have := putAll_lenG p l []; simpa [putAll] using this
theorem len_le_sum : ∀ {l : List (List Int)} {g : List Int}, g ∈ l → g.length ≤ (l.map List.length).sum
  | [], g, h => by simp at h
  | a :: r, g, h => by
    rw [List.map_cons, List.sum_cons]
    rcases List.mem_cons.1 h with rfl | h
    · omega
    · have := len_le_sum h; omega
theorem putAll_at {p : List Int → Int → Bool} {l : List Int} {q : Nat} {g : List Int} (h : (putAll p l)[q]? = some g) : g.length ≤ l.length := by
  have := len_le_sum (List.mem_of_getElem? h); rwa [putAll_sum] at this
/-- The groups of kinds: each kind is put into the first group that it may lie beside. -/
def groupsM (ps : List PairM) (l : List Int) : List (List Int) := putAll (fun g x => joinsM ps g x) l
/-- The kinds that are there, as numbers. -/
def presI (r : ReqM) : List Int := (presM r).map (fun n : Nat => (n : Int))
theorem presI_cells (r : ReqM) : (presM r).map ncell = (presI r).map icell := by rw [presI, List.map_map]; rfl
theorem presI_asc (r : ReqM) : (presI r).Pairwise (· < ·) := by
  rw [presI, presM]
  split
  · rw [List.pairwise_map]
    exact (List.pairwise_lt_range.sublist (List.filter_sublist)).imp (fun h => by omega)
  · exact List.Pairwise.nil
theorem presI_len (r : ReqM) : (presI r).length ≤ 4 := by
  rw [presI, List.length_map, presM]
  split
  · exact pres_len r 4
  · simp
theorem presI_in {r : ReqM} {x : Int} (h : x ∈ presI r) : 0 ≤ x ∧ x ≤ 3 := by
  rw [presI, presM] at h
  split at h
  · obtain ⟨n, hn, rfl⟩ := List.mem_map.1 h
    have := List.mem_range.1 (List.mem_filter.1 hn).1
    omega
  · simp at h
theorem dd_sorted {l : List Int} (h : l.Pairwise (· < ·)) : ddM (sortM l) = l :=
  asc_uniq (dd_asc (sortM_srt _)) h (fun x => by rw [dd_mem, (sortM_perm _).mem_iff])
/-- The kinds below n that are in a list. -/
def below (l : List Int) (n : Nat) : List Int := ((List.range n).map (fun n : Nat => (n : Int))).filter (hasM l)
theorem below_next {l : List Int} {n : Nat} : below l (n + 1) = below l n ++ (if hasM l (n : Int) then [(n : Int)] else []) := by
  rw [below, List.range_succ, List.map_append, List.filter_append]
  cases h : hasM l (n : Int) <;> simp [below, h]
theorem hasM_iff {l : List Int} {x : Int} : hasM l x = true ↔ x ∈ l := by simp [hasM]
theorem below_all {l : List Int} (h : l.Pairwise (· < ·)) (hb : ∀ x ∈ l, 0 ≤ x ∧ x ≤ 3) : below l 4 = l := by
  refine asc_uniq ?_ h (fun x => ?_)
  · refine List.Pairwise.sublist List.filter_sublist ?_
    rw [List.pairwise_map]
    exact List.pairwise_lt_range.imp (fun h => by omega)
  · simp only [below, List.mem_filter, List.mem_map, List.mem_range, hasM_iff]
    constructor
    · rintro ⟨_, h2⟩; exact h2
    · intro hx
      have := hb x hx
      exact ⟨⟨x.toNat, by omega, by omega⟩, hx⟩
theorem below_len (l : List Int) (n : Nat) : (below l n).length ≤ n := by
  have := List.length_filter_le (hasM l) ((List.range n).map (fun n : Nat => (n : Int)))
  rwa [List.length_map, List.length_range] at this
theorem putAll_snoc {p : List Int → Int → Bool} {l : List Int} {x : Int} : putAll p (l ++ [x]) = putM (fun g => p g x) (putAll p l) x := by
  rw [putAll, List.foldl_append]; rfl
end Go.Proofs.YtibkggjbkgdnkaaGreat

/-
  Rows that are pushed into groups.
-/
namespace Go.Proofs.YtibkggjbkgdnkaaGreat
open Go.RowKit
theorem G.pushRow {n : Nat} {w0 : World} {fr : Fr} {H F : List Ch} {t : TypeId} {s : Nat} {v : Value} {es : List (List Value)} {rs : List (Value × List (List Value))} (rs' : List (Value × List (List Value))) {K : Act → World → Prop} (e : rs ++ [(v, es)] = rs') (hH : H = .row v t s es :: .grp t s rs :: F) (h : G n w0 fr (.grp t s rs' :: F) K) : G n w0 fr H K :=
  G.heap (fun w hh => by subst e hH; exact hh.push) h
theorem G.keep2 {n : Nat} {w0 : World} {fr : Fr} {H : List Ch} (m : Nat) {c1 c2 : Ch} {J : List Ch} {K : Act → World → Prop} (hH : H = c1 :: c2 :: J) (h : G n w0 fr (c1 :: c2 :: J.drop m) K) : G n w0 fr H K := G.heap (fun w hh => by subst hH; exact hh.sublist (List.Sublist.cons_cons _ (List.Sublist.cons_cons _ (List.drop_sublist m J)))) h
theorem nil_or_snoc {α : Type} (l : List α) : l = [] ∨ ∃ tp t, l = tp ++ [t] := by
  rcases List.eq_nil_or_concat l with h | ⟨a, b, h⟩
  · exact .inl h
  · exact .inr ⟨a, b, by rw [h, List.concat_eq_append]⟩
end Go.Proofs.YtibkggjbkgdnkaaGreat

/-
  Kinds that are put into groups: the program's way.
-/
namespace Go.Proofs.YtibkggjbkgdnkaaGreat
open Go.RowKit
attribute [local irreducible] Go.wpList Go.Code.wp Go.Exit.then Go.Exit.inBlock Go.bodyPost Go.Calls pE pB G RunsV FnV Fn FnM
set_option maxRecDepth 100000
set_option maxHeartbeats 4000000
theorem idx_neg {α : Type} {p : α → Bool} {l : List α} (h : idxM p l < 0) : l.any p = false := by
  rcases idx_cases p l with ⟨_, e⟩ | ⟨k, b, e, _⟩
  · exact e
  · omega
theorem idx_pos {α : Type} {p : α → Bool} {l : List α} (h : ¬ idxM p l < 0) : ∃ (k : Nat) (b : α), idxM p l = (k : Int) ∧ l[k]? = some b ∧ p b = true ∧ (l.take k).any p = false := by
  rcases idx_cases p l with ⟨e, _⟩ | h2
  · omega
  · exact h2
theorem any_fst {p : List Int → Bool} {ts : List (List Int × Value)} : (ts.map Prod.fst).any p = ts.any (fun b => p b.1) := by rw [List.any_map]; rfl
theorem put_push {p : List Int → Bool} {ts : List (List Int × Value)} {x : Int} {v : Value} (h : ts.any (fun b => p b.1) = false) : putM p (ts.map Prod.fst) x = (ts ++ [([x], v)]).map Prod.fst := by
  rw [put_no (by rw [any_fst]; exact h), List.map_append]; rfl
theorem put_into {p : List Int → Bool} {ts : List (List Int × Value)} {x : Int} {q : Nat} {b : List Int × Value} {v : Value} (hb : ts[q]? = some b) (hp : p b.1 = true) (h : (ts.take q).any (fun b => p b.1) = false) : putM p (ts.map Prod.fst) x = (ts.set q (b.1 ++ [x], v)).map Prod.fst := by
  rw [put_at (k := q) (b := b.1) (by rw [← List.map_take, any_fst]; exact h) (by rw [List.getElem?_map, hb]; rfl) hp, List.map_set]
theorem push_sub {ts : List (List Int × Value)} {x : Int} {v : Value} : (ts.map (sub id)) ++ [(v, [[Value.int .i64 x]])] = (ts ++ [([x], v)]).map (sub id) := by
  rw [List.map_append]; rfl
theorem push_g {ts : List (List Int × Value)} {x : Int} {v : Value} : ts.map gcell ++ [[v]] = (ts ++ [([x], v)]).map gcell := by
  rw [List.map_append]; rfl
theorem into_sub {ts : List (List Int × Value)} {x : Int} {q : Nat} {b : List Int × Value} {v : Value} : (ts.map (sub id)).set q (v, b.1.map icell ++ [[Value.int .i64 x]]) = (ts.set q (b.1 ++ [x], v)).map (sub id) := by
  rw [List.map_set]; simp [sub, icell]
theorem into_g {ts : List (List Int × Value)} {x : Int} {q : Nat} {b : List Int × Value} {v : Value} : (ts.map gcell).set q [v] = (ts.set q (b.1 ++ [x], v)).map gcell := by
  rw [List.map_set]; rfl
theorem GE.know {P : Program} {ops : Array Oper} {Q : Exit → Act → World → Prop} {qs : List Nat} {n : Nat} {w0 : World} {HC : List Ch} {f : Nat} {listed : Array Bool} {fr : Fr} {H : List Ch} {p : Prop} (hp : ∀ w, HeapOk w0 w H → p) (h : p → GE P ops Q qs n w0 HC f listed fr H) : GE P ops Q qs n w0 HC f listed fr H := G.know hp h
theorem groups_any {ps : List PairM} {pv uv : Value} {l : List Int} (w : World) (h : Rd w pv 2 (ps.map PairM.cells)) (h2 : Rd w uv 1 (l.map icell)) (hasc : l.Pairwise (· < ·)) (hin : ∀ x ∈ l, 0 ≤ x ∧ x ≤ 3) (hn : l.length ≤ 4) :
    Fn Tryz.prog 83 [pv, uv] w (fun x : Value × List (List Int × Value) => x.1.oneCell' = true ∧ x.2.map Prod.fst = groupsM ps l) (fun x => x.1) (fun x => [.grp 3 1 (x.2.map (sub id)), .row x.1 44 1 (x.2.map gcell)]) := by
  have hln : (l.map icell).length = l.length := by simp
  have hov : pv.oneCell' = true := h.one_
  refine Fn.of (n := 42) Tryz.func83 rfl rfl ?_
  refine G.seq ?_
  refine G.region ?_
  refine G.op (og_box rfl (cells_one (by assumption))) rfl (fun bk2 _ => ?_)
  refine G.v (rv_assign rfl) rfl ?_
  refine G.done ?_
  refine G.thenN ?_
  refine G.seq ?_
  refine G.region ?_
  refine G.op (og_lit rfl .nil rfl rfl rfl rfl rfl rfl) rfl (fun vl _ => ?_)
  refine G.v (rv_assign rfl) rfl ?_
  refine G.done ?_
  refine G.thenN ?_
  refine G.seq ?_
  refine G.seq ?_
  refine G.region ?_
  refine G.v (rv_move rfl) rfl ?_
  (refine G.op (og_callF1 rfl rfl (fun w hh => by have q := kinds_any (l := l) w (Rd.stays h2 _ hh) (by omega); rw [dd_sorted hasc] at q; exact q)) rfl ?_; rintro vk hvk; try dsimp only)
  refine G.v (rv_len rfl (by exact Rd.owned 0 rfl)) rfl ?_
  refine G.v (rv_move rfl) rfl ?_
  refine G.done ?_
  refine G.thenN ?_
  refine G.block ?_
  -- loop 0: turned [5, 13], kept [2, 11, 12]
  (refine G.frontR1 vl rfl ?_)
  refine G.heap (fun w hh => hh.nilGrp 3 1) ?_
  refine G.loopK (ι := Nat × List (List Int × Value) × Value) (ks := [2, 11, 12]) (fun x => [(5, x.2.2), (13, .int .i64 (x.1 : Int))]) (fun x => [.grp 3 1 (x.2.1.map (sub id)), .row x.2.2 44 1 (x.2.1.map gcell)]) (fun x => x.1 ≤ l.length ∧ x.2.1.map Prod.fst = groupsM ps (l.take x.1)) (fun x => l.length - x.1) (0, [], vl) (.cons rfl (.cons rfl (.cons rfl (.nil)))) rfl ?_ ?_ ?_
  · exact ⟨Nat.zero_le _, rfl⟩
  · exact ⟨rfl, rfl, trivial⟩
  rintro ⟨k, ts, v2⟩ ⟨hk, hM⟩
  dsimp only at hk hM ⊢
  have hl0 : (ts.map gcell).length = ts.length := (by simp)
  have htl : ts.length ≤ k := (by have := putAll_len (fun g x => joinsM ps g x) (l.take k); have e2 := congrArg List.length hM; rw [List.length_map] at e2; rw [groupsM] at e2; rw [List.length_take] at this; omega)
  by_cases hlt : k < l.length
  case' pos => (obtain ⟨x, hx⟩ := get_of_lt hlt; have he := get_map hx icell; have hxr := hin x (List.mem_of_getElem? hx); have hxi : inB x 0 3 = true := (by simp only [inB, Bool.and_eq_true, decide_eq_true_eq]; omega))
  all_goals
   refine G.seq ?_
   refine G.region ?_
   refine G.v (rv_lss rfl rfl) rfl ?_
   refine G.done ?_
   refine G.thenN ?_
   refine G.seq ?_
   refine G.cond rfl (fun hc => ?_) (fun hc => ?_)
   · try exact Bool.noConfusion hc
     all_goals
      try replace hc := of_decide_eq_true hc
      try simp only [List.length_map] at hc
      try (exfalso; omega)
      all_goals
       refine G.skip ?_
       refine G.thenN ?_
       refine G.seq ?_
       refine G.block ?_
       refine G.seq ?_
       refine G.region ?_
       (refine G.v (rv_indexH rfl rfl (by exact Rd.owned 2 rfl) rfl (by exact he)) rfl ?_)
       refine G.v (rv_loadE rfl (by exact Rd.owned 2 rfl) (by exact he) rfl) rfl ?_
       refine G.op (og_alloc) rfl (fun bk7 _ => ?_)
       (refine G.op0 (og_st0 rfl rfl rfl rfl rfl rfl (.zero (.cons .nil))) (fun _ _ => ?_))
       refine G.done ?_
       refine G.thenN ?_
       refine G.seq ?_
       refine G.seq ?_
       refine G.region ?_
       (refine G.v (rv_load1 0 rfl rfl rfl) rfl ?_)
       refine G.op (og_callV rfl rfl (fun w _ => in_any _ _ _ w)) rfl (fun _ _ => ?_)
       refine G.v (rv_not rfl) rfl ?_
       refine G.done ?_
       refine G.thenN ?_
       refine G.cond rfl (fun hc => ?_) (fun hc => ?_)
       · try exact Bool.noConfusion hc
         all_goals
          try replace hc := of_decide_eq_true hc
          try simp only [List.length_map] at hc
          try (exfalso; contradiction)
          all_goals
           exfalso; simp [hxi] at hc
       · try exact Bool.noConfusion hc
         all_goals
          try replace hc := of_decide_eq_false hc
          try simp only [List.length_map] at hc
          try (exfalso; contradiction)
          all_goals
           refine G.skip ?_
           refine G.thenN ?_
           refine G.seq ?_
           refine G.region ?_
           refine G.v (rv_move rfl) rfl ?_
           refine G.v (rv_makeFunc rfl rfl) rfl ?_
           refine G.op (og_callV rfl rfl (fun w hh => indexTbl_any (l := ts) (p := fun g => joinsM ps g x) w (by exact Rd.owned 2 rfl _ hh) (fun w' j b hw hb => groups1_any (ps := ps) (pv := pv) x w' (Rd.stays (Rd.stays h _ hh) w' hw) (Rd.stays (Subs.at (by exact Subs.owned 1 rfl _ hh) hb) w' hw) (Rd.stays (by exact Rd.ofBlk 4 rfl (one_cons hov rfl) w hh) w' hw) (Rd.stays (by exact Rd.ofBlk 0 rfl rfl w hh) w' hw)))) rfl (fun _ _ => ?_)
           refine G.v (rv_assign rfl) rfl ?_
           refine G.done ?_
           refine G.thenN ?_
           refine G.seq ?_
           refine G.region ?_
           refine G.v (rv_move rfl) rfl ?_
           refine G.v (rv_lss rfl rfl) rfl ?_
           refine G.done ?_
           refine G.thenN ?_
           refine G.cond rfl (fun hc => ?_) (fun hc => ?_)
           · try exact Bool.noConfusion hc
             all_goals
              try replace hc := of_decide_eq_true hc
              try simp only [List.length_map] at hc
              try (exfalso; contradiction)
              all_goals
               have hno := idx_neg hc
               skip
               all_goals
                refine G.region ?_
                refine G.v (rv_move rfl) rfl ?_
                (refine G.v (rv_load1 0 rfl rfl rfl) rfl ?_)
                refine G.op (og_lit rfl (.cons rfl .nil) rfl rfl rfl rfl rfl rfl) rfl (fun vl _ => ?_)
                refine G.know (fun w hw => (Rd.owned 0 rfl w hw).one_) (fun hovl => ?_)
                refine G.op (og_lit rfl (.cons (cells_one (by assumption)) .nil) (by simp only [List.all_cons, List.all_nil, Bool.and_true, Bool.and_eq_true]; exact ⟨rfl, by assumption⟩) rfl rfl rfl rfl rfl) rfl (fun vm _ => ?_)
                ((refine G.op (og_app4 rfl rfl rfl (by exact Rd.owned 0 rfl) rfl rfl (by simp; omega) (by simp; omega)) rfl (fun va _ => ?_)))
                (refine G.frontG3 _ rfl ?_)
                (refine G.frontR2 vl rfl ?_)
                refine G.pushRow _ push_sub rfl ?_
                refine G.v (rv_assign rfl) rfl ?_
                refine G.done ?_
                refine G.inN ?_
                refine G.thenN ?_
                refine G.region ?_
                (refine G.v (rv_incr rfl rfl (by omega)) rfl ?_)
                refine G.v (rv_move rfl) rfl ?_
                refine G.done ?_
                (refine G.frontR3 va rfl ?_)
                (refine G.frontG1 _ rfl ?_)
                (refine G.keep2 2 rfl ?_; refine G.backK (k + 1, ts ++ [([x], vl)], va) 0 (by exact two_eq (congrArg (fun z => Ch.grp 3 1 z) rfl) (congrArg (fun z => Ch.row va 44 1 z) push_g)) (.cons rfl (.cons rfl (.cons rfl (.nil)))) ?_ ?_ ?_)
                · exact ⟨rfl, rfl, trivial⟩
                · (exact ⟨hlt, by rw [groupsM, putAll_next hx, ← groupsM, ← hM]; exact (put_push (p := fun g => joinsM ps g x) hno).symm⟩)
                · dsimp only; omega
           · try exact Bool.noConfusion hc
             all_goals
              try replace hc := of_decide_eq_false hc
              try simp only [List.length_map] at hc
              try (exfalso; contradiction)
              all_goals
               obtain ⟨q, b, hq, hqb, hpb, hbt⟩ := idx_pos hc
               have heq := get_map hqb gcell
               have hgi : (ts.map (sub id))[q]? = some (b.2, b.1.map icell) := get_mapS hqb
               have hbl : b.1.length ≤ k := (by have := (putAll_at (p := fun g x => joinsM ps g x) (l := l.take k) (q := q) (g := b.1) (by show (groupsM ps (l.take k))[q]? = _; rw [← hM, List.getElem?_map, hqb]; rfl)); rw [List.length_take] at this; omega)
               all_goals
                refine G.frontG1 _ rfl ?_
                refine G.drawD1 [9, 10] rfl ?_
                refine GE.q2 0 rfl (by as_aux_lemma => kernel_rfl) rfl (qg_runs (rv_move rfl)) (fun _ h => by exact h.drop 1) rfl ?_
                refine GE.q2 1 rfl (by as_aux_lemma => kernel_rfl) rfl (qg_runs (rv_move rfl)) (fun _ h => by exact h.drop 1) rfl ?_
                refine GE.q2 2 rfl (by as_aux_lemma => kernel_rfl) rfl (qg_runs (rv_move rfl)) (fun _ h => by exact h.drop 1) rfl ?_
                refine GE.q2 3 rfl (by as_aux_lemma => kernel_rfl) rfl (qg_runs (rv_move rfl)) (fun _ h => by exact h.drop 1) rfl ?_
                (refine GE.q2 4 rfl (by as_aux_lemma => kernel_rfl) rfl (qg_runs (rv_indexH (k := q) rfl rfl (by exact Rd.owned 1 rfl) (by omega) heq)) (fun _ h => by exact h.drop 1) rfl ?_)
                refine GE.q2 5 rfl (by as_aux_lemma => kernel_rfl) rfl (qg_runs (rv_loadE rfl (by exact Rd.owned 1 rfl) (by exact heq) rfl)) (fun _ h => by exact h.drop 1) rfl ?_
                (refine GE.ol 6 (by as_aux_lemma => kernel_rfl) rfl rfl (og_runs (rv_load1 1 rfl rfl rfl)) rfl (fun _ _ h => by exact h.drop 1) (fun _ _ => ?_))
                refine GE.ol 7 (by as_aux_lemma => kernel_rfl) rfl rfl (og_lit rfl (.cons rfl .nil) rfl rfl rfl rfl rfl rfl) rfl (fun _ _ h => by exact h.drop 2) (fun vl _ => ?_)
                ((refine GE.ol 8 (by as_aux_lemma => kernel_rfl) rfl rfl (og_appG1 rfl rfl rfl hgi (by exact Rd.owned 0 rfl) rfl rfl (by simp; omega) (by simp; omega)) rfl (fun _ _ h => by exact h.drop 2) (fun vb _ => ?_)))
                skip; refine GE.know (fun w hw => (Rd.grp 1 rfl (List.mem_of_getElem? (get_set1 hgi)) w hw).one_) (fun hova => ?_)
                (refine GE.t 9 (by as_aux_lemma => kernel_rfl) rfl rfl rfl (og_runs (rv_indexH (k := q) rfl rfl (by exact Rd.owned 3 rfl) (by omega) heq)) rfl (fun _ _ => ?_))
                (refine GE.t0 10 (by as_aux_lemma => kernel_rfl) rfl rfl rfl (og_stE3 rfl rfl rfl (by exact heq) (cells_one (by assumption)) rfl (by repeat (first | rfl | refine one_cons (by assumption) ?_)) rfl (.zero (.cons .nil))) (fun _ _ => ?_))
                refine GE.done (by as_aux_lemma => kernel_rfl) ?_
                refine G.inN ?_
                refine G.thenN ?_
                refine G.region ?_
                (refine G.v (rv_incr rfl rfl (by omega)) rfl ?_)
                refine G.v (rv_move rfl) rfl ?_
                refine G.done ?_
                (refine G.frontR3 v2 rfl ?_)
                (refine G.frontG2 _ rfl ?_)
                (refine G.keep2 2 rfl ?_; refine G.backK (k + 1, ts.set q (b.1 ++ [x], vb), v2) 0 (by exact two_eq (congrArg (fun z => Ch.grp 3 1 z) into_sub) (congrArg (fun z => Ch.row v2 44 1 z) into_g)) (.cons rfl (.cons rfl (.cons rfl (.nil)))) ?_ ?_ ?_)
                · exact ⟨rfl, rfl, trivial⟩
                · (exact ⟨hlt, by rw [groupsM, putAll_next hx, ← groupsM, ← hM]; exact (put_into (p := fun g => joinsM ps g x) hqb hpb hbt).symm⟩)
                · dsimp only; omega
   · try exact Bool.noConfusion hc
     all_goals
      try replace hc := of_decide_eq_false hc
      try simp only [List.length_map] at hc
      try (exfalso; omega)
      all_goals
       refine G.exit ?_
       refine G.thenX ?_
       refine G.thenX ?_
       refine G.inX ?_
       refine G.thenN ?_
       refine G.seq ?_
       refine G.region ?_
       refine G.v (rv_move rfl) rfl ?_
       refine G.v (rv_assign rfl) rfl ?_
       refine G.done ?_
       refine G.thenN ?_
       refine G.ret ?_
       refine G.know (fun w hw => (Rd.owned 1 rfl w hw).one_) (fun hone => G.retF (v2, ts) ⟨hone, by rw [take_all (l := l) (by omega)] at hM; exact hM⟩ rfl rfl rfl (fun w hw => hw.sublist (by repeat (first | exact List.Sublist.refl _ | refine List.Sublist.cons_cons _ ?_ | refine List.Sublist.cons _ ?_))))
end Go.Proofs.YtibkggjbkgdnkaaGreat

/-
  Kinds that are put into groups: the reference's way.
-/
namespace Go.Proofs.YtibkggjbkgdnkaaGreat
open Go.RowKit
attribute [local irreducible] Go.wpList Go.Code.wp Go.Exit.then Go.Exit.inBlock Go.bodyPost Go.Calls pE pB G RunsV FnV Fn FnM
set_option maxRecDepth 100000
set_option maxHeartbeats 4000000
theorem below_yes {l : List Int} {n : Nat} (h : hasM l (n : Int) = true) : below l (n + 1) = below l n ++ [(n : Int)] := by rw [below_next, if_pos h]
theorem below_no {l : List Int} {n : Nat} (h : hasM l (n : Int) = false) : below l (n + 1) = below l n := by rw [below_next, if_neg (by rw [h]; decide), List.append_nil]
theorem sgroups_any {ps : List PairM} {pv uv : Value} {l : List Int} (w : World) (h : Rd w pv 2 (ps.map PairM.cells)) (h2 : Rd w uv 1 (l.map icell)) (hasc : l.Pairwise (· < ·)) (hin : ∀ x ∈ l, 0 ≤ x ∧ x ≤ 3) :
    Fn Tryz.prog 76 [pv, uv] w (fun x : Value × List (List Int × Value) => x.1.oneCell' = true ∧ x.2.map Prod.fst = groupsM ps l) (fun x => x.1) (fun x => [.grp 3 1 (x.2.map (sub id)), .row x.1 44 1 (x.2.map gcell)]) := by
  refine Fn.of (n := 51) Tryz.func76 rfl rfl ?_
  refine G.seq ?_
  refine G.region ?_
  refine G.v (rv_assign rfl) rfl ?_
  refine G.done ?_
  refine G.thenN ?_
  refine G.seq ?_
  refine G.region ?_
  refine G.op (og_lit rfl .nil rfl rfl rfl rfl rfl rfl) rfl (fun vl _ => ?_)
  refine G.v (rv_assign rfl) rfl ?_
  refine G.done ?_
  refine G.thenN ?_
  refine G.seq ?_
  refine G.seq ?_
  refine G.region ?_
  refine G.v (rv_assign rfl) rfl ?_
  refine G.done ?_
  refine G.thenN ?_
  refine G.block ?_
  -- loop 0: turned [5, 6], kept [0, 1]
  refine G.heap (fun w hh => hh.nilGrp 3 1) ?_
  refine G.loopK (ι := Nat × List (List Int × Value) × Value) (ks := [0, 1]) (fun x => [(5, x.2.2), (6, .int .i64 (x.1 : Int))]) (fun x => [.grp 3 1 (x.2.1.map (sub id)), .row x.2.2 44 1 (x.2.1.map gcell)]) (fun x => x.1 ≤ 4 ∧ x.2.1.map Prod.fst = groupsM ps (below l x.1)) (fun x => 4 - x.1) (0, [], vl) (.cons rfl (.cons rfl (.nil))) rfl ?_ ?_ ?_
  · exact ⟨Nat.zero_le _, rfl⟩
  · exact ⟨rfl, rfl, trivial⟩
  rintro ⟨c, ts, v2⟩ ⟨hk, hM⟩
  dsimp only at hk hM ⊢
  have hl0 : (ts.map gcell).length = ts.length := (by simp)
  have htl : ts.length ≤ 4 := (by have := putAll_len (fun g x => joinsM ps g x) (below l c); have e2 := congrArg List.length hM; rw [List.length_map] at e2; rw [groupsM] at e2; have := below_len l c; omega)
  all_goals
   refine G.seq ?_
   refine G.seq ?_
   refine G.region ?_
   refine G.v (rv_move rfl) rfl ?_
   refine G.v (rv_lss rfl rfl) rfl ?_
   refine G.done ?_
   refine G.thenN ?_
   refine G.cond rfl (fun hc => ?_) (fun hc => ?_)
   · try exact Bool.noConfusion hc
     all_goals
      try replace hc := of_decide_eq_true hc
      try simp only [List.length_map] at hc
      try (exfalso; contradiction)
      all_goals
       refine G.skip ?_
       refine G.thenN ?_
       refine G.seq ?_
       refine G.block ?_
       refine G.seq ?_
       refine G.seq ?_
       refine G.region ?_
       refine G.v (rv_move rfl) rfl ?_
       refine G.v (rv_move rfl) rfl ?_
       refine G.op (og_callV rfl rfl (fun w hh => l1Has_any _ w (by exact Rd.stays (by assumption) _ hh))) rfl (fun _ _ => ?_)
       refine G.v (rv_not rfl) rfl ?_
       refine G.done ?_
       refine G.thenN ?_
       refine G.cond rfl (fun hc => ?_) (fun hc => ?_)
       · try exact Bool.noConfusion hc
         all_goals
          try replace hc := of_decide_eq_true hc
          try simp only [List.length_map] at hc
          try (exfalso; contradiction)
          all_goals
           have hh1 : hasM l (c : Int) = false := by simpa using hc
           all_goals
            refine G.exit ?_
            refine G.thenX ?_
            refine G.inX ?_
            refine G.thenN ?_
            refine G.region ?_
            refine G.v (rv_move rfl) rfl ?_
            (refine G.v (rv_incr rfl rfl (by omega)) rfl ?_)
            refine G.v (rv_assign rfl) rfl ?_
            refine G.done ?_
            (refine G.frontR1 v2 rfl ?_)
            (refine G.frontG1 _ rfl ?_)
            (refine G.keep2 0 rfl ?_; refine G.backK (c + 1, ts, v2) 0 (by rfl) (.cons rfl (.cons rfl (.nil))) ?_ ?_ ?_)
            · exact ⟨rfl, rfl, trivial⟩
            · (exact ⟨by omega, by rw [below_no hh1]; exact hM⟩)
            · dsimp only; omega
       · try exact Bool.noConfusion hc
         all_goals
          try replace hc := of_decide_eq_false hc
          try simp only [List.length_map] at hc
          try (exfalso; contradiction)
          all_goals
           have hh1 : hasM l (c : Int) = true := by simpa using hc
           all_goals
            refine G.skip ?_
            refine G.thenN ?_
            refine G.seq ?_
            refine G.region ?_
            refine G.v (rv_assign rfl) rfl ?_
            refine G.done ?_
            refine G.thenN ?_
            refine G.seq ?_
            refine G.seq ?_
            refine G.region ?_
            refine G.v (rv_move rfl) rfl ?_
            refine G.v (rv_len rfl (by exact Rd.owned 1 rfl)) rfl ?_
            refine G.v (rv_subB rfl rfl (by omega) (by omega)) rfl ?_
            refine G.v (rv_assign rfl) rfl ?_
            refine G.done ?_
            refine G.thenN ?_
            refine G.block ?_
            -- loop 1: turned [7, 8], kept [0, 1, 5, 6]
            refine G.loopK (ι := Nat) (ks := [0, 1, 5, 6]) (fun k => [(7, .int .i64 (idxFrom (fun b => joinsM ps b.1 (c : Int)) ts k)), (8, .int .i64 ((k : Int) - 1))]) (fun _ => []) (fun k => k ≤ ts.length) (fun k => k) ts.length (.cons rfl (.cons rfl (.cons rfl (.cons rfl (.nil))))) rfl ?_ ?_ ?_
            · exact Nat.le_refl _
            · exact ⟨congrArg (fun z => some (Value.int .i64 z)) from_end.symm, congrArg (fun z : Nat => some (Value.int .i64 ((z : Int) - 1))) hl0, trivial⟩
            rintro k hk1
            rcases k with _ | k
            case' succ => (obtain ⟨b, hb⟩ := get_of_lt (l := ts) (k := k) (by omega); have heb := get_map hb gcell)
            all_goals
             refine G.seq ?_
             refine G.seq ?_
             refine G.region ?_
             refine G.v (rv_move rfl) rfl ?_
             refine G.v (rv_geq rfl rfl) rfl ?_
             refine G.done ?_
             refine G.thenN ?_
             refine G.cond rfl (fun hc => ?_) (fun hc => ?_)
             · try exact Bool.noConfusion hc
               all_goals
                try replace hc := of_decide_eq_true hc
                try simp only [List.length_map] at hc
                try (exfalso; contradiction)
                all_goals
                 refine G.skip ?_
                 refine G.thenN ?_
                 refine G.seq ?_
                 refine G.block ?_
                 refine G.seq ?_
                 refine G.region ?_
                 refine G.v (rv_move rfl) rfl ?_
                 refine G.v (rv_move rfl) rfl ?_
                 refine G.v (rv_move rfl) rfl ?_
                 (refine G.v (rv_indexH (k := k) rfl rfl (by exact Rd.owned 1 rfl) (by omega) heb) rfl ?_)
                 refine G.v (rv_loadE rfl (by exact Rd.owned 1 rfl) (by exact heb) rfl) rfl ?_
                 refine G.v (rv_move rfl) rfl ?_
                 refine G.op (og_callV rfl rfl (fun w hh => l3Joins_any (ps := ps) (l := b.1) _ w (Rd.stays h _ hh) (Subs.at (by exact Subs.owned 0 rfl _ hh) hb))) rfl (fun _ _ => ?_)
                 refine G.done ?_
                 refine G.thenN ?_
                 refine G.cond rfl (fun hc => ?_) (fun hc => ?_)
                 · try exact Bool.noConfusion hc
                   all_goals
                    try replace hc := of_decide_eq_true hc
                    try simp only [List.length_map] at hc
                    try (exfalso; contradiction)
                    all_goals
                     refine G.region ?_
                     refine G.v (rv_move rfl) rfl ?_
                     refine G.v (rv_assign rfl) rfl ?_
                     refine G.done ?_
                     refine G.inN ?_
                     refine G.thenN ?_
                     refine G.region ?_
                     refine G.v (rv_move rfl) rfl ?_
                     refine G.v (rv_subB rfl rfl (by omega) (by omega)) rfl ?_
                     refine G.v (rv_assign rfl) rfl ?_
                     refine G.done ?_
                     refine G.backK k 0 rfl (.cons rfl (.cons rfl (.cons rfl (.cons rfl (.nil))))) ?_ ?_ ?_
                     · exact ⟨congrArg (fun z => some (Value.int .i64 z)) ((show ((k + 1 : Nat) : Int) - 1 = (k : Int) by omega).trans (from_yes hb hc)), congrArg (fun z => some (Value.int .i64 z)) (show ((k + 1 : Nat) : Int) - 1 - 1 = (k : Int) - 1 by omega), trivial⟩
                     · omega
                     · omega
                 · try exact Bool.noConfusion hc
                   all_goals
                    try replace hc := of_decide_eq_false hc
                    try simp only [List.length_map] at hc
                    try (exfalso; contradiction)
                    all_goals
                     refine G.skip ?_
                     refine G.inN ?_
                     refine G.thenN ?_
                     refine G.region ?_
                     refine G.v (rv_move rfl) rfl ?_
                     refine G.v (rv_subB rfl rfl (by omega) (by omega)) rfl ?_
                     refine G.v (rv_assign rfl) rfl ?_
                     refine G.done ?_
                     refine G.backK k 0 rfl (.cons rfl (.cons rfl (.cons rfl (.cons rfl (.nil))))) ?_ ?_ ?_
                     · exact ⟨congrArg (fun z => some (Value.int .i64 z)) (from_no hb hc), congrArg (fun z => some (Value.int .i64 z)) (show ((k + 1 : Nat) : Int) - 1 - 1 = (k : Int) - 1 by omega), trivial⟩
                     · omega
                     · omega
             · try exact Bool.noConfusion hc
               all_goals
                try replace hc := of_decide_eq_false hc
                try simp only [List.length_map] at hc
                try (exfalso; omega)
                all_goals
                 refine G.exit ?_
                 refine G.thenX ?_
                 refine G.thenX ?_
                 refine G.inX ?_
                 refine G.thenN ?_
                 refine G.seq ?_
                 refine G.region ?_
                 refine G.v (rv_move rfl) rfl ?_
                 refine G.v (rv_lss rfl rfl) rfl ?_
                 refine G.done ?_
                 refine G.thenN ?_
                 refine G.cond rfl (fun hc => ?_) (fun hc => ?_)
                 · try exact Bool.noConfusion hc
                   all_goals
                    try replace hc := of_decide_eq_true hc
                    try simp only [List.length_map] at hc
                    try (exfalso; contradiction)
                    all_goals
                     rw [from_zero] at hc
                     have hno := idx_neg hc
                     all_goals
                      refine G.region ?_
                      refine G.v (rv_move rfl) rfl ?_
                      refine G.v (rv_move rfl) rfl ?_
                      refine G.op (og_lit rfl (.cons rfl .nil) rfl rfl rfl rfl rfl rfl) rfl (fun vl _ => ?_)
                      refine G.know (fun w hw => (Rd.owned 0 rfl w hw).one_) (fun hovl => ?_)
                      refine G.op (og_lit rfl (.cons (cells_one (by assumption)) .nil) (by simp only [List.all_cons, List.all_nil, Bool.and_true, Bool.and_eq_true]; exact ⟨rfl, by assumption⟩) rfl rfl rfl rfl rfl) rfl (fun vm _ => ?_)
                      ((refine G.op (og_app3 rfl rfl rfl (by exact Rd.owned 0 rfl) rfl rfl (by simp; omega) (by simp; omega)) rfl (fun va _ => ?_)))
                      (refine G.frontG2 _ rfl ?_)
                      (refine G.frontR2 vl rfl ?_)
                      refine G.pushRow _ push_sub rfl ?_
                      refine G.v (rv_assign rfl) rfl ?_
                      refine G.done ?_
                      refine G.inN ?_
                      refine G.thenN ?_
                      refine G.region ?_
                      refine G.v (rv_move rfl) rfl ?_
                      (refine G.v (rv_incr rfl rfl (by omega)) rfl ?_)
                      refine G.v (rv_assign rfl) rfl ?_
                      refine G.done ?_
                      (refine G.frontR2 va rfl ?_)
                      (refine G.frontG1 _ rfl ?_)
                      (refine G.keep2 1 rfl ?_; refine G.backK (c + 1, ts ++ [([(c : Int)], vl)], va) 0 (by exact two_eq (congrArg (fun z => Ch.grp 3 1 z) rfl) (congrArg (fun z => Ch.row va 44 1 z) push_g)) (.cons rfl (.cons rfl (.nil))) ?_ ?_ ?_)
                      · exact ⟨rfl, rfl, trivial⟩
                      · (exact ⟨by omega, by rw [below_yes hh1, groupsM, putAll_snoc, ← groupsM, ← hM]; exact (put_push (p := fun g => joinsM ps g (c : Int)) hno).symm⟩)
                      · dsimp only; omega
                 · try exact Bool.noConfusion hc
                   all_goals
                    try replace hc := of_decide_eq_false hc
                    try simp only [List.length_map] at hc
                    try (exfalso; contradiction)
                    all_goals
                     rw [from_zero] at hc
                     obtain ⟨q, b, hq, hqb, hpb, hbt⟩ := idx_pos hc
                     have hq2 := (from_zero (p := fun b => joinsM ps b.1 (c : Int)) (l := ts)).trans hq
                     have heq := get_map hqb gcell
                     have hgi : (ts.map (sub id))[q]? = some (b.2, b.1.map icell) := get_mapS hqb
                     have hbl : b.1.length ≤ 4 := (by have := (putAll_at (p := fun g x => joinsM ps g x) (l := below l c) (q := q) (g := b.1) (by show (groupsM ps (below l c))[q]? = _; rw [← hM, List.getElem?_map, hqb]; rfl)); have := below_len l c; omega)
                     all_goals
                      refine G.region ?_
                      refine G.v (rv_move rfl) rfl ?_
                      refine G.v (rv_move rfl) rfl ?_
                      refine G.v (rv_move rfl) rfl ?_
                      refine G.v (rv_move rfl) rfl ?_
                      (refine G.v (rv_indexH (k := q) rfl rfl (by exact Rd.owned 1 rfl) (by omega) heq) rfl ?_)
                      refine G.v (rv_loadE rfl (by exact Rd.owned 1 rfl) (by exact heq) rfl) rfl ?_
                      refine G.v (rv_move rfl) rfl ?_
                      refine G.op (og_lit rfl (.cons rfl .nil) rfl rfl rfl rfl rfl rfl) rfl (fun vl _ => ?_)
                      ((refine G.op (og_appG1 rfl rfl rfl hgi (by exact Rd.owned 0 rfl) rfl rfl (by simp; omega) (by simp; omega)) rfl (fun vb _ => ?_)))
                      skip; refine G.know (fun w hw => (Rd.grp 1 rfl (List.mem_of_getElem? (get_set1 hgi)) w hw).one_) (fun hova => ?_)
                      (refine G.v (rv_indexH (k := q) rfl rfl (by exact Rd.owned 2 rfl) (by omega) heq) rfl ?_)
                      (refine G.op0 (og_stE2 rfl rfl rfl (by exact heq) (cells_one (by assumption)) rfl (by repeat (first | rfl | refine one_cons (by assumption) ?_)) rfl (.zero (.cons .nil))) (fun _ _ => ?_))
                      refine G.done ?_
                      refine G.inN ?_
                      refine G.thenN ?_
                      refine G.region ?_
                      refine G.v (rv_move rfl) rfl ?_
                      (refine G.v (rv_incr rfl rfl (by omega)) rfl ?_)
                      refine G.v (rv_assign rfl) rfl ?_
                      refine G.done ?_
                      (refine G.frontR2 v2 rfl ?_)
                      (refine G.frontG2 _ rfl ?_)
                      (refine G.keep2 1 rfl ?_; refine G.backK (c + 1, ts.set q (b.1 ++ [(c : Int)], vb), v2) 0 (by exact two_eq (congrArg (fun z => Ch.grp 3 1 z) into_sub) (congrArg (fun z => Ch.row v2 44 1 z) into_g)) (.cons rfl (.cons rfl (.nil))) ?_ ?_ ?_)
                      · exact ⟨rfl, rfl, trivial⟩
                      · (exact ⟨by omega, by rw [below_yes hh1, groupsM, putAll_snoc, ← groupsM, ← hM]; exact (put_into (p := fun g => joinsM ps g (c : Int)) hqb hpb hbt).symm⟩)
                      · dsimp only; omega
   · try exact Bool.noConfusion hc
     all_goals
      try replace hc := of_decide_eq_false hc
      try simp only [List.length_map] at hc
      try (exfalso; contradiction)
      all_goals
       refine G.exit ?_
       refine G.thenX ?_
       refine G.thenX ?_
       refine G.inX ?_
       refine G.thenN ?_
       refine G.seq ?_
       refine G.region ?_
       refine G.v (rv_move rfl) rfl ?_
       refine G.v (rv_assign rfl) rfl ?_
       refine G.done ?_
       refine G.thenN ?_
       refine G.ret ?_
       refine G.know (fun w hw => (Rd.owned 1 rfl w hw).one_) (fun hone => G.retF (v2, ts) ⟨hone, by rw [show c = 4 by omega, below_all hasc hin] at hM; exact hM⟩ rfl rfl rfl (fun w hw => hw.sublist (by repeat (exact List.Sublist.refl _))))
end Go.Proofs.YtibkggjbkgdnkaaGreat

/-
  The groups of an order: both ways, and the law.
-/
namespace Go.Proofs.YtibkggjbkgdnkaaGreat
open Go.RowKit
attribute [local irreducible] Go.wpList Go.Code.wp Go.Exit.then Go.Exit.inBlock Go.bodyPost Go.Calls pE pB G RunsV FnV Fn FnM
set_option maxRecDepth 100000
set_option maxHeartbeats 4000000
def groupsOfM (r : ReqM) : List (List Int) := groupsM r.pairs (presI r)
theorem presI_no {r : ReqM} (h : ¬ classM r = 0) : presI r = [] := by rw [presI, presM, if_neg h]; rfl
theorem groupsOf_no {r : ReqM} (h : ¬ classM r = 0) : groupsOfM r = [] := by rw [groupsOfM, presI_no h]; rfl
theorem cntSS_eq (l : List (List Int × Value)) : cntG cntSS l = ((l.map Prod.fst).map List.length).sum := by
  induction l with
  | nil => rfl
  | cons x r ih =>
    have e : cntG cntSS (x :: r) = cntSS x + cntG cntSS r := rfl
    rw [e, ih, cntSS, cnt_const (cnt := cntI) (m := 1) (fun _ => rfl)]; simp
section
variable {r : ReqM} {pv tv iv : Value} (w : World) (h : Rd w pv 2 (r.pairs.map PairM.cells)) (h2 : Rd w tv 7 (r.types.map TypeM.cells)) (h3 : Rd w iv 7 (r.items.map ItemM.cells))
include h h2 h3
theorem groupsOf_any : Fn Tryz.prog 21 [.agg (r.cells pv tv iv).toArray] w (fun x : Value × List (List Int × Value) => x.1.oneCell' = true ∧ x.2.map Prod.fst = groupsOfM r) (fun x => x.1) (fun x => [.grp 3 1 (x.2.map (sub id)), .row x.1 44 1 (x.2.map gcell)]) := by
  refine Fn.of (n := 11) Tryz.func21 rfl rfl ?_
  refine G.seq ?_
  refine G.region ?_
  refine G.op (og_box rfl rfl) rfl (fun bk1 _ => ?_)
  refine G.v (rv_assign rfl) rfl ?_
  refine G.done ?_
  refine G.thenN ?_
  refine G.seq ?_
  refine G.seq ?_
  refine G.region ?_
  (refine G.v (rv_loadW 0 rfl rfl rfl) rfl ?_)
  refine G.op (og_callV rfl rfl (fun w hh => sound_any (r := r) w (Rd.stays h _ hh) (Rd.stays h2 _ hh) (Rd.stays h3 _ hh))) rfl (fun _ _ => ?_)
  refine G.v (rv_not rfl) rfl ?_
  refine G.done ?_
  refine G.thenN ?_
  refine G.cond rfl (fun hc => ?_) (fun hc => ?_)
  · try exact Bool.noConfusion hc
    all_goals
     try replace hc := of_decide_eq_true hc
     try (exfalso; contradiction)
     all_goals
      refine G.seq ?_
      refine G.region ?_
      refine G.v (rv_assign rfl) rfl ?_
      refine G.done ?_
      refine G.thenN ?_
      refine G.ret ?_
      refine G.thenR ?_
      exact G.retF (.slice none 0 0, []) ⟨rfl, (groupsOf_no (by exact of_decide_eq_false (by simpa using hc))).symm⟩ rfl rfl rfl (fun w hw => (hw.none.nilRow _ _).nilGrp _ _)
  · try exact Bool.noConfusion hc
    all_goals
     try replace hc := of_decide_eq_false hc
     try (exfalso; contradiction)
     all_goals
      refine G.skip ?_
      refine G.thenN ?_
      refine G.seq ?_
      refine G.drawL [5] ?_
      (refine GE.q 0 rfl (by as_aux_lemma => kernel_rfl) rfl (qg_runs (rv_field rfl)) rfl ?_)
      (refine GE.q 1 rfl (by as_aux_lemma => kernel_rfl) rfl (qg_runs (rv_load1 0 rfl rfl rfl)) rfl ?_)
      (refine GE.ol 2 (by as_aux_lemma => kernel_rfl) rfl rfl (og_runs (rv_loadW 0 rfl rfl rfl)) rfl (fun _ _ h => by exact h) (fun _ _ => ?_))
      (refine GE.ol 3 (by as_aux_lemma => kernel_rfl) rfl rfl (og_callF1 rfl rfl (fun w hh => present_any (r := r) w (Rd.stays h _ hh) (Rd.stays h2 _ hh) (Rd.stays h3 _ hh))) rfl (fun _ _ h => by exact h.drop 1) ?_; rintro vk hvk; try dsimp only)
      (refine GE.ol 4 (by as_aux_lemma => kernel_rfl) rfl rfl (og_callF2 rfl rfl (fun w hh => groups_any (ps := r.pairs) (l := presI r) w (Rd.stays h _ hh) (by rw [← presI_cells]; exact Rd.owned 0 rfl _ hh) (presI_asc r) (fun x hx => presI_in hx) (presI_len r))) rfl (fun _ _ h => by exact h.drop 3) ?_; rintro ⟨vo, os⟩ ⟨hvo, hos⟩; try dsimp only)
      refine GE.t 5 (by as_aux_lemma => kernel_rfl) rfl rfl rfl (og_runs (rv_assign rfl)) rfl (fun _ _ => ?_)
      refine GE.done (by as_aux_lemma => kernel_rfl) ?_
      refine G.thenN ?_
      refine G.ret ?_
      exact G.retF (vo, os) ⟨hvo, hos⟩ rfl rfl rfl (fun w hw => hw.sublist (by repeat (first | exact List.Sublist.refl _ | refine List.Sublist.cons_cons _ ?_ | refine List.Sublist.cons _ ?_)))
theorem sgroupsOf_any : Fn Tryz.prog 19 [.agg (r.cells pv tv iv).toArray] w (fun x : Value × List (List Int × Value) => x.1.oneCell' = true ∧ x.2.map Prod.fst = groupsOfM r) (fun x => x.1) (fun x => [.grp 3 1 (x.2.map (sub id)), .row x.1 44 1 (x.2.map gcell)]) := by
  refine Fn.of (n := 8) Tryz.func19 rfl rfl ?_
  refine G.seq ?_
  refine G.region ?_
  refine G.op (og_box rfl rfl) rfl (fun bk1 _ => ?_)
  refine G.v (rv_assign rfl) rfl ?_
  refine G.done ?_
  refine G.thenN ?_
  refine G.seq ?_
  refine G.drawL [5] ?_
  (refine GE.q 0 rfl (by as_aux_lemma => kernel_rfl) rfl (qg_runs (rv_field rfl)) rfl ?_)
  (refine GE.q 1 rfl (by as_aux_lemma => kernel_rfl) rfl (qg_runs (rv_load1 0 rfl rfl rfl)) rfl ?_)
  (refine GE.ol 2 (by as_aux_lemma => kernel_rfl) rfl rfl (og_runs (rv_loadW 0 rfl rfl rfl)) rfl (fun _ _ h => by exact h) (fun _ _ => ?_))
  (refine GE.ol 3 (by as_aux_lemma => kernel_rfl) rfl rfl (og_callF1 rfl rfl (fun w hh => spresent_any (r := r) w (Rd.stays h _ hh) (Rd.stays h2 _ hh) (Rd.stays h3 _ hh))) rfl (fun _ _ h => by exact h.drop 1) ?_; rintro vk hvk; try dsimp only)
  (refine GE.ol 4 (by as_aux_lemma => kernel_rfl) rfl rfl (og_callF2 rfl rfl (fun w hh => sgroups_any (ps := r.pairs) (l := presI r) w (Rd.stays h _ hh) (by rw [← presI_cells]; exact Rd.owned 0 rfl _ hh) (presI_asc r) (fun x hx => presI_in hx))) rfl (fun _ _ h => by exact h.drop 3) ?_; rintro ⟨vo, os⟩ ⟨hvo, hos⟩; try dsimp only)
  refine GE.t 5 (by as_aux_lemma => kernel_rfl) rfl rfl rfl (og_runs (rv_assign rfl)) rfl (fun _ _ => ?_)
  refine GE.done (by as_aux_lemma => kernel_rfl) ?_
  refine G.thenN ?_
  refine G.ret ?_
  exact G.retF (vo, os) ⟨hvo, hos⟩ rfl rfl rfl (fun w hw => hw.sublist (by repeat (first | exact List.Sublist.refl _ | refine List.Sublist.cons_cons _ ?_ | refine List.Sublist.cons _ ?_)))
end
theorem fnExactGroupsOf_any {pv tv iv : Value} {w : World} (r : ReqM) (hr : RqRd w r pv tv iv) :
    FnV Tryz.prog 3 [.agg (r.cells pv tv iv).toArray] w (.bool true) := by
  obtain ⟨h, h2, h3⟩ := hr
  have hcR := cntR_in (r := r)
  have hgl : ((groupsOfM r).map List.length).sum ≤ 4 := by rw [groupsOfM, groupsM, putAll_sum]; exact presI_len r
  refine FnV.of (n := 69) Tryz.func3 rfl rfl ?_
  refine G.seq ?_
  refine G.region ?_
  refine G.op (og_box rfl rfl) rfl (fun bk1 _ => ?_)
  refine G.v (rv_assign rfl) rfl ?_
  refine G.done ?_
  refine G.thenN ?_
  refine G.seq ?_
  refine G.region ?_
  refine G.v (rv_assign rfl) rfl ?_
  refine G.done ?_
  refine G.thenN ?_
  refine G.seq ?_
  refine G.region ?_
  (refine G.v (rv_loadW 0 rfl rfl rfl) rfl ?_)
  refine G.v (rv_move rfl) rfl ?_
  refine G.op (og_callV rfl rfl (fun w hh => szRequest_any (r := r) _ w (Rd.stays h _ hh) (Rd.stays h2 _ hh) (Rd.stays h3 _ hh) (by omega) (by omega))) rfl (fun _ _ => ?_)
  refine G.v (rv_assign rfl) rfl ?_
  refine G.done ?_
  refine G.thenN ?_
  refine G.seq ?_
  refine G.seq ?_
  refine G.region ?_
  refine G.v (rv_move rfl) rfl ?_
  refine G.v (rv_lss rfl rfl) rfl ?_
  refine G.done ?_
  refine G.thenN ?_
  refine G.cond rfl (fun hc => ?_) (fun hc => ?_)
  · try exact Bool.noConfusion hc
    all_goals
     try replace hc := of_decide_eq_true hc
     try (exfalso; contradiction)
     all_goals
      refine G.seq ?_
      refine G.region ?_
      refine G.v (rv_assign rfl) rfl ?_
      refine G.done ?_
      refine G.thenN ?_
      refine G.ret ?_
      refine G.thenR ?_
      exact G.retFV rfl rfl rfl
  · try exact Bool.noConfusion hc
    all_goals
     try replace hc := of_decide_eq_false hc
     try (exfalso; contradiction)
     all_goals
      refine G.skip ?_
      refine G.thenN ?_
      refine G.seq ?_
      refine G.region ?_
      (refine G.v (rv_loadW 0 rfl rfl rfl) rfl ?_)
      ((refine G.op (og_callF3 rfl rfl (fun w hh => toRequest_any (r := r) w (Rd.stays h _ hh) (Rd.stays h2 _ hh) (Rd.stays h3 _ hh) (by (try simp only [szM] at *); omega))) rfl ?_; rintro ⟨pvN, tvN, ivN⟩ ⟨hovN, hov2N, hov3N⟩; try dsimp only))
      (refine G.op (og_callF2 rfl rfl (fun w hh => sgroupsOf_any (r := r) w (by exact Rd.owned 2 rfl _ hh) (by exact Rd.owned 1 rfl _ hh) (by exact Rd.owned 0 rfl _ hh))) rfl ?_; rintro ⟨vo, os⟩ ⟨hvo, hos⟩; try dsimp only)
      refine G.v (rv_assign rfl) rfl ?_
      refine G.done ?_
      refine G.thenN ?_
      refine G.seq ?_
      refine G.region ?_
      (refine G.v (rv_loadW 5 rfl rfl rfl) rfl ?_)
      ((refine G.op (og_callF3 rfl rfl (fun w hh => toRequest_any (r := r) w (Rd.stays h _ hh) (Rd.stays h2 _ hh) (Rd.stays h3 _ hh) (by (try simp only [szM] at *); omega))) rfl ?_; rintro ⟨pv2, tv2, iv2⟩ ⟨hov2, hov22, hov32⟩; try dsimp only))
      refine G.op (og_alloc) rfl (fun bk5 _ => ?_)
      (refine G.op0 (og_st0 rfl rfl rfl rfl rfl (by repeat (first | rfl | refine one_cons (by first | rfl | assumption) ?_)) (.zero (.cons (.cons (.cons (.cons (.cons (.cons (.cons (.cons (.cons (.cons .nil)))))))))))) (fun _ _ => ?_))
      refine G.done ?_
      refine G.thenN ?_
      refine G.seq ?_
      refine G.region ?_
      (refine G.v (rv_loadW 0 rfl rfl rfl) rfl ?_)
      (refine G.op (og_callF2 rfl rfl (fun w hh => groupsOf_any (r := r) w (by exact Rd.owned 3 rfl _ hh) (by exact Rd.owned 2 rfl _ hh) (by exact Rd.owned 1 rfl _ hh))) rfl ?_; rintro ⟨vg, gs⟩ ⟨hvg, hgs⟩; try dsimp only)
      have hgt := cntSS_eq gs; rw [hgs] at hgt
      refine G.v (rv_assign rfl) rfl ?_
      refine G.done ?_
      refine G.thenN ?_
      refine G.seq ?_
      refine G.seq ?_
      refine G.region ?_
      refine G.v (rv_move rfl) rfl ?_
      refine G.v (rv_move rfl) rfl ?_
      refine G.op (og_callV rfl rfl (fun w hh => eqIntSS_any (xs := gs) (ys := os) w (by exact Rd.owned 1 rfl _ hh) (by exact Subs.owned 0 rfl _ hh) (by exact Rd.owned 7 rfl _ hh) (by exact Subs.owned 6 rfl _ hh))) rfl (fun _ _ => ?_)
      refine G.v (rv_not rfl) rfl ?_
      refine G.done ?_
      refine G.thenN ?_
      refine G.cond rfl (fun hc => ?_) (fun hc => ?_)
      · try exact Bool.noConfusion hc
        all_goals
         try replace hc := of_decide_eq_true hc
         try (exfalso; contradiction)
         all_goals
          refine G.seq ?_
          refine G.region ?_
          refine G.v (rv_assign rfl) rfl ?_
          refine G.done ?_
          refine G.thenN ?_
          refine G.ret ?_
          refine G.thenR ?_
          (exfalso; simp_all; done)
      · try exact Bool.noConfusion hc
        all_goals
         try replace hc := of_decide_eq_false hc
         try (exfalso; contradiction)
         all_goals
          refine G.skip ?_
          refine G.thenN ?_
          refine G.seq ?_
          refine G.seq ?_
          refine G.drawL [3] ?_
          (refine GE.q 0 rfl (by as_aux_lemma => kernel_rfl) rfl (qg_runs (rv_loadW 2 rfl rfl rfl)) rfl ?_)
          (refine GE.ol 1 (by as_aux_lemma => kernel_rfl) rfl rfl (og_runs (rv_loadW 11 rfl rfl rfl)) rfl (fun _ _ h => by exact h) (fun _ _ => ?_))
          ((refine GE.ol 2 (by as_aux_lemma => kernel_rfl) rfl rfl (og_callF3 rfl rfl (fun w hh => toRequest_any (r := r) w (Rd.stays h _ hh) (Rd.stays h2 _ hh) (Rd.stays h3 _ hh) (by (try simp only [szM] at *); omega))) rfl (fun _ _ h => by exact h.drop 3) ?_; rintro ⟨pv3, tv3, iv3⟩ ⟨hov3, hov23, hov33⟩; try dsimp only))
          refine GE.t 3 (by as_aux_lemma => kernel_rfl) rfl rfl rfl (og_callV rfl rfl (fun w hh => eqRequest_any (r := r) (s := r) w (by exact Rd.owned 8 rfl _ hh) (by exact Rd.owned 7 rfl _ hh) (by exact Rd.owned 6 rfl _ hh) (by exact Rd.owned 2 rfl _ hh) (by exact Rd.owned 1 rfl _ hh) (by exact Rd.owned 0 rfl _ hh))) rfl (fun _ _ => ?_)
          refine GE.ol 4 (by as_aux_lemma => kernel_rfl) rfl rfl (og_runs (rv_not rfl)) rfl (fun _ _ h => by exact h.drop 3) (fun _ _ => ?_)
          refine GE.done (by as_aux_lemma => kernel_rfl) ?_
          refine G.thenN ?_
          refine G.cond rfl (fun hc => ?_) (fun hc => ?_)
          · try exact Bool.noConfusion hc
            all_goals
             try replace hc := of_decide_eq_true hc
             try (exfalso; contradiction)
             all_goals
              refine G.seq ?_
              refine G.region ?_
              refine G.v (rv_assign rfl) rfl ?_
              refine G.done ?_
              refine G.thenN ?_
              refine G.ret ?_
              refine G.thenR ?_
              (exfalso; simp_all; done)
          · try exact Bool.noConfusion hc
            all_goals
             try replace hc := of_decide_eq_false hc
             try (exfalso; contradiction)
             all_goals
              refine G.skip ?_
              refine G.thenN ?_
              refine G.seq ?_
              refine G.region ?_
              refine G.v (rv_assign rfl) rfl ?_
              refine G.done ?_
              refine G.thenN ?_
              refine G.seq ?_
              refine G.region ?_
              (refine G.v (rv_loadW 5 rfl rfl rfl) rfl ?_)
              refine G.v (rv_move rfl) rfl ?_
              ((refine G.frontR8 (pv2) rfl ?_); (refine G.frontR8 (tv2) rfl ?_); (refine G.frontR8 (iv2) rfl ?_); refine G.op (og_callMM3 rfl rfl rfl (markRequest_any (r := r) (by omega) (by (try simp only [szM] at *); omega)).toF) rfl ?_; rintro ⟨⟩ _; try dsimp only)
              refine G.v (rv_assign rfl) rfl ?_
              refine G.done ?_
              refine G.thenN ?_
              refine G.seq ?_
              refine G.seq ?_
              refine G.region ?_
              refine G.v (rv_move rfl) rfl ?_
              refine G.v (rv_lss rfl rfl) rfl ?_
              refine G.v (rv_move rfl) rfl ?_
              all_goals (((with_reducible refine G.gP rfl rfl (fun hg => ?_) (fun hg => ?_)) <;> (try exact Bool.noConfusion hg) <;> ((refine G.gY rfl rfl ?_; refine G.v (rv_move rfl) rfl ?_))))
              all_goals (((refine G.gY rfl rfl ?_; refine G.v (rv_move rfl) rfl ?_)))
              all_goals (((refine G.gY rfl rfl ?_; refine G.op (og_callV rfl rfl (fun w hh => eqIntSS_any (xs := gs) (ys := os) w (by exact Rd.owned 7 rfl _ hh) (by exact Subs.owned 6 rfl _ hh) (by exact Rd.owned 10 rfl _ hh) (by exact Subs.owned 9 rfl _ hh))) rfl (fun _ _ => ?_))))
              all_goals (((refine G.gY rfl rfl ?_; refine G.v (rv_not rfl) rfl ?_)))
              all_goals ((refine G.v (rv_pickF rfl rfl) rfl ?_))
              all_goals
               refine G.done ?_
               refine G.thenN ?_
               refine G.cond rfl (fun hc => ?_) (fun hc => ?_)
               · try exact Bool.noConfusion hc
                 all_goals
                  try replace hc := of_decide_eq_true hc
                  try (exfalso; contradiction)
                  all_goals
                   refine G.seq ?_
                   refine G.region ?_
                   refine G.v (rv_assign rfl) rfl ?_
                   refine G.done ?_
                   refine G.thenN ?_
                   refine G.ret ?_
                   refine G.thenR ?_
                   (exfalso; simp_all; done)
               · try exact Bool.noConfusion hc
                 all_goals
                  try replace hc := of_decide_eq_false hc
                  try (exfalso; contradiction)
                  all_goals
                   refine G.skip ?_
                   refine G.thenN ?_
                   refine G.seq ?_
                   refine G.region ?_
                   refine G.v (rv_assign rfl) rfl ?_
                   refine G.done ?_
                   refine G.thenN ?_
                   refine G.seq ?_
                   refine G.region ?_
                   refine G.v (rv_move rfl) rfl ?_
                   refine G.v (rv_move rfl) rfl ?_
                   ((refine G.frontR7 (vg) rfl ?_); (refine G.frontG7 (gs.map (sub id)) rfl ?_); refine G.op (og_callMM2 rfl rfl rfl (markIntSS_any (by omega) (by omega)).toF) rfl ?_; rintro ⟨⟩ _; try dsimp only)
                   refine G.v (rv_assign rfl) rfl ?_
                   refine G.done ?_
                   refine G.thenN ?_
                   refine G.seq ?_
                   refine G.region ?_
                   refine G.v (rv_assign rfl) rfl ?_
                   refine G.done ?_
                   refine G.thenN ?_
                   refine G.seq ?_
                   refine G.region ?_
                   refine G.v (rv_move rfl) rfl ?_
                   refine G.v (rv_move rfl) rfl ?_
                   refine G.op (og_callV rfl rfl (fun w hh => heldIntSS_marked (l := gs) w (by exact Rd.owned 1 rfl _ hh) (by exact Subs.owned 0 rfl _ hh) (by omega) (by omega))) rfl (fun _ _ => ?_)
                   refine G.v (rv_assign rfl) rfl ?_
                   refine G.done ?_
                   refine G.thenN ?_
                   refine G.seq ?_
                   refine G.seq ?_
                   refine G.region ?_
                   refine G.v (rv_move rfl) rfl ?_
                   refine G.v (rv_lss rfl rfl) rfl ?_
                   refine G.done ?_
                   refine G.thenN ?_
                   refine G.cond rfl (fun hc => ?_) (fun hc => ?_)
                   · try exact Bool.noConfusion hc
                     all_goals
                      try replace hc := of_decide_eq_true hc
                      try (exfalso; contradiction)
                      all_goals
                       refine G.seq ?_
                       refine G.region ?_
                       refine G.v (rv_assign rfl) rfl ?_
                       refine G.done ?_
                       refine G.thenN ?_
                       refine G.ret ?_
                       refine G.thenR ?_
                       exact G.retFV rfl rfl rfl
                   · try exact Bool.noConfusion hc
                     all_goals
                      try replace hc := of_decide_eq_false hc
                      try (exfalso; contradiction)
                      all_goals
                       refine G.skip ?_
                       refine G.thenN ?_
                       refine G.seq ?_
                       refine G.seq ?_
                       refine G.region ?_
                       refine G.v (rv_move rfl) rfl ?_
                       refine G.v (rv_move rfl) rfl ?_
                       refine G.v (rv_neq rfl rfl) rfl ?_
                       refine G.done ?_
                       refine G.thenN ?_
                       refine G.cond rfl (fun hc => ?_) (fun hc => ?_)
                       · try exact Bool.noConfusion hc
                         all_goals
                          try replace hc := of_decide_eq_true hc
                          try (exfalso; contradiction)
                          all_goals
                           refine G.seq ?_
                           refine G.region ?_
                           refine G.v (rv_assign rfl) rfl ?_
                           refine G.done ?_
                           refine G.thenN ?_
                           refine G.ret ?_
                           refine G.thenR ?_
                           exact G.retFV rfl rfl rfl
                       · try exact Bool.noConfusion hc
                         all_goals
                          try replace hc := of_decide_eq_false hc
                          try (exfalso; contradiction)
                          all_goals
                           refine G.skip ?_
                           refine G.thenN ?_
                           refine G.seq ?_
                           refine G.region ?_
                           (refine G.v (rv_loadW 14 rfl rfl rfl) rfl ?_)
                           ((refine G.op (og_callF3 rfl rfl (fun w hh => toRequest_any (r := r) w (Rd.stays h _ hh) (Rd.stays h2 _ hh) (Rd.stays h3 _ hh) (by (try simp only [szM] at *); omega))) rfl ?_; rintro ⟨pv4, tv4, iv4⟩ ⟨hov4, hov24, hov34⟩; try dsimp only))
                           (refine G.op (og_callF2 rfl rfl (fun w hh => groupsOf_any (r := r) w (by exact Rd.owned 2 rfl _ hh) (by exact Rd.owned 1 rfl _ hh) (by exact Rd.owned 0 rfl _ hh))) rfl ?_; rintro ⟨vh, js⟩ ⟨hvh, hjs⟩; try dsimp only)
                           refine G.v (rv_assign rfl) rfl ?_
                           refine G.done ?_
                           refine G.thenN ?_
                           refine G.seq ?_
                           refine G.seq ?_
                           refine G.region ?_
                           refine G.v (rv_move rfl) rfl ?_
                           refine G.v (rv_move rfl) rfl ?_
                           refine G.op (og_callV rfl rfl (fun w hh => eqIntSS_any (xs := js) (ys := os) w (by exact Rd.owned 1 rfl _ hh) (by exact Subs.owned 0 rfl _ hh) (by exact Rd.owned 15 rfl _ hh) (by exact Subs.owned 14 rfl _ hh))) rfl (fun _ _ => ?_)
                           refine G.v (rv_not rfl) rfl ?_
                           refine G.done ?_
                           refine G.thenN ?_
                           refine G.cond rfl (fun hc => ?_) (fun hc => ?_)
                           · try exact Bool.noConfusion hc
                             all_goals
                              try replace hc := of_decide_eq_true hc
                              try (exfalso; contradiction)
                              all_goals
                               refine G.seq ?_
                               refine G.region ?_
                               refine G.v (rv_assign rfl) rfl ?_
                               refine G.done ?_
                               refine G.thenN ?_
                               refine G.ret ?_
                               refine G.thenR ?_
                               (exfalso; simp_all; done)
                           · try exact Bool.noConfusion hc
                             all_goals
                              try replace hc := of_decide_eq_false hc
                              try (exfalso; contradiction)
                              all_goals
                               refine G.skip ?_
                               refine G.thenN ?_
                               refine G.seq ?_
                               refine G.region ?_
                               refine G.v (rv_assign rfl) rfl ?_
                               refine G.done ?_
                               refine G.thenN ?_
                               refine G.seq ?_
                               refine G.region ?_
                               refine G.v (rv_move rfl) rfl ?_
                               refine G.v (rv_move rfl) rfl ?_
                               refine G.op (og_callV rfl rfl (fun w hh => heldIntSS_marked (l := gs) w (by exact Rd.owned 6 rfl _ hh) (by exact Subs.owned 5 rfl _ hh) (by omega) (by omega))) rfl (fun _ _ => ?_)
                               refine G.v (rv_assign rfl) rfl ?_
                               refine G.done ?_
                               refine G.thenN ?_
                               refine G.seq ?_
                               refine G.seq ?_
                               refine G.region ?_
                               refine G.v (rv_move rfl) rfl ?_
                               refine G.v (rv_lss rfl rfl) rfl ?_
                               refine G.done ?_
                               refine G.thenN ?_
                               refine G.cond rfl (fun hc => ?_) (fun hc => ?_)
                               · try exact Bool.noConfusion hc
                                 all_goals
                                  try replace hc := of_decide_eq_true hc
                                  try (exfalso; contradiction)
                                  all_goals
                                   refine G.seq ?_
                                   refine G.region ?_
                                   refine G.v (rv_assign rfl) rfl ?_
                                   refine G.done ?_
                                   refine G.thenN ?_
                                   refine G.ret ?_
                                   refine G.thenR ?_
                                   exact G.retFV rfl rfl rfl
                               · try exact Bool.noConfusion hc
                                 all_goals
                                  try replace hc := of_decide_eq_false hc
                                  try (exfalso; contradiction)
                                  all_goals
                                   refine G.skip ?_
                                   refine G.thenN ?_
                                   refine G.seq ?_
                                   refine G.seq ?_
                                   refine G.region ?_
                                   refine G.v (rv_move rfl) rfl ?_
                                   refine G.v (rv_move rfl) rfl ?_
                                   refine G.v (rv_neq rfl rfl) rfl ?_
                                   refine G.done ?_
                                   refine G.thenN ?_
                                   refine G.cond rfl (fun hc => ?_) (fun hc => ?_)
                                   · try exact Bool.noConfusion hc
                                     all_goals
                                      try replace hc := of_decide_eq_true hc
                                      try (exfalso; contradiction)
                                      all_goals
                                       refine G.seq ?_
                                       refine G.region ?_
                                       refine G.v (rv_assign rfl) rfl ?_
                                       refine G.done ?_
                                       refine G.thenN ?_
                                       refine G.ret ?_
                                       refine G.thenR ?_
                                       exact G.retFV rfl rfl rfl
                                   · try exact Bool.noConfusion hc
                                     all_goals
                                      try replace hc := of_decide_eq_false hc
                                      try (exfalso; contradiction)
                                      all_goals
                                       refine G.skip ?_
                                       refine G.thenN ?_
                                       refine G.seq ?_
                                       refine G.region ?_
                                       refine G.v (rv_assign rfl) rfl ?_
                                       refine G.done ?_
                                       refine G.thenN ?_
                                       refine G.ret ?_
                                       exact G.retFV rfl rfl rfl
end Go.Proofs.YtibkggjbkgdnkaaGreat
