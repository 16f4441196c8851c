/-
  Texts of this proof, one behind the other: Core, Mem, Own, Call, Draw, Move, Types, Model, ReqM, Geo1, Ints, Tables, Geo2, Marks, Eqs, Bits, Swap, Slc, PileM.
-/
import Derived.WalkKit
import Derived.WalkLawsBesides
import Derived.Deep.LoopGhost
import Derived.Maps.AppendAt
import Derived.Deep.Quiet
import Derived.Test.YtglpgohilfoecaaGreatRows
import Derived.ChangeKeysEq
import Derived.Laws.StructEq
set_option linter.unusedVariables false
set_option linter.unusedSimpArgs false

/-
  A small logic of chunks over the walk: a state is said by the slots that are known and by the blocks that the call owns.
-/
namespace Go.Proofs.YtglpgohilfoecaaGreat
open Go.RowKit

/-! ### Frames -/
abbrev Fr := List (Nat × Value)

def fget : Fr → Nat → Option Value
  | [], _ => none
  | (k, v) :: r, t => bif Nat.beq k t then some v else fget r t

def opv (fr : Fr) : Operand → Option Value
  | .tmp t => fget fr t
  | .const v => some v
  | .global g => some (.pointer (some ⟨g, 0, none⟩))
  | .func f => some (.func (.func f) #[] #[])

def opvs (fr : Fr) : List Operand → Option (List Value)
  | [] => some []
  | x :: r => match opv fr x with
    | some v => match opvs fr r with
      | some vs => some (v :: vs)
      | none => none
    | none => none

structure Rep (n : Nat) (a : Act) (fr : Fr) : Prop where
  size : a.tmps.size = n
  defs : a.defers = []
  val : ∀ t v, fget fr t = some v → a.tmps.getD t undef = v
  lt : ∀ t v, fget fr t = some v → t < n

theorem Rep.opv {n : Nat} {a : Act} {fr : Fr} (h : Rep n a fr) {x : Operand} {v : Value} (hx : opv fr x = some v) : a.eval x = v := by
  cases x with
  | tmp t => exact h.val t v hx
  | const c => exact Option.some.inj hx
  | global g => exact Option.some.inj hx
  | func f => exact Option.some.inj hx

theorem Rep.opvs {n : Nat} {a : Act} {fr : Fr} (h : Rep n a fr) : ∀ {xs : List Operand} {vs : List Value}, opvs fr xs = some vs → xs.map a.eval = vs
  | [], vs, hx => by simp only [Proofs.YtglpgohilfoecaaGreat.opvs, Option.some.injEq] at hx; simp [hx]
  | x :: r, vs, hx => by
    simp only [Proofs.YtglpgohilfoecaaGreat.opvs] at hx
    split at hx
    · rename_i v hv
      split at hx
      · rename_i vs' hvs
        simp only [Option.some.injEq] at hx
        subst hx
        simp [h.opv hv, Rep.opvs h hvs]
      · cases hx
    · cases hx

theorem dB (k : Nat) (v : Value) (r : Fr) (t : Nat) : fget ((k, v) :: r) t = if k = t then some v else fget r t := by
  simp only [fget]
  by_cases h : k = t
  · subst h; simp
  · rw [if_neg h]
    have : Nat.beq k t = false := by
      cases hb : Nat.beq k t
      · rfl
      · exact absurd (Nat.eq_of_beq_eq_true hb) h
    simp [this]

theorem Rep.put {n : Nat} {a : Act} {fr : Fr} (h : Rep n a fr) {d : Nat} (hd : d < n) (v : Value) : Rep n (a.put (some d) v) ((d, v) :: fr) := by
  refine ⟨by simp [Act.put, h.size], h.defs, fun t u hu => ?_, fun t u hu => ?_⟩
  · rw [dB] at hu
    simp only [Act.put, Array.getD_eq_getD_getElem?, Array.getElem?_setIfInBounds]
    split at hu
    · rename_i e; subst e
      simp only [Option.some.injEq] at hu
      subst hu
      simp [h.size, hd]
    · rename_i e
      rw [if_neg e]
      have := h.val t u hu
      rwa [Array.getD_eq_getD_getElem?] at this
  · rw [dB] at hu
    split at hu
    · rename_i e; exact e ▸ hd
    · exact h.lt t u hu

theorem Rep.put_none {n : Nat} {a : Act} {fr : Fr} (h : Rep n a fr) (v : Value) : Rep n (a.put none v) fr := h

/-- The facts of 'gr' are among those of 'fr'. -/
def Sub : Fr → Fr → Prop
  | [], _ => True
  | (k, v) :: r, fr => fget fr k = some v ∧ Sub r fr

theorem Sub.get : ∀ {gr fr : Fr}, Sub gr fr → ∀ t v, fget gr t = some v → fget fr t = some v
  | (k, u) :: r, fr, h, t, v, hg => by
    rw [dB] at hg
    split at hg
    · rename_i e; subst e
      exact (Option.some.inj hg) ▸ h.1
    · exact Sub.get h.2 t v hg

theorem Rep.sub {n : Nat} {a : Act} {fr gr : Fr} (h : Rep n a fr) (hs : Sub gr fr) : Rep n a gr :=
  ⟨h.size, h.defs, fun t v hg => h.val t v (hs.get t v hg), fun t v hg => h.lt t v (hs.get t v hg)⟩

/-! ### Chunks -/
def blkOf : Value → Nat
  | .slice (some a) _ _ => a.block
  | _ => 0
def offOf : Value → Nat
  | .slice (some a) _ _ => a.off
  | _ => 0
/-- The pointer to cell c of element k, of slices whose elements have s cells. -/
def pE (v : Value) (s k c : Nat) : Value := .pointer (some ⟨blkOf v, offOf v + (k * s + c), none⟩)
def pB (b o : Nat) : Value := .pointer (some ⟨b, o, none⟩)

inductive Ch where
  | blk (b : Nat) (t : TypeId) (cs : List Value)
  | row (v : Value) (t : TypeId) (size : Nat) (es : List (List Value))
  | grp (t : TypeId) (size : Nat) (rs : List (Value × List (List Value)))

def Ch.has : Ch → Nat → Prop
  | .blk b _ _, k => b = k
  | .row v _ _ _, k => v.ownBlock = some k
  | .grp _ _ rs, k => ∃ r ∈ rs, r.1.ownBlock = some k

def rowOk (w : World) (B : Nat) (t : TypeId) (size : Nat) (v : Value) (es : List (List Value)) : Prop :=
  w.ownsRow B t size v es.length es.flatten ∧ ∀ e ∈ es, e.length = size ∧ ∀ u ∈ e, u.oneCell' = true
def rowApart (r s : Value × List (List Value)) : Prop := ∀ k, r.1.ownBlock = some k → s.1.ownBlock ≠ some k

def Ch.ok (w : World) (B : Nat) : Ch → Prop
  | .blk b t cs => B ≤ b ∧ w.heap[b]? = some (.cells cs.toArray t (0, 0))
  | .row v t size es => rowOk w B t size v es
  | .grp t size rs => (∀ r ∈ rs, rowOk w B t size r.1 r.2) ∧ rs.Pairwise rowApart

def Ch.apart (c d : Ch) : Prop := ∀ k, c.has k → ¬ d.has k

theorem Ch.apart_symm {c d : Ch} (h : c.apart d) : d.apart c := fun k hd hc => h k hc hd

structure HeapOk (w0 w : World) (H : List Ch) : Prop where
  below : Below w0.heap.size w0 w
  ok : ∀ c ∈ H, c.ok w w0.heap.size
  ap : H.Pairwise Ch.apart

theorem HeapOk.refl (w : World) : HeapOk w w [] := ⟨Below.refl _ _, by simp, List.Pairwise.nil⟩

theorem Ch.lt {w : World} {B : Nat} {c : Ch} (h : c.ok w B) {k : Nat} (hk : c.has k) : B ≤ k ∧ k < w.heap.size := by
  cases c with
  | blk b t cs =>
    simp only [Ch.has] at hk; subst hk
    refine ⟨h.1, ?_⟩
    rcases Nat.lt_or_ge b w.heap.size with hlt | hge
    · exact hlt
    · have := h.2; rw [Array.getElem?_eq_none hge] at this; cases this
  | row v t size es => exact h.1.lt k hk
  | grp t size rs =>
    obtain ⟨r, hr, hk⟩ := hk
    exact (h.1 r hr).1.lt k hk

theorem rowOk.of {w w' : World} {B : Nat} {t : TypeId} {size : Nat} {v : Value} {es : List (List Value)} (h : rowOk w B t size v es) (hb : ∀ k, v.ownBlock = some k → w'.heap[k]? = w.heap[k]?) : rowOk w' B t size v es := by
  refine ⟨⟨h.1.1, ?_⟩, h.2⟩
  rcases h.1.2 with ⟨rfl, hn⟩ | ⟨g, cap, cur, rfl, hB, hg, rest⟩
  · exact .inl ⟨rfl, hn⟩
  · exact .inr ⟨g, cap, cur, rfl, hB, (hb g rfl).trans hg, rest⟩
theorem rowOk.mono {w : World} {B B' : Nat} {t : TypeId} {size : Nat} {v : Value} {es : List (List Value)} (h : rowOk w B t size v es) (hB : B' ≤ B) : rowOk w B' t size v es := by
  refine ⟨⟨h.1.1, ?_⟩, h.2⟩
  rcases h.1.2 with ⟨rfl, hn⟩ | ⟨g, cap, cur, rfl, hg1, rest⟩
  · exact .inl ⟨rfl, hn⟩
  · exact .inr ⟨g, cap, cur, rfl, Nat.le_trans hB hg1, rest⟩
theorem Ch.ok_of {w w' : World} {B : Nat} {c : Ch} (h : c.ok w B) (hb : ∀ k, c.has k → w'.heap[k]? = w.heap[k]?) : c.ok w' B := by
  cases c with
  | blk b t cs => exact ⟨h.1, (hb b rfl).trans h.2⟩
  | row v t size es => exact rowOk.of h hb
  | grp t size rs => exact ⟨fun r hr => (h.1 r hr).of fun k hk => hb k ⟨r, hr, hk⟩, h.2⟩

theorem Ch.ok_mono {w : World} {B B' : Nat} {c : Ch} (h : c.ok w B) (hB : B' ≤ B) : c.ok w B' := by
  cases c with
  | blk b t cs => exact ⟨Nat.le_trans hB h.1, h.2⟩
  | row v t size es => exact rowOk.mono h hB
  | grp t size rs => exact ⟨fun r hr => (h.1 r hr).mono hB, h.2⟩

theorem HeapOk.perm {w0 w : World} {H H' : List Ch} (h : HeapOk w0 w H) (p : H.Perm H') : HeapOk w0 w H' :=
  ⟨h.below, fun c hc => h.ok c (p.mem_iff.2 hc), (p.pairwise_iff (R := Ch.apart) (fun h => Ch.apart_symm h)).1 h.ap⟩

theorem HeapOk.sublist {w0 w : World} {H H' : List Ch} (h : HeapOk w0 w H) (p : H'.Sublist H) : HeapOk w0 w H' :=
  ⟨h.below, fun c hc => h.ok c (p.subset hc), h.ap.sublist p⟩

theorem HeapOk.drop {w0 w : World} {H : List Ch} (h : HeapOk w0 w H) (n : Nat) : HeapOk w0 w (H.drop n) := h.sublist (List.drop_sublist n H)

theorem HeapOk.tail {w0 w : World} {c : Ch} {H : List Ch} (h : HeapOk w0 w (c :: H)) : HeapOk w0 w H := h.sublist (List.sublist_cons_self c H)

/-- New chunks on top: those of a callee, seen from its own beginning. -/
theorem HeapOk.call {w0 w w' : World} {H N : List Ch} (h : HeapOk w0 w H) (hn : HeapOk w w' N) : HeapOk w0 w' (N ++ H) := by
  have hsz := h.below.size
  refine ⟨h.below.trans (hn.below.mono hsz), fun c hc => ?_, ?_⟩
  · rcases List.mem_append.1 hc with hc | hc
    · exact Ch.ok_mono (hn.ok c hc) hsz
    · exact Ch.ok_of (h.ok c hc) fun k hk => hn.below.block k (Ch.lt (h.ok c hc) hk).2
  · refine List.pairwise_append.2 ⟨hn.ap, h.ap, fun c hc d hd k hk hk' => ?_⟩
    have h1 := (Ch.lt (hn.ok c hc) hk).1
    have h2 := (Ch.lt (h.ok d hd) hk').2
    omega

theorem HeapOk.drew {w0 w : World} {H : List Ch} (h : HeapOk w0 w H) : HeapOk w0 { w with drawn := w.drawn + 1 } H :=
  ⟨⟨h.below.os, h.below.tape, h.below.output, h.below.size, h.below.block⟩, fun c hc => Ch.ok_of (h.ok c hc) fun _ _ => rfl, h.ap⟩

/-- A new block of cells. -/
theorem HeapOk.alloc {w0 w : World} {H : List Ch} (h : HeapOk w0 w H) (t : TypeId) (cs : List Value) :
    HeapOk w0 (w.alloc (.cells cs.toArray t)) (.blk w.heap.size t cs :: H) := by
  have hsz := h.below.size
  refine ⟨h.below.alloc hsz _, fun c hc => ?_, ?_⟩
  · rcases List.mem_cons.1 hc with rfl | hc
    · exact ⟨hsz, heap_alloc_new w _⟩
    · exact Ch.ok_of (h.ok c hc) fun k hk => Below.heap_alloc w _ k (Ch.lt (h.ok c hc) hk).2
  · refine List.pairwise_cons.2 ⟨fun d hd k hk hk' => ?_, h.ap⟩
    have := (Ch.lt (h.ok d hd) hk').2
    simp only [Ch.has] at hk
    omega

/-! ### Reading: a slice that reads as a list of elements -/
structure Rd (w : World) (v : Value) (size : Nat) (es : List (List Value)) : Prop where
  form : ∃ a cap, v = .slice a es.length cap ∧ es.length ≤ cap ∧ cap ≤ maxLen ∧ (0 < es.length → ∃ b o, a = some ⟨b, o, none⟩)
  good : ∀ e ∈ es, e.length = size ∧ ∀ u ∈ e, u.oneCell' = true
  cells : ∀ j u, es.flatten[j]? = some u → w.cell? ⟨blkOf v, offOf v + j, none⟩ = some u

theorem flatten_get {es : List (List Value)} {size : Nat} (hl : ∀ e ∈ es, e.length = size) : ∀ {k : Nat} {e : List Value}, es[k]? = some e → ∀ {c : Nat} {u : Value}, e[c]? = some u → es.flatten[k * size + c]? = some u := by
  induction es with
  | nil => intro k e h; simp at h
  | cons x xs ih =>
    intro k e hk c u hc
    have hx : x.length = size := hl x (List.mem_cons_self)
    cases k with
    | zero =>
      simp only [List.getElem?_cons_zero, Option.some.injEq] at hk
      subst hk
      have hlt : c < x.length := by
        rcases Nat.lt_or_ge c x.length with h | h
        · exact h
        · rw [List.getElem?_eq_none h] at hc; cases hc
      simp only [List.flatten_cons, Nat.zero_mul, Nat.zero_add]
      rw [List.getElem?_append_left hlt]; exact hc
    | succ k =>
      simp only [List.getElem?_cons_succ] at hk
      have := ih (fun e he => hl e (List.mem_cons_of_mem _ he)) hk hc
      simp only [List.flatten_cons]
      rw [List.getElem?_append_right (by rw [hx, Nat.succ_mul]; omega)]
      rw [hx]
      rw [show (k + 1) * size + c - size = k * size + c from by rw [Nat.succ_mul]; omega]
      exact this

theorem Rd.cell {w : World} {v : Value} {size : Nat} {es : List (List Value)} (h : Rd w v size es) {k : Nat} {e : List Value} (hk : es[k]? = some e) {c : Nat} {u : Value} (hc : e[c]? = some u) :
    w.cell? ⟨blkOf v, offOf v + (k * size + c), none⟩ = some u := h.cells _ _ (flatten_get (fun e he => (h.good e he).1) hk hc)

theorem Rd.le {w : World} {v : Value} {size : Nat} {es : List (List Value)} (h : Rd w v size es) : es.length ≤ maxLen := by
  obtain ⟨a, cap, _, h1, h2, _⟩ := h.form; omega

theorem cell_lt {w : World} {p : Addr} {u : Value} (h : w.cell? p = some u) : p.block < w.heap.size := by
  rcases Nat.lt_or_ge p.block w.heap.size with hlt | hge
  · exact hlt
  · simp [World.cell?, Array.getElem?_eq_none hge] at h

theorem Rd.below {w w' : World} {v : Value} {size : Nat} {es : List (List Value)} (h : Rd w v size es) (hb : Below w.heap.size w w') : Rd w' v size es :=
  ⟨h.form, h.good, fun j u hj => by
    have := h.cells j u hj
    rw [hb.cell (cell_lt this)]
    exact this⟩

theorem Rd.nil_ (w : World) (size : Nat) : Rd w (.slice none 0 0) size [] :=
  ⟨⟨none, 0, rfl, Nat.le_refl _, by simp [maxLen], by simp⟩, by simp, by simp⟩

theorem Rd.of_row {w : World} {B : Nat} {v : Value} {t : TypeId} {size : Nat} {es : List (List Value)} (h : (Ch.row v t size es).ok w B) : Rd w v size es := by
  obtain ⟨hr, hl⟩ := h
  refine ⟨?_, hl, ?_⟩
  · rcases hr.2 with ⟨rfl, hn⟩ | ⟨g, cap, cur, rfl, hB, hg, h1, h2, h3, h4⟩
    · exact ⟨none, 0, by rw [hn], by omega, by simp [maxLen], by omega⟩
    · exact ⟨_, cap, rfl, h1, h2, fun _ => ⟨g, 0, rfl⟩⟩
  · intro j u hj
    rcases hr.2 with ⟨rfl, hn⟩ | ⟨g, cap, cur, rfl, hB, hg, h1, h2, h3, h4⟩
    · have : es = [] := List.eq_nil_of_length_eq_zero hn
      subst this; simp at hj
    · have := hr.cells (g := g) rfl j u hj
      simpa [blkOf, offOf, Addr.add_lit] using this

theorem HeapOk.rd {w0 w : World} {H : List Ch} {v : Value} {t : TypeId} {size : Nat} {es : List (List Value)} (h : HeapOk w0 w H) (hm : Ch.row v t size es ∈ H) : Rd w v size es := Rd.of_row (h.ok _ hm)

/-! ### Groups of rows -/
theorem rowApart.symm {r s : Value × List (List Value)} (h : rowApart r s) : rowApart s r := fun k hs hr => h k hr hs
theorem HeapOk.nilGrp {w0 w : World} {H : List Ch} (h : HeapOk w0 w H) (t : TypeId) (s : Nat) : HeapOk w0 w (.grp t s [] :: H) :=
  ⟨h.below, fun c hc => by
    rcases List.mem_cons.1 hc with rfl | hc
    · exact ⟨by simp, List.Pairwise.nil⟩
    · exact h.ok c hc, List.pairwise_cons.2 ⟨fun d hd k ⟨r, hr, _⟩ => by (cases hr), h.ap⟩⟩
theorem HeapOk.grpPerm {w0 w : World} {H : List Ch} {t : TypeId} {s : Nat} {rs rs' : List (Value × List (List Value))} (h : HeapOk w0 w (.grp t s rs :: H)) (p : rs.Perm rs') : HeapOk w0 w (.grp t s rs' :: H) := by
  have h0 := h.ok _ List.mem_cons_self
  have hp := List.pairwise_cons.1 h.ap
  refine ⟨h.below, fun c hc => ?_, List.pairwise_cons.2 ⟨fun d hd k hk => ?_, hp.2⟩⟩
  · rcases List.mem_cons.1 hc with rfl | hc
    · exact ⟨fun r hr => h0.1 r (p.mem_iff.2 hr), (p.pairwise_iff (R := rowApart) (fun h => rowApart.symm h)).1 h0.2⟩
    · exact h.ok c (List.mem_cons_of_mem _ hc)
  · obtain ⟨r, hr, hk⟩ := hk
    exact hp.1 d hd k ⟨r, p.mem_iff.2 hr, hk⟩
theorem HeapOk.grpSub {w0 w : World} {H : List Ch} {t : TypeId} {s : Nat} {rs rs' : List (Value × List (List Value))} (h : HeapOk w0 w (.grp t s rs :: H)) (p : rs'.Sublist rs) : HeapOk w0 w (.grp t s rs' :: H) := by
  have h0 := h.ok _ List.mem_cons_self
  have hp := List.pairwise_cons.1 h.ap
  refine ⟨h.below, fun c hc => ?_, List.pairwise_cons.2 ⟨fun d hd k hk => ?_, hp.2⟩⟩
  · rcases List.mem_cons.1 hc with rfl | hc
    · exact ⟨fun r hr => h0.1 r (p.subset hr), h0.2.sublist p⟩
    · exact h.ok c (List.mem_cons_of_mem _ hc)
  · obtain ⟨r, hr, hk⟩ := hk
    exact hp.1 d hd k ⟨r, p.subset hr, hk⟩
/-- A row joins a group. -/
theorem HeapOk.join {w0 w : World} {H : List Ch} {t : TypeId} {s : Nat} {v : Value} {es : List (List Value)} {rs : List (Value × List (List Value))} (h : HeapOk w0 w (.row v t s es :: .grp t s rs :: H)) : HeapOk w0 w (.grp t s ((v, es) :: rs) :: H) := by
  have h1 := h.ok _ List.mem_cons_self
  have h2 := h.ok _ (List.mem_cons_of_mem _ List.mem_cons_self)
  have hp := List.pairwise_cons.1 h.ap
  have hq := List.pairwise_cons.1 hp.2
  refine ⟨h.below, fun c hc => ?_, List.pairwise_cons.2 ⟨fun d hd k hk => ?_, hq.2⟩⟩
  · rcases List.mem_cons.1 hc with rfl | hc
    · refine ⟨fun r hr => ?_, List.pairwise_cons.2 ⟨fun r hr k hk hk' => hp.1 _ List.mem_cons_self k hk ⟨r, hr, hk'⟩, h2.2⟩⟩
      rcases List.mem_cons.1 hr with rfl | hr
      · exact h1
      · exact h2.1 r hr
    · exact h.ok c (List.mem_cons_of_mem _ (List.mem_cons_of_mem _ hc))
  · obtain ⟨r, hr, hk⟩ := hk
    rcases List.mem_cons.1 hr with rfl | hr
    · exact hp.1 d (List.mem_cons_of_mem _ hd) k hk
    · exact hq.1 d hd k ⟨r, hr, hk⟩
/-- A row leaves a group. -/
theorem HeapOk.part {w0 w : World} {H : List Ch} {t : TypeId} {s : Nat} {v : Value} {es : List (List Value)} {rs : List (Value × List (List Value))} (h : HeapOk w0 w (.grp t s ((v, es) :: rs) :: H)) : HeapOk w0 w (.row v t s es :: .grp t s rs :: H) := by
  have h0 := h.ok _ List.mem_cons_self
  have hp := List.pairwise_cons.1 h.ap
  have hq := List.pairwise_cons.1 h0.2
  refine ⟨h.below, fun c hc => ?_, List.pairwise_cons.2 ⟨fun d hd k hk hk' => ?_, List.pairwise_cons.2 ⟨fun d hd k hk => ?_, hp.2⟩⟩⟩
  · rcases List.mem_cons.1 hc with rfl | hc
    · exact h0.1 _ List.mem_cons_self
    · rcases List.mem_cons.1 hc with rfl | hc
      · exact ⟨fun r hr => h0.1 r (List.mem_cons_of_mem _ hr), hq.2⟩
      · exact h.ok c (List.mem_cons_of_mem _ hc)
  · rcases List.mem_cons.1 hd with rfl | hd
    · obtain ⟨r, hr, hk'⟩ := hk'
      exact hq.1 r hr k hk hk'
    · exact hp.1 d hd k ⟨_, List.mem_cons_self, hk⟩ hk'
  · obtain ⟨r, hr, hk⟩ := hk
    exact hp.1 d hd k ⟨r, List.mem_cons_of_mem _ hr, hk⟩
theorem front_permG {α : Type} : ∀ {H : List α} {i : Nat} {c : α}, H[i]? = some c → (c :: H.eraseIdx i).Perm H
  | [], i, c, h => by simp at h
  | x :: r, 0, c, h => by
    simp only [List.getElem?_cons_zero, Option.some.injEq] at h
    subst h; simp
  | x :: r, i + 1, c, h => by
    simp only [List.getElem?_cons_succ] at h
    exact (List.Perm.swap x c _).trans ((front_permG h).cons x)
theorem perm_setG {α : Type} : ∀ {H : List α} {i : Nat} {c c' : α}, H[i]? = some c → (c' :: H.eraseIdx i).Perm (H.set i c')
  | [], i, c, c', h => by simp at h
  | x :: r, 0, c, c', h => by simp
  | x :: r, i + 1, c, c', h => by
    simp only [List.getElem?_cons_succ] at h
    exact (List.Perm.swap x c' _).trans ((perm_setG h).cons x)
theorem HeapOk.focus {w0 w : World} {H : List Ch} {t : TypeId} {s i : Nat} {v : Value} {es : List (List Value)} {rs : List (Value × List (List Value))} (h : HeapOk w0 w (.grp t s rs :: H)) (hi : rs[i]? = some (v, es)) : HeapOk w0 w (.row v t s es :: .grp t s (rs.eraseIdx i) :: H) :=
  (h.grpPerm (front_permG hi).symm).part
theorem HeapOk.unfocus {w0 w : World} {H : List Ch} {t : TypeId} {s i : Nat} {v : Value} {es : List (List Value)} {rs : List (Value × List (List Value))} {r : Value × List (List Value)} (hi : rs[i]? = some r) (h : HeapOk w0 w (.row v t s es :: .grp t s (rs.eraseIdx i) :: H)) : HeapOk w0 w (.grp t s (rs.set i (v, es)) :: H) :=
  h.join.grpPerm (perm_setG hi)
theorem HeapOk.push {w0 w : World} {H : List Ch} {t : TypeId} {s : Nat} {v : Value} {es : List (List Value)} {rs : List (Value × List (List Value))} (h : HeapOk w0 w (.row v t s es :: .grp t s rs :: H)) : HeapOk w0 w (.grp t s (rs ++ [(v, es)]) :: H) :=
  h.join.grpPerm (by simpa using (List.perm_append_comm (l₁ := [(v, es)]) (l₂ := rs)))

/-! ### The judgement -/
def G (n : Nat) (w0 : World) (fr : Fr) (H : List Ch) (K : Act → World → Prop) : Prop := ∀ a w, Rep n a fr → HeapOk w0 w H → K a w

section
variable {P : Program} {n : Nat} {w0 : World} {fr : Fr} {H : List Ch} {Q : Exit → Act → World → Prop}

theorem G.weak {gr : Fr} {K : Act → World → Prop} (hs : Sub gr fr) (h : G n w0 gr H K) : G n w0 fr H K := fun a w hr hh => h a w (hr.sub hs) hh
theorem G.perm {H' : List Ch} {K : Act → World → Prop} (p : H.Perm H') (h : G n w0 fr H' K) : G n w0 fr H K := fun a w hr hh => h a w hr (hh.perm p)
theorem G.drop (m : Nat) {H' : List Ch} {K : Act → World → Prop} (e : H.drop m = H') (h : G n w0 fr H' K) : G n w0 fr H K := fun a w hr hh => h a w hr (e ▸ hh.drop m)
theorem G.heap {H' : List Ch} {K : Act → World → Prop} (hH : ∀ w, HeapOk w0 w H → HeapOk w0 w H') (h : G n w0 fr H' K) : G n w0 fr H K := fun a w hr hh => h a w hr (hH w hh)
theorem G.toK {K K' : Act → World → Prop} (h : G n w0 fr H K) (hk : ∀ a w, K a w → K' a w) : G n w0 fr H K' := fun a w hr hh => hk a w (h a w hr hh)

/-- Facts that follow of the heap alone. -/
theorem G.know {p : Prop} {K : Act → World → Prop} (hp : ∀ w, HeapOk w0 w H → p) (h : p → G n w0 fr H K) : G n w0 fr H K := fun a w hr hh => h (hp w hh) a w hr hh

/-- The call's beginning. -/
theorem calls_of_G {f : FuncId} {fn : Func} {c : Code} {args : List Value} {w : World} {R : Ending → World → Prop} {H : List Ch} {n : Nat} {fr : Fr}
    (hf : P.funcs[f]? = some fn) (hb : fn.body = some c) (hn : n = args.length + (fn.ntmps - args.length)) (hh : HeapOk w0 w H)
    (hfr : ∀ t v, fget fr t = some v → args[t]? = some v) (h : G n w0 fr H (c.wp P (bodyPost P fn R))) : Calls P f args.toArray w R := by
  refine calls_of_wp hf hb (h _ _ ⟨?_, rfl, ?_, ?_⟩ hh)
  · simp [hn]
  · intro t v hv
    have := hfr t v hv
    have hlt : t < args.length := by
      rcases Nat.lt_or_ge t args.length with h | h
      · exact h
      · rw [List.getElem?_eq_none h] at this; cases this
    rw [Array.getD_eq_getD_getElem?, Array.getElem?_append_left (by simpa using hlt)]
    simp [this]
  · intro t v hv
    have := hfr t v hv
    have hlt : t < args.length := by
      rcases Nat.lt_or_ge t args.length with h | h
      · exact h
      · rw [List.getElem?_eq_none h] at this; cases this
    omega

/-! ### Code -/
theorem G.seq {x y : Code} (h : G n w0 fr H (x.wp P (Exit.then (y.wp P Q) Q))) : G n w0 fr H ((Code.seq x y).wp P Q) := h.toK fun _ _ => wp_seq
theorem G.skip (h : G n w0 fr H (Q .normal)) : G n w0 fr H (Code.skip.wp P Q) := h.toK fun _ _ => wp_skip
theorem G.ret (h : G n w0 fr H (Q .ret)) : G n w0 fr H (Code.ret.wp P Q) := h.toK fun _ _ => wp_ret
theorem G.exit {id : Nat} (h : G n w0 fr H (Q (.exit id))) : G n w0 fr H ((Code.exit id).wp P Q) := h.toK fun _ _ => wp_exit
theorem G.block {id : Nat} {c : Code} (h : G n w0 fr H (c.wp P (Exit.inBlock id Q))) : G n w0 fr H ((Code.block id c).wp P Q) := h.toK fun _ _ => wp_block
theorem G.cond {c : Operand} {x y : Code} {t : Bool} (hc : opv fr c = some (.bool t)) (ht : t = true → G n w0 fr H (x.wp P Q)) (hf : t = false → G n w0 fr H (y.wp P Q)) : G n w0 fr H ((Code.cond c x y).wp P Q) :=
  fun a w hr hh => wp_cond_split (hr.opv hc) (fun h => ht h a w hr hh) (fun h => hf h a w hr hh)
theorem G.bd {c : Operand} {x y : Code} {p : Prop} [Decidable p] (hc : opv fr c = some (.bool (decide p))) (ht : p → G n w0 fr H (x.wp P Q)) (hf : ¬ p → G n w0 fr H (y.wp P Q)) : G n w0 fr H ((Code.cond c x y).wp P Q) :=
  G.cond hc (fun h => ht (of_decide_eq_true h)) (fun h => hf (of_decide_eq_false h))
theorem G.region {id : Nat} {l : List Oper} (h : G n w0 fr H (wpList P l.toArray Q l)) : G n w0 fr H ((Code.region id l.toArray false).wp P Q) := h.toK fun _ _ => wp_region_lit
theorem G.I {ops : Array Oper} (h : G n w0 fr H (Q .normal)) : G n w0 fr H (wpList P ops Q []) := h
/-- Exits. -/
theorem G.E {N : Act → World → Prop} (h : G n w0 fr H N) : G n w0 fr H (Exit.then N Q .normal) := h
theorem G.O {N : Act → World → Prop} (h : G n w0 fr H (Q .ret)) : G n w0 fr H (Exit.then N Q .ret) := h
theorem G.L {N : Act → World → Prop} {id : Nat} (h : G n w0 fr H (Q (.exit id))) : G n w0 fr H (Exit.then N Q (.exit id)) := h
theorem G.bc {id : Nat} (h : G n w0 fr H (Q .normal)) : G n w0 fr H (Exit.inBlock id Q .normal) := h
theorem G.bq {id : Nat} (h : G n w0 fr H (Q .ret)) : G n w0 fr H (Exit.inBlock id Q .ret) := h
theorem G.bn {id : Nat} (h : G n w0 fr H (Q .normal)) : G n w0 fr H (Exit.inBlock id Q (.exit id)) := by
  intro a w hr hh; simp only [Exit.inBlock, if_true]; exact h a w hr hh
/-- A loop: 'ι' is the round's state. -/
theorem G.loop {ι : Type} {c : Code} (frI : ι → Fr) (HI : ι → List Ch) (pI : ι → Prop) (μ : ι → Nat) (i0 : ι) (hp : pI i0) (hs : Sub (frI i0) fr) (m : Nat) (hH : H.drop m = HI i0)
    (round : ∀ i, pI i → G n w0 (frI i) (HI i) (c.wp P (Exit.then (fun a' w' => ∃ i', pI i' ∧ μ i' < μ i ∧ Rep n a' (frI i') ∧ HeapOk w0 w' (HI i')) Q))) :
    G n w0 fr H ((Code.loop c).wp P Q) := by
  intro a w hr hh
  refine wp_loop_ghost (fun k a w => ∃ i, pI i ∧ μ i = k ∧ Rep n a (frI i) ∧ HeapOk w0 w (HI i)) (μ i0) ⟨i0, hp, rfl, hr.sub hs, hH ▸ hh.drop m⟩ ?_
  rintro k a w ⟨i, hpi, rfl, hri, hhi⟩
  refine wp_mono (round i hpi a w hri hhi) fun e a' w' hq => ?_
  cases e with
  | normal =>
    obtain ⟨i', h1, h2, h3, h4⟩ := hq
    exact ⟨μ i', h2, i', h1, rfl, h3, h4⟩
  | exit id => exact hq
  | goto l => exact hq
  | ret => exact hq
  | panic ch => exact hq
  | outgrown => exact hq

/-! ### The end of a body -/
theorem G.retV {fn : Func} {R : Ending → World → Prop} {t : Nat} {v : Value} (hres : fn.results = #[.tmp t]) (hv : fget fr t = some v) (h : ∀ w, HeapOk w0 w H → R (.returned v) w) : G n w0 fr H (bodyPost P fn R .ret) :=
  fun a w hr hh => ⟨hr.defs, v, by rw [← hr.val t v hv]; exact results_tmp hres _ _ _, h w hh⟩
theorem G.endV0 {fn : Func} {R : Ending → World → Prop} (hres : fn.results = #[]) (h : ∀ w, HeapOk w0 w H → R (.returned (.tuple #[])) w) : G n w0 fr H (bodyPost P fn R .normal) :=
  fun a w hr hh => ⟨hr.defs, _, results_none hres _ _ _, h w hh⟩
theorem G.retV0 {fn : Func} {R : Ending → World → Prop} (hres : fn.results = #[]) (h : ∀ w, HeapOk w0 w H → R (.returned (.tuple #[])) w) : G n w0 fr H (bodyPost P fn R .ret) :=
  fun a w hr hh => ⟨hr.defs, _, results_none hres _ _ _, h w hh⟩

/-! ### One operation -/
def okUpon (P : Program) (K : Value → World → Prop) : Result Next → Prop
  | .ok (.value v) w' => K v w'
  | .ok .skip w' => K undef w'
  | .ok (.enter f args) w' => Calls P f args w' fun e w'' => ∃ v, e = .returned v ∧ K v w''
  | _ => False
def okAt (P : Program) (o : Oper) (a : Act) (w : World) (K : Value → World → Prop) : Prop := okUpon P K ((execOp a.eval o).run P w)

theorem wp_of_okAt {o : Oper} {a : Act} {w : World} {K : Act → World → Prop} (h : okAt P o a w fun v w' => K (a.put o.dst v) w') : o.wp P a w K Q := by
  unfold okAt at h
  unfold Oper.wp
  generalize (execOp a.eval o).run P w = r at *
  cases r with
  | ok x w' =>
    cases x <;> simp only [okUpon] at h <;> simp only [Oper.upon]
    case value v => exact h
    case skip => exact h
    case enter f args => exact h.mono fun e w'' ⟨v, he, hv⟩ => by subst he; exact hv
  | halt x w' => simp only [okUpon] at h

/-- What an operation does: its value and its chunks hang on some x of which φ holds. -/
def OpG (P : Program) (n : Nat) (w0 : World) (fr : Fr) (H : List Ch) (o : Op) {X : Type} (φ : X → Prop) (val : X → Value) (H' : X → List Ch) : Prop :=
  ∀ a w, Rep n a fr → HeapOk w0 w H → ∀ (d : Option Tmp) (T : TypeId) (pos : String) (af : Array Edge) (gd : Option (Nat × Bool)) (K : Value → World → Prop),
    (∀ x w', φ x → HeapOk w0 w' (H' x) → K (val x) w') → okAt P ⟨d, o, T, pos, af, gd⟩ a w K

theorem G.op {ops : Array Oper} {d : Nat} {o : Op} {T : TypeId} {pos : String} {af : Array Edge} {rest : List Oper} {X : Type} {φ : X → Prop} {val : X → Value} {H' : X → List Ch} (ho : OpG P n w0 fr H o φ val H') (hd : Nat.ble (d + 1) n = true)
    (h : ∀ x, φ x → G n w0 ((d, val x) :: fr) (H' x) (wpList P ops Q rest)) : G n w0 fr H (wpList P ops Q (⟨some d, o, T, pos, af, none⟩ :: rest)) :=
  fun a w hr hh => wpList_plain rfl fun K hK => wp_of_okAt (ho a w hr hh _ _ _ _ _ _ fun x w' hx hw => hK _ _ (h x hx _ _ (hr.put (Nat.le_of_ble_eq_true hd) _) hw))
theorem G.bk {ops : Array Oper} {o : Op} {T : TypeId} {pos : String} {af : Array Edge} {rest : List Oper} {X : Type} {φ : X → Prop} {val : X → Value} {H' : X → List Ch} (ho : OpG P n w0 fr H o φ val H')
    (h : ∀ x, φ x → G n w0 fr (H' x) (wpList P ops Q rest)) : G n w0 fr H (wpList P ops Q (⟨none, o, T, pos, af, none⟩ :: rest)) :=
  fun a w hr hh => wpList_plain rfl fun K hK => wp_of_okAt (ho a w hr hh _ _ _ _ _ _ fun x w' hx hw => hK _ _ (h x hx _ _ (hr.put_none _) hw))
def Triv {X : Type} (_ : X) : Prop := True

/-! ### One operation that leaves the world alone -/
/-- The operation's run gives v, and leaves the world as it is. -/
def RunsV (P : Program) (n : Nat) (w0 : World) (fr : Fr) (H : List Ch) (o : Op) (v : Value) : Prop :=
  ∀ a w, Rep n a fr → HeapOk w0 w H → ∀ (d : Option Tmp) (T : TypeId) (pos : String) (af : Array Edge) (gd : Option (Nat × Bool)), (execOp a.eval ⟨d, o, T, pos, af, gd⟩).run P w = .ok (.value v) w

theorem Oper.wp_value {o : Oper} {a : Act} {w : World} {v : Value} {K : Act → World → Prop} (h : (execOp a.eval o).run P w = .ok (.value v) w) (hk : K (a.put o.dst v) w) : o.wp P a w K Q := by
  unfold Oper.wp; rw [h]; exact hk

theorem G.v {ops : Array Oper} {d : Nat} {o : Op} {T : TypeId} {pos : String} {af : Array Edge} {rest : List Oper} {v : Value} (hv : RunsV P n w0 fr H o v) (hd : Nat.ble (d + 1) n = true)
    (h : G n w0 ((d, v) :: fr) H (wpList P ops Q rest)) : G n w0 fr H (wpList P ops Q (⟨some d, o, T, pos, af, none⟩ :: rest)) :=
  fun a w hr hh => wpList_plain rfl fun K hK => Oper.wp_value (hv a w hr hh _ _ _ _ _) (hK _ _ (h _ _ (hr.put (Nat.le_of_ble_eq_true hd) v) hh))

/-- An operation with a guard that is met. -/
theorem yields {ops : Array Oper} {a : Act} {j t : Nat} {b : Bool} (hr : Rep n a fr) (hj : (ops[j]?).bind (·.dst) = some t) (ht : fget fr t = some (.bool b)) : yielded ops a.tmps j = some b := by
  have h1 := hr.val t _ ht
  have h2 := hr.lt t _ ht
  unfold yielded
  rw [hj]
  have : a.tmps[t]? = some (.bool b) := by
    rw [Array.getD_eq_getD_getElem?, Array.getElem?_eq_getElem (by rw [hr.size]; exact h2)] at h1
    rw [Array.getElem?_eq_getElem (by rw [hr.size]; exact h2)]
    simpa using h1
  simp [this]

theorem yieldsU {ops : Array Oper} {a : Act} {j t : Nat} {vs : Array Value} (hr : Rep n a fr) (hj : (ops[j]?).bind (·.dst) = some t) (ht : fget fr t = some (.tuple vs)) : yielded ops a.tmps j = none := by
  have h1 := hr.val t _ ht
  have h2 := hr.lt t _ ht
  unfold yielded
  rw [hj]
  have : a.tmps[t]? = some (.tuple vs) := by
    rw [Array.getD_eq_getD_getElem?, Array.getElem?_eq_getElem (by rw [hr.size]; exact h2)] at h1
    rw [Array.getElem?_eq_getElem (by rw [hr.size]; exact h2)]
    simpa using h1
  simp [this]

theorem G.gY {ops : Array Oper} {d : Option Tmp} {o : Op} {T : TypeId} {pos : String} {af : Array Edge} {rest : List Oper} {j t : Nat} {b : Bool} (hj : (ops[j]?).bind (·.dst) = some t) (ht : fget fr t = some (.bool b))
    (h : G n w0 fr H (wpList P ops Q (⟨d, o, T, pos, af, none⟩ :: rest))) : G n w0 fr H (wpList P ops Q (⟨d, o, T, pos, af, some (j, b)⟩ :: rest)) := by
  intro a w hr hh
  have := h a w hr hh
  have hw : Region.wanted ⟨d, o, T, pos, af, some (j, b)⟩ (yielded ops a.tmps) = true := by simp [Region.wanted, yields hr hj ht]
  unfold wpList at this ⊢
  rw [if_pos hw]
  rw [if_pos (by simp [Region.wanted])] at this
  exact this

theorem G.gN {ops : Array Oper} {d : Nat} {o : Op} {T : TypeId} {pos : String} {af : Array Edge} {rest : List Oper} {j t : Nat} {b : Bool} (hj : (ops[j]?).bind (·.dst) = some t) (ht : fget fr t = some (.bool !b)) (hd : Nat.ble (d + 1) n = true)
    (h : G n w0 ((d, undef) :: fr) H (wpList P ops Q rest)) : G n w0 fr H (wpList P ops Q (⟨some d, o, T, pos, af, some (j, b)⟩ :: rest)) := by
  intro a w hr hh
  have hw : Region.wanted ⟨some d, o, T, pos, af, some (j, b)⟩ (yielded ops a.tmps) = false := by
    simp [Region.wanted, yields hr hj ht]
  unfold wpList
  rw [if_neg (by rw [hw]; simp)]
  exact h _ _ (hr.put (Nat.le_of_ble_eq_true hd) undef) hh

/-- The test was not asked for itself. -/
theorem G.gU {ops : Array Oper} {d : Nat} {o : Op} {T : TypeId} {pos : String} {af : Array Edge} {rest : List Oper} {j t : Nat} {b : Bool} (hj : (ops[j]?).bind (·.dst) = some t) (ht : fget fr t = some undef) (hd : Nat.ble (d + 1) n = true)
    (h : G n w0 ((d, undef) :: fr) H (wpList P ops Q rest)) : G n w0 fr H (wpList P ops Q (⟨some d, o, T, pos, af, some (j, b)⟩ :: rest)) := by
  intro a w hr hh
  have hw : Region.wanted ⟨some d, o, T, pos, af, some (j, b)⟩ (yielded ops a.tmps) = false := by
    simp [Region.wanted, yieldsU hr hj ht]
  unfold wpList
  rw [if_neg (by rw [hw]; simp)]
  exact h _ _ (hr.put (Nat.le_of_ble_eq_true hd) undef) hh

/-- A test that is not known yet is parted. -/
theorem Rep.know {a : Act} {t : Nat} {u v : Value} (hr : Rep n a fr) (ht : fget fr t = some u) (e : u = v) : Rep n a ((t, v) :: fr) := by
  subst e
  refine ⟨hr.size, hr.defs, fun s x hx => ?_, fun s x hx => ?_⟩
  · rw [dB] at hx
    split at hx
    · rename_i h; subst h; exact (Option.some.inj hx) ▸ hr.val _ _ ht
    · exact hr.val _ _ hx
  · rw [dB] at hx
    split at hx
    · rename_i h; subst h; exact hr.lt _ _ ht
    · exact hr.lt _ _ hx

theorem G.part {t : Nat} {b : Bool} {K : Act → World → Prop} (ht : fget fr t = some (.bool b)) (h1 : b = true → G n w0 ((t, .bool true) :: fr) H K) (h2 : b = false → G n w0 ((t, .bool false) :: fr) H K) : G n w0 fr H K := by
  intro a w hr hh
  cases hb : b with
  | true => exact h1 hb a w (hr.know ht (by rw [hb])) hh
  | false => exact h2 hb a w (hr.know ht (by rw [hb])) hh

/-- The test of a guarded operation. -/
theorem G.gP {ops : Array Oper} {d : Option Tmp} {o : Op} {T : TypeId} {pos : String} {af : Array Edge} {rest : List Oper} {j t : Nat} {g b : Bool} (hj : (ops[j]?).bind (·.dst) = some t) (ht : fget fr t = some (.bool b))
    (h1 : b = true → G n w0 ((t, .bool true) :: fr) H (wpList P ops Q (⟨d, o, T, pos, af, some (j, g)⟩ :: rest))) (h2 : b = false → G n w0 ((t, .bool false) :: fr) H (wpList P ops Q (⟨d, o, T, pos, af, some (j, g)⟩ :: rest))) :
    G n w0 fr H (wpList P ops Q (⟨d, o, T, pos, af, some (j, g)⟩ :: rest)) := G.part ht h1 h2

/-! ### The plain operations -/
theorem ba {x : Operand} {v : Value} (hx : opv fr x = some v) : RunsV P n w0 fr H (.move x) v := fun a w hr _ _ _ _ _ _ => by
  simp [execOp, hr.opv hx]
theorem bb {x : Operand} {v : Value} (hx : opv fr x = some v) : RunsV P n w0 fr H (.assign x) v := fun a w hr _ _ _ _ _ _ => by
  simp [execOp, hr.opv hx]
theorem bk {c x y : Operand} {u : Value} (hc : opv fr c = some (.bool true)) (hx : opv fr x = some u) : RunsV P n w0 fr H (.pick c x y) u := fun a w hr _ _ _ _ _ _ => by
  simp [execOp, hr.opv hc, hr.opv hx, asBool]
theorem bm {c x y : Operand} {u : Value} (hc : opv fr c = some (.bool false)) (hy : opv fr y = some u) : RunsV P n w0 fr H (.pick c x y) u := fun a w hr _ _ _ _ _ _ => by
  simp [execOp, hr.opv hc, hr.opv hy, asBool]
theorem bF {x : Operand} {b : Bool} {t : TypeId} (hx : opv fr x = some (.bool b)) : RunsV P n w0 fr H (.unOp .not t x) (.bool !b) := fun a w hr _ _ _ _ _ _ => by
  simp [execOp, hr.opv hx, Op.unary]
theorem bC {x : Operand} {vs : List Value} {i : Nat} {v : Value} (hx : opv fr x = some (.tuple vs.toArray)) (hi : vs[i]? = some v) : RunsV P n w0 fr H (.extract x i) v := fun a w hr _ _ _ _ _ _ => by
  simp [execOp, hr.opv hx, Instr.extract, hi]
theorem rv_nilCheck {x : Operand} {p : Addr} (hx : opv fr x = some (.pointer (some p))) : RunsV P n w0 fr H (.nilCheck x) (.pointer (some p)) := fun a w hr _ _ _ _ _ _ => by
  simp [execOp, hr.opv hx]
theorem bY {fn : Fn} {fs cs : List Operand} {us vs : List Value} (hf : opvs fr fs = some us) (hc : opvs fr cs = some vs) : RunsV P n w0 fr H (.makeFunc fn fs.toArray cs.toArray) (.func fn us.toArray vs.toArray) := fun a w hr _ _ _ _ _ _ => by
  simp [execOp, Instr.makeFunc, hr.opvs hf, hr.opvs hc]

section ints
variable {x y : Operand} {k : IntKind} {p q : Int} {t t' : TypeId}
theorem df (hx : opv fr x = some (.int k p)) (hy : opv fr y = some (.int k q)) : RunsV P n w0 fr H (.binOp .add t x y t') (.int k (k.wrap (p + q))) := fun a w hr _ _ _ _ _ _ => by
  simp [execOp, hr.opv hx, hr.opv hy, eqGuard_add, binOp_add, Op.intArith]
theorem rv_sub (hx : opv fr x = some (.int k p)) (hy : opv fr y = some (.int k q)) : RunsV P n w0 fr H (.binOp .sub t x y t') (.int k (k.wrap (p - q))) := fun a w hr _ _ _ _ _ _ => by
  simp [execOp, hr.opv hx, hr.opv hy, eqGuard_sub, binOp_sub, Op.intArith]
theorem dy (hx : opv fr x = some (.int k p)) (hy : opv fr y = some (.int k q)) : RunsV P n w0 fr H (.binOp .mul t x y t') (.int k (k.wrap (p * q))) := fun a w hr _ _ _ _ _ _ => by
  simp [execOp, hr.opv hx, hr.opv hy, eqGuard_mul, binOp_mul, Op.intArith]
theorem cN {m : Int} (h1 : -9223372036854775808 ≤ m) (h2 : m ≤ 9223372036854775807) : IntKind.i64.wrap m = m := IntWalk.i64_in m (by omega)
theorem bD (hx : opv fr x = some (.int .i64 p)) (hy : opv fr y = some (.int .i64 q)) (h1 : -9223372036854775808 ≤ p + q) (h2 : p + q ≤ 9223372036854775807) : RunsV P n w0 fr H (.binOp .add t x y t') (.int .i64 (p + q)) := by
  have := df (P := P) (n := n) (w0 := w0) (H := H) (t := t) (t' := t') hx hy
  rwa [cN h1 h2] at this
theorem b8 (hx : opv fr x = some (.int .i64 p)) (hy : opv fr y = some (.int .i64 q)) (h1 : -9223372036854775808 ≤ p - q) (h2 : p - q ≤ 9223372036854775807) : RunsV P n w0 fr H (.binOp .sub t x y t') (.int .i64 (p - q)) := by
  have := rv_sub (P := P) (n := n) (w0 := w0) (H := H) (t := t) (t' := t') hx hy
  rwa [cN h1 h2] at this
theorem rv_mulB (hx : opv fr x = some (.int .i64 p)) (hy : opv fr y = some (.int .i64 q)) (h1 : -9223372036854775808 ≤ p * q) (h2 : p * q ≤ 9223372036854775807) : RunsV P n w0 fr H (.binOp .mul t x y t') (.int .i64 (p * q)) := by
  have := dy (P := P) (n := n) (w0 := w0) (H := H) (t := t) (t' := t') hx hy
  rwa [cN h1 h2] at this
/-- A counter. -/
theorem bp {m : Nat} (hx : opv fr x = some (.int .i64 (m : Int))) (hy : opv fr y = some (.int .i64 1)) (h : m < 9223372036854775807) : RunsV P n w0 fr H (.binOp .add t x y t') (.int .i64 ((m + 1 : Nat) : Int)) := by
  have := bD (P := P) (n := n) (w0 := w0) (H := H) (t := t) (t' := t') hx hy (by omega) (by omega)
  simpa using this
theorem cq {m : Nat} (hx : opv fr x = some (.int .i64 (m : Int))) (hy : opv fr y = some (.int .i64 1)) (h0 : 0 < m) (h : m ≤ 9223372036854775807) : RunsV P n w0 fr H (.binOp .sub t x y t') (.int .i64 ((m - 1 : Nat) : Int)) := by
  have := b8 (P := P) (n := n) (w0 := w0) (H := H) (t := t) (t' := t') hx hy (by omega) (by omega)
  rwa [show (m : Int) - 1 = ((m - 1 : Nat) : Int) from by omega] at this
theorem br (hx : opv fr x = some (.int k p)) (hy : opv fr y = some (.int k q)) : RunsV P n w0 fr H (.binOp .lss t x y t') (.bool (decide (p < q))) := fun a w hr _ _ _ _ _ _ => by
  simp [execOp, hr.opv hx, hr.opv hy, eqGuard_lss, binOp_lss]
theorem ci (hx : opv fr x = some (.int k p)) (hy : opv fr y = some (.int k q)) : RunsV P n w0 fr H (.binOp .leq t x y t') (.bool (decide (p ≤ q))) := fun a w hr _ _ _ _ _ _ => by
  simp [execOp, hr.opv hx, hr.opv hy, eqGuard_leq, binOp_leq]
theorem b6 (hx : opv fr x = some (.int k p)) (hy : opv fr y = some (.int k q)) : RunsV P n w0 fr H (.binOp .gtr t x y t') (.bool (decide (p > q))) := fun a w hr _ _ _ _ _ _ => by
  simp [execOp, hr.opv hx, hr.opv hy, eqGuard_gtr, binOp_gtr]
theorem cu (hx : opv fr x = some (.int k p)) (hy : opv fr y = some (.int k q)) : RunsV P n w0 fr H (.binOp .geq t x y t') (.bool (decide (p ≥ q))) := fun a w hr _ _ _ _ _ _ => by
  simp [execOp, hr.opv hx, hr.opv hy, eqGuard_geq, binOp_geq]
theorem bQ (hx : opv fr x = some (.int k p)) (hy : opv fr y = some (.int k q)) : RunsV P n w0 fr H (.binOp .eql t x y t') (.bool (decide (p = q))) := fun a w hr _ _ _ _ _ _ => by
  simp [execOp, hr.opv hx, hr.opv hy, eqGuard_at_int, binOp_eql]; rfl
theorem dk (hx : opv fr x = some (.int k p)) (hy : opv fr y = some (.int k q)) : RunsV P n w0 fr H (.binOp .neq t x y t') (.bool (decide (¬ p = q))) := fun a w hr _ _ _ _ _ _ => by
  simp [execOp, hr.opv hx, hr.opv hy, eqGuard_at_int, binOp_neq, bne]; rfl
theorem rv_quo (hx : opv fr x = some (.int k p)) (hy : opv fr y = some (.int k q)) (h0 : q ≠ 0) : RunsV P n w0 fr H (.binOp .quo t x y t') (.int k (k.wrap (p.tdiv q))) := fun a w hr _ _ _ _ _ _ => by
  simp [execOp, hr.opv hx, hr.opv hy, eqGuard_quo, binOp_quo, Op.intDiv, h0]
theorem rv_rem (hx : opv fr x = some (.int k p)) (hy : opv fr y = some (.int k q)) (h0 : q ≠ 0) : RunsV P n w0 fr H (.binOp .rem t x y t') (.int k (p.tmod q)) := fun a w hr _ _ _ _ _ _ => by
  simp [execOp, hr.opv hx, hr.opv hy, eqGuard_rem, binOp_rem, Op.intDiv, h0]
end ints

/-! ### Pruning a frame; loops -/
/-- The slots 'ks' of a frame, written out. -/
inductive Keep (fr : Fr) : List Nat → Fr → Prop where
  | nil : Keep fr [] []
  | cons {k : Nat} {v : Value} {ks : List Nat} {r : Fr} (h : fget fr k = some v) (hs : Keep fr ks r) : Keep fr (k :: ks) ((k, v) :: r)
theorem Keep.sub {ks : List Nat} {gr : Fr} (h : Keep fr ks gr) : Sub gr fr := by
  induction h with
  | nil => trivial
  | cons h hs ih => exact ⟨h, ih⟩
theorem G.keep {ks : List Nat} {gr : Fr} {K : Act → World → Prop} (hk : Keep fr ks gr) (h : G n w0 gr H K) : G n w0 fr H K := h.weak hk.sub

theorem Sub.append : ∀ {a b : Fr}, Sub a fr → Sub b fr → Sub (a ++ b) fr
  | [], _, _, hb => hb
  | (_, _) :: _, _, ha, hb => ⟨ha.1, Sub.append ha.2 hb⟩

/-- A loop: 'ch': the slots that a round turns; 'ks': those that stay; 'hs': the chunks that a round turns. -/
theorem G.Y {ι : Type} {c : Code} (ch : ι → Fr) (hs : ι → List Ch) (pI : ι → Prop) (μ : ι → Nat) (i0 : ι) {ks : List Nat} {gr : Fr} {H0 : List Ch} (hk : Keep fr ks gr) (hH : H = hs i0 ++ H0) (hp : pI i0) (hc : Sub (ch i0) fr)
    (round : ∀ i, pI i → G n w0 (ch i ++ gr) (hs i ++ H0) (c.wp P (Exit.then (fun a' w' => ∃ i', pI i' ∧ μ i' < μ i ∧ Rep n a' (ch i' ++ gr) ∧ HeapOk w0 w' (hs i' ++ H0)) Q))) :
    G n w0 fr H ((Code.loop c).wp P Q) :=
  G.loop (fun i => ch i ++ gr) (fun i => hs i ++ H0) pI μ i0 hp (Sub.append hc hk.sub) 0 hH round

theorem G.V {ι : Type} {ch : ι → Fr} {hs : ι → List Ch} {pI : ι → Prop} {μ : ι → Nat} {M : Nat} {ks : List Nat} {gr : Fr} {H0 : List Ch} (i' : ι) (m : Nat) (hH : H.drop m = hs i' ++ H0) (hk : Keep fr ks gr) (hc : Sub (ch i') fr) (hp : pI i') (hμ : μ i' < M) :
    G n w0 fr H (Exit.then (fun a' w' => ∃ i', pI i' ∧ μ i' < M ∧ Rep n a' (ch i' ++ gr) ∧ HeapOk w0 w' (hs i' ++ H0)) Q .normal) :=
  fun _ _ hr hh => ⟨i', hp, hμ, hr.sub (Sub.append hc hk.sub), hH ▸ hh.drop m⟩

end

/-! ### What is known of the types -/
def aggB : TypeDesc → Bool
  | .struct _ | .array _ _ => true
  | _ => false
class TyInfo (P : Program) (t : TypeId) (s : outParam Nat) (zs : outParam (List Value)) (bs : outParam Nat) : Prop where
  h : (P.info? t).map (fun i => (i.zero.map (·.cells.toList), i.size, i.bytes)) = some (some zs, s, bs)
class TyOne (P : Program) (t : TypeId) : Prop where
  h : (P.underlying t).map aggB = some false
class TyInt (P : Program) (t : TypeId) (k : outParam IntKind) : Prop where
  h : P.underlying t = some (.int k)
  g : P.intKind t = k
class TyAgg (P : Program) (t : TypeId) : Prop where
  h : (P.underlying t).map aggB = some true
class TySlice (P : Program) (t : TypeId) (e : outParam TypeId) : Prop where
  h : P.underlying t = some (.slice e)
def fldOff (P : Program) (t : TypeId) (f : Nat) : Option Nat :=
  match P.underlying t with
  | some (.struct fs) => match fs[f]? with
    | some fd => match P.info? fd.type with
      | some i => if i.size = 0 then none else some fd.offset
      | none => none
    | none => none
  | _ => none
class TyFld (P : Program) (t : TypeId) (f : Nat) (off : outParam Nat) : Prop where
  h : fldOff P t f = some off

class TyBool (P : Program) (t : TypeId) : Prop where
  h : P.underlying t = some .bool

theorem TyInfo.get {P : Program} {t : TypeId} {s bs : Nat} {zs : List Value} (h : TyInfo P t s zs bs) : ∃ i z, P.info? t = some i ∧ i.size = s ∧ i.bytes = bs ∧ i.zero = some z ∧ z.cells = zs.toArray := by
  have := h.h
  cases hi : P.info? t with
  | none => simp [hi] at this
  | some i =>
    simp only [hi, Option.map_some, Option.some.injEq, Prod.mk.injEq] at this
    obtain ⟨h1, h2, h3⟩ := this
    cases hz : i.zero with
    | none => simp [hz] at h1
    | some z =>
      simp only [hz, Option.map_some, Option.some.injEq] at h1
      exact ⟨i, z, rfl, h2, h3, hz, by rw [← h1]⟩

section
variable {P : Program} {n : Nat} {w0 : World} {fr : Fr} {H : List Ch} {Q : Exit → Act → World → Prop}

theorem run_isAgg_one {t : TypeId} (h : (P.underlying t).map aggB = some false) (w : World) : (isAgg t).run P w = .ok false w := by
  cases hu : P.underlying t with
  | none => simp [hu] at h
  | some d =>
    simp only [hu, Option.map_some, Option.some.injEq] at h
    simp only [isAgg, Sem.run_bind, run_underlying hu, Result.andThen_ok]
    cases d <;> first | rfl | (simp [aggB] at h)
theorem run_isAgg_agg {t : TypeId} (h : (P.underlying t).map aggB = some true) (w : World) : (isAgg t).run P w = .ok true w := by
  cases hu : P.underlying t with
  | none => simp [hu] at h
  | some d =>
    simp only [hu, Option.map_some, Option.some.injEq] at h
    simp only [isAgg, Sem.run_bind, run_underlying hu, Result.andThen_ok]
    cases d <;> first | rfl | (simp [aggB] at h)

theorem run_loadOne {t : TypeId} (h : TyOne P t) {w : World} {p : Addr} {v : Value} (hc : w.cell? p = some v) : (Instr.loadAt t (.pointer (some p))).run P w = .ok v w := by
  simp [Instr.loadAt, Instr.sureAddr, loadVar, run_isAgg_one h.h, hc]
theorem run_loadAgg {t : TypeId} {s bs : Nat} {zs : List Value} (h : TyAgg P t) (hi : TyInfo P t s zs bs) {w : World} {b o : Nat} {us : List Value} (hl : us.length = s) (hc : ∀ j u, us[j]? = some u → w.cell? ⟨b, o + j, none⟩ = some u) :
    (Instr.loadAt t (.pointer (some ⟨b, o, none⟩))).run P w = .ok (.agg us.toArray) w := by
  obtain ⟨i, z, h1, h2, h3, h4, h5⟩ := hi.get
  have hL := run_loadCells_list (P := P) w ⟨b, o, none⟩ us (fun j v hj => by rw [Addr.add_lit]; exact hc j v hj)
  subst hl
  simp [Instr.loadAt, Instr.sureAddr, loadVar, run_isAgg_agg h.h, sizeOf, typeInfo, h1, h2, hL]

theorem HeapOk.blk {w w0 : World} {H : List Ch} {b : Nat} {t : TypeId} {cs : List Value} (h : HeapOk w0 w H) (hm : Ch.blk b t cs ∈ H) (o : Nat) : w.cell? ⟨b, o, none⟩ = cs[o]? := by
  have := (h.ok _ hm).2
  simp [World.cell?, this]

/-- A cell of a block that is known. -/
theorem bf {x : Operand} {t : TypeId} [hT : TyOne P t] {b o : Nat} {v : Value} (i : Nat) {t' : TypeId} {cs : List Value} (hx : opv fr x = some (pB b o)) (hi : H[i]? = some (.blk b t' cs)) (hv : cs[o]? = some v) :
    RunsV P n w0 fr H (.load t x) v := fun a w hr hh _ _ _ _ _ => by
  have hc := hh.blk (List.mem_of_getElem? hi) o
  simp only [execOp, hr.opv hx, pB, Sem.run_bind, run_loadOne hT (hc.trans hv), Result.andThen_ok, Sem.run_pure]
/-- A struct within a block that is known. -/
theorem rv_loadS {x : Operand} {t : TypeId} {s bs : Nat} {zs : List Value} [hT : TyAgg P t] [hI : TyInfo P t s zs bs] {b o : Nat} (i : Nat) {t' : TypeId} {cs us : List Value} (hx : opv fr x = some (pB b o)) (hi : H[i]? = some (.blk b t' cs))
    (hu : (cs.drop o).take s = us) (hl : Nat.beq us.length s = true) : RunsV P n w0 fr H (.load t x) (.agg us.toArray) := fun a w hr hh _ _ _ _ _ => by
  have hl' := Nat.eq_of_beq_eq_true hl
  have := run_loadAgg hT hI (w := w) (b := b) (o := o) hl' (fun j u hj => by
    rw [hh.blk (List.mem_of_getElem? hi)]
    rw [← hu, List.getElem?_take] at hj
    split at hj
    · rw [List.getElem?_drop] at hj; exact hj
    · cases hj)
  simp only [execOp, hr.opv hx, pB, Sem.run_bind, this, Result.andThen_ok, Sem.run_pure]

/-- A whole block that is one struct. -/
theorem bj {x : Operand} {t : TypeId} {s bs : Nat} {zs : List Value} [hT : TyAgg P t] [hI : TyInfo P t s zs bs] {b : Nat} (i : Nat) {t' : TypeId} {cs : List Value} (hx : opv fr x = some (pB b 0)) (hi : H[i]? = some (.blk b t' cs))
    (hl : Nat.beq cs.length s = true) : RunsV P n w0 fr H (.load t x) (.agg cs.toArray) :=
  rv_loadS i hx hi (List.take_of_length_le (by rw [List.drop_zero, Nat.eq_of_beq_eq_true hl]; exact Nat.le_refl _)) hl

/-- A cell of an element of a slice that reads. -/
theorem bi {x : Operand} {t : TypeId} [hT : TyOne P t] {v : Value} {s k c : Nat} {es : List (List Value)} {e : List Value} {u : Value} (hx : opv fr x = some (pE v s k c)) (hv : ∀ w, HeapOk w0 w H → Rd w v s es) (hk : es[k]? = some e) (hc : e[c]? = some u) :
    RunsV P n w0 fr H (.load t x) u := fun a w hr hh _ _ _ _ _ => by
  simp only [execOp, hr.opv hx, pE, Sem.run_bind, run_loadOne hT ((hv w hh).cell hk hc), Result.andThen_ok, Sem.run_pure]
/-- An element, or a struct within it. -/
theorem rv_loadES {x : Operand} {t : TypeId} {z bs : Nat} {zs : List Value} [hT : TyAgg P t] [hI : TyInfo P t z zs bs] {v : Value} {s k c : Nat} {es : List (List Value)} {e us : List Value} (hx : opv fr x = some (pE v s k c)) (hv : ∀ w, HeapOk w0 w H → Rd w v s es) (hk : es[k]? = some e)
    (hu : (e.drop c).take z = us) (hl : Nat.beq us.length z = true) : RunsV P n w0 fr H (.load t x) (.agg us.toArray) := fun a w hr hh _ _ _ _ _ => by
  have hl' := Nat.eq_of_beq_eq_true hl
  have := run_loadAgg hT hI (w := w) (b := blkOf v) (o := offOf v + (k * s + c)) hl' (fun j u hj => by
    rw [← hu, List.getElem?_take] at hj
    split at hj
    · rw [List.getElem?_drop] at hj
      have := (hv w hh).cell hk hj
      rwa [show offOf v + (k * s + (c + j)) = offOf v + (k * s + c) + j from by omega] at this
    · cases hj)
  simp only [execOp, hr.opv hx, pE, Sem.run_bind, this, Result.andThen_ok, Sem.run_pure]

/-- A whole element. -/
theorem bN {x : Operand} {t : TypeId} {z bs : Nat} {zs : List Value} [hT : TyAgg P t] [hI : TyInfo P t z zs bs] {v : Value} {k : Nat} {es : List (List Value)} {e : List Value} (hx : opv fr x = some (pE v z k 0)) (hv : ∀ w, HeapOk w0 w H → Rd w v z es) (hk : es[k]? = some e)
    (hl : Nat.beq e.length z = true) : RunsV P n w0 fr H (.load t x) (.agg e.toArray) :=
  rv_loadES hx hv hk (List.take_of_length_le (by rw [List.drop_zero, Nat.eq_of_beq_eq_true hl]; exact Nat.le_refl _)) hl

/-- Facts on what was there when the call began stay. -/
theorem Rd.stays {v : Value} {s : Nat} {es : List (List Value)} (h : Rd w0 v s es) : ∀ w, HeapOk w0 w H → Rd w v s es := fun _ hh => h.below hh.below
theorem HeapOk.rdGrp {w0 w : World} {H : List Ch} {t : TypeId} {s : Nat} {rs : List (Value × List (List Value))} (h : HeapOk w0 w H) (hm : Ch.grp t s rs ∈ H) {r : Value × List (List Value)} (hr : r ∈ rs) : Rd w r.1 s r.2 := Rd.of_row (t := t) ((h.ok _ hm).1 r hr)
theorem Rd.grp {t : TypeId} {s : Nat} {rs : List (Value × List (List Value))} (i : Nat) (hi : H[i]? = some (.grp t s rs)) {v : Value} {es : List (List Value)} (hr : (v, es) ∈ rs) : ∀ w, HeapOk w0 w H → Rd w v s es := fun _ hh => hh.rdGrp (List.mem_of_getElem? hi) hr
/-- A block reads as a slice of one. -/
theorem Rd.bb {b : Nat} {t : TypeId} {cs : List Value} (i : Nat) (hi : H[i]? = some (.blk b t cs)) (hg : cs.all Value.oneCell' = true) : ∀ w, HeapOk w0 w H → Rd w (.slice (some ⟨b, 0, none⟩) 1 1) cs.length [cs] := fun w hh =>
  ⟨⟨some ⟨b, 0, none⟩, 1, rfl, Nat.le_refl _, by simp [maxLen], fun _ => ⟨b, 0, rfl⟩⟩, fun e he => by
    have : e = cs := by simpa using he
    subst this
    exact ⟨rfl, fun u hu => List.all_eq_true.1 hg u hu⟩, fun j u hj => by
    have h := hh.blk (List.mem_of_getElem? hi) j
    simp only [blkOf, offOf, Nat.zero_add]
    rw [h]
    simpa using hj⟩
theorem cp (q s : Nat) : pB q 0 = pE (.slice (some ⟨q, 0, none⟩) 1 1) s 0 0 := by simp [pB, pE, blkOf, offOf]
theorem Rd.ba {v : Value} {t : TypeId} {s : Nat} {es : List (List Value)} (i : Nat) (hi : H[i]? = some (.row v t s es)) : ∀ w, HeapOk w0 w H → Rd w v s es := fun _ hh => hh.rd (List.mem_of_getElem? hi)

/-! ### Addresses -/
theorem run_fieldAt {t : TypeId} {f off : Nat} (h : TyFld P t f off) (w : World) (b o : Nat) : (Instr.fieldAt t (.pointer (some ⟨b, o, none⟩)) f).run P w = .ok (.pointer (some ⟨b, o + off, none⟩)) w := by
  have := h.h
  unfold fldOff at this
  split at this
  · rename_i fs hu
    split at this
    · rename_i fd hf
      split at this
      · rename_i i hi
        split at this
        · cases this
        · rename_i hz
          simp only [Option.some.injEq] at this
          subst this
          simp [Instr.fieldAt, run_underlying hu, hf, Instr.sureAddr, fieldPlace, sizeOf, typeInfo, hi, hz, Addr.add_lit]
      · cases this
    · cases this
  · cases this

theorem be {x : Operand} {t : TypeId} {f off : Nat} [hT : TyFld P t f off] {b o : Nat} (hx : opv fr x = some (pB b o)) : RunsV P n w0 fr H (.fieldAddr t x f) (pB b (o + off)) := fun a w hr hh _ _ _ _ _ => by
  simp only [execOp, hr.opv hx, pB, Sem.run_bind, run_fieldAt hT, Result.andThen_ok, Sem.run_pure]
theorem bo {x : Operand} {t : TypeId} {f off : Nat} [hT : TyFld P t f off] {v : Value} {s k c : Nat} (hx : opv fr x = some (pE v s k c)) : RunsV P n w0 fr H (.fieldAddr t x f) (pE v s k (c + off)) := fun a w hr hh _ _ _ _ _ => by
  simp only [execOp, hr.opv hx, pE, Sem.run_bind, run_fieldAt hT, Result.andThen_ok, Sem.run_pure, Nat.add_assoc]
theorem bx {x : Operand} {v : Value} {s k c : Nat} (hx : opv fr x = some (pE v s k c)) : RunsV P n w0 fr H (.nilCheck x) (pE v s k c) := rv_nilCheck hx
theorem cg {x : Operand} {b o : Nat} (hx : opv fr x = some (pB b o)) : RunsV P n w0 fr H (.nilCheck x) (pB b o) := rv_nilCheck hx

theorem rv_index {x y : Operand} {t e : TypeId} {s bs : Nat} {zs : List Value} [hT : TySlice P t e] [hI : TyInfo P e s zs bs] {v : Value} {es : List (List Value)} {kk : IntKind} {i : Int} {k : Nat} (hx : opv fr x = some v) (hy : opv fr y = some (.int kk i)) (hv : ∀ w, HeapOk w0 w H → Rd w v s es)
    (hi : i = (k : Int)) (hk : k < es.length) : RunsV P n w0 fr H (.indexAddr t x y) (pE v s k 0) := fun a w hr hh _ _ _ _ _ => by
  obtain ⟨ad, cap, rfl, h1, h2, h3⟩ := (hv w hh).form
  obtain ⟨b, o, rfl⟩ := h3 (by omega)
  obtain ⟨inf, z, g1, g2, g3, g4, g5⟩ := hI.get
  subst hi
  have hlt : (0 : Int) ≤ (k : Int) ∧ (k : Int) < (es.length : Int) := by omega
  simp [execOp, hr.opv hx, hr.opv hy, Instr.indexAt, asIntOf, run_underlying hT.h, hlt, sizeOf, typeInfo, g1, g2, pE, blkOf, offOf, Addr.add_lit]
  omega

theorem bg {x y : Operand} {t e : TypeId} {s bs : Nat} {zs : List Value} [hT : TySlice P t e] [hI : TyInfo P e s zs bs] {v : Value} {es : List (List Value)} {kk : IntKind} {i : Int} {k : Nat} {el : List Value} (hx : opv fr x = some v) (hy : opv fr y = some (.int kk i)) (hv : ∀ w, HeapOk w0 w H → Rd w v s es)
    (hi : i = (k : Int)) (hk : es[k]? = some el) : RunsV P n w0 fr H (.indexAddr t x y) (pE v s k 0) :=
  rv_index hx hy hv hi (by
    rcases Nat.lt_or_ge k es.length with h | h
    · exact h
    · rw [List.getElem?_eq_none h] at hk; cases hk)

theorem bz {x : Operand} {t : TypeId} {e : TypeId} [hT : TySlice P t e] {v : Value} {s : Nat} {es : List (List Value)} (hx : opv fr x = some v) (hv : ∀ w, HeapOk w0 w H → Rd w v s es) :
    RunsV P n w0 fr H (.call ⟨.builtin .len, #[x], #[t]⟩) (.int .i64 (es.length : Int)) := fun a w hr hh _ _ _ _ _ => by
  obtain ⟨ad, cap, rfl, h1, h2, h3⟩ := (hv w hh).form
  simp [execOp, resolve, invoke, builtin, hr.opv hx, Builtin.len_, run_underlying hT.h, goInt]

theorem rv_max {x y : Operand} {ts : Array TypeId} {k k' : IntKind} {p q : Int} (hx : opv fr x = some (.int k p)) (hy : opv fr y = some (.int k' q)) :
    RunsV P n w0 fr H (.call ⟨.builtin .max, #[x, y], ts⟩) (.int k (max p q)) := fun a w hr hh _ _ _ _ _ => by
  have e : max p q = if q > p then q else p := by split <;> omega
  simp only [execOp, resolve, invoke, builtin, List.map_toArray, List.map_cons, List.map_nil, hr.opv hx, hr.opv hy, Builtin.max_, Builtin.max2, Sem.run_bind, Sem.run_pure, Result.andThen_ok, e]
  simp [Builtin.max2, Sem.run_bind, Sem.run_pure, Result.andThen_ok]

theorem rv_neqb {x y : Operand} {t t' : TypeId} [hT : TyBool P t] {p q : Bool} (hx : opv fr x = some (.bool p)) (hy : opv fr y = some (.bool q)) : RunsV P n w0 fr H (.binOp .neq t x y t') (.bool (decide (¬ p = q))) := fun a w hr _ _ _ _ _ _ => by
  have : (!(p == q)) = decide (¬ p = q) := by cases p <;> cases q <;> rfl
  simp [execOp, hr.opv hx, hr.opv hy, eqGuard_at_bool, binOp, run_equal_bool w t p q hT.h]
  cases p <;> cases q <;> rfl
/-! ### Making memory -/
theorem run_newVar (t : TypeId) (v : Value) (w : World) : (newVar t v).run P w = .ok ⟨w.heap.size, 0, none⟩ (w.alloc (.cells v.cells t)) := by
  simp [newVar, newRow, World.alloc_eq]

theorem bE {x : Operand} {t : TypeId} {v : Value} {cs : List Value} (hx : opv fr x = some v) (hc : v.cells = cs.toArray) : OpG P n w0 fr H (.box t x) Triv (fun b => pB b 0) (fun b => .blk b t cs :: H) :=
  fun a w hr hh d T pos af gd K hK => by
    have hrun : (execOp a.eval ⟨d, .box t x, T, pos, af, gd⟩).run P w = .ok (.value (pB w.heap.size 0)) (w.alloc (.cells cs.toArray t)) := by
      simp [execOp, hr.opv hx, Instr.box, run_newVar, pB, hc]
    unfold okAt; rw [hrun]
    exact hK w.heap.size _ trivial (hh.alloc t cs)

theorem bu {t : TypeId} {s bs : Nat} {zs : List Value} [hI : TyInfo P t s zs bs] : OpG P n w0 fr H (.alloc t) Triv (fun b => pB b 0) (fun b => .blk b t zs :: H) :=
  fun a w hr hh d T pos af gd K hK => by
    obtain ⟨i, z, h1, h2, h3, h4, h5⟩ := hI.get
    have hrun : (execOp a.eval ⟨d, .alloc t, T, pos, af, gd⟩).run P w = .ok (.value (pB w.heap.size 0)) (w.alloc (.cells zs.toArray t)) := by
      simp [execOp, Instr.alloc, zeroValue, typeInfo, h1, h4, run_newVar, pB, h5]
    unfold okAt; rw [hrun]
    exact hK w.heap.size _ trivial (hh.alloc t zs)

theorem HeapOk.setRowBlk {w : World} {H : List Ch} {b : Nat} {t : TypeId} {cs : List Value} (h : HeapOk w0 w (.blk b t cs :: H)) (cs' : List Value) :
    HeapOk w0 (w.setRow b cs'.toArray) (.blk b t cs' :: H) := by
  have hb := h.ok _ (List.mem_cons_self)
  refine ⟨h.below.trans ⟨rfl, rfl, rfl, by simp, fun k hk => setRow_other w b k _ (by have := hb.1; omega)⟩, fun c hc => ?_, ?_⟩
  · rcases List.mem_cons.1 hc with rfl | hc
    · exact ⟨hb.1, setRow_heap w b _ _ t _ hb.2⟩
    · refine Ch.ok_of (h.ok c (List.mem_cons_of_mem _ hc)) fun k hk => setRow_other w b k _ ?_
      have := (List.pairwise_cons.1 h.ap).1 c hc b rfl
      rintro rfl
      exact this hk
  · have := List.pairwise_cons.1 h.ap
    exact List.pairwise_cons.2 ⟨fun d hd k hk => this.1 d hd k hk, this.2⟩

theorem bI : ∀ {H : List Ch} {i : Nat} {c : Ch}, H[i]? = some c → (c :: H.eraseIdx i).Perm H
  | [], i, c, h => by simp at h
  | x :: r, 0, c, h => by
    simp only [List.getElem?_cons_zero, Option.some.injEq] at h
    subst h
    exact List.Perm.refl _
  | x :: r, i + 1, c, h => by
    simp only [List.getElem?_cons_succ] at h
    simp only [List.eraseIdx_cons_succ]
    exact (List.Perm.swap x c _).trans ((bI h).cons x)

theorem dS : ∀ {H : List Ch} {i : Nat} {c c' : Ch}, H[i]? = some c → (c' :: H.eraseIdx i).Perm (H.set i c')
  | [], i, c, c', h => by simp at h
  | x :: r, 0, c, c', h => List.Perm.refl _
  | x :: r, i + 1, c, c', h => by
    simp only [List.getElem?_cons_succ] at h
    simp only [List.eraseIdx_cons_succ, List.set_cons_succ]
    exact (List.Perm.swap x c' _).trans ((dS h).cons x)

theorem HeapOk.front {w : World} {H : List Ch} {i : Nat} {c : Ch} (h : HeapOk w0 w H) (hi : H[i]? = some c) : HeapOk w0 w (c :: H.eraseIdx i) := h.perm (bI hi).symm

/-- Storing a value (one cell, or the cells of a struct) into a block that is known. -/
theorem run_storeAt {w : World} {t : TypeId} {s bs : Nat} {zs : List Value} (hI : TyInfo P t s zs bs) {b o : Nat} {t' : TypeId} {cs : List Value} {v : Value} {us : List Value} (hb : w.heap[b]? = some (.cells cs.toArray t' (0, 0)))
    (hu : v.cells = us.toArray) (hl : us.length = s) (h1 : ∀ u ∈ us, u.oneCell' = true) (ho : o + us.length ≤ cs.length) :
    (Instr.storeAt t (.pointer (some ⟨b, o, none⟩)) v).run P w = .ok () (w.setRow b (cs.take o ++ us ++ cs.drop (o + us.length)).toArray) := by
  obtain ⟨i, z, g1, g2, g3, g4, g5⟩ := hI.get
  have := run_storeCells_at P b o t' us 0 cs.toArray w hb (by simpa using ho) h1
  simp only [Nat.add_zero] at this
  subst hl
  simp [Instr.storeAt, Instr.sureAddr, storeVar, sizeOf, typeInfo, g1, g2, hu, this]

theorem bK {v : Value} (h : v.oneCell' = true) : v.cells = [v].toArray := by cases v <;> first | rfl | cases h
theorem bB {v : Value} {us : List Value} (h : v.oneCell' = true) (hs : us.all Value.oneCell' = true) : (v :: us).all Value.oneCell' = true := by simp [h, hs]

theorem cV {x y : Operand} {t : TypeId} {s bs : Nat} {zs : List Value} [hI : TyInfo P t s zs bs] {b o : Nat} (i : Nat) {t' : TypeId} {cs us cs' : List Value} {v : Value}
    (hx : opv fr x = some (pB b o)) (hy : opv fr y = some v) (hi : H[i]? = some (.blk b t' cs)) (hu : v.cells = us.toArray) (hl : Nat.beq us.length s = true) (h1 : us.all Value.oneCell' = true) (ho : Nat.ble (o + us.length) cs.length = true)
    (hcs : cs.take o ++ us ++ cs.drop (o + us.length) = cs') : OpG P n w0 fr H (.store t x y) Triv (fun _ : Unit => undef) (fun _ => H.set i (.blk b t' cs')) :=
  fun a w hr hh d T pos af gd K hK => by
    have hf := hh.front hi
    have hb := (hf.ok _ (List.mem_cons_self)).2
    have hrun := run_storeAt (P := P) (t := t) hI (v := v) hb hu (Nat.eq_of_beq_eq_true hl) (by simpa using h1) (Nat.le_of_ble_eq_true ho)
    have : (execOp a.eval ⟨d, .store t x y, T, pos, af, gd⟩).run P w = .ok .skip (w.setRow b (cs.take o ++ us ++ cs.drop (o + us.length)).toArray) := by
      simp only [execOp, hr.opv hx, hr.opv hy, pB, Sem.run_bind, hrun, Result.andThen_ok, Sem.run_pure]
    unfold okAt; rw [this]
    refine hK () _ trivial ?_
    rw [hcs]
    exact (hf.setRowBlk cs').perm (dS hi)

/-! ### Owned rows -/
theorem HeapOk.nilRow {w : World} {H : List Ch} (h : HeapOk w0 w H) (t : TypeId) (s : Nat) : HeapOk w0 w (.row (.slice none 0 0) t s [] :: H) :=
  ⟨h.below, fun c hc => by
    rcases List.mem_cons.1 hc with rfl | hc
    · exact ⟨World.ownsRow_nil _ _ _ _, by simp⟩
    · exact h.ok c hc, List.pairwise_cons.2 ⟨fun d hd k hk => by simp [Ch.has, Value.ownBlock] at hk, h.ap⟩⟩
theorem G.nilRow (t : TypeId) (s : Nat) {K : Act → World → Prop} (h : G n w0 fr (.row (.slice none 0 0) t s [] :: H) K) : G n w0 fr H K := fun a w hr hh => h a w hr (hh.nilRow t s)

/-- A block that is filled is a row. -/
theorem HeapOk.rowOfBlk {w : World} {H : List Ch} {b : Nat} {t : TypeId} {s : Nat} {es : List (List Value)} (h : HeapOk w0 w (.blk b t es.flatten :: H)) (hl0 : ∀ e ∈ es, e.length = s ∧ ∀ u ∈ e, u.oneCell' = true) (hm : es.length ≤ maxLen) :
    HeapOk w0 w (.row (.slice (some ⟨b, 0, none⟩) es.length es.length) t s es :: H) := by
  have hb := h.ok _ (List.mem_cons_self)
  have hl : ∀ e ∈ es, e.length = s := fun e he => (hl0 e he).1
  have hfl : es.flatten.length = es.length * s := by
    clear hm hb h hl0
    induction es with
    | nil => simp
    | cons x xs ih => simp [hl x (List.mem_cons_self), ih (fun e he => hl e (List.mem_cons_of_mem _ he)), Nat.succ_mul, Nat.add_comm]
  refine ⟨h.below, fun c hc => ?_, ?_⟩
  · rcases List.mem_cons.1 hc with rfl | hc
    · refine ⟨⟨hfl, .inr ⟨b, es.length, es.flatten.toArray, rfl, hb.1, hb.2, Nat.le_refl _, hm, by simp [hfl], ?_⟩⟩, hl0⟩
      rw [← hfl]; exact List.take_length
    · exact h.ok c (List.mem_cons_of_mem _ hc)
  · have := List.pairwise_cons.1 h.ap
    exact List.pairwise_cons.2 ⟨fun d hd k hk => this.1 d hd k (by simpa [Ch.has, Value.ownBlock] using hk), this.2⟩

/-- make([]T, m), m a number. -/
theorem og_make {x y : Operand} {t e : TypeId} {s bs : Nat} {zs : List Value} [hT : TySlice P t e] [hI : TyInfo P e s zs bs] {k1 k2 : IntKind} {m : Nat}
    (hx : opv fr x = some (.int k1 (m : Int))) (hy : opv fr y = some (.int k2 (m : Int))) (hs : Nat.beq zs.length s = true) (hone : zs.all Value.oneCell' = true) (hpos : Nat.ble 1 s = true) (hm : m * bs ≤ 281474976710656) (hm2 : m ≤ 9223372036854775807) : OpG P n w0 fr H (.makeSlice t x y) Triv (fun v : Value => v) (fun v => .row v e s (List.replicate m zs) :: H) :=
  fun a w hr hh d T pos af gd K hK => by
    obtain ⟨i, z, g1, g2, g3, g4, g5⟩ := hI.get
    have hs' := Nat.eq_of_beq_eq_true hs
    have hpos' := Nat.le_of_ble_eq_true hpos
    have hbm : (i.bytes : Int) * (m : Int) ≤ 281474976710656 := by
      have h1 : ((m * bs : Nat) : Int) ≤ 281474976710656 := by omega
      rw [Int.natCast_mul, Int.mul_comm] at h1
      rw [g3]; exact h1
    have hr' := run_make (P := P) w t e i z hT.h g1 g4 k1 k2 (m : Int) (m : Int) (by omega) (by omega) hbm (by omega)
    have hfl : ∀ m : Nat, (madeCells z.cells (m * i.size)) = ((List.replicate m zs).flatten).toArray := by
      intro m
      rw [g2, g5]
      apply Array.ext'
      apply List.ext_getElem?
      intro j
      have hlen : ((List.replicate m zs).flatten).length = m * s := by simp [hs']
      have hL : (madeCells zs.toArray (m * s)).toList.length = m * s := by simp [madeCells]
      rcases Nat.lt_or_ge j (m * s) with hj | hj
      · have hk : j / s < m := (Nat.div_lt_iff_lt_mul hpos').2 hj
        have hmod : j % s < s := Nat.mod_lt _ hpos'
        have hz : zs[j % s]? = some (zs[j % s]'(by omega)) := List.getElem?_eq_getElem (by omega)
        have := flatten_get (es := List.replicate m zs) (size := s) (by intro e he; rw [(List.mem_replicate.1 he).2]; exact hs') (k := j / s) (e := zs) (by simp [hk]) hz
        rw [show j / s * s + j % s = j from by rw [Nat.mul_comm]; exact Nat.div_add_mod j s] at this
        rw [show ((List.replicate m zs).flatten.toArray).toList = (List.replicate m zs).flatten from rfl, this]
        simp only [madeCells, Array.toList_map, Array.toList_range, List.getElem?_map]
        simp [hj, hs']
        rw [hz]; rfl
      · rw [List.getElem?_eq_none (by omega), List.getElem?_eq_none (by simp [hs']; exact hj)]
    have hrun : (execOp a.eval ⟨d, .makeSlice t x y, T, pos, af, gd⟩).run P w = .ok (.value (.slice (some ⟨w.heap.size, 0, none⟩) m m)) (w.alloc (.cells ((List.replicate m zs).flatten).toArray e)) := by
      simp only [Int.toNat_natCast] at hr'
      rw [hfl] at hr'
      simp only [execOp, hr.opv hx, hr.opv hy, Sem.run_bind, hr', Result.andThen_ok, Sem.run_pure]
    unfold okAt; rw [hrun]
    have hrow := (hh.alloc e ((List.replicate m zs).flatten)).rowOfBlk (s := s) (es := List.replicate m zs) (by intro e he; rw [(List.mem_replicate.1 he).2]; exact ⟨hs', by simpa using hone⟩) (by simp [maxLen]; omega)
    simp only [List.length_replicate] at hrow
    exact hK _ _ trivial hrow

end

/-! ### The cells of several values -/
def CellsOf : List Value → List (List Value) → Prop
  | [], us => us = []
  | v :: vs, us => ∃ u r, us = u :: r ∧ v.cells = u.toArray ∧ CellsOf vs r

theorem CellsOf.nil : CellsOf [] [] := rfl
theorem CellsOf.cons {v : Value} {vs : List Value} {u : List Value} {us : List (List Value)} (h : v.cells = u.toArray) (hs : CellsOf vs us) : CellsOf (v :: vs) (u :: us) := ⟨u, us, rfl, h, hs⟩

theorem Rd.one_ {w : World} {v : Value} {s : Nat} {es : List (List Value)} (h : Rd w v s es) : v.oneCell' = true := by
  obtain ⟨a, cap, rfl, _⟩ := h.form; rfl

/-! ### fill -/
def fillL (pl : Nat → Option (Nat × Nat)) (cs : List Value) : List Nat → List (List Value) → Option (List Value)
  | i :: is, u :: us => match pl i with
    | some (off, size) => bif Nat.beq u.length size && Nat.ble (off + u.length) cs.length then fillL pl (cs.take off ++ u ++ cs.drop (off + u.length)) is us else none
    | none => none
  | _, _ => some cs

theorem foldl_set (off : Nat) : ∀ (u : List Value) (k : Nat) (cs : List Value), off + k + u.length ≤ cs.length →
    (u.zipIdx k).foldl (fun (c : Array Value) (x : Value × Nat) => c.setIfInBounds (off + x.2) x.1) cs.toArray = (cs.take (off + k) ++ u ++ cs.drop (off + k + u.length)).toArray
  | [], k, cs, _ => by simp
  | x :: r, k, cs, h => by
    have ih := foldl_set off r (k + 1) (cs.set (off + k) x) (by simp at h ⊢; omega)
    simp only [List.zipIdx_cons, List.foldl_cons, List.setIfInBounds_toArray]
    rw [ih]
    congr 1
    have := list_seg_step cs (off + k) x r (by simp at h; omega)
    simp only [List.length_cons]
    rw [show off + (k + 1) = off + k + 1 from by omega]
    exact this

theorem fill_fillL (pl : Nat → Option (Nat × Nat)) : ∀ (is : List Nat) (vs : List Value) (us : List (List Value)) (cs cs' : List Value), CellsOf vs us → fillL pl cs is us = some cs' → is.length = vs.length →
    Instr.fill pl cs.toArray (is.zip vs) = some cs'.toArray
  | [], [], us, cs, cs', h, hf, _ => by
    cases h
    simp only [fillL, Option.some.injEq] at hf
    subst hf; rfl
  | i :: is, v :: vs, us, cs, cs', h, hf, hl => by
    obtain ⟨u, r, rfl, hu, hr⟩ := h
    simp only [fillL] at hf
    split at hf
    · rename_i off size hpl
      cases hb : (Nat.beq u.length size && Nat.ble (off + u.length) cs.length) with
      | false => rw [hb] at hf; simp at hf
      | true =>
        rw [hb] at hf
        simp only [cond_true] at hf
        simp only [Bool.and_eq_true] at hb
        have h1 := Nat.eq_of_beq_eq_true hb.1
        have h2 := Nat.le_of_ble_eq_true hb.2
        have := fill_fillL pl is vs r _ cs' hr hf (by simpa using hl)
        simp only [List.zip_cons_cons, Instr.fill, hpl, hu, List.size_toArray]
        rw [if_neg (show ¬ ((decide (u.length ≠ size) || decide (off + u.length > cs.length)) = true) from by simp; omega)]
        have hfold := foldl_set off u 0 cs (by omega)
        simp only [Nat.add_zero] at hfold
        have hz : u.toArray.zipIdx = (u.zipIdx 0).toArray := by simp
        rw [show (u.toArray.zipIdx.foldl (fun cs x => match x with | (c, j) => cs.setIfInBounds (off + j) c) cs.toArray) = (u.zipIdx 0).foldl (fun (c : Array Value) (x : Value × Nat) => c.setIfInBounds (off + x.2) x.1) cs.toArray from by rw [hz]; simp]
        rw [hfold]
        exact this
    · cases hf
  | [], _ :: _, _, _, _, _, _, hl => by simp at hl
  | _ :: _, [], _, _, _, _, _, hl => by simp at hl

def pairs (fr : Fr) : List (Nat × Operand) → Option (List Nat × List Value)
  | [] => some ([], [])
  | (i, x) :: r => match opv fr x with
    | some v => match pairs fr r with
      | some (is, vs) => some (i :: is, v :: vs)
      | none => none
    | none => none

section
variable {P : Program} {n : Nat} {w0 : World} {fr : Fr} {H : List Ch} {Q : Exit → Act → World → Prop}

theorem Rep.pairs {a : Act} (h : Rep n a fr) : ∀ {ps : List (Nat × Operand)} {is : List Nat} {vs : List Value}, pairs fr ps = some (is, vs) → ps.map (fun x => (x.1, a.eval x.2)) = is.zip vs ∧ is.length = vs.length
  | [], is, vs, hx => by
    simp only [Proofs.YtglpgohilfoecaaGreat.pairs, Option.some.injEq, Prod.mk.injEq] at hx
    obtain ⟨rfl, rfl⟩ := hx; simp
  | (i, x) :: r, is, vs, hx => by
    simp only [Proofs.YtglpgohilfoecaaGreat.pairs] at hx
    split at hx
    · rename_i v hv
      split at hx
      · rename_i is' vs' hr
        simp only [Option.some.injEq, Prod.mk.injEq] at hx
        obtain ⟨rfl, rfl⟩ := hx
        have := Rep.pairs h hr
        simp [this.1, this.2, h.opv hv]
      · cases hx
    · cases hx

/-- The places of a struct's fields. -/
def places (P : Program) (t : TypeId) : Option (List (Nat × Nat)) :=
  match P.underlying t with
  | some (.struct fs) => fs.toList.mapM fun f => (P.info? f.type).map fun i => (f.offset, i.size)
  | _ => none
class TyPlaces (P : Program) (t : TypeId) (pl : outParam (List (Nat × Nat))) : Prop where
  h : places P t = some pl

theorem run_places {P : Program} {w : World} : ∀ (fs : List Field) (pl : List (Nat × Nat)), fs.mapM (fun f => (P.info? f.type).map fun i => (f.offset, i.size)) = some pl →
    (fs.mapM (fun f => do pure (f.offset, ← sizeOf f.type)) : Sem (List (Nat × Nat))).run P w = .ok pl w
  | [], pl, h => by
    simp only [List.mapM_nil, Option.pure_def, Option.some.injEq] at h
    subst h; rfl
  | f :: fs, pl, h => by
    simp only [List.mapM_cons, Option.bind_eq_bind, Option.bind_eq_some_iff, Option.pure_def, Option.some.injEq] at h
    obtain ⟨x, hx, pl', hp, rfl⟩ := h
    have ih := run_places (w := w) fs pl' hp
    cases hi : P.info? f.type with
    | none => simp [hi] at hx
    | some i =>
      simp only [hi, Option.map_some, Option.some.injEq] at hx
      subst hx
      simp only [List.mapM_cons, Sem.run_bind, sizeOf, typeInfo, run_program, Result.andThen_ok, hi, Sem.run_pure] at ih ⊢
      rw [ih]; rfl

theorem rv_build {t : TypeId} {s bs : Nat} {zs : List Value} {pl : List (Nat × Nat)} [hI : TyInfo P t s zs bs] [hP : TyPlaces P t pl] {ps : List (Nat × Operand)} {is : List Nat} {vs : List Value} {us : List (List Value)} {cs : List Value}
    (hp : pairs fr ps = some (is, vs)) (hu : CellsOf vs us) (hf : fillL (fun i => pl[i]?) zs is us = some cs) : RunsV P n w0 fr H (.build t ps.toArray) (.agg cs.toArray) := fun a w hr hh _ _ _ _ _ => by
  obtain ⟨i, z, h1, h2, h3, h4, h5⟩ := hI.get
  obtain ⟨hm, hl⟩ := hr.pairs hp
  have hfill := fill_fillL _ is vs us zs cs hu hf hl
  have hpl := hP.h
  unfold places at hpl
  split at hpl
  · rename_i fs hfs
    have hrun := run_places (P := P) (w := w) fs.toList pl hpl
    have hrun' : (fs.mapM (fun f => do pure (f.offset, ← sizeOf f.type)) : Sem (Array (Nat × Nat))).run P w = .ok pl.toArray w := by
      rw [Array.mapM_eq_mapM_toList, Sem.run_map, hrun]; rfl
    have e : (ps.toArray.map fun x => (x.1, a.eval x.2)).toList = is.zip vs := by simpa using hm
    simp only [execOp, Sem.run_bind, Instr.build, zeroValue, typeInfo, run_program, Result.andThen_ok, h1, h4, Sem.run_pure, run_underlying hfs, hrun', h5]
    have e2 : (Array.map (fun x => match x with | (i, x) => (i, a.eval x)) ps.toArray).toList = is.zip vs := e
    rw [e2]
    have e3 : (fun x : Nat => pl.toArray[x]?) = fun i : Nat => pl[i]? := by funext i; simp
    rw [e3, hfill]; rfl
  · cases hpl

/-! ### A literal slice -/
def seqFrom : Nat → List Nat → Bool
  | _, [] => true
  | k, i :: r => Nat.beq i k && seqFrom (k + 1) r

theorem fillL_row (s : Nat) : ∀ (us : List (List Value)) (is : List Nat) (k : Nat) (pre post : List Value), (∀ u ∈ us, u.length = s) → pre.length = k * s → post.length = us.length * s → is.length = us.length → seqFrom k is = true →
    fillL (fun i => some (i * s, s)) (pre ++ post) is us = some (pre ++ us.flatten)
  | [], [], k, pre, post, _, _, hp, _, _ => by
    have : post = [] := List.eq_nil_of_length_eq_zero (by simpa using hp)
    simp [fillL, this]
  | u :: us, i :: is, k, pre, post, hu, hpre, hpost, hl, hs => by
    simp only [seqFrom, Bool.and_eq_true] at hs
    have hi := Nat.eq_of_beq_eq_true hs.1
    subst hi
    have hul := hu u (List.mem_cons_self)
    simp only [List.length_cons, Nat.succ_mul] at hpost
    have hb : (Nat.beq u.length s && Nat.ble (i * s + u.length) (pre ++ post).length) = true := by
      rw [Bool.and_eq_true]
      refine ⟨by rw [hul]; simp, Nat.ble_eq_true_of_le ?_⟩
      rw [List.length_append, hul]; omega
    simp only [fillL, hb, cond_true]
    have e1 : (pre ++ post).take (i * s) = pre := by rw [← hpre]; simp
    have e2 : (pre ++ post).drop (i * s + u.length) = post.drop s := by
      rw [← hpre, hul, List.drop_append]; simp
    rw [e1, e2]
    have := fillL_row s us is (i + 1) (pre ++ u) (post.drop s) (fun v hv => hu v (List.mem_cons_of_mem _ hv)) (by rw [List.length_append, hul, hpre, Nat.succ_mul]) (by rw [List.length_drop]; omega) (by simpa using hl) hs.2
    rw [this]; simp
  | [], _ :: _, _, _, _, _, _, _, hl, _ => by simp at hl
  | _ :: _, [], _, _, _, _, _, _, hl, _ => by simp at hl

theorem cm {s : Nat} : ∀ {es : List (List Value)}, (∀ e ∈ es, e.length = s) → es.flatten.length = es.length * s
  | [], _ => by simp
  | x :: xs, h => by
    have := cm (es := xs) (fun e he => h e (List.mem_cons_of_mem _ he))
    simp only [List.flatten_cons, List.length_append, List.length_cons, this, h x (List.mem_cons_self), Nat.succ_mul]
    omega

theorem bq {t e : TypeId} {s bs : Nat} {zs : List Value} [hT : TySlice P t e] [hI : TyInfo P e s zs bs] {m : Nat} {ps : List (Nat × Operand)} {is : List Nat} {vs : List Value} {us : List (List Value)}
    (hp : pairs fr ps = some (is, vs)) (hu : CellsOf vs us) (hg : us.all (fun u => Nat.beq u.length s && u.all Value.oneCell') = true) (hseq : seqFrom 0 is = true) (hm : Nat.beq us.length m = true) (hsm : Nat.ble (m * s) 16777216 = true) (hz : Nat.beq zs.length s = true) (hs1 : Nat.ble 1 s = true) : OpG P n w0 fr H (.buildSlice t m ps.toArray) Triv (fun v : Value => v) (fun v => .row v e s us :: H) :=
  fun a w hr hh d T pos af gd K hK => by
    obtain ⟨i, z, h1, h2, h3, h4, h5⟩ := hI.get
    obtain ⟨hmap, hl⟩ := hr.pairs hp
    have hm' := Nat.eq_of_beq_eq_true hm
    have hz' := Nat.eq_of_beq_eq_true hz
    have hs1' := Nat.le_of_ble_eq_true hs1
    have hsm' := Nat.le_of_ble_eq_true hsm
    have hgood : ∀ u ∈ us, u.length = s ∧ ∀ x ∈ u, x.oneCell' = true := by
      intro u hu
      have := List.all_eq_true.1 hg u hu
      simp only [Bool.and_eq_true, List.all_eq_true] at this
      exact ⟨Nat.eq_of_beq_eq_true this.1, this.2⟩
    have hcl : ∀ (vs : List Value) (us : List (List Value)), CellsOf vs us → vs.length = us.length := by
      intro vs
      induction vs with
      | nil => intro us h; cases h; rfl
      | cons v vs ih => rintro us ⟨u, r, rfl, _, hr⟩; simp [ih r hr]
    have hisl : is.length = us.length := hl.trans (hcl vs us hu)
    have hrun : (execOp a.eval ⟨d, .buildSlice t m ps.toArray, T, pos, af, gd⟩).run P w = .ok (.value (.slice (some ⟨w.heap.size, 0, none⟩) us.length us.length)) (w.alloc (.cells us.flatten.toArray e)) := by
      have e2 : (Array.map (fun x => match x with | (i, x) => (i, a.eval x)) ps.toArray).toList = is.zip vs := by
        have : (ps.toArray.map fun x => (x.1, a.eval x.2)).toList = is.zip vs := by simpa using hmap
        exact this
      have hno : ¬ (m * i.size > 2 ^ 24) := by rw [h2]; omega
      have hinit : ∀ zero : Array Value, (m * i.size = 0 ∨ zero = zs.toArray) → Instr.fill (fun j => some (j * i.size, i.size)) ((Array.range (m * i.size)).map (zero[· % zero.size]!)) (is.zip vs) = some us.flatten.toArray := by
        intro zero hzero
        have hrow := fillL_row s us is 0 [] (((Array.range (m * i.size)).map (zero[· % zero.size]!)).toList) (fun u hu => (hgood u hu).1) (by simp) (by simp [h2, hm']) hisl hseq
        simp only [List.nil_append] at hrow
        have := fill_fillL (fun j => some (j * s, s)) is vs us _ _ hu hrow hl
        rw [Array.toArray_toList] at this
        rw [h2] at this ⊢
        exact this
      by_cases h0 : m * i.size = 0
      · simp only [execOp, Sem.run_bind, Instr.buildSlice, run_underlying hT.h, Result.andThen_ok, sizeOf, typeInfo, run_program, h1, Sem.run_pure, if_neg hno, if_pos h0, e2]
        rw [hinit #[] (.inl h0)]
        simp [newRow, World.alloc_eq, hm']
      · simp only [execOp, Sem.run_bind, Instr.buildSlice, run_underlying hT.h, Result.andThen_ok, sizeOf, typeInfo, run_program, h1, Sem.run_pure, if_neg hno, if_neg h0, zeroValue, h4, h5, e2]
        rw [hinit zs.toArray (.inr rfl)]
        simp [newRow, World.alloc_eq, hm']
    unfold okAt; rw [hrun]
    have hlen : us.length ≤ maxLen := by
      have : us.length * s ≤ 16777216 := by rw [hm']; exact hsm'
      have h2 : us.length * 1 ≤ us.length * s := Nat.mul_le_mul_left _ hs1'
      simp only [maxLen]; omega
    exact hK _ _ trivial ((hh.alloc e us.flatten).rowOfBlk (s := s) hgood hlen)

/-! ### append -/
theorem run_append_nil {base : Nat} {t ty e : TypeId} {i : TypeInfo} {size : Nat} {w : World} (ht : P.underlying t = some (.slice e)) (hi : P.info? e = some i)
    {v : Value} {m : Nat} {xs : List Value} (hown : w.ownsRow base e size v m xs) (c : Nat) : (Builtin.append_ #[t, t] ty #[v, .slice none 0 c]).run P w = .ok v w := by
  rcases hown.2 with ⟨rfl, rfl⟩ | ⟨g, cap, cur, rfl, _, _, hnc, _⟩
  · simp [Builtin.append_, run_underlying ht, sizeOf, typeInfo, hi, Builtin.lenOf, Builtin.firstCells]
  · simp [Builtin.append_, run_underlying ht, sizeOf, typeInfo, hi, Builtin.lenOf, Builtin.firstCells, hnc, storeCells]

theorem run_append_row {w : World} {H : List Ch} {t ty e : TypeId} {s bs : Nat} {zs : List Value} (hT : TySlice P t e) (hI : TyInfo P e s zs bs) (hz : zs.length = s) (hs1 : 1 ≤ s) {v v2 : Value} {es es2 : List (List Value)} (hh : HeapOk w0 w (.row v e s es :: H)) (h2 : Rd w v2 s es2)
    (hb : (es.length + es2.length) * bs ≤ 140737488355328) (hm : es.length + es2.length ≤ 9223372036854775807) :
    ∃ v' w', (Builtin.append_ #[t, t] ty #[v, v2]).run P w = .ok v' w' ∧ HeapOk w0 w' (.row v' e s (es ++ es2) :: H) := by
  obtain ⟨i, z, g1, g2, g3, g4, g5⟩ := hI.get
  have hrow := hh.ok _ (List.mem_cons_self)
  obtain ⟨ad, cap, rfl, k1, k2, k3⟩ := h2.form
  have hfl := cm fun e he => (h2.good e he).1
  cases ad with
  | none =>
    have h0 : es2.length = 0 := by
      rcases Nat.eq_zero_or_pos es2.length with h | h
      · exact h
      · obtain ⟨b, o, hbo⟩ := k3 h; cases hbo
    have : es2 = [] := List.eq_nil_of_length_eq_zero h0
    subst this
    exact ⟨v, w, run_append_nil hT.h g1 hrow.1 cap, by simpa using hh⟩
  | some ad =>
    have hcells : ∀ j u, es2.flatten[j]? = some u → w.cell? (ad.add j) = some u := by
      intro j u hj
      have hpos : 0 < es2.length := by
        rcases Nat.eq_zero_or_pos es2.length with h | h
        · have : es2 = [] := List.eq_nil_of_length_eq_zero h
          subst this; simp at hj
        · exact h
      obtain ⟨b, o, hbo⟩ := k3 hpos
      injection hbo with hbo
      subst hbo
      have := h2.cells j u hj
      rw [Addr.add_lit]
      exact this
    obtain ⟨v', w', hrun, ho, hg, _, hblk⟩ := run_append_own_at (P := P) w w0.heap.size t ty e i z s bs hT.h g1 g4 g2 g3 (by rw [g5]; simpa using hz) (by omega) v es.length es.flatten hrow.1 ad es2.length cap es2.flatten hfl hcells
      (by intro u hu; obtain ⟨e', he, hue⟩ := List.mem_flatten.1 hu; exact (h2.good e' he).2 u hue) (by simp only [maxLen]; omega) hb hh.below.size
    refine ⟨v', w', hrun, hh.below.grown hg hh.below.size (fun k hk => (hrow.1.lt k hk).1), fun c hc => ?_, ?_⟩
    · rcases List.mem_cons.1 hc with rfl | hc
      · refine ⟨by simpa using ho, fun e' he => ?_⟩
        rcases List.mem_append.1 he with he | he
        · exact hrow.2 e' he
        · exact h2.good e' he
      · have hc' := hh.ok c (List.mem_cons_of_mem _ hc)
        refine Ch.ok_of hc' fun k hk => hg.block k (Ch.lt hc' hk).2 fun e' => ?_
        exact (List.pairwise_cons.1 hh.ap).1 c hc k e'.symm hk
    · have hp := List.pairwise_cons.1 hh.ap
      refine List.pairwise_cons.2 ⟨fun c hc k hk hk' => ?_, hp.2⟩
      simp only [Ch.has] at hk
      rcases hblk with hblk | hblk
      · exact hp.1 c hc k (hblk.symm.trans hk) hk'
      · rw [hk] at hblk
        simp only [Option.some.injEq] at hblk
        have := (Ch.lt (hh.ok c (List.mem_cons_of_mem _ hc)) hk').2
        omega

theorem dC {x y : Operand} {t e : TypeId} {s bs : Nat} {zs : List Value} [hT : TySlice P t e] [hI : TyInfo P e s zs bs] (i : Nat) {v v2 : Value} {es es2 : List (List Value)}
    (hx : opv fr x = some v) (hy : opv fr y = some v2) (hi : H[i]? = some (.row v e s es)) (h2 : ∀ w, HeapOk w0 w H → Rd w v2 s es2) (hz : Nat.beq zs.length s = true) (hs1 : Nat.ble 1 s = true)
    (hb : (es.length + es2.length) * bs ≤ 140737488355328) (hm : es.length + es2.length ≤ 9223372036854775807) : OpG P n w0 fr H (.call ⟨.builtin .append, #[x, y], #[t, t]⟩) Triv (fun v' : Value => v') (fun v' => H.set i (.row v' e s (es ++ es2))) :=
  fun a w hr hh d T pos af gd K hK => by
    obtain ⟨v', w', hrun, hh'⟩ := run_append_row (P := P) (ty := T) hT hI (Nat.eq_of_beq_eq_true hz) (Nat.le_of_ble_eq_true hs1) (hh.front hi) (h2 w hh) hb hm
    have : (execOp a.eval ⟨d, .call ⟨.builtin .append, #[x, y], #[t, t]⟩, T, pos, af, gd⟩).run P w = .ok (.value v') w' := by
      simp only [execOp, resolve, invoke, builtin, Sem.run_bind, Sem.run_pure, Result.andThen_ok, List.map_toArray, List.map_cons, List.map_nil, hr.opv hx, hr.opv hy, hrun]
    unfold okAt; rw [this]
    exact hK v' _ trivial (hh'.perm (dS hi))

end

/-! ### Choosing chunks -/
def pickL : List Ch → List Nat → Option (List Ch)
  | _, [] => some []
  | H, i :: is => match H[i]? with
    | some c => match pickL (H.eraseIdx i) is with
      | some r => some (c :: r)
      | none => none
    | none => none

theorem pickL_perm : ∀ {is : List Nat} {H r : List Ch}, pickL H is = some r → ∃ K, H.Perm (r ++ K)
  | [], H, r, h => by
    simp only [pickL, Option.some.injEq] at h
    subst h
    exact ⟨H, List.Perm.refl _⟩
  | i :: is, H, r, h => by
    simp only [pickL] at h
    split at h
    · rename_i c hc
      split at h
      · rename_i r' hr
        simp only [Option.some.injEq] at h
        subst h
        obtain ⟨K, hK⟩ := pickL_perm hr
        exact ⟨K, (bI hc).symm.trans (hK.cons c)⟩
      · cases h
    · cases h

theorem HeapOk.pick {w0 w : World} {H r : List Ch} (is : List Nat) (e : pickL H is = some r) (h : HeapOk w0 w H) : HeapOk w0 w r := by
  obtain ⟨K, hK⟩ := pickL_perm e
  exact (h.perm hK).sublist (List.sublist_append_left r K)

theorem HeapOk.none {w0 w : World} {H : List Ch} (h : HeapOk w0 w H) : HeapOk w0 w [] := h.sublist (List.nil_sublist _)

/-! ### Contracts -/
/-- A call gives one value, and leaves nothing behind that is spoken of. -/
def FnV (P : Program) (f : FuncId) (vs : List Value) (w : World) (v : Value) : Prop := Calls P f vs.toArray w fun e w' => e = .returned v ∧ HeapOk w w' []
/-- A call gives a value that hangs on what it makes. -/
def Fn (P : Program) (f : FuncId) (vs : List Value) (w : World) {X : Type} (φ : X → Prop) (rv : X → Value) (nw : X → List Ch) : Prop := Calls P f vs.toArray w fun e w' => ∃ x, φ x ∧ e = .returned (rv x) ∧ HeapOk w w' (nw x)
/-- A call that turns chunks: whatever else there is stays. -/
def FnM (P : Program) (f : FuncId) (vs : List Value) (w0 : World) (cin : List Ch) {X : Type} (φ : X → Prop) (rv : X → Value) (out : X → List Ch) : Prop :=
  ∀ (w : World) (F : List Ch), HeapOk w0 w (cin ++ F) → Calls P f vs.toArray w fun e w' => ∃ x, φ x ∧ e = .returned (rv x) ∧ HeapOk w0 w' (out x ++ F)

theorem FnV.mono {P : Program} {f : FuncId} {vs : List Value} {w : World} {v v' : Value} (h : FnV P f vs w v) (e : v = v') : FnV P f vs w v' := e ▸ h

class FnOk (P : Program) (f : FuncId) : Prop where
  h : (P.funcs[f]?).map (fun fn => (fn.name == "runtime.NumGoroutine", fn.body.isNone)) = some (false, false)

def argFr : Nat → List Value → Fr
  | _, [] => []
  | k, v :: r => (k, v) :: argFr (k + 1) r

theorem argFr_get : ∀ {vs : List Value} {k t : Nat} {v : Value}, fget (argFr k vs) t = some v → k ≤ t ∧ vs[t - k]? = some v
  | u :: r, k, t, v, h => by
    simp only [argFr] at h
    rw [dB] at h
    split at h
    · rename_i e; subst e
      simp only [Option.some.injEq] at h
      subst h
      simp
    · have := argFr_get h
      refine ⟨by omega, ?_⟩
      rw [show t - k = (t - (k + 1)) + 1 from by omega]
      simpa using this.2

theorem calls_begin {P : Program} {f : FuncId} {fn : Func} {c : Code} {vs : List Value} {w0 w : World} {R : Ending → World → Prop} {H : List Ch} {n : Nat}
    (hf : P.funcs[f]? = some fn) (hb : fn.body = some c) (hn : Nat.beq (vs.length + (fn.ntmps - vs.length)) n = true) (hh : HeapOk w0 w H)
    (h : G n w0 (argFr 0 vs) H (c.wp P (bodyPost P fn R))) : Calls P f vs.toArray w R :=
  calls_of_G hf hb (Nat.eq_of_beq_eq_true hn).symm hh (fun t v hv => by simpa using (argFr_get hv).2) h

theorem FnV.of {P : Program} {f : FuncId} {fn : Func} {c : Code} {vs : List Value} {w : World} {v : Value} {n : Nat}
    (hf : P.funcs[f]? = some fn) (hb : fn.body = some c) (hn : Nat.beq (vs.length + (fn.ntmps - vs.length)) n = true)
    (h : G n w (argFr 0 vs) [] (c.wp P (bodyPost P fn fun e w' => e = .returned v ∧ HeapOk w w' []))) : FnV P f vs w v := calls_begin hf hb hn (HeapOk.refl w) h
theorem Fn.of {P : Program} {f : FuncId} {fn : Func} {c : Code} {vs : List Value} {w : World} {X : Type} {φ : X → Prop} {rv : X → Value} {nw : X → List Ch} {n : Nat}
    (hf : P.funcs[f]? = some fn) (hb : fn.body = some c) (hn : Nat.beq (vs.length + (fn.ntmps - vs.length)) n = true)
    (h : G n w (argFr 0 vs) [] (c.wp P (bodyPost P fn fun e w' => ∃ x, φ x ∧ e = .returned (rv x) ∧ HeapOk w w' (nw x)))) : Fn P f vs w φ rv nw := calls_begin hf hb hn (HeapOk.refl w) h
theorem FnM.of {P : Program} {f : FuncId} {fn : Func} {c : Code} {vs : List Value} {w0 : World} {cin : List Ch} {X : Type} {φ : X → Prop} {rv : X → Value} {out : X → List Ch} {n : Nat}
    (hf : P.funcs[f]? = some fn) (hb : fn.body = some c) (hn : Nat.beq (vs.length + (fn.ntmps - vs.length)) n = true)
    (h : ∀ F, G n w0 (argFr 0 vs) (cin ++ F) (c.wp P (bodyPost P fn fun e w' => ∃ x, φ x ∧ e = .returned (rv x) ∧ HeapOk w0 w' (out x ++ F)))) : FnM P f vs w0 cin φ rv out :=
  fun _ F hh => calls_begin hf hb hn hh (h F)

section
variable {P : Program} {n : Nat} {w0 : World} {fr : Fr} {H : List Ch} {Q : Exit → Act → World → Prop}

/-- The end of a function that returns one value. -/
theorem G.U {fn : Func} {t : Nat} {v v' : Value} (hres : fn.results = #[.tmp t]) (hv : fget fr t = some v') (he : v' = v) : G n w0 fr H (bodyPost P fn (fun e w' => e = .returned v ∧ HeapOk w0 w' []) .ret) :=
  G.retV hres hv fun w h => ⟨by rw [he], h.none⟩
theorem G.bg {fn : Func} {t : Nat} {v' : Value} {X : Type} {φ : X → Prop} {rv : X → Value} {nw : X → List Ch} (x : X) (hφ : φ x) (hres : fn.results = #[.tmp t]) (hv : fget fr t = some v') (he : v' = rv x) (hH : ∀ w, HeapOk w0 w H → HeapOk w0 w (nw x)) :
    G n w0 fr H (bodyPost P fn (fun e w' => ∃ x, φ x ∧ e = .returned (rv x) ∧ HeapOk w0 w' (nw x)) .ret) :=
  G.retV hres hv fun w h => ⟨x, hφ, by rw [he], hH w h⟩
/-- A struct result lies in a block of its own. -/
theorem results_cell {fn : Func} {t : Nat} {T : TypeId} {s bs : Nat} {zs : List Value} (hT : TyAgg P T) (hI : TyInfo P T s zs bs) (hres : fn.results = #[.cell t T]) {a : Act} (hr : Rep n a fr) {b : Nat} (hv : fget fr t = some (pB b 0)) {i : Nat} {t' : TypeId} {us : List Value} (hi : H[i]? = some (.blk b t' us)) (hl : us.length = s) {w : World} (hh : HeapOk w0 w H) :
    (results fn a.tmps).run P w = .ok (.agg us.toArray) w := by
  have hp := hr.val t _ hv
  rw [Array.getD_eq_getD_getElem?] at hp
  have := run_loadAgg (P := P) hT hI (w := w) (b := b) (o := 0) hl (fun j u hj => by rw [hh.blk (List.mem_of_getElem? hi)]; simpa using hj)
  simp only [Instr.loadAt, Instr.sureAddr, Sem.run_bind, Sem.run_pure, Result.andThen_ok] at this
  simp [results, hres, hp, pB, asAddr, this]
theorem G.retFVc {fn : Func} {t : Nat} {T : TypeId} {s bs : Nat} {zs : List Value} [hT : TyAgg P T] [hI : TyInfo P T s zs bs] {v : Value} {b : Nat} (i : Nat) {t' : TypeId} {us : List Value} (hres : fn.results = #[.cell t T]) (hv : fget fr t = some (pB b 0)) (hi : H[i]? = some (.blk b t' us)) (hl : Nat.beq us.length s = true) (he : Value.agg us.toArray = v) :
    G n w0 fr H (bodyPost P fn (fun e w' => e = .returned v ∧ HeapOk w0 w' []) .ret) :=
  fun _ _ hr hh => ⟨hr.defs, _, results_cell hT hI hres hr hv hi (Nat.eq_of_beq_eq_true hl) hh, by rw [he], hh.none⟩
theorem G.bu {fn : Func} {t : Nat} {T : TypeId} {s bs : Nat} {zs : List Value} [hT : TyAgg P T] [hI : TyInfo P T s zs bs] {X : Type} {φ : X → Prop} {rv : X → Value} {nw : X → List Ch} (x : X) (hφ : φ x) {b : Nat} (i : Nat) {t' : TypeId} {us : List Value} (hres : fn.results = #[.cell t T]) (hv : fget fr t = some (pB b 0)) (hi : H[i]? = some (.blk b t' us)) (hl : Nat.beq us.length s = true) (he : Value.agg us.toArray = rv x) (hH : ∀ w, HeapOk w0 w H → HeapOk w0 w (nw x)) :
    G n w0 fr H (bodyPost P fn (fun e w' => ∃ x, φ x ∧ e = .returned (rv x) ∧ HeapOk w0 w' (nw x)) .ret) :=
  fun _ w hr hh => ⟨hr.defs, _, results_cell hT hI hres hr hv hi (Nat.eq_of_beq_eq_true hl) hh, x, hφ, by rw [he], hH w hh⟩

/-! ### The call itself -/
theorem run_callFunc {f : FuncId} [hF : FnOk P f] (args : Array Value) (w : World) : (callFunc f args).run P w = .ok (.enter f args) w := by
  have := hF.h
  cases hf : P.funcs[f]? with
  | none => simp [hf] at this
  | some fn =>
    simp only [hf, Option.map_some, Option.some.injEq, Prod.mk.injEq] at this
    have h1 : ¬ fn.name = "runtime.NumGoroutine" := by simpa using this.1
    have h2 : ¬ fn.body = none := fun h => by simp [h] at this
    simp [callFunc, hf, h1, h2]

theorem run_call {f : FuncId} [hF : FnOk P f] {d : Option Tmp} {fo : Operand} {xs : List Operand} {vs caps : List Value} {ts : Array TypeId} {T : TypeId} {pos : String} {af : Array Edge} {gd : Option (Nat × Bool)} {a : Act} {w : World} (hr : Rep n a fr) (hf : opv fr fo = some (.func (.func f) #[] caps.toArray)) (hx : opvs fr xs = some vs) :
    (execOp a.eval ⟨d, .call ⟨.value fo, xs.toArray, ts⟩, T, pos, af, gd⟩).run P w = .ok (.enter f (vs ++ caps).toArray) w := by
  have := hr.opvs hx
  simp [execOp, resolve, hr.opv hf, Deferred.ofValue, invoke, run_callFunc, this]

section
variable {f : FuncId} [hF : FnOk P f] {fo : Operand} {xs : List Operand} {vs caps : List Value} {ts : Array TypeId}
theorem bh {v : Value} (hf : opv fr fo = some (.func (.func f) #[] caps.toArray)) (hx : opvs fr xs = some vs) (hc : ∀ w, HeapOk w0 w H → FnV P f (vs ++ caps) w v) :
    OpG P n w0 fr H (.call ⟨.value fo, xs.toArray, ts⟩) Triv (fun _ : Unit => v) (fun _ => H) :=
  fun a w hr hh d T pos af gd K hK => by
    unfold okAt; rw [run_call hr hf hx]
    exact Calls.mono (hc w hh) fun e w' ⟨he, hw⟩ => ⟨v, he, hK () _ trivial (by simpa using hh.call hw)⟩
theorem dv {X : Type} {φ : X → Prop} {rv : X → Value} {nw : X → List Ch} (hf : opv fr fo = some (.func (.func f) #[] caps.toArray)) (hx : opvs fr xs = some vs) (hc : ∀ w, HeapOk w0 w H → Fn P f (vs ++ caps) w φ rv nw) :
    OpG P n w0 fr H (.call ⟨.value fo, xs.toArray, ts⟩) φ rv (fun x => nw x ++ H) :=
  fun a w hr hh d T pos af gd K hK => by
    unfold okAt; rw [run_call hr hf hx]
    exact Calls.mono (hc w hh) fun e w' ⟨x, hφ, he, hw⟩ => ⟨_, he, hK x _ hφ (hh.call hw)⟩
end

/-! ### A store into a row -/
theorem flatten_set {s : Nat} : ∀ {es : List (List Value)} {k : Nat} {e e' : List Value}, (∀ e ∈ es, e.length = s) → es[k]? = some e → e'.length = s →
    (es.set k e').flatten = es.flatten.take (k * s) ++ e' ++ es.flatten.drop (k * s + s)
  | [], k, e, e', _, hk, _ => by simp at hk
  | x :: xs, 0, e, e', hl, hk, he => by
    have hx := hl x (List.mem_cons_self)
    simp only [List.set_cons_zero, List.flatten_cons, Nat.zero_mul, List.take_zero, List.nil_append, Nat.zero_add]
    rw [← hx, List.drop_left]
  | x :: xs, k + 1, e, e', hl, hk, he => by
    have hx := hl x (List.mem_cons_self)
    simp only [List.getElem?_cons_succ] at hk
    have ih := flatten_set (fun e he => hl e (List.mem_cons_of_mem _ he)) hk he
    simp only [List.set_cons_succ, List.flatten_cons, ih]
    rw [show (k + 1) * s = x.length + k * s from by rw [hx, Nat.succ_mul]; omega, List.take_length_add_append]
    rw [show x.length + k * s + s = x.length + (k * s + s) from by omega, List.drop_length_add_append]
    simp

theorem splice_seg (l : List Value) (p c : Nat) (us : List Value) (s : Nat) (e : List Value) (hp : p + s ≤ l.length) (hc : c + us.length ≤ s) (he : e = (l.drop p).take s) :
    l.take (p + c) ++ us ++ l.drop (p + c + us.length) = l.take p ++ (e.take c ++ us ++ e.drop (c + us.length)) ++ l.drop (p + s) := by
  subst he
  have h1 : l.take (p + c) = l.take p ++ ((l.drop p).take s).take c := by
    rw [List.take_take, Nat.min_eq_left (by omega), List.take_add]
  have h2 : l.drop (p + c + us.length) = ((l.drop p).take s).drop (c + us.length) ++ l.drop (p + s) := by
    rw [List.drop_take, List.drop_drop]
    have : l.drop (p + s) = (l.drop (p + (c + us.length))).drop (s - (c + us.length)) := by
      rw [List.drop_drop]; congr 1; omega
    rw [this, List.take_append_drop]; congr 1; omega
  rw [h1, h2]; simp

theorem flatten_elem {s : Nat} : ∀ {es : List (List Value)} {k : Nat} {e : List Value}, (∀ e ∈ es, e.length = s) → es[k]? = some e → e = (es.flatten.drop (k * s)).take s
  | [], k, e, _, hk => by simp at hk
  | x :: xs, 0, e, hl, hk => by
    have hx := hl x (List.mem_cons_self)
    simp only [List.getElem?_cons_zero, Option.some.injEq] at hk
    subst hk
    simp only [Nat.zero_mul, List.drop_zero, List.flatten_cons]
    rw [← hx, List.take_left]
  | x :: xs, k + 1, e, hl, hk => by
    have hx := hl x (List.mem_cons_self)
    simp only [List.getElem?_cons_succ] at hk
    have ih := flatten_elem (fun e he => hl e (List.mem_cons_of_mem _ he)) hk
    rw [List.flatten_cons, show (k + 1) * s = x.length + k * s from by rw [hx, Nat.succ_mul]; omega, List.drop_length_add_append]
    exact ih

theorem og_storeE {x y : Operand} {t : TypeId} {z bs : Nat} {zs : List Value} [hI : TyInfo P t z zs bs] {v : Value} {s k c : Nat} (i : Nat) {t' : TypeId} {es : List (List Value)} {e us e' : List Value} {u : Value}
    (hx : opv fr x = some (pE v s k c)) (hy : opv fr y = some u) (hi : H[i]? = some (.row v t' s es)) (hk : es[k]? = some e) (hu : u.cells = us.toArray) (hl : Nat.beq us.length z = true) (h1 : us.all Value.oneCell' = true) (hc : Nat.ble (c + us.length) s = true)
    (he : e.take c ++ us ++ e.drop (c + us.length) = e') : OpG P n w0 fr H (.store t x y) Triv (fun _ : Unit => undef) (fun _ => H.set i (.row v t' s (es.set k e'))) :=
  fun a w hr hh d T pos af gd K hK => by
    have hf := hh.front hi
    obtain ⟨hrow, hgood⟩ := hf.ok _ (List.mem_cons_self)
    have hlen := fun e he => (hgood e he).1
    have hkl : k < es.length := by
      rcases Nat.lt_or_ge k es.length with h | h
      · exact h
      · rw [List.getElem?_eq_none h] at hk; cases hk
    have hcs := Nat.le_of_ble_eq_true hc
    have hel : e.length = s := hlen e (List.mem_of_getElem? hk)
    have hfl := cm hlen
    have hks : k * s + s ≤ es.length * s := by
      have : (k + 1) * s ≤ es.length * s := Nat.mul_le_mul_right s hkl
      rwa [Nat.succ_mul] at this
    rcases hrow.2 with ⟨rfl, hn⟩ | ⟨g, cap, cur, rfl, hB, hg, hle, hcm, hsz, htk⟩
    · omega
    · have hcap : es.length * s ≤ cap * s := Nat.mul_le_mul_right s hle
      obtain ⟨ii, zz, g1, g2, g3, g4, g5⟩ := hI.get
      have hl' := Nat.eq_of_beq_eq_true hl
      have hst := run_storeCells_at P g (k * s + c) t' us 0 cur w hg (by omega) (by simpa using h1)
      simp only [Nat.add_zero] at hst
      have hrun : (execOp a.eval ⟨d, .store t x y, T, pos, af, gd⟩).run P w = .ok .skip (w.setRow g (cur.toList.take (k * s + c) ++ us ++ cur.toList.drop (k * s + c + us.length)).toArray) := by
        have hz : (Instr.storeAt t (.pointer (some ⟨g, k * s + c, none⟩)) u).run P w = .ok () (w.setRow g (cur.toList.take (k * s + c) ++ us ++ cur.toList.drop (k * s + c + us.length)).toArray) := by
          subst hl'
          simp [Instr.storeAt, Instr.sureAddr, storeVar, sizeOf, typeInfo, g1, g2, hu, hst]
        have hpe : pE (.slice (some ⟨g, 0, none⟩) es.length cap) s k c = .pointer (some ⟨g, k * s + c, none⟩) := by simp [pE, blkOf, offOf]
        rw [hpe] at hx
        simp only [execOp, hr.opv hx, hr.opv hy, Sem.run_bind, hz, Result.andThen_ok, Sem.run_pure]
      unfold okAt; rw [hrun]
      have hel2 : e = (cur.toList.drop (k * s)).take s := by
        have := flatten_elem hlen hk
        rw [this, ← htk, List.drop_take, List.take_take]
        congr 1; omega
      have hsplice := splice_seg cur.toList (k * s) c us s e (by rw [Array.length_toList, hsz]; omega) hcs hel2
      rw [he] at hsplice
      have he'l : e'.length = s := by
        rw [← he]; simp only [List.length_append, List.length_take, List.length_drop]; omega
      refine hK () _ trivial (HeapOk.perm ?_ (dS hi))
      have hnewlen : (cur.toList.take (k * s + c) ++ us ++ cur.toList.drop (k * s + c + us.length)).length = cur.size := by
        simp only [List.length_append, List.length_take, List.length_drop, Array.length_toList]; omega
      refine ⟨hf.below.trans ⟨rfl, rfl, rfl, by simp, fun q hq => setRow_other w g q _ (by omega)⟩, fun d hd => ?_, ?_⟩
      · rcases List.mem_cons.1 hd with rfl | hd
        · refine ⟨⟨?_, .inr ⟨g, cap, _, by simp, hB, setRow_heap w g cur _ t' _ hg, by simpa using hle, hcm, by rw [List.size_toArray, hnewlen, hsz], ?_⟩⟩, fun e0 he0 => ?_⟩
          · rw [flatten_set hlen hk he'l, List.length_append, List.length_append, List.length_take, List.length_drop, hfl, he'l, List.length_set]; omega
          · simp only [List.length_set, List.toList_toArray]
            rw [hsplice, flatten_set hlen hk he'l, ← htk, List.drop_take]
            rw [List.take_append, List.take_append]
            simp only [List.length_append, List.length_take, Array.length_toList, he'l]
            have m1 : min (k * s) cur.size = k * s := by omega
            rw [m1, List.take_take, List.take_take]
            have m2 : min (es.length * s) (k * s) = k * s := by omega
            have m3 : min (k * s) (es.length * s) = k * s := by omega
            rw [m2, m3, List.take_of_length_le (l := e') (by omega)]
          · rcases List.mem_or_eq_of_mem_set he0 with he0 | rfl
            · exact hgood e0 he0
            · refine ⟨he'l, fun q hq => ?_⟩
              rw [← he] at hq
              have hge := (hgood e (List.mem_of_getElem? hk)).2
              rcases List.mem_append.1 hq with hq | hq
              · rcases List.mem_append.1 hq with hq | hq
                · exact hge q (List.mem_of_mem_take hq)
                · exact List.all_eq_true.1 h1 q hq
              · exact hge q (List.mem_of_mem_drop hq)
        · have hd' := hf.ok d (List.mem_cons_of_mem _ hd)
          refine Ch.ok_of hd' fun q hq => setRow_other w g q _ ?_
          have := (List.pairwise_cons.1 hf.ap).1 d hd g rfl
          rintro rfl
          exact this hq
      · have := List.pairwise_cons.1 hf.ap
        exact List.pairwise_cons.2 ⟨fun d hd q hq => this.1 d hd q hq, this.2⟩

end

def Ext (w w' : World) : Prop := Below w.heap.size w w'
theorem Ext.refl (w : World) : Ext w w := Below.refl _ _
theorem Ext.trans {a b c : World} (h : Ext a b) (k : Ext b c) : Ext a c := Below.trans h (Below.mono k h.size)

section
variable {P : Program} {ops : Array Oper} {Q : Exit → Act → World → Prop} {C : World → Prop} {qs : List Nat}

theorem okUpon_mono {K K' : Value → World → Prop} (h : ∀ v w, K v w → K' v w) : ∀ {r : Result Next}, okUpon P K r → okUpon P K' r := by
  intro r hr
  cases r with
  | ok x w' =>
    cases x <;> simp only [okUpon] at hr ⊢ <;> first
      | exact h _ _ hr
      | exact Calls.mono hr fun e w'' ⟨v, he, hv⟩ => ⟨v, he, h _ _ hv⟩
  | halt x w' => simp only [okUpon] at hr

def okOp (P : Program) (ops : Array Oper) (i : Nat) (K : Act → World → Prop) (a : Act) (w : World) : Prop :=
  match ops[i]? with
  | none => K a w
  | some o => if Region.wanted o (yielded ops a.tmps) then okAt P o a w (fun v w' => K (a.put o.dst v) w') else K (a.put o.dst undef) w

theorem okOp_mono {i : Nat} {a : Act} {w : World} {K K' : Act → World → Prop} (h : ∀ a w, K a w → K' a w) (hh : okOp P ops i K a w) : okOp P ops i K' a w := by
  unfold okOp at *
  split
  · rename_i ho; simp only [ho] at hh; exact h _ _ hh
  · rename_i o ho
    simp only [ho] at hh
    split
    · rename_i hw; simp only [hw, if_true] at hh; exact okUpon_mono (fun v w hk => h _ _ hk) hh
    · rename_i hw; simp only [hw] at hh; exact h _ _ hh

theorem wpOp_of_ok {i : Nat} {a : Act} {w : World} {K : Act → World → Prop} (h : okOp P ops i K a w) : wpOp P ops Q i K a w := by
  unfold okOp at h
  unfold wpOp
  split
  · rename_i ho; simpa [ho] using h
  · rename_i o ho
    simp only [ho] at h
    split
    · rename_i hw
      simp only [hw, if_true] at h
      exact .inl (wp_of_okAt h)
    · rename_i hw; simp only [hw] at h; exact h

/-- Operation j waits for operation i, by an edge of its own. -/
def waitsB (ops : Array Oper) (j i : Nat) : Bool :=
  match ops[j]? with
  | some oj => oj.after.any fun e => Region.binds .any e && e.on == i
  | none => false

/-- Whatever order is taken; whatever more lies there. The class is asked behind every operation but those of 'qs' (the tail's). -/
def wpE (P : Program) (ops : Array Oper) (Q : Exit → Act → World → Prop) (qs : List Nat) (C : World → Prop) : Nat → Array Bool → Act → World → Prop
  | 0, listed, a, w => ∀ w1, Ext w w1 → Region.ready .any ops listed = [] ∧ Q .normal a w1
  | f + 1, listed, a, w => ∀ w1, Ext w w1 → (Region.ready .any ops listed = [] → Q .normal a w1) ∧
      ∀ i ∈ Region.ready .any ops listed, okOp P ops i (fun a' w' => (qs.contains i = false → C w') ∧ wpE P ops Q qs C f (listed.setIfInBounds i true) a' w') a w1

theorem wpE.ext : ∀ {f : Nat} {listed : Array Bool} {a : Act} {w w1 : World}, wpE P ops Q qs C f listed a w → Ext w w1 → wpE P ops Q qs C f listed a w1
  | 0, _, _, _, _, h, e => fun w2 e2 => h w2 (e.trans e2)
  | _ + 1, _, _, _, _, h, e => fun w2 e2 => h w2 (e.trans e2)

theorem wpAny_of_E : ∀ (f : Nat) (listed : Array Bool) (a : Act) (w : World), wpE P ops Q qs C f listed a w → wpAny P .any ops Q f listed a w
  | 0, _, _, _, h => h _ (Ext.refl _)
  | f + 1, _, _, w, h => ⟨(h w (Ext.refl _)).1, fun i hi => wpOp_of_ok (okOp_mono (fun a' w' hk => wpAny_of_E f _ a' w' hk.2) ((h w (Ext.refl _)).2 i hi))⟩

/-- A quiet operation: one value in every world of the class, and nothing turned but that more may lie there. -/
def quietE (P : Program) (C : World → Prop) (o : Oper) (v : Value) (a : Act) : Prop := ∀ w, C w → okAt P o a w fun u w' => u = v ∧ Ext w w'

def YieldsE (P : Program) (ops : Array Oper) (C : World → Prop) (o : Oper) (v : Value) (a : Act) : Prop :=
  (Region.wanted o (yielded ops a.tmps) = true ∧ quietE P C o v a) ∨ (Region.wanted o (yielded ops a.tmps) = false ∧ v = undef)

theorem YieldsE.ok {i : Nat} {o : Oper} {v : Value} {a : Act} (hi : ops[i]? = some o) (hy : YieldsE P ops C o v a) {K : Act → World → Prop} {w : World} (hw : C w) (h : ∀ w', Ext w w' → K (a.put o.dst v) w') : okOp P ops i K a w := by
  unfold okOp
  simp only [hi]
  rcases hy with ⟨h1, h2⟩ | ⟨h1, rfl⟩
  · simp only [h1, if_true]
    exact okUpon_mono (fun u w' ⟨hu, he⟩ => by subst hu; exact h w' he) (h2 w hw)
  · simp only [h1, Bool.false_eq_true, if_false]
    exact h w (Ext.refl w)

theorem YieldsE.of_same {o : Oper} {v : Value} {a a' : Act} (hy : YieldsE P ops C o v a) (he : execOp a'.eval o = execOp a.eval o) (hw : Region.wanted o (yielded ops a'.tmps) = Region.wanted o (yielded ops a.tmps)) : YieldsE P ops C o v a' := by
  unfold YieldsE quietE okAt at *
  rw [he, hw]; exact hy

theorem okOp_put {j : Nat} {oi oj : Oper} {v : Value} (hj : ops[j]? = some oj) (hap : oi.apart ops oj = true)
    (hsi : ∀ cs b, oi.op ≠ .select cs b) (hsj : ∀ cs b, oj.op ≠ .select cs b) {K : Act → World → Prop} {a : Act} {w : World}
    (hy : YieldsE P ops C oi v a) (h : okOp P ops j K (a.put oi.dst v) w) :
    okOp P ops j (fun a' w' => YieldsE P ops C oi v a' ∧ K (a'.put oi.dst v) w') a w := by
  obtain ⟨h1, h2, h3⟩ := Oper.apart_spec hap
  have keep : ∀ (a : Act), YieldsE P ops C oi v a → ∀ u, YieldsE P ops C oi v (a.put oj.dst u) := fun a hy u =>
    hy.of_same (execOp_put oi hsi a oj.dst u h3) (wanted_put oi a oj.dst u h3)
  unfold okOp at *
  simp only [hj] at *
  rw [wanted_put oj a oi.dst v h1] at h
  split
  · rename_i hw
    simp only [hw, if_true] at h
    unfold okAt at *
    rw [execOp_put oj hsj a oi.dst v h1] at h
    exact okUpon_mono (fun u w' hk => ⟨keep a hy u, by rw [← Act.put_comm a v u h2]; exact hk⟩) h
  · rename_i hw
    simp only [hw] at h
    exact ⟨keep a hy _, by rw [← Act.put_comm a v undef h2]; exact h⟩

theorem wpE_first {i : Nat} {oi : Oper} {v : Value} (hq : ∀ j, qs.contains j = true → waitsB ops j i = true) (hi : ops[i]? = some oi) (hsel : ∀ (j : Nat) (o : Oper) cs b, ops[j]? = some o → o.op ≠ .select cs b) (hC : ∀ w w', C w → Ext w w' → C w') :
    ∀ (f : Nat) (listed : Array Bool) (a : Act) (w : World),
      (∀ j oj, ops[j]? = some oj → j ≠ i → listed.getD j true = false → (∀ e ∈ oj.after, Region.binds .any e = true → e.on ≠ i) → oi.apart ops oj = true) →
      i ∈ Region.ready .any ops listed → YieldsE P ops C oi v a → C w →
      wpE P ops Q qs C f (listed.setIfInBounds i true) (a.put oi.dst v) w → wpE P ops Q qs C (f + 1) listed a w := by
  intro f
  induction f with
  | zero =>
    intro listed a w _ hr hy hw H w1 he
    refine ⟨fun h => (by rw [h] at hr; cases hr), fun j hj => ?_⟩
    by_cases hji : j = i
    · subst hji
      exact hy.ok hi (hC _ _ hw he) fun w' he' => ⟨fun _ => hC _ _ hw (he.trans he'), H.ext (he.trans he')⟩
    · have := ready_mono hj hji
      rw [(H w (Ext.refl _)).1] at this
      cases this
  | succ f ih =>
    intro listed a w hfree hr hy hw H w1 he
    refine ⟨fun h => (by rw [h] at hr; cases hr), fun j hj => ?_⟩
    by_cases hji : j = i
    · subst hji
      exact hy.ok hi (hC _ _ hw he) fun w' he' => ⟨fun _ => hC _ _ hw (he.trans he'), H.ext (he.trans he')⟩
    · have h1 := (H w1 he).2 j (ready_mono hj hji)
      obtain ⟨hjun, oj, hoj, hall⟩ := mem_ready.1 hj
      have hnot : ∀ e ∈ oj.after, Region.binds .any e = true → e.on ≠ i := fun e he hb heq => by
        have h1 := hall e he hb
        have h0 := (mem_ready.1 hr).1
        rw [heq] at h1
        rcases Nat.lt_or_ge i listed.size with h' | h'
        · simp [h'] at h0 h1; rw [h0] at h1; cases h1
        · simp [Array.getElem?_eq_none h'] at h1
      have h2 := okOp_put hoj (hfree j oj hoj hji hjun hnot) (fun cs b => hsel i oi cs b hi) (fun cs b => hsel j oj cs b hoj) hy h1
      have hfree' : ∀ k ok, ops[k]? = some ok → k ≠ i → (listed.setIfInBounds j true).getD k true = false →
          (∀ e ∈ ok.after, Region.binds .any e = true → e.on ≠ i) → oi.apart ops ok = true := fun k ok hk hki hun hno => by
        refine hfree k ok hk hki ?_ hno
        by_cases hjk : j = k
        · subst hjk; exact hjun
        · rw [getD_set_ne true hjk] at hun; exact hun
      have hjq : qs.contains j = false := by
        cases hcj : qs.contains j with
        | false => rfl
        | true =>
          have hwj := hq j hcj
          unfold waitsB at hwj
          rw [hoj] at hwj
          obtain ⟨e, he, hb⟩ := Array.any_eq_true'.1 hwj
          simp only [Bool.and_eq_true, beq_iff_eq] at hb
          exact absurd hb.2 (hnot e he hb.1)
      refine okOp_mono (fun a' w' ⟨hy', hc', h3⟩ => ⟨hc', ih (listed.setIfInBounds j true) a' w' hfree' (ready_mono hr (Ne.symm hji)) hy' (hc' hjq) ?_⟩) h2
      rw [Array.setIfInBounds_comm _ _ hji]
      exact h3

/-- Each operation in its turn, whichever is ready. -/
theorem wpE_all {rs : List Nat} {f : Nat} {listed : Array Bool} {a : Act} {w : World} (hr : Region.ready .any ops listed = rs) (hne : rs ≠ [])
    (h : ∀ w1, Ext w w1 → ∀ i ∈ rs, okOp P ops i (fun a' w' => (qs.contains i = false → C w') ∧ wpE P ops Q qs C f (listed.setIfInBounds i true) a' w') a w1) : wpE P ops Q qs C (f + 1) listed a w :=
  fun w1 he => ⟨fun h0 => absurd (hr ▸ h0) hne, hr ▸ h w1 he⟩

theorem wpE_done {listed : Array Bool} {a : Act} {w : World} (hr : Region.ready .any ops listed = []) (h : ∀ w1, Ext w w1 → Q .normal a w1) : ∀ f, wpE P ops Q qs C f listed a w
  | 0 => fun w1 he => ⟨hr, h w1 he⟩
  | _ + 1 => fun w1 he => ⟨fun _ => h w1 he, by rw [hr]; simp⟩
end

theorem HeapOk.ext {w0 w w' : World} {H : List Ch} (h : HeapOk w0 w H) (e : Ext w w') : HeapOk w0 w' H := by
  have := h.call (N := []) ⟨e, by simp, List.Pairwise.nil⟩
  simpa using this

section
variable {P : Program} {n : Nat} {w0 : World} {fr : Fr} {H HC : List Ch} {Q : Exit → Act → World → Prop} {ops : Array Oper}

/-- The state within a region that draws. -/
def GE (P : Program) (ops : Array Oper) (Q : Exit → Act → World → Prop) (qs : List Nat) (n : Nat) (w0 : World) (HC : List Ch) (f : Nat) (listed : Array Bool) (fr : Fr) (H : List Ch) : Prop :=
  G n w0 fr H (wpE P ops Q qs (fun w => HeapOk w0 w HC) f listed)

class Wide (P : Program) : Prop where
  h : P.follows .mixedOrders = true

theorem G.draw [hW : Wide P] {id : Nat} {l : List Oper} (qs : List Nat) (HC : List Ch) (f : Nat) (listed : Array Bool) (hf : Nat.beq l.length f = true) (hl : Array.replicate f false = listed)
    (h : GE P l.toArray Q qs n w0 HC f listed fr H) : G n w0 fr H ((Code.region id l.toArray true).wp P Q) := by
  intro a w hr hh
  have hf' := Nat.eq_of_beq_eq_true hf
  subst hf'
  refine wp_region_any hW.h (wpAny_of_E (qs := qs) (C := fun w => HeapOk w0 w HC) _ _ _ _ ?_)
  rw [List.size_toArray, hl]
  exact h a _ hr hh.drew

/-- What is asked of a quiet operation. -/
def QuietG (P : Program) (n : Nat) (w0 : World) (fr : Fr) (HC : List Ch) (o : Op) (v : Value) : Prop :=
  ∀ a w, Rep n a fr → HeapOk w0 w HC → ∀ (d : Option Tmp) (T : TypeId) (pos : String) (af : Array Edge) (gd : Option (Nat × Bool)), okAt P ⟨d, o, T, pos, af, gd⟩ a w fun u w' => u = v ∧ Ext w w'

theorem bc {o : Op} {v : Value} (h : RunsV P n w0 fr HC o v) : QuietG P n w0 fr HC o v := fun a w hr hh d T pos af gd => by
  unfold okAt; rw [h a w hr hh d T pos af gd]; exact ⟨rfl, Ext.refl _⟩
theorem cY {f : FuncId} [hF : FnOk P f] {fo : Operand} {xs : List Operand} {vs caps : List Value} {ts : Array TypeId} {v : Value}
    (hf : opv fr fo = some (.func (.func f) #[] caps.toArray)) (hx : opvs fr xs = some vs) (hc : ∀ w, HeapOk w0 w HC → FnV P f (vs ++ caps) w v) : QuietG P n w0 fr HC (.call ⟨.value fo, xs.toArray, ts⟩) v := fun a w hr hh d T pos af gd => by
  unfold okAt; rw [run_call hr hf hx]
  exact Calls.mono (hc w hh) fun e w' ⟨he, hw⟩ => ⟨v, he, rfl, hw.below⟩

/-- The guard of an operation, as it stands. -/
def guardIs (ops : Array Oper) (fr : Fr) : Option (Nat × Bool) → Option Bool
  | none => some true
  | some (j, b) => match (ops[j]?).bind (·.dst) with
    | some t => match fget fr t with
      | some (.bool c) => some (c == b)
      | some (.tuple _) => some false
      | _ => none
    | none => none

theorem wanted_of {a : Act} (hr : Rep n a fr) {o : Oper} {c : Bool} (h : guardIs ops fr o.guard = some c) : Region.wanted o (yielded ops a.tmps) = c := by
  unfold Region.wanted
  cases hg : o.guard with
  | none => rw [hg] at h; simp only [guardIs, Option.some.injEq] at h; exact h
  | some x =>
    obtain ⟨j, b⟩ := x
    rw [hg] at h
    simp only [guardIs] at h
    split at h
    · rename_i t ht
      split at h
      · rename_i u hu
        simp only [Option.some.injEq] at h
        simp only [yields hr ht hu]
        subst h
        cases u <;> cases b <;> rfl
      · rename_i u hu
        simp only [Option.some.injEq] at h
        simp only [yieldsU hr ht hu]
        subst h
        cases b <;> rfl
      · cases h
    · cases h

theorem bd {o : Op} {v : Value} (h : RunsV P n w0 fr H o v) : OpG P n w0 fr H o Triv (fun _ : Unit => v) (fun _ => H) := fun a w hr hh d T pos af gd K hK => by
  unfold okAt; rw [h a w hr hh d T pos af gd]; exact hK () w trivial hh
/-- May operation i be taken first? -/
def firstB (ops : Array Oper) (qs : List Nat) (listed : Array Bool) (i : Nat) (listed' : Array Bool) : Bool :=
  Region.noSelect ops && Region.free .any ops listed i && (Region.ready .any ops listed).contains i && (qs.all fun j => waitsB ops j i) && (listed.setIfInBounds i true == listed')
/-- Is operation i the only one that is ready? -/
def onlyB (ops : Array Oper) (listed : Array Bool) (i : Nat) (listed' : Array Bool) : Bool :=
  (Region.ready .any ops listed == [i]) && (listed.setIfInBounds i true == listed')

theorem firstB_spec {qs : List Nat} {listed listed' : Array Bool} {i : Nat} (h : firstB ops qs listed i listed' = true) :
    Region.noSelect ops = true ∧ Region.free .any ops listed i = true ∧ i ∈ Region.ready .any ops listed ∧ (∀ j, qs.contains j = true → waitsB ops j i = true) ∧ listed.setIfInBounds i true = listed' := by
  simp only [firstB, Bool.and_eq_true, List.all_eq_true, List.contains_iff_mem, beq_iff_eq] at h
  obtain ⟨⟨⟨⟨h1, h2⟩, h3⟩, h4⟩, h5⟩ := h
  exact ⟨h1, h2, h3, fun j hj => h4 j (by simpa using hj), h5⟩

section
variable {qs : List Nat} {f i d : Nat} {listed listed' : Array Bool} {o : Op} {T : TypeId} {pos : String} {af : Array Edge} {gd : Option (Nat × Bool)}
/-- A quiet operation is taken first. -/
theorem GE.quiet {v : Value} (hi : ops[i]? = some ⟨some d, o, T, pos, af, gd⟩) (hB : firstB ops qs listed i listed' = true) (hg : guardIs ops fr gd = some true)
    (hq : QuietG P n w0 fr HC o v) (hH : ∀ w, HeapOk w0 w H → HeapOk w0 w HC) (hd : Nat.ble (d + 1) n = true)
    (h : GE P ops Q qs n w0 HC f listed' ((d, v) :: fr) H) : GE P ops Q qs n w0 HC (f + 1) listed fr H := by
  intro a w hra hh
  obtain ⟨h1, h2, h3, h4, h5⟩ := firstB_spec hB
  refine wpE_first h4 hi (Region.noSelect_spec h1) (fun w w' hw e => HeapOk.ext hw e) f listed a w (Region.free_spec hi h2) h3 (.inl ⟨wanted_of hra hg, fun w' hw' => hq a w' hra hw' _ _ _ _ _⟩) (hH w hh) ?_
  rw [h5]
  exact h _ _ (hra.put (Nat.le_of_ble_eq_true hd) v) hh
theorem GE.skip (hi : ops[i]? = some ⟨some d, o, T, pos, af, gd⟩) (hB : firstB ops qs listed i listed' = true) (hg : guardIs ops fr gd = some false)
    (hH : ∀ w, HeapOk w0 w H → HeapOk w0 w HC) (hd : Nat.ble (d + 1) n = true)
    (h : GE P ops Q qs n w0 HC f listed' ((d, undef) :: fr) H) : GE P ops Q qs n w0 HC (f + 1) listed fr H := by
  intro a w hra hh
  obtain ⟨h1, h2, h3, h4, h5⟩ := firstB_spec hB
  refine wpE_first h4 hi (Region.noSelect_spec h1) (fun w w' hw e => HeapOk.ext hw e) f listed a w (Region.free_spec hi h2) h3 (.inr ⟨wanted_of hra hg, rfl⟩) (hH w hh) ?_
  rw [h5]
  exact h _ _ (hra.put (Nat.le_of_ble_eq_true hd) undef) hh
/-- A test that is not known yet. -/
theorem GE.part {t : Nat} {b : Bool} (ht : fget fr t = some (.bool b)) (h1 : b = true → GE P ops Q qs n w0 HC f listed ((t, .bool true) :: fr) H) (h2 : b = false → GE P ops Q qs n w0 HC f listed ((t, .bool false) :: fr) H) : GE P ops Q qs n w0 HC f listed fr H :=
  G.part ht h1 h2
/-- All have been carried out. -/
theorem GE.E (hr : Region.ready .any ops listed = []) (h : G n w0 fr H (Q .normal)) : GE P ops Q qs n w0 HC f listed fr H :=
  fun a _ hra hh => wpE_done hr (fun w1 e => h a w1 hra (hh.ext e)) f

theorem GE.one {o : Oper} (hB : onlyB ops listed i listed' = true) (hi : ops[i]? = some o) (hg : guardIs ops fr o.guard = some true)
    (h : ∀ a w, Rep n a fr → HeapOk w0 w H → okAt P o a w fun v w' => (qs.contains i = false → HeapOk w0 w' HC) ∧ wpE P ops Q qs (fun w => HeapOk w0 w HC) f listed' (a.put o.dst v) w') : GE P ops Q qs n w0 HC (f + 1) listed fr H := by
  intro a w hra hh
  simp only [onlyB, Bool.and_eq_true, beq_iff_eq] at hB
  refine wpE_all hB.1 (by simp) fun w1 he j hj => ?_
  simp only [List.mem_singleton] at hj
  subst hj
  unfold okOp
  simp only [hi, wanted_of hra hg, if_true]
  rw [hB.2]
  exact h a w1 hra (hh.ext he)
/-- The tail: an operation that alone is ready, of those behind which no class is asked. -/
theorem GE.opT {X : Type} {φ : X → Prop} {val : X → Value} {H' : X → List Ch} (hB : onlyB ops listed i listed' = true) (hT : qs.contains i = true) (hi : ops[i]? = some ⟨some d, o, T, pos, af, gd⟩) (hg : guardIs ops fr gd = some true)
    (ho : OpG P n w0 fr H o φ val H') (hd : Nat.ble (d + 1) n = true) (h : ∀ x, φ x → GE P ops Q qs n w0 HC f listed' ((d, val x) :: fr) (H' x)) : GE P ops Q qs n w0 HC (f + 1) listed fr H :=
  GE.one hB hi hg fun a w hra hh => ho a w hra hh _ _ _ _ _ _ fun x w' hx hw => ⟨fun h => (by rw [hT] at h; cases h), h x hx _ _ (hra.put (Nat.le_of_ble_eq_true hd) _) hw⟩
theorem GE.opT0 {X : Type} {φ : X → Prop} {val : X → Value} {H' : X → List Ch} (hB : onlyB ops listed i listed' = true) (hT : qs.contains i = true) (hi : ops[i]? = some ⟨none, o, T, pos, af, gd⟩) (hg : guardIs ops fr gd = some true)
    (ho : OpG P n w0 fr H o φ val H') (h : ∀ x, φ x → GE P ops Q qs n w0 HC f listed' fr (H' x)) : GE P ops Q qs n w0 HC (f + 1) listed fr H :=
  GE.one hB hi hg fun a w hra hh => ho a w hra hh _ _ _ _ _ _ fun x w' hx hw => ⟨fun h => (by rw [hT] at h; cases h), h x hx _ _ (hra.put_none _) hw⟩
/-- An operation that alone is ready; the class stays. -/
theorem GE.op {X : Type} {φ : X → Prop} {val : X → Value} {H' : X → List Ch} (hB : onlyB ops listed i listed' = true) (hi : ops[i]? = some ⟨some d, o, T, pos, af, gd⟩) (hg : guardIs ops fr gd = some true)
    (ho : OpG P n w0 fr H o φ val H') (hd : Nat.ble (d + 1) n = true) (hH : ∀ x w, HeapOk w0 w (H' x) → HeapOk w0 w HC) (h : ∀ x, φ x → GE P ops Q qs n w0 HC f listed' ((d, val x) :: fr) (H' x)) : GE P ops Q qs n w0 HC (f + 1) listed fr H :=
  GE.one hB hi hg fun a w hra hh => ho a w hra hh _ _ _ _ _ _ fun x w' hx hw => ⟨fun _ => hH x w' hw, h x hx _ _ (hra.put (Nat.le_of_ble_eq_true hd) _) hw⟩
/-- Several are ready. -/
theorem GE.any {rs : List Nat} (hr : Region.ready .any ops listed = rs) (hne : rs ≠ []) (h : ∀ i ∈ rs, G n w0 fr H (okOp P ops i fun a' w' => (qs.contains i = false → HeapOk w0 w' HC) ∧ wpE P ops Q qs (fun w => HeapOk w0 w HC) f (listed.setIfInBounds i true) a' w')) : GE P ops Q qs n w0 HC (f + 1) listed fr H :=
  fun a w hra hh => wpE_all hr hne fun w1 he j hj => h j hj a w1 hra (hh.ext he)
/-- One of several: the operation of a 'GE.any'. -/
theorem GE.I {X : Type} {φ : X → Prop} {val : X → Value} {H' : X → List Ch} (hi : ops[i]? = some ⟨some d, o, T, pos, af, gd⟩) (hg : guardIs ops fr gd = some true) (hl : listed.setIfInBounds i true = listed')
    (ho : OpG P n w0 fr H o φ val H') (hd : Nat.ble (d + 1) n = true) (hH : ∀ x w, HeapOk w0 w (H' x) → HeapOk w0 w HC) (h : ∀ x, φ x → GE P ops Q qs n w0 HC f listed' ((d, val x) :: fr) (H' x)) :
    G n w0 fr H (okOp P ops i fun a' w' => (qs.contains i = false → HeapOk w0 w' HC) ∧ wpE P ops Q qs (fun w => HeapOk w0 w HC) f (listed.setIfInBounds i true) a' w') := by
  intro a w hra hh
  unfold okOp
  have hw := wanted_of (ops := ops) hra (o := ⟨some d, o, T, pos, af, gd⟩) hg
  simp only [hi, hw, if_true]
  rw [hl]
  exact ho a w hra hh _ _ _ _ _ _ fun x w' hx hw => ⟨fun _ => hH x w' hw, h x hx _ _ (hra.put (Nat.le_of_ble_eq_true hd) _) hw⟩

/-! Short forms. -/
theorem G.ba [hW : Wide P] {id : Nat} {l : List Oper} (qs : List Nat)
    (h : GE P l.toArray Q qs n w0 H l.length (Array.replicate l.length false) fr H) : G n w0 fr H ((Code.region id l.toArray true).wp P Q) := G.draw qs H l.length _ (by simp) rfl h
def firstL (ops : Array Oper) (qs : List Nat) (listed : Array Bool) (i : Nat) : Bool := firstB ops qs listed i (listed.setIfInBounds i true)
def onlyL (ops : Array Oper) (listed : Array Bool) (i : Nat) : Bool := Region.ready .any ops listed == [i]
theorem GE.q (i : Nat) {v : Value} (hi : ops[i]? = some ⟨some d, o, T, pos, af, gd⟩) (hB : firstL ops qs listed i = true) (hg : guardIs ops fr gd = some true)
    (hq : QuietG P n w0 fr H o v) (hd : Nat.ble (d + 1) n = true)
    (h : GE P ops Q qs n w0 H f (listed.setIfInBounds i true) ((d, v) :: fr) H) : GE P ops Q qs n w0 H (f + 1) listed fr H := GE.quiet hi hB hg hq (fun _ h => h) hd h
theorem GE.O (i : Nat) (hi : ops[i]? = some ⟨some d, o, T, pos, af, gd⟩) (hB : firstL ops qs listed i = true) (hg : guardIs ops fr gd = some false) (hd : Nat.ble (d + 1) n = true)
    (h : GE P ops Q qs n w0 H f (listed.setIfInBounds i true) ((d, undef) :: fr) H) : GE P ops Q qs n w0 H (f + 1) listed fr H := GE.skip hi hB hg (fun _ h => h) hd h
theorem onlyB_of (h : onlyL ops listed i = true) : onlyB ops listed i (listed.setIfInBounds i true) = true := by
  simp only [onlyL, onlyB, Bool.and_eq_true] at *
  exact ⟨h, by simp⟩
theorem GE.t (i : Nat) {X : Type} {φ : X → Prop} {val : X → Value} {H' : X → List Ch} (hB : onlyL ops listed i = true) (hT : qs.contains i = true) (hi : ops[i]? = some ⟨some d, o, T, pos, af, gd⟩) (hg : guardIs ops fr gd = some true)
    (ho : OpG P n w0 fr H o φ val H') (hd : Nat.ble (d + 1) n = true) (h : ∀ x, φ x → GE P ops Q qs n w0 HC f (listed.setIfInBounds i true) ((d, val x) :: fr) (H' x)) : GE P ops Q qs n w0 HC (f + 1) listed fr H := GE.opT (onlyB_of hB) hT hi hg ho hd h
theorem GE.U (i : Nat) {X : Type} {φ : X → Prop} {val : X → Value} {H' : X → List Ch} (hB : onlyL ops listed i = true) (hT : qs.contains i = true) (hi : ops[i]? = some ⟨none, o, T, pos, af, gd⟩) (hg : guardIs ops fr gd = some true)
    (ho : OpG P n w0 fr H o φ val H') (h : ∀ x, φ x → GE P ops Q qs n w0 HC f (listed.setIfInBounds i true) fr (H' x)) : GE P ops Q qs n w0 HC (f + 1) listed fr H := GE.opT0 (onlyB_of hB) hT hi hg ho h
theorem GE.V (i : Nat) {X : Type} {φ : X → Prop} {val : X → Value} {H' : X → List Ch} (hB : onlyL ops listed i = true) (hi : ops[i]? = some ⟨some d, o, T, pos, af, gd⟩) (hg : guardIs ops fr gd = some true)
    (ho : OpG P n w0 fr H o φ val H') (hd : Nat.ble (d + 1) n = true) (hH : ∀ x w, HeapOk w0 w (H' x) → HeapOk w0 w HC) (h : ∀ x, φ x → GE P ops Q qs n w0 HC f (listed.setIfInBounds i true) ((d, val x) :: fr) (H' x)) : GE P ops Q qs n w0 HC (f + 1) listed fr H := GE.op (onlyB_of hB) hi hg ho hd hH h
end
end
/-- A call that turns chunks, beside others that are given. -/
def FnMF (P : Program) (f : FuncId) (vs : List Value) (w0 : World) (cin F : List Ch) {X : Type} (φ : X → Prop) (rv : X → Value) (out : X → List Ch) : Prop :=
  ∀ (w : World), HeapOk w0 w (cin ++ F) → Calls P f vs.toArray w fun e w' => ∃ x, φ x ∧ e = .returned (rv x) ∧ HeapOk w0 w' (out x ++ F)
theorem FnM.toF {P : Program} {f : FuncId} {vs : List Value} {w0 : World} {cin F : List Ch} {X : Type} {φ : X → Prop} {rv : X → Value} {out : X → List Ch} (h : FnM P f vs w0 cin φ rv out) : FnMF P f vs w0 cin F φ rv out := fun w hh => h w F hh
theorem FnMF.of {P : Program} {f : FuncId} {fn : Func} {c : Code} {vs : List Value} {w0 : World} {cin F : List Ch} {X : Type} {φ : X → Prop} {rv : X → Value} {out : X → List Ch} {n : Nat}
    (hf : P.funcs[f]? = some fn) (hb : fn.body = some c) (hn : Nat.beq (vs.length + (fn.ntmps - vs.length)) n = true)
    (h : G n w0 (argFr 0 vs) (cin ++ F) (c.wp P (bodyPost P fn fun e w' => ∃ x, φ x ∧ e = .returned (rv x) ∧ HeapOk w0 w' (out x ++ F)))) : FnMF P f vs w0 cin F φ rv out :=
  fun _ hh => calls_begin hf hb hn hh h
section
variable {P : Program} {n : Nat} {w0 : World} {fr : Fr} {H : List Ch} {Q : Exit → Act → World → Prop}
theorem dl {f : FuncId} [hF : FnOk P f] {fo : Operand} {xs : List Operand} {vs caps : List Value} {ts : Array TypeId} {X : Type} {φ : X → Prop} {rv : X → Value} {cin F : List Ch} {out : X → List Ch} (hf : opv fr fo = some (.func (.func f) #[] caps.toArray)) (hx : opvs fr xs = some vs) (hc : FnMF P f (vs ++ caps) w0 cin F φ rv out) (hp : H.Perm (cin ++ F)) :
    OpG P n w0 fr H (.call ⟨.value fo, xs.toArray, ts⟩) φ rv (fun x => out x ++ F) :=
  fun a w hr hh d T pos af gd K hK => by
    unfold okAt; rw [run_call hr hf hx]
    exact Calls.mono (hc w (hh.perm hp)) fun e w' ⟨x, hφ, he, hw⟩ => ⟨_, he, hK x _ hφ hw⟩
/-! ### A call that turns one chunk; the chunk comes to the front -/
section
variable {f : FuncId} [hF : FnOk P f] {fo : Operand} {xs : List Operand} {vs caps : List Value} {ts : Array TypeId} {X : Type} {φ : X → Prop} {rv : X → Value} {c a1 a2 a3 a4 a5 a6 : Ch} {F : List Ch} {out : X → Ch}
theorem bG (hf : opv fr fo = some (.func (.func f) #[] caps.toArray)) (hx : opvs fr xs = some vs) (hH : H = c :: F) (hc : FnMF P f (vs ++ caps) w0 [c] F φ rv (fun x => [out x])) :
    OpG P n w0 fr H (.call ⟨.value fo, xs.toArray, ts⟩) φ rv (fun x => out x :: F) := dl hf hx hc (by subst hH; exact (bI (i := 0) rfl).symm)
theorem bS (hf : opv fr fo = some (.func (.func f) #[] caps.toArray)) (hx : opvs fr xs = some vs) (hH : H = a1 :: c :: F) (hc : FnMF P f (vs ++ caps) w0 [c] (a1 :: F) φ rv (fun x => [out x])) :
    OpG P n w0 fr H (.call ⟨.value fo, xs.toArray, ts⟩) φ rv (fun x => out x :: a1 :: F) := dl hf hx hc (by subst hH; exact (bI (i := 1) rfl).symm)
theorem dm (hf : opv fr fo = some (.func (.func f) #[] caps.toArray)) (hx : opvs fr xs = some vs) (hH : H = a1 :: a2 :: c :: F) (hc : FnMF P f (vs ++ caps) w0 [c] (a1 :: a2 :: F) φ rv (fun x => [out x])) :
    OpG P n w0 fr H (.call ⟨.value fo, xs.toArray, ts⟩) φ rv (fun x => out x :: a1 :: a2 :: F) := dl hf hx hc (by subst hH; exact (bI (i := 2) rfl).symm)
theorem og_callM3 (hf : opv fr fo = some (.func (.func f) #[] caps.toArray)) (hx : opvs fr xs = some vs) (hH : H = a1 :: a2 :: a3 :: c :: F) (hc : FnMF P f (vs ++ caps) w0 [c] (a1 :: a2 :: a3 :: F) φ rv (fun x => [out x])) :
    OpG P n w0 fr H (.call ⟨.value fo, xs.toArray, ts⟩) φ rv (fun x => out x :: a1 :: a2 :: a3 :: F) := dl hf hx hc (by subst hH; exact (bI (i := 3) rfl).symm)
theorem og_callM5 (hf : opv fr fo = some (.func (.func f) #[] caps.toArray)) (hx : opvs fr xs = some vs) (hH : H = a1 :: a2 :: a3 :: a4 :: a5 :: c :: F) (hc : FnMF P f (vs ++ caps) w0 [c] (a1 :: a2 :: a3 :: a4 :: a5 :: F) φ rv (fun x => [out x])) :
    OpG P n w0 fr H (.call ⟨.value fo, xs.toArray, ts⟩) φ rv (fun x => out x :: a1 :: a2 :: a3 :: a4 :: a5 :: F) := dl hf hx hc (by subst hH; exact (bI (i := 5) rfl).symm)
/-- A call that turns the chunk in front, and leaves others ahead of it. -/
theorem og_callN0 {outs : X → List Ch} (hf : opv fr fo = some (.func (.func f) #[] caps.toArray)) (hx : opvs fr xs = some vs) (hH : H = c :: F) (hc : FnMF P f (vs ++ caps) w0 [c] F φ rv outs) :
    OpG P n w0 fr H (.call ⟨.value fo, xs.toArray, ts⟩) φ rv (fun x => outs x ++ F) := dl hf hx hc (by subst hH; exact (bI (i := 0) rfl).symm)
end
/-! ### A region that draws, but for one chunk -/
section
variable [hW : Wide P] {id : Nat} {l : List Oper} {c a1 a2 a3 a4 a5 a6 : Ch} {F : List Ch}
theorem G.bG {c1 : Ch} (qs : List Nat) (hH : H = c1 :: F) (h : GE P l.toArray Q qs n w0 F l.length (Array.replicate l.length false) fr H) : G n w0 fr H ((Code.region id l.toArray true).wp P Q) := G.draw qs F l.length _ (by simp) rfl h
theorem G.drawD2 {c1 c2 : Ch} (qs : List Nat) (hH : H = c1 :: c2 :: F) (h : GE P l.toArray Q qs n w0 F l.length (Array.replicate l.length false) fr H) : G n w0 fr H ((Code.region id l.toArray true).wp P Q) := G.draw qs F l.length _ (by simp) rfl h
end
/-- The chunk of a block comes to the front. -/
theorem G.bw {F : List Ch} (b : Nat) {t : TypeId} {cs : List Value} {K : Act → World → Prop} (hH : H = .blk b t cs :: F) (h : G n w0 fr (.blk b t cs :: F) K) : G n w0 fr H K := G.perm (by subst hH; exact (bI (i := 0) rfl).symm) h
theorem G.bh {a1 : Ch} {F : List Ch} (b : Nat) {t : TypeId} {cs : List Value} {K : Act → World → Prop} (hH : H = a1 :: .blk b t cs :: F) (h : G n w0 fr (.blk b t cs :: a1 :: F) K) : G n w0 fr H K := G.perm (by subst hH; exact (bI (i := 1) rfl).symm) h
theorem G.bx {a1 a2 : Ch} {F : List Ch} (b : Nat) {t : TypeId} {cs : List Value} {K : Act → World → Prop} (hH : H = a1 :: a2 :: .blk b t cs :: F) (h : G n w0 fr (.blk b t cs :: a1 :: a2 :: F) K) : G n w0 fr H K := G.perm (by subst hH; exact (bI (i := 2) rfl).symm) h
theorem G.bH {a1 a2 a3 : Ch} {F : List Ch} (b : Nat) {t : TypeId} {cs : List Value} {K : Act → World → Prop} (hH : H = a1 :: a2 :: a3 :: .blk b t cs :: F) (h : G n w0 fr (.blk b t cs :: a1 :: a2 :: a3 :: F) K) : G n w0 fr H K := G.perm (by subst hH; exact (bI (i := 3) rfl).symm) h
theorem G.frontB4 {a1 a2 a3 a4 : Ch} {F : List Ch} (b : Nat) {t : TypeId} {cs : List Value} {K : Act → World → Prop} (hH : H = a1 :: a2 :: a3 :: a4 :: .blk b t cs :: F) (h : G n w0 fr (.blk b t cs :: a1 :: a2 :: a3 :: a4 :: F) K) : G n w0 fr H K := G.perm (by subst hH; exact (bI (i := 4) rfl).symm) h
theorem G.frontB5 {a1 a2 a3 a4 a5 : Ch} {F : List Ch} (b : Nat) {t : TypeId} {cs : List Value} {K : Act → World → Prop} (hH : H = a1 :: a2 :: a3 :: a4 :: a5 :: .blk b t cs :: F) (h : G n w0 fr (.blk b t cs :: a1 :: a2 :: a3 :: a4 :: a5 :: F) K) : G n w0 fr H K := G.perm (by subst hH; exact (bI (i := 5) rfl).symm) h
theorem G.bD {a1 a2 a3 a4 a5 a6 : Ch} {F : List Ch} (b : Nat) {t : TypeId} {cs : List Value} {K : Act → World → Prop} (hH : H = a1 :: a2 :: a3 :: a4 :: a5 :: a6 :: .blk b t cs :: F) (h : G n w0 fr (.blk b t cs :: a1 :: a2 :: a3 :: a4 :: a5 :: a6 :: F) K) : G n w0 fr H K := G.perm (by subst hH; exact (bI (i := 6) rfl).symm) h
theorem G.bz {a1 a2 a3 a4 a5 a6 a7 : Ch} {F : List Ch} (b : Nat) {t : TypeId} {cs : List Value} {K : Act → World → Prop} (hH : H = a1 :: a2 :: a3 :: a4 :: a5 :: a6 :: a7 :: .blk b t cs :: F) (h : G n w0 fr (.blk b t cs :: a1 :: a2 :: a3 :: a4 :: a5 :: a6 :: a7 :: F) K) : G n w0 fr H K := G.perm (by subst hH; exact (bI (i := 7) rfl).symm) h
theorem G.frontB8 {a1 a2 a3 a4 a5 a6 a7 a8 : Ch} {F : List Ch} (b : Nat) {t : TypeId} {cs : List Value} {K : Act → World → Prop} (hH : H = a1 :: a2 :: a3 :: a4 :: a5 :: a6 :: a7 :: a8 :: .blk b t cs :: F) (h : G n w0 fr (.blk b t cs :: a1 :: a2 :: a3 :: a4 :: a5 :: a6 :: a7 :: a8 :: F) K) : G n w0 fr H K := G.perm (by subst hH; exact (bI (i := 8) rfl).symm) h
theorem G.frontB9 {a1 a2 a3 a4 a5 a6 a7 a8 a9 : Ch} {F : List Ch} (b : Nat) {t : TypeId} {cs : List Value} {K : Act → World → Prop} (hH : H = a1 :: a2 :: a3 :: a4 :: a5 :: a6 :: a7 :: a8 :: a9 :: .blk b t cs :: F) (h : G n w0 fr (.blk b t cs :: a1 :: a2 :: a3 :: a4 :: a5 :: a6 :: a7 :: a8 :: a9 :: F) K) : G n w0 fr H K := G.perm (by subst hH; exact (bI (i := 9) rfl).symm) h
/-- Steps among a drawn region's. -/
theorem GE.Y {qs : List Nat} {HC : List Ch} {f d : Nat} {listed : Array Bool} {ops : Array Oper} {o : Op} {T : TypeId} {pos : String} {af : Array Edge} {gd : Option (Nat × Bool)} (i : Nat) {v : Value} (hi : ops[i]? = some ⟨some d, o, T, pos, af, gd⟩) (hB : firstL ops qs listed i = true) (hg : guardIs ops fr gd = some true)
    (hq : QuietG P n w0 fr HC o v) (hH : ∀ w, HeapOk w0 w H → HeapOk w0 w HC) (hd : Nat.ble (d + 1) n = true)
    (h : GE P ops Q qs n w0 HC f (listed.setIfInBounds i true) ((d, v) :: fr) H) : GE P ops Q qs n w0 HC (f + 1) listed fr H := GE.quiet hi hB hg hq hH hd h
theorem GE.ol0 {qs : List Nat} {HC : List Ch} {f : Nat} {listed : Array Bool} {ops : Array Oper} {o : Op} {T : TypeId} {pos : String} {af : Array Edge} {gd : Option (Nat × Bool)} (i : Nat) {X : Type} {φ : X → Prop} {val : X → Value} {H' : X → List Ch} (hB : onlyL ops listed i = true) (hi : ops[i]? = some ⟨none, o, T, pos, af, gd⟩) (hg : guardIs ops fr gd = some true)
    (ho : OpG P n w0 fr H o φ val H') (hH : ∀ x w, HeapOk w0 w (H' x) → HeapOk w0 w HC) (h : ∀ x, φ x → GE P ops Q qs n w0 HC f (listed.setIfInBounds i true) fr (H' x)) : GE P ops Q qs n w0 HC (f + 1) listed fr H :=
  GE.one (onlyB_of hB) hi hg fun a w hra hh => ho a w hra hh _ _ _ _ _ _ fun x w' hx hw => ⟨fun _ => hH x w' hw, h x hx _ _ (hra.put_none _) hw⟩

/-! ### Stores, appends and calls that leave the list of chunks written out -/
inductive Over : List Value → List Value → List Value → Prop where
  | nil {cs : List Value} : Over [] cs cs
  | cons {u c : Value} {us cs cs' : List Value} (h : Over us cs cs') : Over (u :: us) (c :: cs) (u :: cs')
inductive Splice : Nat → List Value → List Value → List Value → Prop where
  | zero {us cs cs' : List Value} (h : Over us cs cs') : Splice 0 us cs cs'
  | succ {o : Nat} {c : Value} {us cs cs' : List Value} (h : Splice o us cs cs') : Splice (o + 1) us (c :: cs) (c :: cs')
theorem Over.eq {us cs cs' : List Value} (h : Over us cs cs') : us ++ cs.drop us.length = cs' ∧ us.length ≤ cs.length := by
  induction h with
  | nil => simp
  | cons h ih => simp [ih.1, ih.2]
theorem Splice.eq {o : Nat} {us cs cs' : List Value} (h : Splice o us cs cs') : cs.take o ++ us ++ cs.drop (o + us.length) = cs' ∧ o + us.length ≤ cs.length := by
  induction h with
  | zero h => have := h.eq; simp [this.1, this.2]
  | succ h ih =>
    rename_i o c us cs cs'
    have e : o + 1 + us.length = (o + us.length) + 1 := by omega
    rw [e]
    simp only [List.take_succ_cons, List.drop_succ_cons, List.cons_append, List.length_cons]
    exact ⟨by rw [ih.1], by omega⟩
theorem Splice.len {o : Nat} {us cs cs' : List Value} (h : Splice o us cs cs') : cs'.length = cs.length := by
  have := h.eq
  rw [← this.1]; simp only [List.length_append, List.length_take, List.length_drop]; omega
inductive Fills (pl : List (Nat × Nat)) : List Value → List Nat → List (List Value) → List Value → Prop where
  | nil {cs : List Value} : Fills pl cs [] [] cs
  | cons {i off size : Nat} {is : List Nat} {u cs cs1 cs' : List Value} {us : List (List Value)} (h1 : pl[i]? = some (off, size)) (h2 : Nat.beq u.length size = true) (h3 : Splice off u cs cs1) (h4 : Fills pl cs1 is us cs') : Fills pl cs (i :: is) (u :: us) cs'
theorem Fills.eq {pl : List (Nat × Nat)} {cs : List Value} {is : List Nat} {us : List (List Value)} {cs' : List Value} (h : Fills pl cs is us cs') : fillL (fun i => pl[i]?) cs is us = some cs' := by
  induction h with
  | nil => rfl
  | cons h1 h2 h3 h4 ih =>
    have := h3.eq
    simp only [fillL, h1, h2, Bool.true_and, Nat.ble_eq_true_of_le this.2, cond_true, this.1]
    exact ih
theorem bJ {t : TypeId} {s bs : Nat} {zs : List Value} {pl : List (Nat × Nat)} [hI : TyInfo P t s zs bs] [hP : TyPlaces P t pl] {ps : List (Nat × Operand)} {is : List Nat} {vs : List Value} {us : List (List Value)} {cs : List Value}
    (hp : pairs fr ps = some (is, vs)) (hu : CellsOf vs us) (hf : Fills pl zs is us cs) : RunsV P n w0 fr H (.build t ps.toArray) (.agg cs.toArray) := rv_build hp hu hf.eq
/-- A part of a list. -/
inductive Part : Nat → Nat → List Value → List Value → Prop where
  | nil {cs : List Value} : Part 0 0 cs []
  | one {m : Nat} {c : Value} {cs us : List Value} (h : Part 0 m cs us) : Part 0 (m + 1) (c :: cs) (c :: us)
  | skip {o m : Nat} {c : Value} {cs us : List Value} (h : Part o m cs us) : Part (o + 1) m (c :: cs) us
theorem Part.eq {o m : Nat} {cs us : List Value} (h : Part o m cs us) : (cs.drop o).take m = us ∧ us.length = m := by
  induction h with
  | nil => simp
  | one h ih =>
    have h1 := ih.1
    simp only [List.drop_zero] at h1
    simp [h1, ih.2]
  | skip h ih => simpa using ih
theorem dg {x : Operand} {t : TypeId} {s bs : Nat} {zs : List Value} [hT : TyAgg P t] [hI : TyInfo P t s zs bs] {b o : Nat} (i : Nat) {t' : TypeId} {cs us : List Value} (hx : opv fr x = some (pB b o)) (hi : H[i]? = some (.blk b t' cs))
    (hu : Part o s cs us) : RunsV P n w0 fr H (.load t x) (.agg us.toArray) := rv_loadS i hx hi hu.eq.1 (by rw [hu.eq.2]; simp)
theorem rv_loadEP {x : Operand} {t : TypeId} {z bs : Nat} {zs : List Value} [hT : TyAgg P t] [hI : TyInfo P t z zs bs] {v : Value} {s k c : Nat} {es : List (List Value)} {e us : List Value} (hx : opv fr x = some (pE v s k c)) (hv : ∀ w, HeapOk w0 w H → Rd w v s es) (hk : es[k]? = some e)
    (hu : Part c z e us) : RunsV P n w0 fr H (.load t x) (.agg us.toArray) := rv_loadES hx hv hk hu.eq.1 (by rw [hu.eq.2]; simp)
theorem bL {x y : Operand} {t : TypeId} {s bs : Nat} {zs : List Value} [hI : TyInfo P t s zs bs] {b o : Nat} {F : List Ch} {t' : TypeId} {cs us cs' : List Value} {v : Value}
    (hx : opv fr x = some (pB b o)) (hy : opv fr y = some v) (hH : H = .blk b t' cs :: F) (hu : v.cells = us.toArray) (hl : Nat.beq us.length s = true) (h1 : us.all Value.oneCell' = true) (hs : Splice o us cs cs') :
    OpG P n w0 fr H (.store t x y) Triv (fun _ : Unit => undef) (fun _ => .blk b t' cs' :: F) := by
  subst hH; exact cV 0 hx hy rfl hu hl h1 (Nat.ble_eq_true_of_le hs.eq.2) hs.eq.1
theorem cR {x y : Operand} {t : TypeId} {z bs : Nat} {zs : List Value} [hI : TyInfo P t z zs bs] {v : Value} {s k c : Nat} {F : List Ch} {t' : TypeId} {es : List (List Value)} {e us e' : List Value} {u : Value}
    (hx : opv fr x = some (pE v s k c)) (hy : opv fr y = some u) (hH : H = .row v t' s es :: F) (hk : es[k]? = some e) (hu : u.cells = us.toArray) (hl : Nat.beq us.length z = true) (h1 : us.all Value.oneCell' = true) (hlen : Nat.beq e.length s = true) (hs : Splice c us e e') :
    OpG P n w0 fr H (.store t x y) Triv (fun _ : Unit => undef) (fun _ => .row v t' s (es.set k e') :: F) := by
  subst hH; exact og_storeE 0 hx hy rfl hk hu hl h1 (Nat.ble_eq_true_of_le (by rw [← Nat.eq_of_beq_eq_true hlen]; exact hs.eq.2)) hs.eq.1
theorem cS {x y : Operand} {t e : TypeId} {s bs : Nat} {zs : List Value} [hT : TySlice P t e] [hI : TyInfo P e s zs bs] {F : List Ch} {v v2 : Value} {es es2 : List (List Value)}
    (hx : opv fr x = some v) (hy : opv fr y = some v2) (hH : H = .row v e s es :: F) (h2 : ∀ w, HeapOk w0 w H → Rd w v2 s es2) (hz : Nat.beq zs.length s = true) (hs1 : Nat.ble 1 s = true)
    (hb : (es.length + es2.length) * bs ≤ 140737488355328) (hm : es.length + es2.length ≤ 9223372036854775807) : OpG P n w0 fr H (.call ⟨.builtin .append, #[x, y], #[t, t]⟩) Triv (fun v' : Value => v') (fun v' => .row v' e s (es ++ es2) :: F) := by
  subst hH; exact dC 0 hx hy rfl h2 hz hs1 hb hm
theorem cf {x y : Operand} {t : TypeId} {s bs : Nat} {zs : List Value} [hI : TyInfo P t s zs bs] {b o : Nat} {a1 : Ch} {F : List Ch} {t' : TypeId} {cs us cs' : List Value} {v : Value}
    (hx : opv fr x = some (pB b o)) (hy : opv fr y = some v) (hH : H = a1 :: .blk b t' cs :: F) (hu : v.cells = us.toArray) (hl : Nat.beq us.length s = true) (h1 : us.all Value.oneCell' = true) (hs : Splice o us cs cs') :
    OpG P n w0 fr H (.store t x y) Triv (fun _ : Unit => undef) (fun _ => a1 :: .blk b t' cs' :: F) := by
  subst hH; exact cV 1 hx hy rfl hu hl h1 (Nat.ble_eq_true_of_le hs.eq.2) hs.eq.1
theorem bU {x y : Operand} {t e : TypeId} {s bs : Nat} {zs : List Value} [hT : TySlice P t e] [hI : TyInfo P e s zs bs] {a1 : Ch} {F : List Ch} {v v2 : Value} {es es2 : List (List Value)}
    (hx : opv fr x = some v) (hy : opv fr y = some v2) (hH : H = a1 :: .row v e s es :: F) (h2 : ∀ w, HeapOk w0 w H → Rd w v2 s es2) (hz : Nat.beq zs.length s = true) (hs1 : Nat.ble 1 s = true)
    (hb : (es.length + es2.length) * bs ≤ 140737488355328) (hm : es.length + es2.length ≤ 9223372036854775807) : OpG P n w0 fr H (.call ⟨.builtin .append, #[x, y], #[t, t]⟩) Triv (fun v' : Value => v') (fun v' => a1 :: .row v' e s (es ++ es2) :: F) := by
  subst hH; exact dC 1 hx hy rfl h2 hz hs1 hb hm
theorem dN {x y : Operand} {t : TypeId} {s bs : Nat} {zs : List Value} [hI : TyInfo P t s zs bs] {b o : Nat} {a1 a2 : Ch} {F : List Ch} {t' : TypeId} {cs us cs' : List Value} {v : Value}
    (hx : opv fr x = some (pB b o)) (hy : opv fr y = some v) (hH : H = a1 :: a2 :: .blk b t' cs :: F) (hu : v.cells = us.toArray) (hl : Nat.beq us.length s = true) (h1 : us.all Value.oneCell' = true) (hs : Splice o us cs cs') :
    OpG P n w0 fr H (.store t x y) Triv (fun _ : Unit => undef) (fun _ => a1 :: a2 :: .blk b t' cs' :: F) := by
  subst hH; exact cV 2 hx hy rfl hu hl h1 (Nat.ble_eq_true_of_le hs.eq.2) hs.eq.1
theorem cx {x y : Operand} {t : TypeId} {z bs : Nat} {zs : List Value} [hI : TyInfo P t z zs bs] {v : Value} {s k c : Nat} {a1 a2 : Ch} {F : List Ch} {t' : TypeId} {es : List (List Value)} {e us e' : List Value} {u : Value}
    (hx : opv fr x = some (pE v s k c)) (hy : opv fr y = some u) (hH : H = a1 :: a2 :: .row v t' s es :: F) (hk : es[k]? = some e) (hu : u.cells = us.toArray) (hl : Nat.beq us.length z = true) (h1 : us.all Value.oneCell' = true) (hlen : Nat.beq e.length s = true) (hs : Splice c us e e') :
    OpG P n w0 fr H (.store t x y) Triv (fun _ : Unit => undef) (fun _ => a1 :: a2 :: .row v t' s (es.set k e') :: F) := by
  subst hH; exact og_storeE 2 hx hy rfl hk hu hl h1 (Nat.ble_eq_true_of_le (by rw [← Nat.eq_of_beq_eq_true hlen]; exact hs.eq.2)) hs.eq.1
theorem cC {x y : Operand} {t e : TypeId} {s bs : Nat} {zs : List Value} [hT : TySlice P t e] [hI : TyInfo P e s zs bs] {a1 a2 : Ch} {F : List Ch} {v v2 : Value} {es es2 : List (List Value)}
    (hx : opv fr x = some v) (hy : opv fr y = some v2) (hH : H = a1 :: a2 :: .row v e s es :: F) (h2 : ∀ w, HeapOk w0 w H → Rd w v2 s es2) (hz : Nat.beq zs.length s = true) (hs1 : Nat.ble 1 s = true)
    (hb : (es.length + es2.length) * bs ≤ 140737488355328) (hm : es.length + es2.length ≤ 9223372036854775807) : OpG P n w0 fr H (.call ⟨.builtin .append, #[x, y], #[t, t]⟩) Triv (fun v' : Value => v') (fun v' => a1 :: a2 :: .row v' e s (es ++ es2) :: F) := by
  subst hH; exact dC 2 hx hy rfl h2 hz hs1 hb hm
theorem og_st3 {x y : Operand} {t : TypeId} {s bs : Nat} {zs : List Value} [hI : TyInfo P t s zs bs] {b o : Nat} {a1 a2 a3 : Ch} {F : List Ch} {t' : TypeId} {cs us cs' : List Value} {v : Value}
    (hx : opv fr x = some (pB b o)) (hy : opv fr y = some v) (hH : H = a1 :: a2 :: a3 :: .blk b t' cs :: F) (hu : v.cells = us.toArray) (hl : Nat.beq us.length s = true) (h1 : us.all Value.oneCell' = true) (hs : Splice o us cs cs') :
    OpG P n w0 fr H (.store t x y) Triv (fun _ : Unit => undef) (fun _ => a1 :: a2 :: a3 :: .blk b t' cs' :: F) := by
  subst hH; exact cV 3 hx hy rfl hu hl h1 (Nat.ble_eq_true_of_le hs.eq.2) hs.eq.1
theorem cD {x y : Operand} {t : TypeId} {z bs : Nat} {zs : List Value} [hI : TyInfo P t z zs bs] {v : Value} {s k c : Nat} {a1 a2 a3 : Ch} {F : List Ch} {t' : TypeId} {es : List (List Value)} {e us e' : List Value} {u : Value}
    (hx : opv fr x = some (pE v s k c)) (hy : opv fr y = some u) (hH : H = a1 :: a2 :: a3 :: .row v t' s es :: F) (hk : es[k]? = some e) (hu : u.cells = us.toArray) (hl : Nat.beq us.length z = true) (h1 : us.all Value.oneCell' = true) (hlen : Nat.beq e.length s = true) (hs : Splice c us e e') :
    OpG P n w0 fr H (.store t x y) Triv (fun _ : Unit => undef) (fun _ => a1 :: a2 :: a3 :: .row v t' s (es.set k e') :: F) := by
  subst hH; exact og_storeE 3 hx hy rfl hk hu hl h1 (Nat.ble_eq_true_of_le (by rw [← Nat.eq_of_beq_eq_true hlen]; exact hs.eq.2)) hs.eq.1
theorem dt {x y : Operand} {t e : TypeId} {s bs : Nat} {zs : List Value} [hT : TySlice P t e] [hI : TyInfo P e s zs bs] {a1 a2 a3 : Ch} {F : List Ch} {v v2 : Value} {es es2 : List (List Value)}
    (hx : opv fr x = some v) (hy : opv fr y = some v2) (hH : H = a1 :: a2 :: a3 :: .row v e s es :: F) (h2 : ∀ w, HeapOk w0 w H → Rd w v2 s es2) (hz : Nat.beq zs.length s = true) (hs1 : Nat.ble 1 s = true)
    (hb : (es.length + es2.length) * bs ≤ 140737488355328) (hm : es.length + es2.length ≤ 9223372036854775807) : OpG P n w0 fr H (.call ⟨.builtin .append, #[x, y], #[t, t]⟩) Triv (fun v' : Value => v') (fun v' => a1 :: a2 :: a3 :: .row v' e s (es ++ es2) :: F) := by
  subst hH; exact dC 3 hx hy rfl h2 hz hs1 hb hm
theorem og_st4 {x y : Operand} {t : TypeId} {s bs : Nat} {zs : List Value} [hI : TyInfo P t s zs bs] {b o : Nat} {a1 a2 a3 a4 : Ch} {F : List Ch} {t' : TypeId} {cs us cs' : List Value} {v : Value}
    (hx : opv fr x = some (pB b o)) (hy : opv fr y = some v) (hH : H = a1 :: a2 :: a3 :: a4 :: .blk b t' cs :: F) (hu : v.cells = us.toArray) (hl : Nat.beq us.length s = true) (h1 : us.all Value.oneCell' = true) (hs : Splice o us cs cs') :
    OpG P n w0 fr H (.store t x y) Triv (fun _ : Unit => undef) (fun _ => a1 :: a2 :: a3 :: a4 :: .blk b t' cs' :: F) := by
  subst hH; exact cV 4 hx hy rfl hu hl h1 (Nat.ble_eq_true_of_le hs.eq.2) hs.eq.1
theorem og_stE4 {x y : Operand} {t : TypeId} {z bs : Nat} {zs : List Value} [hI : TyInfo P t z zs bs] {v : Value} {s k c : Nat} {a1 a2 a3 a4 : Ch} {F : List Ch} {t' : TypeId} {es : List (List Value)} {e us e' : List Value} {u : Value}
    (hx : opv fr x = some (pE v s k c)) (hy : opv fr y = some u) (hH : H = a1 :: a2 :: a3 :: a4 :: .row v t' s es :: F) (hk : es[k]? = some e) (hu : u.cells = us.toArray) (hl : Nat.beq us.length z = true) (h1 : us.all Value.oneCell' = true) (hlen : Nat.beq e.length s = true) (hs : Splice c us e e') :
    OpG P n w0 fr H (.store t x y) Triv (fun _ : Unit => undef) (fun _ => a1 :: a2 :: a3 :: a4 :: .row v t' s (es.set k e') :: F) := by
  subst hH; exact og_storeE 4 hx hy rfl hk hu hl h1 (Nat.ble_eq_true_of_le (by rw [← Nat.eq_of_beq_eq_true hlen]; exact hs.eq.2)) hs.eq.1
theorem cZ {x y : Operand} {t e : TypeId} {s bs : Nat} {zs : List Value} [hT : TySlice P t e] [hI : TyInfo P e s zs bs] {a1 a2 a3 a4 : Ch} {F : List Ch} {v v2 : Value} {es es2 : List (List Value)}
    (hx : opv fr x = some v) (hy : opv fr y = some v2) (hH : H = a1 :: a2 :: a3 :: a4 :: .row v e s es :: F) (h2 : ∀ w, HeapOk w0 w H → Rd w v2 s es2) (hz : Nat.beq zs.length s = true) (hs1 : Nat.ble 1 s = true)
    (hb : (es.length + es2.length) * bs ≤ 140737488355328) (hm : es.length + es2.length ≤ 9223372036854775807) : OpG P n w0 fr H (.call ⟨.builtin .append, #[x, y], #[t, t]⟩) Triv (fun v' : Value => v') (fun v' => a1 :: a2 :: a3 :: a4 :: .row v' e s (es ++ es2) :: F) := by
  subst hH; exact dC 4 hx hy rfl h2 hz hs1 hb hm
theorem dO {x y : Operand} {t : TypeId} {s bs : Nat} {zs : List Value} [hI : TyInfo P t s zs bs] {b o : Nat} {a1 a2 a3 a4 a5 : Ch} {F : List Ch} {t' : TypeId} {cs us cs' : List Value} {v : Value}
    (hx : opv fr x = some (pB b o)) (hy : opv fr y = some v) (hH : H = a1 :: a2 :: a3 :: a4 :: a5 :: .blk b t' cs :: F) (hu : v.cells = us.toArray) (hl : Nat.beq us.length s = true) (h1 : us.all Value.oneCell' = true) (hs : Splice o us cs cs') :
    OpG P n w0 fr H (.store t x y) Triv (fun _ : Unit => undef) (fun _ => a1 :: a2 :: a3 :: a4 :: a5 :: .blk b t' cs' :: F) := by
  subst hH; exact cV 5 hx hy rfl hu hl h1 (Nat.ble_eq_true_of_le hs.eq.2) hs.eq.1
theorem og_app5 {x y : Operand} {t e : TypeId} {s bs : Nat} {zs : List Value} [hT : TySlice P t e] [hI : TyInfo P e s zs bs] {a1 a2 a3 a4 a5 : Ch} {F : List Ch} {v v2 : Value} {es es2 : List (List Value)}
    (hx : opv fr x = some v) (hy : opv fr y = some v2) (hH : H = a1 :: a2 :: a3 :: a4 :: a5 :: .row v e s es :: F) (h2 : ∀ w, HeapOk w0 w H → Rd w v2 s es2) (hz : Nat.beq zs.length s = true) (hs1 : Nat.ble 1 s = true)
    (hb : (es.length + es2.length) * bs ≤ 140737488355328) (hm : es.length + es2.length ≤ 9223372036854775807) : OpG P n w0 fr H (.call ⟨.builtin .append, #[x, y], #[t, t]⟩) Triv (fun v' : Value => v') (fun v' => a1 :: a2 :: a3 :: a4 :: a5 :: .row v' e s (es ++ es2) :: F) := by
  subst hH; exact dC 5 hx hy rfl h2 hz hs1 hb hm
theorem dP {x y : Operand} {t : TypeId} {s bs : Nat} {zs : List Value} [hI : TyInfo P t s zs bs] {b o : Nat} {a1 a2 a3 a4 a5 a6 : Ch} {F : List Ch} {t' : TypeId} {cs us cs' : List Value} {v : Value}
    (hx : opv fr x = some (pB b o)) (hy : opv fr y = some v) (hH : H = a1 :: a2 :: a3 :: a4 :: a5 :: a6 :: .blk b t' cs :: F) (hu : v.cells = us.toArray) (hl : Nat.beq us.length s = true) (h1 : us.all Value.oneCell' = true) (hs : Splice o us cs cs') :
    OpG P n w0 fr H (.store t x y) Triv (fun _ : Unit => undef) (fun _ => a1 :: a2 :: a3 :: a4 :: a5 :: a6 :: .blk b t' cs' :: F) := by
  subst hH; exact cV 6 hx hy rfl hu hl h1 (Nat.ble_eq_true_of_le hs.eq.2) hs.eq.1
theorem dQ {x y : Operand} {t : TypeId} {s bs : Nat} {zs : List Value} [hI : TyInfo P t s zs bs] {b o : Nat} {a1 a2 a3 a4 a5 a6 a7 : Ch} {F : List Ch} {t' : TypeId} {cs us cs' : List Value} {v : Value}
    (hx : opv fr x = some (pB b o)) (hy : opv fr y = some v) (hH : H = a1 :: a2 :: a3 :: a4 :: a5 :: a6 :: a7 :: .blk b t' cs :: F) (hu : v.cells = us.toArray) (hl : Nat.beq us.length s = true) (h1 : us.all Value.oneCell' = true) (hs : Splice o us cs cs') :
    OpG P n w0 fr H (.store t x y) Triv (fun _ : Unit => undef) (fun _ => a1 :: a2 :: a3 :: a4 :: a5 :: a6 :: a7 :: .blk b t' cs' :: F) := by
  subst hH; exact cV 7 hx hy rfl hu hl h1 (Nat.ble_eq_true_of_le hs.eq.2) hs.eq.1
theorem og_st8 {x y : Operand} {t : TypeId} {s bs : Nat} {zs : List Value} [hI : TyInfo P t s zs bs] {b o : Nat} {a1 a2 a3 a4 a5 a6 a7 a8 : Ch} {F : List Ch} {t' : TypeId} {cs us cs' : List Value} {v : Value}
    (hx : opv fr x = some (pB b o)) (hy : opv fr y = some v) (hH : H = a1 :: a2 :: a3 :: a4 :: a5 :: a6 :: a7 :: a8 :: .blk b t' cs :: F) (hu : v.cells = us.toArray) (hl : Nat.beq us.length s = true) (h1 : us.all Value.oneCell' = true) (hs : Splice o us cs cs') :
    OpG P n w0 fr H (.store t x y) Triv (fun _ : Unit => undef) (fun _ => a1 :: a2 :: a3 :: a4 :: a5 :: a6 :: a7 :: a8 :: .blk b t' cs' :: F) := by
  subst hH; exact cV 8 hx hy rfl hu hl h1 (Nat.ble_eq_true_of_le hs.eq.2) hs.eq.1
theorem og_st9 {x y : Operand} {t : TypeId} {s bs : Nat} {zs : List Value} [hI : TyInfo P t s zs bs] {b o : Nat} {a1 a2 a3 a4 a5 a6 a7 a8 a9 : Ch} {F : List Ch} {t' : TypeId} {cs us cs' : List Value} {v : Value}
    (hx : opv fr x = some (pB b o)) (hy : opv fr y = some v) (hH : H = a1 :: a2 :: a3 :: a4 :: a5 :: a6 :: a7 :: a8 :: a9 :: .blk b t' cs :: F) (hu : v.cells = us.toArray) (hl : Nat.beq us.length s = true) (h1 : us.all Value.oneCell' = true) (hs : Splice o us cs cs') :
    OpG P n w0 fr H (.store t x y) Triv (fun _ : Unit => undef) (fun _ => a1 :: a2 :: a3 :: a4 :: a5 :: a6 :: a7 :: a8 :: a9 :: .blk b t' cs' :: F) := by
  subst hH; exact cV 9 hx hy rfl hu hl h1 (Nat.ble_eq_true_of_le hs.eq.2) hs.eq.1
theorem og_appGrp {x y : Operand} {t e : TypeId} {s bs : Nat} {zs : List Value} [hT : TySlice P t e] [hI : TyInfo P e s zs bs] (i : Nat) {q : Nat} {v v2 : Value} {es es2 : List (List Value)} {rs : List (Value × List (List Value))}
    (hi : H[i]? = some (.grp e s rs)) (hq : rs[q]? = some (v, es)) (hx : opv fr x = some v) (hy : opv fr y = some v2) (h2 : ∀ w, HeapOk w0 w H → Rd w v2 s es2) (hz : Nat.beq zs.length s = true) (hs1 : Nat.ble 1 s = true)
    (hb : (es.length + es2.length) * bs ≤ 140737488355328) (hm : es.length + es2.length ≤ 9223372036854775807) : OpG P n w0 fr H (.call ⟨.builtin .append, #[x, y], #[t, t]⟩) Triv (fun v' : Value => v') (fun v' => H.set i (.grp e s (rs.set q (v', es ++ es2)))) :=
  fun a w hr hh d T pos af gd K hK => by
    have hf := (hh.front hi).focus hq
    obtain ⟨v', w', hrun, hh'⟩ := run_append_row (P := P) (ty := T) hT hI (Nat.eq_of_beq_eq_true hz) (Nat.le_of_ble_eq_true hs1) hf (h2 w hh) hb hm
    have : (execOp a.eval ⟨d, .call ⟨.builtin .append, #[x, y], #[t, t]⟩, T, pos, af, gd⟩).run P w = .ok (.value v') w' := by
      simp only [execOp, resolve, invoke, builtin, Sem.run_bind, Sem.run_pure, Result.andThen_ok, List.map_toArray, List.map_cons, List.map_nil, hr.opv hx, hr.opv hy, hrun]
    unfold okAt; rw [this]
    exact hK v' _ trivial ((HeapOk.unfocus hq hh').perm (dS hi))
/-- A row takes the place of another in a group. -/
theorem HeapOk.swap {w : World} {t : TypeId} {s q : Nat} {v : Value} {es : List (List Value)} {rs : List (Value × List (List Value))} {r : Value × List (List Value)} (h : HeapOk w0 w (.row v t s es :: .grp t s rs :: H)) (hq : rs[q]? = some r) : HeapOk w0 w (.grp t s (rs.set q (v, es)) :: H) := by
  have h1 : HeapOk w0 w (.grp t s rs :: .row v t s es :: H) := h.perm (List.Perm.swap _ _ _)
  have h2 : HeapOk w0 w (.grp t s (rs.eraseIdx q) :: .row v t s es :: H) := (h1.grpPerm (front_permG hq).symm).grpSub (List.sublist_cons_self _ _)
  have h3 : HeapOk w0 w (.row v t s es :: .grp t s (rs.eraseIdx q) :: H) := h2.perm (List.Perm.swap _ _ _)
  exact h3.join.grpPerm (perm_setG hq)
theorem dh {x y : Operand} {t e : TypeId} {s bs : Nat} {zs : List Value} [hT : TySlice P t e] [hI : TyInfo P e s zs bs] {a1 : Ch} {F : List Ch} {q : Nat} {v v2 : Value} {es es2 : List (List Value)} {rs : List (Value × List (List Value))}
    (hx : opv fr x = some v) (hy : opv fr y = some v2) (hH : H = a1 :: .grp e s rs :: F) (hq : rs[q]? = some (v, es)) (h2 : ∀ w, HeapOk w0 w H → Rd w v2 s es2) (hz : Nat.beq zs.length s = true) (hs1 : Nat.ble 1 s = true)
    (hb : (es.length + es2.length) * bs ≤ 140737488355328) (hm : es.length + es2.length ≤ 9223372036854775807) : OpG P n w0 fr H (.call ⟨.builtin .append, #[x, y], #[t, t]⟩) Triv (fun v' : Value => v') (fun v' => a1 :: .grp e s (rs.set q (v', es ++ es2)) :: F) := by
  subst hH; exact og_appGrp 1 rfl hq hx hy h2 hz hs1 hb hm
theorem og_appG2 {x y : Operand} {t e : TypeId} {s bs : Nat} {zs : List Value} [hT : TySlice P t e] [hI : TyInfo P e s zs bs] {a1 a2 : Ch} {F : List Ch} {q : Nat} {v v2 : Value} {es es2 : List (List Value)} {rs : List (Value × List (List Value))}
    (hx : opv fr x = some v) (hy : opv fr y = some v2) (hH : H = a1 :: a2 :: .grp e s rs :: F) (hq : rs[q]? = some (v, es)) (h2 : ∀ w, HeapOk w0 w H → Rd w v2 s es2) (hz : Nat.beq zs.length s = true) (hs1 : Nat.ble 1 s = true)
    (hb : (es.length + es2.length) * bs ≤ 140737488355328) (hm : es.length + es2.length ≤ 9223372036854775807) : OpG P n w0 fr H (.call ⟨.builtin .append, #[x, y], #[t, t]⟩) Triv (fun v' : Value => v') (fun v' => a1 :: a2 :: .grp e s (rs.set q (v', es ++ es2)) :: F) := by
  subst hH; exact og_appGrp 2 rfl hq hx hy h2 hz hs1 hb hm
/-- A nil row joins the group in front. -/
theorem G.pushNil {F : List Ch} {t : TypeId} {s : Nat} {rs : List (Value × List (List Value))} (rs' : List (Value × List (List Value))) {K : Act → World → Prop} (e : rs ++ [(.slice none 0 0, [])] = rs') (hH : H = .grp t s rs :: F) (h : G n w0 fr (.grp t s rs' :: F) K) : G n w0 fr H K :=
  G.heap (fun w hh => by subst e hH; exact (hh.nilRow t s).push) h
theorem G.bo {F : List Ch} {v : Value} {t : TypeId} {s : Nat} {es : List (List Value)} (es' : List (List Value)) {K : Act → World → Prop} (e : es = es') (hH : H = .row v t s es :: F) (h : G n w0 fr (.row v t s es' :: F) K) : G n w0 fr H K := by subst e hH; exact h
/-- A row, or a group, comes to the front. -/
theorem G.bb {F : List Ch} (v : Value) {t : TypeId} {s : Nat} {es : List (List Value)} {K : Act → World → Prop} (hH : H = .row v t s es :: F) (h : G n w0 fr (.row v t s es :: F) K) : G n w0 fr H K := G.perm (by subst hH; exact (bI (i := 0) rfl).symm) h
theorem G.frontG0 {F : List Ch} (rs : List (Value × List (List Value))) {t : TypeId} {s : Nat} {K : Act → World → Prop} (hH : H = .grp t s rs :: F) (h : G n w0 fr (.grp t s rs :: F) K) : G n w0 fr H K := G.perm (by subst hH; exact (bI (i := 0) rfl).symm) h
theorem G.bm {a1 : Ch} {F : List Ch} (v : Value) {t : TypeId} {s : Nat} {es : List (List Value)} {K : Act → World → Prop} (hH : H = a1 :: .row v t s es :: F) (h : G n w0 fr (.row v t s es :: a1 :: F) K) : G n w0 fr H K := G.perm (by subst hH; exact (bI (i := 1) rfl).symm) h
theorem G.bA {a1 : Ch} {F : List Ch} (rs : List (Value × List (List Value))) {t : TypeId} {s : Nat} {K : Act → World → Prop} (hH : H = a1 :: .grp t s rs :: F) (h : G n w0 fr (.grp t s rs :: a1 :: F) K) : G n w0 fr H K := G.perm (by subst hH; exact (bI (i := 1) rfl).symm) h
theorem G.be {a1 a2 : Ch} {F : List Ch} (v : Value) {t : TypeId} {s : Nat} {es : List (List Value)} {K : Act → World → Prop} (hH : H = a1 :: a2 :: .row v t s es :: F) (h : G n w0 fr (.row v t s es :: a1 :: a2 :: F) K) : G n w0 fr H K := G.perm (by subst hH; exact (bI (i := 2) rfl).symm) h
theorem G.br {a1 a2 : Ch} {F : List Ch} (rs : List (Value × List (List Value))) {t : TypeId} {s : Nat} {K : Act → World → Prop} (hH : H = a1 :: a2 :: .grp t s rs :: F) (h : G n w0 fr (.grp t s rs :: a1 :: a2 :: F) K) : G n w0 fr H K := G.perm (by subst hH; exact (bI (i := 2) rfl).symm) h
theorem G.bi {a1 a2 a3 : Ch} {F : List Ch} (v : Value) {t : TypeId} {s : Nat} {es : List (List Value)} {K : Act → World → Prop} (hH : H = a1 :: a2 :: a3 :: .row v t s es :: F) (h : G n w0 fr (.row v t s es :: a1 :: a2 :: a3 :: F) K) : G n w0 fr H K := G.perm (by subst hH; exact (bI (i := 3) rfl).symm) h
theorem G.bE {a1 a2 a3 : Ch} {F : List Ch} (rs : List (Value × List (List Value))) {t : TypeId} {s : Nat} {K : Act → World → Prop} (hH : H = a1 :: a2 :: a3 :: .grp t s rs :: F) (h : G n w0 fr (.grp t s rs :: a1 :: a2 :: a3 :: F) K) : G n w0 fr H K := G.perm (by subst hH; exact (bI (i := 3) rfl).symm) h
theorem G.bp {a1 a2 a3 a4 : Ch} {F : List Ch} (v : Value) {t : TypeId} {s : Nat} {es : List (List Value)} {K : Act → World → Prop} (hH : H = a1 :: a2 :: a3 :: a4 :: .row v t s es :: F) (h : G n w0 fr (.row v t s es :: a1 :: a2 :: a3 :: a4 :: F) K) : G n w0 fr H K := G.perm (by subst hH; exact (bI (i := 4) rfl).symm) h
theorem G.frontG4 {a1 a2 a3 a4 : Ch} {F : List Ch} (rs : List (Value × List (List Value))) {t : TypeId} {s : Nat} {K : Act → World → Prop} (hH : H = a1 :: a2 :: a3 :: a4 :: .grp t s rs :: F) (h : G n w0 fr (.grp t s rs :: a1 :: a2 :: a3 :: a4 :: F) K) : G n w0 fr H K := G.perm (by subst hH; exact (bI (i := 4) rfl).symm) h
theorem G.bB {a1 a2 a3 a4 a5 : Ch} {F : List Ch} (v : Value) {t : TypeId} {s : Nat} {es : List (List Value)} {K : Act → World → Prop} (hH : H = a1 :: a2 :: a3 :: a4 :: a5 :: .row v t s es :: F) (h : G n w0 fr (.row v t s es :: a1 :: a2 :: a3 :: a4 :: a5 :: F) K) : G n w0 fr H K := G.perm (by subst hH; exact (bI (i := 5) rfl).symm) h
theorem G.frontG5 {a1 a2 a3 a4 a5 : Ch} {F : List Ch} (rs : List (Value × List (List Value))) {t : TypeId} {s : Nat} {K : Act → World → Prop} (hH : H = a1 :: a2 :: a3 :: a4 :: a5 :: .grp t s rs :: F) (h : G n w0 fr (.grp t s rs :: a1 :: a2 :: a3 :: a4 :: a5 :: F) K) : G n w0 fr H K := G.perm (by subst hH; exact (bI (i := 5) rfl).symm) h
theorem G.bf {a1 a2 a3 a4 a5 a6 : Ch} {F : List Ch} (v : Value) {t : TypeId} {s : Nat} {es : List (List Value)} {K : Act → World → Prop} (hH : H = a1 :: a2 :: a3 :: a4 :: a5 :: a6 :: .row v t s es :: F) (h : G n w0 fr (.row v t s es :: a1 :: a2 :: a3 :: a4 :: a5 :: a6 :: F) K) : G n w0 fr H K := G.perm (by subst hH; exact (bI (i := 6) rfl).symm) h
theorem G.frontG6 {a1 a2 a3 a4 a5 a6 : Ch} {F : List Ch} (rs : List (Value × List (List Value))) {t : TypeId} {s : Nat} {K : Act → World → Prop} (hH : H = a1 :: a2 :: a3 :: a4 :: a5 :: a6 :: .grp t s rs :: F) (h : G n w0 fr (.grp t s rs :: a1 :: a2 :: a3 :: a4 :: a5 :: a6 :: F) K) : G n w0 fr H K := G.perm (by subst hH; exact (bI (i := 6) rfl).symm) h
theorem G.bj {a1 a2 a3 a4 a5 a6 a7 : Ch} {F : List Ch} (v : Value) {t : TypeId} {s : Nat} {es : List (List Value)} {K : Act → World → Prop} (hH : H = a1 :: a2 :: a3 :: a4 :: a5 :: a6 :: a7 :: .row v t s es :: F) (h : G n w0 fr (.row v t s es :: a1 :: a2 :: a3 :: a4 :: a5 :: a6 :: a7 :: F) K) : G n w0 fr H K := G.perm (by subst hH; exact (bI (i := 7) rfl).symm) h
theorem G.frontR8 {a1 a2 a3 a4 a5 a6 a7 a8 : Ch} {F : List Ch} (v : Value) {t : TypeId} {s : Nat} {es : List (List Value)} {K : Act → World → Prop} (hH : H = a1 :: a2 :: a3 :: a4 :: a5 :: a6 :: a7 :: a8 :: .row v t s es :: F) (h : G n w0 fr (.row v t s es :: a1 :: a2 :: a3 :: a4 :: a5 :: a6 :: a7 :: a8 :: F) K) : G n w0 fr H K := G.perm (by subst hH; exact (bI (i := 8) rfl).symm) h
theorem G.frontR9 {a1 a2 a3 a4 a5 a6 a7 a8 a9 : Ch} {F : List Ch} (v : Value) {t : TypeId} {s : Nat} {es : List (List Value)} {K : Act → World → Prop} (hH : H = a1 :: a2 :: a3 :: a4 :: a5 :: a6 :: a7 :: a8 :: a9 :: .row v t s es :: F) (h : G n w0 fr (.row v t s es :: a1 :: a2 :: a3 :: a4 :: a5 :: a6 :: a7 :: a8 :: a9 :: F) K) : G n w0 fr H K := G.perm (by subst hH; exact (bI (i := 9) rfl).symm) h
theorem G.frontR10 {a1 a2 a3 a4 a5 a6 a7 a8 a9 a10 : Ch} {F : List Ch} (v : Value) {t : TypeId} {s : Nat} {es : List (List Value)} {K : Act → World → Prop} (hH : H = a1 :: a2 :: a3 :: a4 :: a5 :: a6 :: a7 :: a8 :: a9 :: a10 :: .row v t s es :: F) (h : G n w0 fr (.row v t s es :: a1 :: a2 :: a3 :: a4 :: a5 :: a6 :: a7 :: a8 :: a9 :: a10 :: F) K) : G n w0 fr H K := G.perm (by subst hH; exact (bI (i := 10) rfl).symm) h
theorem G.frontR11 {a1 a2 a3 a4 a5 a6 a7 a8 a9 a10 a11 : Ch} {F : List Ch} (v : Value) {t : TypeId} {s : Nat} {es : List (List Value)} {K : Act → World → Prop} (hH : H = a1 :: a2 :: a3 :: a4 :: a5 :: a6 :: a7 :: a8 :: a9 :: a10 :: a11 :: .row v t s es :: F) (h : G n w0 fr (.row v t s es :: a1 :: a2 :: a3 :: a4 :: a5 :: a6 :: a7 :: a8 :: a9 :: a10 :: a11 :: F) K) : G n w0 fr H K := G.perm (by subst hH; exact (bI (i := 11) rfl).symm) h
theorem G.frontR12 {a1 a2 a3 a4 a5 a6 a7 a8 a9 a10 a11 a12 : Ch} {F : List Ch} (v : Value) {t : TypeId} {s : Nat} {es : List (List Value)} {K : Act → World → Prop} (hH : H = a1 :: a2 :: a3 :: a4 :: a5 :: a6 :: a7 :: a8 :: a9 :: a10 :: a11 :: a12 :: .row v t s es :: F) (h : G n w0 fr (.row v t s es :: a1 :: a2 :: a3 :: a4 :: a5 :: a6 :: a7 :: a8 :: a9 :: a10 :: a11 :: a12 :: F) K) : G n w0 fr H K := G.perm (by subst hH; exact (bI (i := 12) rfl).symm) h
theorem G.frontR13 {a1 a2 a3 a4 a5 a6 a7 a8 a9 a10 a11 a12 a13 : Ch} {F : List Ch} (v : Value) {t : TypeId} {s : Nat} {es : List (List Value)} {K : Act → World → Prop} (hH : H = a1 :: a2 :: a3 :: a4 :: a5 :: a6 :: a7 :: a8 :: a9 :: a10 :: a11 :: a12 :: a13 :: .row v t s es :: F) (h : G n w0 fr (.row v t s es :: a1 :: a2 :: a3 :: a4 :: a5 :: a6 :: a7 :: a8 :: a9 :: a10 :: a11 :: a12 :: a13 :: F) K) : G n w0 fr H K := G.perm (by subst hH; exact (bI (i := 13) rfl).symm) h
theorem G.frontR14 {a1 a2 a3 a4 a5 a6 a7 a8 a9 a10 a11 a12 a13 a14 : Ch} {F : List Ch} (v : Value) {t : TypeId} {s : Nat} {es : List (List Value)} {K : Act → World → Prop} (hH : H = a1 :: a2 :: a3 :: a4 :: a5 :: a6 :: a7 :: a8 :: a9 :: a10 :: a11 :: a12 :: a13 :: a14 :: .row v t s es :: F) (h : G n w0 fr (.row v t s es :: a1 :: a2 :: a3 :: a4 :: a5 :: a6 :: a7 :: a8 :: a9 :: a10 :: a11 :: a12 :: a13 :: a14 :: F) K) : G n w0 fr H K := G.perm (by subst hH; exact (bI (i := 14) rfl).symm) h
theorem G.frontR15 {a1 a2 a3 a4 a5 a6 a7 a8 a9 a10 a11 a12 a13 a14 a15 : Ch} {F : List Ch} (v : Value) {t : TypeId} {s : Nat} {es : List (List Value)} {K : Act → World → Prop} (hH : H = a1 :: a2 :: a3 :: a4 :: a5 :: a6 :: a7 :: a8 :: a9 :: a10 :: a11 :: a12 :: a13 :: a14 :: a15 :: .row v t s es :: F) (h : G n w0 fr (.row v t s es :: a1 :: a2 :: a3 :: a4 :: a5 :: a6 :: a7 :: a8 :: a9 :: a10 :: a11 :: a12 :: a13 :: a14 :: a15 :: F) K) : G n w0 fr H K := G.perm (by subst hH; exact (bI (i := 15) rfl).symm) h
section
variable {f : FuncId} [hF : FnOk P f] {fo : Operand} {xs : List Operand} {vs caps : List Value} {ts : Array TypeId} {X : Type} {φ : X → Prop} {rv : X → Value} {c1 c2 c3 : Ch} {F : List Ch} {o1 o2 o3 : X → Ch}
theorem bO (hf : opv fr fo = some (.func (.func f) #[] caps.toArray)) (hx : opvs fr xs = some vs) (hH : H = c1 :: F) (hc : FnMF P f (vs ++ caps) w0 [c1] F φ rv (fun x => [o1 x])) :
    OpG P n w0 fr H (.call ⟨.value fo, xs.toArray, ts⟩) φ rv (fun x => o1 x :: F) := dl hf hx hc (by subst hH; exact List.Perm.refl _)
end
section
variable {f : FuncId} [hF : FnOk P f] {fo : Operand} {xs : List Operand} {vs caps : List Value} {ts : Array TypeId} {X : Type} {φ : X → Prop} {rv : X → Value}
theorem bH {o1 : X → Ch} (hf : opv fr fo = some (.func (.func f) #[] caps.toArray)) (hx : opvs fr xs = some vs) (hc : ∀ w, HeapOk w0 w H → Fn P f (vs ++ caps) w φ rv (fun x => [o1 x])) :
    OpG P n w0 fr H (.call ⟨.value fo, xs.toArray, ts⟩) φ rv (fun x => o1 x :: H) := dv hf hx hc
theorem bX {o1 o2 : X → Ch} (hf : opv fr fo = some (.func (.func f) #[] caps.toArray)) (hx : opvs fr xs = some vs) (hc : ∀ w, HeapOk w0 w H → Fn P f (vs ++ caps) w φ rv (fun x => [o1 x, o2 x])) :
    OpG P n w0 fr H (.call ⟨.value fo, xs.toArray, ts⟩) φ rv (fun x => o1 x :: o2 x :: H) := dv hf hx hc
theorem og_callF3 {o1 o2 o3 : X → Ch} (hf : opv fr fo = some (.func (.func f) #[] caps.toArray)) (hx : opvs fr xs = some vs) (hc : ∀ w, HeapOk w0 w H → Fn P f (vs ++ caps) w φ rv (fun x => [o1 x, o2 x, o3 x])) :
    OpG P n w0 fr H (.call ⟨.value fo, xs.toArray, ts⟩) φ rv (fun x => o1 x :: o2 x :: o3 x :: H) := dv hf hx hc
theorem bT (hf : opv fr fo = some (.func (.func f) #[] caps.toArray)) (hx : opvs fr xs = some vs) (hc : ∀ w, HeapOk w0 w H → Fn P f (vs ++ caps) w φ rv (fun _ => [])) :
    OpG P n w0 fr H (.call ⟨.value fo, xs.toArray, ts⟩) φ rv (fun _ => H) := dv hf hx hc
end
/-! ### Several results -/
inductive ResV (P : Program) (fr : Fr) (H : List Ch) : ResultVar → Value → Prop where
  | tmp {t : Nat} {v : Value} (h : fget fr t = some v) : ResV P fr H (.tmp t) v
  | cell {t : Nat} {T : TypeId} {s bs : Nat} {zs : List Value} [hT : TyAgg P T] [hI : TyInfo P T s zs bs] {b : Nat} (i : Nat) {t' : TypeId} {us : List Value} (hv : fget fr t = some (pB b 0)) (hi : H[i]? = some (.blk b t' us)) (hl : Nat.beq us.length s = true) : ResV P fr H (.cell t T) (.agg us.toArray)
inductive ResL (P : Program) (fr : Fr) (H : List Ch) : List ResultVar → List Value → Prop where
  | nil : ResL P fr H [] []
  | cons {r : ResultVar} {v : Value} {rs : List ResultVar} {vs : List Value} (h : ResV P fr H r v) (hs : ResL P fr H rs vs) : ResL P fr H (r :: rs) (v :: vs)
def resRun (tmps : Array Value) : ResultVar → Sem Value
  | .tmp t => pure (tmps.getD t undef)
  | .cell a t => do loadVar t (← asAddr (tmps.getD a undef))
theorem ResV.run {r : ResultVar} {v : Value} (h : ResV P fr H r v) {a : Act} (hr : Rep n a fr) {w : World} (hh : HeapOk w0 w H) : (resRun a.tmps r).run P w = .ok v w := by
  cases h with
  | tmp h => simp only [resRun, hr.val _ _ h, Sem.run_pure]
  | @cell t T s bs zs hT hI b i t' us hv hi hl =>
    have hp := hr.val t _ hv
    have := run_loadAgg (P := P) hT hI (w := w) (b := b) (o := 0) (Nat.eq_of_beq_eq_true hl) (fun j u hj => by rw [hh.blk (List.mem_of_getElem? hi)]; simpa using hj)
    simp only [Instr.loadAt, Instr.sureAddr, Sem.run_bind, Sem.run_pure, Result.andThen_ok] at this
    simp only [resRun, hp, pB, asAddr, Sem.run_bind, Sem.run_pure, Result.andThen_ok, this]
theorem ResL.run {rs : List ResultVar} {vs : List Value} (h : ResL P fr H rs vs) {a : Act} (hr : Rep n a fr) {w : World} (hh : HeapOk w0 w H) : (rs.mapM (resRun a.tmps)).run P w = .ok vs w := by
  induction h with
  | nil => rfl
  | cons h hs ih => simp only [List.mapM_cons, Sem.run_bind, h.run hr hh, Result.andThen_ok, ih, Sem.run_pure]
theorem results_all {fn : Func} {rs : List ResultVar} {v1 v2 : Value} {vs : List Value} (hres : fn.results = rs.toArray) (h : ResL P fr H rs (v1 :: v2 :: vs)) {a : Act} (hr : Rep n a fr) {w : World} (hh : HeapOk w0 w H) :
    (results fn a.tmps).run P w = .ok (.tuple (v1 :: v2 :: vs).toArray) w := by
  have := h.run hr hh
  have e : (fn.results.mapM (resRun a.tmps) : Sem (Array Value)).run P w = .ok (v1 :: v2 :: vs).toArray w := by
    rw [hres, Array.mapM_eq_mapM_toList, Sem.run_map, this]; rfl
  have e2 : (results fn a.tmps : Sem Value) = (do let vs ← fn.results.mapM (resRun a.tmps); pure (if h : vs.size = 1 then vs[0] else .tuple vs)) := by
    unfold results; congr 1
  rw [e2, Sem.run_bind, e, Result.andThen_ok]
  simp
theorem G.retL {fn : Func} {rs : List ResultVar} {v1 v2 : Value} {vs : List Value} {X : Type} {φ : X → Prop} {rv : X → Value} {nw : X → List Ch} (x : X) (hφ : φ x) (hres : fn.results = rs.toArray) (hv : ResL P fr H rs (v1 :: v2 :: vs)) (he : Value.tuple (v1 :: v2 :: vs).toArray = rv x) (hH : ∀ w, HeapOk w0 w H → HeapOk w0 w (nw x)) :
    G n w0 fr H (bodyPost P fn (fun e w' => ∃ x, φ x ∧ e = .returned (rv x) ∧ HeapOk w0 w' (nw x)) .ret) :=
  fun _ w hr hh => ⟨hr.defs, _, results_all hres hv hr hh, x, hφ, by rw [he], hH w hh⟩
theorem G.bI {fn : Func} {rs : List ResultVar} {v1 v2 : Value} {vs : List Value} {v : Value} (hres : fn.results = rs.toArray) (hv : ResL P fr H rs (v1 :: v2 :: vs)) (he : Value.tuple (v1 :: v2 :: vs).toArray = v) :
    G n w0 fr H (bodyPost P fn (fun e w' => e = .returned v ∧ HeapOk w0 w' []) .ret) :=
  fun _ _ hr hh => ⟨hr.defs, _, results_all hres hv hr hh, by rw [he], hh.none⟩
/-- The end of a function that turns chunks and returns nothing. -/
theorem G.retF0 {fn : Func} {X : Type} {φ : X → Prop} {rv : X → Value} {nw : X → List Ch} (x : X) (hφ : φ x) (hres : fn.results = #[]) (he : Value.tuple #[] = rv x) (hH : ∀ w, HeapOk w0 w H → HeapOk w0 w (nw x)) :
    G n w0 fr H (bodyPost P fn (fun e w' => ∃ x, φ x ∧ e = .returned (rv x) ∧ HeapOk w0 w' (nw x)) .ret) := G.retV0 hres fun w h => ⟨x, hφ, by rw [he], hH w h⟩
theorem G.bC {fn : Func} {X : Type} {φ : X → Prop} {rv : X → Value} {nw : X → List Ch} (x : X) (hφ : φ x) (hres : fn.results = #[]) (he : Value.tuple #[] = rv x) (hH : ∀ w, HeapOk w0 w H → HeapOk w0 w (nw x)) :
    G n w0 fr H (bodyPost P fn (fun e w' => ∃ x, φ x ∧ e = .returned (rv x) ∧ HeapOk w0 w' (nw x)) .normal) := G.endV0 hres fun w h => ⟨x, hφ, by rw [he], hH w h⟩
end

instance : TyInfo Tryz.prog 1 1 [.nilFunc] 8 := ⟨by kernel_rfl⟩
instance : TyOne Tryz.prog 1 := ⟨by kernel_rfl⟩
instance : TyInfo Tryz.prog 2 1 [.int .i64 0] 8 := ⟨by kernel_rfl⟩
instance : TyOne Tryz.prog 2 := ⟨by kernel_rfl⟩
instance : TyInt Tryz.prog 2 .i64 := ⟨by kernel_rfl, by kernel_rfl⟩
instance : TyInfo Tryz.prog 3 1 [.int .i64 0] 8 := ⟨by kernel_rfl⟩
instance : TyOne Tryz.prog 3 := ⟨by kernel_rfl⟩
instance : TyInt Tryz.prog 3 .i64 := ⟨by kernel_rfl, by kernel_rfl⟩
instance : TyInfo Tryz.prog 4 1 [.bool false] 1 := ⟨by kernel_rfl⟩
instance : TyOne Tryz.prog 4 := ⟨by kernel_rfl⟩
instance : TyBool Tryz.prog 4 := ⟨by kernel_rfl⟩
instance : TyInfo Tryz.prog 5 1 [.int .u8 0] 1 := ⟨by kernel_rfl⟩
instance : TyOne Tryz.prog 5 := ⟨by kernel_rfl⟩
instance : TyInt Tryz.prog 5 .u8 := ⟨by kernel_rfl, by kernel_rfl⟩
instance : TyInfo Tryz.prog 6 1 [.int .u8 0] 1 := ⟨by kernel_rfl⟩
instance : TyOne Tryz.prog 6 := ⟨by kernel_rfl⟩
instance : TyInt Tryz.prog 6 .u8 := ⟨by kernel_rfl, by kernel_rfl⟩
instance : TyInfo Tryz.prog 9 1 [.string ⟨#[]⟩] 16 := ⟨by kernel_rfl⟩
instance : TyOne Tryz.prog 9 := ⟨by kernel_rfl⟩
instance : TyInfo Tryz.prog 23 4 [.int .i64 0, .int .i64 0, .int .i64 0, .int .i64 0] 32 := ⟨by kernel_rfl⟩
instance : TyAgg Tryz.prog 23 := ⟨by kernel_rfl⟩
instance : TyFld Tryz.prog 23 0 0 := ⟨by kernel_rfl⟩
instance : TyFld Tryz.prog 23 1 1 := ⟨by kernel_rfl⟩
instance : TyFld Tryz.prog 23 2 2 := ⟨by kernel_rfl⟩
instance : TyFld Tryz.prog 23 3 3 := ⟨by kernel_rfl⟩
instance : TyPlaces Tryz.prog 23 [(0, 1), (1, 1), (2, 1), (3, 1)] := ⟨by kernel_rfl⟩
instance : TyInfo Tryz.prog 24 1 [.slice none 0 0] 24 := ⟨by kernel_rfl⟩
instance : TyOne Tryz.prog 24 := ⟨by kernel_rfl⟩
instance : TySlice Tryz.prog 24 140 := ⟨by kernel_rfl⟩
instance : TyInfo Tryz.prog 25 1 [.slice none 0 0] 24 := ⟨by kernel_rfl⟩
instance : TyOne Tryz.prog 25 := ⟨by kernel_rfl⟩
instance : TySlice Tryz.prog 25 142 := ⟨by kernel_rfl⟩
instance : TyInfo Tryz.prog 26 1 [.slice none 0 0] 24 := ⟨by kernel_rfl⟩
instance : TyOne Tryz.prog 26 := ⟨by kernel_rfl⟩
instance : TySlice Tryz.prog 26 144 := ⟨by kernel_rfl⟩
instance : TyInfo Tryz.prog 28 10 [.int .i64 0, .int .i64 0, .int .i64 0, .int .i64 0, .int .i64 0, .int .i64 0, .slice none 0 0, .slice none 0 0, .int .i64 0, .slice none 0 0] 128 := ⟨by kernel_rfl⟩
instance : TyAgg Tryz.prog 28 := ⟨by kernel_rfl⟩
instance : TyFld Tryz.prog 28 0 0 := ⟨by kernel_rfl⟩
instance : TyFld Tryz.prog 28 1 1 := ⟨by kernel_rfl⟩
instance : TyFld Tryz.prog 28 2 5 := ⟨by kernel_rfl⟩
instance : TyFld Tryz.prog 28 3 6 := ⟨by kernel_rfl⟩
instance : TyFld Tryz.prog 28 4 7 := ⟨by kernel_rfl⟩
instance : TyFld Tryz.prog 28 5 8 := ⟨by kernel_rfl⟩
instance : TyFld Tryz.prog 28 6 9 := ⟨by kernel_rfl⟩
instance : TyPlaces Tryz.prog 28 [(0, 1), (1, 4), (5, 1), (6, 1), (7, 1), (8, 1), (9, 1)] := ⟨by kernel_rfl⟩
instance : TyInfo Tryz.prog 30 1 [.slice none 0 0] 24 := ⟨by kernel_rfl⟩
instance : TyOne Tryz.prog 30 := ⟨by kernel_rfl⟩
instance : TySlice Tryz.prog 30 54 := ⟨by kernel_rfl⟩
instance : TyInfo Tryz.prog 31 1 [.slice none 0 0] 24 := ⟨by kernel_rfl⟩
instance : TyOne Tryz.prog 31 := ⟨by kernel_rfl⟩
instance : TySlice Tryz.prog 31 86 := ⟨by kernel_rfl⟩
instance : TyInfo Tryz.prog 33 2 [.slice none 0 0, .slice none 0 0] 48 := ⟨by kernel_rfl⟩
instance : TyAgg Tryz.prog 33 := ⟨by kernel_rfl⟩
instance : TyFld Tryz.prog 33 0 0 := ⟨by kernel_rfl⟩
instance : TyFld Tryz.prog 33 1 1 := ⟨by kernel_rfl⟩
instance : TyPlaces Tryz.prog 33 [(0, 1), (1, 1)] := ⟨by kernel_rfl⟩
instance : TyInfo Tryz.prog 36 4 [.int .i64 0, .int .i64 0, .int .i64 0, .int .i64 0] 32 := ⟨by kernel_rfl⟩
instance : TyAgg Tryz.prog 36 := ⟨by kernel_rfl⟩
instance : TyFld Tryz.prog 36 0 0 := ⟨by kernel_rfl⟩
instance : TyFld Tryz.prog 36 1 1 := ⟨by kernel_rfl⟩
instance : TyFld Tryz.prog 36 2 2 := ⟨by kernel_rfl⟩
instance : TyFld Tryz.prog 36 3 3 := ⟨by kernel_rfl⟩
instance : TyPlaces Tryz.prog 36 [(0, 1), (1, 1), (2, 1), (3, 1)] := ⟨by kernel_rfl⟩
instance : TyInfo Tryz.prog 37 1 [.slice none 0 0] 24 := ⟨by kernel_rfl⟩
instance : TyOne Tryz.prog 37 := ⟨by kernel_rfl⟩
instance : TySlice Tryz.prog 37 138 := ⟨by kernel_rfl⟩
instance : TyInfo Tryz.prog 38 1 [.slice none 0 0] 24 := ⟨by kernel_rfl⟩
instance : TyOne Tryz.prog 38 := ⟨by kernel_rfl⟩
instance : TySlice Tryz.prog 38 56 := ⟨by kernel_rfl⟩
instance : TyInfo Tryz.prog 39 1 [.slice none 0 0] 24 := ⟨by kernel_rfl⟩
instance : TyOne Tryz.prog 39 := ⟨by kernel_rfl⟩
instance : TySlice Tryz.prog 39 111 := ⟨by kernel_rfl⟩
instance : TyInfo Tryz.prog 41 10 [.int .i64 0, .int .i64 0, .int .i64 0, .int .i64 0, .int .i64 0, .int .i64 0, .slice none 0 0, .slice none 0 0, .int .i64 0, .slice none 0 0] 128 := ⟨by kernel_rfl⟩
instance : TyAgg Tryz.prog 41 := ⟨by kernel_rfl⟩
instance : TyFld Tryz.prog 41 0 0 := ⟨by kernel_rfl⟩
instance : TyFld Tryz.prog 41 1 1 := ⟨by kernel_rfl⟩
instance : TyFld Tryz.prog 41 2 5 := ⟨by kernel_rfl⟩
instance : TyFld Tryz.prog 41 3 6 := ⟨by kernel_rfl⟩
instance : TyFld Tryz.prog 41 4 7 := ⟨by kernel_rfl⟩
instance : TyFld Tryz.prog 41 5 8 := ⟨by kernel_rfl⟩
instance : TyFld Tryz.prog 41 6 9 := ⟨by kernel_rfl⟩
instance : TyPlaces Tryz.prog 41 [(0, 1), (1, 4), (5, 1), (6, 1), (7, 1), (8, 1), (9, 1)] := ⟨by kernel_rfl⟩
instance : TyInfo Tryz.prog 48 1 [.slice none 0 0] 24 := ⟨by kernel_rfl⟩
instance : TyOne Tryz.prog 48 := ⟨by kernel_rfl⟩
instance : TySlice Tryz.prog 48 5 := ⟨by kernel_rfl⟩
instance : TyInfo Tryz.prog 52 1 [.slice none 0 0] 24 := ⟨by kernel_rfl⟩
instance : TyOne Tryz.prog 52 := ⟨by kernel_rfl⟩
instance : TySlice Tryz.prog 52 3 := ⟨by kernel_rfl⟩
instance : TyInfo Tryz.prog 54 3 [.int .i64 0, .int .i64 0, .slice none 0 0] 40 := ⟨by kernel_rfl⟩
instance : TyAgg Tryz.prog 54 := ⟨by kernel_rfl⟩
instance : TyFld Tryz.prog 54 0 0 := ⟨by kernel_rfl⟩
instance : TyFld Tryz.prog 54 1 1 := ⟨by kernel_rfl⟩
instance : TyFld Tryz.prog 54 2 2 := ⟨by kernel_rfl⟩
instance : TyPlaces Tryz.prog 54 [(0, 1), (1, 1), (2, 1)] := ⟨by kernel_rfl⟩
instance : TyInfo Tryz.prog 56 7 [.int .i64 0, .int .i64 0, .int .i64 0, .int .i64 0, .int .i64 0, .int .i64 0, .int .i64 0] 56 := ⟨by kernel_rfl⟩
instance : TyAgg Tryz.prog 56 := ⟨by kernel_rfl⟩
instance : TyFld Tryz.prog 56 0 0 := ⟨by kernel_rfl⟩
instance : TyFld Tryz.prog 56 1 1 := ⟨by kernel_rfl⟩
instance : TyFld Tryz.prog 56 2 2 := ⟨by kernel_rfl⟩
instance : TyFld Tryz.prog 56 3 3 := ⟨by kernel_rfl⟩
instance : TyFld Tryz.prog 56 4 4 := ⟨by kernel_rfl⟩
instance : TyFld Tryz.prog 56 5 5 := ⟨by kernel_rfl⟩
instance : TyFld Tryz.prog 56 6 6 := ⟨by kernel_rfl⟩
instance : TyPlaces Tryz.prog 56 [(0, 1), (1, 1), (2, 1), (3, 1), (4, 1), (5, 1), (6, 1)] := ⟨by kernel_rfl⟩
instance : TyInfo Tryz.prog 71 4 [.int .i64 0, .int .i64 0, .int .i64 0, .int .i64 0] 32 := ⟨by kernel_rfl⟩
instance : TyAgg Tryz.prog 71 := ⟨by kernel_rfl⟩
instance : TyFld Tryz.prog 71 0 0 := ⟨by kernel_rfl⟩
instance : TyFld Tryz.prog 71 1 1 := ⟨by kernel_rfl⟩
instance : TyFld Tryz.prog 71 2 2 := ⟨by kernel_rfl⟩
instance : TyFld Tryz.prog 71 3 3 := ⟨by kernel_rfl⟩
instance : TyPlaces Tryz.prog 71 [(0, 1), (1, 1), (2, 1), (3, 1)] := ⟨by kernel_rfl⟩
instance : TyInfo Tryz.prog 73 1 [.slice none 0 0] 24 := ⟨by kernel_rfl⟩
instance : TyOne Tryz.prog 73 := ⟨by kernel_rfl⟩
instance : TySlice Tryz.prog 73 71 := ⟨by kernel_rfl⟩
instance : TyInfo Tryz.prog 79 1 [.slice none 0 0] 24 := ⟨by kernel_rfl⟩
instance : TyOne Tryz.prog 79 := ⟨by kernel_rfl⟩
instance : TySlice Tryz.prog 79 52 := ⟨by kernel_rfl⟩
instance : TyInfo Tryz.prog 86 4 [.int .i64 0, .int .i64 0, .int .i64 0, .int .i64 0] 32 := ⟨by kernel_rfl⟩
instance : TyAgg Tryz.prog 86 := ⟨by kernel_rfl⟩
instance : TyFld Tryz.prog 86 0 0 := ⟨by kernel_rfl⟩
instance : TyFld Tryz.prog 86 1 1 := ⟨by kernel_rfl⟩
instance : TyFld Tryz.prog 86 2 2 := ⟨by kernel_rfl⟩
instance : TyFld Tryz.prog 86 3 3 := ⟨by kernel_rfl⟩
instance : TyPlaces Tryz.prog 86 [(0, 1), (1, 1), (2, 1), (3, 1)] := ⟨by kernel_rfl⟩
instance : TyInfo Tryz.prog 108 1 [.nilFunc] 8 := ⟨by kernel_rfl⟩
instance : TyOne Tryz.prog 108 := ⟨by kernel_rfl⟩
instance : TyInfo Tryz.prog 111 7 [.int .i64 0, .int .i64 0, .int .i64 0, .int .i64 0, .int .i64 0, .int .i64 0, .int .i64 0] 56 := ⟨by kernel_rfl⟩
instance : TyAgg Tryz.prog 111 := ⟨by kernel_rfl⟩
instance : TyFld Tryz.prog 111 0 0 := ⟨by kernel_rfl⟩
instance : TyFld Tryz.prog 111 1 1 := ⟨by kernel_rfl⟩
instance : TyFld Tryz.prog 111 2 2 := ⟨by kernel_rfl⟩
instance : TyFld Tryz.prog 111 3 3 := ⟨by kernel_rfl⟩
instance : TyFld Tryz.prog 111 4 4 := ⟨by kernel_rfl⟩
instance : TyFld Tryz.prog 111 5 5 := ⟨by kernel_rfl⟩
instance : TyFld Tryz.prog 111 6 6 := ⟨by kernel_rfl⟩
instance : TyPlaces Tryz.prog 111 [(0, 1), (1, 1), (2, 1), (3, 1), (4, 1), (5, 1), (6, 1)] := ⟨by kernel_rfl⟩
instance : TyInfo Tryz.prog 119 1 [.nilFunc] 8 := ⟨by kernel_rfl⟩
instance : TyOne Tryz.prog 119 := ⟨by kernel_rfl⟩
instance : TyInfo Tryz.prog 120 1 [.slice none 0 0] 24 := ⟨by kernel_rfl⟩
instance : TyOne Tryz.prog 120 := ⟨by kernel_rfl⟩
instance : TySlice Tryz.prog 120 131 := ⟨by kernel_rfl⟩
instance : TyInfo Tryz.prog 122 1 [.slice none 0 0] 24 := ⟨by kernel_rfl⟩
instance : TyOne Tryz.prog 122 := ⟨by kernel_rfl⟩
instance : TySlice Tryz.prog 122 129 := ⟨by kernel_rfl⟩
instance : TyInfo Tryz.prog 124 1 [.slice none 0 0] 24 := ⟨by kernel_rfl⟩
instance : TyOne Tryz.prog 124 := ⟨by kernel_rfl⟩
instance : TySlice Tryz.prog 124 127 := ⟨by kernel_rfl⟩
instance : TyInfo Tryz.prog 127 3 [.slice none 0 0, .int .i64 0, .int .i64 0] 40 := ⟨by kernel_rfl⟩
instance : TyAgg Tryz.prog 127 := ⟨by kernel_rfl⟩
instance : TyFld Tryz.prog 127 0 0 := ⟨by kernel_rfl⟩
instance : TyFld Tryz.prog 127 1 1 := ⟨by kernel_rfl⟩
instance : TyFld Tryz.prog 127 2 2 := ⟨by kernel_rfl⟩
instance : TyPlaces Tryz.prog 127 [(0, 1), (1, 1), (2, 1)] := ⟨by kernel_rfl⟩
instance : TyInfo Tryz.prog 129 4 [.slice none 0 0, .int .i64 0, .int .i64 0, .int .i64 0] 48 := ⟨by kernel_rfl⟩
instance : TyAgg Tryz.prog 129 := ⟨by kernel_rfl⟩
instance : TyFld Tryz.prog 129 0 0 := ⟨by kernel_rfl⟩
instance : TyFld Tryz.prog 129 1 1 := ⟨by kernel_rfl⟩
instance : TyFld Tryz.prog 129 2 2 := ⟨by kernel_rfl⟩
instance : TyFld Tryz.prog 129 3 3 := ⟨by kernel_rfl⟩
instance : TyPlaces Tryz.prog 129 [(0, 1), (1, 1), (2, 1), (3, 1)] := ⟨by kernel_rfl⟩
instance : TyInfo Tryz.prog 131 5 [.slice none 0 0, .int .i64 0, .int .i64 0, .int .i64 0, .int .i64 0] 56 := ⟨by kernel_rfl⟩
instance : TyAgg Tryz.prog 131 := ⟨by kernel_rfl⟩
instance : TyFld Tryz.prog 131 0 0 := ⟨by kernel_rfl⟩
instance : TyFld Tryz.prog 131 1 1 := ⟨by kernel_rfl⟩
instance : TyFld Tryz.prog 131 2 2 := ⟨by kernel_rfl⟩
instance : TyFld Tryz.prog 131 3 3 := ⟨by kernel_rfl⟩
instance : TyFld Tryz.prog 131 4 4 := ⟨by kernel_rfl⟩
instance : TyPlaces Tryz.prog 131 [(0, 1), (1, 1), (2, 1), (3, 1), (4, 1)] := ⟨by kernel_rfl⟩
instance : TyInfo Tryz.prog 135 1 [.nilFunc] 8 := ⟨by kernel_rfl⟩
instance : TyOne Tryz.prog 135 := ⟨by kernel_rfl⟩
instance : TyInfo Tryz.prog 136 1 [.nilFunc] 8 := ⟨by kernel_rfl⟩
instance : TyOne Tryz.prog 136 := ⟨by kernel_rfl⟩
instance : TyInfo Tryz.prog 138 2 [.int .i64 0, .int .i64 0] 16 := ⟨by kernel_rfl⟩
instance : TyAgg Tryz.prog 138 := ⟨by kernel_rfl⟩
instance : TyFld Tryz.prog 138 0 0 := ⟨by kernel_rfl⟩
instance : TyFld Tryz.prog 138 1 1 := ⟨by kernel_rfl⟩
instance : TyPlaces Tryz.prog 138 [(0, 1), (1, 1)] := ⟨by kernel_rfl⟩
instance : TyInfo Tryz.prog 140 2 [.int .i64 0, .int .i64 0] 16 := ⟨by kernel_rfl⟩
instance : TyAgg Tryz.prog 140 := ⟨by kernel_rfl⟩
instance : TyFld Tryz.prog 140 0 0 := ⟨by kernel_rfl⟩
instance : TyFld Tryz.prog 140 1 1 := ⟨by kernel_rfl⟩
instance : TyPlaces Tryz.prog 140 [(0, 1), (1, 1)] := ⟨by kernel_rfl⟩
instance : TyInfo Tryz.prog 142 7 [.int .i64 0, .int .i64 0, .int .i64 0, .int .i64 0, .int .i64 0, .int .i64 0, .int .i64 0] 56 := ⟨by kernel_rfl⟩
instance : TyAgg Tryz.prog 142 := ⟨by kernel_rfl⟩
instance : TyFld Tryz.prog 142 0 0 := ⟨by kernel_rfl⟩
instance : TyFld Tryz.prog 142 1 1 := ⟨by kernel_rfl⟩
instance : TyFld Tryz.prog 142 2 2 := ⟨by kernel_rfl⟩
instance : TyFld Tryz.prog 142 3 3 := ⟨by kernel_rfl⟩
instance : TyFld Tryz.prog 142 4 4 := ⟨by kernel_rfl⟩
instance : TyFld Tryz.prog 142 5 5 := ⟨by kernel_rfl⟩
instance : TyFld Tryz.prog 142 6 6 := ⟨by kernel_rfl⟩
instance : TyPlaces Tryz.prog 142 [(0, 1), (1, 1), (2, 1), (3, 1), (4, 1), (5, 1), (6, 1)] := ⟨by kernel_rfl⟩
instance : TyInfo Tryz.prog 144 7 [.int .i64 0, .int .i64 0, .int .i64 0, .int .i64 0, .int .i64 0, .int .i64 0, .int .i64 0] 56 := ⟨by kernel_rfl⟩
instance : TyAgg Tryz.prog 144 := ⟨by kernel_rfl⟩
instance : TyFld Tryz.prog 144 0 0 := ⟨by kernel_rfl⟩
instance : TyFld Tryz.prog 144 1 1 := ⟨by kernel_rfl⟩
instance : TyFld Tryz.prog 144 2 2 := ⟨by kernel_rfl⟩
instance : TyFld Tryz.prog 144 3 3 := ⟨by kernel_rfl⟩
instance : TyFld Tryz.prog 144 4 4 := ⟨by kernel_rfl⟩
instance : TyFld Tryz.prog 144 5 5 := ⟨by kernel_rfl⟩
instance : TyFld Tryz.prog 144 6 6 := ⟨by kernel_rfl⟩
instance : TyPlaces Tryz.prog 144 [(0, 1), (1, 1), (2, 1), (3, 1), (4, 1), (5, 1), (6, 1)] := ⟨by kernel_rfl⟩
instance : TyInfo Tryz.prog 149 1 [.pointer none] 8 := ⟨by kernel_rfl⟩
instance : TyOne Tryz.prog 149 := ⟨by kernel_rfl⟩
instance : TyInfo Tryz.prog 156 1 [.int .u64 0] 8 := ⟨by kernel_rfl⟩
instance : TyOne Tryz.prog 156 := ⟨by kernel_rfl⟩
instance : TyInt Tryz.prog 156 .u64 := ⟨by kernel_rfl, by kernel_rfl⟩
instance : TyInfo Tryz.prog 161 1 [.nilFunc] 8 := ⟨by kernel_rfl⟩
instance : TyOne Tryz.prog 161 := ⟨by kernel_rfl⟩
instance : TyInfo Tryz.prog 166 1 [.nilFunc] 8 := ⟨by kernel_rfl⟩
instance : TyOne Tryz.prog 166 := ⟨by kernel_rfl⟩
instance : TyInfo Tryz.prog 177 1 [.nilFunc] 8 := ⟨by kernel_rfl⟩
instance : TyOne Tryz.prog 177 := ⟨by kernel_rfl⟩
instance : TyInfo Tryz.prog 182 3 [.slice none 0 0, .int .i64 0, .int .i64 0] 40 := ⟨by kernel_rfl⟩
instance : TyAgg Tryz.prog 182 := ⟨by kernel_rfl⟩
instance : TyFld Tryz.prog 182 0 0 := ⟨by kernel_rfl⟩
instance : TyFld Tryz.prog 182 1 1 := ⟨by kernel_rfl⟩
instance : TyFld Tryz.prog 182 2 2 := ⟨by kernel_rfl⟩
instance : TyPlaces Tryz.prog 182 [(0, 1), (1, 1), (2, 1)] := ⟨by kernel_rfl⟩
instance : TyInfo Tryz.prog 185 1 [.int .i64 0] 8 := ⟨by kernel_rfl⟩
instance : TyOne Tryz.prog 185 := ⟨by kernel_rfl⟩
instance : TyInt Tryz.prog 185 .i64 := ⟨by kernel_rfl, by kernel_rfl⟩
instance : TyInfo Tryz.prog 194 1 [.int .u32 0] 4 := ⟨by kernel_rfl⟩
instance : TyOne Tryz.prog 194 := ⟨by kernel_rfl⟩
instance : TyInt Tryz.prog 194 .u32 := ⟨by kernel_rfl, by kernel_rfl⟩
instance : TyInfo Tryz.prog 196 1 [.int .u64 0] 8 := ⟨by kernel_rfl⟩
instance : TyOne Tryz.prog 196 := ⟨by kernel_rfl⟩
instance : TyInt Tryz.prog 196 .u64 := ⟨by kernel_rfl, by kernel_rfl⟩
instance : TyInfo Tryz.prog 201 2 [.int .i64 0, .int .i64 0] 16 := ⟨by kernel_rfl⟩
instance : TyAgg Tryz.prog 201 := ⟨by kernel_rfl⟩
instance : TyFld Tryz.prog 201 0 0 := ⟨by kernel_rfl⟩
instance : TyFld Tryz.prog 201 1 1 := ⟨by kernel_rfl⟩
instance : TyPlaces Tryz.prog 201 [(0, 1), (1, 1)] := ⟨by kernel_rfl⟩
instance : TyInfo Tryz.prog 213 1 [.nilFunc] 8 := ⟨by kernel_rfl⟩
instance : TyOne Tryz.prog 213 := ⟨by kernel_rfl⟩
instance : TyInfo Tryz.prog 215 1 [.nilFunc] 8 := ⟨by kernel_rfl⟩
instance : TyOne Tryz.prog 215 := ⟨by kernel_rfl⟩
instance : TyInfo Tryz.prog 219 1 [.nilFunc] 8 := ⟨by kernel_rfl⟩
instance : TyOne Tryz.prog 219 := ⟨by kernel_rfl⟩
instance : TyInfo Tryz.prog 220 1 [.int .u64 0] 8 := ⟨by kernel_rfl⟩
instance : TyOne Tryz.prog 220 := ⟨by kernel_rfl⟩
instance : TyInt Tryz.prog 220 .u64 := ⟨by kernel_rfl, by kernel_rfl⟩
instance : TyInfo Tryz.prog 224 1 [.pointer none] 8 := ⟨by kernel_rfl⟩
instance : TyOne Tryz.prog 224 := ⟨by kernel_rfl⟩
instance : FnOk Tryz.prog 3 := ⟨by kernel_rfl⟩
instance : FnOk Tryz.prog 4 := ⟨by kernel_rfl⟩
instance : FnOk Tryz.prog 5 := ⟨by kernel_rfl⟩
instance : FnOk Tryz.prog 6 := ⟨by kernel_rfl⟩
instance : FnOk Tryz.prog 7 := ⟨by kernel_rfl⟩
instance : FnOk Tryz.prog 8 := ⟨by kernel_rfl⟩
instance : FnOk Tryz.prog 9 := ⟨by kernel_rfl⟩
instance : FnOk Tryz.prog 10 := ⟨by kernel_rfl⟩
instance : FnOk Tryz.prog 11 := ⟨by kernel_rfl⟩
instance : FnOk Tryz.prog 12 := ⟨by kernel_rfl⟩
instance : FnOk Tryz.prog 13 := ⟨by kernel_rfl⟩
instance : FnOk Tryz.prog 14 := ⟨by kernel_rfl⟩
instance : FnOk Tryz.prog 15 := ⟨by kernel_rfl⟩
instance : FnOk Tryz.prog 16 := ⟨by kernel_rfl⟩
instance : FnOk Tryz.prog 17 := ⟨by kernel_rfl⟩
instance : FnOk Tryz.prog 18 := ⟨by kernel_rfl⟩
instance : FnOk Tryz.prog 19 := ⟨by kernel_rfl⟩
instance : FnOk Tryz.prog 20 := ⟨by kernel_rfl⟩
instance : FnOk Tryz.prog 21 := ⟨by kernel_rfl⟩
instance : FnOk Tryz.prog 22 := ⟨by kernel_rfl⟩
instance : FnOk Tryz.prog 23 := ⟨by kernel_rfl⟩
instance : FnOk Tryz.prog 24 := ⟨by kernel_rfl⟩
instance : FnOk Tryz.prog 25 := ⟨by kernel_rfl⟩
instance : FnOk Tryz.prog 26 := ⟨by kernel_rfl⟩
instance : FnOk Tryz.prog 27 := ⟨by kernel_rfl⟩
instance : FnOk Tryz.prog 28 := ⟨by kernel_rfl⟩
instance : FnOk Tryz.prog 29 := ⟨by kernel_rfl⟩
instance : FnOk Tryz.prog 30 := ⟨by kernel_rfl⟩
instance : FnOk Tryz.prog 31 := ⟨by kernel_rfl⟩
instance : FnOk Tryz.prog 32 := ⟨by kernel_rfl⟩
instance : FnOk Tryz.prog 33 := ⟨by kernel_rfl⟩
instance : FnOk Tryz.prog 34 := ⟨by kernel_rfl⟩
instance : FnOk Tryz.prog 35 := ⟨by kernel_rfl⟩
instance : FnOk Tryz.prog 36 := ⟨by kernel_rfl⟩
instance : FnOk Tryz.prog 37 := ⟨by kernel_rfl⟩
instance : FnOk Tryz.prog 38 := ⟨by kernel_rfl⟩
instance : FnOk Tryz.prog 39 := ⟨by kernel_rfl⟩
instance : FnOk Tryz.prog 40 := ⟨by kernel_rfl⟩
instance : FnOk Tryz.prog 41 := ⟨by kernel_rfl⟩
instance : FnOk Tryz.prog 42 := ⟨by kernel_rfl⟩
instance : FnOk Tryz.prog 43 := ⟨by kernel_rfl⟩
instance : FnOk Tryz.prog 44 := ⟨by kernel_rfl⟩
instance : FnOk Tryz.prog 45 := ⟨by kernel_rfl⟩
instance : FnOk Tryz.prog 46 := ⟨by kernel_rfl⟩
instance : FnOk Tryz.prog 47 := ⟨by kernel_rfl⟩
instance : FnOk Tryz.prog 48 := ⟨by kernel_rfl⟩
instance : FnOk Tryz.prog 49 := ⟨by kernel_rfl⟩
instance : FnOk Tryz.prog 50 := ⟨by kernel_rfl⟩
instance : FnOk Tryz.prog 51 := ⟨by kernel_rfl⟩
instance : FnOk Tryz.prog 52 := ⟨by kernel_rfl⟩
instance : FnOk Tryz.prog 53 := ⟨by kernel_rfl⟩
instance : FnOk Tryz.prog 54 := ⟨by kernel_rfl⟩
instance : FnOk Tryz.prog 55 := ⟨by kernel_rfl⟩
instance : FnOk Tryz.prog 56 := ⟨by kernel_rfl⟩
instance : FnOk Tryz.prog 57 := ⟨by kernel_rfl⟩
instance : FnOk Tryz.prog 58 := ⟨by kernel_rfl⟩
instance : FnOk Tryz.prog 59 := ⟨by kernel_rfl⟩
instance : FnOk Tryz.prog 60 := ⟨by kernel_rfl⟩
instance : FnOk Tryz.prog 61 := ⟨by kernel_rfl⟩
instance : FnOk Tryz.prog 62 := ⟨by kernel_rfl⟩
instance : FnOk Tryz.prog 63 := ⟨by kernel_rfl⟩
instance : FnOk Tryz.prog 64 := ⟨by kernel_rfl⟩
instance : FnOk Tryz.prog 65 := ⟨by kernel_rfl⟩
instance : FnOk Tryz.prog 66 := ⟨by kernel_rfl⟩
instance : FnOk Tryz.prog 67 := ⟨by kernel_rfl⟩
instance : FnOk Tryz.prog 68 := ⟨by kernel_rfl⟩
instance : FnOk Tryz.prog 69 := ⟨by kernel_rfl⟩
instance : FnOk Tryz.prog 70 := ⟨by kernel_rfl⟩
instance : FnOk Tryz.prog 71 := ⟨by kernel_rfl⟩
instance : FnOk Tryz.prog 72 := ⟨by kernel_rfl⟩
instance : FnOk Tryz.prog 73 := ⟨by kernel_rfl⟩
instance : FnOk Tryz.prog 74 := ⟨by kernel_rfl⟩
instance : FnOk Tryz.prog 75 := ⟨by kernel_rfl⟩
instance : FnOk Tryz.prog 76 := ⟨by kernel_rfl⟩
instance : FnOk Tryz.prog 77 := ⟨by kernel_rfl⟩
instance : FnOk Tryz.prog 78 := ⟨by kernel_rfl⟩
instance : FnOk Tryz.prog 79 := ⟨by kernel_rfl⟩
instance : FnOk Tryz.prog 80 := ⟨by kernel_rfl⟩
instance : FnOk Tryz.prog 81 := ⟨by kernel_rfl⟩
instance : FnOk Tryz.prog 82 := ⟨by kernel_rfl⟩
instance : FnOk Tryz.prog 83 := ⟨by kernel_rfl⟩
instance : FnOk Tryz.prog 84 := ⟨by kernel_rfl⟩
instance : FnOk Tryz.prog 85 := ⟨by kernel_rfl⟩
instance : FnOk Tryz.prog 86 := ⟨by kernel_rfl⟩
instance : FnOk Tryz.prog 87 := ⟨by kernel_rfl⟩
instance : FnOk Tryz.prog 88 := ⟨by kernel_rfl⟩
instance : FnOk Tryz.prog 89 := ⟨by kernel_rfl⟩
instance : FnOk Tryz.prog 90 := ⟨by kernel_rfl⟩
instance : FnOk Tryz.prog 91 := ⟨by kernel_rfl⟩
instance : FnOk Tryz.prog 92 := ⟨by kernel_rfl⟩
instance : FnOk Tryz.prog 93 := ⟨by kernel_rfl⟩
instance : FnOk Tryz.prog 94 := ⟨by kernel_rfl⟩
instance : FnOk Tryz.prog 95 := ⟨by kernel_rfl⟩
instance : FnOk Tryz.prog 96 := ⟨by kernel_rfl⟩
instance : FnOk Tryz.prog 97 := ⟨by kernel_rfl⟩
instance : FnOk Tryz.prog 98 := ⟨by kernel_rfl⟩
instance : FnOk Tryz.prog 99 := ⟨by kernel_rfl⟩
instance : FnOk Tryz.prog 100 := ⟨by kernel_rfl⟩
instance : FnOk Tryz.prog 101 := ⟨by kernel_rfl⟩
instance : FnOk Tryz.prog 102 := ⟨by kernel_rfl⟩
instance : FnOk Tryz.prog 103 := ⟨by kernel_rfl⟩
instance : FnOk Tryz.prog 104 := ⟨by kernel_rfl⟩
instance : FnOk Tryz.prog 105 := ⟨by kernel_rfl⟩
instance : FnOk Tryz.prog 106 := ⟨by kernel_rfl⟩
instance : FnOk Tryz.prog 107 := ⟨by kernel_rfl⟩
instance : FnOk Tryz.prog 108 := ⟨by kernel_rfl⟩
instance : FnOk Tryz.prog 109 := ⟨by kernel_rfl⟩
instance : FnOk Tryz.prog 110 := ⟨by kernel_rfl⟩
instance : FnOk Tryz.prog 111 := ⟨by kernel_rfl⟩
instance : FnOk Tryz.prog 112 := ⟨by kernel_rfl⟩
instance : FnOk Tryz.prog 113 := ⟨by kernel_rfl⟩
instance : FnOk Tryz.prog 114 := ⟨by kernel_rfl⟩
instance : FnOk Tryz.prog 115 := ⟨by kernel_rfl⟩
instance : FnOk Tryz.prog 116 := ⟨by kernel_rfl⟩
instance : FnOk Tryz.prog 117 := ⟨by kernel_rfl⟩
instance : FnOk Tryz.prog 118 := ⟨by kernel_rfl⟩
instance : FnOk Tryz.prog 119 := ⟨by kernel_rfl⟩
instance : FnOk Tryz.prog 120 := ⟨by kernel_rfl⟩
instance : FnOk Tryz.prog 121 := ⟨by kernel_rfl⟩
instance : FnOk Tryz.prog 122 := ⟨by kernel_rfl⟩
instance : FnOk Tryz.prog 123 := ⟨by kernel_rfl⟩
instance : FnOk Tryz.prog 124 := ⟨by kernel_rfl⟩
instance : FnOk Tryz.prog 125 := ⟨by kernel_rfl⟩
instance : FnOk Tryz.prog 126 := ⟨by kernel_rfl⟩
instance : FnOk Tryz.prog 127 := ⟨by kernel_rfl⟩
instance : FnOk Tryz.prog 128 := ⟨by kernel_rfl⟩
instance : FnOk Tryz.prog 129 := ⟨by kernel_rfl⟩
instance : FnOk Tryz.prog 130 := ⟨by kernel_rfl⟩
instance : FnOk Tryz.prog 131 := ⟨by kernel_rfl⟩
instance : FnOk Tryz.prog 132 := ⟨by kernel_rfl⟩
instance : FnOk Tryz.prog 133 := ⟨by kernel_rfl⟩
instance : FnOk Tryz.prog 134 := ⟨by kernel_rfl⟩
instance : FnOk Tryz.prog 135 := ⟨by kernel_rfl⟩
instance : FnOk Tryz.prog 136 := ⟨by kernel_rfl⟩
instance : FnOk Tryz.prog 137 := ⟨by kernel_rfl⟩
instance : FnOk Tryz.prog 138 := ⟨by kernel_rfl⟩
instance : FnOk Tryz.prog 139 := ⟨by kernel_rfl⟩
instance : FnOk Tryz.prog 140 := ⟨by kernel_rfl⟩
instance : FnOk Tryz.prog 141 := ⟨by kernel_rfl⟩
instance : FnOk Tryz.prog 142 := ⟨by kernel_rfl⟩
instance : FnOk Tryz.prog 143 := ⟨by kernel_rfl⟩
instance : FnOk Tryz.prog 144 := ⟨by kernel_rfl⟩
instance : FnOk Tryz.prog 145 := ⟨by kernel_rfl⟩
instance : FnOk Tryz.prog 146 := ⟨by kernel_rfl⟩
instance : FnOk Tryz.prog 147 := ⟨by kernel_rfl⟩
instance : FnOk Tryz.prog 148 := ⟨by kernel_rfl⟩
instance : FnOk Tryz.prog 149 := ⟨by kernel_rfl⟩
instance : FnOk Tryz.prog 150 := ⟨by kernel_rfl⟩
instance : FnOk Tryz.prog 151 := ⟨by kernel_rfl⟩
instance : FnOk Tryz.prog 152 := ⟨by kernel_rfl⟩
instance : FnOk Tryz.prog 153 := ⟨by kernel_rfl⟩
instance : FnOk Tryz.prog 154 := ⟨by kernel_rfl⟩
instance : FnOk Tryz.prog 155 := ⟨by kernel_rfl⟩
instance : FnOk Tryz.prog 156 := ⟨by kernel_rfl⟩
instance : FnOk Tryz.prog 157 := ⟨by kernel_rfl⟩
instance : FnOk Tryz.prog 158 := ⟨by kernel_rfl⟩
instance : FnOk Tryz.prog 159 := ⟨by kernel_rfl⟩
instance : FnOk Tryz.prog 160 := ⟨by kernel_rfl⟩
instance : FnOk Tryz.prog 161 := ⟨by kernel_rfl⟩
instance : FnOk Tryz.prog 162 := ⟨by kernel_rfl⟩
instance : FnOk Tryz.prog 163 := ⟨by kernel_rfl⟩
instance : FnOk Tryz.prog 164 := ⟨by kernel_rfl⟩
instance : FnOk Tryz.prog 165 := ⟨by kernel_rfl⟩
instance : FnOk Tryz.prog 166 := ⟨by kernel_rfl⟩
instance : FnOk Tryz.prog 167 := ⟨by kernel_rfl⟩
instance : FnOk Tryz.prog 168 := ⟨by kernel_rfl⟩
instance : FnOk Tryz.prog 169 := ⟨by kernel_rfl⟩
instance : FnOk Tryz.prog 170 := ⟨by kernel_rfl⟩
instance : FnOk Tryz.prog 171 := ⟨by kernel_rfl⟩
instance : FnOk Tryz.prog 172 := ⟨by kernel_rfl⟩
instance : FnOk Tryz.prog 173 := ⟨by kernel_rfl⟩
instance : FnOk Tryz.prog 174 := ⟨by kernel_rfl⟩
instance : FnOk Tryz.prog 175 := ⟨by kernel_rfl⟩
instance : FnOk Tryz.prog 176 := ⟨by kernel_rfl⟩
instance : FnOk Tryz.prog 177 := ⟨by kernel_rfl⟩
instance : FnOk Tryz.prog 178 := ⟨by kernel_rfl⟩
instance : FnOk Tryz.prog 179 := ⟨by kernel_rfl⟩
instance : FnOk Tryz.prog 180 := ⟨by kernel_rfl⟩
instance : FnOk Tryz.prog 181 := ⟨by kernel_rfl⟩
instance : FnOk Tryz.prog 182 := ⟨by kernel_rfl⟩
instance : FnOk Tryz.prog 183 := ⟨by kernel_rfl⟩
instance : FnOk Tryz.prog 184 := ⟨by kernel_rfl⟩
instance : FnOk Tryz.prog 185 := ⟨by kernel_rfl⟩
instance : FnOk Tryz.prog 186 := ⟨by kernel_rfl⟩
instance : FnOk Tryz.prog 187 := ⟨by kernel_rfl⟩
instance : FnOk Tryz.prog 188 := ⟨by kernel_rfl⟩
instance : FnOk Tryz.prog 189 := ⟨by kernel_rfl⟩
instance : FnOk Tryz.prog 190 := ⟨by kernel_rfl⟩
instance : FnOk Tryz.prog 191 := ⟨by kernel_rfl⟩
instance : FnOk Tryz.prog 192 := ⟨by kernel_rfl⟩
instance : FnOk Tryz.prog 193 := ⟨by kernel_rfl⟩
instance : FnOk Tryz.prog 194 := ⟨by kernel_rfl⟩
instance : FnOk Tryz.prog 195 := ⟨by kernel_rfl⟩
instance : FnOk Tryz.prog 196 := ⟨by kernel_rfl⟩
instance : FnOk Tryz.prog 197 := ⟨by kernel_rfl⟩
instance : FnOk Tryz.prog 198 := ⟨by kernel_rfl⟩
instance : FnOk Tryz.prog 199 := ⟨by kernel_rfl⟩
instance : FnOk Tryz.prog 200 := ⟨by kernel_rfl⟩
instance : FnOk Tryz.prog 201 := ⟨by kernel_rfl⟩
instance : FnOk Tryz.prog 202 := ⟨by kernel_rfl⟩
instance : FnOk Tryz.prog 203 := ⟨by kernel_rfl⟩
instance : FnOk Tryz.prog 204 := ⟨by kernel_rfl⟩
instance : FnOk Tryz.prog 205 := ⟨by kernel_rfl⟩
instance : FnOk Tryz.prog 206 := ⟨by kernel_rfl⟩
instance : FnOk Tryz.prog 207 := ⟨by kernel_rfl⟩
instance : FnOk Tryz.prog 208 := ⟨by kernel_rfl⟩
instance : FnOk Tryz.prog 209 := ⟨by kernel_rfl⟩
instance : FnOk Tryz.prog 210 := ⟨by kernel_rfl⟩
instance : FnOk Tryz.prog 211 := ⟨by kernel_rfl⟩
instance : FnOk Tryz.prog 212 := ⟨by kernel_rfl⟩
instance : FnOk Tryz.prog 213 := ⟨by kernel_rfl⟩
instance : FnOk Tryz.prog 214 := ⟨by kernel_rfl⟩
instance : FnOk Tryz.prog 215 := ⟨by kernel_rfl⟩
instance : FnOk Tryz.prog 216 := ⟨by kernel_rfl⟩
instance : FnOk Tryz.prog 217 := ⟨by kernel_rfl⟩
instance : FnOk Tryz.prog 218 := ⟨by kernel_rfl⟩
instance : FnOk Tryz.prog 219 := ⟨by kernel_rfl⟩
instance : FnOk Tryz.prog 220 := ⟨by kernel_rfl⟩
instance : FnOk Tryz.prog 221 := ⟨by kernel_rfl⟩
instance : FnOk Tryz.prog 222 := ⟨by kernel_rfl⟩
instance : FnOk Tryz.prog 223 := ⟨by kernel_rfl⟩
instance : FnOk Tryz.prog 224 := ⟨by kernel_rfl⟩
instance : FnOk Tryz.prog 225 := ⟨by kernel_rfl⟩
instance : FnOk Tryz.prog 226 := ⟨by kernel_rfl⟩
instance : FnOk Tryz.prog 227 := ⟨by kernel_rfl⟩
instance : FnOk Tryz.prog 228 := ⟨by kernel_rfl⟩
instance : FnOk Tryz.prog 229 := ⟨by kernel_rfl⟩
instance : FnOk Tryz.prog 230 := ⟨by kernel_rfl⟩
instance : FnOk Tryz.prog 232 := ⟨by kernel_rfl⟩
instance : FnOk Tryz.prog 233 := ⟨by kernel_rfl⟩
instance : FnOk Tryz.prog 234 := ⟨by kernel_rfl⟩
instance : FnOk Tryz.prog 235 := ⟨by kernel_rfl⟩
instance : FnOk Tryz.prog 236 := ⟨by kernel_rfl⟩
instance : FnOk Tryz.prog 237 := ⟨by kernel_rfl⟩
instance : FnOk Tryz.prog 238 := ⟨by kernel_rfl⟩
instance : FnOk Tryz.prog 239 := ⟨by kernel_rfl⟩
instance : FnOk Tryz.prog 240 := ⟨by kernel_rfl⟩
instance : FnOk Tryz.prog 241 := ⟨by kernel_rfl⟩
instance : FnOk Tryz.prog 242 := ⟨by kernel_rfl⟩
instance : FnOk Tryz.prog 243 := ⟨by kernel_rfl⟩
instance : FnOk Tryz.prog 244 := ⟨by kernel_rfl⟩
instance : FnOk Tryz.prog 245 := ⟨by kernel_rfl⟩
instance : FnOk Tryz.prog 246 := ⟨by kernel_rfl⟩
instance : Wide Tryz.prog := ⟨by kernel_rfl⟩

structure BoxM where
  w : Int
  d : Int
  h : Int
  g : Int
deriving DecidableEq
def BoxM.cells (b : BoxM) : List Value := [.int .i64 b.w, .int .i64 b.d, .int .i64 b.h, .int .i64 b.g]
def BoxM.val (b : BoxM) : Value := .agg b.cells.toArray
structure SpotM where
  p : Int
  x : Int
  y : Int
  z : Int
deriving DecidableEq
def SpotM.cells (b : SpotM) : List Value := [.int .i64 b.p, .int .i64 b.x, .int .i64 b.y, .int .i64 b.z]
def SpotM.val (b : SpotM) : Value := .agg b.cells.toArray
structure PalletM where
  w : Int
  d : Int
  h : Int
  g : Int
deriving DecidableEq
def PalletM.cells (b : PalletM) : List Value := [.int .i64 b.w, .int .i64 b.d, .int .i64 b.h, .int .i64 b.g]
def PalletM.val (b : PalletM) : Value := .agg b.cells.toArray
def icell (z : Int) : List Value := [.int .i64 z]

theorem bP {α β : Type} {l : List α} {k : Nat} {x : α} (h : l[k]? = some x) (f : β → α → β) (a : β) : (l.take (k + 1)).foldl f a = f ((l.take k).foldl f a) x := by
  rw [List.take_add_one, h]; simp
theorem bZ {α : Type} {l : List α} {k : Nat} (h : ¬ k < l.length) : l.take k = l := List.take_of_length_le (by omega)
theorem bn {α : Type} {l : List α} {k : Nat} (h : k < l.length) : ∃ x, l[k]? = some x := ⟨l[k], List.getElem?_eq_getElem h⟩
theorem bt {α : Type} {l : List α} {k : Nat} {x : α} (h : l[k]? = some x) (f : α → List Value) : (l.map f)[k]? = some (f x) := by rw [List.getElem?_map, h]; rfl
theorem Rd.le_map {w : World} {v : Value} {s : Nat} {α : Type} {l : List α} {f : α → List Value} (h : Rd w v s (l.map f)) : l.length ≤ 9223372036854775807 := by
  have := h.le; simpa [maxLen] using this

/-- A row that is being filled: the first k elements are those of es. -/
def fillTo (es : List (List Value)) (z : List Value) (k : Nat) : List (List Value) := es.take k ++ List.replicate (es.length - k) z
def szM (n : Nat) (left : Int) : Int := max (left - n) (-1)

def inB (n lo hi : Int) : Bool := decide (lo ≤ n) && decide (n ≤ hi)
def volM (w h d : Int) : Int := if inB w 0 2000 && inB h 0 2000 && inB d 0 2000 then IntKind.i64.wrap (IntKind.i64.wrap (w * h) * d) else 0
def palletOkM (p : PalletM) : Bool := inB p.w 1 2000 && inB p.d 1 2000 && inB p.h 1 2000 && inB p.g 1 100000
def placedM (b : BoxM) (s : SpotM) : Bool := inB b.w 0 2000 && inB b.d 0 2000 && inB b.h 0 2000 && inB s.x 0 2000 && inB s.y 0 2000 && inB s.z 0 2000
def crossM (a long b other : Int) : Bool := decide (a < IntKind.i64.wrap (b + other)) && decide (b < IntKind.i64.wrap (a + long))
def overlapM (a : BoxM) (s : SpotM) (b : BoxM) (t : SpotM) : Bool :=
  placedM a s && placedM b t && decide (s.p = t.p) && crossM s.x a.w t.x b.w && crossM s.y a.d t.y b.d && crossM s.z a.h t.z b.h
def withinM (p : PalletM) (b : BoxM) (s : SpotM) : Bool :=
  inB s.x 0 2000 && inB s.y 0 2000 && inB s.z 0 2000 && inB b.w 1 2000 && inB b.d 1 2000 && inB b.h 1 2000 &&
  decide (IntKind.i64.wrap (s.x + b.w) ≤ p.w) && decide (IntKind.i64.wrap (s.y + b.d) ≤ p.d) && decide (IntKind.i64.wrap (s.z + b.h) ≤ p.h)
def areaStep (n : Int) (b : BoxM) : Int := IntKind.i64.wrap (n + volM b.w 1 b.d)
def areaM (l : List BoxM) : Int := l.foldl areaStep 0
def sumStep (n x : Int) : Int := if inB x (-1000000000) 1000000000 then IntKind.i64.wrap (n + x) else n
def sumM (l : List Int) : Int := l.foldl sumStep 0
def palStep (n : Int) (s : SpotM) : Int := if inB s.p 0 999999 then max n (s.p + 1) else n
def palletsM (l : List SpotM) : Int := l.foldl palStep 0
def boxOkM (p : PalletM) (b : BoxM) : Bool := inB b.w 1 p.w && inB b.d 1 p.d && inB b.h 1 p.h && inB b.g 1 p.g
def boxesOkM (p : PalletM) (l : List BoxM) : Bool := palletOkM p && l.all (boxOkM p)
def heapOkM (p : PalletM) (d h g : Int) : Bool := inB d 1 p.d && inB h 1 p.h && inB g 1 p.g
/-- Where the first is that p holds of; -1 where there is none. -/
def idxM {α : Type} (p : α → Bool) : List α → Int
  | [] => -1
  | x :: r => if p x then 0 else if idxM p r < 0 then -1 else idxM p r + 1
theorem idx_ge {α : Type} (p : α → Bool) : ∀ l : List α, -1 ≤ idxM p l
  | [] => by simp [idxM]
  | x :: r => by have := idx_ge p r; rw [idxM]; split <;> (try split) <;> omega
theorem di {α : Type} {p : α → Bool} : ∀ {l : List α} {k : Nat} {b : α}, (l.take k).any p = false → l[k]? = some b → p b = true → idxM p l = k
  | [], k, b, _, h, _ => by simp at h
  | x :: r, 0, b, _, h, hb => by simp at h; subst h; simp [idxM, hb]
  | x :: r, k + 1, b, h0, h, hb => by
    simp only [List.take_succ_cons, List.any_cons, Bool.or_eq_false_iff] at h0
    simp only [List.getElem?_cons_succ] at h
    have := di h0.2 h hb
    rw [idxM, h0.1, this]; simp; omega
theorem cT {α : Type} (p : α → Bool) : ∀ l : List α, decide (idxM p l ≥ 0) = l.any p
  | [] => rfl
  | x :: r => by
    have := cT p r
    rw [idxM, List.any_cons, ← this]
    by_cases h : p x = true
    · simp [h]
    · simp only [h, Bool.false_or, if_false]; simp
      by_cases h2 : idxM p r < 0
      · rw [if_pos h2]; omega
      · rw [if_neg h2]; omega
theorem cy {α : Type} {p : α → Bool} {l : List α} {k : Nat} (h : (l.take k).any p = false) (hk : ¬ k < l.length) : idxM p l = -1 := by
  rw [List.take_of_length_le (by omega)] at h
  have h1 := cT p l
  have h2 := idx_ge p l
  rw [h] at h1
  have := of_decide_eq_false h1
  omega
theorem cc {α : Type} {p : α → Bool} {l : List α} {k : Nat} {b : α} (h : (l.take k).any p = false) (hb : l[k]? = some b) (hp : p b = false) : (l.take (k + 1)).any p = false := by
  rw [List.take_add_one, hb, List.any_append, h]; simp [hp]
theorem dG {α : Type} {f : α → Bool} {l : List α} {k : Nat} {b : α} (h : (l.take k).all f = true) (hb : l[k]? = some b) (hp : f b = true) : (l.take (k + 1)).all f = true := by
  rw [List.take_add_one, hb, List.all_append, h]; simp [hp]
theorem all_no {α : Type} {f : α → Bool} {l : List α} {k : Nat} {b : α} (hb : l[k]? = some b) (hp : f b = false) : l.all f = false := by
  rw [Bool.eq_false_iff]; intro h; rw [List.all_eq_true] at h; have := h b (List.mem_of_getElem? hb); rw [hp] at this; cases this
theorem d5 {α : Type} {f : α → Bool} {l : List α} {k : Nat} (h : (l.take k).all f = true) (hk : ¬ k < l.length) : l.all f = true := by rwa [List.take_of_length_le (by omega)] at h
theorem not_any_not {α : Type} (f : α → Bool) (l : List α) : (!(l.any fun b => !f b)) = l.all f := by induction l with
  | nil => rfl
  | cons x r ih => simp [← ih]

/-! ### Tables: lists of things that have a list of numbers each -/
structure ShelfM where
  l : List Int
  w : Int
  d : Int
  h : Int
  g : Int
deriving DecidableEq
def ShelfM.cells (t : ShelfM × Value) : List Value := [t.2, .int .i64 t.1.w, .int .i64 t.1.d, .int .i64 t.1.h, .int .i64 t.1.g]
abbrev ShelfM.z : List Value := [.slice none 0 0, .int .i64 0, .int .i64 0, .int .i64 0, .int .i64 0]
structure LayerM where
  l : List Int
  d : Int
  h : Int
  g : Int
deriving DecidableEq
def LayerM.cells (t : LayerM × Value) : List Value := [t.2, .int .i64 t.1.d, .int .i64 t.1.h, .int .i64 t.1.g]
abbrev LayerM.z : List Value := [.slice none 0 0, .int .i64 0, .int .i64 0, .int .i64 0]
structure LoadM where
  l : List Int
  h : Int
  g : Int
deriving DecidableEq
def LoadM.cells (t : LoadM × Value) : List Value := [t.2, .int .i64 t.1.h, .int .i64 t.1.g]
abbrev LoadM.z : List Value := [.slice none 0 0, .int .i64 0, .int .i64 0]
structure CartonM where
  t : Int
  g : Int
  l : List Int
deriving DecidableEq
def CartonM.cells (t : CartonM × Value) : List Value := [.int .i64 t.1.t, .int .i64 t.1.g, t.2]
abbrev CartonM.z : List Value := [.int .i64 0, .int .i64 0, .slice none 0 0]
def sub {M : Type} (f : M → List Int) (t : M × Value) : Value × List (List Value) := (t.2, (f t.1).map icell)
/-- The inner lists read as they should. -/
def Subs {M : Type} (w : World) (f : M → List Int) (ts : List (M × Value)) : Prop := ∀ t ∈ ts, Rd w t.2 1 ((f t.1).map icell)
theorem Subs.stays {M : Type} {w0 : World} {H : List Ch} {f : M → List Int} {ts : List (M × Value)} (h : Subs w0 f ts) : ∀ w, HeapOk w0 w H → Subs w f ts := fun w hh t ht => Rd.stays (h t ht) w hh
theorem Subs.owned {M : Type} {w0 : World} {H : List Ch} {f : M → List Int} {ts : List (M × Value)} {T : TypeId} (i : Nat) (hi : H[i]? = some (.grp T 1 (ts.map (sub f)))) : ∀ w, HeapOk w0 w H → Subs w f ts :=
  fun w hh t ht => Rd.grp i hi (v := t.2) (es := (f t.1).map icell) (List.mem_map.2 ⟨t, ht, rfl⟩) w hh
theorem Subs.at {M : Type} {w : World} {f : M → List Int} {ts : List (M × Value)} (h : Subs w f ts) {k : Nat} {t : M × Value} (ht : ts[k]? = some t) : Rd w t.2 1 ((f t.1).map icell) := h t (List.mem_of_getElem? ht)
/-- What a table holds in all. -/
def tot {M : Type} (f : M → List Int) (ts : List (M × Value)) : Nat := ts.length + (ts.map fun t => (f t.1).length).sum
/-- A table that is being filled. -/
def fillUp {α : Type} (c : α → List Value) (z : List Value) (n : Nat) (done : List α) : List (List Value) := done.map c ++ List.replicate (n - done.length) z
structure PairM where
  a : Int
  b : Int
deriving DecidableEq
def PairM.cells (x : PairM) : List Value := [.int .i64 x.a, .int .i64 x.b]
def PairM.val (x : PairM) : Value := .agg x.cells.toArray
abbrev PairM.z : List Value := [.int .i64 0, .int .i64 0]
structure TypeM where
  id : Int
  w : Int
  h : Int
  d : Int
  tare : Int
  g : Int
  cost : Int
deriving DecidableEq
def TypeM.cells (x : TypeM) : List Value := [.int .i64 x.id, .int .i64 x.w, .int .i64 x.h, .int .i64 x.d, .int .i64 x.tare, .int .i64 x.g, .int .i64 x.cost]
def TypeM.val (x : TypeM) : Value := .agg x.cells.toArray
abbrev TypeM.z : List Value := [.int .i64 0, .int .i64 0, .int .i64 0, .int .i64 0, .int .i64 0, .int .i64 0, .int .i64 0]
structure ItemM where
  id : Int
  w : Int
  h : Int
  d : Int
  g : Int
  cls : Int
  cnt : Int
deriving DecidableEq
def ItemM.cells (x : ItemM) : List Value := [.int .i64 x.id, .int .i64 x.w, .int .i64 x.h, .int .i64 x.d, .int .i64 x.g, .int .i64 x.cls, .int .i64 x.cnt]
def ItemM.val (x : ItemM) : Value := .agg x.cells.toArray
abbrev ItemM.z : List Value := [.int .i64 0, .int .i64 0, .int .i64 0, .int .i64 0, .int .i64 0, .int .i64 0, .int .i64 0]
structure ReqM where
  way : Int
  pal : PalletM
  classes : Int
  pairs : List PairM
  types : List TypeM
  master : Int
  items : List ItemM
deriving DecidableEq
def ReqM.cells (r : ReqM) (pv tv iv : Value) : List Value := [.int .i64 r.way, .int .i64 r.pal.w, .int .i64 r.pal.d, .int .i64 r.pal.h, .int .i64 r.pal.g, .int .i64 r.classes, pv, tv, .int .i64 r.master, iv]
def ReqM.val (r : ReqM) (pv tv iv : Value) : Value := .agg (r.cells pv tv iv).toArray
structure RqRd (w : World) (r : ReqM) (pv tv iv : Value) : Prop where
  p : Rd w pv 2 (r.pairs.map PairM.cells)
  t : Rd w tv 7 (r.types.map TypeM.cells)
  i : Rd w iv 7 (r.items.map ItemM.cells)
theorem RqRd.stays {w0 w : World} {r : ReqM} {pv tv iv : Value} {H : List Ch} (h : RqRd w0 r pv tv iv) (hh : HeapOk w0 w H) : RqRd w r pv tv iv := ⟨h.p.stays w hh, h.t.stays w hh, h.i.stays w hh⟩
/-! ### What is asked of an order -/
def itemOkM (x : ItemM) : Bool := inB x.id 0 999 && inB x.w 1 2000 && inB x.h 1 2000 && inB x.d 1 2000 && inB x.g 1 100000 && inB x.cls 0 3 && inB x.cnt 1 6
def typeOkM (x : TypeM) : Bool := inB x.id 0 999 && inB x.w 1 2000 && inB x.h 1 2000 && inB x.d 1 2000 && inB x.tare 0 100000 && inB x.g 1 100000 && inB x.cost 0 100000
def pairOkM (x : PairM) : Bool := inB x.a 0 3 && inB x.b 0 3
def cntSum (l : List ItemM) : Int := (l.map ItemM.cnt).sum
def boundsOkM (r : ReqM) : Bool :=
  inB r.way 0 1 && palletOkM r.pal && inB r.classes 1 4 && decide ((r.pairs.length : Int) ≤ 16) && r.pairs.all pairOkM && inB (r.types.length : Int) 1 5 && r.types.all typeOkM && inB r.master 0 999 && decide ((r.items.length : Int) ≤ 8) && r.items.all itemOkM && decide (cntSum r.items ≤ 12)
def besideM (ps : List PairM) (a b : Int) : Bool := ps.any fun p => decide (p.a = a) && decide (p.b = b)
def tableOkM (ps : List PairM) (n : Int) : Bool := inB n 1 4 && (List.range n.toNat).all fun a => besideM ps a a && (List.range n.toNat).all fun b => besideM ps a b == besideM ps b a
def typeByM (r : ReqM) (id : Int) : Option TypeM := r.types.find? fun t => decide (t.id = id)
def masterM (r : ReqM) : Option TypeM := typeByM r r.master
def typeZ : TypeM := ⟨0, 0, 0, 0, 0, 0, 0⟩
end Go.Proofs.YtglpgohilfoecaaGreat

/-
  Numbers, boxes and spots: what the smallest functions return.
-/
namespace Go.Proofs.YtglpgohilfoecaaGreat
open Go.RowKit
attribute [local irreducible] Go.wpList Go.Code.wp Go.Exit.then Go.Exit.inBlock Go.bodyPost Go.Calls pE pB G RunsV FnV Fn FnM
set_option maxRecDepth 100000

theorem b5 (n lo hi : Int) (w : World) : FnV Tryz.prog 94 [.int .i64 n, .int .i64 lo, .int .i64 hi] w (.bool (inB n lo hi)) := by
  refine FnV.of (n := 15) Tryz.func94 rfl rfl ?_; refine G.seq (G.region (G.v (bb rfl) rfl (G.I (G.E (G.seq (G.region (G.v (ba rfl) rfl (G.v (ba rfl) rfl (G.v (cu rfl rfl) rfl (G.v (ba rfl) rfl ?_))))))))))
  (with_reducible refine G.gP rfl rfl (fun hg => ?_) (fun hg => ?_)) <;> (try exact Bool.noConfusion hg) <;> (first | (refine G.gY rfl rfl ?_; refine G.v (ba rfl) rfl ?_) | refine G.gN rfl rfl rfl ?_)
  all_goals ((first | (refine G.gY rfl rfl ?_; refine G.v (ba rfl) rfl ?_) | refine G.gN rfl rfl rfl ?_))
  all_goals ((first | (refine G.gY rfl rfl ?_; refine G.v (ci rfl rfl) rfl ?_) | refine G.gN rfl rfl rfl ?_))
  all_goals ((first | refine G.v (bk rfl rfl) rfl ?_ | refine G.v (bm rfl rfl) rfl ?_))
  all_goals (refine G.v (bb rfl) rfl ?_)
  all_goals
   refine G.I (G.E (G.ret ?_)); refine G.U rfl rfl ?_; simp [inB, *] <;> omega
theorem b7 (n lo hi : Int) (w : World) : FnV Tryz.prog 110 [.int .i64 n, .int .i64 lo, .int .i64 hi] w (.bool (inB n lo hi)) := by
  refine FnV.of (n := 15) Tryz.func110 rfl rfl ?_; refine G.seq (G.region (G.v (bb rfl) rfl (G.I (G.E (G.seq (G.region (G.v (ba rfl) rfl (G.v (ba rfl) rfl (G.v (cu rfl rfl) rfl (G.v (ba rfl) rfl ?_))))))))))
  (with_reducible refine G.gP rfl rfl (fun hg => ?_) (fun hg => ?_)) <;> (try exact Bool.noConfusion hg) <;> (first | (refine G.gY rfl rfl ?_; refine G.v (ba rfl) rfl ?_) | refine G.gN rfl rfl rfl ?_)
  all_goals ((first | (refine G.gY rfl rfl ?_; refine G.v (ba rfl) rfl ?_) | refine G.gN rfl rfl rfl ?_))
  all_goals ((first | (refine G.gY rfl rfl ?_; refine G.v (ci rfl rfl) rfl ?_) | refine G.gN rfl rfl rfl ?_))
  all_goals ((first | refine G.v (bk rfl rfl) rfl ?_ | refine G.v (bm rfl rfl) rfl ?_))
  all_goals (refine G.v (bb rfl) rfl ?_)
  all_goals
   refine G.I (G.E (G.ret ?_)); refine G.U rfl rfl ?_; simp [inB, *] <;> omega
theorem cE (n : Int) (w : World) : FnV Tryz.prog 154 [.int .i64 n] w (.bool (inB n 1 2000)) := by
  refine FnV.of (n := 5) Tryz.func154 rfl rfl ?_; refine G.seq (G.region (G.v (bb rfl) rfl (G.I (G.E (G.seq (G.region (G.v (ba rfl) rfl ?_))))))); refine G.op (bh rfl rfl (fun w _ => b5 _ _ _ w)) rfl (fun _ _ => ?_); refine G.v (bb rfl) rfl (G.I (G.E (G.ret ?_)))
  exact G.U rfl rfl rfl
theorem cF (n : Int) (w : World) : FnV Tryz.prog 207 [.int .i64 n] w (.bool (inB n 1 2000)) := by
  refine FnV.of (n := 5) Tryz.func207 rfl rfl ?_; refine G.seq (G.region (G.v (bb rfl) rfl (G.I (G.E (G.seq (G.region (G.v (ba rfl) rfl ?_))))))); refine G.op (bh rfl rfl (fun w _ => b7 _ _ _ w)) rfl (fun _ _ => ?_); refine G.v (bb rfl) rfl (G.I (G.E (G.ret ?_)))
  exact G.U rfl rfl rfl
theorem l2Id_any (n : Int) (w : World) : FnV Tryz.prog 148 [.int .i64 n] w (.bool (inB n 0 999)) := by
  refine FnV.of (n := 5) Tryz.func148 rfl rfl ?_; refine G.seq (G.region (G.v (bb rfl) rfl (G.I (G.E (G.seq (G.region (G.v (ba rfl) rfl ?_))))))); refine G.op (bh rfl rfl (fun w _ => b7 _ _ _ w)) rfl (fun _ _ => ?_); refine G.v (bb rfl) rfl (G.I (G.E (G.ret ?_)))
  exact G.U rfl rfl rfl
theorem volume_any (a b c : Int) (w : World) : FnV Tryz.prog 203 [.int .i64 a, .int .i64 b, .int .i64 c] w (.int .i64 (volM a b c)) := by
  refine FnV.of (n := 25) Tryz.func203 rfl rfl ?_; refine G.seq (G.region (G.v (bb rfl) rfl (G.I (G.E (G.seq (G.seq (G.region (G.v (ba rfl) rfl ?_)))))))); refine G.op (bh rfl rfl (fun w _ => b5 _ _ _ w)) rfl (fun _ _ => ?_); refine G.v (bF rfl) rfl (G.v (ba rfl) rfl ?_)
  (with_reducible refine G.gP rfl rfl (fun hg => ?_) (fun hg => ?_)) <;> (try exact Bool.noConfusion hg) <;> (first | (refine G.gY rfl rfl ?_; refine G.v (ba rfl) rfl ?_) | refine G.gN rfl rfl rfl ?_)
  all_goals ((first | (refine G.gY rfl rfl ?_; refine G.op (bh rfl rfl (fun w _ => b5 _ _ _ w)) rfl (fun _ _ => ?_)) | refine G.gN rfl rfl rfl ?_))
  all_goals ((first | (refine G.gY rfl rfl ?_; refine G.v (bF rfl) rfl ?_) | refine G.gN rfl rfl rfl ?_))
  all_goals ((first | refine G.v (bk rfl rfl) rfl ?_ | refine G.v (bm rfl rfl) rfl ?_))
  all_goals (refine G.v (ba rfl) rfl ?_)
  all_goals (((with_reducible refine G.gP rfl rfl (fun hg => ?_) (fun hg => ?_)) <;> (try exact Bool.noConfusion hg) <;> (first | (refine G.gY rfl rfl ?_; refine G.v (ba rfl) rfl ?_) | refine G.gN rfl rfl rfl ?_)))
  all_goals ((first | (refine G.gY rfl rfl ?_; refine G.op (bh rfl rfl (fun w _ => b5 _ _ _ w)) rfl (fun _ _ => ?_)) | refine G.gN rfl rfl rfl ?_))
  all_goals ((first | (refine G.gY rfl rfl ?_; refine G.v (bF rfl) rfl ?_) | refine G.gN rfl rfl rfl ?_))
  all_goals ((first | refine G.v (bk rfl rfl) rfl ?_ | refine G.v (bm rfl rfl) rfl ?_))
  all_goals
   refine G.I (G.E ?_); refine G.cond rfl (fun hc => ?_) (fun hc => ?_)
   · all_goals
      all_goals
       refine G.seq (G.region (G.v (bb rfl) rfl (G.I (G.E (G.ret (G.O ?_)))))); refine G.U rfl rfl ?_; simp_all [volM] <;> (intros; omega)
   · try exact Bool.noConfusion hc
     all_goals
      all_goals
       refine G.skip (G.E (G.seq (G.region (G.v (ba rfl) rfl (G.v (ba rfl) rfl ?_))))); refine G.v (dy rfl rfl) rfl ?_; refine G.v (ba rfl) rfl ?_; refine G.v (dy rfl rfl) rfl ?_; refine G.v (bb rfl) rfl (G.I (G.E (G.ret ?_))); refine G.U rfl rfl ?_; simp_all [volM] <;> (intros; omega)
theorem svolume_any (a b c : Int) (w : World) : FnV Tryz.prog 198 [.int .i64 a, .int .i64 b, .int .i64 c] w (.int .i64 (volM a b c)) := by
  refine FnV.of (n := 25) Tryz.func198 rfl rfl ?_; refine G.seq (G.region (G.v (bb rfl) rfl (G.I (G.E (G.seq (G.seq (G.region (G.v (ba rfl) rfl ?_)))))))); refine G.op (bh rfl rfl (fun w _ => b7 _ _ _ w)) rfl (fun _ _ => ?_); refine G.v (bF rfl) rfl (G.v (ba rfl) rfl ?_)
  (with_reducible refine G.gP rfl rfl (fun hg => ?_) (fun hg => ?_)) <;> (try exact Bool.noConfusion hg) <;> (first | (refine G.gY rfl rfl ?_; refine G.v (ba rfl) rfl ?_) | refine G.gN rfl rfl rfl ?_)
  all_goals ((first | (refine G.gY rfl rfl ?_; refine G.op (bh rfl rfl (fun w _ => b7 _ _ _ w)) rfl (fun _ _ => ?_)) | refine G.gN rfl rfl rfl ?_))
  all_goals ((first | (refine G.gY rfl rfl ?_; refine G.v (bF rfl) rfl ?_) | refine G.gN rfl rfl rfl ?_))
  all_goals ((first | refine G.v (bk rfl rfl) rfl ?_ | refine G.v (bm rfl rfl) rfl ?_))
  all_goals (refine G.v (ba rfl) rfl ?_)
  all_goals (((with_reducible refine G.gP rfl rfl (fun hg => ?_) (fun hg => ?_)) <;> (try exact Bool.noConfusion hg) <;> (first | (refine G.gY rfl rfl ?_; refine G.v (ba rfl) rfl ?_) | refine G.gN rfl rfl rfl ?_)))
  all_goals ((first | (refine G.gY rfl rfl ?_; refine G.op (bh rfl rfl (fun w _ => b7 _ _ _ w)) rfl (fun _ _ => ?_)) | refine G.gN rfl rfl rfl ?_))
  all_goals ((first | (refine G.gY rfl rfl ?_; refine G.v (bF rfl) rfl ?_) | refine G.gN rfl rfl rfl ?_))
  all_goals ((first | refine G.v (bk rfl rfl) rfl ?_ | refine G.v (bm rfl rfl) rfl ?_))
  all_goals
   refine G.I (G.E ?_); refine G.cond rfl (fun hc => ?_) (fun hc => ?_)
   · all_goals
      all_goals
       refine G.seq (G.region (G.v (bb rfl) rfl (G.I (G.E (G.ret (G.O ?_)))))); refine G.U rfl rfl ?_; simp_all [volM] <;> (intros; omega)
   · try exact Bool.noConfusion hc
     all_goals
      all_goals
       refine G.skip (G.E (G.seq (G.region (G.v (ba rfl) rfl (G.v (ba rfl) rfl ?_))))); refine G.v (dy rfl rfl) rfl ?_; refine G.v (ba rfl) rfl ?_; refine G.v (dy rfl rfl) rfl ?_; refine G.v (bb rfl) rfl (G.I (G.E (G.ret ?_))); refine G.U rfl rfl ?_; simp_all [volM] <;> (intros; omega)
theorem palletOk_any (p : PalletM) (w : World) : FnV Tryz.prog 91 [p.val] w (.bool (palletOkM p)) := by
  refine FnV.of (n := 21) Tryz.func91 rfl rfl ?_; refine G.seq (G.region ?_); refine G.op (bE rfl rfl) rfl (fun bk1 _ => ?_); refine G.v (bb rfl) rfl (G.I (G.E (G.seq (G.region (G.v (be rfl) rfl (G.v (bf 0 rfl rfl rfl) rfl ?_)))))); refine G.op (bh rfl rfl (fun w _ => cE _ w)) rfl (fun _ _ => ?_); refine G.v (ba rfl) rfl ?_
  (with_reducible refine G.gP rfl rfl (fun hg => ?_) (fun hg => ?_)) <;> (try exact Bool.noConfusion hg) <;> (first | (refine G.gY rfl rfl ?_; (refine G.v (be rfl) rfl ?_)) | refine G.gN rfl rfl rfl ?_)
  all_goals ((first | (refine G.gY rfl rfl ?_; refine G.v (bf 0 rfl rfl rfl) rfl ?_) | refine G.gN rfl rfl rfl ?_))
  all_goals ((first | (refine G.gY rfl rfl ?_; refine G.op (bh rfl rfl (fun w _ => cE _ w)) rfl (fun _ _ => ?_)) | refine G.gN rfl rfl rfl ?_))
  all_goals ((first | refine G.v (bk rfl rfl) rfl ?_ | refine G.v (bm rfl rfl) rfl ?_))
  all_goals (refine G.v (ba rfl) rfl ?_)
  all_goals (((with_reducible refine G.gP rfl rfl (fun hg => ?_) (fun hg => ?_)) <;> (try exact Bool.noConfusion hg) <;> (first | (refine G.gY rfl rfl ?_; (refine G.v (be rfl) rfl ?_)) | refine G.gN rfl rfl rfl ?_)))
  all_goals ((first | (refine G.gY rfl rfl ?_; refine G.v (bf 0 rfl rfl rfl) rfl ?_) | refine G.gN rfl rfl rfl ?_))
  all_goals ((first | (refine G.gY rfl rfl ?_; refine G.op (bh rfl rfl (fun w _ => cE _ w)) rfl (fun _ _ => ?_)) | refine G.gN rfl rfl rfl ?_))
  all_goals ((first | refine G.v (bk rfl rfl) rfl ?_ | refine G.v (bm rfl rfl) rfl ?_))
  all_goals (refine G.v (ba rfl) rfl ?_)
  all_goals (((with_reducible refine G.gP rfl rfl (fun hg => ?_) (fun hg => ?_)) <;> (try exact Bool.noConfusion hg) <;> (first | (refine G.gY rfl rfl ?_; (refine G.v (be rfl) rfl ?_)) | refine G.gN rfl rfl rfl ?_)))
  all_goals ((first | (refine G.gY rfl rfl ?_; refine G.v (bf 0 rfl rfl rfl) rfl ?_) | refine G.gN rfl rfl rfl ?_))
  all_goals ((first | (refine G.gY rfl rfl ?_; refine G.op (bh rfl rfl (fun w _ => b5 _ _ _ w)) rfl (fun _ _ => ?_)) | refine G.gN rfl rfl rfl ?_))
  all_goals ((first | refine G.v (bk rfl rfl) rfl ?_ | refine G.v (bm rfl rfl) rfl ?_))
  all_goals (refine G.v (bb rfl) rfl ?_)
  all_goals
   refine G.I (G.E (G.ret ?_)); refine G.U rfl rfl ?_; simp_all [palletOkM] <;> (intros; omega)
theorem spalletOk_any (p : PalletM) (w : World) : FnV Tryz.prog 147 [p.val] w (.bool (palletOkM p)) := by
  refine FnV.of (n := 21) Tryz.func147 rfl rfl ?_; refine G.seq (G.region ?_); refine G.op (bE rfl rfl) rfl (fun bk1 _ => ?_); refine G.v (bb rfl) rfl (G.I (G.E (G.seq (G.region (G.v (be rfl) rfl (G.v (bf 0 rfl rfl rfl) rfl ?_)))))); refine G.op (bh rfl rfl (fun w _ => cF _ w)) rfl (fun _ _ => ?_); refine G.v (ba rfl) rfl ?_
  (with_reducible refine G.gP rfl rfl (fun hg => ?_) (fun hg => ?_)) <;> (try exact Bool.noConfusion hg) <;> (first | (refine G.gY rfl rfl ?_; (refine G.v (be rfl) rfl ?_)) | refine G.gN rfl rfl rfl ?_)
  all_goals ((first | (refine G.gY rfl rfl ?_; refine G.v (bf 0 rfl rfl rfl) rfl ?_) | refine G.gN rfl rfl rfl ?_))
  all_goals ((first | (refine G.gY rfl rfl ?_; refine G.op (bh rfl rfl (fun w _ => cF _ w)) rfl (fun _ _ => ?_)) | refine G.gN rfl rfl rfl ?_))
  all_goals ((first | refine G.v (bk rfl rfl) rfl ?_ | refine G.v (bm rfl rfl) rfl ?_))
  all_goals (refine G.v (ba rfl) rfl ?_)
  all_goals (((with_reducible refine G.gP rfl rfl (fun hg => ?_) (fun hg => ?_)) <;> (try exact Bool.noConfusion hg) <;> (first | (refine G.gY rfl rfl ?_; (refine G.v (be rfl) rfl ?_)) | refine G.gN rfl rfl rfl ?_)))
  all_goals ((first | (refine G.gY rfl rfl ?_; refine G.v (bf 0 rfl rfl rfl) rfl ?_) | refine G.gN rfl rfl rfl ?_))
  all_goals ((first | (refine G.gY rfl rfl ?_; refine G.op (bh rfl rfl (fun w _ => cF _ w)) rfl (fun _ _ => ?_)) | refine G.gN rfl rfl rfl ?_))
  all_goals ((first | refine G.v (bk rfl rfl) rfl ?_ | refine G.v (bm rfl rfl) rfl ?_))
  all_goals (refine G.v (ba rfl) rfl ?_)
  all_goals (((with_reducible refine G.gP rfl rfl (fun hg => ?_) (fun hg => ?_)) <;> (try exact Bool.noConfusion hg) <;> (first | (refine G.gY rfl rfl ?_; (refine G.v (be rfl) rfl ?_)) | refine G.gN rfl rfl rfl ?_)))
  all_goals ((first | (refine G.gY rfl rfl ?_; refine G.v (bf 0 rfl rfl rfl) rfl ?_) | refine G.gN rfl rfl rfl ?_))
  all_goals ((first | (refine G.gY rfl rfl ?_; refine G.op (bh rfl rfl (fun w _ => b7 _ _ _ w)) rfl (fun _ _ => ?_)) | refine G.gN rfl rfl rfl ?_))
  all_goals ((first | refine G.v (bk rfl rfl) rfl ?_ | refine G.v (bm rfl rfl) rfl ?_))
  all_goals (refine G.v (bb rfl) rfl ?_)
  all_goals
   refine G.I (G.E (G.ret ?_)); refine G.U rfl rfl ?_; simp_all [palletOkM] <;> (intros; omega)






end Go.Proofs.YtglpgohilfoecaaGreat

/-
  Things that are marked by numbers that go up, and held against these.
-/
namespace Go.Proofs.YtglpgohilfoecaaGreat
open Go.RowKit

section
variable {α : Type} (mk : Int → α → α) (cnt : α → Nat)
def markG : Int → List α → List α
  | _, [] => []
  | k, x :: r => mk k x :: markG (k + cnt x) r
def cntG (l : List α) : Nat := (l.map cnt).sum
def mixG (k : Int) (i : Nat) (l : List α) : List α := markG mk cnt k (l.take i) ++ l.drop i
end
section
variable {α : Type} {mk : Int → α → α} {cnt : α → Nat} {k : Int} {l : List α} {i : Nat} {x : α}
end
theorem bw {β : Type} {es : List β} {i : Nat} {x y : β} (h : es[i]? = some x) : (es.set i y)[i]? = some y := by
  have hi : i < es.length := by
    rcases Nat.lt_or_ge i es.length with h1 | h1
    · exact h1
    · rw [List.getElem?_eq_none h1] at h; cases h
  rw [List.getElem?_set_self hi]
theorem cn {M : Type} {f : M → List Int} {l : List (M × Value)} {i : Nat} {x : M × Value} (h : l[i]? = some x) : (l.map (sub f))[i]? = some (x.2, (f x.1).map icell) := by rw [List.getElem?_map, h]; rfl
theorem cG {a a' b b' : Ch} {F : List Ch} (h1 : a = a') (h2 : b = b') : a :: b :: F = [a', b'] ++ F := by subst h1 h2; rfl
theorem bV {a a' : Ch} {F : List Ch} (h1 : a = a') : a :: F = [a'] ++ F := by subst h1; rfl
def whereG {α : Type} (p : α → Bool) (l : List α) : List Int := (l.zipIdx.filter fun x => p x.1).map fun x => (x.2 : Int)
def mkI (k : Int) (_ : Int) : Int := k
def cntI (_ : Int) : Nat := 1
/-- A call that turns a row turns it within a group, too. -/
theorem FnMF.grp {P : Program} {f : FuncId} {vs : List Value} {w0 : World} {F : List Ch} {X : Type} {φ : X → Prop} {rv : X → Value} {t : TypeId} {s i : Nat} {v : Value} {es : List (List Value)} {rs : List (Value × List (List Value))} {o : X → List (List Value)}
    (h : FnM P f vs w0 [.row v t s es] φ rv (fun x => [.row v t s (o x)])) (hi : rs[i]? = some (v, es)) : FnMF P f vs w0 [.grp t s rs] F φ rv (fun x => [.grp t s (rs.set i (v, o x))]) := fun w hh => by
  have hh' : HeapOk w0 w ([.row v t s es] ++ (.grp t s (rs.eraseIdx i) :: F)) := HeapOk.focus hh hi
  exact Calls.mono (h w _ hh') fun e w' ⟨x, hx, he, hw⟩ => ⟨x, hx, he, HeapOk.unfocus hi hw⟩
attribute [local irreducible] Go.wpList Go.Code.wp Go.Exit.then Go.Exit.inBlock Go.bodyPost Go.Calls pE pB G RunsV FnV Fn FnM
set_option maxRecDepth 100000
set_option maxHeartbeats 1000000

def mkBoxM (k : Int) (_ : BoxM) : BoxM := ⟨k, k + 1, k + 1 + 1, k + 1 + 1 + 1⟩
def cntBoxM (_ : BoxM) : Nat := 4
def mkSpotM (k : Int) (_ : SpotM) : SpotM := ⟨k, k + 1, k + 1 + 1, k + 1 + 1 + 1⟩
def cntSpotM (_ : SpotM) : Nat := 4
def mkCartonM (k : Int) (t : CartonM × Value) : CartonM × Value := (⟨k, k + 1, markG mkI cntI (k + 1 + 1) t.1.l⟩, t.2)
def cntCartonM (t : CartonM × Value) : Nat := cntG cntI t.1.l + 2
def mkShelfM (k : Int) (t : ShelfM × Value) : ShelfM × Value := (⟨markG mkI cntI (k) t.1.l, k + cntG cntI t.1.l, k + cntG cntI t.1.l + 1, k + cntG cntI t.1.l + 1 + 1, k + cntG cntI t.1.l + 1 + 1 + 1⟩, t.2)
def cntShelfM (t : ShelfM × Value) : Nat := cntG cntI t.1.l + 4
def mkLayerM (k : Int) (t : LayerM × Value) : LayerM × Value := (⟨markG mkI cntI (k) t.1.l, k + cntG cntI t.1.l, k + cntG cntI t.1.l + 1, k + cntG cntI t.1.l + 1 + 1⟩, t.2)
def cntLayerM (t : LayerM × Value) : Nat := cntG cntI t.1.l + 3
def mkLoadM (k : Int) (t : LoadM × Value) : LoadM × Value := (⟨markG mkI cntI (k) t.1.l, k + cntG cntI t.1.l, k + cntG cntI t.1.l + 1⟩, t.2)
def cntLoadM (t : LoadM × Value) : Nat := cntG cntI t.1.l + 2
end Go.Proofs.YtglpgohilfoecaaGreat

/-
  Structs of numbers held against each other.
-/
namespace Go.Proofs.YtglpgohilfoecaaGreat
open Go.RowKit
/-- A struct of n numbers. -/
def sintB (P : Program) (t : TypeId) (n : Nat) : Bool :=
  match P.underlying t with
  | some (.struct fs) => fs.size == n && !P.stoodInHeld t && !P.eqGuardType P.depth t && (fs.toList.zipIdx.all fun x => x.1.name != "_" && x.1.offset == x.2 && P.plainKey x.1.type && (match P.underlying x.1.type with | some (.int .i64) => true | _ => false))
  | _ => false
class TySI (P : Program) (t : TypeId) (n : outParam Nat) : Prop where
  h : sintB P t n = true
theorem run_eqInts {P : Program} {w : World} (d : Nat) (xs ys : List Int) : ∀ (fs : List Field) (j : Nat), (fs.zipIdx j).all (fun x => x.1.name != "_" && x.1.offset == x.2 && P.plainKey x.1.type && (match P.underlying x.1.type with | some (.int .i64) => true | _ => false)) = true → xs.length = j + fs.length → ys.length = j + fs.length →
    (Op.eqFields (d + 1) (xs.map (Value.int .i64)).toArray (ys.map (Value.int .i64)).toArray fs).run P w = .ok (decide (xs.drop j = ys.drop j)) w
  | [], j, _, hx, hy => by
    rw [List.drop_eq_nil_of_le (by simp at hx; omega), List.drop_eq_nil_of_le (by simp at hy; omega)]; rfl
  | f :: fs, j, hB, hx, hy => by
    simp only [List.zipIdx_cons, List.all_cons, Bool.and_eq_true, bne_iff_ne, ne_eq, beq_iff_eq] at hB
    obtain ⟨⟨⟨⟨h1, h2⟩, h3⟩, h4⟩, h5⟩ := hB
    have hxj : j < xs.length := by rw [hx]; simp
    have hyj : j < ys.length := by rw [hy]; simp
    have ih := run_eqInts (P := P) (w := w) d xs ys fs (j + 1) h5 (by rw [hx]; simp; omega) (by rw [hy]; simp; omega)
    have hu : P.underlying f.type = some (.int .i64) := by
      split at h4
      · assumption
      · cases h4
    have g1 : ((xs.map (Value.int .i64)).toArray)[f.offset]? = some (.int .i64 xs[j]) := by rw [h2]; simp [hxj]
    have g2 : ((ys.map (Value.int .i64)).toArray)[f.offset]? = some (.int .i64 ys[j]) := by rw [h2]; simp [hyj]
    simp only [Op.eqFields, if_pos h1, Sem.run_bind, run_part_plain w h3 g1, run_part_plain w h3 g2, Result.andThen_ok, run_equalIn_int w d f.type .i64 .i64 _ _ hu]
    rw [List.drop_eq_getElem_cons hxj, List.drop_eq_getElem_cons hyj]
    by_cases he : xs[j] = ys[j]
    · simp only [he, beq_self_eq_true, Bool.not_true, Bool.false_eq_true, if_false, ih]
      congr 1
      exact decide_eq_decide.2 ⟨fun h => by rw [h], fun h => (List.cons.inj h).2⟩
    · have hb : (xs[j] == ys[j]) = false := by simp [he]
      simp only [hb, Bool.not_false, if_true, Sem.run_pure]
      congr 1
      rw [decide_eq_false]; intro h; exact he (List.cons.inj h).1
theorem run_eqStruct {P : Program} {t : TypeId} {n : Nat} (hT : TySI P t n) {xs ys : List Int} (hx : xs.length = n) (hy : ys.length = n) (w : World) (d : Nat) :
    (Op.equalIn (d + 1 + 1) t (.agg (xs.map (Value.int .i64)).toArray) (.agg (ys.map (Value.int .i64)).toArray)).run P w = .ok (decide (xs = ys)) w ∧ P.eqGuardType P.depth t = false := by
  have h := hT.h
  unfold sintB at h
  split at h
  · rename_i fs hu
    simp only [Bool.and_eq_true, Bool.not_eq_true', beq_iff_eq] at h
    obtain ⟨⟨⟨h1, h2⟩, h3⟩, h4⟩ := h
    have hf : P.fieldsOf t = fs := by unfold Program.fieldsOf; rw [hu]
    refine ⟨?_, h3⟩
    rw [run_equalIn_struct w _ t _ _ (by rw [hf]; exact hu) h2, hf]
    have := run_eqInts (P := P) (w := w) d xs ys fs.toList 0 h4 (by simp [hx, h1]) (by simp [hy, h1])
    simpa using this
  · cases h
section
variable {P : Program} {n : Nat} {w0 : World} {fr : Fr} {H : List Ch} {x y : Operand} {t t' : TypeId} {m : Nat}
theorem rv_neqL [hT : TySI P t m] {xs ys : List Int} (hx : opv fr x = some (.agg (xs.map (Value.int .i64)).toArray)) (hy : opv fr y = some (.agg (ys.map (Value.int .i64)).toArray)) (h1 : xs.length = m) (h2 : ys.length = m) : RunsV P n w0 fr H (.binOp .neq t x y t') (.bool (decide (¬ xs = ys))) := fun a w hr _ _ _ _ _ _ => by
  obtain ⟨e1, e2⟩ := run_eqStruct hT h1 h2 w 9998
  simp only [execOp, hr.opv hx, hr.opv hy, Sem.run_bind, run_eqGuard_agg w _ _ _ _ _ _ e2, Result.andThen_ok, run_neq_struct, e1, Sem.run_pure, decide_not]
theorem rv_eqlL [hT : TySI P t m] {xs ys : List Int} (hx : opv fr x = some (.agg (xs.map (Value.int .i64)).toArray)) (hy : opv fr y = some (.agg (ys.map (Value.int .i64)).toArray)) (h1 : xs.length = m) (h2 : ys.length = m) : RunsV P n w0 fr H (.binOp .eql t x y t') (.bool (decide (xs = ys))) := fun a w hr _ _ _ _ _ _ => by
  obtain ⟨e1, e2⟩ := run_eqStruct hT h1 h2 w 9998
  simp only [execOp, hr.opv hx, hr.opv hy, Sem.run_bind, run_eqGuard_agg w _ _ _ _ _ _ e2, Result.andThen_ok, run_eql_struct, e1, Sem.run_pure]
theorem SpotM.ints (a b : SpotM) : ([a.p, a.x, a.y, a.z] = [b.p, b.x, b.y, b.z]) ↔ a = b := by cases a; cases b; simp
theorem BoxM.ints (a b : BoxM) : ([a.w, a.d, a.h, a.g] = [b.w, b.d, b.h, b.g]) ↔ a = b := by cases a; cases b; simp
theorem PalletM.ints (a b : PalletM) : ([a.w, a.d, a.h, a.g] = [b.w, b.d, b.h, b.g]) ↔ a = b := by cases a; cases b; simp
theorem rv_neqBox [hT : TySI P t 4] {a b : BoxM} (hx : opv fr x = some (.agg a.cells.toArray)) (hy : opv fr y = some (.agg b.cells.toArray)) : RunsV P n w0 fr H (.binOp .neq t x y t') (.bool (decide (¬ a = b))) := by
  have := rv_neqL (P := P) (n := n) (w0 := w0) (H := H) (t := t) (t' := t') (xs := [a.w, a.d, a.h, a.g]) (ys := [b.w, b.d, b.h, b.g]) hx hy rfl rfl
  rwa [show decide (¬ [a.w, a.d, a.h, a.g] = [b.w, b.d, b.h, b.g]) = decide (¬ a = b) from decide_eq_decide.2 (not_congr (BoxM.ints a b))] at this
theorem rv_eqlBox [hT : TySI P t 4] {a b : BoxM} (hx : opv fr x = some (.agg a.cells.toArray)) (hy : opv fr y = some (.agg b.cells.toArray)) : RunsV P n w0 fr H (.binOp .eql t x y t') (.bool (decide (a = b))) := by
  have := rv_eqlL (P := P) (n := n) (w0 := w0) (H := H) (t := t) (t' := t') (xs := [a.w, a.d, a.h, a.g]) (ys := [b.w, b.d, b.h, b.g]) hx hy rfl rfl
  rwa [show decide ([a.w, a.d, a.h, a.g] = [b.w, b.d, b.h, b.g]) = decide (a = b) from decide_eq_decide.2 (BoxM.ints a b)] at this
end
attribute [local irreducible] Go.wpList Go.Code.wp Go.Exit.then Go.Exit.inBlock Go.bodyPost Go.Calls pE pB G RunsV FnV Fn FnM
set_option maxRecDepth 100000
set_option maxHeartbeats 1000000
instance : TySI Tryz.prog 23 4 := ⟨by kernel_rfl⟩
instance : TySI Tryz.prog 36 4 := ⟨by kernel_rfl⟩
instance : TySI Tryz.prog 56 7 := ⟨by kernel_rfl⟩
instance : TySI Tryz.prog 71 4 := ⟨by kernel_rfl⟩
instance : TySI Tryz.prog 86 4 := ⟨by kernel_rfl⟩
instance : TySI Tryz.prog 111 7 := ⟨by kernel_rfl⟩
instance : TySI Tryz.prog 138 2 := ⟨by kernel_rfl⟩
instance : TySI Tryz.prog 140 2 := ⟨by kernel_rfl⟩
instance : TySI Tryz.prog 142 7 := ⟨by kernel_rfl⟩
instance : TySI Tryz.prog 144 7 := ⟨by kernel_rfl⟩
instance : TySI Tryz.prog 201 2 := ⟨by kernel_rfl⟩
end Go.Proofs.YtglpgohilfoecaaGreat

/-
  Bits, shifts and conversions of numbers.
-/
namespace Go.Proofs.YtglpgohilfoecaaGreat
open Go.RowKit
section
variable {P : Program} {n : Nat} {w0 : World} {fr : Fr} {H : List Ch} {x y : Operand} {t t' : TypeId} {k yk : IntKind} {p q : Int}
theorem rv_and (hx : opv fr x = some (.int k p)) (hy : opv fr y = some (.int k q)) : RunsV P n w0 fr H (.binOp .and t x y t') (.int k (bits .and k p q)) := fun a w hr _ _ _ _ _ _ => by
  simp [execOp, hr.opv hx, hr.opv hy, eqGuard_and, binOp_and, intBits_and]
theorem rv_xor (hx : opv fr x = some (.int k p)) (hy : opv fr y = some (.int k q)) : RunsV P n w0 fr H (.binOp .xor t x y t') (.int k (bits .xor k p q)) := fun a w hr _ _ _ _ _ _ => by
  simp [execOp, hr.opv hx, hr.opv hy, eqGuard_xor, binOp_xor, intBits_xor]
theorem dz (hx : opv fr x = some (.int k p)) (hy : opv fr y = some (.int yk q)) (h0 : 0 ≤ q) : RunsV P n w0 fr H (.binOp .shr t x y t') (.int k (p.fdiv (2 ^ (min q.toNat k.bits)))) := fun a w hr _ _ _ _ _ _ => by
  have : ¬ q < 0 := by omega
  simp [execOp, hr.opv hx, hr.opv hy, eqGuard_shr, binOp_shr, Op.shift, this]
theorem du {src dst : TypeId} {k2 : IntKind} [hs : TyInt P src k] [hd : TyInt P dst k2] (hx : opv fr x = some (.int k p)) : RunsV P n w0 fr H (.convert src dst x) (.int k2 (k2.wrap p)) := fun a w hr _ _ _ _ _ _ => by
  have h := run_convert_int (P := P) w src dst k p (by rw [hs.h]; rfl) (by rw [hd.h, hd.g])
  rw [hd.g] at h
  simp [execOp, hr.opv hx, h]
end
/-- What is masked with 255 is a byte. -/
theorem and255 (z : Int) : 0 ≤ bits .and .i64 z 255 ∧ bits .and .i64 z 255 ≤ 255 := by
  have h : (BitVec.ofInt 64 z &&& BitVec.ofInt 64 255).toNat ≤ 255 := by
    rw [BitVec.toNat_and]; exact Nat.le_trans Nat.and_le_right (by decide)
  have e : bits .and .i64 z 255 = IntKind.i64.wrap ((BitVec.ofInt 64 z &&& BitVec.ofInt 64 255).toNat : Int) := rfl
  rw [e, cN (by omega) (by omega)]; omega
theorem get_lt {α : Type} {l : List α} {k : Nat} {x : α} (h : l[k]? = some x) : k < l.length := by
  rcases Nat.lt_or_ge k l.length with h1 | h1
  · exact h1
  · rw [List.getElem?_eq_none h1] at h; cases h
theorem pick_int {e : List Value} (h : (match e with | [.int .i64 _] => true | _ => false) = true) : ∃ z, e = [.int .i64 z] := by
  split at h
  · exact ⟨_, rfl⟩
  · cases h
section
variable {P : Program} {ops : Array Oper} {Q : Exit → Act → World → Prop} {ls : List Nat} {C : World → Prop}
/-- Whatever order is taken: an operation that is not among 'ls' turns nothing; behind one of 'ls' the class holds. -/
def wpS (P : Program) (ops : Array Oper) (Q : Exit → Act → World → Prop) (ls : List Nat) (C : World → Prop) : Nat → Array Bool → Act → World → Prop
  | 0, listed, a, w => ∀ w1, Ext w w1 → Region.ready .any ops listed = [] ∧ Q .normal a w1
  | f + 1, listed, a, w => ∀ w1, Ext w w1 → (Region.ready .any ops listed = [] → Q .normal a w1) ∧
      ∀ i ∈ Region.ready .any ops listed, okOp P ops i (fun a' w' => (ls.contains i = false → Ext w1 w') ∧ (ls.contains i = true → C w') ∧ wpS P ops Q ls C f (listed.setIfInBounds i true) a' w') a w1
theorem wpS.ext : ∀ {f : Nat} {listed : Array Bool} {a : Act} {w w1 : World}, wpS P ops Q ls C f listed a w → Ext w w1 → wpS P ops Q ls C f listed a w1
  | 0, _, _, _, _, h, e => fun w2 e2 => h w2 (e.trans e2)
  | _ + 1, _, _, _, _, h, e => fun w2 e2 => h w2 (e.trans e2)
theorem wpAny_of_S : ∀ (f : Nat) (listed : Array Bool) (a : Act) (w : World), wpS P ops Q ls C f listed a w → wpAny P .any ops Q f listed a w
  | 0, _, _, _, h => h _ (Ext.refl _)
  | f + 1, _, _, w, h => ⟨(h w (Ext.refl _)).1, fun i hi => wpOp_of_ok (okOp_mono (fun a' w' hk => wpAny_of_S f _ a' w' hk.2.2) ((h w (Ext.refl _)).2 i hi))⟩
theorem wpS_first {i : Nat} {oi : Oper} {v : Value} {D : World → Prop} (B : List Nat) (hB : ∀ j ∈ B, waitsB ops j i = true ∨ ∃ m ∈ B, waitsB ops j m = true) (hi : ops[i]? = some oi) (hiL : ls.contains i = false) (hsel : ∀ (j : Nat) (o : Oper) cs b, ops[j]? = some o → o.op ≠ .select cs b) (hD : ∀ w w', D w → Ext w w' → D w') :
    ∀ (f : Nat) (listed : Array Bool) (a : Act) (w : World),
      (∀ j oj, ops[j]? = some oj → j ≠ i → listed.getD j true = false → (∀ e ∈ oj.after, Region.binds .any e = true → e.on ≠ i) → oi.apart ops oj = true) →
      ((∀ w, C w → D w) ∨ ∀ j, ls.contains j = true → j ∈ B ∨ listed.getD j true = true) → (∀ j ∈ B, listed.getD j true = false) → i ∈ Region.ready .any ops listed → YieldsE P ops D oi v a → D w →
      wpS P ops Q ls C f (listed.setIfInBounds i true) (a.put oi.dst v) w → wpS P ops Q ls C (f + 1) listed a w := by
  intro f
  induction f with
  | zero =>
    intro listed a w _ _ _ hr hy hw H w1 he
    refine ⟨fun h => (by rw [h] at hr; cases hr), fun j hj => ?_⟩
    by_cases hji : j = i
    · subst hji
      exact hy.ok hi (hD _ _ hw he) fun w' he' => ⟨fun _ => he', fun h => (by rw [hiL] at h; cases h), H.ext (he.trans he')⟩
    · have := ready_mono hj hji
      rw [(H w (Ext.refl _)).1] at this
      cases this
  | succ f ih =>
    intro listed a w hfree hls hBu hr hy hw H w1 he
    refine ⟨fun h => (by rw [h] at hr; cases hr), fun j hj => ?_⟩
    by_cases hji : j = i
    · subst hji
      exact hy.ok hi (hD _ _ hw he) fun w' he' => ⟨fun _ => he', fun h => (by rw [hiL] at h; cases h), H.ext (he.trans he')⟩
    · have h1 := (H w1 he).2 j (ready_mono hj hji)
      obtain ⟨hjun, oj, hoj, hall⟩ := mem_ready.1 hj
      have hun : ∀ m, waitsB ops j m = true → listed.getD m true = false → False := fun m hm hmu => by
        unfold waitsB at hm
        rw [hoj] at hm
        obtain ⟨e, he, hb⟩ := Array.any_eq_true'.1 hm
        simp only [Bool.and_eq_true, beq_iff_eq] at hb
        have h1 := hall e he hb.1
        rw [hb.2] at h1
        rcases Nat.lt_or_ge m listed.size with h' | h'
        · simp [h'] at hmu h1; rw [hmu] at h1; cases h1
        · simp [Array.getElem?_eq_none h'] at h1
      have hiu := (mem_ready.1 hr).1
      have hjB : j ∉ B := fun hb => by
        rcases hB j hb with h | ⟨m, hm, h⟩
        · exact hun i h hiu
        · exact hun m h (hBu m hm)
      have hnot : ∀ e ∈ oj.after, Region.binds .any e = true → e.on ≠ i := fun e he hb heq => by
        have h1 := hall e he hb
        rw [heq] at h1
        rcases Nat.lt_or_ge i listed.size with h' | h'
        · simp [h'] at hiu h1; rw [hiu] at h1; cases h1
        · simp [Array.getElem?_eq_none h'] at h1
      have h2 := okOp_put hoj (hfree j oj hoj hji hjun hnot) (fun cs b => hsel i oi cs b hi) (fun cs b => hsel j oj cs b hoj) hy h1
      have hfree' : ∀ k ok, ops[k]? = some ok → k ≠ i → (listed.setIfInBounds j true).getD k true = false →
          (∀ e ∈ ok.after, Region.binds .any e = true → e.on ≠ i) → oi.apart ops ok = true := fun k ok hk hki hun hno => by
        refine hfree k ok hk hki ?_ hno
        by_cases hjk : j = k
        · subst hjk; exact hjun
        · rw [getD_set_ne true hjk] at hun; exact hun
      refine okOp_mono (fun a' w' ⟨hy', hq, hl, h3⟩ => ⟨hq, hl, ih (listed.setIfInBounds j true) a' w' hfree' ?_ ?_ (ready_mono hr (Ne.symm hji)) hy' ?_ ?_⟩) h2
      · rcases hls with h | h
        · exact .inl h
        · refine .inr fun k hk => ?_
          rcases h k hk with h | h
          · exact .inl h
          · by_cases e : j = k
            · subst e; rw [hjun] at h; cases h
            · exact .inr (by rw [getD_set_ne true e]; exact h)
      · intro k hk
        have : j ≠ k := fun e => hjB (e ▸ hk)
        rw [getD_set_ne true this]; exact hBu k hk
      · cases hcj : ls.contains j with
        | false => exact hD _ _ (hD _ _ hw he) (hq hcj)
        | true =>
          rcases hls with h | h
          · exact h _ (hl hcj)
          · rcases h j hcj with h | h
            · exact absurd h hjB
            · rw [hjun] at h; cases h
      · rw [Array.setIfInBounds_comm _ _ hji]
        exact h3
theorem wpS_all {rs : List Nat} {f : Nat} {listed : Array Bool} {a : Act} {w : World} (hr : Region.ready .any ops listed = rs) (hne : rs ≠ [])
    (h : ∀ w1, Ext w w1 → ∀ i ∈ rs, okOp P ops i (fun a' w' => (ls.contains i = false → Ext w1 w') ∧ (ls.contains i = true → C w') ∧ wpS P ops Q ls C f (listed.setIfInBounds i true) a' w') a w1) : wpS P ops Q ls C (f + 1) listed a w :=
  fun w1 he => ⟨fun h0 => absurd (hr ▸ h0) hne, hr ▸ h w1 he⟩
theorem wpS_done {listed : Array Bool} {a : Act} {w : World} (hr : Region.ready .any ops listed = []) (h : ∀ w1, Ext w w1 → Q .normal a w1) : ∀ f, wpS P ops Q ls C f listed a w
  | 0 => fun w1 he => ⟨hr, h w1 he⟩
  | _ + 1 => fun w1 he => ⟨fun _ => h w1 he, by rw [hr]; simp⟩
end
section
variable {P : Program} {n : Nat} {w0 : World} {fr : Fr} {H HC : List Ch} {Q : Exit → Act → World → Prop} {ops : Array Oper} {ls : List Nat} {f i d : Nat} {listed : Array Bool} {o : Op} {T : TypeId} {pos : String} {af : Array Edge}
def GS (P : Program) (ops : Array Oper) (Q : Exit → Act → World → Prop) (ls : List Nat) (n : Nat) (w0 : World) (HC : List Ch) (f : Nat) (listed : Array Bool) (fr : Fr) (H : List Ch) : Prop :=
  G n w0 fr H (wpS P ops Q ls (fun w => HeapOk w0 w HC) f listed)
def firstS (ops : Array Oper) (ls : List Nat) (listed : Array Bool) (i : Nat) : Bool :=
  Region.noSelect ops && Region.free .any ops listed i && (Region.ready .any ops listed).contains i && !ls.contains i
def chainS (ops : Array Oper) (ls B : List Nat) (listed : Array Bool) (i : Nat) : Bool :=
  (ls.all fun j => B.contains j || listed.getD j true) && (B.all fun j => waitsB ops j i || B.any fun m => waitsB ops j m) && B.all fun j => !listed.getD j true
theorem firstS_spec (h : firstS ops ls listed i = true) : Region.noSelect ops = true ∧ Region.free .any ops listed i = true ∧ i ∈ Region.ready .any ops listed ∧ ls.contains i = false := by
  simp only [firstS, Bool.and_eq_true, List.contains_iff_mem, Bool.not_eq_true'] at h
  obtain ⟨⟨⟨h1, h2⟩, h3⟩, h4⟩ := h
  exact ⟨h1, h2, h3, h4⟩
theorem chainS_spec {B : List Nat} (h : chainS ops ls B listed i = true) : (∀ j, ls.contains j = true → j ∈ B ∨ listed.getD j true = true) ∧ (∀ j ∈ B, waitsB ops j i = true ∨ ∃ m ∈ B, waitsB ops j m = true) ∧ ∀ j ∈ B, listed.getD j true = false := by
  simp only [chainS, Bool.and_eq_true, List.all_eq_true, List.contains_iff_mem, Bool.or_eq_true, List.any_eq_true, Bool.not_eq_true'] at h
  exact ⟨fun j hj => h.1.1 j (by simpa using hj), h.1.2, h.2⟩
/-- A quiet operation that reads. -/
theorem GS.q (i : Nat) (B : List Nat) {v : Value} (hi : ops[i]? = some ⟨some d, o, T, pos, af, none⟩) (hF : firstS ops ls listed i = true) (hB : chainS ops ls B listed i = true)
    (hq : QuietG P n w0 fr H o v) (hd : Nat.ble (d + 1) n = true) (h : GS P ops Q ls n w0 HC f (listed.setIfInBounds i true) ((d, v) :: fr) H) : GS P ops Q ls n w0 HC (f + 1) listed fr H := by
  intro a w hra hh
  obtain ⟨h1, h2, h3, h4⟩ := firstS_spec hF
  obtain ⟨b1, b2, b3⟩ := chainS_spec hB
  exact wpS_first (D := fun w => HeapOk w0 w H) B b2 hi h4 (Region.noSelect_spec h1) (fun w w' hw e => HeapOk.ext hw e) f listed a w (Region.free_spec hi h2) (.inr b1) b3 h3
    (.inl ⟨by simp [Region.wanted], fun w' hw' => hq a w' hra hw' _ _ _ _ _⟩) hh (h _ _ (hra.put (Nat.le_of_ble_eq_true hd) v) hh)
/-- .. that needs no more than the class. -/
theorem GS.p (i : Nat) {v : Value} (hi : ops[i]? = some ⟨some d, o, T, pos, af, none⟩) (hF : firstS ops ls listed i = true)
    (hq : QuietG P n w0 fr HC o v) (hH : ∀ w, HeapOk w0 w H → HeapOk w0 w HC) (hd : Nat.ble (d + 1) n = true) (h : GS P ops Q ls n w0 HC f (listed.setIfInBounds i true) ((d, v) :: fr) H) : GS P ops Q ls n w0 HC (f + 1) listed fr H := by
  intro a w hra hh
  obtain ⟨h1, h2, h3, h4⟩ := firstS_spec hF
  exact wpS_first (D := fun w => HeapOk w0 w HC) [] (by simp) hi h4 (Region.noSelect_spec h1) (fun w w' hw e => HeapOk.ext hw e) f listed a w (Region.free_spec hi h2) (.inl fun _ h => h) (by simp) h3
    (.inl ⟨by simp [Region.wanted], fun w' hw' => hq a w' hra hw' _ _ _ _ _⟩) (hH w hh) (h _ _ (hra.put (Nat.le_of_ble_eq_true hd) v) hh)
/-- One that turns a chunk, and is alone. -/
theorem GS.o0 (i : Nat) {X : Type} {φ : X → Prop} {val : X → Value} {H' : X → List Ch} (hB : onlyL ops listed i = true) (hL : ls.contains i = true) (hi : ops[i]? = some ⟨none, o, T, pos, af, none⟩)
    (ho : OpG P n w0 fr H o φ val H') (hH : ∀ x w, HeapOk w0 w (H' x) → HeapOk w0 w HC) (h : ∀ x, φ x → GS P ops Q ls n w0 HC f (listed.setIfInBounds i true) fr (H' x)) : GS P ops Q ls n w0 HC (f + 1) listed fr H := by
  intro a w hra hh
  have hr : Region.ready .any ops listed = [i] := by simpa [onlyL] using hB
  refine wpS_all hr (by simp) fun w1 he j hj => ?_
  simp only [List.mem_singleton] at hj
  subst hj
  unfold okOp
  simp only [hi, Region.wanted, if_true]
  exact ho a w1 hra (hh.ext he) _ _ _ _ _ _ fun x w' hx hw => ⟨fun h => (by rw [hL] at h; cases h), fun _ => hH x w' hw, h x hx _ _ (hra.put_none _) hw⟩
theorem GS.done (hr : Region.ready .any ops listed = []) (h : G n w0 fr H (Q .normal)) : GS P ops Q ls n w0 HC f listed fr H :=
  fun a _ hra hh => wpS_done hr (fun w1 e => h a w1 hra (hh.ext e)) f
theorem G.drawS [hW : Wide P] {id : Nat} {l : List Oper} (ls : List Nat) {c : Ch} {F : List Ch} (hH : H = c :: F)
    (h : GS P l.toArray Q ls n w0 F l.length (Array.replicate l.length false) fr H) : G n w0 fr H ((Code.region id l.toArray true).wp P Q) := by
  intro a w hr hh
  refine wp_region_any hW.h (wpAny_of_S (ls := ls) (C := fun w => HeapOk w0 w F) _ _ _ _ ?_)
  rw [List.size_toArray]
  exact h a _ hr hh.drew
end
/-! ### Numbers that are counted -/
section
variable {P : Program} {n : Nat} {w0 : World} {fr : Fr} {H : List Ch} {x y : Operand} {t t' : TypeId} {p q : Nat}
theorem cH (hx : opv fr x = some (.int .i64 (p : Int))) (hy : opv fr y = some (.int .i64 (q : Int))) (h : p + q < 9223372036854775807) : RunsV P n w0 fr H (.binOp .add t x y t') (.int .i64 ((p + q : Nat) : Int)) := by
  have := bD (P := P) (n := n) (w0 := w0) (H := H) (t := t) (t' := t') hx hy (by omega) (by omega)
  simpa using this
theorem cI (hx : opv fr x = some (.int .i64 (p : Int))) (hy : opv fr y = some (.int .i64 (q : Int))) (h : q ≤ p) (h2 : p < 9223372036854775807) : RunsV P n w0 fr H (.binOp .sub t x y t') (.int .i64 ((p - q : Nat) : Int)) := by
  have := b8 (P := P) (n := n) (w0 := w0) (H := H) (t := t) (t' := t') hx hy (by omega) (by omega)
  rwa [show (p : Int) - q = ((p - q : Nat) : Int) from by omega] at this
theorem rv_dblN (hx : opv fr x = some (.int .i64 2)) (hy : opv fr y = some (.int .i64 (q : Int))) (h : q < 4611686018427387903) : RunsV P n w0 fr H (.binOp .mul t x y t') (.int .i64 ((2 * q : Nat) : Int)) := by
  have := rv_mulB (P := P) (n := n) (w0 := w0) (H := H) (t := t) (t' := t') hx hy (by omega) (by omega)
  simpa using this
theorem rv_dblM (hx : opv fr x = some (.int .i64 (q : Int))) (hy : opv fr y = some (.int .i64 2)) (h : q < 4611686018427387903) : RunsV P n w0 fr H (.binOp .mul t x y t') (.int .i64 ((2 * q : Nat) : Int)) := by
  have := rv_mulB (P := P) (n := n) (w0 := w0) (H := H) (t := t) (t' := t') hx hy (by omega) (by omega)
  rwa [show (q : Int) * 2 = ((2 * q : Nat) : Int) from by omega] at this
theorem half_eq {p m : Nat} (h : p < 9223372036854775807) (hm : p / 2 = m) : IntKind.i64.wrap ((IntKind.u64.wrap (p : Int)).fdiv (2 ^ (min (1 : Int).toNat IntKind.u64.bits))) = (m : Int) := by
  have e1 : IntKind.u64.wrap (p : Int) = p := by
    simp only [IntKind.wrap, IntKind.signed, IntKind.bits]; simp; omega
  have e2 : (min (1 : Int).toNat IntKind.u64.bits) = 1 := by decide
  rw [e1, e2, show (2 : Int) ^ 1 = 2 from rfl]
  have e3 : (p : Int).fdiv 2 = (m : Int) := by rw [Int.fdiv_eq_ediv_of_nonneg _ (by omega)]; omega
  rw [e3]; exact cN (by omega) (by omega)
theorem rv_half {src dst : TypeId} {m : Nat} {z : Int} [hs : TyInt P src .u64] [hd : TyInt P dst .i64] (hx : opv fr x = some (.int .u64 z)) (hz : z = (IntKind.u64.wrap (p : Int)).fdiv (2 ^ (min (1 : Int).toNat IntKind.u64.bits))) (h : p < 9223372036854775807) (hm : p / 2 = m) : RunsV P n w0 fr H (.convert src dst x) (.int .i64 (m : Int)) := by
  have := du (P := P) (n := n) (w0 := w0) (H := H) (src := src) (dst := dst) (k2 := .i64) hx
  rwa [hz, half_eq h hm] at this
end
def subV (v : Value) (s l h : Nat) : Value := match v with
  | .slice a _ c => sliced a l h c s
  | u => u
section
variable {P : Program} {n : Nat} {w0 : World} {fr : Fr} {H : List Ch}
theorem dp {x y : Operand} {t e : TypeId} {s bs : Nat} {zs : List Value} [hT : TySlice P t e] [hI : TyInfo P e s zs bs] {v : Value} {es : List (List Value)} {k : IntKind} {h : Nat} (hx : opv fr x = some v) (hy : opv fr y = some (.int k (h : Int))) (hv : ∀ w, HeapOk w0 w H → Rd w v s es) (hh : h ≤ es.length) :
    RunsV P n w0 fr H (.slice t x none (some y) none) (subV v s 0 h) := fun a w hr hw _ _ _ _ _ => by
  obtain ⟨ad, cap, rfl, h1, h2, h3⟩ := (hv w hw).form
  obtain ⟨i, z, g1, g2, g3, g4, g5⟩ := hI.get
  have e1 : (h : Int) ≤ (cap : Int) := by omega
  have e2 : (0 : Int) ≤ (h : Int) := by omega
  simp [execOp, hr.opv hx, hr.opv hy, Instr.sliceAt, Instr.slice, run_underlying hT.h, Instr.sliceBounds, run_sliceBound, sizeOf, typeInfo, g1, g2, subV, sliced, e1, e2]
theorem dq {x y : Operand} {t e : TypeId} {s bs : Nat} {zs : List Value} [hT : TySlice P t e] [hI : TyInfo P e s zs bs] {v : Value} {es : List (List Value)} {k : IntKind} {l : Nat} (hx : opv fr x = some v) (hy : opv fr y = some (.int k (l : Int))) (hv : ∀ w, HeapOk w0 w H → Rd w v s es) (hh : l ≤ es.length) :
    RunsV P n w0 fr H (.slice t x (some y) none none) (subV v s l es.length) := fun a w hr hw _ _ _ _ _ => by
  obtain ⟨ad, cap, rfl, h1, h2, h3⟩ := (hv w hw).form
  obtain ⟨i, z, g1, g2, g3, g4, g5⟩ := hI.get
  have e1 : (l : Int) ≤ (es.length : Int) := by omega
  have e2 : (0 : Int) ≤ (l : Int) := by omega
  have e3 : (es.length : Int) ≤ (cap : Int) := by omega
  simp [execOp, hr.opv hx, hr.opv hy, Instr.sliceAt, Instr.slice, run_underlying hT.h, Instr.sliceBounds, run_sliceBound, sizeOf, typeInfo, g1, g2, subV, sliced, e1, e2, e3]
theorem flatten_sub {s : Nat} {es : List (List Value)} (hl : ∀ e ∈ es, e.length = s) {l : Nat} {j : Nat} {u : Value} {m : Nat} (h : ((es.drop l).take m).flatten[j]? = some u) : es.flatten[l * s + j]? = some u := by
  by_cases hll : l ≤ es.length
  · have e1 : es.flatten = (es.take l).flatten ++ ((es.drop l).take m).flatten ++ ((es.drop l).drop m).flatten := by
      rw [← List.flatten_append, ← List.flatten_append, List.append_assoc, List.take_append_drop, List.take_append_drop]
    have e2 : (es.take l).flatten.length = l * s := by
      rw [cm (s := s) (fun e he => hl e (List.mem_of_mem_take he)), List.length_take, Nat.min_eq_left hll]
    have hj : j < ((es.drop l).take m).flatten.length := by
      rcases Nat.lt_or_ge j ((es.drop l).take m).flatten.length with h1 | h1
      · exact h1
      · rw [List.getElem?_eq_none h1] at h; cases h
    rw [e1, List.append_assoc, List.getElem?_append_right (by omega), e2, show l * s + j - l * s = j from by omega, List.getElem?_append_left hj]
    exact h
  · rw [List.drop_eq_nil_of_le (by omega)] at h; simp at h
theorem Rd.sub {w : World} {v : Value} {s : Nat} {es : List (List Value)} (h : Rd w v s es) {l k : Nat} (h1 : l ≤ k) (h2 : k ≤ es.length) : Rd w (subV v s l k) s ((es.drop l).take (k - l)) := by
  obtain ⟨a, cap, rfl, q1, q2, q3⟩ := h.form
  have hlen : ((es.drop l).take (k - l)).length = k - l := by rw [List.length_take, List.length_drop]; omega
  refine ⟨⟨if cap = l then a else a.map (·.add (l * s)), cap - l, by rw [hlen]; rfl, by omega, by omega, fun hp => ?_⟩, fun e he => h.good e (List.mem_of_mem_drop (List.mem_of_mem_take he)), fun j u hj => ?_⟩
  · rw [hlen] at hp
    obtain ⟨b, o, rfl⟩ := q3 (by omega)
    rw [if_neg (by omega)]
    exact ⟨b, o + l * s, by simp [Addr.add_lit]⟩
  · have hp : 0 < k - l := by
      rcases Nat.eq_zero_or_pos (k - l) with h0 | h0
      · rw [h0] at hj; simp at hj
      · exact h0
    obtain ⟨b, o, rfl⟩ := q3 (by omega)
    have := h.cells _ _ (flatten_sub (fun e he => (h.good e he).1) hj)
    simp only [subV, sliced, if_neg (show ¬ cap = l from by omega), blkOf, offOf, Option.map_some, Addr.add_lit] at this ⊢
    rw [← this]; congr 2; omega
theorem Rd.subH {α : Type} {c : α → List Value} {w : World} {v : Value} {s : Nat} {l : List α} (h : Rd w v s (l.map c)) {k : Nat} (hk : k ≤ l.length) : Rd w (subV v s 0 k) s ((l.take k).map c) := by
  have := h.sub (Nat.zero_le k) (by simpa using hk)
  rwa [List.drop_zero, Nat.sub_zero, ← List.map_take] at this
theorem Rd.subL {α : Type} {c : α → List Value} {w : World} {v : Value} {s : Nat} {l : List α} (h : Rd w v s (l.map c)) {k : Nat} (hk : k ≤ l.length) : Rd w (subV v s k (l.map c).length) s ((l.drop k).map c) := by
  have := h.sub (l := k) (k := (l.map c).length) (by simpa using hk) (Nat.le_refl _)
  rwa [← List.map_drop, List.take_of_length_le (by simp)] at this
theorem rv_quoN {x y : Operand} {t t' : TypeId} {p : Nat} (hx : opv fr x = some (.int .i64 (p : Int))) (hy : opv fr y = some (.int .i64 2)) (h : p < 9223372036854775807) : RunsV P n w0 fr H (.binOp .quo t x y t') (.int .i64 ((p / 2 : Nat) : Int)) := by
  have := rv_quo (P := P) (n := n) (w0 := w0) (H := H) (t := t) (t' := t') hx hy (by omega)
  have e : (p : Int).tdiv 2 = ((p / 2 : Nat) : Int) := by
    rw [Int.tdiv_eq_ediv_of_nonneg (by omega)]; omega
  rwa [e, cN (by omega) (by omega)] at this
end
section
variable {M S : Type} (room : M → S → Bool) (add : M → Nat → S → M) (z : M)
def pileStep (out : List M) (x : S × Nat) : List M :=
  match out.getLast? with
  | some t => if room t x.1 then out.set (out.length - 1) (add t x.2 x.1) else out ++ [add z x.2 x.1]
  | none => out ++ [add z x.2 x.1]
def pile (xs : List (S × Nat)) : List M := xs.foldl (pileStep room add z) []
end
section
variable {M S : Type} {room : M → S → Bool} {add : M → Nat → S → M} {z : M} {out : List M} {s : S} {k : Nat}
theorem pile_new (h : ∀ t, out.getLast? = some t → room t s = false) : pileStep room add z out (s, k) = (out ++ [z]).set out.length (add z k s) := by
  rw [List.set_append_right _ _ (Nat.le_refl _), Nat.sub_self, List.set_cons_zero]
  unfold pileStep
  split
  · rename_i t ht; rw [h t ht]; rfl
  · rfl
theorem pile_room {q : Nat} {t : M} (hq : out[q]? = some t) (hl : q + 1 = out.length) (hr : room t s = true) : pileStep room add z out (s, k) = out.set q (add t k s) := by
  have : out.getLast? = some t := by rw [List.getLast?_eq_getElem?, ← hl]; exact hq
  unfold pileStep
  simp only [this, hr, if_true]
  rw [← hl]; rfl
theorem pileStep_inv {P : M → Prop} {x : S × Nat} (hz : P (add z x.2 x.1)) (hs : ∀ t, P t → room t x.1 = true → P (add t x.2 x.1)) (h : ∀ t ∈ out, P t) : ∀ t ∈ pileStep room add z out x, P t := by
  intro t ht
  unfold pileStep at ht
  split at ht
  · rename_i u hu
    split at ht
    · rename_i hr
      rcases List.mem_or_eq_of_mem_set ht with h1 | h1
      · exact h t h1
      · rw [h1]; exact hs u (h u (List.mem_of_getLast? hu)) hr
    · rcases List.mem_append.1 ht with h1 | h1
      · exact h t h1
      · rw [List.mem_singleton.1 h1]; exact hz
  · rcases List.mem_append.1 ht with h1 | h1
    · exact h t h1
    · rw [List.mem_singleton.1 h1]; exact hz
theorem dH {P : M → Prop} : ∀ (xs : List (S × Nat)) (out : List M), (∀ x ∈ xs, P (add z x.2 x.1) ∧ ∀ t, P t → room t x.1 = true → P (add t x.2 x.1)) → (∀ t ∈ out, P t) → ∀ t ∈ xs.foldl (pileStep room add z) out, P t
  | [], out, _, h => h
  | x :: r, out, hs, h => dH r _ (fun y hy => hs y (List.mem_cons_of_mem _ hy)) (pileStep_inv (hs x List.mem_cons_self).1 (hs x List.mem_cons_self).2 h)
theorem pileStep_len (x : S × Nat) : (pileStep room add z out x).length ≤ out.length + 1 := by
  unfold pileStep
  split
  · split
    · rw [List.length_set]; omega
    · simp
  · simp
theorem dI : ∀ (xs : List (S × Nat)) (out : List M), (xs.foldl (pileStep room add z) out).length ≤ out.length + xs.length
  | [], out => Nat.le_refl _
  | x :: r, out => by
    have h1 := dI r (pileStep room add z out x)
    have h2 := pileStep_len (room := room) (add := add) (z := z) (out := out) x
    simp only [List.foldl_cons, List.length_cons]; omega
end
theorem zip_get {α : Type} {l : List α} {k : Nat} {x : α} (h : l[k]? = some x) : l.zipIdx[k]? = some (x, k) := by
  rw [List.getElem?_zipIdx, h]; simp
theorem last_of {M : Type} {ts tp : List (M × Value)} {t : M × Value} (h : ts = tp ++ [t]) : (ts.map Prod.fst).getLast? = some t.1 := by subst h; simp
theorem dA {M : Type} {ts : List (M × Value)} {q : Nat} {t : M × Value} (h : ts[q]? = some t) : (ts.map Prod.fst)[q]? = some t.1 := by simp [h]
theorem get_last {α : Type} {ts tp : List α} {t : α} (h : ts = tp ++ [t]) : ts[tp.length]? = some t := by subst h; simp
def layRoom (p : PalletM) (t : LayerM) (s : ShelfM) : Bool := decide (t.d + s.d ≤ p.d) && decide (t.g + s.g ≤ p.g)
def layAdd (t : LayerM) (k : Nat) (s : ShelfM) : LayerM := ⟨t.l ++ [(k : Int)], t.d + s.d, max t.h s.h, t.g + s.g⟩
def layZ : LayerM := ⟨[], 0, 0, 0⟩
def shelvesOkM (p : PalletM) (ss : List ShelfM) : Bool := palletOkM p && ss.all fun s => heapOkM p s.d s.h s.g
def layersM (p : PalletM) (ss : List ShelfM) : List LayerM := if shelvesOkM p ss then pile (layRoom p) layAdd layZ ss.zipIdx else []
def loadRoom (p : PalletM) (t : LoadM) (s : LayerM) : Bool := decide (t.h + s.h ≤ p.h) && decide (t.g + s.g ≤ p.g)
def loadAdd (t : LoadM) (k : Nat) (s : LayerM) : LoadM := ⟨t.l ++ [(k : Int)], t.h + s.h, t.g + s.g⟩
def loadZ : LoadM := ⟨[], 0, 0⟩
def stacksOkM (p : PalletM) (ss : List LayerM) : Bool := palletOkM p && ss.all fun s => heapOkM p s.d s.h s.g
def loadsM (p : PalletM) (ss : List LayerM) : List LoadM := if stacksOkM p ss then pile (loadRoom p) loadAdd loadZ ss.zipIdx else []
theorem pallet_in {p : PalletM} (h : palletOkM p = true) : 1 ≤ p.w ∧ p.w ≤ 2000 ∧ 1 ≤ p.d ∧ p.d ≤ 2000 ∧ 1 ≤ p.h ∧ p.h ≤ 2000 ∧ 1 ≤ p.g ∧ p.g ≤ 100000 := by
  simp only [palletOkM, inB, Bool.and_eq_true, decide_eq_true_eq] at h; omega
theorem heap_in {p : PalletM} {d h g : Int} (hh : heapOkM p d h g = true) : 1 ≤ d ∧ d ≤ p.d ∧ 1 ≤ h ∧ h ≤ p.h ∧ 1 ≤ g ∧ g ≤ p.g := by
  simp only [heapOkM, inB, Bool.and_eq_true, decide_eq_true_eq] at hh; omega
theorem ok_at {α : Type} {q : Bool} {f : α → Bool} {l : List α} {k : Nat} {b : α} (h : (!(q && l.all f)) = false) (hb : l[k]? = some b) : q = true ∧ f b = true := by
  simp only [Bool.not_eq_false', Bool.and_eq_true, List.all_eq_true] at h
  exact ⟨h.1, h.2 b (List.mem_of_getElem? hb)⟩
theorem lay_bd {p : PalletM} {ss : List ShelfM} (hok : shelvesOkM p ss = true) (k : Nat) : ∀ t ∈ (ss.zipIdx.take k).foldl (pileStep (layRoom p) layAdd layZ) [], 0 ≤ t.d ∧ t.d ≤ p.d ∧ 0 ≤ t.h ∧ t.h ≤ p.h ∧ 0 ≤ t.g ∧ t.g ≤ p.g := by
  refine dH _ _ (fun x hx => ?_) (by simp)
  have hx' : x.1 ∈ ss := (List.mem_zipIdx' (List.mem_of_mem_take hx)).2 ▸ List.getElem_mem _
  simp only [shelvesOkM, Bool.and_eq_true, List.all_eq_true] at hok
  have hh := heap_in (hok.2 x.1 hx')
  refine ⟨by simp only [layAdd, layZ]; omega, fun t ht hr => ?_⟩
  simp only [layRoom, Bool.and_eq_true, decide_eq_true_eq] at hr
  simp only [layAdd]; omega
theorem load_bd {p : PalletM} {ss : List LayerM} (hok : stacksOkM p ss = true) (k : Nat) : ∀ t ∈ (ss.zipIdx.take k).foldl (pileStep (loadRoom p) loadAdd loadZ) [], 0 ≤ t.h ∧ t.h ≤ p.h ∧ 0 ≤ t.g ∧ t.g ≤ p.g := by
  refine dH _ _ (fun x hx => ?_) (by simp)
  have hx' : x.1 ∈ ss := (List.mem_zipIdx' (List.mem_of_mem_take hx)).2 ▸ List.getElem_mem _
  simp only [stacksOkM, Bool.and_eq_true, List.all_eq_true] at hok
  have hh := heap_in (hok.2 x.1 hx')
  refine ⟨by simp only [loadAdd, loadZ]; omega, fun t ht hr => ?_⟩
  simp only [loadRoom, Bool.and_eq_true, decide_eq_true_eq] at hr
  simp only [loadAdd]; omega
theorem layers_len (p : PalletM) (ss : List ShelfM) : (layersM p ss).length ≤ ss.length := by
  unfold layersM; split
  · have := dI (room := layRoom p) (add := layAdd) (z := layZ) ss.zipIdx []; simpa [pile] using this
  · simp
theorem loads_len (p : PalletM) (ss : List LayerM) : (loadsM p ss).length ≤ ss.length := by
  unfold loadsM; split
  · have := dI (room := loadRoom p) (add := loadAdd) (z := loadZ) ss.zipIdx []; simpa [pile] using this
  · simp
end Go.Proofs.YtglpgohilfoecaaGreat
