/-
  A small logic of chunks over the walk: a state is said by the slots that are known and by the blocks that the call owns.
-/
import Derived.WalkKit
import Derived.WalkLawsBesides
import Derived.Deep.LoopGhost
namespace Go.Proofs.YtpmphkcibiimcaaGreat
open Go.RowKit

/-! ### Frames -/
abbrev Fr := List (Nat × Value)

def fget : Fr → Nat → Option Value
  | [], _ => none
  | (k, v) :: r, t => bif Nat.beq k t then some v else fget r t

def opv (fr : Fr) : Operand → Option Value
  | .tmp t => fget fr t
  | .const v => some v
  | .global g => some (.pointer (some ⟨g, 0, none⟩))
  | .func f => some (.func (.func f) #[] #[])

def opvs (fr : Fr) : List Operand → Option (List Value)
  | [] => some []
  | x :: r => match opv fr x with
    | some v => match opvs fr r with
      | some vs => some (v :: vs)
      | none => none
    | none => none

structure Rep (n : Nat) (a : Act) (fr : Fr) : Prop where
  size : a.tmps.size = n
  defs : a.defers = []
  val : ∀ t v, fget fr t = some v → a.tmps.getD t undef = v
  lt : ∀ t v, fget fr t = some v → t < n

theorem Rep.opv {n : Nat} {a : Act} {fr : Fr} (h : Rep n a fr) {x : Operand} {v : Value} (hx : opv fr x = some v) : a.eval x = v := by
  cases x with
  | tmp t => exact h.val t v hx
  | const c => exact Option.some.inj hx
  | global g => exact Option.some.inj hx
  | func f => exact Option.some.inj hx

theorem Rep.opvs {n : Nat} {a : Act} {fr : Fr} (h : Rep n a fr) : ∀ {xs : List Operand} {vs : List Value}, opvs fr xs = some vs → xs.map a.eval = vs
  | [], vs, hx => by simp only [Proofs.YtpmphkcibiimcaaGreat.opvs, Option.some.injEq] at hx; simp [hx]
  | x :: r, vs, hx => by
    simp only [Proofs.YtpmphkcibiimcaaGreat.opvs] at hx
    split at hx
    · rename_i v hv
      split at hx
      · rename_i vs' hvs
        simp only [Option.some.injEq] at hx
        subst hx
        simp [h.opv hv, Rep.opvs h hvs]
      · cases hx
    · cases hx

theorem fget_cons (k : Nat) (v : Value) (r : Fr) (t : Nat) : fget ((k, v) :: r) t = if k = t then some v else fget r t := by
  simp only [fget]
  by_cases h : k = t
  · subst h; simp
  · rw [if_neg h]
    have : Nat.beq k t = false := by
      cases hb : Nat.beq k t
      · rfl
      · exact absurd (Nat.eq_of_beq_eq_true hb) h
    simp [this]

theorem Rep.put {n : Nat} {a : Act} {fr : Fr} (h : Rep n a fr) {d : Nat} (hd : d < n) (v : Value) : Rep n (a.put (some d) v) ((d, v) :: fr) := by
  refine ⟨by simp [Act.put, h.size], h.defs, fun t u hu => ?_, fun t u hu => ?_⟩
  · rw [fget_cons] at hu
    simp only [Act.put, Array.getD_eq_getD_getElem?, Array.getElem?_setIfInBounds]
    split at hu
    · rename_i e; subst e
      simp only [Option.some.injEq] at hu
      subst hu
      simp [h.size, hd]
    · rename_i e
      rw [if_neg e]
      have := h.val t u hu
      rwa [Array.getD_eq_getD_getElem?] at this
  · rw [fget_cons] at hu
    split at hu
    · rename_i e; exact e ▸ hd
    · exact h.lt t u hu

theorem Rep.put_none {n : Nat} {a : Act} {fr : Fr} (h : Rep n a fr) (v : Value) : Rep n (a.put none v) fr := h

/-- The facts of 'gr' are among those of 'fr'. -/
def Sub : Fr → Fr → Prop
  | [], _ => True
  | (k, v) :: r, fr => fget fr k = some v ∧ Sub r fr

theorem Sub.get : ∀ {gr fr : Fr}, Sub gr fr → ∀ t v, fget gr t = some v → fget fr t = some v
  | (k, u) :: r, fr, h, t, v, hg => by
    rw [fget_cons] at hg
    split at hg
    · rename_i e; subst e
      exact (Option.some.inj hg) ▸ h.1
    · exact Sub.get h.2 t v hg

theorem Rep.sub {n : Nat} {a : Act} {fr gr : Fr} (h : Rep n a fr) (hs : Sub gr fr) : Rep n a gr :=
  ⟨h.size, h.defs, fun t v hg => h.val t v (hs.get t v hg), fun t v hg => h.lt t v (hs.get t v hg)⟩

/-! ### Chunks -/
def blkOf : Value → Nat
  | .slice (some a) _ _ => a.block
  | _ => 0
def offOf : Value → Nat
  | .slice (some a) _ _ => a.off
  | _ => 0
/-- The pointer to cell c of element k, of slices whose elements have s cells. -/
def pE (v : Value) (s k c : Nat) : Value := .pointer (some ⟨blkOf v, offOf v + (k * s + c), none⟩)
def pB (b o : Nat) : Value := .pointer (some ⟨b, o, none⟩)

inductive Ch where
  | blk (b : Nat) (t : TypeId) (cs : List Value)
  | row (v : Value) (t : TypeId) (size : Nat) (es : List (List Value))
  | grp (t : TypeId) (size : Nat) (rs : List (Value × List (List Value)))

def Ch.has : Ch → Nat → Prop
  | .blk b _ _, k => b = k
  | .row v _ _ _, k => v.ownBlock = some k
  | .grp _ _ rs, k => ∃ r ∈ rs, r.1.ownBlock = some k

def rowOk (w : World) (B : Nat) (t : TypeId) (size : Nat) (v : Value) (es : List (List Value)) : Prop :=
  w.ownsRow B t size v es.length es.flatten ∧ ∀ e ∈ es, e.length = size ∧ ∀ u ∈ e, u.oneCell' = true
def rowApart (r s : Value × List (List Value)) : Prop := ∀ k, r.1.ownBlock = some k → s.1.ownBlock ≠ some k

def Ch.ok (w : World) (B : Nat) : Ch → Prop
  | .blk b t cs => B ≤ b ∧ w.heap[b]? = some (.cells cs.toArray t (0, 0))
  | .row v t size es => rowOk w B t size v es
  | .grp t size rs => (∀ r ∈ rs, rowOk w B t size r.1 r.2) ∧ rs.Pairwise rowApart

def Ch.apart (c d : Ch) : Prop := ∀ k, c.has k → ¬ d.has k

theorem Ch.apart_symm {c d : Ch} (h : c.apart d) : d.apart c := fun k hd hc => h k hc hd

structure HeapOk (w0 w : World) (H : List Ch) : Prop where
  below : Below w0.heap.size w0 w
  ok : ∀ c ∈ H, c.ok w w0.heap.size
  ap : H.Pairwise Ch.apart

theorem HeapOk.refl (w : World) : HeapOk w w [] := ⟨Below.refl _ _, by simp, List.Pairwise.nil⟩

theorem Ch.lt {w : World} {B : Nat} {c : Ch} (h : c.ok w B) {k : Nat} (hk : c.has k) : B ≤ k ∧ k < w.heap.size := by
  cases c with
  | blk b t cs =>
    simp only [Ch.has] at hk; subst hk
    refine ⟨h.1, ?_⟩
    rcases Nat.lt_or_ge b w.heap.size with hlt | hge
    · exact hlt
    · have := h.2; rw [Array.getElem?_eq_none hge] at this; cases this
  | row v t size es => exact h.1.lt k hk
  | grp t size rs =>
    obtain ⟨r, hr, hk⟩ := hk
    exact (h.1 r hr).1.lt k hk

theorem rowOk.of {w w' : World} {B : Nat} {t : TypeId} {size : Nat} {v : Value} {es : List (List Value)} (h : rowOk w B t size v es) (hb : ∀ k, v.ownBlock = some k → w'.heap[k]? = w.heap[k]?) : rowOk w' B t size v es := by
  refine ⟨⟨h.1.1, ?_⟩, h.2⟩
  rcases h.1.2 with ⟨rfl, hn⟩ | ⟨g, cap, cur, rfl, hB, hg, rest⟩
  · exact .inl ⟨rfl, hn⟩
  · exact .inr ⟨g, cap, cur, rfl, hB, (hb g rfl).trans hg, rest⟩
theorem rowOk.mono {w : World} {B B' : Nat} {t : TypeId} {size : Nat} {v : Value} {es : List (List Value)} (h : rowOk w B t size v es) (hB : B' ≤ B) : rowOk w B' t size v es := by
  refine ⟨⟨h.1.1, ?_⟩, h.2⟩
  rcases h.1.2 with ⟨rfl, hn⟩ | ⟨g, cap, cur, rfl, hg1, rest⟩
  · exact .inl ⟨rfl, hn⟩
  · exact .inr ⟨g, cap, cur, rfl, Nat.le_trans hB hg1, rest⟩
theorem Ch.ok_of {w w' : World} {B : Nat} {c : Ch} (h : c.ok w B) (hb : ∀ k, c.has k → w'.heap[k]? = w.heap[k]?) : c.ok w' B := by
  cases c with
  | blk b t cs => exact ⟨h.1, (hb b rfl).trans h.2⟩
  | row v t size es => exact rowOk.of h hb
  | grp t size rs => exact ⟨fun r hr => (h.1 r hr).of fun k hk => hb k ⟨r, hr, hk⟩, h.2⟩

theorem Ch.ok_mono {w : World} {B B' : Nat} {c : Ch} (h : c.ok w B) (hB : B' ≤ B) : c.ok w B' := by
  cases c with
  | blk b t cs => exact ⟨Nat.le_trans hB h.1, h.2⟩
  | row v t size es => exact rowOk.mono h hB
  | grp t size rs => exact ⟨fun r hr => (h.1 r hr).mono hB, h.2⟩

theorem HeapOk.perm {w0 w : World} {H H' : List Ch} (h : HeapOk w0 w H) (p : H.Perm H') : HeapOk w0 w H' :=
  ⟨h.below, fun c hc => h.ok c (p.mem_iff.2 hc), (p.pairwise_iff (R := Ch.apart) (fun h => Ch.apart_symm h)).1 h.ap⟩

theorem HeapOk.sublist {w0 w : World} {H H' : List Ch} (h : HeapOk w0 w H) (p : H'.Sublist H) : HeapOk w0 w H' :=
  ⟨h.below, fun c hc => h.ok c (p.subset hc), h.ap.sublist p⟩

theorem HeapOk.drop {w0 w : World} {H : List Ch} (h : HeapOk w0 w H) (n : Nat) : HeapOk w0 w (H.drop n) := h.sublist (List.drop_sublist n H)

theorem HeapOk.tail {w0 w : World} {c : Ch} {H : List Ch} (h : HeapOk w0 w (c :: H)) : HeapOk w0 w H := h.sublist (List.sublist_cons_self c H)

/-- New chunks on top: those of a callee, seen from its own beginning. -/
theorem HeapOk.call {w0 w w' : World} {H N : List Ch} (h : HeapOk w0 w H) (hn : HeapOk w w' N) : HeapOk w0 w' (N ++ H) := by
  have hsz := h.below.size
  refine ⟨h.below.trans (hn.below.mono hsz), fun c hc => ?_, ?_⟩
  · rcases List.mem_append.1 hc with hc | hc
    · exact Ch.ok_mono (hn.ok c hc) hsz
    · exact Ch.ok_of (h.ok c hc) fun k hk => hn.below.block k (Ch.lt (h.ok c hc) hk).2
  · refine List.pairwise_append.2 ⟨hn.ap, h.ap, fun c hc d hd k hk hk' => ?_⟩
    have h1 := (Ch.lt (hn.ok c hc) hk).1
    have h2 := (Ch.lt (h.ok d hd) hk').2
    omega

theorem HeapOk.drew {w0 w : World} {H : List Ch} (h : HeapOk w0 w H) : HeapOk w0 { w with drawn := w.drawn + 1 } H :=
  ⟨⟨h.below.os, h.below.tape, h.below.output, h.below.size, h.below.block⟩, fun c hc => Ch.ok_of (h.ok c hc) fun _ _ => rfl, h.ap⟩

/-- A new block of cells. -/
theorem HeapOk.alloc {w0 w : World} {H : List Ch} (h : HeapOk w0 w H) (t : TypeId) (cs : List Value) :
    HeapOk w0 (w.alloc (.cells cs.toArray t)) (.blk w.heap.size t cs :: H) := by
  have hsz := h.below.size
  refine ⟨h.below.alloc hsz _, fun c hc => ?_, ?_⟩
  · rcases List.mem_cons.1 hc with rfl | hc
    · exact ⟨hsz, heap_alloc_new w _⟩
    · exact Ch.ok_of (h.ok c hc) fun k hk => Below.heap_alloc w _ k (Ch.lt (h.ok c hc) hk).2
  · refine List.pairwise_cons.2 ⟨fun d hd k hk hk' => ?_, h.ap⟩
    have := (Ch.lt (h.ok d hd) hk').2
    simp only [Ch.has] at hk
    omega

/-- A store into a block that is known. -/
theorem HeapOk.setBlk {w0 w : World} {H : List Ch} {b : Nat} {t : TypeId} {cs : List Value} (h : HeapOk w0 w (.blk b t cs :: H)) (o : Nat) (v : Value) :
    HeapOk w0 (w.setCell ⟨b, o, none⟩ v) (.blk b t (cs.set o v) :: H) := by
  have hb := h.ok _ (List.mem_cons_self)
  refine ⟨h.below.setCell hb.1 v, fun c hc => ?_, ?_⟩
  · rcases List.mem_cons.1 hc with rfl | hc
    · refine ⟨hb.1, ?_⟩
      have := hb.2
      simp [World.setCell, Array.getElem?_modify, this]
    · refine Ch.ok_of (h.ok c (List.mem_cons_of_mem _ hc)) fun k hk => Below.heap_setCell w _ v k ?_
      have := (List.pairwise_cons.1 h.ap).1 c hc b rfl
      rintro rfl
      exact this hk
  · have := List.pairwise_cons.1 h.ap
    exact List.pairwise_cons.2 ⟨fun d hd k hk => this.1 d hd k hk, this.2⟩

/-! ### Reading: a slice that reads as a list of elements -/
structure Rd (w : World) (v : Value) (size : Nat) (es : List (List Value)) : Prop where
  form : ∃ a cap, v = .slice a es.length cap ∧ es.length ≤ cap ∧ cap ≤ maxLen ∧ (0 < es.length → ∃ b o, a = some ⟨b, o, none⟩)
  good : ∀ e ∈ es, e.length = size ∧ ∀ u ∈ e, u.oneCell' = true
  cells : ∀ j u, es.flatten[j]? = some u → w.cell? ⟨blkOf v, offOf v + j, none⟩ = some u

theorem flatten_get {es : List (List Value)} {size : Nat} (hl : ∀ e ∈ es, e.length = size) : ∀ {k : Nat} {e : List Value}, es[k]? = some e → ∀ {c : Nat} {u : Value}, e[c]? = some u → es.flatten[k * size + c]? = some u := by
  induction es with
  | nil => intro k e h; simp at h
  | cons x xs ih =>
    intro k e hk c u hc
    have hx : x.length = size := hl x (List.mem_cons_self)
    cases k with
    | zero =>
      simp only [List.getElem?_cons_zero, Option.some.injEq] at hk
      subst hk
      have hlt : c < x.length := by
        rcases Nat.lt_or_ge c x.length with h | h
        · exact h
        · rw [List.getElem?_eq_none h] at hc; cases hc
      simp only [List.flatten_cons, Nat.zero_mul, Nat.zero_add]
      rw [List.getElem?_append_left hlt]; exact hc
    | succ k =>
      simp only [List.getElem?_cons_succ] at hk
      have := ih (fun e he => hl e (List.mem_cons_of_mem _ he)) hk hc
      simp only [List.flatten_cons]
      rw [List.getElem?_append_right (by rw [hx, Nat.succ_mul]; omega)]
      rw [hx]
      rw [show (k + 1) * size + c - size = k * size + c from by rw [Nat.succ_mul]; omega]
      exact this

theorem Rd.cell {w : World} {v : Value} {size : Nat} {es : List (List Value)} (h : Rd w v size es) {k : Nat} {e : List Value} (hk : es[k]? = some e) {c : Nat} {u : Value} (hc : e[c]? = some u) :
    w.cell? ⟨blkOf v, offOf v + (k * size + c), none⟩ = some u := h.cells _ _ (flatten_get (fun e he => (h.good e he).1) hk hc)

theorem Rd.le {w : World} {v : Value} {size : Nat} {es : List (List Value)} (h : Rd w v size es) : es.length ≤ maxLen := by
  obtain ⟨a, cap, _, h1, h2, _⟩ := h.form; omega

theorem cell_lt {w : World} {p : Addr} {u : Value} (h : w.cell? p = some u) : p.block < w.heap.size := by
  rcases Nat.lt_or_ge p.block w.heap.size with hlt | hge
  · exact hlt
  · simp [World.cell?, Array.getElem?_eq_none hge] at h

theorem Rd.below {w w' : World} {v : Value} {size : Nat} {es : List (List Value)} (h : Rd w v size es) (hb : Below w.heap.size w w') : Rd w' v size es :=
  ⟨h.form, h.good, fun j u hj => by
    have := h.cells j u hj
    rw [hb.cell (cell_lt this)]
    exact this⟩

theorem Rd.nil_ (w : World) (size : Nat) : Rd w (.slice none 0 0) size [] :=
  ⟨⟨none, 0, rfl, Nat.le_refl _, by simp [maxLen], by simp⟩, by simp, by simp⟩

theorem Rd.of_row {w : World} {B : Nat} {v : Value} {t : TypeId} {size : Nat} {es : List (List Value)} (h : (Ch.row v t size es).ok w B) : Rd w v size es := by
  obtain ⟨hr, hl⟩ := h
  refine ⟨?_, hl, ?_⟩
  · rcases hr.2 with ⟨rfl, hn⟩ | ⟨g, cap, cur, rfl, hB, hg, h1, h2, h3, h4⟩
    · exact ⟨none, 0, by rw [hn], by omega, by simp [maxLen], by omega⟩
    · exact ⟨_, cap, rfl, h1, h2, fun _ => ⟨g, 0, rfl⟩⟩
  · intro j u hj
    rcases hr.2 with ⟨rfl, hn⟩ | ⟨g, cap, cur, rfl, hB, hg, h1, h2, h3, h4⟩
    · have : es = [] := List.eq_nil_of_length_eq_zero hn
      subst this; simp at hj
    · have := hr.cells (g := g) rfl j u hj
      simpa [blkOf, offOf, Addr.add_lit] using this

theorem HeapOk.rd {w0 w : World} {H : List Ch} {v : Value} {t : TypeId} {size : Nat} {es : List (List Value)} (h : HeapOk w0 w H) (hm : Ch.row v t size es ∈ H) : Rd w v size es := Rd.of_row (h.ok _ hm)

/-! ### Groups of rows -/
theorem rowApart.symm {r s : Value × List (List Value)} (h : rowApart r s) : rowApart s r := fun k hs hr => h k hr hs
theorem HeapOk.nilGrp {w0 w : World} {H : List Ch} (h : HeapOk w0 w H) (t : TypeId) (s : Nat) : HeapOk w0 w (.grp t s [] :: H) :=
  ⟨h.below, fun c hc => by
    rcases List.mem_cons.1 hc with rfl | hc
    · exact ⟨by simp, List.Pairwise.nil⟩
    · exact h.ok c hc, List.pairwise_cons.2 ⟨fun d hd k ⟨r, hr, _⟩ => by (cases hr), h.ap⟩⟩
theorem HeapOk.grpPerm {w0 w : World} {H : List Ch} {t : TypeId} {s : Nat} {rs rs' : List (Value × List (List Value))} (h : HeapOk w0 w (.grp t s rs :: H)) (p : rs.Perm rs') : HeapOk w0 w (.grp t s rs' :: H) := by
  have h0 := h.ok _ List.mem_cons_self
  have hp := List.pairwise_cons.1 h.ap
  refine ⟨h.below, fun c hc => ?_, List.pairwise_cons.2 ⟨fun d hd k hk => ?_, hp.2⟩⟩
  · rcases List.mem_cons.1 hc with rfl | hc
    · exact ⟨fun r hr => h0.1 r (p.mem_iff.2 hr), (p.pairwise_iff (R := rowApart) (fun h => rowApart.symm h)).1 h0.2⟩
    · exact h.ok c (List.mem_cons_of_mem _ hc)
  · obtain ⟨r, hr, hk⟩ := hk
    exact hp.1 d hd k ⟨r, p.mem_iff.2 hr, hk⟩
theorem HeapOk.grpSub {w0 w : World} {H : List Ch} {t : TypeId} {s : Nat} {rs rs' : List (Value × List (List Value))} (h : HeapOk w0 w (.grp t s rs :: H)) (p : rs'.Sublist rs) : HeapOk w0 w (.grp t s rs' :: H) := by
  have h0 := h.ok _ List.mem_cons_self
  have hp := List.pairwise_cons.1 h.ap
  refine ⟨h.below, fun c hc => ?_, List.pairwise_cons.2 ⟨fun d hd k hk => ?_, hp.2⟩⟩
  · rcases List.mem_cons.1 hc with rfl | hc
    · exact ⟨fun r hr => h0.1 r (p.subset hr), h0.2.sublist p⟩
    · exact h.ok c (List.mem_cons_of_mem _ hc)
  · obtain ⟨r, hr, hk⟩ := hk
    exact hp.1 d hd k ⟨r, p.subset hr, hk⟩
/-- A row joins a group. -/
theorem HeapOk.join {w0 w : World} {H : List Ch} {t : TypeId} {s : Nat} {v : Value} {es : List (List Value)} {rs : List (Value × List (List Value))} (h : HeapOk w0 w (.row v t s es :: .grp t s rs :: H)) : HeapOk w0 w (.grp t s ((v, es) :: rs) :: H) := by
  have h1 := h.ok _ List.mem_cons_self
  have h2 := h.ok _ (List.mem_cons_of_mem _ List.mem_cons_self)
  have hp := List.pairwise_cons.1 h.ap
  have hq := List.pairwise_cons.1 hp.2
  refine ⟨h.below, fun c hc => ?_, List.pairwise_cons.2 ⟨fun d hd k hk => ?_, hq.2⟩⟩
  · rcases List.mem_cons.1 hc with rfl | hc
    · refine ⟨fun r hr => ?_, List.pairwise_cons.2 ⟨fun r hr k hk hk' => hp.1 _ List.mem_cons_self k hk ⟨r, hr, hk'⟩, h2.2⟩⟩
      rcases List.mem_cons.1 hr with rfl | hr
      · exact h1
      · exact h2.1 r hr
    · exact h.ok c (List.mem_cons_of_mem _ (List.mem_cons_of_mem _ hc))
  · obtain ⟨r, hr, hk⟩ := hk
    rcases List.mem_cons.1 hr with rfl | hr
    · exact hp.1 d (List.mem_cons_of_mem _ hd) k hk
    · exact hq.1 d hd k ⟨r, hr, hk⟩
/-- A row leaves a group. -/
theorem HeapOk.part {w0 w : World} {H : List Ch} {t : TypeId} {s : Nat} {v : Value} {es : List (List Value)} {rs : List (Value × List (List Value))} (h : HeapOk w0 w (.grp t s ((v, es) :: rs) :: H)) : HeapOk w0 w (.row v t s es :: .grp t s rs :: H) := by
  have h0 := h.ok _ List.mem_cons_self
  have hp := List.pairwise_cons.1 h.ap
  have hq := List.pairwise_cons.1 h0.2
  refine ⟨h.below, fun c hc => ?_, List.pairwise_cons.2 ⟨fun d hd k hk hk' => ?_, List.pairwise_cons.2 ⟨fun d hd k hk => ?_, hp.2⟩⟩⟩
  · rcases List.mem_cons.1 hc with rfl | hc
    · exact h0.1 _ List.mem_cons_self
    · rcases List.mem_cons.1 hc with rfl | hc
      · exact ⟨fun r hr => h0.1 r (List.mem_cons_of_mem _ hr), hq.2⟩
      · exact h.ok c (List.mem_cons_of_mem _ hc)
  · rcases List.mem_cons.1 hd with rfl | hd
    · obtain ⟨r, hr, hk'⟩ := hk'
      exact hq.1 r hr k hk hk'
    · exact hp.1 d hd k ⟨_, List.mem_cons_self, hk⟩ hk'
  · obtain ⟨r, hr, hk⟩ := hk
    exact hp.1 d hd k ⟨r, List.mem_cons_of_mem _ hr, hk⟩
theorem front_permG {α : Type} : ∀ {H : List α} {i : Nat} {c : α}, H[i]? = some c → (c :: H.eraseIdx i).Perm H
  | [], i, c, h => by simp at h
  | x :: r, 0, c, h => by
    simp only [List.getElem?_cons_zero, Option.some.injEq] at h
    subst h; simp
  | x :: r, i + 1, c, h => by
    simp only [List.getElem?_cons_succ] at h
    exact (List.Perm.swap x c _).trans ((front_permG h).cons x)
theorem perm_setG {α : Type} : ∀ {H : List α} {i : Nat} {c c' : α}, H[i]? = some c → (c' :: H.eraseIdx i).Perm (H.set i c')
  | [], i, c, c', h => by simp at h
  | x :: r, 0, c, c', h => by simp
  | x :: r, i + 1, c, c', h => by
    simp only [List.getElem?_cons_succ] at h
    exact (List.Perm.swap x c' _).trans ((perm_setG h).cons x)
theorem HeapOk.focus {w0 w : World} {H : List Ch} {t : TypeId} {s i : Nat} {v : Value} {es : List (List Value)} {rs : List (Value × List (List Value))} (h : HeapOk w0 w (.grp t s rs :: H)) (hi : rs[i]? = some (v, es)) : HeapOk w0 w (.row v t s es :: .grp t s (rs.eraseIdx i) :: H) :=
  (h.grpPerm (front_permG hi).symm).part
theorem HeapOk.unfocus {w0 w : World} {H : List Ch} {t : TypeId} {s i : Nat} {v : Value} {es : List (List Value)} {rs : List (Value × List (List Value))} {r : Value × List (List Value)} (hi : rs[i]? = some r) (h : HeapOk w0 w (.row v t s es :: .grp t s (rs.eraseIdx i) :: H)) : HeapOk w0 w (.grp t s (rs.set i (v, es)) :: H) :=
  h.join.grpPerm (perm_setG hi)
theorem HeapOk.push {w0 w : World} {H : List Ch} {t : TypeId} {s : Nat} {v : Value} {es : List (List Value)} {rs : List (Value × List (List Value))} (h : HeapOk w0 w (.row v t s es :: .grp t s rs :: H)) : HeapOk w0 w (.grp t s (rs ++ [(v, es)]) :: H) :=
  h.join.grpPerm (by simpa using (List.perm_append_comm (l₁ := [(v, es)]) (l₂ := rs)))

/-! ### The judgement -/
def G (n : Nat) (w0 : World) (fr : Fr) (H : List Ch) (K : Act → World → Prop) : Prop := ∀ a w, Rep n a fr → HeapOk w0 w H → K a w

section
variable {P : Program} {n : Nat} {w0 : World} {fr : Fr} {H : List Ch} {Q : Exit → Act → World → Prop}

theorem G.weak {gr : Fr} {K : Act → World → Prop} (hs : Sub gr fr) (h : G n w0 gr H K) : G n w0 fr H K := fun a w hr hh => h a w (hr.sub hs) hh
theorem G.perm {H' : List Ch} {K : Act → World → Prop} (p : H.Perm H') (h : G n w0 fr H' K) : G n w0 fr H K := fun a w hr hh => h a w hr (hh.perm p)
theorem G.drop (m : Nat) {H' : List Ch} {K : Act → World → Prop} (e : H.drop m = H') (h : G n w0 fr H' K) : G n w0 fr H K := fun a w hr hh => h a w hr (e ▸ hh.drop m)
theorem G.heap {H' : List Ch} {K : Act → World → Prop} (hH : ∀ w, HeapOk w0 w H → HeapOk w0 w H') (h : G n w0 fr H' K) : G n w0 fr H K := fun a w hr hh => h a w hr (hH w hh)
theorem G.toK {K K' : Act → World → Prop} (h : G n w0 fr H K) (hk : ∀ a w, K a w → K' a w) : G n w0 fr H K' := fun a w hr hh => hk a w (h a w hr hh)

/-- Facts that follow of the heap alone. -/
theorem G.know {p : Prop} {K : Act → World → Prop} (hp : ∀ w, HeapOk w0 w H → p) (h : p → G n w0 fr H K) : G n w0 fr H K := fun a w hr hh => h (hp w hh) a w hr hh

/-- The call's beginning. -/
theorem calls_of_G {f : FuncId} {fn : Func} {c : Code} {args : List Value} {w : World} {R : Ending → World → Prop} {H : List Ch} {n : Nat} {fr : Fr}
    (hf : P.funcs[f]? = some fn) (hb : fn.body = some c) (hn : n = args.length + (fn.ntmps - args.length)) (hh : HeapOk w0 w H)
    (hfr : ∀ t v, fget fr t = some v → args[t]? = some v) (h : G n w0 fr H (c.wp P (bodyPost P fn R))) : Calls P f args.toArray w R := by
  refine calls_of_wp hf hb (h _ _ ⟨?_, rfl, ?_, ?_⟩ hh)
  · simp [hn]
  · intro t v hv
    have := hfr t v hv
    have hlt : t < args.length := by
      rcases Nat.lt_or_ge t args.length with h | h
      · exact h
      · rw [List.getElem?_eq_none h] at this; cases this
    rw [Array.getD_eq_getD_getElem?, Array.getElem?_append_left (by simpa using hlt)]
    simp [this]
  · intro t v hv
    have := hfr t v hv
    have hlt : t < args.length := by
      rcases Nat.lt_or_ge t args.length with h | h
      · exact h
      · rw [List.getElem?_eq_none h] at this; cases this
    omega

/-! ### Code -/
theorem G.seq {x y : Code} (h : G n w0 fr H (x.wp P (Exit.then (y.wp P Q) Q))) : G n w0 fr H ((Code.seq x y).wp P Q) := h.toK fun _ _ => wp_seq
theorem G.skip (h : G n w0 fr H (Q .normal)) : G n w0 fr H (Code.skip.wp P Q) := h.toK fun _ _ => wp_skip
theorem G.ret (h : G n w0 fr H (Q .ret)) : G n w0 fr H (Code.ret.wp P Q) := h.toK fun _ _ => wp_ret
theorem G.exit {id : Nat} (h : G n w0 fr H (Q (.exit id))) : G n w0 fr H ((Code.exit id).wp P Q) := h.toK fun _ _ => wp_exit
theorem G.block {id : Nat} {c : Code} (h : G n w0 fr H (c.wp P (Exit.inBlock id Q))) : G n w0 fr H ((Code.block id c).wp P Q) := h.toK fun _ _ => wp_block
theorem G.scope {c : Code} (h : G n w0 fr H (c.wp P (Exit.noGoto Q))) : G n w0 fr H ((Code.scope c).wp P Q) := h.toK fun _ _ => wp_scope_straight
theorem G.cond {c : Operand} {x y : Code} {t : Bool} (hc : opv fr c = some (.bool t)) (ht : t = true → G n w0 fr H (x.wp P Q)) (hf : t = false → G n w0 fr H (y.wp P Q)) : G n w0 fr H ((Code.cond c x y).wp P Q) :=
  fun a w hr hh => wp_cond_split (hr.opv hc) (fun h => ht h a w hr hh) (fun h => hf h a w hr hh)
theorem G.condD {c : Operand} {x y : Code} {p : Prop} [Decidable p] (hc : opv fr c = some (.bool (decide p))) (ht : p → G n w0 fr H (x.wp P Q)) (hf : ¬ p → G n w0 fr H (y.wp P Q)) : G n w0 fr H ((Code.cond c x y).wp P Q) :=
  G.cond hc (fun h => ht (of_decide_eq_true h)) (fun h => hf (of_decide_eq_false h))
theorem G.condT {c : Operand} {x y : Code} (hc : opv fr c = some (.bool true)) (ht : G n w0 fr H (x.wp P Q)) : G n w0 fr H ((Code.cond c x y).wp P Q) := G.cond hc (fun _ => ht) (fun h => by cases h)
theorem G.condF {c : Operand} {x y : Code} (hc : opv fr c = some (.bool false)) (hf : G n w0 fr H (y.wp P Q)) : G n w0 fr H ((Code.cond c x y).wp P Q) := G.cond hc (fun h => by cases h) (fun _ => hf)
theorem G.region {id : Nat} {l : List Oper} (h : G n w0 fr H (wpList P l.toArray Q l)) : G n w0 fr H ((Code.region id l.toArray false).wp P Q) := h.toK fun _ _ => wp_region_lit
theorem G.done {ops : Array Oper} (h : G n w0 fr H (Q .normal)) : G n w0 fr H (wpList P ops Q []) := h
/-- Exits. -/
theorem G.thenN {N : Act → World → Prop} (h : G n w0 fr H N) : G n w0 fr H (Exit.then N Q .normal) := h
theorem G.thenR {N : Act → World → Prop} (h : G n w0 fr H (Q .ret)) : G n w0 fr H (Exit.then N Q .ret) := h
theorem G.thenX {N : Act → World → Prop} {id : Nat} (h : G n w0 fr H (Q (.exit id))) : G n w0 fr H (Exit.then N Q (.exit id)) := h
theorem G.inN {id : Nat} (h : G n w0 fr H (Q .normal)) : G n w0 fr H (Exit.inBlock id Q .normal) := h
theorem G.inR {id : Nat} (h : G n w0 fr H (Q .ret)) : G n w0 fr H (Exit.inBlock id Q .ret) := h
theorem G.inX {id : Nat} (h : G n w0 fr H (Q .normal)) : G n w0 fr H (Exit.inBlock id Q (.exit id)) := by
  intro a w hr hh; simp only [Exit.inBlock, if_true]; exact h a w hr hh
theorem G.inY {id id' : Nat} (hne : Nat.beq id' id = false) (h : G n w0 fr H (Q (.exit id'))) : G n w0 fr H (Exit.inBlock id Q (.exit id')) := by
  intro a w hr hh; simp only [Exit.inBlock]; rw [if_neg (by rintro rfl; simp at hne)]; exact h a w hr hh

/-- A loop: 'ι' is the round's state. -/
theorem G.loop {ι : Type} {c : Code} (frI : ι → Fr) (HI : ι → List Ch) (pI : ι → Prop) (μ : ι → Nat) (i0 : ι) (hp : pI i0) (hs : Sub (frI i0) fr) (m : Nat) (hH : H.drop m = HI i0)
    (round : ∀ i, pI i → G n w0 (frI i) (HI i) (c.wp P (Exit.then (fun a' w' => ∃ i', pI i' ∧ μ i' < μ i ∧ Rep n a' (frI i') ∧ HeapOk w0 w' (HI i')) Q))) :
    G n w0 fr H ((Code.loop c).wp P Q) := by
  intro a w hr hh
  refine wp_loop_ghost (fun k a w => ∃ i, pI i ∧ μ i = k ∧ Rep n a (frI i) ∧ HeapOk w0 w (HI i)) (μ i0) ⟨i0, hp, rfl, hr.sub hs, hH ▸ hh.drop m⟩ ?_
  rintro k a w ⟨i, hpi, rfl, hri, hhi⟩
  refine wp_mono (round i hpi a w hri hhi) fun e a' w' hq => ?_
  cases e with
  | normal =>
    obtain ⟨i', h1, h2, h3, h4⟩ := hq
    exact ⟨μ i', h2, i', h1, rfl, h3, h4⟩
  | exit id => exact hq
  | goto l => exact hq
  | ret => exact hq
  | panic ch => exact hq
  | outgrown => exact hq

theorem G.back {ι : Type} {frI : ι → Fr} {HI : ι → List Ch} {pI : ι → Prop} {μ : ι → Nat} {M : Nat} (i' : ι) (hp : pI i') (hμ : μ i' < M) (hs : Sub (frI i') fr) (m : Nat) (hH : H.drop m = HI i') :
    G n w0 fr H (Exit.then (fun a' w' => ∃ i', pI i' ∧ μ i' < M ∧ Rep n a' (frI i') ∧ HeapOk w0 w' (HI i')) Q .normal) :=
  fun _ _ hr hh => ⟨i', hp, hμ, hr.sub hs, hH ▸ hh.drop m⟩

/-! ### The end of a body -/
theorem G.retV {fn : Func} {R : Ending → World → Prop} {t : Nat} {v : Value} (hres : fn.results = #[.tmp t]) (hv : fget fr t = some v) (h : ∀ w, HeapOk w0 w H → R (.returned v) w) : G n w0 fr H (bodyPost P fn R .ret) :=
  fun a w hr hh => ⟨hr.defs, v, by rw [← hr.val t v hv]; exact results_tmp hres _ _ _, h w hh⟩
theorem G.retV2 {fn : Func} {R : Ending → World → Prop} {t u : Nat} {v x : Value} (hres : fn.results = #[.tmp t, .tmp u]) (hv : fget fr t = some v) (hx : fget fr u = some x) (h : ∀ w, HeapOk w0 w H → R (.returned (.tuple #[v, x])) w) : G n w0 fr H (bodyPost P fn R .ret) :=
  fun a w hr hh => ⟨hr.defs, _, by rw [← hr.val t v hv, ← hr.val u x hx]; exact results_tmp2 hres _ _ _, h w hh⟩
theorem G.endV0 {fn : Func} {R : Ending → World → Prop} (hres : fn.results = #[]) (h : ∀ w, HeapOk w0 w H → R (.returned (.tuple #[])) w) : G n w0 fr H (bodyPost P fn R .normal) :=
  fun a w hr hh => ⟨hr.defs, _, results_none hres _ _ _, h w hh⟩
theorem G.retV0 {fn : Func} {R : Ending → World → Prop} (hres : fn.results = #[]) (h : ∀ w, HeapOk w0 w H → R (.returned (.tuple #[])) w) : G n w0 fr H (bodyPost P fn R .ret) :=
  fun a w hr hh => ⟨hr.defs, _, results_none hres _ _ _, h w hh⟩

/-! ### One operation -/
def okUpon (P : Program) (K : Value → World → Prop) : Result Next → Prop
  | .ok (.value v) w' => K v w'
  | .ok .skip w' => K undef w'
  | .ok (.enter f args) w' => Calls P f args w' fun e w'' => ∃ v, e = .returned v ∧ K v w''
  | _ => False
def okAt (P : Program) (o : Oper) (a : Act) (w : World) (K : Value → World → Prop) : Prop := okUpon P K ((execOp a.eval o).run P w)

theorem wp_of_okAt {o : Oper} {a : Act} {w : World} {K : Act → World → Prop} (h : okAt P o a w fun v w' => K (a.put o.dst v) w') : o.wp P a w K Q := by
  unfold okAt at h
  unfold Oper.wp
  generalize (execOp a.eval o).run P w = r at *
  cases r with
  | ok x w' =>
    cases x <;> simp only [okUpon] at h <;> simp only [Oper.upon]
    case value v => exact h
    case skip => exact h
    case enter f args => exact h.mono fun e w'' ⟨v, he, hv⟩ => by subst he; exact hv
  | halt x w' => simp only [okUpon] at h

/-- What an operation does: its value and its chunks hang on some x of which φ holds. -/
def OpG (P : Program) (n : Nat) (w0 : World) (fr : Fr) (H : List Ch) (o : Op) {X : Type} (φ : X → Prop) (val : X → Value) (H' : X → List Ch) : Prop :=
  ∀ a w, Rep n a fr → HeapOk w0 w H → ∀ (d : Option Tmp) (T : TypeId) (pos : String) (af : Array Edge) (gd : Option (Nat × Bool)) (K : Value → World → Prop),
    (∀ x w', φ x → HeapOk w0 w' (H' x) → K (val x) w') → okAt P ⟨d, o, T, pos, af, gd⟩ a w K

theorem G.op {ops : Array Oper} {d : Nat} {o : Op} {T : TypeId} {pos : String} {af : Array Edge} {rest : List Oper} {X : Type} {φ : X → Prop} {val : X → Value} {H' : X → List Ch} (ho : OpG P n w0 fr H o φ val H') (hd : Nat.ble (d + 1) n = true)
    (h : ∀ x, φ x → G n w0 ((d, val x) :: fr) (H' x) (wpList P ops Q rest)) : G n w0 fr H (wpList P ops Q (⟨some d, o, T, pos, af, none⟩ :: rest)) :=
  fun a w hr hh => wpList_plain rfl fun K hK => wp_of_okAt (ho a w hr hh _ _ _ _ _ _ fun x w' hx hw => hK _ _ (h x hx _ _ (hr.put (Nat.le_of_ble_eq_true hd) _) hw))
theorem G.op0 {ops : Array Oper} {o : Op} {T : TypeId} {pos : String} {af : Array Edge} {rest : List Oper} {X : Type} {φ : X → Prop} {val : X → Value} {H' : X → List Ch} (ho : OpG P n w0 fr H o φ val H')
    (h : ∀ x, φ x → G n w0 fr (H' x) (wpList P ops Q rest)) : G n w0 fr H (wpList P ops Q (⟨none, o, T, pos, af, none⟩ :: rest)) :=
  fun a w hr hh => wpList_plain rfl fun K hK => wp_of_okAt (ho a w hr hh _ _ _ _ _ _ fun x w' hx hw => hK _ _ (h x hx _ _ (hr.put_none _) hw))
def Triv {X : Type} (_ : X) : Prop := True

/-! ### One operation that leaves the world alone -/
/-- The operation's run gives v, and leaves the world as it is. -/
def RunsV (P : Program) (n : Nat) (w0 : World) (fr : Fr) (H : List Ch) (o : Op) (v : Value) : Prop :=
  ∀ a w, Rep n a fr → HeapOk w0 w H → ∀ (d : Option Tmp) (T : TypeId) (pos : String) (af : Array Edge) (gd : Option (Nat × Bool)), (execOp a.eval ⟨d, o, T, pos, af, gd⟩).run P w = .ok (.value v) w

theorem Oper.wp_value {o : Oper} {a : Act} {w : World} {v : Value} {K : Act → World → Prop} (h : (execOp a.eval o).run P w = .ok (.value v) w) (hk : K (a.put o.dst v) w) : o.wp P a w K Q := by
  unfold Oper.wp; rw [h]; exact hk

theorem G.v {ops : Array Oper} {d : Nat} {o : Op} {T : TypeId} {pos : String} {af : Array Edge} {rest : List Oper} {v : Value} (hv : RunsV P n w0 fr H o v) (hd : Nat.ble (d + 1) n = true)
    (h : G n w0 ((d, v) :: fr) H (wpList P ops Q rest)) : G n w0 fr H (wpList P ops Q (⟨some d, o, T, pos, af, none⟩ :: rest)) :=
  fun a w hr hh => wpList_plain rfl fun K hK => Oper.wp_value (hv a w hr hh _ _ _ _ _) (hK _ _ (h _ _ (hr.put (Nat.le_of_ble_eq_true hd) v) hh))

/-- An operation with a guard that is met. -/
theorem yields {ops : Array Oper} {a : Act} {j t : Nat} {b : Bool} (hr : Rep n a fr) (hj : (ops[j]?).bind (·.dst) = some t) (ht : fget fr t = some (.bool b)) : yielded ops a.tmps j = some b := by
  have h1 := hr.val t _ ht
  have h2 := hr.lt t _ ht
  unfold yielded
  rw [hj]
  have : a.tmps[t]? = some (.bool b) := by
    rw [Array.getD_eq_getD_getElem?, Array.getElem?_eq_getElem (by rw [hr.size]; exact h2)] at h1
    rw [Array.getElem?_eq_getElem (by rw [hr.size]; exact h2)]
    simpa using h1
  simp [this]

theorem yieldsU {ops : Array Oper} {a : Act} {j t : Nat} {vs : Array Value} (hr : Rep n a fr) (hj : (ops[j]?).bind (·.dst) = some t) (ht : fget fr t = some (.tuple vs)) : yielded ops a.tmps j = none := by
  have h1 := hr.val t _ ht
  have h2 := hr.lt t _ ht
  unfold yielded
  rw [hj]
  have : a.tmps[t]? = some (.tuple vs) := by
    rw [Array.getD_eq_getD_getElem?, Array.getElem?_eq_getElem (by rw [hr.size]; exact h2)] at h1
    rw [Array.getElem?_eq_getElem (by rw [hr.size]; exact h2)]
    simpa using h1
  simp [this]

theorem G.gY {ops : Array Oper} {d : Option Tmp} {o : Op} {T : TypeId} {pos : String} {af : Array Edge} {rest : List Oper} {j t : Nat} {b : Bool} (hj : (ops[j]?).bind (·.dst) = some t) (ht : fget fr t = some (.bool b))
    (h : G n w0 fr H (wpList P ops Q (⟨d, o, T, pos, af, none⟩ :: rest))) : G n w0 fr H (wpList P ops Q (⟨d, o, T, pos, af, some (j, b)⟩ :: rest)) := by
  intro a w hr hh
  have := h a w hr hh
  have hw : Region.wanted ⟨d, o, T, pos, af, some (j, b)⟩ (yielded ops a.tmps) = true := by simp [Region.wanted, yields hr hj ht]
  unfold wpList at this ⊢
  rw [if_pos hw]
  rw [if_pos (by simp [Region.wanted])] at this
  exact this

theorem G.gN {ops : Array Oper} {d : Nat} {o : Op} {T : TypeId} {pos : String} {af : Array Edge} {rest : List Oper} {j t : Nat} {b : Bool} (hj : (ops[j]?).bind (·.dst) = some t) (ht : fget fr t = some (.bool !b)) (hd : Nat.ble (d + 1) n = true)
    (h : G n w0 ((d, undef) :: fr) H (wpList P ops Q rest)) : G n w0 fr H (wpList P ops Q (⟨some d, o, T, pos, af, some (j, b)⟩ :: rest)) := by
  intro a w hr hh
  have hw : Region.wanted ⟨some d, o, T, pos, af, some (j, b)⟩ (yielded ops a.tmps) = false := by
    simp [Region.wanted, yields hr hj ht]
  unfold wpList
  rw [if_neg (by rw [hw]; simp)]
  exact h _ _ (hr.put (Nat.le_of_ble_eq_true hd) undef) hh

/-- The test was not asked for itself. -/
theorem G.gU {ops : Array Oper} {d : Nat} {o : Op} {T : TypeId} {pos : String} {af : Array Edge} {rest : List Oper} {j t : Nat} {b : Bool} (hj : (ops[j]?).bind (·.dst) = some t) (ht : fget fr t = some undef) (hd : Nat.ble (d + 1) n = true)
    (h : G n w0 ((d, undef) :: fr) H (wpList P ops Q rest)) : G n w0 fr H (wpList P ops Q (⟨some d, o, T, pos, af, some (j, b)⟩ :: rest)) := by
  intro a w hr hh
  have hw : Region.wanted ⟨some d, o, T, pos, af, some (j, b)⟩ (yielded ops a.tmps) = false := by
    simp [Region.wanted, yieldsU hr hj ht]
  unfold wpList
  rw [if_neg (by rw [hw]; simp)]
  exact h _ _ (hr.put (Nat.le_of_ble_eq_true hd) undef) hh

/-- A test that is not known yet is parted. -/
theorem Rep.know {a : Act} {t : Nat} {u v : Value} (hr : Rep n a fr) (ht : fget fr t = some u) (e : u = v) : Rep n a ((t, v) :: fr) := by
  subst e
  refine ⟨hr.size, hr.defs, fun s x hx => ?_, fun s x hx => ?_⟩
  · rw [fget_cons] at hx
    split at hx
    · rename_i h; subst h; exact (Option.some.inj hx) ▸ hr.val _ _ ht
    · exact hr.val _ _ hx
  · rw [fget_cons] at hx
    split at hx
    · rename_i h; subst h; exact hr.lt _ _ ht
    · exact hr.lt _ _ hx

theorem G.part {t : Nat} {b : Bool} {K : Act → World → Prop} (ht : fget fr t = some (.bool b)) (h1 : b = true → G n w0 ((t, .bool true) :: fr) H K) (h2 : b = false → G n w0 ((t, .bool false) :: fr) H K) : G n w0 fr H K := by
  intro a w hr hh
  cases hb : b with
  | true => exact h1 hb a w (hr.know ht (by rw [hb])) hh
  | false => exact h2 hb a w (hr.know ht (by rw [hb])) hh

/-- The test of a guarded operation. -/
theorem G.gP {ops : Array Oper} {d : Option Tmp} {o : Op} {T : TypeId} {pos : String} {af : Array Edge} {rest : List Oper} {j t : Nat} {g b : Bool} (hj : (ops[j]?).bind (·.dst) = some t) (ht : fget fr t = some (.bool b))
    (h1 : b = true → G n w0 ((t, .bool true) :: fr) H (wpList P ops Q (⟨d, o, T, pos, af, some (j, g)⟩ :: rest))) (h2 : b = false → G n w0 ((t, .bool false) :: fr) H (wpList P ops Q (⟨d, o, T, pos, af, some (j, g)⟩ :: rest))) :
    G n w0 fr H (wpList P ops Q (⟨d, o, T, pos, af, some (j, g)⟩ :: rest)) := G.part ht h1 h2

/-! ### The plain operations -/
theorem rv_move {x : Operand} {v : Value} (hx : opv fr x = some v) : RunsV P n w0 fr H (.move x) v := fun a w hr _ _ _ _ _ _ => by
  simp [execOp, hr.opv hx]
theorem rv_assign {x : Operand} {v : Value} (hx : opv fr x = some v) : RunsV P n w0 fr H (.assign x) v := fun a w hr _ _ _ _ _ _ => by
  simp [execOp, hr.opv hx]
theorem rv_pick {c x y : Operand} {b : Bool} {u v : Value} (hc : opv fr c = some (.bool b)) (hx : b = true → opv fr x = some u) (hy : b = false → opv fr y = some v) : RunsV P n w0 fr H (.pick c x y) (if b then u else v) := fun a w hr _ _ _ _ _ _ => by
  cases b
  · simp [execOp, hr.opv hc, hr.opv (hy rfl), asBool]
  · simp [execOp, hr.opv hc, hr.opv (hx rfl), asBool]
theorem rv_pickT {c x y : Operand} {u : Value} (hc : opv fr c = some (.bool true)) (hx : opv fr x = some u) : RunsV P n w0 fr H (.pick c x y) u := fun a w hr _ _ _ _ _ _ => by
  simp [execOp, hr.opv hc, hr.opv hx, asBool]
theorem rv_pickF {c x y : Operand} {u : Value} (hc : opv fr c = some (.bool false)) (hy : opv fr y = some u) : RunsV P n w0 fr H (.pick c x y) u := fun a w hr _ _ _ _ _ _ => by
  simp [execOp, hr.opv hc, hr.opv hy, asBool]
theorem rv_not {x : Operand} {b : Bool} {t : TypeId} (hx : opv fr x = some (.bool b)) : RunsV P n w0 fr H (.unOp .not t x) (.bool !b) := fun a w hr _ _ _ _ _ _ => by
  simp [execOp, hr.opv hx, Op.unary]
theorem rv_extract {x : Operand} {vs : List Value} {i : Nat} {v : Value} (hx : opv fr x = some (.tuple vs.toArray)) (hi : vs[i]? = some v) : RunsV P n w0 fr H (.extract x i) v := fun a w hr _ _ _ _ _ _ => by
  simp [execOp, hr.opv hx, Instr.extract, hi]
theorem rv_nilCheck {x : Operand} {p : Addr} (hx : opv fr x = some (.pointer (some p))) : RunsV P n w0 fr H (.nilCheck x) (.pointer (some p)) := fun a w hr _ _ _ _ _ _ => by
  simp [execOp, hr.opv hx]
theorem rv_makeFunc {fn : Fn} {fs cs : List Operand} {us vs : List Value} (hf : opvs fr fs = some us) (hc : opvs fr cs = some vs) : RunsV P n w0 fr H (.makeFunc fn fs.toArray cs.toArray) (.func fn us.toArray vs.toArray) := fun a w hr _ _ _ _ _ _ => by
  simp [execOp, Instr.makeFunc, hr.opvs hf, hr.opvs hc]

section ints
variable {x y : Operand} {k : IntKind} {p q : Int} {t t' : TypeId}
theorem rv_add (hx : opv fr x = some (.int k p)) (hy : opv fr y = some (.int k q)) : RunsV P n w0 fr H (.binOp .add t x y t') (.int k (k.wrap (p + q))) := fun a w hr _ _ _ _ _ _ => by
  simp [execOp, hr.opv hx, hr.opv hy, eqGuard_add, binOp_add, Op.intArith]
theorem rv_sub (hx : opv fr x = some (.int k p)) (hy : opv fr y = some (.int k q)) : RunsV P n w0 fr H (.binOp .sub t x y t') (.int k (k.wrap (p - q))) := fun a w hr _ _ _ _ _ _ => by
  simp [execOp, hr.opv hx, hr.opv hy, eqGuard_sub, binOp_sub, Op.intArith]
theorem rv_mul (hx : opv fr x = some (.int k p)) (hy : opv fr y = some (.int k q)) : RunsV P n w0 fr H (.binOp .mul t x y t') (.int k (k.wrap (p * q))) := fun a w hr _ _ _ _ _ _ => by
  simp [execOp, hr.opv hx, hr.opv hy, eqGuard_mul, binOp_mul, Op.intArith]
theorem wrap64_id {m : Int} (h1 : -9223372036854775808 ≤ m) (h2 : m ≤ 9223372036854775807) : IntKind.i64.wrap m = m := IntWalk.i64_in m (by omega)
theorem rv_addB (hx : opv fr x = some (.int .i64 p)) (hy : opv fr y = some (.int .i64 q)) (h1 : -9223372036854775808 ≤ p + q) (h2 : p + q ≤ 9223372036854775807) : RunsV P n w0 fr H (.binOp .add t x y t') (.int .i64 (p + q)) := by
  have := rv_add (P := P) (n := n) (w0 := w0) (H := H) (t := t) (t' := t') hx hy
  rwa [wrap64_id h1 h2] at this
theorem rv_subB (hx : opv fr x = some (.int .i64 p)) (hy : opv fr y = some (.int .i64 q)) (h1 : -9223372036854775808 ≤ p - q) (h2 : p - q ≤ 9223372036854775807) : RunsV P n w0 fr H (.binOp .sub t x y t') (.int .i64 (p - q)) := by
  have := rv_sub (P := P) (n := n) (w0 := w0) (H := H) (t := t) (t' := t') hx hy
  rwa [wrap64_id h1 h2] at this
theorem rv_mulB (hx : opv fr x = some (.int .i64 p)) (hy : opv fr y = some (.int .i64 q)) (h1 : -9223372036854775808 ≤ p * q) (h2 : p * q ≤ 9223372036854775807) : RunsV P n w0 fr H (.binOp .mul t x y t') (.int .i64 (p * q)) := by
  have := rv_mul (P := P) (n := n) (w0 := w0) (H := H) (t := t) (t' := t') hx hy
  rwa [wrap64_id h1 h2] at this
/-- A counter. -/
theorem rv_incr {m : Nat} (hx : opv fr x = some (.int .i64 (m : Int))) (hy : opv fr y = some (.int .i64 1)) (h : m < 9223372036854775807) : RunsV P n w0 fr H (.binOp .add t x y t') (.int .i64 ((m + 1 : Nat) : Int)) := by
  have := rv_addB (P := P) (n := n) (w0 := w0) (H := H) (t := t) (t' := t') hx hy (by omega) (by omega)
  simpa using this
theorem rv_decr {m : Nat} (hx : opv fr x = some (.int .i64 (m : Int))) (hy : opv fr y = some (.int .i64 1)) (h0 : 0 < m) (h : m ≤ 9223372036854775807) : RunsV P n w0 fr H (.binOp .sub t x y t') (.int .i64 ((m - 1 : Nat) : Int)) := by
  have := rv_subB (P := P) (n := n) (w0 := w0) (H := H) (t := t) (t' := t') hx hy (by omega) (by omega)
  rwa [show (m : Int) - 1 = ((m - 1 : Nat) : Int) from by omega] at this
theorem rv_lss (hx : opv fr x = some (.int k p)) (hy : opv fr y = some (.int k q)) : RunsV P n w0 fr H (.binOp .lss t x y t') (.bool (decide (p < q))) := fun a w hr _ _ _ _ _ _ => by
  simp [execOp, hr.opv hx, hr.opv hy, eqGuard_lss, binOp_lss]
theorem rv_leq (hx : opv fr x = some (.int k p)) (hy : opv fr y = some (.int k q)) : RunsV P n w0 fr H (.binOp .leq t x y t') (.bool (decide (p ≤ q))) := fun a w hr _ _ _ _ _ _ => by
  simp [execOp, hr.opv hx, hr.opv hy, eqGuard_leq, binOp_leq]
theorem rv_gtr (hx : opv fr x = some (.int k p)) (hy : opv fr y = some (.int k q)) : RunsV P n w0 fr H (.binOp .gtr t x y t') (.bool (decide (p > q))) := fun a w hr _ _ _ _ _ _ => by
  simp [execOp, hr.opv hx, hr.opv hy, eqGuard_gtr, binOp_gtr]
theorem rv_geq (hx : opv fr x = some (.int k p)) (hy : opv fr y = some (.int k q)) : RunsV P n w0 fr H (.binOp .geq t x y t') (.bool (decide (p ≥ q))) := fun a w hr _ _ _ _ _ _ => by
  simp [execOp, hr.opv hx, hr.opv hy, eqGuard_geq, binOp_geq]
theorem rv_eql (hx : opv fr x = some (.int k p)) (hy : opv fr y = some (.int k q)) : RunsV P n w0 fr H (.binOp .eql t x y t') (.bool (decide (p = q))) := fun a w hr _ _ _ _ _ _ => by
  simp [execOp, hr.opv hx, hr.opv hy, eqGuard_at_int, binOp_eql]; rfl
theorem rv_neq (hx : opv fr x = some (.int k p)) (hy : opv fr y = some (.int k q)) : RunsV P n w0 fr H (.binOp .neq t x y t') (.bool (decide (¬ p = q))) := fun a w hr _ _ _ _ _ _ => by
  simp [execOp, hr.opv hx, hr.opv hy, eqGuard_at_int, binOp_neq, bne]; rfl
theorem rv_quo (hx : opv fr x = some (.int k p)) (hy : opv fr y = some (.int k q)) (h0 : q ≠ 0) : RunsV P n w0 fr H (.binOp .quo t x y t') (.int k (k.wrap (p.tdiv q))) := fun a w hr _ _ _ _ _ _ => by
  simp [execOp, hr.opv hx, hr.opv hy, eqGuard_quo, binOp_quo, Op.intDiv, h0]
theorem rv_rem (hx : opv fr x = some (.int k p)) (hy : opv fr y = some (.int k q)) (h0 : q ≠ 0) : RunsV P n w0 fr H (.binOp .rem t x y t') (.int k (p.tmod q)) := fun a w hr _ _ _ _ _ _ => by
  simp [execOp, hr.opv hx, hr.opv hy, eqGuard_rem, binOp_rem, Op.intDiv, h0]
end ints

/-! ### Pruning a frame; loops -/
/-- The slots 'ks' of a frame, written out. -/
inductive Keep (fr : Fr) : List Nat → Fr → Prop where
  | nil : Keep fr [] []
  | cons {k : Nat} {v : Value} {ks : List Nat} {r : Fr} (h : fget fr k = some v) (hs : Keep fr ks r) : Keep fr (k :: ks) ((k, v) :: r)
theorem Keep.sub {ks : List Nat} {gr : Fr} (h : Keep fr ks gr) : Sub gr fr := by
  induction h with
  | nil => trivial
  | cons h hs ih => exact ⟨h, ih⟩
theorem G.keep {ks : List Nat} {gr : Fr} {K : Act → World → Prop} (hk : Keep fr ks gr) (h : G n w0 gr H K) : G n w0 fr H K := h.weak hk.sub

theorem fget_append : ∀ (a b : Fr) (t : Nat), fget (a ++ b) t = match fget a t with | some v => some v | none => fget b t
  | [], b, t => rfl
  | (k, v) :: r, b, t => by
    rw [List.cons_append, fget_cons, fget_cons]
    split
    · rfl
    · exact fget_append r b t
theorem Sub.append : ∀ {a b : Fr}, Sub a fr → Sub b fr → Sub (a ++ b) fr
  | [], _, _, hb => hb
  | (_, _) :: _, _, ha, hb => ⟨ha.1, Sub.append ha.2 hb⟩

/-- A loop: 'ch': the slots that a round turns; 'ks': those that stay; 'hs': the chunks that a round turns. -/
theorem G.loopK {ι : Type} {c : Code} (ch : ι → Fr) (hs : ι → List Ch) (pI : ι → Prop) (μ : ι → Nat) (i0 : ι) {ks : List Nat} {gr : Fr} {H0 : List Ch} (hk : Keep fr ks gr) (hH : H = hs i0 ++ H0) (hp : pI i0) (hc : Sub (ch i0) fr)
    (round : ∀ i, pI i → G n w0 (ch i ++ gr) (hs i ++ H0) (c.wp P (Exit.then (fun a' w' => ∃ i', pI i' ∧ μ i' < μ i ∧ Rep n a' (ch i' ++ gr) ∧ HeapOk w0 w' (hs i' ++ H0)) Q))) :
    G n w0 fr H ((Code.loop c).wp P Q) :=
  G.loop (fun i => ch i ++ gr) (fun i => hs i ++ H0) pI μ i0 hp (Sub.append hc hk.sub) 0 hH round

theorem G.backK {ι : Type} {ch : ι → Fr} {hs : ι → List Ch} {pI : ι → Prop} {μ : ι → Nat} {M : Nat} {ks : List Nat} {gr : Fr} {H0 : List Ch} (i' : ι) (m : Nat) (hH : H.drop m = hs i' ++ H0) (hk : Keep fr ks gr) (hc : Sub (ch i') fr) (hp : pI i') (hμ : μ i' < M) :
    G n w0 fr H (Exit.then (fun a' w' => ∃ i', pI i' ∧ μ i' < M ∧ Rep n a' (ch i' ++ gr) ∧ HeapOk w0 w' (hs i' ++ H0)) Q .normal) :=
  fun _ _ hr hh => ⟨i', hp, hμ, hr.sub (Sub.append hc hk.sub), hH ▸ hh.drop m⟩

end
end Go.Proofs.YtpmphkcibiimcaaGreat
