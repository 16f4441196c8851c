/-
  Texts of this proof, one behind the other: OrdT, OrdX, OrdY, Rsn, Open, LaidF.
-/
import Derived.Test.YtnfokjlplbbbeaaGreatDoorPkeD
import Derived.Test.YtnfokjlplbbbeaaGreatDoorPkeC
import Derived.Test.YtnfokjlplbbbeaaGreatDoorPkeE
import Derived.Test.YtnfokjlplbbbeaaGreatDoorPkeA
import Derived.ProofKit
import Derived.OpenShut
import Derived.ShutString
import Derived.ChangeOld
import Derived.Deep.Slices
import Derived.Deep.Fields
import Derived.Test.YtnfokjlplbbbeaaGreatDoorRows
import Derived.Test.YtnfokjlplbbbeaaGreatDoorTie
import Derived.Test.YtnfokjlplbbbeaaGreatDoorCards
import Derived.SizedLaws
import Derived.ChangeSame
import Derived.ChangeVars
import Derived.JoinedOf
import Derived.JoinedAt
import Derived.RowKit
import Derived.RowKitTokens
import Derived.LaidLaws
import Derived.LaidHandle
import Derived.LaidMore
import Derived.SevenTiedAt
import Derived.Stop.Joined
import Derived.Stop.LaidErr
import Derived.Lib.LaidTab

/-
  What is read of an order's text is that order.
-/
namespace Go.Proofs.YtnfokjlplbbbeaaGreatDoor
open Go.Lib
def PairM.ns (p : PairM) : List Int := [p.a, p.b]
def TypeM.ns (t : TypeM) : List Int := [t.id, t.w, t.h, t.d, t.tare, t.g, t.cost]
def ItemM.ns (x : ItemM) : List Int := [x.id, x.w, x.h, x.d, x.g, x.cls, x.cnt]
def PalletM.ns (p : PalletM) : List Int := [p.w, p.d, p.h, p.g]
def wayT (r : ReqM) : List UInt8 := if r.way = 1 then wWayN else wWayF
/-- The rows of an order's text behind the first. -/
def rowsT (r : ReqM) : List (List UInt8) :=
  lineT wPallet r.pal.ns :: lineT wClasses [r.classes] :: (r.pairs.map (fun p => lineT wWith p.ns) ++ (r.types.map (fun t => lineT wType t.ns) ++ lineT wMaster [r.master] :: r.items.map (fun x => lineT wItem x.ns)))
def textM (r : ReqM) : List UInt8 := (wayT r :: rowsT r).flatMap (· ++ [10])
structure OkR (r : ReqM) : Prop where
  way : r.way = 0 ∨ r.way = 1
  pal : ∀ n ∈ r.pal.ns, okN n
  cls : okN r.classes
  ps : ∀ p ∈ r.pairs, ∀ n ∈ p.ns, okN n
  ts : ∀ t ∈ r.types, ∀ n ∈ t.ns, okN n
  ms : okN r.master
  its : ∀ x ∈ r.items, ∀ n ∈ x.ns, okN n
theorem parts_rows : ∀ {ls : List (List UInt8)}, (∀ l ∈ ls, (10 : UInt8) ∉ l) → partsM 10 (ls.flatMap (· ++ [10])) = ls ++ [[]]
  | [], _ => rfl
  | l :: ls, h => by
    rw [List.flatMap_cons, List.append_assoc, List.singleton_append, parts_cut _ (h l List.mem_cons_self), parts_rows (fun x hx => h x (List.mem_cons_of_mem _ hx))]; rfl
theorem join_no {b c : UInt8} (hc : c ≠ b) : ∀ {ps : List (List UInt8)}, (∀ p ∈ ps, c ∉ p) → c ∉ joinM b ps
  | [], _ => List.not_mem_nil
  | [p], h => h p List.mem_cons_self
  | p :: q :: r, h => by
    rw [joinM]
    intro hm
    rcases List.mem_append.1 hm with hm | hm
    · exact h p List.mem_cons_self hm
    · rcases List.mem_cons.1 hm with rfl | hm
      · exact hc rfl
      · exact join_no hc (fun x hx => h x (List.mem_cons_of_mem _ hx)) hm
theorem line_no {w : List UInt8} {ns : List Int} (hw : (10 : UInt8) ∉ w) (h : ∀ n ∈ ns, okN n) : (10 : UInt8) ∉ lineT w ns := by
  rw [lineT]
  refine join_no (by decide) (fun p hp => ?_)
  rcases List.mem_cons.1 hp with rfl | hp
  · exact hw
  · obtain ⟨n, hn, rfl⟩ := List.mem_map.1 hp
    exact itoa_no (h n hn) (by decide)
theorem goWith_pairs : ∀ (ps : List PairM) (r : ReqM) (ls : List (List UInt8)), (∀ p ∈ ps, ∀ n ∈ p.ns, okN n) → goWith r (ps.map (fun p => lineT wWith p.ns) ++ ls) = goWith { r with pairs := r.pairs ++ ps } ls
  | [], r, ls, _ => by simp
  | p :: ps, r, ls, h => by
    rw [List.map_cons, List.cons_append, goWith, show wordsM wWith 2 (lineT wWith p.ns) = some p.ns from words_line (by decide) (h p List.mem_cons_self)]
    dsimp only
    rw [goWith_pairs ps _ ls (fun q hq => h q (List.mem_cons_of_mem _ hq))]
    congr 1
    simp [putWith, at0, PairM.ns]
theorem goTypes_types : ∀ (ts : List TypeM) (r : ReqM) (ls : List (List UInt8)), (∀ p ∈ ts, ∀ n ∈ p.ns, okN n) → goTypes r (ts.map (fun t => lineT wType t.ns) ++ ls) = goTypes { r with types := r.types ++ ts } ls
  | [], r, ls, _ => by simp
  | t :: ts, r, ls, h => by
    rw [List.map_cons, List.cons_append, goTypes, show wordsM wType 7 (lineT wType t.ns) = some t.ns from words_line (by decide) (h t List.mem_cons_self)]
    dsimp only
    rw [goTypes_types ts _ ls (fun q hq => h q (List.mem_cons_of_mem _ hq))]
    congr 1
    simp [putType, at0, TypeM.ns]
theorem goItems_items : ∀ (xs : List ItemM) (r : ReqM), (∀ p ∈ xs, ∀ n ∈ p.ns, okN n) → goItems r (xs.map (fun x => lineT wItem x.ns)) = some { r with items := r.items ++ xs }
  | [], r, _ => by rw [List.map_nil, goItems]; simp
  | x :: xs, r, h => by
    rw [List.map_cons, goItems, show wordsM wItem 7 (lineT wItem x.ns) = some x.ns from words_line (by decide) (h x List.mem_cons_self)]
    dsimp only
    rw [goItems_items xs _ (fun q hq => h q (List.mem_cons_of_mem _ hq))]
    congr 1
    simp [putItem, at0, ItemM.ns]
theorem goWith_not {r : ReqM} {l : List UInt8} {ls : List (List UInt8)} (h : wordsM wWith 2 l = none) : goWith r (l :: ls) = goTypes r (l :: ls) := by rw [goWith, h]
theorem goTypes_not {r : ReqM} {l : List UInt8} {ls : List (List UInt8)} (h : wordsM wType 7 l = none) : goTypes r (l :: ls) = goMaster r (l :: ls) := by rw [goTypes, h]
theorem one_ok {n : Int} (h : okN n) : ∀ m ∈ [n], okN m := fun m hm => by rw [List.mem_singleton.1 hm]; exact h
theorem goWay_rows {r : ReqM} (h : OkR r) : goWay (wayT r :: rowsT r) = some r := by
  have hp : ∀ q : ReqM, goPallet q (rowsT r) = some { r with way := q.way, pairs := q.pairs ++ r.pairs, types := q.types ++ r.types, items := q.items ++ r.items } := by
    intro q
    rw [rowsT, goPallet, show wordsM wPallet 4 (lineT wPallet r.pal.ns) = some r.pal.ns from words_line (by decide) h.pal]
    dsimp only
    rw [goClasses, show wordsM wClasses 1 (lineT wClasses [r.classes]) = some [r.classes] from words_line (by decide) (one_ok h.cls)]
    dsimp only
    rw [goWith_pairs _ _ _ h.ps]
    have e : ∀ q2 : ReqM, goWith q2 (r.types.map (fun t => lineT wType t.ns) ++ lineT wMaster [r.master] :: r.items.map (fun x => lineT wItem x.ns)) = goTypes q2 (r.types.map (fun t => lineT wType t.ns) ++ lineT wMaster [r.master] :: r.items.map (fun x => lineT wItem x.ns)) := by
      intro q2
      cases ht : r.types with
      | nil => exact goWith_not (words_ne (by decide) (one_ok h.ms) (by decide))
      | cons t ts => exact goWith_not (words_ne (by decide) (h.ts t (by rw [ht]; exact List.mem_cons_self)) (by decide))
    rw [e, goTypes_types _ _ _ h.ts, goTypes_not (words_ne (by decide) (one_ok h.ms) (by decide)), goMaster, show wordsM wMaster 1 (lineT wMaster [r.master]) = some [r.master] from words_line (by decide) (one_ok h.ms)]
    dsimp only
    rw [goItems_items _ _ h.its]
    simp [putPallet, putClasses, putMaster, at0, PalletM.ns]
  rw [goWay]
  rcases h.way with hw | hw
  · rw [show wayT r = wWayF from by rw [wayT, if_neg (by rw [hw]; decide)], if_pos rfl, hp]
    simp [reqZ, hw.symm]
  · rw [show wayT r = wWayN from by rw [wayT, if_pos hw], if_neg (by decide), if_pos rfl, hp]
    simp [reqZ, hw.symm]
theorem read_text {r : ReqM} (h : OkR r) (hn : (rowsT r).length ≤ 59) : readM (textM r) = some r := by
  have hno : ∀ l ∈ wayT r :: rowsT r, (10 : UInt8) ∉ l := by
    intro l hl
    rcases List.mem_cons.1 hl with rfl | hl
    · rw [wayT]; split <;> decide
    · rw [rowsT] at hl
      simp only [List.mem_cons, List.mem_append, List.mem_map] at hl
      rcases hl with rfl | rfl | ⟨p, hp, rfl⟩ | ⟨t, ht, rfl⟩ | rfl | ⟨x, hx, rfl⟩
      · exact line_no (by decide) h.pal
      · exact line_no (by decide) (one_ok h.cls)
      · exact line_no (by decide) (h.ps p hp)
      · exact line_no (by decide) (h.ts t ht)
      · exact line_no (by decide) (one_ok h.ms)
      · exact line_no (by decide) (h.its x hx)
  have hl : (wayT r :: rowsT r ++ [[]]).length - 1 = (wayT r :: rowsT r).length := by rw [List.length_append, List.length_singleton]; omega
  rw [readM, textM, parts_rows hno]
  rw [hl, if_pos ⟨by simp only [List.length_cons]; omega, by rw [List.getLast?_append]; rfl⟩, List.take_append_of_le_length (Nat.le_refl _), List.take_length, run_way, goWay_rows h]
/-- An order of which nothing is wrong can be told. -/
theorem cls_okR {r : ReqM} (h : classM r = 0) : OkR r ∧ (rowsT r).length ≤ 59 := by
  have hb := cls_sound h
  simp only [boundsOkM, palletOkM, inB, Bool.and_eq_true, decide_eq_true_eq, List.all_eq_true] at hb
  obtain ⟨⟨⟨⟨⟨⟨⟨⟨⟨⟨g1, g2⟩, g3⟩, g4⟩, g5⟩, g6⟩, g7⟩, g8⟩, g9⟩, g10⟩, g11⟩ := hb
  refine ⟨⟨by omega, ?_, by constructor <;> omega, ?_, ?_, by constructor <;> omega, ?_⟩, ?_⟩
  · intro n hn
    simp only [PalletM.ns, List.mem_cons, List.not_mem_nil, or_false] at hn
    rcases hn with rfl | rfl | rfl | rfl <;> constructor <;> omega
  · intro p hp n hn
    have := g5 p hp
    simp only [pairOkM, inB, Bool.and_eq_true, decide_eq_true_eq] at this
    simp only [PairM.ns, List.mem_cons, List.not_mem_nil, or_false] at hn
    rcases hn with rfl | rfl <;> constructor <;> omega
  · intro t ht n hn
    have := g7 t ht
    simp only [typeOkM, inB, Bool.and_eq_true, decide_eq_true_eq] at this
    simp only [TypeM.ns, List.mem_cons, List.not_mem_nil, or_false] at hn
    rcases hn with rfl | rfl | rfl | rfl | rfl | rfl | rfl <;> constructor <;> omega
  · intro x hx n hn
    have := g10 x hx
    simp only [itemOkM, inB, Bool.and_eq_true, decide_eq_true_eq] at this
    simp only [ItemM.ns, List.mem_cons, List.not_mem_nil, or_false] at hn
    rcases hn with rfl | rfl | rfl | rfl | rfl | rfl | rfl <;> constructor <;> omega
  · rw [rowsT]
    simp only [List.length_cons, List.length_append, List.length_map]
    omega
end Go.Proofs.YtnfokjlplbbbeaaGreatDoor

/-
  The text of an order, told by the program.
-/
namespace Go.Proofs.YtnfokjlplbbbeaaGreatDoor
open Go.RowKit Go.Lib
theorem inter_nil : ∀ L : List (List UInt8), ([] : List UInt8).intercalate L = L.flatten
  | [] => rfl
  | [x] => by simp [List.intercalate]
  | x :: y :: r => by
    have := inter_nil (y :: r)
    rw [List.intercalate] at this ⊢
    rw [List.intersperse_cons_cons, List.flatten_cons, List.flatten_cons, this]; rfl
theorem bytes_back (L : List (List UInt8)) : (L.map fun l => (⟨l.toArray⟩ : ByteArray)).map (·.data.toList) = L := by
  rw [List.map_map]; exact (List.map_congr_left (fun l _ => rfl)).trans (List.map_id L)
theorem join_any {v : Value} {L : List (List UInt8)} (hN : L.length ≤ 1000) (hT : L.flatten.length ≤ 1048576) (w : World) (h : Rd w v 1 (L.map scell)) : FnV Tryz.prog 45 [v, sv []] w (sv L.flatten) := by
  obtain ⟨a, cap, rfl, q1, q2, q3⟩ := h.form
  have hlm : (L.map scell).length = L.length := List.length_map ..
  by_cases hL : L = []
  · subst hL
    refine Calls.mono (Go.Proofs.Tryz.strings_Join_none a cap ⟨#[]⟩ w) ?_
    rintro e w' ⟨rfl, rfl⟩
    exact ⟨rfl, HeapOk.refl _⟩
  · have hpos : 0 < (L.map scell).length := by rw [hlm]; exact List.length_pos_iff.2 hL
    obtain ⟨b, o, rfl⟩ := q3 hpos
    have hcell : ∀ (j : Nat) l, L[j]? = some l → w.cell? ⟨b, o + j, none⟩ = some (sv l) := fun j l hl => by
      have := h.cell (get_map hl scell) (c := 0) (u := sv l) rfl
      rw [Nat.mul_one, Nat.add_zero] at this
      exact this
    have hbk : b < w.heap.size := by
      obtain ⟨l, hl⟩ := get_of_lt (l := L) (k := 0) (by rw [hlm] at hpos; exact hpos)
      exact cell_lt (hcell 0 l hl)
    have hj : (L.map fun l => (⟨l.toArray⟩ : ByteArray)).map (·.data.toList) = L := bytes_back L
    have hs : Lib.join ((L.map fun l => (⟨l.toArray⟩ : ByteArray)).map (·.data.toList)) (⟨#[]⟩ : ByteArray).data.toList = L.flatten := by rw [hj]; exact inter_nil L
    have hx : (L.map fun l => (⟨l.toArray⟩ : ByteArray)).length = L.length := List.length_map ..
    have hc := Go.Proofs.Tryz.strings_Join b o cap (L.map fun l => (⟨l.toArray⟩ : ByteArray)) ⟨#[]⟩ w (fun j x hx => by
      rw [List.getElem?_map] at hx
      obtain ⟨l, hl, rfl⟩ := Option.map_eq_some_iff.1 hx
      exact hcell j l hl) hbk (by rw [hx]; omega) (by rw [hx, ← hlm]; exact q1) (by rw [hs]; omega)
    rw [hs, hx] at hc
    rw [hlm]
    refine Calls.mono hc ?_
    rintro e w' ⟨rfl, hb⟩
    exact ⟨rfl, HeapOk.ofBelow hb⟩
/-- A line of the text, with its end. -/
def rowL (wd : List UInt8) (ns : List Int) : List UInt8 := lineT wd ns ++ [10]
attribute [local irreducible] Go.wpList Go.Code.wp Go.Exit.then Go.Exit.inBlock Go.bodyPost Go.Calls pE pB G RunsV FnV Fn FnM
set_option maxRecDepth 100000
set_option maxHeartbeats 4000000
theorem put1_any {w0 : World} {F : List Ch} {gb ob : Nat} {ov lv : Value} {L : List (List UInt8)} {wd : List UInt8} {ns : List Int} (hw : wd.length ≤ 100) (hn : ns.length ≤ 100) (hok : ∀ n ∈ ns, okN n) (hL : L.length ≤ 1000) (hov : ov.oneCell' = true) (ht : TabI w0) (hr : ∀ w, HeapOk w0 w (.blk gb 4 [.bool true] :: .blk ob 63 [ov] :: .row ov 9 1 (L.map scell) :: F) → Rd w lv 1 (ns.map icell)) :
    FnMF Tryz.prog 43 [sv wd, lv, pB gb 0, pB ob 0] w0 [.blk gb 4 [.bool true], .blk ob 63 [ov], .row ov 9 1 (L.map scell)] F (fun x : Value => x.oneCell' = true) (fun _ => .tuple #[]) (fun x => [.blk gb 4 [.bool true], .blk ob 63 [x], .row x 9 1 ((L ++ [rowL wd ns]).map scell)]) := by
  have hLm : (L.map scell).length = L.length := List.length_map ..
  refine FnMF.of (n := 22) Tryz.func43 rfl rfl ?_; refine G.seq (G.region (G.v (rv_move rfl) rfl (G.v (rv_move rfl) rfl ?_))); refine G.op (og_callV rfl rfl (fun w hh => textLine_any hw (by omega) hok w (ht.stays hh) (hr w hh))) rfl (fun _ _ => ?_); refine G.v (rv_move rfl) rfl (G.v (rv_extract rfl rfl) rfl (G.v (rv_extract rfl rfl) rfl (G.v (rv_assign rfl) rfl (G.v (rv_assign rfl) rfl (G.done (G.thenN (G.seq (G.region ?_))))))))
  (first | refine G.v (rv_load1 0 rfl rfl rfl) rfl ?_ | refine G.v (rv_load1 1 rfl rfl rfl) rfl ?_ | refine G.v (rv_load1 2 rfl rfl rfl) rfl ?_ | refine G.v (rv_load1 3 rfl rfl rfl) rfl ?_ | refine G.v (rv_load1 4 rfl rfl rfl) rfl ?_ | refine G.v (rv_load1 5 rfl rfl rfl) rfl ?_ | refine G.v (rv_loadE rfl (by first | exact Rd.stays (by assumption) | exact Rd.owned 0 rfl | exact Rd.owned 1 rfl | exact Rd.owned 2 rfl | exact Rd.owned 3 rfl | exact Rd.owned 4 rfl | exact Rd.owned 5 rfl) (by assumption) rfl) rfl ?_)
  refine G.v (rv_move rfl) rfl ?_
  all_goals (((with_reducible refine G.gP rfl rfl (fun hg => ?_) (fun hg => ?_)) <;> (try exact Bool.noConfusion hg) <;> (first | (refine G.gY rfl rfl ?_; refine G.v (rv_move rfl) rfl ?_) | refine G.gN rfl rfl rfl ?_ | refine G.gU rfl rfl rfl ?_)))
  all_goals ((first | refine G.v (rv_pickT rfl rfl) rfl ?_ | refine G.v (rv_pickF rfl rfl) rfl ?_))
  all_goals ((first | refine G.op0 (og_st0 rfl rfl rfl rfl rfl rfl (.zero (.cons .nil))) (fun _ _ => ?_) | refine G.op0 (og_st1 rfl rfl rfl rfl rfl rfl (.zero (.cons .nil))) (fun _ _ => ?_) | refine G.op0 (og_st2 rfl rfl rfl rfl rfl rfl (.zero (.cons .nil))) (fun _ _ => ?_) | refine G.op0 (og_st3 rfl rfl rfl rfl rfl rfl (.zero (.cons .nil))) (fun _ _ => ?_) | refine G.op0 (og_st4 rfl rfl rfl rfl rfl rfl (.zero (.cons .nil))) (fun _ _ => ?_) | refine G.op0 (og_st5 rfl rfl rfl rfl rfl rfl (.zero (.cons .nil))) (fun _ _ => ?_) | refine G.op0 (og_stE0 rfl rfl rfl (by assumption) rfl rfl rfl rfl (.zero (.cons .nil))) (fun _ _ => ?_) | refine G.op0 (og_stE1 rfl rfl rfl (by assumption) rfl rfl rfl rfl (.zero (.cons .nil))) (fun _ _ => ?_) | refine G.op0 (og_stE2 rfl rfl rfl (by assumption) rfl rfl rfl rfl (.zero (.cons .nil))) (fun _ _ => ?_) | refine G.op0 (og_stE3 rfl rfl rfl (by assumption) rfl rfl rfl rfl (.zero (.cons .nil))) (fun _ _ => ?_) | refine G.op0 (og_stE4 rfl rfl rfl (by assumption) rfl rfl rfl rfl (.zero (.cons .nil))) (fun _ _ => ?_) | refine G.op0 (og_stE5 rfl rfl rfl (by assumption) rfl rfl rfl rfl (.zero (.cons .nil))) (fun _ _ => ?_)))
  all_goals
   refine G.done (G.thenN (G.region ?_))
   (first | refine G.v (rv_load1 0 rfl rfl rfl) rfl ?_ | refine G.v (rv_load1 1 rfl rfl rfl) rfl ?_ | refine G.v (rv_load1 2 rfl rfl rfl) rfl ?_ | refine G.v (rv_load1 3 rfl rfl rfl) rfl ?_ | refine G.v (rv_load1 4 rfl rfl rfl) rfl ?_ | refine G.v (rv_load1 5 rfl rfl rfl) rfl ?_ | refine G.v (rv_loadE rfl (by first | exact Rd.stays (by assumption) | exact Rd.owned 0 rfl | exact Rd.owned 1 rfl | exact Rd.owned 2 rfl | exact Rd.owned 3 rfl | exact Rd.owned 4 rfl | exact Rd.owned 5 rfl) (by assumption) rfl) rfl ?_)
   refine G.v (rv_move rfl) rfl ?_; refine G.op (og_lit rfl (.cons rfl .nil) rfl rfl rfl rfl rfl rfl) rfl (fun vl _ => ?_)
   (first | refine G.op (og_app0 rfl rfl rfl (by first | exact Rd.stays (by assumption) | exact Rd.owned 0 rfl | exact Rd.owned 1 rfl | exact Rd.owned 2 rfl | exact Rd.owned 3 rfl | exact Rd.owned 4 rfl | exact Rd.owned 5 rfl) rfl rfl (by first | (simp; done) | (simp; omega)) (by first | (simp; done) | (simp; omega))) rfl (fun va _ => ?_) | refine G.op (og_app1 rfl rfl rfl (by first | exact Rd.stays (by assumption) | exact Rd.owned 0 rfl | exact Rd.owned 1 rfl | exact Rd.owned 2 rfl | exact Rd.owned 3 rfl | exact Rd.owned 4 rfl | exact Rd.owned 5 rfl) rfl rfl (by first | (simp; done) | (simp; omega)) (by first | (simp; done) | (simp; omega))) rfl (fun va _ => ?_) | refine G.op (og_app2 rfl rfl rfl (by first | exact Rd.stays (by assumption) | exact Rd.owned 0 rfl | exact Rd.owned 1 rfl | exact Rd.owned 2 rfl | exact Rd.owned 3 rfl | exact Rd.owned 4 rfl | exact Rd.owned 5 rfl) rfl rfl (by first | (simp; done) | (simp; omega)) (by first | (simp; done) | (simp; omega))) rfl (fun va _ => ?_) | refine G.op (og_app3 rfl rfl rfl (by first | exact Rd.stays (by assumption) | exact Rd.owned 0 rfl | exact Rd.owned 1 rfl | exact Rd.owned 2 rfl | exact Rd.owned 3 rfl | exact Rd.owned 4 rfl | exact Rd.owned 5 rfl) rfl rfl (by first | (simp; done) | (simp; omega)) (by first | (simp; done) | (simp; omega))) rfl (fun va _ => ?_) | refine G.op (og_app4 rfl rfl rfl (by first | exact Rd.stays (by assumption) | exact Rd.owned 0 rfl | exact Rd.owned 1 rfl | exact Rd.owned 2 rfl | exact Rd.owned 3 rfl | exact Rd.owned 4 rfl | exact Rd.owned 5 rfl) rfl rfl (by first | (simp; done) | (simp; omega)) (by first | (simp; done) | (simp; omega))) rfl (fun va _ => ?_) | refine G.op (og_app5 rfl rfl rfl (by first | exact Rd.stays (by assumption) | exact Rd.owned 0 rfl | exact Rd.owned 1 rfl | exact Rd.owned 2 rfl | exact Rd.owned 3 rfl | exact Rd.owned 4 rfl | exact Rd.owned 5 rfl) rfl rfl (by first | (simp; done) | (simp; omega)) (by first | (simp; done) | (simp; omega))) rfl (fun va _ => ?_))
   refine G.know (fun w hw => by first | exact (Rd.owned 0 rfl (v := va) w hw).one_ | exact (Rd.owned 1 rfl (v := va) w hw).one_ | exact (Rd.owned 2 rfl (v := va) w hw).one_ | exact (Rd.owned 3 rfl (v := va) w hw).one_ | exact (Rd.owned 4 rfl (v := va) w hw).one_) (fun hova => ?_)
   (first | refine G.op0 (og_st0 rfl rfl rfl (cells_one (by first | rfl | assumption)) rfl (by repeat (first | rfl | refine one_cons (by first | rfl | assumption) ?_)) (.zero (.cons .nil))) (fun _ _ => ?_) | refine G.op0 (og_st1 rfl rfl rfl (cells_one (by first | rfl | assumption)) rfl (by repeat (first | rfl | refine one_cons (by first | rfl | assumption) ?_)) (.zero (.cons .nil))) (fun _ _ => ?_) | refine G.op0 (og_st2 rfl rfl rfl (cells_one (by first | rfl | assumption)) rfl (by repeat (first | rfl | refine one_cons (by first | rfl | assumption) ?_)) (.zero (.cons .nil))) (fun _ _ => ?_) | refine G.op0 (og_st3 rfl rfl rfl (cells_one (by first | rfl | assumption)) rfl (by repeat (first | rfl | refine one_cons (by first | rfl | assumption) ?_)) (.zero (.cons .nil))) (fun _ _ => ?_) | refine G.op0 (og_st4 rfl rfl rfl (cells_one (by first | rfl | assumption)) rfl (by repeat (first | rfl | refine one_cons (by first | rfl | assumption) ?_)) (.zero (.cons .nil))) (fun _ _ => ?_) | refine G.op0 (og_st5 rfl rfl rfl (cells_one (by first | rfl | assumption)) rfl (by repeat (first | rfl | refine one_cons (by first | rfl | assumption) ?_)) (.zero (.cons .nil))) (fun _ _ => ?_) | refine G.op0 (og_stE0 rfl rfl rfl (by assumption) (cells_one (by first | rfl | assumption)) rfl (by repeat (first | rfl | refine one_cons (by first | rfl | assumption) ?_)) rfl (.zero (.cons .nil))) (fun _ _ => ?_) | refine G.op0 (og_stE1 rfl rfl rfl (by assumption) (cells_one (by first | rfl | assumption)) rfl (by repeat (first | rfl | refine one_cons (by first | rfl | assumption) ?_)) rfl (.zero (.cons .nil))) (fun _ _ => ?_) | refine G.op0 (og_stE2 rfl rfl rfl (by assumption) (cells_one (by first | rfl | assumption)) rfl (by repeat (first | rfl | refine one_cons (by first | rfl | assumption) ?_)) rfl (.zero (.cons .nil))) (fun _ _ => ?_) | refine G.op0 (og_stE3 rfl rfl rfl (by assumption) (cells_one (by first | rfl | assumption)) rfl (by repeat (first | rfl | refine one_cons (by first | rfl | assumption) ?_)) rfl (.zero (.cons .nil))) (fun _ _ => ?_) | refine G.op0 (og_stE4 rfl rfl rfl (by assumption) (cells_one (by first | rfl | assumption)) rfl (by repeat (first | rfl | refine one_cons (by first | rfl | assumption) ?_)) rfl (.zero (.cons .nil))) (fun _ _ => ?_) | refine G.op0 (og_stE5 rfl rfl rfl (by assumption) (cells_one (by first | rfl | assumption)) rfl (by repeat (first | rfl | refine one_cons (by first | rfl | assumption) ?_)) rfl (.zero (.cons .nil))) (fun _ _ => ?_))
   refine G.done ?_
   ((first | refine G.frontR0 va rfl ?_ | refine G.frontR1 va rfl ?_ | refine G.frontR2 va rfl ?_ | refine G.frontR3 va rfl ?_ | refine G.frontR4 va rfl ?_ | refine G.frontR5 va rfl ?_ | refine G.frontR6 va rfl ?_ | refine G.frontR7 va rfl ?_ | refine G.frontR8 va rfl ?_ | refine G.frontR9 va rfl ?_ | refine G.frontR10 va rfl ?_ | refine G.frontR11 va rfl ?_ | refine G.frontR12 va rfl ?_ | refine G.frontR13 va rfl ?_); refine G.rowEq ((L ++ [rowL wd ns]).map scell) (List.map_append (f := scell) (l₁ := L) (l₂ := [rowL wd ns])).symm rfl ?_; (first | refine G.frontB0 ob rfl ?_ | refine G.frontB1 ob rfl ?_ | refine G.frontB2 ob rfl ?_ | refine G.frontB3 ob rfl ?_ | refine G.frontB4 ob rfl ?_ | refine G.frontB5 ob rfl ?_ | refine G.frontB6 ob rfl ?_ | refine G.frontB7 ob rfl ?_ | refine G.frontB8 ob rfl ?_ | refine G.frontB9 ob rfl ?_ | refine G.frontB10 ob rfl ?_ | refine G.frontB11 ob rfl ?_ | refine G.frontB12 ob rfl ?_ | refine G.frontB13 ob rfl ?_); (first | refine G.frontB0 gb rfl ?_ | refine G.frontB1 gb rfl ?_ | refine G.frontB2 gb rfl ?_ | refine G.frontB3 gb rfl ?_ | refine G.frontB4 gb rfl ?_ | refine G.frontB5 gb rfl ?_ | refine G.frontB6 gb rfl ?_ | refine G.frontB7 gb rfl ?_ | refine G.frontB8 gb rfl ?_ | refine G.frontB9 gb rfl ?_ | refine G.frontB10 gb rfl ?_ | refine G.frontB11 gb rfl ?_ | refine G.frontB12 gb rfl ?_ | refine G.frontB13 gb rfl ?_); exact G.endF0 va hova rfl rfl (fun w hw => hw.sublist (by repeat (first | exact List.Sublist.refl _ | refine List.Sublist.cons_cons _ ?_ | refine List.Sublist.cons _ ?_))))
end Go.Proofs.YtnfokjlplbbbeaaGreatDoor

/-
  The text of an order, told by the program: the whole.
-/
namespace Go.Proofs.YtnfokjlplbbbeaaGreatDoor
open Go.RowKit Go.Lib
theorem take_snocO {α : Type} {X : List (List UInt8)} {f : α → List UInt8} {l : List α} {k : Nat} {b : α} (h : l[k]? = some b) : (X ++ (l.take k).map f) ++ [f b] = X ++ (l.take (k + 1)).map f := by
  rw [List.take_add_one, h, List.map_append, List.append_assoc]; rfl
theorem flat_le : ∀ {L : List (List UInt8)}, (∀ x ∈ L, x.length ≤ 1000) → L.flatten.length ≤ 1000 * L.length
  | [], _ => Nat.zero_le _
  | x :: L, h => by
    have h1 := h x List.mem_cons_self
    have h2 := flat_le (fun y hy => h y (List.mem_cons_of_mem _ hy))
    rw [List.flatten_cons, List.length_append, List.length_cons]; omega
theorem rowL_len {wd : List UInt8} {ns : List Int} (hw : wd.length ≤ 100) (hn : ns.length ≤ 100) (h : ∀ n ∈ ns, okN n) : (rowL wd ns).length ≤ 1000 := by
  have h1 := tail_len h
  rw [rowL, lineT_tail, List.length_append, List.length_append, List.length_singleton]; omega
def wayL (r : ReqM) : List UInt8 := wayT r ++ [10]
def fP (p : PairM) : List UInt8 := rowL wWith p.ns
def fT (t : TypeM) : List UInt8 := rowL wType t.ns
def fI (x : ItemM) : List UInt8 := rowL wItem x.ns
def X0 (r : ReqM) : List (List UInt8) := ([wayL r] ++ [rowL wPallet r.pal.ns]) ++ [rowL wClasses [r.classes]]
def X1 (r : ReqM) : List (List UInt8) := X0 r ++ r.pairs.map fP
def X2 (r : ReqM) : List (List UInt8) := (X1 r ++ r.types.map fT) ++ [rowL wMaster [r.master]]
def X3 (r : ReqM) : List (List UInt8) := X2 r ++ r.items.map fI
theorem X3_text (r : ReqM) : (X3 r).flatten = textM r := by
  simp [X3, X2, X1, X0, textM, rowsT, wayL, rowL, fP, fT, fI, List.flatMap_map, List.flatMap_def, List.map_map, Function.comp_def]
  rfl
theorem X3_len (r : ReqM) : (X3 r).length = (rowsT r).length + 1 := by
  simp [X3, X2, X1, X0, rowsT]
theorem X3_each {r : ReqM} (h : OkR r) : ∀ x ∈ X3 r, x.length ≤ 1000 := by
  have hone : ∀ {z : Int}, okN z → ∀ n ∈ [z], okN n := fun hz n hn => by rw [List.mem_singleton.1 hn]; exact hz
  intro x hx
  simp only [X3, X2, X1, X0, List.mem_append, List.mem_singleton, List.mem_map] at hx
  rcases hx with ((((((rfl | rfl) | rfl) | ⟨p, hp, rfl⟩) | ⟨p, hp, rfl⟩) | rfl) | ⟨p, hp, rfl⟩)
  · rw [wayL, wayT]; split <;> decide
  · exact rowL_len (by decide) (by simp [PalletM.ns]) h.pal
  · exact rowL_len (by decide) (by simp) (hone h.cls)
  · exact rowL_len (by decide) (by simp [PairM.ns]) (h.ps p hp)
  · exact rowL_len (by decide) (by simp [TypeM.ns]) (h.ts p hp)
  · exact rowL_len (by decide) (by simp) (hone h.ms)
  · exact rowL_len (by decide) (by simp [ItemM.ns]) (h.its p hp)
theorem one_okO {z : Int} (h : okN z) : ∀ n ∈ [z], okN n := fun n hn => by rw [List.mem_singleton.1 hn]; exact h
theorem G.keep3O {n : Nat} {w0 : World} {fr : Fr} {H : List Ch} (m : Nat) {c1 c2 c3 : Ch} {J : List Ch} {K : Act → World → Prop} (hH : H = c1 :: c2 :: c3 :: J) (h : G n w0 fr (c1 :: c2 :: c3 :: J.drop m) K) : G n w0 fr H K := G.heap (fun w hh => by subst hH; exact hh.sublist (List.Sublist.cons_cons _ (List.Sublist.cons_cons _ (List.Sublist.cons_cons _ (List.drop_sublist m J))))) h
attribute [local irreducible] Go.wpList Go.Code.wp Go.Exit.then Go.Exit.inBlock Go.bodyPost Go.Calls pE pB G RunsV FnV Fn FnM
set_option maxRecDepth 100000
set_option maxHeartbeats 4000000
theorem orderText_any {r : ReqM} {pv tv iv : Value} (hk : OkR r) (hn : (rowsT r).length ≤ 59) (w : World) (ht : TabI w) (h : Rd w pv 2 (r.pairs.map PairM.cells)) (h2 : Rd w tv 7 (r.types.map TypeM.cells)) (h3 : Rd w iv 7 (r.items.map ItemM.cells)) : FnV Tryz.prog 16 [.agg (r.cells pv tv iv).toArray] w (sv (textM r)) := by
  have hX3 := X3_text r
  have hXl := X3_len r
  have hXe := flat_le (X3_each hk)
  have hov1 := h.one_
  have hov2 := h2.one_
  have hov3 := h3.one_
  have hlr : (rowsT r).length = r.pairs.length + r.types.length + r.items.length + 3 := (by simp [rowsT]; omega)
  obtain ⟨hway, hpal, hcls, hps, hts, hms, hits⟩ := id hk
  have hX0 : X0 r = ([wayL r] ++ [rowL wPallet r.pal.ns]) ++ [rowL wClasses [r.classes]] := rfl
  have hX1 : X1 r = X0 r ++ r.pairs.map fP := rfl
  have hX2 : X2 r = (X1 r ++ r.types.map fT) ++ [rowL wMaster [r.master]] := rfl
  have hX3e : X3 r = X2 r ++ r.items.map fI := rfl
  have hwl : wayL r = (if r.way = 1 then wWayN else wWayF) ++ [10] := rfl
  generalize hW : wayL r = W at hX0 hwl
  generalize textM r = TX at hX3
  generalize hV0 : X0 r = V0 at hX0 hX1
  generalize hV1 : X1 r = V1 at hX1 hX2
  generalize hV2 : X2 r = V2 at hX2 hX3e
  generalize hV3 : X3 r = V3 at hX3 hXl hXe hX3e
  obtain ⟨wy, ⟨pw, pd, ph, pg⟩, cl, ps, ts, ms, its⟩ := r
  clear hV0 hV1 hV2 hV3 hW hk
  dsimp only at h h2 h3 hway hpal hcls hps hts hms hits hX0 hX1 hX2 hX3e hwl hlr
  have hpsm : (ps.map PairM.cells).length = ps.length := List.length_map ..
  have htsm : (ts.map TypeM.cells).length = ts.length := List.length_map ..
  have hism : (its.map ItemM.cells).length = its.length := List.length_map ..
  have hl0 : V0.length = 3 := (by rw [hX0]; rfl)
  have hl1 : V1.length = 3 + ps.length := (by rw [hX1, List.length_append, List.length_map, hl0])
  have hl2 : V2.length = 3 + ps.length + ts.length + 1 := (by rw [hX2, List.length_append, List.length_append, List.length_map, hl1]; rfl)
  obtain ⟨u, rfl, hu2⟩ : ∃ u : Nat, wy = (u : Int) ∧ u ≤ 1 := ⟨wy.toNat, by omega, by omega⟩
  have hew : ([wWayF ++ [10], wWayN ++ [10]].map scell)[u]? = some (scell W) := (by rcases hway with e | e; (have e2 : u = 0 := (by omega); subst e2; rw [hwl, if_neg (by omega)]; rfl); (have e2 : u = 1 := (by omega); subst e2; rw [hwl, if_pos (by omega)]; rfl))
  have hinw : inB (u : Int) 0 1 = true := (by simp only [inB, Bool.and_eq_true, decide_eq_true_eq]; omega)
  refine FnV.of (n := 119) Tryz.func16 rfl rfl ?_
  dsimp only [ReqM.cells]
  refine G.seq (G.region ?_); refine G.op (og_box rfl rfl) rfl (fun bk1 _ => ?_); refine G.v (rv_assign rfl) rfl (G.done (G.thenN (G.seq (G.region ?_)))); refine G.op (og_lit rfl (.cons rfl (.cons rfl .nil)) rfl rfl rfl rfl rfl rfl) rfl (fun wv _ => ?_); refine G.rowEq ([wWayF ++ [10], wWayN ++ [10]].map scell) rfl rfl ?_; refine G.v (rv_assign rfl) rfl (G.done (G.thenN (G.seq (G.seq (G.region (G.v (rv_field rfl) rfl (G.v (rv_load1 1 rfl rfl rfl) rfl ?_))))))); refine G.op (og_callV rfl rfl (fun w hh => in_any (u : Int) 0 1 w)) rfl (fun _ _ => ?_); refine G.v (rv_not rfl) rfl (G.done (G.thenN ?_)); refine G.cond rfl (fun hc => ?_) (fun hc => ?_)
  · try exact Bool.noConfusion hc
    all_goals
     try replace hc := of_decide_eq_true hc
     try (exfalso; contradiction)
     all_goals
      exfalso; rw [hinw] at hc; cases hc
  · try exact Bool.noConfusion hc
    all_goals
     try replace hc := of_decide_eq_false hc
     try (exfalso; contradiction)
     all_goals
      refine G.skip (G.thenN (G.seq (G.region (G.v (rv_move rfl) rfl (G.v (rv_field rfl) rfl (G.v (rv_load1 1 rfl rfl rfl) rfl ?_)))))); refine G.v (rv_indexH (k := u) rfl rfl (by exact Rd.owned 0 rfl) rfl hew) rfl ?_; refine G.v (rv_loadE rfl (by exact Rd.owned 0 rfl) (by exact hew) rfl) rfl ?_; refine G.op (og_lit rfl (.cons rfl .nil) rfl rfl rfl rfl rfl rfl) rfl (fun ov0 _ => ?_); refine G.know (fun w hw => by exact (Rd.owned 0 rfl (v := ov0) w hw).one_) (fun ho0 => ?_); refine G.frontR0 ov0 rfl ?_; refine G.rowEq ([W].map scell) rfl rfl ?_; refine G.op (og_alloc) rfl (fun bk4 _ => ?_); refine G.op0 (og_st0 rfl rfl rfl (cells_one (by assumption)) rfl (by repeat (first | rfl | refine one_cons (by assumption) ?_)) (.zero (.cons .nil))) (fun _ _ => ?_); refine G.done (G.thenN (G.seq (G.region ?_))); refine G.op (og_alloc) rfl (fun bk5 _ => ?_); refine G.op0 (og_st0 rfl rfl rfl rfl rfl rfl (.zero (.cons .nil))) (fun _ _ => ?_); refine G.done (G.thenN (G.seq (G.region (G.v (rv_makeFunc rfl rfl) rfl (G.v (rv_assign rfl) rfl (G.done (G.thenN (G.seq (G.region (G.v (rv_move rfl) rfl (G.v (rv_field rfl) rfl ?_))))))))))); refine G.v (rv_field rfl) rfl (G.v (rv_load1 4 rfl rfl rfl) rfl (G.v (rv_field rfl) rfl (G.v (rv_field rfl) rfl (G.v (rv_load1 4 rfl rfl rfl) rfl ?_))))
      refine G.v (rv_field rfl) rfl (G.v (rv_field rfl) rfl (G.v (rv_load1 4 rfl rfl rfl) rfl (G.v (rv_field rfl) rfl (G.v (rv_field rfl) rfl (G.v (rv_load1 4 rfl rfl rfl) rfl ?_))))); refine G.op (og_lit rfl (.cons rfl (.cons rfl (.cons rfl (.cons rfl .nil)))) rfl rfl rfl rfl rfl rfl) rfl (fun lv1 _ => ?_)
      (refine G.frontR3 (ov0) rfl ?_); (refine G.frontB3 (bk4) rfl ?_); (refine G.frontB3 (bk5) rfl ?_); refine G.op (og_callMM3 rfl rfl rfl (put1_any (L := [W]) (wd := wPallet) (ns := [pw, pd, ph, pg]) (by decide) (by simp) hpal (by simp only [List.length_append, List.length_map, List.length_take, List.length_cons, List.length_nil]; omega) (by assumption) ht (fun w hh => by exact Rd.owned 3 rfl (v := lv1) w hh))) rfl ?_; rintro ov1 ho_ov1; try dsimp only
      refine G.done (G.thenN (G.seq (G.region (G.v (rv_move rfl) rfl (G.v (rv_field rfl) rfl (G.v (rv_load1 5 rfl rfl rfl) rfl ?_)))))); refine G.op (og_lit rfl (.cons rfl .nil) rfl rfl rfl rfl rfl rfl) rfl (fun lv2 _ => ?_)
      (refine G.frontR3 (ov1) rfl ?_); (refine G.frontB3 (bk4) rfl ?_); (refine G.frontB3 (bk5) rfl ?_); refine G.op (og_callMM3 rfl rfl rfl (put1_any (L := [W] ++ [rowL wPallet [pw, pd, ph, pg]]) (wd := wClasses) (ns := [cl]) (by decide) (by simp) (one_okO hcls) (by simp only [List.length_append, List.length_map, List.length_take, List.length_cons, List.length_nil]; omega) (by assumption) ht (fun w hh => by exact Rd.owned 3 rfl (v := lv2) w hh))) rfl ?_; rintro ov2 ho_ov2; try dsimp only
      refine G.done (G.thenN (G.seq (G.seq (G.region (G.v (rv_field rfl) rfl (G.v (rv_load1 6 rfl rfl rfl) rfl ?_)))))); refine G.v (rv_len rfl (by exact Rd.stays (by assumption))) rfl ?_; refine G.v (rv_move rfl) rfl (G.done (G.thenN (G.block ?_)))
      -- loop 0: turned [48], kept [1, 4, 5, 6, 46, 47]
      refine G.frontR2 ov2 rfl ?_; refine G.rowEq ((V0 ++ (ps.take 0).map fP).map scell) (congrArg (List.map scell) (by rw [hX0]; rfl)) rfl ?_; refine G.frontB2 bk4 rfl ?_; refine G.frontB2 bk5 rfl ?_; refine G.loopK (ι := Nat × Value) (ks := [1, 4, 5, 6, 46, 47]) (fun x => [(48, .int .i64 (x.1 : Int))]) (fun x => [.blk bk5 4 [.bool true], .blk bk4 63 [x.2], .row x.2 9 1 ((V0 ++ (ps.take x.1).map fP).map scell)]) (fun x => x.1 ≤ ps.length ∧ x.2.oneCell' = true) (fun x => ps.length - x.1) (0, ov2) (.cons rfl (.cons rfl (.cons rfl (.cons rfl (.cons rfl (.cons rfl (.nil))))))) rfl ?_ ?_ ?_
      · exact ⟨Nat.zero_le _, by assumption⟩
      · exact ⟨rfl, trivial⟩
      rintro ⟨k, ow0⟩ ⟨hk, how0⟩
      dsimp only at hk how0 ⊢
      by_cases hlt : k < ps.length
      case' pos => (obtain ⟨⟨a, b⟩, hb⟩ := get_of_lt hlt; have he := get_map hb PairM.cells)
      all_goals
       refine G.seq (G.region (G.v (rv_lss rfl rfl) rfl (G.done (G.thenN (G.seq ?_))))); refine G.cond rfl (fun hc => ?_) (fun hc => ?_)
       · try exact Bool.noConfusion hc
         all_goals
          try replace hc := of_decide_eq_true hc
          try (exfalso; omega)
          all_goals
           refine G.skip (G.thenN (G.seq (G.block (G.seq (G.region ?_))))); refine G.v (rv_indexH rfl rfl (by exact Rd.stays (by assumption)) rfl (by exact he)) rfl ?_; refine G.v (rv_loadEW rfl (by exact Rd.stays (by assumption)) (by exact he) rfl) rfl ?_; refine G.op (og_alloc) rfl (fun bk8 _ => ?_); refine G.op0 (og_st0 rfl rfl rfl rfl rfl rfl (.zero (.cons (.cons .nil)))) (fun _ _ => ?_); refine G.done (G.thenN (G.region (G.v (rv_move rfl) rfl (G.v (rv_field rfl) rfl (G.v (rv_load1 0 rfl rfl rfl) rfl (G.v (rv_field rfl) rfl (G.v (rv_load1 0 rfl rfl rfl) rfl ?_))))))); refine G.op (og_lit rfl (.cons rfl (.cons rfl .nil)) rfl rfl rfl rfl rfl rfl) rfl (fun lv3 _ => ?_)
           (refine G.frontR4 (ow0) rfl ?_); (refine G.frontB4 (bk4) rfl ?_); (refine G.frontB4 (bk5) rfl ?_); refine G.op (og_callMM3 rfl rfl rfl (put1_any (L := V0 ++ (ps.take k).map fP) (wd := wWith) (ns := [a, b]) (by decide) (by simp) (hps ⟨a, b⟩ (List.mem_of_getElem? hb)) (by simp only [List.length_append, List.length_map, List.length_take, List.length_cons, List.length_nil]; omega) (by assumption) ht (fun w hh => by exact Rd.owned 3 rfl (v := lv3) w hh))) rfl ?_; rintro ov3 ho_ov3; try dsimp only
           refine G.done (G.inN (G.thenN (G.region ?_))); refine G.v (rv_incr rfl rfl (by omega)) rfl ?_; refine G.v (rv_move rfl) rfl (G.done ?_); refine G.frontR2 ov3 rfl ?_; refine G.rowEq ((V0 ++ (ps.take (k + 1)).map fP).map scell) (congrArg (List.map scell) (take_snocO hb)) rfl ?_; refine G.frontB2 bk4 rfl ?_; refine G.frontB2 bk5 rfl ?_
           (refine G.keep3O 2 rfl ?_; refine G.backK (k + 1, ov3) 0 rfl (.cons rfl (.cons rfl (.cons rfl (.cons rfl (.cons rfl (.cons rfl (.nil))))))) ?_ ?_ ?_)
           · exact ⟨rfl, trivial⟩
           · exact ⟨hlt, ho_ov3⟩
           · dsimp only; omega
       · try exact Bool.noConfusion hc
         all_goals
          try replace hc := of_decide_eq_false hc
          try (exfalso; omega)
          all_goals
           refine G.exit (G.thenX (G.thenX (G.inX (G.thenN (G.seq (G.seq (G.region (G.v (rv_field rfl) rfl (G.v (rv_load1 6 rfl rfl rfl) rfl ?_))))))))); refine G.v (rv_len rfl (by exact Rd.stays (by assumption))) rfl ?_; refine G.v (rv_move rfl) rfl (G.done (G.thenN (G.block ?_)))
           -- loop 1: turned [63], kept [1, 4, 5, 6, 61, 62]
           refine G.frontR2 ow0 rfl ?_; refine G.rowEq ((V1 ++ (ts.take 0).map fT).map scell) (congrArg (List.map scell) (by rw [take_all (by omega), hX1]; simp)) rfl ?_; refine G.frontB2 bk4 rfl ?_; refine G.frontB2 bk5 rfl ?_; refine G.loopK (ι := Nat × Value) (ks := [1, 4, 5, 6, 61, 62]) (fun x => [(63, .int .i64 (x.1 : Int))]) (fun x => [.blk bk5 4 [.bool true], .blk bk4 63 [x.2], .row x.2 9 1 ((V1 ++ (ts.take x.1).map fT).map scell)]) (fun x => x.1 ≤ ts.length ∧ x.2.oneCell' = true) (fun x => ts.length - x.1) (0, ow0) (.cons rfl (.cons rfl (.cons rfl (.cons rfl (.cons rfl (.cons rfl (.nil))))))) rfl ?_ ?_ ?_
           · exact ⟨Nat.zero_le _, by assumption⟩
           · exact ⟨rfl, trivial⟩
           rintro ⟨k, ow1⟩ ⟨hk, how1⟩
           dsimp only at hk how1 ⊢
           by_cases hlt : k < ts.length
           case' pos => (obtain ⟨⟨a, b, c, d, e, f, g⟩, hb⟩ := get_of_lt hlt; have he := get_map hb TypeM.cells)
           all_goals
            refine G.seq (G.region (G.v (rv_lss rfl rfl) rfl (G.done (G.thenN (G.seq ?_))))); refine G.cond rfl (fun hc => ?_) (fun hc => ?_)
            · try exact Bool.noConfusion hc
              all_goals
               try replace hc := of_decide_eq_true hc
               try (exfalso; omega)
               all_goals
                refine G.skip (G.thenN (G.seq (G.block (G.seq (G.region ?_))))); refine G.v (rv_indexH rfl rfl (by exact Rd.stays (by assumption)) rfl (by exact he)) rfl ?_; refine G.v (rv_loadEW rfl (by exact Rd.stays (by assumption)) (by exact he) rfl) rfl ?_; refine G.op (og_alloc) rfl (fun bk10 _ => ?_); refine G.op0 (og_st0 rfl rfl rfl rfl rfl rfl (.zero (.cons (.cons (.cons (.cons (.cons (.cons (.cons .nil))))))))) (fun _ _ => ?_); refine G.done (G.thenN (G.region (G.v (rv_move rfl) rfl (G.v (rv_field rfl) rfl (G.v (rv_load1 0 rfl rfl rfl) rfl (G.v (rv_field rfl) rfl (G.v (rv_load1 0 rfl rfl rfl) rfl (G.v (rv_field rfl) rfl (G.v (rv_load1 0 rfl rfl rfl) rfl (G.v (rv_field rfl) rfl (G.v (rv_load1 0 rfl rfl rfl) rfl ?_))))))))))); refine G.v (rv_field rfl) rfl (G.v (rv_load1 0 rfl rfl rfl) rfl (G.v (rv_field rfl) rfl (G.v (rv_load1 0 rfl rfl rfl) rfl (G.v (rv_field rfl) rfl (G.v (rv_load1 0 rfl rfl rfl) rfl ?_))))); refine G.op (og_lit rfl (.cons rfl (.cons rfl (.cons rfl (.cons rfl (.cons rfl (.cons rfl (.cons rfl .nil))))))) rfl rfl rfl rfl rfl rfl) rfl (fun lv4 _ => ?_)
                (refine G.frontR4 (ow1) rfl ?_); (refine G.frontB4 (bk4) rfl ?_); (refine G.frontB4 (bk5) rfl ?_); refine G.op (og_callMM3 rfl rfl rfl (put1_any (L := V1 ++ (ts.take k).map fT) (wd := wType) (ns := [a, b, c, d, e, f, g]) (by decide) (by simp) (hts ⟨a, b, c, d, e, f, g⟩ (List.mem_of_getElem? hb)) (by simp only [List.length_append, List.length_map, List.length_take, List.length_cons, List.length_nil]; omega) (by assumption) ht (fun w hh => by exact Rd.owned 3 rfl (v := lv4) w hh))) rfl ?_; rintro ov4 ho_ov4; try dsimp only
                refine G.done (G.inN (G.thenN (G.region ?_))); refine G.v (rv_incr rfl rfl (by omega)) rfl ?_; refine G.v (rv_move rfl) rfl (G.done ?_); refine G.frontR2 ov4 rfl ?_; refine G.rowEq ((V1 ++ (ts.take (k + 1)).map fT).map scell) (congrArg (List.map scell) (take_snocO hb)) rfl ?_; refine G.frontB2 bk4 rfl ?_; refine G.frontB2 bk5 rfl ?_
                (refine G.keep3O 2 rfl ?_; refine G.backK (k + 1, ov4) 0 rfl (.cons rfl (.cons rfl (.cons rfl (.cons rfl (.cons rfl (.cons rfl (.nil))))))) ?_ ?_ ?_)
                · exact ⟨rfl, trivial⟩
                · exact ⟨hlt, ho_ov4⟩
                · dsimp only; omega
            · try exact Bool.noConfusion hc
              all_goals
               try replace hc := of_decide_eq_false hc
               try (exfalso; omega)
               all_goals
                refine G.exit (G.thenX (G.thenX (G.inX (G.thenN (G.seq (G.region (G.v (rv_move rfl) rfl (G.v (rv_field rfl) rfl (G.v (rv_load1 6 rfl rfl rfl) rfl ?_))))))))); refine G.op (og_lit rfl (.cons rfl .nil) rfl rfl rfl rfl rfl rfl) rfl (fun lv5 _ => ?_)
                (refine G.frontR3 (ow1) rfl ?_); (refine G.frontB3 (bk4) rfl ?_); (refine G.frontB3 (bk5) rfl ?_); refine G.op (og_callMM3 rfl rfl rfl (put1_any (L := V1 ++ (ts.take k).map fT) (wd := wMaster) (ns := [ms]) (by decide) (by simp) (one_okO hms) (by simp only [List.length_append, List.length_map, List.length_take, List.length_cons, List.length_nil]; omega) (by assumption) ht (fun w hh => by exact Rd.owned 3 rfl (v := lv5) w hh))) rfl ?_; rintro ov5 ho_ov5; try dsimp only
                refine G.done (G.thenN (G.seq (G.seq (G.region (G.v (rv_field rfl) rfl (G.v (rv_load1 7 rfl rfl rfl) rfl ?_)))))); refine G.v (rv_len rfl (by exact Rd.stays (by assumption))) rfl ?_; refine G.v (rv_move rfl) rfl (G.done (G.thenN (G.block ?_)))
                -- loop 2: turned [93], kept [4, 5, 6, 91, 92]
                refine G.frontR2 ov5 rfl ?_; refine G.rowEq ((V2 ++ (its.take 0).map fI).map scell) (congrArg (List.map scell) (by rw [take_all (by omega), hX2]; simp)) rfl ?_; refine G.frontB2 bk4 rfl ?_; refine G.frontB2 bk5 rfl ?_; refine G.loopK (ι := Nat × Value) (ks := [4, 5, 6, 91, 92]) (fun x => [(93, .int .i64 (x.1 : Int))]) (fun x => [.blk bk5 4 [.bool true], .blk bk4 63 [x.2], .row x.2 9 1 ((V2 ++ (its.take x.1).map fI).map scell)]) (fun x => x.1 ≤ its.length ∧ x.2.oneCell' = true) (fun x => its.length - x.1) (0, ov5) (.cons rfl (.cons rfl (.cons rfl (.cons rfl (.cons rfl (.nil)))))) rfl ?_ ?_ ?_
                · exact ⟨Nat.zero_le _, by assumption⟩
                · exact ⟨rfl, trivial⟩
                rintro ⟨k, ow2⟩ ⟨hk, how2⟩
                dsimp only at hk how2 ⊢
                by_cases hlt : k < its.length
                case' pos => (obtain ⟨⟨a, b, c, d, e, f, g⟩, hb⟩ := get_of_lt hlt; have he := get_map hb ItemM.cells)
                all_goals
                 refine G.seq (G.region (G.v (rv_lss rfl rfl) rfl (G.done (G.thenN (G.seq ?_))))); refine G.cond rfl (fun hc => ?_) (fun hc => ?_)
                 · try exact Bool.noConfusion hc
                   all_goals
                    try replace hc := of_decide_eq_true hc
                    try (exfalso; omega)
                    all_goals
                     refine G.skip (G.thenN (G.seq (G.block (G.seq (G.region ?_))))); refine G.v (rv_indexH rfl rfl (by exact Rd.stays (by assumption)) rfl (by exact he)) rfl ?_; refine G.v (rv_loadEW rfl (by exact Rd.stays (by assumption)) (by exact he) rfl) rfl ?_; refine G.op (og_alloc) rfl (fun bk12 _ => ?_); refine G.op0 (og_st0 rfl rfl rfl rfl rfl rfl (.zero (.cons (.cons (.cons (.cons (.cons (.cons (.cons .nil))))))))) (fun _ _ => ?_); refine G.done (G.thenN (G.region (G.v (rv_move rfl) rfl (G.v (rv_field rfl) rfl (G.v (rv_load1 0 rfl rfl rfl) rfl (G.v (rv_field rfl) rfl (G.v (rv_load1 0 rfl rfl rfl) rfl (G.v (rv_field rfl) rfl (G.v (rv_load1 0 rfl rfl rfl) rfl (G.v (rv_field rfl) rfl (G.v (rv_load1 0 rfl rfl rfl) rfl ?_))))))))))); refine G.v (rv_field rfl) rfl (G.v (rv_load1 0 rfl rfl rfl) rfl (G.v (rv_field rfl) rfl (G.v (rv_load1 0 rfl rfl rfl) rfl (G.v (rv_field rfl) rfl (G.v (rv_load1 0 rfl rfl rfl) rfl ?_))))); refine G.op (og_lit rfl (.cons rfl (.cons rfl (.cons rfl (.cons rfl (.cons rfl (.cons rfl (.cons rfl .nil))))))) rfl rfl rfl rfl rfl rfl) rfl (fun lv6 _ => ?_)
                     (refine G.frontR4 (ow2) rfl ?_); (refine G.frontB4 (bk4) rfl ?_); (refine G.frontB4 (bk5) rfl ?_); refine G.op (og_callMM3 rfl rfl rfl (put1_any (L := V2 ++ (its.take k).map fI) (wd := wItem) (ns := [a, b, c, d, e, f, g]) (by decide) (by simp) (hits ⟨a, b, c, d, e, f, g⟩ (List.mem_of_getElem? hb)) (by simp only [List.length_append, List.length_map, List.length_take, List.length_cons, List.length_nil]; omega) (by assumption) ht (fun w hh => by exact Rd.owned 3 rfl (v := lv6) w hh))) rfl ?_; rintro ov6 ho_ov6; try dsimp only
                     refine G.done (G.inN (G.thenN (G.region ?_))); refine G.v (rv_incr rfl rfl (by omega)) rfl ?_; refine G.v (rv_move rfl) rfl (G.done ?_); refine G.frontR2 ov6 rfl ?_; refine G.rowEq ((V2 ++ (its.take (k + 1)).map fI).map scell) (congrArg (List.map scell) (take_snocO hb)) rfl ?_; refine G.frontB2 bk4 rfl ?_; refine G.frontB2 bk5 rfl ?_
                     (refine G.keep3O 2 rfl ?_; refine G.backK (k + 1, ov6) 0 rfl (.cons rfl (.cons rfl (.cons rfl (.cons rfl (.cons rfl (.nil)))))) ?_ ?_ ?_)
                     · exact ⟨rfl, trivial⟩
                     · exact ⟨hlt, ho_ov6⟩
                     · dsimp only; omega
                 · try exact Bool.noConfusion hc
                   all_goals
                    try replace hc := of_decide_eq_false hc
                    try (exfalso; omega)
                    all_goals
                     refine G.exit (G.thenX (G.thenX (G.inX (G.thenN (G.seq (G.seq (G.region (G.v (rv_load1 0 rfl rfl rfl) rfl (G.v (rv_not rfl) rfl (G.done (G.thenN ?_))))))))))); refine G.cond rfl (fun hc => ?_) (fun hc => ?_)
                     · try exact Bool.noConfusion hc
                       all_goals
                        try replace hc := of_decide_eq_true hc
                        try (exfalso; contradiction)
                        all_goals
                         refine G.seq (G.region (G.v (rv_assign rfl) rfl (G.done (G.thenN (G.ret (G.thenR ?_))))))
                         exact G.retFV rfl rfl (by rw [hX3])
                     · try exact Bool.noConfusion hc
                       all_goals
                        try replace hc := of_decide_eq_false hc
                        try (exfalso; contradiction)
                        all_goals
                         refine G.skip (G.thenN (G.seq (G.region (G.v (rv_load1 1 rfl rfl rfl) rfl ?_)))); refine G.op (og_callV rfl rfl (fun w hh => join_any (v := ow2) (L := V3) (by omega) (by omega) w (by have hz9 : V2 ++ (its.take k).map fI = V3 := (by rw [take_all (by omega), hX3e]); rw [← hz9]; exact Rd.owned 2 rfl w hh))) rfl (fun _ _ => ?_); refine G.v (rv_assign rfl) rfl (G.done (G.thenN (G.ret ?_)))
                         exact G.retFV rfl rfl (by rw [hX3])
end Go.Proofs.YtnfokjlplbbbeaaGreatDoor

/-
  What is wrong with an order is one reason: the law.
-/
namespace Go.Proofs.YtnfokjlplbbbeaaGreatDoor
open Go.RowKit Go.Lib
def ctL : List (List UInt8) := [[111, 107], [116, 101, 120, 116], [98, 111, 117, 110, 100, 115], [110, 97, 109, 101, 115], [116, 97, 98, 108, 101], [117, 110, 105, 116], [112, 97, 108, 108, 101, 116]]
def ctM (u : Nat) : List UInt8 := ctL.getD u []
theorem ct_at {u : Nat} (h : u ≤ 6) : (ctL.map scell)[u]? = some (scell (ctM u)) := by
  have : u = 0 ∨ u = 1 ∨ u = 2 ∨ u = 3 ∨ u = 4 ∨ u = 5 ∨ u = 6 := by omega
  rcases this with rfl | rfl | rfl | rfl | rfl | rfl | rfl <;> rfl
theorem ct_ne {u : Nat} (h1 : 1 ≤ u) (h : u ≤ 6) : ¬ ctM u = [] ∧ ¬ ctM u = [111, 107] := by
  have : u = 1 ∨ u = 2 ∨ u = 3 ∨ u = 4 ∨ u = 5 ∨ u = 6 := by omega
  rcases this with rfl | rfl | rfl | rfl | rfl | rfl <;> decide
theorem class_in (r : ReqM) : ∃ u : Nat, classM r = (u : Int) ∧ u ≤ 6 ∧ (u = 2 ↔ boundsOkM r = false) := by
  rw [classM]
  split
  · rename_i h; exact ⟨2, rfl, by omega, by simp [h]⟩
  · rename_i h
    have hb : boundsOkM r = true := by simpa using h
    split
    · exact ⟨3, rfl, by omega, by simp [hb]⟩
    · split
      · exact ⟨4, rfl, by omega, by simp [hb]⟩
      · split
        · exact ⟨5, rfl, by omega, by simp [hb]⟩
        · split
          · exact ⟨6, rfl, by omega, by simp [hb]⟩
          · exact ⟨0, rfl, by omega, by simp [hb]⟩
theorem names_ofR {r : ReqM} (h : classM r = 0) : namesM r = true := by
  have hb := cls_sound h
  cases hn : namesM r with
  | true => rfl
  | false => rw [classM, if_neg (by simp [hb]), if_pos hn] at h; omega
theorem cls_table {r : ReqM} (h : classM r = 0) : tableOkM r.pairs r.classes = true := by
  have hb := cls_sound h
  have hn := names_ofR h
  cases ht : tableOkM r.pairs r.classes with
  | true => rfl
  | false => rw [classM, if_neg (by simp [hb]), if_neg (by simp [hn]), if_pos ht] at h; omega
theorem cls_fits {r : ReqM} (h : classM r = 0) : ∀ x ∈ r.items, fitsM x (typeAt r r.master).1 = true := by
  have hb := cls_sound h
  have hn := names_ofR h
  have ht := cls_table h
  intro x hx
  cases hf : fitsM x (typeAt r r.master).1 with
  | true => rfl
  | false =>
    have ha : (r.items.any fun x => !fitsM x (typeAt r r.master).1) = true := List.any_eq_true.2 ⟨x, hx, by rw [hf]; rfl⟩
    rw [classM, if_neg (by simp [hb]), if_neg (by simp [hn]), if_neg (by simp [ht]), if_pos ha] at h; omega
theorem cls_small {r : ReqM} (h : classM r = 0) : ∀ t ∈ r.types, ¬ t.w > r.pal.w ∧ ¬ t.tare + t.g > r.pal.g := by
  have hb := cls_sound h
  have hn := names_ofR h
  have ht := cls_table h
  have hf := cls_fits h
  have hna : ¬ (r.items.any fun x => !fitsM x (typeAt r r.master).1) = true := fun e => by
    obtain ⟨x, hx, he⟩ := List.any_eq_true.1 e
    rw [hf x hx] at he; cases he
  have hnt : ¬ (r.types.any (tooBig r.pal)) = true := fun e => by
    rw [classM, if_neg (by simp [hb]), if_neg (by simp [hn]), if_neg (by simp [ht]), if_neg hna, if_pos e] at h; omega
  intro t hx
  have : tooBig r.pal t = false := by
    cases hq : tooBig r.pal t with
    | false => rfl
    | true => exact absurd (List.any_eq_true.2 ⟨t, hx, hq⟩) hnt
  simp only [tooBig, Bool.or_eq_false_iff, decide_eq_false_iff_not] at this
  exact ⟨this.1.1.1, this.2⟩
theorem cls_in {r : ReqM} (h : classM r = 0) : ∀ x ∈ r.items, ¬ x.cls ≥ r.classes := by
  have hn := names_ofR h
  simp only [namesM, Bool.and_eq_true, List.all_eq_true, List.mem_range] at hn
  intro x hx
  obtain ⟨i, hi, rfl⟩ := List.getElem_of_mem hx
  have hd := hn.1.1.2 i hi
  rw [item_bad (List.getElem?_eq_getElem hi)] at hd
  simp only [Bool.not_eq_true', Bool.or_eq_false_iff, decide_eq_false_iff_not] at hd
  exact hd.1
theorem mst_okR {r : ReqM} (h : classM r = 0) : (typeAt r r.master).2 = true ∧ (typeAt r r.master).1.id = r.master := by
  have hn := names_ofR h
  simp only [namesM, Bool.and_eq_true] at hn
  have h2 := hn.2
  refine ⟨h2, ?_⟩
  rw [typeAt] at h2 ⊢
  cases hf : typeByM r r.master with
  | none => rw [hf] at h2; cases h2
  | some t =>
    have := List.find?_some hf
    simpa using this
theorem cls_back {r : ReqM} (h : classM r = 0) : classOfM (textM r) = 0 := by
  obtain ⟨h1, h2⟩ := cls_okR h
  rw [class_yes (read_text h1 h2), h]
theorem sum_in {r : ReqM} (h : classM r = 0) : ∀ t ∈ r.types, 0 ≤ t.tare ∧ t.tare ≤ 100000 ∧ 1 ≤ t.g ∧ t.g ≤ 100000 := fun t ht => type_in (bounds_types (cls_sound h) t ht)
theorem text_len {r : ReqM} (h : classM r = 0) : (textM r).length ≤ 1048576 := by
  obtain ⟨h1, h2⟩ := cls_okR h
  have h3 := flat_le (X3_each h1)
  rw [X3_text, X3_len] at h3; omega
attribute [local irreducible] Go.wpList Go.Code.wp Go.Exit.then Go.Exit.inBlock Go.bodyPost Go.Calls pE pB G RunsV FnV Fn FnM
set_option maxRecDepth 100000
set_option maxHeartbeats 4000000
theorem classText_any {u : Nat} (hu : u ≤ 6) (w : World) : FnV Tryz.prog 13 [.int .i64 (u : Int)] w (sv (ctM u)) := by
  have hin : inB (u : Int) 0 6 = true := (by simp only [inB, Bool.and_eq_true, decide_eq_true_eq]; omega)
  have hea := ct_at hu
  have hcl : (ctL.map scell).length = 7 := rfl
  refine FnV.of (n := 15) Tryz.func13 rfl rfl ?_; refine G.seq (G.region (G.v (rv_assign rfl) rfl (G.done (G.thenN (G.seq (G.region ?_)))))); refine G.op (og_lit rfl (.cons rfl (.cons rfl (.cons rfl (.cons rfl (.cons rfl (.cons rfl (.cons rfl .nil))))))) rfl rfl rfl rfl rfl rfl) rfl (fun nv _ => ?_); refine G.rowEq (ctL.map scell) rfl rfl ?_; refine G.v (rv_assign rfl) rfl (G.done (G.thenN (G.seq (G.seq (G.region (G.v (rv_move rfl) rfl (G.v (rv_move rfl) rfl ?_))))))); refine G.v (rv_lenE rfl (Rd.owned 0 rfl) hcl) rfl ?_; refine G.v (rv_decr rfl rfl (by omega) (by omega)) rfl ?_; refine G.op (og_callV rfl rfl (fun w hh => in_any (u : Int) 0 6 w)) rfl (fun _ _ => ?_); refine G.v (rv_not rfl) rfl (G.done (G.thenN ?_)); refine G.cond rfl (fun hc => ?_) (fun hc => ?_)
  · try exact Bool.noConfusion hc
    all_goals
     try replace hc := of_decide_eq_true hc
     try (exfalso; contradiction)
     all_goals
      exfalso; rw [hin] at hc; cases hc
  · try exact Bool.noConfusion hc
    all_goals
     try replace hc := of_decide_eq_false hc
     try (exfalso; contradiction)
     all_goals
      refine G.skip (G.thenN (G.seq (G.region (G.v (rv_move rfl) rfl (G.v (rv_move rfl) rfl ?_))))); refine G.v (rv_indexH (k := u) rfl rfl (Rd.owned 0 rfl) rfl hea) rfl ?_; refine G.v (rv_loadE rfl (by exact Rd.owned 0 rfl) (by exact hea) rfl) rfl ?_; refine G.v (rv_assign rfl) rfl (G.done (G.thenN (G.ret ?_)))
      exact G.retFV rfl rfl rfl
theorem fnReasons_any {v : Value} {l : List Int} {w : World} (h : Rd w v 1 (l.map bcell)) (ht : TabI w) (hte : TabE w) : FnV Tryz.prog 4 [v] w (.bool true) := by
  refine FnV.of (n := 123) Tryz.func4 rfl rfl ?_; refine G.seq (G.region (G.v (rv_assign rfl) rfl (G.done (G.thenN (G.seq (G.seq (G.region (G.v (rv_move rfl) rfl ?_)))))))); refine G.op (og_callV rfl rfl (fun w hh => big_any w (by exact Rd.stays (by assumption) _ hh))) rfl (fun _ _ => ?_); refine G.done (G.thenN ?_); refine G.cond rfl (fun hc => ?_) (fun hc => ?_)
  · try exact Bool.noConfusion hc
    all_goals
     try replace hc := of_decide_eq_true hc
     try (exfalso; contradiction)
     all_goals
      refine G.seq (G.region (G.v (rv_assign rfl) rfl (G.done (G.thenN (G.ret (G.thenR ?_))))))
      exact G.retFV rfl rfl rfl
  · try exact Bool.noConfusion hc
    all_goals
     try replace hc := of_decide_eq_false hc
     try (exfalso; contradiction)
     all_goals
      refine G.skip (G.thenN (G.seq (G.region (G.v (rv_move rfl) rfl ?_))))
      (refine G.op (og_callF3 rfl rfl (fun w hh => drawClass_any w (by exact Rd.stays (by assumption) _ hh))) rfl ?_; rintro ⟨⟨r, pv, tv, iv⟩, pv0, es0⟩ hdr; try dsimp only)
      have hopv := hdr.1.1; have hotv := hdr.1.2.1; have hoiv := hdr.1.2.2; have hil7 : r.items.length ≤ 7 := hdr.2.2.2.2.1; have htl9 : r.types.length ≤ 9 := hdr.2.2.2.1; dsimp only at hopv hotv hoiv; obtain ⟨u, hcu, hu6, hu2⟩ := class_in r
      refine G.op (og_alloc) rfl (fun bk3 _ => ?_); refine G.op0 (og_st0 rfl rfl rfl rfl rfl (by repeat (first | rfl | refine one_cons (by first | rfl | assumption) ?_)) (.zero (.cons (.cons (.cons (.cons (.cons (.cons (.cons (.cons (.cons (.cons .nil)))))))))))) (fun _ _ => ?_); refine G.done (G.thenN (G.seq (G.region (G.v (rv_loadW 0 rfl rfl rfl) rfl ?_)))); refine G.op (og_callV rfl rfl (fun w hh => class_any (r := r) w (hdr.2.1 _ (by exact Rd.owned 3 rfl _ hh)) (by exact Rd.owned 2 rfl _ hh) (by exact Rd.owned 1 rfl _ hh))) rfl (fun _ _ => ?_); refine G.v (rv_assign rfl) rfl (G.done (G.thenN (G.seq (G.seq (G.region (G.v (rv_move rfl) rfl (G.v (rv_loadW 0 rfl rfl rfl) rfl ?_))))))); refine G.op (og_callV rfl rfl (fun w hh => sclass_any (r := r) w (hdr.2.1 _ (by exact Rd.owned 3 rfl _ hh)) (by exact Rd.owned 2 rfl _ hh) (by exact Rd.owned 1 rfl _ hh))) rfl (fun _ _ => ?_); refine G.v (rv_neq rfl rfl) rfl (G.done (G.thenN ?_)); refine G.cond rfl (fun hc => ?_) (fun hc => ?_)
      · try exact Bool.noConfusion hc
        all_goals
         try replace hc := of_decide_eq_true hc
         try (exfalso; contradiction)
         all_goals
          refine G.seq (G.region (G.v (rv_assign rfl) rfl (G.done (G.thenN (G.ret (G.thenR ?_))))))
          exact G.retFV rfl rfl rfl
      · try exact Bool.noConfusion hc
        all_goals
         try replace hc := of_decide_eq_false hc
         try (exfalso; contradiction)
         all_goals
          refine G.skip (G.thenN (G.seq (G.seq (G.region (G.v (rv_move rfl) rfl (G.v (rv_eql rfl rfl) rfl (G.v (rv_loadW 0 rfl rfl rfl) rfl ?_))))))); refine G.op (og_callV rfl rfl (fun w hh => boundsOk_any (r := r) w (hdr.2.1 _ (by exact Rd.owned 3 rfl _ hh)) (by exact Rd.owned 2 rfl _ hh) (by exact Rd.owned 1 rfl _ hh))) rfl (fun _ _ => ?_); refine G.v (rv_not rfl) rfl (G.v (rv_neqb rfl rfl) rfl (G.done (G.thenN ?_))); refine G.cond rfl (fun hc => ?_) (fun hc => ?_)
          · try exact Bool.noConfusion hc
            all_goals
             try replace hc := of_decide_eq_true hc
             try (exfalso; contradiction)
             all_goals
              exfalso; cases hbb : boundsOkM r <;> simp_all <;> omega
          · try exact Bool.noConfusion hc
            all_goals
             try replace hc := of_decide_eq_false hc
             try (exfalso; contradiction)
             all_goals
              refine G.skip (G.thenN (G.seq (G.region (G.v (rv_loadW 0 rfl rfl rfl) rfl ?_)))); refine G.op (og_callV rfl rfl (fun w hh => masterOf_any (r := r) w (by exact Rd.owned 2 rfl _ hh))) rfl (fun _ _ => ?_); refine G.v (rv_move rfl) rfl (G.v (rv_extract rfl rfl) rfl (G.v (rv_extract rfl rfl) rfl ?_)); refine G.op (og_alloc) rfl (fun bk5 _ => ?_); refine G.op0 (og_st0 rfl rfl rfl rfl rfl rfl (.zero (.cons (.cons (.cons (.cons (.cons (.cons (.cons .nil))))))))) (fun _ _ => ?_); refine G.v (rv_assign rfl) rfl (G.done (G.thenN (G.seq (G.seq (G.region (G.v (rv_move rfl) rfl (G.v (rv_neq rfl rfl) rfl (G.done (G.thenN ?_))))))))); refine G.cond rfl (fun hc => ?_) (fun hc => ?_)
              · try exact Bool.noConfusion hc
                all_goals
                 try replace hc := of_decide_eq_true hc
                 try (exfalso; contradiction)
                 all_goals
                  obtain ⟨hq1, hq2⟩ := ct_ne (u := u) (by omega) hu6
                  all_goals
                   refine G.seq (G.region (G.v (rv_move rfl) rfl ?_)); refine G.op (og_callV rfl rfl (fun w hh => by rw [hcu]; exact classText_any hu6 w)) rfl (fun _ _ => ?_); refine G.v (rv_neqS rfl rfl) rfl ?_; refine G.v (rv_move rfl) rfl ?_
                   all_goals (((with_reducible refine G.gP rfl rfl (fun hg => ?_) (fun hg => ?_)) <;> (try exact Bool.noConfusion hg) <;> (try (exfalso; (simp_all; done); done)) <;> ((refine G.gY rfl rfl ?_; refine G.v (rv_move rfl) rfl ?_))))
                   all_goals (((refine G.gY rfl rfl ?_; refine G.op (og_callV rfl rfl (fun w hh => by rw [hcu]; exact classText_any hu6 w)) rfl (fun _ _ => ?_))))
                   all_goals (((refine G.gY rfl rfl ?_; refine G.v (rv_neqS rfl rfl) rfl ?_)))
                   all_goals ((refine G.v (rv_pickT rfl rfl) rfl ?_))
                   all_goals (refine G.v (rv_assign rfl) rfl ?_)
                   all_goals
                    refine G.done (G.thenN (G.ret (G.thenR ?_)))
                    (exact G.retFV rfl rfl (by simp_all; done))
              · try exact Bool.noConfusion hc
                all_goals
                 try replace hc := of_decide_eq_false hc
                 try (exfalso; contradiction)
                 all_goals
                  have hz : classM r = 0 := (by omega); obtain ⟨hm1, hm2⟩ := mst_okR hz; have htb := cls_table hz; have hback := cls_back hz
                  all_goals
                   refine G.skip (G.thenN (G.seq (G.seq (G.region (G.v (rv_move rfl) rfl (G.v (rv_not rfl) rfl (G.v (rv_move rfl) rfl ?_)))))))
                   all_goals (((with_reducible refine G.gP rfl rfl (fun hg => ?_) (fun hg => ?_)) <;> (try exact Bool.noConfusion hg) <;> (try (exfalso; (simp only [hm1] at hg; exact Bool.noConfusion hg))) <;> ((refine G.gY rfl rfl ?_; (refine G.v (rv_field rfl) rfl ?_)))))
                   all_goals (((refine G.gY rfl rfl ?_; (refine G.v (rv_load1 0 rfl rfl rfl) rfl ?_))))
                   all_goals (((refine G.gY rfl rfl ?_; (refine G.v (rv_field rfl) rfl ?_))))
                   all_goals (((refine G.gY rfl rfl ?_; (refine G.v (rv_load1 1 rfl rfl rfl) rfl ?_))))
                   all_goals (((refine G.gY rfl rfl ?_; refine G.v (rv_neq rfl rfl) rfl ?_)))
                   all_goals ((refine G.v (rv_pickF rfl rfl) rfl ?_))
                   all_goals (refine G.v (rv_move rfl) rfl ?_)
                   all_goals (((with_reducible refine G.gP rfl rfl (fun hg => ?_) (fun hg => ?_)) <;> (try exact Bool.noConfusion hg) <;> (try (exfalso; (have hq := of_decide_eq_true hg; omega))) <;> ((refine G.gY rfl rfl ?_; (refine G.v (rv_field rfl) rfl ?_)))))
                   all_goals (((refine G.gY rfl rfl ?_; (refine G.v (rv_load1 1 rfl rfl rfl) rfl ?_))))
                   all_goals (((refine G.gY rfl rfl ?_; (refine G.v (rv_field rfl) rfl ?_))))
                   all_goals (((refine G.gY rfl rfl ?_; (refine G.v (rv_load1 1 rfl rfl rfl) rfl ?_))))
                   all_goals (((refine G.gY rfl rfl ?_; refine G.op (og_callV rfl rfl (fun w hh => tableOk_any (l := r.pairs) r.classes w (hdr.2.1 _ (by exact Rd.owned 4 rfl _ hh)))) rfl (fun _ _ => ?_))))
                   all_goals (((refine G.gY rfl rfl ?_; refine G.v (rv_not rfl) rfl ?_)))
                   all_goals ((refine G.v (rv_pickF rfl rfl) rfl ?_))
                   all_goals
                    refine G.done (G.thenN ?_); refine G.cond rfl (fun hc => ?_) (fun hc => ?_)
                    · try exact Bool.noConfusion hc
                      all_goals
                       try replace hc := of_decide_eq_true hc
                       try (exfalso; contradiction)
                       all_goals
                        refine G.seq (G.region (G.v (rv_assign rfl) rfl (G.done (G.thenN (G.ret (G.thenR ?_))))))
                        (exfalso; simp_all; done)
                    · try exact Bool.noConfusion hc
                      all_goals
                       try replace hc := of_decide_eq_false hc
                       try (exfalso; contradiction)
                       all_goals
                        refine G.skip (G.thenN (G.seq (G.seq (G.region (G.v (rv_assign rfl) rfl (G.done (G.thenN (G.block ?_))))))))
                        -- loop 0: turned [7], kept [3, 5]
                        refine G.loopK (ι := Nat) (ks := [3, 5]) (fun i => [(7, .int .i64 (i : Int))]) (fun _ => []) (fun i => i ≤ r.items.length) (fun i => r.items.length - i) 0 (.cons rfl (.cons rfl (.nil))) rfl ?_ ?_ ?_
                        · exact Nat.zero_le _
                        · exact ⟨rfl, trivial⟩
                        rintro i hi
                        have hilm : (r.items.map ItemM.cells).length = r.items.length := List.length_map ..
                        by_cases hlt : i < r.items.length
                        case' pos => (obtain ⟨b, hb⟩ := get_of_lt hlt; have he := get_map hb ItemM.cells; have hbm := List.mem_of_getElem? hb; have hft := cls_fits hz b hbm; have hci := cls_in hz b hbm)
                        all_goals
                         refine G.seq (G.seq (G.region (G.v (rv_move rfl) rfl (G.v (rv_field rfl) rfl (G.v (rv_load1 1 rfl rfl rfl) rfl ?_))))); refine G.v (rv_len rfl (by exact Rd.owned 2 rfl)) rfl ?_; refine G.v (rv_lss rfl rfl) rfl (G.done (G.thenN ?_)); refine G.cond rfl (fun hc => ?_) (fun hc => ?_)
                         · try exact Bool.noConfusion hc
                           all_goals
                            try replace hc := of_decide_eq_true hc
                            try (exfalso; omega)
                            all_goals
                             refine G.skip (G.thenN (G.seq (G.block (G.seq ?_)))); refine G.drawL [] ?_; refine GE.q 0 rfl (by as_aux_lemma => kernel_rfl) rfl (qg_runs (rv_field rfl)) rfl ?_; refine GE.q 1 rfl (by as_aux_lemma => kernel_rfl) rfl (qg_runs (rv_load1 1 rfl rfl rfl)) rfl ?_; refine GE.q 2 rfl (by as_aux_lemma => kernel_rfl) rfl (qg_runs (rv_move rfl)) rfl ?_; refine GE.q 3 rfl (by as_aux_lemma => kernel_rfl) rfl (qg_runs (rv_indexH rfl rfl (by exact Rd.owned 2 rfl) rfl (by exact he))) rfl ?_; refine GE.q 4 rfl (by as_aux_lemma => kernel_rfl) rfl (qg_runs (rv_loadEW rfl (by exact Rd.owned 2 rfl) (by exact he) rfl)) rfl ?_; refine GE.ol 5 (by as_aux_lemma => kernel_rfl) rfl rfl (og_runs (rv_loadW 0 rfl rfl rfl)) rfl (fun _ _ h => by exact h) (fun _ _ => ?_); refine GE.ol 6 (by as_aux_lemma => kernel_rfl) rfl rfl (og_callV rfl rfl (fun w _ => fits_any b (typeAt r r.master).1 w)) rfl (fun _ _ h => by exact h) (fun _ _ => ?_); refine GE.ol 7 (by as_aux_lemma => kernel_rfl) rfl rfl (og_runs (rv_not rfl)) rfl (fun _ _ h => by exact h) (fun _ _ => ?_); refine GE.ol 8 (by as_aux_lemma => kernel_rfl) rfl rfl (og_runs (rv_move rfl)) rfl (fun _ _ h => by exact h) (fun _ _ => ?_)
                             all_goals (((with_reducible refine GE.part (t := 72) rfl (fun hg => ?_) (fun hg => ?_)) <;> (try exact Bool.noConfusion hg) <;> (try (exfalso; (simp only [hft] at hg; exact Bool.noConfusion hg))) <;> ((refine GE.q 9 rfl (by as_aux_lemma => kernel_rfl) rfl (qg_runs (rv_field rfl)) rfl ?_))))
                             all_goals (((refine GE.q 10 rfl (by as_aux_lemma => kernel_rfl) rfl (qg_runs (rv_load1 1 rfl rfl rfl)) rfl ?_)))
                             all_goals ((refine GE.q 11 rfl (by as_aux_lemma => kernel_rfl) rfl (qg_runs (rv_move rfl)) rfl ?_))
                             all_goals (((refine GE.q 12 rfl (by as_aux_lemma => kernel_rfl) rfl (qg_runs (rv_indexH rfl rfl (by exact Rd.owned 2 rfl) rfl (by exact he))) rfl ?_)))
                             all_goals (((refine GE.q 13 rfl (by as_aux_lemma => kernel_rfl) rfl (qg_runs (rv_fieldE rfl)) rfl ?_)))
                             all_goals ((refine GE.q 14 rfl (by as_aux_lemma => kernel_rfl) rfl (qg_runs (rv_loadE rfl (by exact Rd.owned 2 rfl) (by exact he) rfl)) rfl ?_))
                             all_goals (((refine GE.q 15 rfl (by as_aux_lemma => kernel_rfl) rfl (qg_runs (rv_field rfl)) rfl ?_)))
                             all_goals (((refine GE.q 16 rfl (by as_aux_lemma => kernel_rfl) rfl (qg_runs (rv_load1 1 rfl rfl rfl)) rfl ?_)))
                             all_goals ((refine GE.q 17 rfl (by as_aux_lemma => kernel_rfl) rfl (qg_runs (rv_geq rfl rfl)) rfl ?_))
                             all_goals ((refine GE.ol 18 (by as_aux_lemma => kernel_rfl) rfl rfl (og_runs (rv_pickF rfl rfl)) rfl (fun _ _ h => by exact h) (fun _ _ => ?_)))
                             all_goals
                              refine GE.done (by as_aux_lemma => kernel_rfl) ?_; refine G.thenN ?_; refine G.cond rfl (fun hc => ?_) (fun hc => ?_)
                              · try exact Bool.noConfusion hc
                                all_goals
                                 try replace hc := of_decide_eq_true hc
                                 try (exfalso; contradiction)
                                 all_goals
                                  refine G.seq (G.region (G.v (rv_assign rfl) rfl (G.done (G.thenN (G.ret (G.inR (G.thenR (G.thenR (G.inR (G.thenR ?_))))))))))
                                  exact G.retFV rfl rfl rfl
                              · try exact Bool.noConfusion hc
                                all_goals
                                 try replace hc := of_decide_eq_false hc
                                 try (exfalso; contradiction)
                                 all_goals
                                  refine G.skip (G.inN (G.thenN (G.region (G.v (rv_move rfl) rfl ?_)))); refine G.v (rv_incr rfl rfl (by omega)) rfl ?_; refine G.v (rv_assign rfl) rfl (G.done ?_); refine G.backK (i + 1) 0 rfl (.cons rfl (.cons rfl (.nil))) ?_ ?_ ?_
                                  · exact ⟨rfl, trivial⟩
                                  · exact hlt
                                  · omega
                         · try exact Bool.noConfusion hc
                           all_goals
                            try replace hc := of_decide_eq_false hc
                            try (exfalso; omega)
                            all_goals
                             refine G.exit (G.thenX (G.thenX (G.inX (G.thenN (G.seq (G.seq (G.region (G.v (rv_assign rfl) rfl (G.done (G.thenN (G.block ?_)))))))))))
                             -- loop 1: turned [8], kept [3]
                             refine G.loopK (ι := Nat) (ks := [3]) (fun i => [(8, .int .i64 (i : Int))]) (fun _ => []) (fun i => i ≤ r.types.length) (fun i => r.types.length - i) 0 (.cons rfl (.nil)) rfl ?_ ?_ ?_
                             · exact Nat.zero_le _
                             · exact ⟨rfl, trivial⟩
                             rintro j hj
                             have htlm : (r.types.map TypeM.cells).length = r.types.length := List.length_map ..
                             by_cases hlt : j < r.types.length
                             case' pos => (obtain ⟨b, hb⟩ := get_of_lt hlt; have he := get_map hb TypeM.cells; have hbm := List.mem_of_getElem? hb; obtain ⟨hs1, hs2⟩ := cls_small hz b hbm; obtain ⟨hb1, hb2, hb3, hb4⟩ := sum_in hz b hbm)
                             all_goals
                              refine G.seq (G.seq (G.region (G.v (rv_move rfl) rfl (G.v (rv_field rfl) rfl (G.v (rv_load1 1 rfl rfl rfl) rfl ?_))))); refine G.v (rv_len rfl (by exact Rd.owned 3 rfl)) rfl ?_; refine G.v (rv_lss rfl rfl) rfl (G.done (G.thenN ?_)); refine G.cond rfl (fun hc => ?_) (fun hc => ?_)
                              · try exact Bool.noConfusion hc
                                all_goals
                                 try replace hc := of_decide_eq_true hc
                                 try (exfalso; omega)
                                 all_goals
                                  refine G.skip (G.thenN (G.seq (G.block (G.seq ?_)))); refine G.drawL [] ?_; refine GE.q 0 rfl (by as_aux_lemma => kernel_rfl) rfl (qg_runs (rv_field rfl)) rfl ?_; refine GE.q 1 rfl (by as_aux_lemma => kernel_rfl) rfl (qg_runs (rv_load1 1 rfl rfl rfl)) rfl ?_; refine GE.q 2 rfl (by as_aux_lemma => kernel_rfl) rfl (qg_runs (rv_move rfl)) rfl ?_; refine GE.q 3 rfl (by as_aux_lemma => kernel_rfl) rfl (qg_runs (rv_indexH rfl rfl (by exact Rd.owned 3 rfl) rfl (by exact he))) rfl ?_; refine GE.q 4 rfl (by as_aux_lemma => kernel_rfl) rfl (qg_runs (rv_fieldE rfl)) rfl ?_; refine GE.q 5 rfl (by as_aux_lemma => kernel_rfl) rfl (qg_runs (rv_loadE rfl (by exact Rd.owned 3 rfl) (by exact he) rfl)) rfl ?_; refine GE.ol 6 (by as_aux_lemma => kernel_rfl) rfl rfl (og_runs (rv_field rfl)) rfl (fun _ _ h => by exact h) (fun _ _ => ?_); refine GE.ol 7 (by as_aux_lemma => kernel_rfl) rfl rfl (og_runs (rv_field rfl)) rfl (fun _ _ h => by exact h) (fun _ _ => ?_); refine GE.ol 8 (by as_aux_lemma => kernel_rfl) rfl rfl (og_runs (rv_load1 1 rfl rfl rfl)) rfl (fun _ _ h => by exact h) (fun _ _ => ?_); refine GE.ol 9 (by as_aux_lemma => kernel_rfl) rfl rfl (og_runs (rv_gtr rfl rfl)) rfl (fun _ _ h => by exact h) (fun _ _ => ?_); refine GE.ol 10 (by as_aux_lemma => kernel_rfl) rfl rfl (og_runs (rv_move rfl)) rfl (fun _ _ h => by exact h) (fun _ _ => ?_)
                                  all_goals (((with_reducible refine GE.part (t := 100) rfl (fun hg => ?_) (fun hg => ?_)) <;> (try exact Bool.noConfusion hg) <;> (try (exfalso; (have hq := of_decide_eq_true hg; omega))) <;> ((refine GE.q 11 rfl (by as_aux_lemma => kernel_rfl) rfl (qg_runs (rv_field rfl)) rfl ?_))))
                                  all_goals (((refine GE.q 12 rfl (by as_aux_lemma => kernel_rfl) rfl (qg_runs (rv_load1 1 rfl rfl rfl)) rfl ?_)))
                                  all_goals ((refine GE.q 13 rfl (by as_aux_lemma => kernel_rfl) rfl (qg_runs (rv_move rfl)) rfl ?_))
                                  all_goals (((refine GE.q 14 rfl (by as_aux_lemma => kernel_rfl) rfl (qg_runs (rv_indexH rfl rfl (by exact Rd.owned 3 rfl) rfl (by exact he))) rfl ?_)))
                                  all_goals (((refine GE.q 15 rfl (by as_aux_lemma => kernel_rfl) rfl (qg_runs (rv_fieldE rfl)) rfl ?_)))
                                  all_goals ((refine GE.q 16 rfl (by as_aux_lemma => kernel_rfl) rfl (qg_runs (rv_loadE rfl (by exact Rd.owned 3 rfl) (by exact he) rfl)) rfl ?_))
                                  all_goals (((refine GE.q 17 rfl (by as_aux_lemma => kernel_rfl) rfl (qg_runs (rv_field rfl)) rfl ?_)))
                                  all_goals (((refine GE.q 18 rfl (by as_aux_lemma => kernel_rfl) rfl (qg_runs (rv_load1 1 rfl rfl rfl)) rfl ?_)))
                                  all_goals ((refine GE.q 19 rfl (by as_aux_lemma => kernel_rfl) rfl (qg_runs (rv_move rfl)) rfl ?_))
                                  all_goals (((refine GE.q 20 rfl (by as_aux_lemma => kernel_rfl) rfl (qg_runs (rv_indexH rfl rfl (by exact Rd.owned 3 rfl) rfl (by exact he))) rfl ?_)))
                                  all_goals (((refine GE.q 21 rfl (by as_aux_lemma => kernel_rfl) rfl (qg_runs (rv_fieldE rfl)) rfl ?_)))
                                  all_goals ((refine GE.q 22 rfl (by as_aux_lemma => kernel_rfl) rfl (qg_runs (rv_loadE rfl (by exact Rd.owned 3 rfl) (by exact he) rfl)) rfl ?_))
                                  all_goals (((refine GE.q 23 rfl (by as_aux_lemma => kernel_rfl) rfl (qg_runs (rv_addB rfl rfl (by omega) (by omega))) rfl ?_)))
                                  all_goals (((refine GE.q 24 rfl (by as_aux_lemma => kernel_rfl) rfl (qg_runs (rv_field rfl)) rfl ?_)))
                                  all_goals (((refine GE.q 25 rfl (by as_aux_lemma => kernel_rfl) rfl (qg_runs (rv_field rfl)) rfl ?_)))
                                  all_goals (((refine GE.q 26 rfl (by as_aux_lemma => kernel_rfl) rfl (qg_runs (rv_load1 1 rfl rfl rfl)) rfl ?_)))
                                  all_goals ((refine GE.q 27 rfl (by as_aux_lemma => kernel_rfl) rfl (qg_runs (rv_gtr rfl rfl)) rfl ?_))
                                  all_goals ((refine GE.ol 28 (by as_aux_lemma => kernel_rfl) rfl rfl (og_runs (rv_pickF rfl rfl)) rfl (fun _ _ h => by exact h) (fun _ _ => ?_)))
                                  all_goals
                                   refine GE.done (by as_aux_lemma => kernel_rfl) ?_; refine G.thenN ?_; refine G.cond rfl (fun hc => ?_) (fun hc => ?_)
                                   · try exact Bool.noConfusion hc
                                     all_goals
                                      try replace hc := of_decide_eq_true hc
                                      try (exfalso; contradiction)
                                      all_goals
                                       refine G.seq (G.region (G.v (rv_assign rfl) rfl (G.done (G.thenN (G.ret (G.inR (G.thenR (G.thenR (G.inR (G.thenR ?_))))))))))
                                       exact G.retFV rfl rfl rfl
                                   · try exact Bool.noConfusion hc
                                     all_goals
                                      try replace hc := of_decide_eq_false hc
                                      try (exfalso; contradiction)
                                      all_goals
                                       refine G.skip (G.inN (G.thenN (G.region (G.v (rv_move rfl) rfl ?_)))); refine G.v (rv_incr rfl rfl (by omega)) rfl ?_; refine G.v (rv_assign rfl) rfl (G.done ?_); refine G.backK (j + 1) 0 rfl (.cons rfl (.nil)) ?_ ?_ ?_
                                       · exact ⟨rfl, trivial⟩
                                       · exact hlt
                                       · omega
                              · try exact Bool.noConfusion hc
                                all_goals
                                 try replace hc := of_decide_eq_false hc
                                 try (exfalso; omega)
                                 all_goals
                                  refine G.exit (G.thenX (G.thenX (G.inX (G.thenN (G.seq (G.region (G.v (rv_loadW 1 rfl rfl rfl) rfl ?_))))))); refine G.op (og_callV rfl rfl (fun w hh => orderText_any (r := r) (cls_okR hz).1 (cls_okR hz).2 w (ht.stays hh) (hdr.2.1 _ (by exact Rd.owned 4 rfl _ hh)) (by exact Rd.owned 3 rfl _ hh) (by exact Rd.owned 2 rfl _ hh))) rfl (fun _ _ => ?_); refine G.op (og_callV rfl rfl (fun w hh => classOf_any (l := textM r) (text_len hz) w (ht.stays hh) (hte.stays hh))) rfl (fun _ _ => ?_); refine G.v (rv_eql rfl rfl) rfl (G.v (rv_assign rfl) rfl (G.done (G.thenN (G.ret ?_))))
                                  (exact G.retFV rfl rfl (by simp_all; done))
end Go.Proofs.YtnfokjlplbbbeaaGreatDoor

/-
  The arguments of a law, opened: what can be read as data reads as lists of cells.
-/
namespace Go.Proofs.YtnfokjlplbbbeaaGreatDoor
open Go.RowKit Go.ChangeShapes Go.WideShapes Go.Deep

section
variable {H : Type} {enc : TypeId × Value → H} {P : Program} {w : World} {base : Nat} {spare : Nat → Bool} {held : Bool}

/-- Every element reads: then the slice reads as a list. -/
theorem open_rdQ {α : Type} (mk : α → List Value) (Q : α → Prop) {s : Nat} {t e : TypeId} {fuel : Nat} {v : Value} {x : DataW H × List MemPlace} (ht : P.underlying t = some (.slice e)) (hC : P.cellsOf e = s) (hs : 0 < s)
    (hel : ∀ n cs y, DataW.trod enc P w base spare held n e cs = some y → ∃ b : α, cs = mk b ∧ Q b) (hg : ∀ b, Q b → (mk b).length = s ∧ ∀ u ∈ mk b, u.oneCell' = true)
    (h : DataW.trod enc P w base spare held fuel t [v] = some x) : ∃ bs : List α, Rd w v s (bs.map mk) ∧ ∀ b ∈ bs, Q b := by
  rcases open_slice ht h with ⟨h0, _⟩ | ⟨a, len, cap, m, n, D, Pl, h0, hb, hl, hm, hmm, hx, hi⟩
  · simp only [List.cons.injEq, and_true] at h0
    subst h0
    exact ⟨[], Rd.nil_ w s, by simp⟩
  · simp only [List.cons.injEq, and_true] at h0
    subst h0
    have hlm : len ≤ m := by rw [hmm]; split <;> omega
    have hb : ∀ i, i < len → ∃ b : α, Q b ∧ ∀ j u, (mk b)[j]? = some u → w.cell? (a.add (i * s + j)) = some u := by
      intro i hil
      obtain ⟨cs', h1, h2⟩ := hi i (by omega)
      obtain ⟨b, rfl, hq⟩ := hel _ _ _ h2
      obtain ⟨_, hcl, hat⟩ := World.cells?_some h1
      rw [hC] at hat
      refine ⟨b, hq, fun j u hj => ?_⟩
      have hjl : j < s := by
        have := (hg b hq).1
        rcases Nat.lt_or_ge j (mk b).length with h | h
        · omega
        · rw [List.getElem?_eq_none h] at hj; cases hj
      have := hat j hjl
      rw [hj] at this
      rw [← Go.Deep.add_add]; exact this
    have hall : ∀ k, k ≤ len → ∃ bs : List α, bs.length = k ∧ (∀ b ∈ bs, Q b) ∧ ∀ i b, bs[i]? = some b → ∀ j u, (mk b)[j]? = some u → w.cell? (a.add (i * s + j)) = some u := by
      intro k
      induction k with
      | zero => intro _; exact ⟨[], rfl, by simp, by simp⟩
      | succ k ih =>
        intro hk
        obtain ⟨bs, hbl, hQ, hbs⟩ := ih (by omega)
        obtain ⟨b, hq, hb'⟩ := hb k (by omega)
        refine ⟨bs ++ [b], by simp [hbl], fun x hx => (by rcases List.mem_append.1 hx with hx | hx; · exact hQ x hx
                                                          · rw [List.mem_singleton.1 hx]; exact hq), fun i b' hib => ?_⟩
        rcases Nat.lt_or_ge i bs.length with hlt | hge
        · rw [List.getElem?_append_left hlt] at hib; exact hbs i b' hib
        · rw [List.getElem?_append_right hge] at hib
          have : i - bs.length = 0 := by
            rcases Nat.eq_zero_or_pos (i - bs.length) with h | h
            · exact h
            · rw [List.getElem?_eq_none (by simp; omega)] at hib; cases hib
          rw [this] at hib
          simp only [List.getElem?_cons_zero, Option.some.injEq] at hib
          subst hib
          have : i = k := by omega
          subst this
          exact hb'
    obtain ⟨bs, hbl, hQ, hbs⟩ := hall len (Nat.le_refl _)
    have hgood : ∀ e ∈ bs.map mk, e.length = s ∧ ∀ u ∈ e, u.oneCell' = true := by
      intro e he
      obtain ⟨b, hbm, rfl⟩ := List.mem_map.1 he
      exact hg b (hQ b hbm)
    have hsp : 0 < len → ∃ b o, a = ⟨b, o, none⟩ := by
      intro hpos
      have hb0 : 0 < bs.length := by omega
      have h0 : bs[0]? = some (bs[0]'hb0) := List.getElem?_eq_getElem hb0
      have hm0 : (mk (bs[0]'hb0))[0]? = some ((mk (bs[0]'hb0))[0]'(by have := (hg (bs[0]'hb0) (hQ _ (List.getElem_mem hb0))).1; omega)) := List.getElem?_eq_getElem _
      have := hbs 0 _ h0 0 _ hm0
      obtain ⟨ab, ao, asp⟩ := a
      cases asp with
      | none => exact ⟨ab, ao, rfl⟩
      | some q =>
        simp [World.cell?, Addr.add] at this
        split at this <;> cases this
    refine ⟨bs, ⟨⟨some a, cap, by simp [hbl], by simpa [hbl] using hl, hm, fun hpos => ?_⟩, hgood, ?_⟩, hQ⟩
    · obtain ⟨b, o, rfl⟩ := hsp (by simpa [hbl] using hpos)
      exact ⟨b, o, rfl⟩
    · intro j u hj
      have hlen := flatten_len (es := bs.map mk) (fun e he => (hgood e he).1)
      have hjl : j < bs.length * s := by
        rcases Nat.lt_or_ge j ((bs.map mk).flatten.length) with h | h
        · rw [hlen] at h; simpa using h
        · rw [List.getElem?_eq_none h] at hj; cases hj
      have hpos : 0 < len := by
        rcases Nat.eq_zero_or_pos bs.length with h | h
        · rw [h] at hjl; omega
        · omega
      obtain ⟨b, o, rfl⟩ := hsp hpos
      have hk : j / s < bs.length := (Nat.div_lt_iff_lt_mul hs).2 hjl
      have hbk : bs[j / s]? = some (bs[j / s]'hk) := List.getElem?_eq_getElem hk
      have hc : j % s < (mk (bs[j / s]'hk)).length := by rw [(hg _ (hQ _ (List.getElem_mem hk))).1]; exact Nat.mod_lt _ hs
      have hck := List.getElem?_eq_getElem hc
      have h1 := hbs _ _ hbk _ _ hck
      have h2 := flatten_get (fun e he => (hgood e he).1) (k := j / s) (by rw [List.getElem?_map, hbk]; rfl) hck
      rw [show j / s * s + j % s = j from by rw [Nat.mul_comm]; exact Nat.div_add_mod j s] at h1 h2
      rw [h2] at hj
      simp only [Option.some.injEq] at hj
      subst hj
      simpa [blkOf, offOf, Addr.add_lit] using h1

theorem open_rd {α : Type} (mk : α → List Value) {s : Nat} {t e : TypeId} {fuel : Nat} {v : Value} {x : DataW H × List MemPlace} (ht : P.underlying t = some (.slice e)) (hC : P.cellsOf e = s) (hs : 0 < s)
    (hel : ∀ n cs y, DataW.trod enc P w base spare held n e cs = some y → ∃ b : α, cs = mk b) (hg : ∀ b, (mk b).length = s ∧ ∀ u ∈ mk b, u.oneCell' = true)
    (h : DataW.trod enc P w base spare held fuel t [v] = some x) : ∃ bs : List α, Rd w v s (bs.map mk) := by
  obtain ⟨bs, hb, _⟩ := open_rdQ mk (fun _ => True) ht hC hs (fun n cs y hy => by obtain ⟨b, hb⟩ := hel n cs y hy; exact ⟨b, hb, trivial⟩) (fun b _ => hg b) h
  exact ⟨bs, hb⟩

section
variable {t ti e t3 : TypeId} {fs : Array Field} {fuel : Nat} {cs : List Value} {x : DataW H × List MemPlace}
end
/-- All fields are int64. -/
def intsB (P : Program) (t : TypeId) (n : Nat) : Bool :=
  match P.underlying t with
  | some (.struct fs) => fs.size == n && oneCellFields P fs && P.cellsOf t == n && fs.toList.all fun f => match P.underlying f.type with | some (.int .i64) => true | _ => false
  | _ => false

theorem open_slv {r : Reach} {b0 : Nat} {t e : TypeId} {v : Value} {d : DataW H} {p : List MemPlace} (hs : P.underlying t = some (.slice e)) (hv : Value.okWide P w r b0 t v) (h : DataW.Trod enc P w base spare held t v d p) :
    ∃ fuel : Nat, DataW.trod enc P w base spare held fuel t [v] = some (d, p) := by
  obtain ⟨a, l, c, rfl⟩ := okWide_slice hs hv
  obtain ⟨fuel, hf⟩ := h
  exact ⟨fuel, hf⟩
end
end Go.Proofs.YtnfokjlplbbbeaaGreatDoor

/-
  What a row's listed variables hold, as the walks ask it; the door's own heap meets the list.
-/
namespace Go.Proofs.YtnfokjlplbbbeaaGreatDoor
open Go.RowKit Go.ChangeAt
namespace LaidF
theorem gP : Tryz.prog.globalNamed "internal/strconv.uint64pow10" = some 1 := by kernel_rfl
theorem gPT : (Tryz.prog.globals[1]?).map (·.type) = some 145 := by kernel_rfl
theorem cP : Tryz.prog.cellsOf 114 = 1 := by kernel_rfl
theorem cPT : Tryz.prog.cellsOf 145 = 20 := by kernel_rfl
theorem eP : (Rows.laid_internal_strconv_uint64pow10 : DataW Unit) = Lib.tabData .u64 Lib.pow10Tab := by kernel_rfl
theorem tabI {W : World} {r : List (String × DataW Unit)} (h : laidMet Tryz.prog (("internal/strconv.uint64pow10", Rows.laid_internal_strconv_uint64pow10) :: r) W) : TabI W := by
  rw [eP] at h
  exact Lib.tabIs_of_head gP gPT Tryz.underlying145 Tryz.underlying114 cP cPT h
theorem gS : Tryz.prog.globalNamed "strconv.ErrSyntax" = some 2 := by kernel_rfl
theorem gST : (Tryz.prog.globals[2]?).map (·.type) = some 95 := by kernel_rfl
theorem gR : Tryz.prog.globalNamed "strconv.ErrRange" = some 3 := by kernel_rfl
theorem gRT : (Tryz.prog.globals[3]?).map (·.type) = some 95 := by kernel_rfl
theorem cE : Tryz.prog.cellsOf 156 = 1 := by kernel_rfl
theorem cS : Tryz.prog.cellsOf 9 = 1 := by kernel_rfl
theorem star : "*" ++ "errors.errorString" = "*errors.errorString" := by decide
theorem rowP (u : TypeId) (h : Tryz.prog.typeName? 3 u = some "*errors.errorString") : u = 154 :=
  typeName_ptr_named (nm := "errors.errorString") (by rw [star]; kernel_rfl) (by kernel_rfl) (by decide) u (by rw [star]; exact h)
theorem tabE {W : World} {r : List (String × DataW Unit)} (h : laidMet Tryz.prog (("strconv.ErrRange", Rows.laid_strconv_ErrRange) :: ("strconv.ErrSyntax", Rows.laid_strconv_ErrSyntax) :: r) W) : TabE W := by
  obtain ⟨a0, s0, hv0, _, _, _⟩ := laid_sentinel h gR gRT Tryz.underlying95 rowP Tryz.underlying154 Tryz.underlying156 rfl rfl Tryz.underlying9 cE cS
  obtain ⟨a1, s1, hv1, _, _, _⟩ := laid_sentinel h.tail gS gST Tryz.underlying95 rowP Tryz.underlying154 Tryz.underlying156 rfl rfl Tryz.underlying9 cE cS
  exact ⟨⟨_, _, hv1⟩, ⟨_, _, hv0⟩⟩
end LaidF
end Go.Proofs.YtnfokjlplbbbeaaGreatDoor
