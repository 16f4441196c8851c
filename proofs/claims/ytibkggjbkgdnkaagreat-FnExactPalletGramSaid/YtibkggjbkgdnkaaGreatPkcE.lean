/-
  Texts of this proof, one behind the other: Grp4, ShelfP, FitM, DelF, RoomW, IsPackM, LaySort, SortG, OpenT, TblSS, IsPackW, IsPackX, BoxO, Plan, Plan2, OnP.
-/
import Derived.Test.YtibkggjbkgdnkaaGreatPkcD
import Derived.Test.YtibkggjbkgdnkaaGreatPkcB
import Derived.Test.YtibkggjbkgdnkaaGreatPkcC
import Derived.Shelf.Sort.Plain
import Derived.Test.YtibkggjbkgdnkaaGreatProg
import Derived.Sort.OwnSortedInts
import Derived.Test.YtibkggjbkgdnkaaGreatPkcA

/-
  Kinds that are put into groups: the program's way.
-/
namespace Go.Proofs.YtibkggjbkgdnkaaGreat
open Go.RowKit
attribute [local irreducible] Go.wpList Go.Code.wp Go.Exit.then Go.Exit.inBlock Go.bodyPost Go.Calls pE pB G RunsV FnV Fn FnM
set_option maxRecDepth 100000
set_option maxHeartbeats 4000000
theorem push_sub {ts : List (List Int × Value)} {x : Int} {v : Value} : (ts.map (sub id)) ++ [(v, [[Value.int .i64 x]])] = (ts ++ [([x], v)]).map (sub id) := by
  rw [List.map_append]; rfl
theorem push_g {ts : List (List Int × Value)} {x : Int} {v : Value} : ts.map gcell ++ [[v]] = (ts ++ [([x], v)]).map gcell := by
  rw [List.map_append]; rfl
theorem into_sub {ts : List (List Int × Value)} {x : Int} {q : Nat} {b : List Int × Value} {v : Value} : (ts.map (sub id)).set q (v, b.1.map icell ++ [[Value.int .i64 x]]) = (ts.set q (b.1 ++ [x], v)).map (sub id) := by
  rw [List.map_set]; simp [sub, icell]
theorem into_g {ts : List (List Int × Value)} {x : Int} {q : Nat} {b : List Int × Value} {v : Value} : (ts.map gcell).set q [v] = (ts.set q (b.1 ++ [x], v)).map gcell := by
  rw [List.map_set]; rfl
theorem GE.know {P : Program} {ops : Array Oper} {Q : Exit → Act → World → Prop} {qs : List Nat} {n : Nat} {w0 : World} {HC : List Ch} {f : Nat} {listed : Array Bool} {fr : Fr} {H : List Ch} {p : Prop} (hp : ∀ w, HeapOk w0 w H → p) (h : p → GE P ops Q qs n w0 HC f listed fr H) : GE P ops Q qs n w0 HC f listed fr H := G.know hp h
end Go.Proofs.YtibkggjbkgdnkaaGreat

/-
  Boxes that are put on shelves, the deepest first: no program is in sight here.
-/
namespace Go.Proofs.YtibkggjbkgdnkaaGreat
open Go.RowKit
def keyM (ks : List Int) (i : Nat) : Int := -(ks.getD i 0)
def shelfRoom (p : PalletM) (t : ShelfM) (b : BoxM) : Bool := decide (t.w + b.w ≤ p.w) && decide (t.g + b.g ≤ p.g)
def shelfAdd (t : ShelfM) (k : Nat) (b : BoxM) : ShelfM := ⟨t.l ++ [(k : Int)], t.w + b.w, max t.d b.d, max t.h b.h, t.g + b.g⟩
def shelfZ : ShelfM := ⟨[], 0, 0, 0, 0⟩
def boxAt (l : List BoxM) (i : Nat) : BoxM := l.getD i ⟨0, 0, 0, 0⟩
def shelfXs (l : List BoxM) : List (BoxM × Nat) := (ordM (keyM (l.map BoxM.d)) l.length).map fun i => (boxAt l i, i)
def shelvesM (p : PalletM) (l : List BoxM) : List ShelfM := if boxesOkM p l then pile (shelfRoom p) shelfAdd shelfZ (shelfXs l) else []
end Go.Proofs.YtibkggjbkgdnkaaGreat

/-
  Units that are put into cartons: what is put where. No program is in sight here.
-/
namespace Go.Proofs.YtibkggjbkgdnkaaGreat
open Go.RowKit
/-- Whether a unit is there. -/
def hereM (r : ReqM) (u : Int) : Bool := inB u 0 (((unitsM r).length : Int) - 1)
/-- The units that are there. -/
def thereM (r : ReqM) (us : List Int) : List Int := us.filter (hereM r)
theorem thereM_len (r : ReqM) (us : List Int) : (thereM r us).length ≤ us.length := List.length_filter_le _ _
/-- Whether units are at most what the master carton holds. -/
def holdsM (r : ReqM) (us : List Int) : Bool := decide (volUS r us ≤ volM (mst r).w (mst r).h (mst r).d) && decide (gramM r us ≤ (mst r).g)
/-- Whether there is room for a unit more. -/
def roomM (r : ReqM) (g : List Int) (u : Int) : Bool := decide (classM r = 0) && holdsM r (g ++ [u])
theorem room_yes {r : ReqM} (h : classM r = 0) (g : List Int) (u : Int) : roomM r g u = holdsM r (g ++ [u]) := by rw [roomM, decide_eq_true h, Bool.true_and]
/-- x is put into the last list if p holds of it, or into a list of its own. -/
def lastM (p : List Int → Bool) (l : List (List Int)) (x : Int) : List (List Int) := match l.getLast? with
  | some g => if p g then l.set (l.length - 1) (g ++ [x]) else l ++ [[x]]
  | none => l ++ [[x]]
def lastAll (p : List Int → Int → Bool) (l : List Int) : List (List Int) := l.foldl (fun out x => lastM (fun g => p g x) out x) []
/-- The cartons of next fit. -/
def nextM (r : ReqM) (us : List Int) : List (List Int) := lastAll (roomM r) (thereM r us)
/-- Units by their volume, the greatest first. -/
def ordU (r : ReqM) (t : List Int) : List Int := (ordM (keyM (t.map (vOf r))) t.length).map (fun i => t.getD i 0)
/-- The cartons of first fit. -/
def firstM (r : ReqM) (us : List Int) : List (List Int) := putAll (roomM r) (ordU r (thereM r us))
end Go.Proofs.YtibkggjbkgdnkaaGreat

/-
  Numbers that are struck out of a list; the units that are there.
-/
namespace Go.Proofs.YtibkggjbkgdnkaaGreat
open Go.RowKit
attribute [local irreducible] Go.wpList Go.Code.wp Go.Exit.then Go.Exit.inBlock Go.bodyPost Go.Calls pE pB G RunsV FnV Fn FnM
set_option maxRecDepth 100000
set_option maxHeartbeats 4000000
def keptM (p : Int → Bool) (l : List Int) (j : Nat) : List Int := (l.take j).filter fun x => !p x
theorem kept_yes {p : Int → Bool} {l : List Int} {j : Nat} {b : Int} (hb : l[j]? = some b) (h : (!p b) = true) : keptM p l (j + 1) = keptM p l j ++ [b] := by
  simp only [keptM, List.take_add_one, hb, Option.toList_some, List.filter_append, List.filter_cons, h, List.filter_nil, if_true]
theorem kept_no {p : Int → Bool} {l : List Int} {j : Nat} {b : Int} (hb : l[j]? = some b) (h : (!p b) = false) : keptM p l (j + 1) = keptM p l j := by
  simp [keptM, List.take_add_one, hb, List.filter_append, List.filter_cons, h]
theorem kept_len (p : Int → Bool) (l : List Int) (j : Nat) : (keptM p l j).length ≤ j := by
  have h1 := List.length_filter_le (fun x => !p x) (l.take j)
  have h2 := List.length_take_le j l
  rw [keptM]; omega
theorem kept_all {p : Int → Bool} {l : List Int} {j : Nat} (h : l.length ≤ j) : keptM p l j = l.filter fun x => !p x := by rw [keptM, List.take_of_length_le h]
theorem kept_first {p : Int → Bool} {l : List Int} {k : Nat} {b : Int} (h : (l.take k).any p = false) (hb : l[k]? = some b) (hp : p b = true) : keptM p l (k + 1) = l.take k := by
  rw [kept_no hb (by rw [hp]; rfl), keptM, List.filter_eq_self.2 (fun x hx => by have := List.any_eq_false.1 h x hx; simpa using this)]
/-- The row while numbers are struck out of it. -/
def keptRow (p : Int → Bool) (l : List Int) (j : Nat) : List Int := keptM p l j ++ l.drop (keptM p l j).length
theorem keptRow_len {p : Int → Bool} {l : List Int} {j : Nat} (h : j ≤ l.length) : (keptRow p l j).length = l.length := by
  have := kept_len p l j
  rw [keptRow, List.length_append, List.length_drop]; omega
theorem keptRow_get {p : Int → Bool} {l : List Int} {j i : Nat} (h : (keptM p l j).length ≤ i) : (keptRow p l j)[i]? = l[i]? := by
  rw [keptRow, List.getElem?_append_right h, List.getElem?_drop]; congr 1; omega
theorem keptRow_set {p : Int → Bool} {l : List Int} {j : Nat} {b : Int} (hb : l[j]? = some b) (h : (!p b) = true) : (keptRow p l j).set (keptM p l j).length b = keptRow p l (j + 1) := by
  have hk := (List.getElem?_eq_some_iff.1 hb).1
  have hl := kept_len p l j
  rw [keptRow, keptRow, kept_yes hb h, List.set_append_right _ _ (Nat.le_refl _), Nat.sub_self, List.length_append, List.append_assoc]
  congr 1
  rw [List.drop_eq_getElem_cons (show (keptM p l j).length < l.length by omega), List.set_cons_zero]
  rfl
theorem kept_cut {p : Int → Bool} {l : List Int} {j q : Nat} {z : List Value} : ((((keptRow p l j).map icell).take (keptM p l j).length) ++ List.replicate q z).take (keptM p l j).length = (keptM p l j).map icell := by
  have e : ((keptRow p l j).map icell).take (keptM p l j).length = (keptM p l j).map icell := by
    rw [← List.map_take, keptRow, List.take_left']; rfl
  rw [e, List.take_left']; simp
theorem kept_begin {p : Int → Bool} {l : List Int} {k : Nat} {b : Int} (h : (l.take k).any p = false) (hb : l[k]? = some b) (hp : p b = true) : keptRow p l (k + 1) = l := by
  have hk := (List.getElem?_eq_some_iff.1 hb).1
  rw [keptRow, kept_first h hb hp, List.length_take, Nat.min_eq_left (by omega), List.take_append_drop]
section
variable {w0 : World} {F : List Ch} {v : Value}
theorem deleteFunc_any {g : Nat} [FnOk Tryz.prog g] {cap : List Value} {l : List Int} {p : Int → Bool} (hn : l.length ≤ 1048576) (hf : ∀ (w' : World) (x : Int), HeapOk w0 w' F → FnV Tryz.prog g ([.int .i64 x] ++ cap) w' (.bool (p x))) :
    FnMF Tryz.prog 160 [v, .func (.func g) #[] cap.toArray] w0 [.row v 3 1 (l.map icell)] F (fun x : Value => x.oneCell' = true) (fun x => x) (fun x => [.row x 3 1 ((l.filter fun x => !p x).map icell)]) := by
  have hln : (l.map icell).length = l.length := by simp
  refine FnMF.of (n := 42) Tryz.func160 rfl rfl ?_; refine G.know (fun w hw => (Rd.owned 0 rfl w hw).one_) (fun hone => ?_); refine G.seq ?_; refine G.region ?_; refine G.v (rv_assign rfl) rfl ?_; refine G.done ?_; refine G.thenN ?_; refine G.seq ?_; refine G.region ?_; refine G.v (rv_move rfl) rfl ?_; refine G.v (rv_move rfl) rfl ?_; refine G.op (og_callV rfl rfl (fun w hh => indexInt_any (l := l) (p := p) w (Rd.owned 0 rfl _ hh) (fun w' k b hw _ => hf w' b ((hh.call hw).sublist (List.sublist_cons_self _ _))))) rfl (fun _ _ => ?_); refine G.v (rv_assign rfl) rfl ?_; refine G.done ?_; refine G.thenN ?_; refine G.seq ?_; refine G.seq ?_; refine G.region ?_; refine G.v (rv_move rfl) rfl ?_; refine G.v (rv_eql rfl rfl) rfl ?_; refine G.done ?_; refine G.thenN ?_; refine G.cond rfl (fun hc => ?_) (fun hc => ?_)
  · try exact Bool.noConfusion hc
    all_goals
     try replace hc := of_decide_eq_true hc
     try simp only [List.length_map] at hc
     try (exfalso; contradiction)
     all_goals
      have hall : l.filter (fun x => !p x) = l := (by rcases idx_cases p l with ⟨_, e⟩ | ⟨k, b, e, _⟩; (exact List.filter_eq_self.2 (fun x hx => by have := List.any_eq_false.1 e x hx; simpa using this)); (exfalso; omega))
      all_goals
       refine G.seq ?_; refine G.region ?_; refine G.v (rv_move rfl) rfl ?_; refine G.v (rv_assign rfl) rfl ?_; refine G.done ?_; refine G.thenN ?_; refine G.ret ?_; refine G.thenR ?_
       (exact G.retF v hone rfl rfl rfl (fun w hw => by rw [hall]; exact hw))
  · try exact Bool.noConfusion hc
    all_goals
     try replace hc := of_decide_eq_false hc
     try simp only [List.length_map] at hc
     try (exfalso; contradiction)
     all_goals
      obtain ⟨k0, b0, hq, hb0, hp0, hbt⟩ : ∃ (k : Nat) (b : Int), idxM p l = (k : Int) ∧ l[k]? = some b ∧ p b = true ∧ (l.take k).any p = false := (by rcases idx_cases p l with ⟨e, _⟩ | e; (exfalso; omega); (exact e))
      have hk0 := (List.getElem?_eq_some_iff.1 hb0).1
      all_goals
       refine G.skip ?_; refine G.thenN ?_; refine G.seq ?_; refine G.seq ?_; refine G.region ?_; refine G.v (rv_move rfl) rfl ?_; refine G.v (rv_addB rfl rfl (by omega) (by omega)) rfl ?_; refine G.v (rv_assign rfl) rfl ?_; refine G.done ?_; refine G.thenN ?_; refine G.block ?_
       -- loop 0: turned [5, 6], kept [0, 1]
       refine G.rowEq ((keptRow p l (k0 + 1)).map icell) (by rw [kept_begin hbt hb0 hp0]) rfl ?_
       have hD0 : (keptM p l (k0 + 1)).length = k0 := by rw [kept_first hbt hb0 hp0, List.length_take]; omega
       refine G.loopK (ι := Nat) (ks := [0, 1]) (fun j => [(5, .int .i64 ((keptM p l j).length : Int)), (6, .int .i64 (j : Int))]) (fun j => [.row v 3 1 ((keptRow p l j).map icell)]) (fun j => j ≤ l.length ∧ (keptM p l j).length + 1 ≤ j) (fun j => l.length - j) (k0 + 1) (.cons rfl (.cons rfl (.nil))) rfl ?_ ?_ ?_
       · exact ⟨by omega, by rw [hD0]; omega⟩
       · exact ⟨congrArg (fun z => some (Value.int .i64 z)) (by rw [hD0]; exact hq), congrArg (fun z => some (Value.int .i64 z)) (by rw [hq]; rfl), trivial⟩
       rintro j ⟨hj, hD⟩
       have hrl := keptRow_len (p := p) hj
       have hrl2 : ((keptRow p l j).map icell).length = l.length := by rw [List.length_map, hrl]
       by_cases hlt : j < l.length
       case' pos => (obtain ⟨b, hb⟩ := get_of_lt hlt; have e1 : ((keptRow p l j).map icell)[j]? = some (icell b) := get_map (by rw [keptRow_get (by omega)]; exact hb) icell; obtain ⟨c3, hc3⟩ := get_of_lt (l := keptRow p l j) (k := (keptM p l j).length) (by omega); have e3 := get_map hc3 icell)
       all_goals
        refine G.seq ?_; refine G.seq ?_; refine G.region ?_; refine G.v (rv_move rfl) rfl ?_; refine G.v (rv_move rfl) rfl ?_; refine G.v (rv_len rfl (by exact Rd.owned 0 rfl)) rfl ?_; refine G.v (rv_lss rfl rfl) rfl ?_; refine G.done ?_; refine G.thenN ?_; refine G.cond rfl (fun hc => ?_) (fun hc => ?_)
        · try exact Bool.noConfusion hc
          all_goals
           try replace hc := of_decide_eq_true hc
           try simp only [List.length_map] at hc
           try (exfalso; omega)
           all_goals
            refine G.skip ?_; refine G.thenN ?_; refine G.seq ?_; refine G.block ?_; refine G.seq ?_; refine G.region ?_; refine G.v (rv_move rfl) rfl ?_; refine G.v (rv_move rfl) rfl ?_
            (refine G.v (rv_indexH rfl rfl (by exact Rd.owned 0 rfl) rfl (by exact e1)) rfl ?_)
            refine G.v (rv_loadE rfl (by exact Rd.owned 0 rfl) (by exact e1) rfl) rfl ?_; refine G.v (rv_assign rfl) rfl ?_; refine G.done ?_; refine G.thenN ?_; refine G.seq ?_; refine G.region ?_; refine G.v (rv_move rfl) rfl ?_; refine G.v (rv_move rfl) rfl ?_; refine G.op (og_callV rfl rfl (fun w hh => hf w b (hh.drop 1))) rfl (fun _ _ => ?_); refine G.v (rv_not rfl) rfl ?_; refine G.done ?_; refine G.thenN ?_; refine G.cond rfl (fun hc => ?_) (fun hc => ?_)
            · try exact Bool.noConfusion hc
              all_goals
               try replace hc := of_decide_eq_true hc
               try simp only [List.length_map] at hc
               try (exfalso; contradiction)
               all_goals
                refine G.seq ?_; refine G.region ?_; refine G.v (rv_move rfl) rfl ?_; refine G.v (rv_move rfl) rfl ?_; refine G.v (rv_move rfl) rfl ?_
                (refine G.v (rv_indexH rfl rfl (by exact Rd.owned 0 rfl) rfl (by exact e3)) rfl ?_)
                (refine G.op0 (og_stE0 rfl rfl rfl (by exact e3) rfl rfl rfl rfl (.zero (.cons .nil))) (fun _ _ => ?_))
                refine G.done ?_; refine G.thenN ?_; refine G.region ?_; refine G.v (rv_move rfl) rfl ?_
                (refine G.v (rv_incr rfl rfl (by omega)) rfl ?_)
                refine G.v (rv_assign rfl) rfl ?_; refine G.done ?_; refine G.inN ?_; refine G.thenN ?_; refine G.region ?_; refine G.v (rv_move rfl) rfl ?_
                (refine G.v (rv_incr rfl rfl (by omega)) rfl ?_)
                refine G.v (rv_assign rfl) rfl ?_; refine G.done ?_; refine G.backK (j + 1) 0 (by exact one_eq (congrArg (fun z => Ch.row v 3 1 z) ((List.map_set (f := icell)).symm.trans (congrArg (List.map icell) (keptRow_set hb hc))))) (.cons rfl (.cons rfl (.nil))) ?_ ?_ ?_
                · (exact ⟨congrArg (fun z : Nat => some (Value.int .i64 (z : Int))) (by rw [kept_yes hb hc, List.length_append]; rfl), rfl, trivial⟩)
                · refine ⟨by omega, ?_⟩; (rw [kept_yes hb hc, List.length_append]; simp; omega)
                · omega
            · try exact Bool.noConfusion hc
              all_goals
               try replace hc := of_decide_eq_false hc
               try simp only [List.length_map] at hc
               try (exfalso; contradiction)
               all_goals
                refine G.skip ?_; refine G.inN ?_; refine G.thenN ?_; refine G.region ?_; refine G.v (rv_move rfl) rfl ?_
                (refine G.v (rv_incr rfl rfl (by omega)) rfl ?_)
                refine G.v (rv_assign rfl) rfl ?_; refine G.done ?_
                (refine G.backK (j + 1) 0 (by (exact one_eq (congrArg (fun z : List Int => Ch.row v 3 1 (z.map icell)) (show keptRow p l j = keptRow p l (j + 1) by simp only [keptRow]; rw [kept_no hb hc])))) (.cons rfl (.cons rfl (.nil))) ?_ ?_ ?_)
                · exact ⟨congrArg (fun z : Nat => some (Value.int .i64 (z : Int))) (by rw [kept_no hb hc]), rfl, trivial⟩
                · refine ⟨by omega, ?_⟩; (rw [kept_no hb hc]; omega)
                · omega
        · try exact Bool.noConfusion hc
          all_goals
           try replace hc := of_decide_eq_false hc
           try simp only [List.length_map] at hc
           try (exfalso; omega)
           all_goals
            refine G.exit ?_; refine G.thenX ?_; refine G.thenX ?_; refine G.inX ?_; refine G.thenN ?_; refine G.seq ?_; refine G.region ?_; refine G.v (rv_move rfl) rfl ?_; refine G.v (rv_move rfl) rfl ?_; refine G.v (rv_sliceL rfl rfl (by exact Rd.owned 0 rfl) (by omega)) rfl ?_; refine G.op0 (og_clear0 ((keptM p l j).length) rfl rfl rfl (by omega) rfl) (fun _ _ => ?_); refine G.done ?_; refine G.thenN ?_; refine G.seq ?_; refine G.region ?_; refine G.v (rv_move rfl) rfl ?_; refine G.v (rv_move rfl) rfl ?_; refine G.v (rv_sliceH rfl rfl (Rd.owned 0 rfl) (by simp; omega)) rfl ?_; refine G.v (rv_assign rfl) rfl ?_; refine G.done ?_; refine G.thenN ?_; refine G.ret ?_
            (refine G.cutRow (keptM p l j).length (by simp; omega) rfl ?_; refine G.know (fun w hw => (Rd.owned 0 rfl w hw).one_) (fun hone2 => ?_); exact G.retF _ hone2 rfl rfl rfl (fun w hw => by rw [kept_cut] at hw; rw [← kept_all (p := p) (l := l) (j := j) (by omega)]; exact hw))
end
theorem thereOf1_any (x : Int) (n : Nat) {q : Nat} (w : World) (h : Rd w (.slice (some ⟨q, 0, none⟩) 1 1) 1 [[.int .i64 (n : Int)]]) (hn : n ≤ 1048576) : FnV Tryz.prog 161 [.int .i64 x, pB q 0] w (.bool (!inB x 0 ((n : Int) - 1))) := by
  rw [pB_eq_pE q 1]
  refine FnV.of (n := 9) Tryz.func161 rfl rfl ?_; refine G.seq ?_; refine G.region ?_; refine G.v (rv_assign rfl) rfl ?_; refine G.done ?_; refine G.thenN ?_; refine G.seq ?_; refine G.region ?_; refine G.v (rv_move rfl) rfl ?_
  (refine G.v (rv_loadE rfl (by exact Rd.stays (by assumption)) rfl rfl) rfl ?_)
  refine G.v (rv_subB rfl rfl (by omega) (by omega)) rfl ?_; refine G.op (og_callV rfl rfl (fun w _ => in_any _ _ _ w)) rfl (fun _ _ => ?_); refine G.v (rv_not rfl) rfl ?_; refine G.v (rv_assign rfl) rfl ?_; refine G.done ?_; refine G.thenN ?_; refine G.ret ?_
  exact G.retFV rfl rfl rfl
theorem req_all {r : ReqM} {pv tv iv : Value} (h : pv.oneCell' = true) (h2 : tv.oneCell' = true) (h3 : iv.oneCell' = true) : (r.cells pv tv iv).all Value.oneCell' = true := by
  simp only [ReqM.cells, List.all_cons, List.all_nil, Bool.and_true, h, h2, h3]; rfl
theorem there_eq {r : ReqM} {us : List Int} {n : Nat} (hn : n = (unitsM r).length) : us.filter (fun x => !(!inB x 0 ((n : Int) - 1))) = thereM r us := by
  subst hn
  rw [thereM]
  refine List.filter_congr (fun x _ => ?_)
  rw [Bool.not_not]; rfl
theorem thereOf_any {r : ReqM} {pv tv iv uv : Value} {us : List Int} (w : World) (h : Rd w pv 2 (r.pairs.map PairM.cells)) (h2 : Rd w tv 7 (r.types.map TypeM.cells)) (h3 : Rd w iv 7 (r.items.map ItemM.cells)) (h4 : Rd w uv 1 (us.map icell)) (hul : us.length ≤ 1048576) :
    Fn Tryz.prog 100 [.agg (r.cells pv tv iv).toArray, uv] w (fun v : Value => v.oneCell' = true) (fun v => v) (fun v => [.row v 3 1 ((thereM r us).map icell)]) := by
  have hun := unitsM_len r
  have hun2 : ((unitsM r).map ncell).length = (unitsM r).length := by simp
  refine Fn.of (n := 13) Tryz.func100 rfl rfl ?_; refine G.seq ?_; refine G.region ?_; refine G.op (og_box rfl rfl) rfl (fun bk2 _ => ?_); refine G.v (rv_assign rfl) rfl ?_; refine G.done ?_; refine G.thenN ?_; refine G.seq ?_; refine G.region ?_
  (refine G.v (rv_loadW 0 rfl rfl rfl) rfl ?_)
  (refine G.op (og_callF1 rfl rfl (fun w hh => units_any (r := r) w (Rd.stays h _ hh) (Rd.stays h2 _ hh) (Rd.stays h3 _ hh))) rfl ?_; rintro vu hvu; try dsimp only)
  refine G.v (rv_len rfl (by exact Rd.owned 0 rfl)) rfl ?_; refine G.op (og_alloc) rfl (fun bk5 _ => ?_)
  (refine G.op0 (og_st0 rfl rfl rfl rfl rfl rfl (.zero (.cons .nil))) (fun _ _ => ?_))
  refine G.done ?_; refine G.thenN ?_; refine G.seq ?_; refine G.region ?_; refine G.v (rv_move rfl) rfl ?_
  (refine G.op (og_callF1 rfl rfl (fun w hh => clone_any w (Rd.stays h4 _ hh) hul)) rfl ?_; rintro v1 hv1; try dsimp only)
  refine G.v (rv_makeFunc rfl rfl) rfl ?_
  ((refine G.frontR0 (v1) rfl ?_); refine G.op (og_callMM1 rfl rfl rfl (deleteFunc_any (l := us) (p := fun x => !inB x 0 ((((unitsM r).map ncell).length : Int) - 1)) hul (fun w' x hw => thereOf1_any x ((unitsM r).map ncell).length w' (by exact Rd.ofBlk 0 rfl rfl w' hw) (by omega)))) rfl ?_; rintro v2 hv2; try dsimp only)
  refine G.v (rv_assign rfl) rfl ?_; refine G.done ?_; refine G.thenN ?_; refine G.ret ?_
  exact G.retF v2 hv2 rfl rfl rfl (fun w hw => by rw [there_eq hun2] at hw; exact hw.sublist (by repeat (first | exact List.Sublist.refl _ | refine List.Sublist.cons_cons _ ?_ | refine List.Sublist.cons _ ?_)))
theorem known_yes {r : ReqM} {us : List Int} {k : Nat} {u : Int} (hb : us[k]? = some u) (h : hereM r u = true) : (thereM r (us.take k)).map icell ++ [[.int .i64 u]] = (thereM r (us.take (k + 1))).map icell := by
  simp [thereM, List.take_add_one, hb, List.filter_append, List.filter_cons, h, icell]
theorem known_no {r : ReqM} {us : List Int} {k : Nat} {u : Int} (hb : us[k]? = some u) (h : hereM r u = false) : (thereM r (us.take k)).map icell = (thereM r (us.take (k + 1))).map icell := by
  simp [thereM, List.take_add_one, hb, List.filter_append, List.filter_cons, h]
theorem l7Known_any {r : ReqM} {av uv : Value} {us : List Int} (w : World) (h5 : Rd w av 1 ((unitsM r).map ncell)) (h4 : Rd w uv 1 (us.map icell)) (hul : us.length ≤ 1048576) :
    Fn Tryz.prog 99 [av, uv] w (fun v : Value => v.oneCell' = true) (fun v => v) (fun v => [.row v 3 1 ((thereM r us).map icell)]) := by
  have hun := unitsM_len r
  have hun2 : ((unitsM r).map ncell).length = (unitsM r).length := by simp
  have hul2 : (us.map icell).length = us.length := by simp
  refine Fn.of (n := 30) Tryz.func99 rfl rfl ?_; refine G.seq ?_; refine G.region ?_; refine G.v (rv_assign rfl) rfl ?_; refine G.done ?_; refine G.thenN ?_; refine G.seq ?_; refine G.region ?_; refine G.op (og_lit rfl .nil rfl rfl rfl rfl rfl rfl) rfl (fun vl _ => ?_); refine G.v (rv_assign rfl) rfl ?_; refine G.done ?_; refine G.thenN ?_; refine G.seq ?_; refine G.seq ?_; refine G.region ?_; refine G.v (rv_assign rfl) rfl ?_; refine G.done ?_; refine G.thenN ?_; refine G.block ?_
  -- loop 0: turned [5, 6], kept [0, 1]
  refine G.loopK (ι := Nat × Value) (ks := [0, 1]) (fun x => [(5, x.2), (6, .int .i64 (x.1 : Int))]) (fun x => [.row x.2 3 1 ((thereM r (us.take x.1)).map icell)]) (fun x => x.1 ≤ us.length) (fun x => us.length - x.1) (0, vl) (.cons rfl (.cons rfl (.nil))) rfl ?_ ?_ ?_
  · exact Nat.zero_le _
  · exact ⟨rfl, rfl, trivial⟩
  rintro ⟨k, v⟩ hk
  dsimp only at hk ⊢
  have hil := thereM_len r (us.take k)
  have hil2 : ((thereM r (us.take k)).map icell).length = (thereM r (us.take k)).length := by simp
  rw [List.length_take] at hil
  by_cases hlt : k < us.length
  case' pos => (obtain ⟨u, hb⟩ := get_of_lt hlt; have e1 := get_map hb icell)
  all_goals
   refine G.seq ?_; refine G.seq ?_; refine G.region ?_; refine G.v (rv_move rfl) rfl ?_; refine G.v (rv_move rfl) rfl ?_; refine G.v (rv_len rfl (by exact Rd.stays (by assumption))) rfl ?_; refine G.v (rv_lss rfl rfl) rfl ?_; refine G.done ?_; refine G.thenN ?_; refine G.cond rfl (fun hc => ?_) (fun hc => ?_)
   · try exact Bool.noConfusion hc
     all_goals
      try replace hc := of_decide_eq_true hc
      try simp only [hul2] at hc
      try (exfalso; omega)
      all_goals
       refine G.skip ?_; refine G.thenN ?_; refine G.seq ?_; refine G.block ?_; refine G.seq ?_; refine G.region ?_; refine G.v (rv_move rfl) rfl ?_; refine G.v (rv_move rfl) rfl ?_
       (refine G.v (rv_indexH rfl rfl (by exact Rd.stays (by assumption)) rfl (by exact e1)) rfl ?_)
       refine G.v (rv_loadE rfl (by exact Rd.stays (by assumption)) (by exact e1) rfl) rfl ?_; refine G.v (rv_move rfl) rfl ?_; refine G.v (rv_len rfl (by exact Rd.stays (by assumption))) rfl ?_; refine G.v (rv_subB rfl rfl (by omega) (by omega)) rfl ?_; refine G.op (og_callV rfl rfl (fun w _ => l1In_any _ _ _ w)) rfl (fun _ _ => ?_); refine G.done ?_; refine G.thenN ?_; refine G.cond rfl (fun hc => ?_) (fun hc => ?_)
       · try exact Bool.noConfusion hc
         all_goals
          try replace hc := of_decide_eq_true hc
          try simp only [hul2] at hc
          try (exfalso; contradiction)
          all_goals
           have hhe : hereM r u = true := by rw [hereM, ← hun2]; exact hc
           all_goals
            refine G.region ?_; refine G.v (rv_move rfl) rfl ?_; refine G.v (rv_move rfl) rfl ?_; refine G.v (rv_move rfl) rfl ?_
            (refine G.v (rv_indexH rfl rfl (by exact Rd.stays (by assumption)) rfl (by exact e1)) rfl ?_)
            refine G.v (rv_loadE rfl (by exact Rd.stays (by assumption)) (by exact e1) rfl) rfl ?_; refine G.op (og_lit rfl (.cons rfl .nil) rfl rfl rfl rfl rfl rfl) rfl (fun vx _ => ?_)
            ((refine G.op (og_app1 rfl rfl rfl (by exact Rd.owned 0 rfl) rfl rfl (by simp; omega) (by simp; omega)) rfl (fun va _ => ?_)))
            refine G.v (rv_assign rfl) rfl ?_; refine G.done ?_; refine G.inN ?_; refine G.thenN ?_; refine G.region ?_; refine G.v (rv_move rfl) rfl ?_
            (refine G.v (rv_incr rfl rfl (by omega)) rfl ?_)
            refine G.v (rv_assign rfl) rfl ?_; refine G.done ?_; refine G.backK (k + 1, va) 1 (by exact one_eq (congrArg (fun z => Ch.row va 3 1 z) (known_yes hb hhe))) (.cons rfl (.cons rfl (.nil))) (⟨rfl, rfl, trivial⟩) ?_ ?_
            · exact hlt
            · dsimp only; omega
       · try exact Bool.noConfusion hc
         all_goals
          try replace hc := of_decide_eq_false hc
          try simp only [hul2] at hc
          try (exfalso; contradiction)
          all_goals
           have hhe : hereM r u = false := by rw [hereM, ← hun2]; exact hc
           all_goals
            refine G.skip ?_; refine G.inN ?_; refine G.thenN ?_; refine G.region ?_; refine G.v (rv_move rfl) rfl ?_
            (refine G.v (rv_incr rfl rfl (by omega)) rfl ?_)
            refine G.v (rv_assign rfl) rfl ?_; refine G.done ?_; refine G.backK (k + 1, v) 0 (by exact one_eq (congrArg (fun z => Ch.row v 3 1 z) (known_no hb hhe))) (.cons rfl (.cons rfl (.nil))) (⟨rfl, rfl, trivial⟩) ?_ ?_
            · exact hlt
            · dsimp only; omega
   · try exact Bool.noConfusion hc
     all_goals
      try replace hc := of_decide_eq_false hc
      try simp only [hul2] at hc
      try (exfalso; omega)
      all_goals
       refine G.exit ?_; refine G.thenX ?_; refine G.thenX ?_; refine G.inX ?_; refine G.thenN ?_; refine G.seq ?_; refine G.region ?_; refine G.v (rv_move rfl) rfl ?_; refine G.v (rv_assign rfl) rfl ?_; refine G.done ?_; refine G.thenN ?_; refine G.ret ?_; refine G.know (fun w hw => (Rd.owned 0 rfl w hw).one_) (fun hone => G.retF v hone rfl rfl rfl (fun w hw => by rw [take_all (l := us) (by omega)] at hw; exact hw.sublist (by repeat (exact List.Sublist.refl _))))
end Go.Proofs.YtibkggjbkgdnkaaGreat

/-
  Whether there is room for a unit more: both ways.
-/
namespace Go.Proofs.YtibkggjbkgdnkaaGreat
open Go.RowKit
attribute [local irreducible] Go.wpList Go.Code.wp Go.Exit.then Go.Exit.inBlock Go.bodyPost Go.Calls pE pB G RunsV FnV Fn FnM
set_option maxRecDepth 100000
set_option maxHeartbeats 4000000
def withinT (r : ReqM) (us : List Int) (t : TypeM) : Bool := decide (volUS r us ≤ volM t.w t.h t.d) && decide (gramM r us ≤ t.g)
theorem within_mst (r : ReqM) (us : List Int) : withinT r us (mst r) = holdsM r us := rfl
theorem snoc_cells (g : List Int) (u : Int) : g.map icell ++ [[Value.int .i64 u]] = (g ++ [u]).map icell := by simp [icell]
section
variable {r : ReqM} {pv tv iv uv : Value} {us : List Int} (w : World) (h : Rd w pv 2 (r.pairs.map PairM.cells)) (h2 : Rd w tv 7 (r.types.map TypeM.cells)) (h3 : Rd w iv 7 (r.items.map ItemM.cells)) (h4 : Rd w uv 1 (us.map icell))
include h h2 h3 h4
theorem within_any (hul : us.length ≤ 1048576) (t : TypeM) : FnV Tryz.prog 110 [.agg (r.cells pv tv iv).toArray, uv, t.val] w (.bool (withinT r us t)) := by
  refine FnV.of (n := 26) Tryz.func110 rfl rfl ?_; refine G.seq ?_; refine G.region ?_; refine G.op (og_box rfl rfl) rfl (fun bk3 _ => ?_); refine G.op (og_box rfl rfl) rfl (fun bk5 _ => ?_); refine G.v (rv_assign rfl) rfl ?_; refine G.done ?_; refine G.thenN ?_; refine G.seq ?_; refine G.drawL [19] ?_
  (refine GE.q 0 rfl (by as_aux_lemma => kernel_rfl) rfl (qg_runs (rv_loadW 1 rfl rfl rfl)) rfl ?_)
  refine GE.q 1 rfl (by as_aux_lemma => kernel_rfl) rfl (qg_runs (rv_move rfl)) rfl ?_; refine GE.q 2 rfl (by as_aux_lemma => kernel_rfl) rfl (qg_call rfl rfl (fun w hh => volumeOf_any (r := r) (us := us) w (Rd.stays h _ hh) (Rd.stays h2 _ hh) (Rd.stays h3 _ hh) (Rd.stays h4 _ hh) hul)) rfl ?_
  (refine GE.q 3 rfl (by as_aux_lemma => kernel_rfl) rfl (qg_runs (rv_field rfl)) rfl ?_)
  (refine GE.q 4 rfl (by as_aux_lemma => kernel_rfl) rfl (qg_runs (rv_load1 0 rfl rfl rfl)) rfl ?_)
  (refine GE.q 5 rfl (by as_aux_lemma => kernel_rfl) rfl (qg_runs (rv_field rfl)) rfl ?_)
  (refine GE.q 6 rfl (by as_aux_lemma => kernel_rfl) rfl (qg_runs (rv_load1 0 rfl rfl rfl)) rfl ?_)
  (refine GE.ol 7 (by as_aux_lemma => kernel_rfl) rfl rfl (og_runs (rv_field rfl)) rfl (fun _ _ h => by exact h) (fun _ _ => ?_))
  (refine GE.ol 8 (by as_aux_lemma => kernel_rfl) rfl rfl (og_runs (rv_load1 0 rfl rfl rfl)) rfl (fun _ _ h => by exact h) (fun _ _ => ?_))
  refine GE.ol 9 (by as_aux_lemma => kernel_rfl) rfl rfl (og_callV rfl rfl (fun w hh => volume_any t.w t.h t.d w)) rfl (fun _ _ h => by exact h) (fun _ _ => ?_); refine GE.ol 10 (by as_aux_lemma => kernel_rfl) rfl rfl (og_runs (rv_leq rfl rfl)) rfl (fun _ _ h => by exact h) (fun _ _ => ?_); refine GE.ol 11 (by as_aux_lemma => kernel_rfl) rfl rfl (og_runs (rv_move rfl)) rfl (fun _ _ h => by exact h) (fun _ _ => ?_)
  all_goals (((with_reducible refine GE.part (t := 18) rfl (fun hg => ?_) (fun hg => ?_)) <;> (try exact Bool.noConfusion hg) <;> (first | (refine GE.q 12 rfl (by as_aux_lemma => kernel_rfl) rfl (qg_runs (rv_loadW 1 rfl rfl rfl)) rfl ?_) | refine GE.qn 12 rfl (by as_aux_lemma => kernel_rfl) rfl rfl ?_)))
  all_goals ((first | refine GE.q 13 rfl (by as_aux_lemma => kernel_rfl) rfl (qg_runs (rv_move rfl)) rfl ?_ | refine GE.qn 13 rfl (by as_aux_lemma => kernel_rfl) rfl rfl ?_))
  all_goals ((first | refine GE.q 14 rfl (by as_aux_lemma => kernel_rfl) rfl (qg_call rfl rfl (fun w hh => gramOf_any (r := r) (us := us) w (Rd.stays h _ hh) (Rd.stays h2 _ hh) (Rd.stays h3 _ hh) (Rd.stays h4 _ hh) hul)) rfl ?_ | refine GE.qn 14 rfl (by as_aux_lemma => kernel_rfl) rfl rfl ?_))
  all_goals ((first | (refine GE.q 15 rfl (by as_aux_lemma => kernel_rfl) rfl (qg_runs (rv_field rfl)) rfl ?_) | refine GE.qn 15 rfl (by as_aux_lemma => kernel_rfl) rfl rfl ?_))
  all_goals ((first | (refine GE.q 16 rfl (by as_aux_lemma => kernel_rfl) rfl (qg_runs (rv_load1 0 rfl rfl rfl)) rfl ?_) | refine GE.qn 16 rfl (by as_aux_lemma => kernel_rfl) rfl rfl ?_))
  all_goals ((first | refine GE.q 17 rfl (by as_aux_lemma => kernel_rfl) rfl (qg_runs (rv_leq rfl rfl)) rfl ?_ | refine GE.qn 17 rfl (by as_aux_lemma => kernel_rfl) rfl rfl ?_))
  all_goals ((first | refine GE.ol 18 (by as_aux_lemma => kernel_rfl) rfl rfl (og_runs (rv_pickT rfl rfl)) rfl (fun _ _ h => by exact h) (fun _ _ => ?_) | refine GE.ol 18 (by as_aux_lemma => kernel_rfl) rfl rfl (og_runs (rv_pickF rfl rfl)) rfl (fun _ _ h => by exact h) (fun _ _ => ?_)))
  all_goals (refine GE.t 19 (by as_aux_lemma => kernel_rfl) rfl rfl rfl (og_runs (rv_assign rfl)) rfl (fun _ _ => ?_))
  all_goals
   refine GE.done (by as_aux_lemma => kernel_rfl) ?_; refine G.thenN ?_; refine G.ret ?_
   first | (refine G.retFV rfl rfl (congrArg Value.bool ?_); simp_all [withinT]; done) | (refine G.retFV rfl rfl (congrArg Value.bool ?_); simp_all [withinT]; intro hq9; omega)
theorem room_yesW (hul : us.length + 1 ≤ 1048576) (u : Int) (hyes : classM r = 0) : FnV Tryz.prog 60 [.agg (r.cells pv tv iv).toArray, uv, .int .i64 u] w (.bool (roomM r us u)) := by
  have hul2 : (us.map icell).length = us.length := by simp
  refine FnV.of (n := 26) Tryz.func60 rfl rfl ?_; refine G.seq ?_; refine G.region ?_; refine G.op (og_box rfl rfl) rfl (fun bk3 _ => ?_); refine G.v (rv_assign rfl) rfl ?_; refine G.done ?_; refine G.thenN ?_; refine G.seq ?_; refine G.region ?_
  (refine G.v (rv_loadW 0 rfl rfl rfl) rfl ?_)
  refine G.op (og_callV rfl rfl (fun w hh => masterOf_any (r := r) w (Rd.stays h2 _ hh))) rfl (fun _ _ => ?_); refine G.v (rv_move rfl) rfl ?_; refine G.v (rv_extract rfl rfl) rfl ?_; refine G.v (rv_extract rfl rfl) rfl ?_; refine G.op (og_alloc) rfl (fun bk7 _ => ?_)
  (refine G.op0 (og_st0 rfl rfl rfl rfl rfl rfl (.zero (.cons (.cons (.cons (.cons (.cons (.cons (.cons .nil))))))))) (fun _ _ => ?_))
  refine G.v (rv_assign rfl) rfl ?_; refine G.done ?_; refine G.thenN ?_; refine G.seq ?_; refine G.drawL [12] ?_
  (refine GE.ol 0 (by as_aux_lemma => kernel_rfl) rfl rfl (og_runs (rv_loadW 1 rfl rfl rfl)) rfl (fun _ _ h => by exact h) (fun _ _ => ?_))
  refine GE.ol 1 (by as_aux_lemma => kernel_rfl) rfl rfl (og_callV rfl rfl (fun w hh => (sound_any (r := r) w (Rd.stays h _ hh) (Rd.stays h2 _ hh) (Rd.stays h3 _ hh)).mono (show Value.bool (decide (classM r = 0)) = Value.bool true by rw [decide_eq_true hyes]))) rfl (fun _ _ h => by exact h) (fun _ _ => ?_); refine GE.ol 2 (by as_aux_lemma => kernel_rfl) rfl rfl (og_runs (rv_move rfl)) rfl (fun _ _ h => by exact h) (fun _ _ => ?_)
  (refine GE.q 3 rfl (by as_aux_lemma => kernel_rfl) rfl (qg_runs (rv_loadW 1 rfl rfl rfl)) rfl ?_)
  refine GE.q 4 rfl (by as_aux_lemma => kernel_rfl) rfl (qg_runs (rv_move rfl)) rfl ?_; refine GE.q 6 rfl (by as_aux_lemma => kernel_rfl) rfl (qg_runs (rv_move rfl)) rfl ?_
  (refine GE.q 9 rfl (by as_aux_lemma => kernel_rfl) rfl (qg_runs (rv_loadW 0 rfl rfl rfl)) rfl ?_)
  refine GE.any (rs := [5, 7]) (by as_aux_lemma => kernel_rfl) (by simp) ?_; refine List.forall_mem_cons.2 ⟨?_, List.forall_mem_cons.2 ⟨?_, fun _ h => absurd h List.not_mem_nil⟩⟩
  focus
    (refine GE.pickOp rfl rfl rfl (og_callF1 rfl rfl (fun w hh => clone_any (l := us) w (Rd.stays h4 _ hh) (by omega))) rfl (fun _ _ h => by exact h.drop 1) ?_; rintro v1 hv1; try dsimp only)
    refine GE.ol 7 (by as_aux_lemma => kernel_rfl) rfl rfl (og_lit rfl (.cons rfl .nil) rfl rfl rfl rfl rfl rfl) rfl (fun _ _ h => by exact h.drop 2) (fun vl _ => ?_)
    ((refine GE.ol 8 (by as_aux_lemma => kernel_rfl) rfl rfl (og_app1 rfl rfl rfl (by exact Rd.owned 0 rfl) rfl rfl (by simp; omega) (by simp; omega)) rfl (fun _ _ h => by exact h.drop 2) (fun va _ => ?_)))
    (refine GE.ol 10 (by as_aux_lemma => kernel_rfl) rfl rfl (og_callF0 rfl rfl (fun w hh => (within_any (r := r) (us := us ++ [u]) w (Rd.stays h _ hh) (Rd.stays h2 _ hh) (Rd.stays h3 _ hh) (by rw [← snoc_cells]; exact Rd.owned 1 rfl _ hh) (by rw [List.length_append]; exact hul) (mst r)).toFn)) rfl (fun _ _ h => by exact h.drop 2) ?_; rintro ⟨⟩ _; try dsimp only)
    (refine GE.ol 11 (by as_aux_lemma => kernel_rfl) rfl rfl (og_runs (rv_pickT rfl rfl)) rfl (fun _ _ h => by exact h.drop 2) (fun _ _ => ?_))
    refine GE.t 12 (by as_aux_lemma => kernel_rfl) rfl rfl rfl (og_runs (rv_assign rfl)) rfl (fun _ _ => ?_); refine GE.done (by as_aux_lemma => kernel_rfl) ?_
  rotate_left
  focus
    refine GE.pickOp rfl rfl rfl (og_lit rfl (.cons rfl .nil) rfl rfl rfl rfl rfl rfl) rfl (fun _ _ h => by exact h.drop 1) (fun vl _ => ?_)
    (refine GE.ol 5 (by as_aux_lemma => kernel_rfl) rfl rfl (og_callF1 rfl rfl (fun w hh => clone_any (l := us) w (Rd.stays h4 _ hh) (by omega))) rfl (fun _ _ h => by exact h.drop 2) ?_; rintro v1 hv1; try dsimp only)
    ((refine GE.ol 8 (by as_aux_lemma => kernel_rfl) rfl rfl (og_app0 rfl rfl rfl (by exact Rd.owned 1 rfl) rfl rfl (by simp; omega) (by simp; omega)) rfl (fun _ _ h => by exact h.drop 2) (fun va _ => ?_)))
    (refine GE.ol 10 (by as_aux_lemma => kernel_rfl) rfl rfl (og_callF0 rfl rfl (fun w hh => (within_any (r := r) (us := us ++ [u]) w (Rd.stays h _ hh) (Rd.stays h2 _ hh) (Rd.stays h3 _ hh) (by rw [← snoc_cells]; exact Rd.owned 0 rfl _ hh) (by rw [List.length_append]; exact hul) (mst r)).toFn)) rfl (fun _ _ h => by exact h.drop 2) ?_; rintro ⟨⟩ _; try dsimp only)
    (refine GE.ol 11 (by as_aux_lemma => kernel_rfl) rfl rfl (og_runs (rv_pickT rfl rfl)) rfl (fun _ _ h => by exact h.drop 2) (fun _ _ => ?_))
    refine GE.t 12 (by as_aux_lemma => kernel_rfl) rfl rfl rfl (og_runs (rv_assign rfl)) rfl (fun _ _ => ?_); refine GE.done (by as_aux_lemma => kernel_rfl) ?_
  rotate_left
  all_goals
   refine G.thenN ?_; refine G.ret ?_; refine G.retFV rfl rfl (congrArg Value.bool ?_); rw [room_yes hyes]; rfl
omit h4 in
theorem room_noW (u : Int) (hno : ¬ classM r = 0) : FnV Tryz.prog 60 [.agg (r.cells pv tv iv).toArray, uv, .int .i64 u] w (.bool (roomM r us u)) := by
  refine FnV.of (n := 26) Tryz.func60 rfl rfl ?_; refine G.seq ?_; refine G.region ?_; refine G.op (og_box rfl rfl) rfl (fun bk3 _ => ?_); refine G.v (rv_assign rfl) rfl ?_; refine G.done ?_; refine G.thenN ?_; refine G.seq ?_; refine G.region ?_
  (refine G.v (rv_loadW 0 rfl rfl rfl) rfl ?_)
  refine G.op (og_callV rfl rfl (fun w hh => masterOf_any (r := r) w (Rd.stays h2 _ hh))) rfl (fun _ _ => ?_); refine G.v (rv_move rfl) rfl ?_; refine G.v (rv_extract rfl rfl) rfl ?_; refine G.v (rv_extract rfl rfl) rfl ?_; refine G.op (og_alloc) rfl (fun bk7 _ => ?_)
  (refine G.op0 (og_st0 rfl rfl rfl rfl rfl rfl (.zero (.cons (.cons (.cons (.cons (.cons (.cons (.cons .nil))))))))) (fun _ _ => ?_))
  refine G.v (rv_assign rfl) rfl ?_; refine G.done ?_; refine G.thenN ?_; refine G.seq ?_; refine G.drawL [12] ?_
  (refine GE.ol 0 (by as_aux_lemma => kernel_rfl) rfl rfl (og_runs (rv_loadW 1 rfl rfl rfl)) rfl (fun _ _ h => by exact h) (fun _ _ => ?_))
  refine GE.ol 1 (by as_aux_lemma => kernel_rfl) rfl rfl (og_callV rfl rfl (fun w hh => (sound_any (r := r) w (Rd.stays h _ hh) (Rd.stays h2 _ hh) (Rd.stays h3 _ hh)).mono (show Value.bool (decide (classM r = 0)) = Value.bool false by rw [decide_eq_false hno]))) rfl (fun _ _ h => by exact h) (fun _ _ => ?_); refine GE.ol 2 (by as_aux_lemma => kernel_rfl) rfl rfl (og_runs (rv_move rfl)) rfl (fun _ _ h => by exact h) (fun _ _ => ?_); refine GE.qn 3 rfl (by as_aux_lemma => kernel_rfl) rfl rfl ?_; refine GE.qn 4 rfl (by as_aux_lemma => kernel_rfl) rfl rfl ?_; refine GE.qn 5 rfl (by as_aux_lemma => kernel_rfl) rfl rfl ?_; refine GE.qn 6 rfl (by as_aux_lemma => kernel_rfl) rfl rfl ?_; refine GE.qn 7 rfl (by as_aux_lemma => kernel_rfl) rfl rfl ?_; refine GE.qn 8 rfl (by as_aux_lemma => kernel_rfl) rfl rfl ?_; refine GE.qn 9 rfl (by as_aux_lemma => kernel_rfl) rfl rfl ?_; refine GE.qn 10 rfl (by as_aux_lemma => kernel_rfl) rfl rfl ?_
  (refine GE.ol 11 (by as_aux_lemma => kernel_rfl) rfl rfl (og_runs (rv_pickF rfl rfl)) rfl (fun _ _ h => by exact h) (fun _ _ => ?_))
  refine GE.t 12 (by as_aux_lemma => kernel_rfl) rfl rfl rfl (og_runs (rv_assign rfl)) rfl (fun _ _ => ?_); refine GE.done (by as_aux_lemma => kernel_rfl) ?_; refine G.thenN ?_; refine G.ret ?_; refine G.retFV rfl rfl (congrArg Value.bool ?_); rw [roomM, decide_eq_false hno, Bool.false_and]
theorem room_any (hul : us.length + 1 ≤ 1048576) (u : Int) : FnV Tryz.prog 60 [.agg (r.cells pv tv iv).toArray, uv, .int .i64 u] w (.bool (roomM r us u)) := by
  by_cases hc : classM r = 0
  · exact room_yesW w h h2 h3 h4 hul u hc
  · exact room_noW w h h2 h3 u hc
end
end Go.Proofs.YtibkggjbkgdnkaaGreat

/-
  Packings: what is asked of one. No program is in sight here.
-/
namespace Go.Proofs.YtibkggjbkgdnkaaGreat
open Go.RowKit
theorem srt_perm_eq : ∀ {xs ys : List Int}, xs.Pairwise (· ≤ ·) → ys.Pairwise (· ≤ ·) → xs.Perm ys → xs = ys
  | [], ys, _, _, h => (List.Perm.nil_eq h)
  | x :: xs, [], _, _, h => by have := h.length_eq; simp at this
  | x :: xs, y :: ys, h1, h2, h => by
    have p1 := List.pairwise_cons.1 h1
    have p2 := List.pairwise_cons.1 h2
    have e : x = y := by
      rcases List.mem_cons.1 (h.mem_iff.1 (List.mem_cons_self)) with e | e
      · exact e
      · rcases List.mem_cons.1 (h.mem_iff.2 (List.mem_cons_self)) with e2 | e2
        · exact e2.symm
        · have := p2.1 x e; have := p1.1 y e2; omega
    subst e
    rw [srt_perm_eq p1.2 p2.2 (List.Perm.cons_inv h)]
theorem sortM_eq {a b : List Int} : sortM a = sortM b ↔ a.Perm b :=
  ⟨fun h => (sortM_perm a).symm.trans (h ▸ sortM_perm b), fun h => srt_perm_eq (sortM_srt a) (sortM_srt b) ((sortM_perm a).trans (h.trans (sortM_perm b).symm))⟩
/-- How often x is there. -/
def timesM (l : List Int) (x : Int) : Nat := l.countP (fun y => decide (y = x))
theorem times_cons {l : List Int} {x y : Int} : timesM (y :: l) x = timesM l x + if y = x then 1 else 0 := by
  simp [timesM, List.countP_cons]
theorem times_perm {a b : List Int} (h : a.Perm b) (x : Int) : timesM a x = timesM b x := h.countP_eq _
theorem times_mem {a : List Int} {x : Int} (h : 0 < timesM a x) : x ∈ a := by
  obtain ⟨y, hy, e⟩ := List.countP_pos_iff.1 h
  rwa [← of_decide_eq_true e]
theorem perm_times : ∀ {a b : List Int}, b.length = a.length → (∀ x ∈ a, timesM a x = timesM b x) → a.Perm b
  | [], b, h, _ => by rw [List.length_eq_zero_iff.1 h]
  | x :: a, b, h, ht => by
    have hx : x ∈ b := times_mem (by rw [← ht x (List.mem_cons_self), times_cons, if_pos rfl]; omega)
    have hp := List.perm_cons_erase hx
    refine List.Perm.trans (List.Perm.cons x (perm_times ?_ fun y hy => ?_)) hp.symm
    · have := hp.length_eq; simp only [List.length_cons] at this h; omega
    · have h1 := ht y (List.mem_cons_of_mem _ hy)
      rw [times_perm hp y, times_cons, times_cons] at h1
      omega
/-- Whether no carton is empty, or over. -/
def okCs (r : ReqM) (cs : List (List Int)) : Bool := cs.all fun l => decide (l.length ≠ 0) && holdsM r l
/-- Whether cartons are a packing of units. -/
def packM (r : ReqM) (us : List Int) (cs : List (List Int)) : Bool := decide (classM r = 0) && (okCs r cs && decide (sortM cs.flatten = sortM (thereM r us)))
theorem packM_no {r : ReqM} {us : List Int} {cs : List (List Int)} (h : ¬ classM r = 0) : packM r us cs = false := by rw [packM, decide_eq_false h, Bool.false_and]
theorem packM_bad {r : ReqM} {us : List Int} {cs : List (List Int)} (h : okCs r cs = false) : packM r us cs = false := by rw [packM, h, Bool.false_and, Bool.and_false]
theorem packM_ok {r : ReqM} {us : List Int} {cs : List (List Int)} (hc : classM r = 0) (h : okCs r cs = true) : packM r us cs = decide (sortM cs.flatten = sortM (thereM r us)) := by rw [packM, h, decide_eq_true hc, Bool.true_and, Bool.true_and]
theorem pack_len {r : ReqM} {us : List Int} {cs : List (List Int)} (h : ¬ (thereM r us).length = cs.flatten.length) : packM r us cs = false := by
  rw [packM, decide_eq_false (p := sortM cs.flatten = sortM (thereM r us)) (fun e => h (sortM_eq.1 e).length_eq.symm), Bool.and_false, Bool.and_false]
theorem pack_at {r : ReqM} {us : List Int} {cs : List (List Int)} {x : Int} (h : ¬ timesM cs.flatten x = timesM (thereM r us) x) : packM r us cs = false := by
  rw [packM, decide_eq_false (p := sortM cs.flatten = sortM (thereM r us)) (fun e => h (times_perm (sortM_eq.1 e) x)), Bool.and_false, Bool.and_false]
theorem pack_yes {r : ReqM} {us : List Int} {cs : List (List Int)} (hc : classM r = 0) (h : okCs r cs = true) (hl : (thereM r us).length = cs.flatten.length) (ht : ∀ x ∈ cs.flatten, timesM cs.flatten x = timesM (thereM r us) x) : packM r us cs = true := by
  rw [packM_ok hc h]
  exact decide_eq_true (sortM_eq.2 (perm_times hl ht))
end Go.Proofs.YtibkggjbkgdnkaaGreat

/-
  The contract of the library's sort at this program: written by the kit's tools lay-shelf and lay-plain.
-/
namespace Go.Proofs
open Go.Shelf
def Tryz.lays189_ren : Go.Shelf.Ren := ⟨fun | 189 => 111 | 125 => 170 | 257 => 169 | 128 => 215 | 129 => 216 | 294 => 206 | 295 => 207 | 296 => 208 | 297 => 209 | 298 => 210 | 299 => 211 | 216 => 212 | 300 => 213 | 301 => 214 | 328 => 236 | 329 => 237 | 330 => 238 | 331 => 239 | 332 => 240 | 215 => 241 | 343 => 248 | n => n, fun | 28 => 44 | 3 => 3 | 46 => 168 | 0 => 0 | 51 => 203 | 53 => 205 | 4 => 4 | 183 => 195 | 182 => 194 | 131 => 200 | 5 => 5 | 9 => 9 | 218 => 217 | 222 => 221 | 228 => 226 | 229 => 139 | n => n, fun | n => n⟩
theorem Tryz.lays189 : Go.Proofs.Lays.n189 Tryz.prog Tryz.lays189_ren := {
  mixed := by kernel_rfl
  f125 := Tryz.func170.trans (congrArg some (by kernel_rfl))
  f128 := Tryz.func215.trans (congrArg some (by kernel_rfl))
  f129 := Tryz.func216.trans (congrArg some (by kernel_rfl))
  f189 := Tryz.func111.trans (congrArg some (by kernel_rfl))
  f215 := Tryz.func241.trans (congrArg some (by kernel_rfl))
  f216 := Tryz.func212.trans (congrArg some (by kernel_rfl))
  f257 := Tryz.func169.trans (congrArg some (by kernel_rfl))
  f294 := Tryz.func206.trans (congrArg some (by kernel_rfl))
  f295 := Tryz.func207.trans (congrArg some (by kernel_rfl))
  f296 := Tryz.func208.trans (congrArg some (by kernel_rfl))
  f297 := Tryz.func209.trans (congrArg some (by kernel_rfl))
  f298 := Tryz.func210.trans (congrArg some (by kernel_rfl))
  f299 := Tryz.func211.trans (congrArg some (by kernel_rfl))
  f300 := Tryz.func213.trans (congrArg some (by kernel_rfl))
  f301 := Tryz.func214.trans (congrArg some (by kernel_rfl))
  f328 := Tryz.func236.trans (congrArg some (by kernel_rfl))
  f329 := Tryz.func237.trans (congrArg some (by kernel_rfl))
  f330 := Tryz.func238.trans (congrArg some (by kernel_rfl))
  f331 := Tryz.func239.trans (congrArg some (by kernel_rfl))
  f332 := Tryz.func240.trans (congrArg some (by kernel_rfl))
  f343 := Tryz.func248.trans (congrArg some (by kernel_rfl))
  t0 := Tryz.underlying0
  a0 := Tryz.isAgg0
  z0 := Tryz.sizeOf0
  v0 := Tryz.zeroValue0
  t3 := Tryz.underlying3
  a3 := Tryz.isAgg3
  z3 := Tryz.sizeOf3
  v3 := Tryz.zeroValue3
  t4 := Tryz.underlying4
  a4 := Tryz.isAgg4
  z4 := Tryz.sizeOf4
  v4 := Tryz.zeroValue4
  t5 := Tryz.underlying5
  a5 := Tryz.isAgg5
  z5 := Tryz.sizeOf5
  v5 := Tryz.zeroValue5
  t9 := Tryz.underlying9
  a9 := Tryz.isAgg9
  z9 := Tryz.sizeOf9
  v9 := Tryz.zeroValue9
  t28 := Tryz.underlying44
  a28 := Tryz.isAgg44
  z28 := Tryz.sizeOf44
  v28 := Tryz.zeroValue44
  t46 := Tryz.underlying168
  a46 := Tryz.isAgg168
  z46 := Tryz.sizeOf168
  v46 := Tryz.zeroValue168
  t51 := Tryz.underlying203
  a51 := Tryz.isAgg203
  z51 := Tryz.sizeOf203
  v51 := Tryz.zeroValue203
  t53 := Tryz.underlying205
  a53 := Tryz.isAgg205
  z53 := Tryz.sizeOf205
  v53 := Tryz.zeroValue205
  t131 := Tryz.underlying200
  a131 := Tryz.isAgg200
  z131 := Tryz.sizeOf200
  v131 := Tryz.zeroValue200
  t182 := Tryz.underlying194
  a182 := Tryz.isAgg194
  z182 := Tryz.sizeOf194
  v182 := Tryz.zeroValue194
  t183 := Tryz.underlying195
  a183 := Tryz.isAgg195
  z183 := Tryz.sizeOf195
  v183 := Tryz.zeroValue195
  t218 := Tryz.underlying217
  a218 := Tryz.isAgg217
  z218 := Tryz.sizeOf217
  v218 := Tryz.zeroValue217
  t222 := Tryz.underlying221
  a222 := Tryz.isAgg221
  z222 := Tryz.sizeOf221
  v222 := Tryz.zeroValue221
  t228 := Tryz.underlying226
  a228 := Tryz.isAgg226
  z228 := Tryz.sizeOf226
  v228 := Tryz.zeroValue226
  t229 := Tryz.underlying139
  a229 := Tryz.isAgg139
  z229 := Tryz.sizeOf139
  v229 := Tryz.zeroValue139 }
open Go.Sort Go.RowKit in
theorem Tryz.slices_Sort_int (blk off cap : Nat) (zs : List Int) (w : World) (hH : Holds (Value.int .i64) w blk off zs.toArray) (hblk : blk < w.heap.size) (hsz : zs.length < 4611686018427387904) :
    Calls Tryz.prog 111 #[.slice (some ⟨blk, off, none⟩) zs.length cap] w fun e w' =>
      e = .returned (.tuple #[]) ∧ ∃ n os, w' = grow (putRow (Value.int .i64) (Sort.ahead w n) blk off (zs.mergeSort fun x y => decide (x ≤ y)).toArray) os := Any.slices_Sort_int Tryz.lays189 blk off cap zs w hH hblk hsz
end Go.Proofs

/-
  A list of numbers, sorted by the library, however long it is.
-/
namespace Go.Proofs.YtibkggjbkgdnkaaGreat
open Go.RowKit Go.Sort
theorem icell_flat (l : List Int) : (l.map icell).flatten = l.map (Value.int .i64) := by
  induction l with
  | nil => rfl
  | cons x r ih => rw [List.map_cons, List.flatten_cons, ih]; rfl
theorem sortM_merge (ks : List Int) : ks.mergeSort (fun x y => decide (x ≤ y)) = sortM ks := by
  refine srt_perm_eq ?_ (sortM_srt ks) ((List.mergeSort_perm _ _).trans (sortM_perm ks).symm)
  have h := List.pairwise_mergeSort (le := fun x y : Int => decide (x ≤ y)) (fun a b c h1 h2 => by simp only [decide_eq_true_eq] at *; omega) (fun a b => by simp only [Bool.or_eq_true, decide_eq_true_eq]; omega) ks
  exact h.imp (fun h => of_decide_eq_true h)
section
variable {w0 : World} {F : List Ch} {v : Value}
theorem sortG_any {ks : List Int} (hn : ks.length ≤ 1048576) :
    FnMF Tryz.prog 111 [v] w0 [.row v 3 1 (ks.map icell)] F (fun _ : Unit => True) (fun _ => .tuple #[]) (fun _ => [.row v 3 1 ((sortM ks).map icell)]) := by
  by_cases h12 : ks.length ≤ 12
  · exact sort_any h12
  · intro w hh
    have hln : (ks.map icell).length = ks.length := by simp
    obtain ⟨hrow, hgood⟩ := hh.ok _ (List.mem_cons_self)
    rcases hrow.2 with ⟨_, hz⟩ | ⟨g, cap, cur, hv, hB, hg, hle, hcm, hsz, htk⟩
    · omega
    · rw [Nat.mul_one, hln, icell_flat] at htk
      rw [hln] at hv hle
      subst hv
      have hlt : g < w.heap.size := (Array.getElem?_eq_some_iff.1 hg).1
      refine Calls.mono (Go.Proofs.Tryz.slices_Sort_int g 0 cap ks w (holds_of_blockI hg htk) hlt (by omega)) ?_
      rintro e w' ⟨rfl, n, os, rfl⟩
      have hgr := grownBy_sortedI (w := w) (g := g) (n := n) (os := os) (ks.mergeSort fun x y => decide (x ≤ y)).toArray
      have hml : (ks.mergeSort fun x y => decide (x ≤ y)).length = ks.length := by simp
      refine ⟨(), trivial, rfl, hh.below.grown hgr hh.below.size (fun k hk => by cases hk; exact hB), fun c hc => ?_, ?_⟩
      · rcases List.mem_cons.1 hc with rfl | hc
        · refine ⟨?_, fun e he => ?_⟩
          · have := ownsRow_sortedI (w := w) (base := w0.heap.size) (n := n) (os := os) (ss := ks) (ts := ks.mergeSort fun x y => decide (x ≤ y)) hml hB hg hle hcm hsz
            rw [sortM_merge] at this ⊢
            rw [icell_flat, List.length_map, sortM_len]
            exact this
          · obtain ⟨x, _, rfl⟩ := List.mem_map.1 he
            exact ⟨rfl, fun u hu => by rw [List.mem_singleton.1 hu]; rfl⟩
        · have hd := hh.ok c (List.mem_cons_of_mem _ hc)
          refine Ch.ok_of hd fun k hk => hgr.block k (Ch.lt hd hk).2 ?_
          intro e
          have hap := (List.pairwise_cons.1 hh.ap).1 c hc g rfl
          have : k = g := Option.some.inj e
          subst this
          exact hap hk
      · have hp := List.pairwise_cons.1 hh.ap
        exact List.pairwise_cons.2 ⟨fun d hd k hk => hp.1 d hd k hk, hp.2⟩
end
end Go.Proofs.YtibkggjbkgdnkaaGreat

/-
  Tables of numbers, opened.
-/
namespace Go.Proofs.YtibkggjbkgdnkaaGreat
open Go.RowKit Go.ChangeShapes Go.WideShapes Go.Deep
section
variable {H : Type} {enc : TypeId × Value → H} {P : Program} {w : World} {base : Nat} {spare : Nat → Bool} {held : Bool}
theorem flat_tbl {t e : TypeId} {fuel : Nat} {cs : List Value} {x : DataW H × List MemPlace} (ht : P.underlying t = some (.slice e)) (hC : P.cellsOf e = 1) (he : P.underlying e = some (.int .i64))
    (h : DataW.trod enc P w base spare held fuel t cs = some x) : ∃ b : List Int × Value, cs = gcell b ∧ Rd w b.2 1 (b.1.map icell) := by
  obtain ⟨v, rfl⟩ : ∃ v, cs = [v] := by
    rcases open_slice ht h with ⟨h0, _⟩ | ⟨a, len, cap, m, n, D, Pl, h0, _⟩
    · exact ⟨_, h0⟩
    · exact ⟨_, h0⟩
  obtain ⟨l, hl⟩ := open_ints ht hC he h
  exact ⟨(l, v), rfl, hl⟩
end
end Go.Proofs.YtibkggjbkgdnkaaGreat

/-
  Tables of numbers that come in: measured, copied.
-/
namespace Go.Proofs.YtibkggjbkgdnkaaGreat
open Go.RowKit
attribute [local irreducible] Go.wpList Go.Code.wp Go.Exit.then Go.Exit.inBlock Go.bodyPost Go.Calls pE pB G RunsV FnV Fn FnM
set_option maxRecDepth 100000
set_option maxHeartbeats 4000000
theorem szIntSS_any {v : Value} {l : List (List Int × Value)} (left : Int) (w : World) (h : Rd w v 1 (l.map gcell)) (hs : Subs w id l) (h0 : 0 ≤ left) (h1 : left ≤ 1048576) : FnV Tryz.prog 39 [v, .int .i64 left] w (.int .i64 (szM (tot id l) left)) := by
  have hle := h.le_map
  have hln : ((l.map gcell).length : Int) = l.length := by simp
  have htl := tot_take (M := List Int) id l
  have htot : tot id l = l.length + (l.map fun t => (id t.1).length).sum := rfl
  refine FnV.of (n := 27) Tryz.func39 rfl rfl ?_; refine G.seq ?_; refine G.region ?_; refine G.v (rv_assign rfl) rfl ?_; refine G.done ?_; refine G.thenN ?_; refine G.seq ?_; refine G.region ?_; refine G.v (rv_move rfl) rfl ?_; refine G.v (rv_move rfl) rfl ?_; refine G.v (rv_len rfl (by exact Rd.stays (by assumption))) rfl ?_
  (refine G.v (rv_subB rfl rfl (by omega) (by omega)) rfl ?_)
  refine G.v (rv_assign rfl) rfl ?_; refine G.done ?_; refine G.thenN ?_; refine G.seq ?_; refine G.seq ?_; refine G.region ?_; refine G.v (rv_move rfl) rfl ?_; refine G.v (rv_lss rfl rfl) rfl ?_; refine G.done ?_; refine G.thenN ?_; refine G.cond rfl (fun hc => ?_) (fun hc => ?_)
  · try exact Bool.noConfusion hc
    all_goals
     try replace hc := of_decide_eq_true hc
     try (exfalso; contradiction)
     all_goals
      refine G.seq ?_; refine G.region ?_; refine G.v (rv_assign rfl) rfl ?_; refine G.done ?_; refine G.thenN ?_; refine G.ret ?_; refine G.thenR ?_
      exact G.retFV rfl rfl (congrArg (Value.int .i64) (by simp only [szM] at * <;> omega))
  · try exact Bool.noConfusion hc
    all_goals
     try replace hc := of_decide_eq_false hc
     try (exfalso; contradiction)
     all_goals
      refine G.skip ?_; refine G.thenN ?_; refine G.seq ?_; refine G.seq ?_; refine G.region ?_; refine G.v (rv_assign rfl) rfl ?_; refine G.done ?_; refine G.thenN ?_; refine G.block ?_
      -- loop 0: turned [1, 5], kept [0]
      refine G.loopK (ι := Nat) (ks := [0]) (fun k => [(1, .int .i64 (left - l.length - ((l.take k).map fun t => (id t.1).length).sum)), (5, .int .i64 k)]) (fun _ => []) (fun k => k ≤ l.length ∧ (0:Int) ≤ left - l.length - ((l.take k).map fun t => (id t.1).length).sum) (fun k => l.length - k) 0 (.cons rfl (.nil)) rfl ?_ ?_ ?_
      · exact ⟨Nat.zero_le _, by simp; omega⟩
      · exact ⟨by simp; rfl, rfl, trivial⟩
      rintro k ⟨hk, hpos⟩
      by_cases hlt : k < l.length
      case' pos => (obtain ⟨b, hb⟩ := get_of_lt hlt; have he := get_map hb gcell; have hn := tot_next (M := List Int) id hb; have hn2 := htl (k + 1); have hid : (id b.1).length = b.1.length := rfl)
      case' neg => (have hn4 : ((l.take k).map fun t => (id t.1).length).sum = (l.map fun t => (id t.1).length).sum := by rw [take_all hlt])
      all_goals
       refine G.seq ?_; refine G.seq ?_; refine G.region ?_; refine G.v (rv_move rfl) rfl ?_; refine G.v (rv_move rfl) rfl ?_; refine G.v (rv_len rfl (by exact Rd.stays (by assumption))) rfl ?_; refine G.v (rv_lss rfl rfl) rfl ?_; refine G.done ?_; refine G.thenN ?_; refine G.cond rfl (fun hc => ?_) (fun hc => ?_)
       · try exact Bool.noConfusion hc
         all_goals
          try replace hc := of_decide_eq_true hc
          try (exfalso; omega)
          all_goals
           refine G.skip ?_; refine G.thenN ?_; refine G.seq ?_; refine G.block ?_; refine G.seq ?_; refine G.region ?_; refine G.v (rv_move rfl) rfl ?_; refine G.v (rv_move rfl) rfl ?_
           (refine G.v (rv_indexH rfl rfl (by exact Rd.stays (by assumption)) rfl (by assumption)) rfl ?_)
           refine G.v (rv_loadE rfl (by exact Rd.stays (by assumption)) (by assumption) rfl) rfl ?_; refine G.v (rv_move rfl) rfl ?_; refine G.op (og_callV rfl rfl (fun w hh => szIntS_any (l := b.1) _ w (Rd.stays (hs.at hb) _ hh) (by omega) (by omega))) rfl (fun _ _ => ?_); refine G.v (rv_assign rfl) rfl ?_; refine G.done ?_; refine G.thenN ?_; refine G.seq ?_; refine G.region ?_; refine G.v (rv_move rfl) rfl ?_; refine G.v (rv_lss rfl rfl) rfl ?_; refine G.done ?_; refine G.thenN ?_; refine G.cond rfl (fun hc => ?_) (fun hc => ?_)
           · try exact Bool.noConfusion hc
             all_goals
              try replace hc := of_decide_eq_true hc
              try (exfalso; contradiction)
              all_goals
               refine G.seq ?_; refine G.region ?_; refine G.v (rv_assign rfl) rfl ?_; refine G.done ?_; refine G.thenN ?_; refine G.ret ?_; refine G.inR ?_; refine G.thenR ?_; refine G.thenR ?_; refine G.inR ?_; refine G.thenR ?_
               exact G.retFV rfl rfl (congrArg (Value.int .i64) (by simp only [szM] at * <;> omega))
           · try exact Bool.noConfusion hc
             all_goals
              try replace hc := of_decide_eq_false hc
              try (exfalso; contradiction)
              all_goals
               refine G.skip ?_; refine G.inN ?_; refine G.thenN ?_; refine G.region ?_; refine G.v (rv_move rfl) rfl ?_
               (refine G.v (rv_incr rfl rfl (by omega)) rfl ?_)
               refine G.v (rv_assign rfl) rfl ?_; refine G.done ?_; refine G.backK (k + 1) 0 rfl (.cons rfl (.nil)) ?_ ?_ ?_
               · exact ⟨congrArg (fun z => some (Value.int .i64 z)) (by simp only [szM] at * <;> omega), rfl, trivial⟩
               · exact ⟨hlt, by simp only [szM] at *; omega⟩
               · omega
       · try exact Bool.noConfusion hc
         all_goals
          try replace hc := of_decide_eq_false hc
          try (exfalso; omega)
          all_goals
           refine G.exit ?_; refine G.thenX ?_; refine G.thenX ?_; refine G.inX ?_; refine G.thenN ?_; refine G.seq ?_; refine G.region ?_; refine G.v (rv_move rfl) rfl ?_; refine G.v (rv_assign rfl) rfl ?_; refine G.done ?_; refine G.thenN ?_; refine G.ret ?_
           exact G.retFV rfl rfl (congrArg (Value.int .i64) (by simp only [szM] at * <;> omega))
theorem toIntSS_any {v : Value} {l : List (List Int × Value)} (w : World) (h : Rd w v 1 (l.map gcell)) (hs : Subs w id l) (hl : tot id l ≤ 1048576) : Fn Tryz.prog 41 [v] w (fun x : Value × List (List Int × Value) => x.1.oneCell' = true ∧ x.2.map Prod.fst = l.map Prod.fst) (fun x => x.1) (fun x => [.grp 3 1 (x.2.map (sub id)), .row x.1 44 1 (x.2.map gcell)]) := by
  have hln : (l.map gcell).length = l.length := by simp
  have htl := tot_len (f := (id : List Int → List Int)) (ts := l)
  refine Fn.of (n := 23) Tryz.func41 rfl rfl ?_; refine G.seq ?_; refine G.region ?_; refine G.v (rv_assign rfl) rfl ?_; refine G.done ?_; refine G.thenN ?_; refine G.seq ?_; refine G.region ?_; refine G.v (rv_move rfl) rfl ?_; refine G.v (rv_len rfl (by exact Rd.stays (by assumption))) rfl ?_; refine G.op (og_make rfl rfl rfl rfl rfl (by omega) (by omega)) rfl (fun v _ => ?_); refine G.v (rv_assign rfl) rfl ?_; refine G.done ?_; refine G.thenN ?_; refine G.seq ?_; refine G.seq ?_; refine G.region ?_; refine G.v (rv_assign rfl) rfl ?_; refine G.done ?_; refine G.thenN ?_; refine G.block ?_
  -- loop 0: turned [4], kept [0, 3]
  refine G.heap (fun w hh => hh.nilGrp 3 1) ?_; refine G.loopK (ι := List (List Int × Value)) (ks := [0, 3]) (fun d => [(4, .int .i64 d.length)]) (fun d => [.grp 3 1 (d.map (sub id)), .row v 44 1 (fillUp gcell [.slice none 0 0] (l.map gcell).length d)]) (fun d => d.length ≤ l.length ∧ d.map Prod.fst = (l.take d.length).map Prod.fst) (fun d => l.length - d.length) [] (.cons rfl (.cons rfl (.nil))) rfl ?_ ?_ ?_
  · exact ⟨Nat.zero_le _, rfl⟩
  · exact ⟨rfl, trivial⟩
  rintro d ⟨hk, hd⟩
  by_cases hlt : d.length < l.length
  case' pos => (obtain ⟨b, hb⟩ := get_of_lt hlt; have he := get_map hb gcell; have hf := fillUp_get (c := gcell) (z := [.slice none 0 0]) (Nat.lt_of_lt_of_eq hlt hln.symm))
  all_goals
   refine G.seq ?_; refine G.seq ?_; refine G.region ?_; refine G.v (rv_move rfl) rfl ?_; refine G.v (rv_move rfl) rfl ?_; refine G.v (rv_len rfl (by exact Rd.stays (by assumption))) rfl ?_; refine G.v (rv_lss rfl rfl) rfl ?_; refine G.done ?_; refine G.thenN ?_; refine G.cond rfl (fun hc => ?_) (fun hc => ?_)
   · try exact Bool.noConfusion hc
     all_goals
      try replace hc := of_decide_eq_true hc
      try simp only [List.length_map] at hc
      try (exfalso; omega)
      all_goals
       refine G.skip ?_; refine G.thenN ?_; refine G.seq ?_; refine G.block ?_; refine G.region ?_; refine G.v (rv_move rfl) rfl ?_; refine G.v (rv_move rfl) rfl ?_; refine G.v (rv_move rfl) rfl ?_; refine G.v (rv_move rfl) rfl ?_
       (refine G.v (rv_indexH rfl rfl (by exact Rd.stays (by assumption)) rfl (by exact he)) rfl ?_)
       refine G.v (rv_loadE rfl (by exact Rd.stays (by assumption)) (by exact he) rfl) rfl ?_
       (first | (refine G.op (og_callF1 rfl rfl (fun w hh => toIntS_any (l := b.1) w (Rd.stays (hs.at hb) _ hh) (by have := tot_elt (f := (id : List Int → List Int)) hb; simp only [id] at this; omega))) rfl ?_; rintro u hou; try dsimp only) | (refine G.op (og_callF2 rfl rfl (fun w hh => toIntS_any (l := b.1) w (Rd.stays (hs.at hb) _ hh) (by have := tot_elt (f := (id : List Int → List Int)) hb; simp only [id] at this; omega))) rfl ?_; rintro u hou; try dsimp only) | (refine G.op (og_callF3 rfl rfl (fun w hh => toIntS_any (l := b.1) w (Rd.stays (hs.at hb) _ hh) (by have := tot_elt (f := (id : List Int → List Int)) hb; simp only [id] at this; omega))) rfl ?_; rintro u hou; try dsimp only) | (refine G.op (og_callF0 rfl rfl (fun w hh => toIntS_any (l := b.1) w (Rd.stays (hs.at hb) _ hh) (by have := tot_elt (f := (id : List Int → List Int)) hb; simp only [id] at this; omega))) rfl ?_; rintro u hou; try dsimp only) | (refine G.op (og_callF rfl rfl (fun w hh => toIntS_any (l := b.1) w (Rd.stays (hs.at hb) _ hh) (by have := tot_elt (f := (id : List Int → List Int)) hb; simp only [id] at this; omega))) rfl ?_; rintro u hou; try dsimp only))
       (refine G.v (rv_indexH rfl rfl (by exact Rd.owned 2 rfl) rfl (by exact hf)) rfl ?_)
       (refine G.op0 (og_stE2 rfl rfl rfl (by exact hf) (cells_one (by assumption)) rfl (by repeat (first | rfl | refine one_cons (by assumption) ?_)) rfl (.zero (.cons .nil))) (fun _ _ => ?_))
       refine G.done ?_; refine G.inN ?_; refine G.thenN ?_; refine G.region ?_; refine G.v (rv_move rfl) rfl ?_
       (refine G.v (rv_incr rfl rfl (by omega)) rfl ?_)
       refine G.v (rv_assign rfl) rfl ?_; refine G.done ?_; refine G.heap (H' := [.grp 3 1 ((d ++ [(b.1, u)]).map (sub id)), .row v 44 1 (fillUp gcell [.slice none 0 0] (l.map gcell).length (d ++ [(b.1, u)]))]) (fun w hh => by have := hh.push; rw [← fillUp_set (Nat.lt_of_lt_of_eq hlt hln.symm), List.map_append]; exact this) ?_; refine G.backK (d ++ [(b.1, u)]) 0 rfl (.cons rfl (.cons rfl (.nil))) ?_ ?_ ?_
       · exact ⟨congrArg (fun z => some (Value.int .i64 z)) (by simp), trivial⟩
       · exact ⟨by simp; omega, fst_next hd hb rfl⟩
       · simp; omega
   · try exact Bool.noConfusion hc
     all_goals
      try replace hc := of_decide_eq_false hc
      try simp only [List.length_map] at hc
      try (exfalso; omega)
      all_goals
       refine G.exit ?_; refine G.thenX ?_; refine G.thenX ?_; refine G.inX ?_; refine G.thenN ?_; refine G.seq ?_; refine G.region ?_; refine G.v (rv_move rfl) rfl ?_; refine G.v (rv_assign rfl) rfl ?_; refine G.done ?_; refine G.thenN ?_; refine G.ret ?_; refine G.know (fun w hw => (Rd.owned 1 rfl w hw).one_) (fun hone => G.retF (v, d) ⟨hone, by rw [hd, take_all hlt]⟩ rfl rfl rfl (fun w hw => by rw [fillUp_all (by omega)] at hw; exact hw))
end Go.Proofs.YtibkggjbkgdnkaaGreat

/-
  Whether cartons are a packing: both ways.
-/
namespace Go.Proofs.YtibkggjbkgdnkaaGreat
open Go.RowKit
attribute [local irreducible] Go.wpList Go.Code.wp Go.Exit.then Go.Exit.inBlock Go.bodyPost Go.Calls pE pB G RunsV FnV Fn FnM
set_option maxRecDepth 100000
set_option maxHeartbeats 4000000
theorem okCs_next {r : ReqM} {l : List (List Int × Value)} {k : Nat} {b : List Int × Value} (hb : l[k]? = some b) (h : okCs r ((l.take k).map Prod.fst) = true) (h1 : (decide (b.1.length ≠ 0) && holdsM r b.1) = true) : okCs r ((l.take (k + 1)).map Prod.fst) = true := by
  rw [okCs, List.take_add_one, hb, List.map_append, List.all_append]
  rw [okCs] at h
  rw [h]; simpa using h1
theorem okCs_bad {r : ReqM} {l : List (List Int × Value)} {k : Nat} {b : List Int × Value} (hb : l[k]? = some b) (h1 : (decide (b.1.length ≠ 0) && holdsM r b.1) = false) : okCs r (l.map Prod.fst) = false := by
  rw [okCs, List.all_eq_false]
  exact ⟨b.1, List.mem_map.2 ⟨b, List.mem_of_getElem? hb, rfl⟩, by rw [h1]; decide⟩
theorem flat_next {l : List (List Int × Value)} {k : Nat} {b : List Int × Value} (hb : l[k]? = some b) : ((l.take k).map Prod.fst).flatten.map icell ++ b.1.map icell = ((l.take (k + 1)).map Prod.fst).flatten.map icell := by
  rw [List.take_add_one, hb, List.map_append, List.flatten_append, List.map_append]; simp
theorem flat_take (l : List (List Int × Value)) (k : Nat) : ((l.take k).map Prod.fst).flatten.length ≤ (l.map Prod.fst).flatten.length := by
  have e : l.map Prod.fst = (l.take k).map Prod.fst ++ (l.drop k).map Prod.fst := by rw [← List.map_append, List.take_append_drop]
  rw [e, List.flatten_append, List.length_append]; omega
theorem flat_elt {l : List (List Int × Value)} {k : Nat} {b : List Int × Value} (hb : l[k]? = some b) : ((l.take k).map Prod.fst).flatten.length + b.1.length ≤ (l.map Prod.fst).flatten.length := by
  have h1 := congrArg List.length (flat_next hb)
  have h2 := flat_take l (k + 1)
  simp only [List.length_append, List.length_map] at h1
  omega
section
variable {r : ReqM} {pv tv iv uv cv : Value} {us : List Int} {l : List (List Int × Value)} (w : World) (h : Rd w pv 2 (r.pairs.map PairM.cells)) (h2 : Rd w tv 7 (r.types.map TypeM.cells)) (h3 : Rd w iv 7 (r.items.map ItemM.cells)) (h4 : Rd w uv 1 (us.map icell)) (h5 : Rd w cv 1 (l.map gcell)) (hs : Subs w id l) (hul : us.length ≤ 1048576) (hfl : (l.map Prod.fst).flatten.length ≤ 1048576)
include h h2 h3 h4 h5 hs hul hfl
theorem isPacking_any : FnV Tryz.prog 42 [.agg (r.cells pv tv iv).toArray, uv, cv] w (.bool (packM r us (l.map Prod.fst))) := by
  have hle := h5.le_map
  have hln : (l.map gcell).length = l.length := by simp
  refine FnV.of (n := 52) Tryz.func42 rfl rfl ?_; refine G.seq ?_; refine G.region ?_; refine G.op (og_box rfl rfl) rfl (fun bk3 _ => ?_); refine G.v (rv_assign rfl) rfl ?_; refine G.done ?_; refine G.thenN ?_; refine G.seq ?_; refine G.seq ?_; refine G.region ?_
  (refine G.v (rv_loadW 0 rfl rfl rfl) rfl ?_)
  refine G.op (og_callV rfl rfl (fun w hh => sound_any (r := r) w (Rd.stays h _ hh) (Rd.stays h2 _ hh) (Rd.stays h3 _ hh))) rfl (fun _ _ => ?_); refine G.v (rv_not rfl) rfl ?_; refine G.done ?_; refine G.thenN ?_; refine G.cond rfl (fun hc => ?_) (fun hc => ?_)
  · try exact Bool.noConfusion hc
    all_goals
     try replace hc := of_decide_eq_true hc
     try simp only [hln] at hc
     try (exfalso; contradiction)
     all_goals
      have hno : ¬ classM r = 0 := (by exact of_decide_eq_false (by simpa using hc))
      all_goals
       refine G.seq ?_; refine G.region ?_; refine G.v (rv_assign rfl) rfl ?_; refine G.done ?_; refine G.thenN ?_; refine G.ret ?_; refine G.thenR ?_
       exact G.retFV rfl rfl (congrArg Value.bool (packM_no hno).symm)
  · try exact Bool.noConfusion hc
    all_goals
     try replace hc := of_decide_eq_false hc
     try simp only [hln] at hc
     try (exfalso; contradiction)
     all_goals
      have hyes : classM r = 0 := (by exact of_decide_eq_true (by simpa using hc))
      all_goals
       refine G.skip ?_; refine G.thenN ?_; refine G.seq ?_; refine G.region ?_
       (refine G.v (rv_loadW 0 rfl rfl rfl) rfl ?_)
       refine G.op (og_callV rfl rfl (fun w hh => masterOf_any (r := r) w (Rd.stays h2 _ hh))) rfl (fun _ _ => ?_); refine G.v (rv_move rfl) rfl ?_; refine G.v (rv_extract rfl rfl) rfl ?_; refine G.v (rv_extract rfl rfl) rfl ?_; refine G.op (og_alloc) rfl (fun bk7 _ => ?_)
       (refine G.op0 (og_st0 rfl rfl rfl rfl rfl rfl (.zero (.cons (.cons (.cons (.cons (.cons (.cons (.cons .nil))))))))) (fun _ _ => ?_))
       refine G.v (rv_assign rfl) rfl ?_; refine G.done ?_; refine G.thenN ?_; refine G.seq ?_; refine G.region ?_; refine G.op (og_lit rfl .nil rfl rfl rfl rfl rfl rfl) rfl (fun vl _ => ?_); refine G.v (rv_assign rfl) rfl ?_; refine G.done ?_; refine G.thenN ?_; refine G.seq ?_; refine G.seq ?_; refine G.region ?_; refine G.v (rv_move rfl) rfl ?_; refine G.v (rv_len rfl (by exact Rd.stays (by assumption))) rfl ?_; refine G.v (rv_move rfl) rfl ?_; refine G.done ?_; refine G.thenN ?_; refine G.block ?_
       -- loop 0: turned [9, 24], kept [1, 3, 7, 22, 23]
       (refine G.frontR0 vl rfl ?_)
       refine G.loopK (ι := Nat × Value) (ks := [1, 3, 7, 22, 23]) (fun x => [(9, x.2), (24, .int .i64 (x.1 : Int))]) (fun x => [.row x.2 3 1 (((l.take x.1).map Prod.fst).flatten.map icell)]) (fun x => x.1 ≤ l.length ∧ okCs r ((l.take x.1).map Prod.fst) = true) (fun x => l.length - x.1) (0, vl) (.cons rfl (.cons rfl (.cons rfl (.cons rfl (.cons rfl (.nil)))))) rfl ?_ ?_ ?_
       · exact ⟨Nat.zero_le _, rfl⟩
       · exact ⟨rfl, rfl, trivial⟩
       rintro ⟨k, v⟩ ⟨hk, hok⟩
       dsimp only at hk hok ⊢
       have hft := flat_take l k
       by_cases hlt : k < l.length
       case' pos => (obtain ⟨b, hb⟩ := get_of_lt hlt; have he := get_map hb gcell; have hfe := flat_elt hb; have hfe3 : (((l.take k).map Prod.fst).flatten.map icell).length + (b.1.map icell).length ≤ 1048576 := (by rw [List.length_map, List.length_map]; omega); simp at hfe3)
       case' neg => (have hall : l.take k = l := take_all hlt)
       all_goals
        refine G.seq ?_; refine G.region ?_; refine G.v (rv_lss rfl rfl) rfl ?_; refine G.done ?_; refine G.thenN ?_; refine G.seq ?_; refine G.cond rfl (fun hc => ?_) (fun hc => ?_)
        · try exact Bool.noConfusion hc
          all_goals
           try replace hc := of_decide_eq_true hc
           try simp only [hln] at hc
           try (exfalso; omega)
           all_goals
            refine G.skip ?_; refine G.thenN ?_; refine G.seq ?_; refine G.block ?_; refine G.seq ?_; refine G.region ?_
            (refine G.v (rv_indexH rfl rfl (by exact Rd.stays (by assumption)) rfl (by exact he)) rfl ?_)
            refine G.v (rv_loadE rfl (by exact Rd.stays (by assumption)) (by exact he) rfl) rfl ?_; refine G.v (rv_assign rfl) rfl ?_; refine G.done ?_; refine G.thenN ?_; refine G.seq ?_; refine G.seq ?_; refine G.region ?_; refine G.v (rv_move rfl) rfl ?_; refine G.v (rv_len rfl (by exact Rd.stays (hs.at hb))) rfl ?_; refine G.v (rv_eql rfl rfl) rfl ?_; refine G.v (rv_move rfl) rfl ?_
            all_goals (((with_reducible refine G.gP rfl rfl (fun hg => ?_) (fun hg => ?_)) <;> (try exact Bool.noConfusion hg) <;> (first | (refine G.gY rfl rfl ?_; (refine G.v (rv_loadW 2 rfl rfl rfl) rfl ?_)) | refine G.gN rfl rfl rfl ?_)))
            all_goals ((first | (refine G.gY rfl rfl ?_; refine G.v (rv_move rfl) rfl ?_) | refine G.gN rfl rfl rfl ?_))
            all_goals ((first | (refine G.gY rfl rfl ?_; (refine G.v (rv_loadW 1 rfl rfl rfl) rfl ?_)) | refine G.gN rfl rfl rfl ?_))
            all_goals ((first | (refine G.gY rfl rfl ?_; refine G.op (og_callV rfl rfl (fun w hh => within_any (r := r) (us := b.1) w (Rd.stays h _ hh) (Rd.stays h2 _ hh) (Rd.stays h3 _ hh) (Rd.stays (hs.at hb) _ hh) (by omega) (mst r))) rfl (fun _ _ => ?_)) | refine G.gN rfl rfl rfl ?_))
            all_goals ((first | (refine G.gY rfl rfl ?_; refine G.v (rv_not rfl) rfl ?_) | refine G.gN rfl rfl rfl ?_))
            all_goals ((first | refine G.v (rv_pickT rfl rfl) rfl ?_ | refine G.v (rv_pickF rfl rfl) rfl ?_))
            all_goals
             refine G.done ?_; refine G.thenN ?_; refine G.cond rfl (fun hc => ?_) (fun hc => ?_)
             · try exact Bool.noConfusion hc
               all_goals
                try replace hc := of_decide_eq_true hc
                try simp only [hln] at hc
                try (exfalso; contradiction)
                all_goals
                 have hbad : okCs r (l.map Prod.fst) = false := okCs_bad hb (by have e := within_mst r b.1; simp only [decide_eq_true_eq, decide_eq_false_iff_not] at hg; simp_all)
                 all_goals
                  refine G.seq ?_; refine G.region ?_; refine G.v (rv_assign rfl) rfl ?_; refine G.done ?_; refine G.thenN ?_; refine G.ret ?_; refine G.thenR ?_; refine G.inR ?_; refine G.thenR ?_; refine G.thenR ?_; refine G.inR ?_; refine G.thenR ?_
                  exact G.retFV rfl rfl (congrArg Value.bool (packM_bad hbad).symm)
             · try exact Bool.noConfusion hc
               all_goals
                try replace hc := of_decide_eq_false hc
                try simp only [hln] at hc
                try (exfalso; contradiction)
                all_goals
                 have hgood : (decide (b.1.length ≠ 0) && holdsM r b.1) = true := (by have e := within_mst r b.1; simp only [decide_eq_true_eq, decide_eq_false_iff_not] at hg; simp_all)
                 all_goals
                  refine G.skip ?_; refine G.thenN ?_; refine G.region ?_; refine G.v (rv_move rfl) rfl ?_; refine G.v (rv_move rfl) rfl ?_
                  ((refine G.op (og_app0 rfl rfl rfl (by exact Rd.stays (hs.at hb)) rfl rfl (by simp; omega) (by simp; omega)) rfl (fun va _ => ?_)))
                  refine G.v (rv_assign rfl) rfl ?_; refine G.done ?_; refine G.inN ?_; refine G.thenN ?_; refine G.region ?_
                  (refine G.v (rv_incr rfl rfl (by omega)) rfl ?_)
                  refine G.v (rv_move rfl) rfl ?_; refine G.done ?_
                  (refine G.frontR0 va rfl ?_)
                  refine G.backK (k + 1, va) 0 (one_eq (congrArg (fun z => Ch.row va 3 1 z) (flat_next hb))) (.cons rfl (.cons rfl (.cons rfl (.cons rfl (.cons rfl (.nil)))))) ?_ ?_ ?_
                  · exact ⟨rfl, rfl, trivial⟩
                  · exact ⟨hlt, okCs_next hb hok hgood⟩
                  · dsimp only; omega
        · try exact Bool.noConfusion hc
          all_goals
           try replace hc := of_decide_eq_false hc
           try simp only [hln] at hc
           try (exfalso; omega)
           all_goals
            refine G.exit ?_; refine G.thenX ?_; refine G.thenX ?_; refine G.inX ?_; refine G.thenN ?_; refine G.seq ?_; refine G.region ?_
            (refine G.v (rv_loadW 2 rfl rfl rfl) rfl ?_)
            refine G.v (rv_move rfl) rfl ?_
            (refine G.op (og_callF1 rfl rfl (fun w hh => thereOf_any (r := r) (us := us) w (Rd.stays h _ hh) (Rd.stays h2 _ hh) (Rd.stays h3 _ hh) (Rd.stays h4 _ hh) hul)) rfl ?_; rintro vt hvt; try dsimp only)
            rw [hall] at hok
            (refine G.frontR1 v rfl ?_)
            refine G.rowEq ((l.map Prod.fst).flatten.map icell) (by rw [hall]) rfl ?_; refine G.v (rv_assign rfl) rfl ?_; refine G.done ?_; refine G.thenN ?_; refine G.seq ?_; refine G.region ?_; refine G.v (rv_move rfl) rfl ?_
            ((refine G.frontR0 (v) rfl ?_); refine G.op (og_callMM1 rfl rfl rfl (sortG_any (ks := (l.map Prod.fst).flatten) hfl)) rfl ?_; rintro ⟨⟩ _; try dsimp only)
            refine G.done ?_; refine G.thenN ?_; refine G.seq ?_; refine G.region ?_; refine G.v (rv_move rfl) rfl ?_
            ((refine G.frontR1 (vt) rfl ?_); refine G.op (og_callMM1 rfl rfl rfl (sortG_any (ks := thereM r us) (by have := thereM_len r us; omega))) rfl ?_; rintro ⟨⟩ _; try dsimp only)
            refine G.done ?_; refine G.thenN ?_; refine G.seq ?_; refine G.region ?_; refine G.v (rv_move rfl) rfl ?_; refine G.v (rv_move rfl) rfl ?_; refine G.op (og_callV rfl rfl (fun w hh => equalInt_any (xs := sortM (l.map Prod.fst).flatten) (ys := sortM (thereM r us)) w (by exact Rd.owned 1 rfl _ hh) (by exact Rd.owned 0 rfl _ hh))) rfl (fun _ _ => ?_); refine G.v (rv_assign rfl) rfl ?_; refine G.done ?_; refine G.thenN ?_; refine G.ret ?_
            exact G.retFV rfl rfl (congrArg Value.bool (packM_ok hyes hok).symm)
end
end Go.Proofs.YtibkggjbkgdnkaaGreat

/-
  Whether cartons are a packing: the reference's way, and the law.
-/
namespace Go.Proofs.YtibkggjbkgdnkaaGreat
open Go.RowKit
attribute [local irreducible] Go.wpList Go.Code.wp Go.Exit.then Go.Exit.inBlock Go.bodyPost Go.Calls pE pB G RunsV FnV Fn FnM
set_option maxRecDepth 100000
set_option maxHeartbeats 4000000
theorem times_next {l : List Int} {k : Nat} {b x : Int} (hb : l[k]? = some b) : (timesM (l.take (k + 1)) x : Int) = timesM (l.take k) x + (if decide (b = x) then 1 else 0) := by
  rw [timesM, cnt_nextU hb, timesM]
theorem times_le (l : List Int) (x : Int) : timesM l x ≤ l.length := List.countP_le_length
theorem l8Times_any {v : Value} {l : List Int} (x : Int) (w : World) (h : Rd w v 1 (l.map icell)) (hn : l.length ≤ 1048576) : FnV Tryz.prog 109 [v, .int .i64 x] w (.int .i64 (timesM l x : Int)) := by
  have hln : (l.map icell).length = l.length := by simp
  refine FnV.of (n := 23) Tryz.func109 rfl rfl ?_; refine G.seq ?_; refine G.region ?_; refine G.v (rv_assign rfl) rfl ?_; refine G.done ?_; refine G.thenN ?_; refine G.seq ?_; refine G.region ?_; refine G.v (rv_assign rfl) rfl ?_; refine G.done ?_; refine G.thenN ?_; refine G.seq ?_; refine G.seq ?_; refine G.region ?_; refine G.v (rv_assign rfl) rfl ?_; refine G.done ?_; refine G.thenN ?_; refine G.block ?_
  -- loop 0: turned [5, 6], kept [0, 1]
  refine G.loopK (ι := Nat) (ks := [0, 1]) (fun k => [(5, .int .i64 (timesM (l.take k) x : Int)), (6, .int .i64 k)]) (fun _ => []) (fun k => k ≤ l.length) (fun k => l.length - k) 0 (.cons rfl (.cons rfl (.nil))) rfl ?_ ?_ ?_
  · exact Nat.zero_le _
  · exact ⟨rfl, rfl, trivial⟩
  rintro k hk
  have hc1 := times_le (l.take k) x
  rw [List.length_take, Nat.min_eq_left hk] at hc1
  by_cases hlt : k < l.length
  case' pos => (obtain ⟨b, hb⟩ := get_of_lt hlt; have he := get_map hb icell; have hbit : ∀ b : Bool, 0 ≤ (if b then (1 : Int) else 0) ∧ (if b then (1 : Int) else 0) ≤ 1 := (fun b => by cases b <;> decide))
  all_goals
   refine G.seq ?_; refine G.seq ?_; refine G.region ?_; refine G.v (rv_move rfl) rfl ?_; refine G.v (rv_move rfl) rfl ?_; refine G.v (rv_len rfl (by exact Rd.stays (by assumption))) rfl ?_; refine G.v (rv_lss rfl rfl) rfl ?_; refine G.done ?_; refine G.thenN ?_; refine G.cond rfl (fun hc => ?_) (fun hc => ?_)
   · try exact Bool.noConfusion hc
     all_goals
      try replace hc := of_decide_eq_true hc
      try simp only [List.length_map] at hc
      try (exfalso; omega)
      all_goals
       refine G.skip ?_; refine G.thenN ?_; refine G.seq ?_; refine G.block ?_; refine G.region ?_; refine G.v (rv_move rfl) rfl ?_; refine G.v (rv_move rfl) rfl ?_; refine G.v (rv_move rfl) rfl ?_
       (refine G.v (rv_indexH rfl rfl (by exact Rd.stays (by assumption)) rfl (by assumption)) rfl ?_)
       refine G.v (rv_loadE rfl (by exact Rd.stays (by assumption)) (by assumption) rfl) rfl ?_; refine G.v (rv_move rfl) rfl ?_; refine G.v (rv_eql rfl rfl) rfl ?_; refine G.op (og_callV rfl rfl (fun w _ => l1Bit_any _ w)) rfl (fun _ _ => ?_)
       have hb1 := hbit (decide (b = x))
       (refine G.v (rv_addB rfl rfl (by omega) (by omega)) rfl ?_)
       refine G.v (rv_assign rfl) rfl ?_; refine G.done ?_; refine G.inN ?_; refine G.thenN ?_; refine G.region ?_; refine G.v (rv_move rfl) rfl ?_
       (refine G.v (rv_incr rfl rfl (by omega)) rfl ?_)
       refine G.v (rv_assign rfl) rfl ?_; refine G.done ?_; refine G.backK (k + 1) 0 rfl (.cons rfl (.cons rfl (.nil))) ?_ ?_ ?_
       · exact ⟨congrArg (fun z => some (Value.int .i64 z)) (times_next hb).symm, rfl, trivial⟩
       · exact hlt
       · omega
   · try exact Bool.noConfusion hc
     all_goals
      try replace hc := of_decide_eq_false hc
      try simp only [List.length_map] at hc
      try (exfalso; omega)
      all_goals
       refine G.exit ?_; refine G.thenX ?_; refine G.thenX ?_; refine G.inX ?_; refine G.thenN ?_; refine G.seq ?_; refine G.region ?_; refine G.v (rv_move rfl) rfl ?_; refine G.v (rv_assign rfl) rfl ?_; refine G.done ?_; refine G.thenN ?_; refine G.ret ?_
       exact G.retFV rfl rfl (congrArg (Value.int .i64) (by rw [take_all hlt]))
section
variable {r : ReqM} {pv tv iv uv cv : Value} {us : List Int} {l : List (List Int × Value)} (w : World) (h : Rd w pv 2 (r.pairs.map PairM.cells)) (h2 : Rd w tv 7 (r.types.map TypeM.cells)) (h3 : Rd w iv 7 (r.items.map ItemM.cells)) (h4 : Rd w uv 1 (us.map icell)) (h5 : Rd w cv 1 (l.map gcell)) (hs : Subs w id l) (hul : us.length ≤ 1048576) (hfl : (l.map Prod.fst).flatten.length ≤ 1048576)
include h h2 h3 h4 h5 hs hul hfl
theorem sisPacking_any : FnV Tryz.prog 40 [.agg (r.cells pv tv iv).toArray, uv, cv] w (.bool (packM r us (l.map Prod.fst))) := by
  have hle := h5.le_map
  have hln : (l.map gcell).length = l.length := by simp
  have htl := thereM_len r us
  refine FnV.of (n := 97) Tryz.func40 rfl rfl ?_; refine G.seq ?_; refine G.region ?_; refine G.op (og_box rfl rfl) rfl (fun bk3 _ => ?_); refine G.v (rv_assign rfl) rfl ?_; refine G.done ?_; refine G.thenN ?_; refine G.seq ?_; refine G.seq ?_; refine G.region ?_
  (refine G.v (rv_loadW 0 rfl rfl rfl) rfl ?_)
  refine G.op (og_callV rfl rfl (fun w hh => sclass_any (r := r) w (Rd.stays h _ hh) (Rd.stays h2 _ hh) (Rd.stays h3 _ hh))) rfl (fun _ _ => ?_); refine G.v (rv_neq rfl rfl) rfl ?_; refine G.done ?_; refine G.thenN ?_; refine G.cond rfl (fun hc => ?_) (fun hc => ?_)
  · try exact Bool.noConfusion hc
    all_goals
     try replace hc := of_decide_eq_true hc
     try simp only [hln] at hc
     try (exfalso; contradiction)
     all_goals
      have hno : ¬ classM r = 0 := hc
      all_goals
       refine G.seq ?_; refine G.region ?_; refine G.v (rv_assign rfl) rfl ?_; refine G.done ?_; refine G.thenN ?_; refine G.ret ?_; refine G.thenR ?_
       exact G.retFV rfl rfl (congrArg Value.bool (packM_no hno).symm)
  · try exact Bool.noConfusion hc
    all_goals
     try replace hc := of_decide_eq_false hc
     try simp only [hln] at hc
     try (exfalso; contradiction)
     all_goals
      have hyes : classM r = 0 := by omega
      all_goals
       refine G.skip ?_; refine G.thenN ?_; refine G.seq ?_; refine G.region ?_
       (refine G.v (rv_loadW 0 rfl rfl rfl) rfl ?_)
       refine G.op (og_callV rfl rfl (fun w hh => smasterOf_any (r := r) w (Rd.stays h2 _ hh))) rfl (fun _ _ => ?_); refine G.v (rv_move rfl) rfl ?_; refine G.v (rv_extract rfl rfl) rfl ?_; refine G.v (rv_extract rfl rfl) rfl ?_; refine G.op (og_alloc) rfl (fun bk7 _ => ?_)
       (refine G.op0 (og_st0 rfl rfl rfl rfl rfl rfl (.zero (.cons (.cons (.cons (.cons (.cons (.cons (.cons .nil))))))))) (fun _ _ => ?_))
       refine G.v (rv_assign rfl) rfl ?_; refine G.done ?_; refine G.thenN ?_; refine G.seq ?_; refine G.region ?_
       (refine G.v (rv_loadW 1 rfl rfl rfl) rfl ?_)
       (refine G.op (og_callF1 rfl rfl (fun w hh => by have q := sl6Units_any (r := r) (pv := pv) (tv := tv) w (bounds_items (cls_sound hyes)) (bounds_lens (cls_sound hyes)).1 (Rd.stays h3 _ hh); rw [← unitsM_yes hyes] at q; exact q)) rfl ?_; rintro vu hvu; try dsimp only)
       refine G.v (rv_assign rfl) rfl ?_; refine G.done ?_; refine G.thenN ?_; refine G.seq ?_; refine G.region ?_; refine G.op (og_lit rfl .nil rfl rfl rfl rfl rfl rfl) rfl (fun vl _ => ?_); refine G.v (rv_assign rfl) rfl ?_; refine G.done ?_; refine G.thenN ?_; refine G.seq ?_; refine G.seq ?_; refine G.region ?_; refine G.v (rv_assign rfl) rfl ?_; refine G.done ?_; refine G.thenN ?_; refine G.block ?_
       -- loop 0: turned [10, 11], kept [1, 2, 3, 7, 9]
       (refine G.frontR0 vl rfl ?_)
       refine G.loopK (ι := Nat × Value) (ks := [1, 2, 3, 7, 9]) (fun x => [(10, x.2), (11, .int .i64 (x.1 : Int))]) (fun x => [.row x.2 3 1 (((l.take x.1).map Prod.fst).flatten.map icell)]) (fun x => x.1 ≤ l.length ∧ okCs r ((l.take x.1).map Prod.fst) = true) (fun x => l.length - x.1) (0, vl) (.cons rfl (.cons rfl (.cons rfl (.cons rfl (.cons rfl (.nil)))))) rfl ?_ ?_ ?_
       · exact ⟨Nat.zero_le _, rfl⟩
       · exact ⟨rfl, rfl, trivial⟩
       rintro ⟨k, v⟩ ⟨hk, hok⟩
       dsimp only at hk hok ⊢
       have hft := flat_take l k
       by_cases hlt : k < l.length
       case' pos => (obtain ⟨b, hb⟩ := get_of_lt hlt; have he := get_map hb gcell; have hfe := flat_elt hb; have hfe3 : (((l.take k).map Prod.fst).flatten.map icell).length + (b.1.map icell).length ≤ 1048576 := (by rw [List.length_map, List.length_map]; omega); simp at hfe3)
       case' neg => (have hall : l.take k = l := take_all hlt)
       all_goals
        refine G.seq ?_; refine G.seq ?_; refine G.region ?_; refine G.v (rv_move rfl) rfl ?_; refine G.v (rv_move rfl) rfl ?_; refine G.v (rv_len rfl (by exact Rd.stays (by assumption))) rfl ?_; refine G.v (rv_lss rfl rfl) rfl ?_; refine G.done ?_; refine G.thenN ?_; refine G.cond rfl (fun hc => ?_) (fun hc => ?_)
        · try exact Bool.noConfusion hc
          all_goals
           try replace hc := of_decide_eq_true hc
           try simp only [hln] at hc
           try (exfalso; omega)
           all_goals
            refine G.skip ?_; refine G.thenN ?_; refine G.seq ?_; refine G.block ?_; refine G.seq ?_; refine G.drawL [8] ?_
            (refine GE.q 0 rfl (by as_aux_lemma => kernel_rfl) rfl (qg_runs (rv_loadW 3 rfl rfl rfl)) rfl ?_)
            refine GE.q 1 rfl (by as_aux_lemma => kernel_rfl) rfl (qg_runs (rv_move rfl)) rfl ?_; refine GE.q 2 rfl (by as_aux_lemma => kernel_rfl) rfl (qg_runs (rv_move rfl)) rfl ?_; refine GE.q 3 rfl (by as_aux_lemma => kernel_rfl) rfl (qg_runs (rv_move rfl)) rfl ?_
            (refine GE.q 4 rfl (by as_aux_lemma => kernel_rfl) rfl (qg_runs (rv_indexH rfl rfl (by exact Rd.stays (by assumption)) rfl (by exact he))) rfl ?_)
            refine GE.q 5 rfl (by as_aux_lemma => kernel_rfl) rfl (qg_runs (rv_loadE rfl (by exact Rd.stays (by assumption)) (by exact he) rfl)) rfl ?_; refine GE.any (rs := [6, 7]) (by as_aux_lemma => kernel_rfl) (by simp) ?_; refine List.forall_mem_cons.2 ⟨?_, List.forall_mem_cons.2 ⟨?_, fun _ h => absurd h List.not_mem_nil⟩⟩
            ·
              (refine GE.pickOp rfl rfl rfl (og_callF0 rfl rfl (fun w hh => (l7Of_any (r := r) (us := b.1) w (Rd.stays h3 _ hh) (Rd.stays (hs.at hb) _ hh) (by omega) (by exact Rd.owned 1 rfl _ hh)).toFn)) rfl (fun _ _ h => by exact h) ?_; rintro ⟨⟩ _; try dsimp only)
              refine GE.ol 7 (by as_aux_lemma => kernel_rfl) rfl rfl (og_alloc) rfl (fun _ _ h => by exact h.drop 1) (fun bk12 _ => ?_)
              (refine GE.t0 8 (by as_aux_lemma => kernel_rfl) rfl rfl rfl (og_st0 rfl rfl rfl rfl rfl rfl (.zero (.cons (.cons .nil)))) (fun _ _ => ?_))
              refine GE.done (by as_aux_lemma => kernel_rfl) ?_; refine G.thenN ?_; refine G.seq ?_; refine G.seq ?_; refine G.drawL [] ?_; refine GE.q 0 rfl (by as_aux_lemma => kernel_rfl) rfl (qg_runs (rv_move rfl)) rfl ?_; refine GE.ol 1 (by as_aux_lemma => kernel_rfl) rfl rfl (og_runs (rv_move rfl)) rfl (fun _ _ h => by exact h) (fun _ _ => ?_)
              (refine GE.ol 2 (by as_aux_lemma => kernel_rfl) rfl rfl (og_runs (rv_indexH rfl rfl (by exact Rd.stays (by assumption)) rfl (by exact he))) rfl (fun _ _ h => by exact h) (fun _ _ => ?_))
              refine GE.ol 3 (by as_aux_lemma => kernel_rfl) rfl rfl (og_runs (rv_loadE rfl (by exact Rd.stays (by assumption)) (by exact he) rfl)) rfl (fun _ _ h => by exact h) (fun _ _ => ?_); refine GE.ol 4 (by as_aux_lemma => kernel_rfl) rfl rfl (og_runs (rv_len rfl (by exact Rd.stays (hs.at hb)))) rfl (fun _ _ h => by exact h) (fun _ _ => ?_); refine GE.ol 5 (by as_aux_lemma => kernel_rfl) rfl rfl (og_runs (rv_eql rfl rfl)) rfl (fun _ _ h => by exact h) (fun _ _ => ?_); refine GE.ol 6 (by as_aux_lemma => kernel_rfl) rfl rfl (og_runs (rv_move rfl)) rfl (fun _ _ h => by exact h) (fun _ _ => ?_)
              all_goals (((with_reducible refine GE.part (t := 45) rfl (fun hg => ?_) (fun hg => ?_)) <;> (try exact Bool.noConfusion hg) <;> (first | (refine GE.q 7 rfl (by as_aux_lemma => kernel_rfl) rfl (qg_runs (rv_field rfl)) rfl ?_) | refine GE.qn 7 rfl (by as_aux_lemma => kernel_rfl) rfl rfl ?_)))
              all_goals ((first | (refine GE.q 8 rfl (by as_aux_lemma => kernel_rfl) rfl (qg_runs (rv_load1 0 rfl rfl rfl)) rfl ?_) | refine GE.qn 8 rfl (by as_aux_lemma => kernel_rfl) rfl rfl ?_))
              all_goals ((first | (refine GE.q 9 rfl (by as_aux_lemma => kernel_rfl) rfl (qg_runs (rv_field rfl)) rfl ?_) | refine GE.qn 9 rfl (by as_aux_lemma => kernel_rfl) rfl rfl ?_))
              all_goals ((first | (refine GE.q 10 rfl (by as_aux_lemma => kernel_rfl) rfl (qg_runs (rv_load1 3 rfl rfl rfl)) rfl ?_) | refine GE.qn 10 rfl (by as_aux_lemma => kernel_rfl) rfl rfl ?_))
              all_goals ((first | (refine GE.q 11 rfl (by as_aux_lemma => kernel_rfl) rfl (qg_runs (rv_field rfl)) rfl ?_) | refine GE.qn 11 rfl (by as_aux_lemma => kernel_rfl) rfl rfl ?_))
              all_goals ((first | (refine GE.q 12 rfl (by as_aux_lemma => kernel_rfl) rfl (qg_runs (rv_load1 3 rfl rfl rfl)) rfl ?_) | refine GE.qn 12 rfl (by as_aux_lemma => kernel_rfl) rfl rfl ?_))
              all_goals ((first | (refine GE.q 13 rfl (by as_aux_lemma => kernel_rfl) rfl (qg_runs (rv_field rfl)) rfl ?_) | refine GE.qn 13 rfl (by as_aux_lemma => kernel_rfl) rfl rfl ?_))
              all_goals ((first | (refine GE.q 14 rfl (by as_aux_lemma => kernel_rfl) rfl (qg_runs (rv_load1 3 rfl rfl rfl)) rfl ?_) | refine GE.qn 14 rfl (by as_aux_lemma => kernel_rfl) rfl rfl ?_))
              all_goals ((first | refine GE.q 15 rfl (by as_aux_lemma => kernel_rfl) rfl (qg_call rfl rfl (fun w hh => svolume_any (mst r).w (mst r).h (mst r).d w)) rfl ?_ | refine GE.qn 15 rfl (by as_aux_lemma => kernel_rfl) rfl rfl ?_))
              all_goals ((first | refine GE.q 16 rfl (by as_aux_lemma => kernel_rfl) rfl (qg_runs (rv_gtr rfl rfl)) rfl ?_ | refine GE.qn 16 rfl (by as_aux_lemma => kernel_rfl) rfl rfl ?_))
              all_goals ((first | refine GE.ol 17 (by as_aux_lemma => kernel_rfl) rfl rfl (og_runs (rv_pickT rfl rfl)) rfl (fun _ _ h => by exact h) (fun _ _ => ?_) | refine GE.ol 17 (by as_aux_lemma => kernel_rfl) rfl rfl (og_runs (rv_pickF rfl rfl)) rfl (fun _ _ h => by exact h) (fun _ _ => ?_)))
              all_goals (refine GE.ol 18 (by as_aux_lemma => kernel_rfl) rfl rfl (og_runs (rv_move rfl)) rfl (fun _ _ h => by exact h) (fun _ _ => ?_))
              all_goals (((with_reducible refine GE.part (t := 57) rfl (fun hg => ?_) (fun hg => ?_)) <;> (try exact Bool.noConfusion hg) <;> (first | (refine GE.q 19 rfl (by as_aux_lemma => kernel_rfl) rfl (qg_runs (rv_field rfl)) rfl ?_) | refine GE.qn 19 rfl (by as_aux_lemma => kernel_rfl) rfl rfl ?_)))
              all_goals ((first | (refine GE.q 20 rfl (by as_aux_lemma => kernel_rfl) rfl (qg_runs (rv_load1 0 rfl rfl rfl)) rfl ?_) | refine GE.qn 20 rfl (by as_aux_lemma => kernel_rfl) rfl rfl ?_))
              all_goals ((first | (refine GE.q 21 rfl (by as_aux_lemma => kernel_rfl) rfl (qg_runs (rv_field rfl)) rfl ?_) | refine GE.qn 21 rfl (by as_aux_lemma => kernel_rfl) rfl rfl ?_))
              all_goals ((first | (refine GE.q 22 rfl (by as_aux_lemma => kernel_rfl) rfl (qg_runs (rv_load1 3 rfl rfl rfl)) rfl ?_) | refine GE.qn 22 rfl (by as_aux_lemma => kernel_rfl) rfl rfl ?_))
              all_goals ((first | refine GE.q 23 rfl (by as_aux_lemma => kernel_rfl) rfl (qg_runs (rv_gtr rfl rfl)) rfl ?_ | refine GE.qn 23 rfl (by as_aux_lemma => kernel_rfl) rfl rfl ?_))
              all_goals ((first | refine GE.ol 24 (by as_aux_lemma => kernel_rfl) rfl rfl (og_runs (rv_pickT rfl rfl)) rfl (fun _ _ h => by exact h) (fun _ _ => ?_) | refine GE.ol 24 (by as_aux_lemma => kernel_rfl) rfl rfl (og_runs (rv_pickF rfl rfl)) rfl (fun _ _ h => by exact h) (fun _ _ => ?_)))
              all_goals
               refine GE.done (by as_aux_lemma => kernel_rfl) ?_; refine G.thenN ?_; refine G.cond rfl (fun hc => ?_) (fun hc => ?_)
               · try exact Bool.noConfusion hc
                 all_goals
                  try replace hc := of_decide_eq_true hc
                  try simp only [hln] at hc
                  try (exfalso; contradiction)
                  all_goals
                   have hbad : okCs r (l.map Prod.fst) = false := okCs_bad hb (by (try simp only [decide_eq_true_eq, decide_eq_false_iff_not] at *); (try simp only [List.length_map, id, show (typeAt r r.master).1 = mst r from rfl] at *); simp only [holdsM, Bool.and_eq_false_iff, decide_eq_false_iff_not]; omega)
                   all_goals
                    refine G.seq ?_; refine G.region ?_; refine G.v (rv_assign rfl) rfl ?_; refine G.done ?_; refine G.thenN ?_; refine G.ret ?_; refine G.thenR ?_; refine G.inR ?_; refine G.thenR ?_; refine G.thenR ?_; refine G.inR ?_; refine G.thenR ?_
                    exact G.retFV rfl rfl (congrArg Value.bool (packM_bad hbad).symm)
               · try exact Bool.noConfusion hc
                 all_goals
                  try replace hc := of_decide_eq_false hc
                  try simp only [hln] at hc
                  try (exfalso; contradiction)
                  all_goals
                   have hgood : (decide (b.1.length ≠ 0) && holdsM r b.1) = true := (by (try simp only [decide_eq_true_eq, decide_eq_false_iff_not] at *); (try simp only [List.length_map, id, show (typeAt r r.master).1 = mst r from rfl] at *); simp only [holdsM, Bool.and_eq_true, decide_eq_true_eq]; omega)
                   all_goals
                    refine G.skip ?_; refine G.thenN ?_; refine G.region ?_; refine G.v (rv_move rfl) rfl ?_; refine G.v (rv_move rfl) rfl ?_; refine G.v (rv_move rfl) rfl ?_
                    (refine G.v (rv_indexH rfl rfl (by exact Rd.stays (by assumption)) rfl (by exact he)) rfl ?_)
                    refine G.v (rv_loadE rfl (by exact Rd.stays (by assumption)) (by exact he) rfl) rfl ?_
                    ((refine G.op (og_app1 rfl rfl rfl (by exact Rd.stays (hs.at hb)) rfl rfl (by simp; omega) (by simp; omega)) rfl (fun va _ => ?_)))
                    refine G.v (rv_assign rfl) rfl ?_; refine G.done ?_; refine G.inN ?_; refine G.thenN ?_; refine G.region ?_; refine G.v (rv_move rfl) rfl ?_
                    (refine G.v (rv_incr rfl rfl (by omega)) rfl ?_)
                    refine G.v (rv_assign rfl) rfl ?_; refine G.done ?_
                    (refine G.frontR1 va rfl ?_)
                    (refine G.keep1 1 rfl ?_; refine G.backK (k + 1, va) 0 (one_eq (congrArg (fun z => Ch.row va 3 1 z) (flat_next hb))) (.cons rfl (.cons rfl (.cons rfl (.cons rfl (.cons rfl (.nil)))))) ?_ ?_ ?_)
                    · exact ⟨rfl, rfl, trivial⟩
                    · exact ⟨hlt, okCs_next hb hok hgood⟩
                    · dsimp only; omega
            ·
              refine GE.pickOp rfl rfl rfl (og_alloc) rfl (fun _ _ h => by exact h.drop 1) (fun bk12 _ => ?_)
              (refine GE.ol 6 (by as_aux_lemma => kernel_rfl) rfl rfl (og_callF0 rfl rfl (fun w hh => (l7Of_any (r := r) (us := b.1) w (Rd.stays h3 _ hh) (Rd.stays (hs.at hb) _ hh) (by omega) (by exact Rd.owned 2 rfl _ hh)).toFn)) rfl (fun _ _ h => by exact h.drop 1) ?_; rintro ⟨⟩ _; try dsimp only)
              (refine GE.t0 8 (by as_aux_lemma => kernel_rfl) rfl rfl rfl (og_st0 rfl rfl rfl rfl rfl rfl (.zero (.cons (.cons .nil)))) (fun _ _ => ?_))
              refine GE.done (by as_aux_lemma => kernel_rfl) ?_; refine G.thenN ?_; refine G.seq ?_; refine G.seq ?_; refine G.drawL [] ?_; refine GE.q 0 rfl (by as_aux_lemma => kernel_rfl) rfl (qg_runs (rv_move rfl)) rfl ?_; refine GE.ol 1 (by as_aux_lemma => kernel_rfl) rfl rfl (og_runs (rv_move rfl)) rfl (fun _ _ h => by exact h) (fun _ _ => ?_)
              (refine GE.ol 2 (by as_aux_lemma => kernel_rfl) rfl rfl (og_runs (rv_indexH rfl rfl (by exact Rd.stays (by assumption)) rfl (by exact he))) rfl (fun _ _ h => by exact h) (fun _ _ => ?_))
              refine GE.ol 3 (by as_aux_lemma => kernel_rfl) rfl rfl (og_runs (rv_loadE rfl (by exact Rd.stays (by assumption)) (by exact he) rfl)) rfl (fun _ _ h => by exact h) (fun _ _ => ?_); refine GE.ol 4 (by as_aux_lemma => kernel_rfl) rfl rfl (og_runs (rv_len rfl (by exact Rd.stays (hs.at hb)))) rfl (fun _ _ h => by exact h) (fun _ _ => ?_); refine GE.ol 5 (by as_aux_lemma => kernel_rfl) rfl rfl (og_runs (rv_eql rfl rfl)) rfl (fun _ _ h => by exact h) (fun _ _ => ?_); refine GE.ol 6 (by as_aux_lemma => kernel_rfl) rfl rfl (og_runs (rv_move rfl)) rfl (fun _ _ h => by exact h) (fun _ _ => ?_)
              all_goals (((with_reducible refine GE.part (t := 45) rfl (fun hg => ?_) (fun hg => ?_)) <;> (try exact Bool.noConfusion hg) <;> (first | (refine GE.q 7 rfl (by as_aux_lemma => kernel_rfl) rfl (qg_runs (rv_field rfl)) rfl ?_) | refine GE.qn 7 rfl (by as_aux_lemma => kernel_rfl) rfl rfl ?_)))
              all_goals ((first | (refine GE.q 8 rfl (by as_aux_lemma => kernel_rfl) rfl (qg_runs (rv_load1 0 rfl rfl rfl)) rfl ?_) | refine GE.qn 8 rfl (by as_aux_lemma => kernel_rfl) rfl rfl ?_))
              all_goals ((first | (refine GE.q 9 rfl (by as_aux_lemma => kernel_rfl) rfl (qg_runs (rv_field rfl)) rfl ?_) | refine GE.qn 9 rfl (by as_aux_lemma => kernel_rfl) rfl rfl ?_))
              all_goals ((first | (refine GE.q 10 rfl (by as_aux_lemma => kernel_rfl) rfl (qg_runs (rv_load1 3 rfl rfl rfl)) rfl ?_) | refine GE.qn 10 rfl (by as_aux_lemma => kernel_rfl) rfl rfl ?_))
              all_goals ((first | (refine GE.q 11 rfl (by as_aux_lemma => kernel_rfl) rfl (qg_runs (rv_field rfl)) rfl ?_) | refine GE.qn 11 rfl (by as_aux_lemma => kernel_rfl) rfl rfl ?_))
              all_goals ((first | (refine GE.q 12 rfl (by as_aux_lemma => kernel_rfl) rfl (qg_runs (rv_load1 3 rfl rfl rfl)) rfl ?_) | refine GE.qn 12 rfl (by as_aux_lemma => kernel_rfl) rfl rfl ?_))
              all_goals ((first | (refine GE.q 13 rfl (by as_aux_lemma => kernel_rfl) rfl (qg_runs (rv_field rfl)) rfl ?_) | refine GE.qn 13 rfl (by as_aux_lemma => kernel_rfl) rfl rfl ?_))
              all_goals ((first | (refine GE.q 14 rfl (by as_aux_lemma => kernel_rfl) rfl (qg_runs (rv_load1 3 rfl rfl rfl)) rfl ?_) | refine GE.qn 14 rfl (by as_aux_lemma => kernel_rfl) rfl rfl ?_))
              all_goals ((first | refine GE.q 15 rfl (by as_aux_lemma => kernel_rfl) rfl (qg_call rfl rfl (fun w hh => svolume_any (mst r).w (mst r).h (mst r).d w)) rfl ?_ | refine GE.qn 15 rfl (by as_aux_lemma => kernel_rfl) rfl rfl ?_))
              all_goals ((first | refine GE.q 16 rfl (by as_aux_lemma => kernel_rfl) rfl (qg_runs (rv_gtr rfl rfl)) rfl ?_ | refine GE.qn 16 rfl (by as_aux_lemma => kernel_rfl) rfl rfl ?_))
              all_goals ((first | refine GE.ol 17 (by as_aux_lemma => kernel_rfl) rfl rfl (og_runs (rv_pickT rfl rfl)) rfl (fun _ _ h => by exact h) (fun _ _ => ?_) | refine GE.ol 17 (by as_aux_lemma => kernel_rfl) rfl rfl (og_runs (rv_pickF rfl rfl)) rfl (fun _ _ h => by exact h) (fun _ _ => ?_)))
              all_goals (refine GE.ol 18 (by as_aux_lemma => kernel_rfl) rfl rfl (og_runs (rv_move rfl)) rfl (fun _ _ h => by exact h) (fun _ _ => ?_))
              all_goals (((with_reducible refine GE.part (t := 57) rfl (fun hg => ?_) (fun hg => ?_)) <;> (try exact Bool.noConfusion hg) <;> (first | (refine GE.q 19 rfl (by as_aux_lemma => kernel_rfl) rfl (qg_runs (rv_field rfl)) rfl ?_) | refine GE.qn 19 rfl (by as_aux_lemma => kernel_rfl) rfl rfl ?_)))
              all_goals ((first | (refine GE.q 20 rfl (by as_aux_lemma => kernel_rfl) rfl (qg_runs (rv_load1 0 rfl rfl rfl)) rfl ?_) | refine GE.qn 20 rfl (by as_aux_lemma => kernel_rfl) rfl rfl ?_))
              all_goals ((first | (refine GE.q 21 rfl (by as_aux_lemma => kernel_rfl) rfl (qg_runs (rv_field rfl)) rfl ?_) | refine GE.qn 21 rfl (by as_aux_lemma => kernel_rfl) rfl rfl ?_))
              all_goals ((first | (refine GE.q 22 rfl (by as_aux_lemma => kernel_rfl) rfl (qg_runs (rv_load1 3 rfl rfl rfl)) rfl ?_) | refine GE.qn 22 rfl (by as_aux_lemma => kernel_rfl) rfl rfl ?_))
              all_goals ((first | refine GE.q 23 rfl (by as_aux_lemma => kernel_rfl) rfl (qg_runs (rv_gtr rfl rfl)) rfl ?_ | refine GE.qn 23 rfl (by as_aux_lemma => kernel_rfl) rfl rfl ?_))
              all_goals ((first | refine GE.ol 24 (by as_aux_lemma => kernel_rfl) rfl rfl (og_runs (rv_pickT rfl rfl)) rfl (fun _ _ h => by exact h) (fun _ _ => ?_) | refine GE.ol 24 (by as_aux_lemma => kernel_rfl) rfl rfl (og_runs (rv_pickF rfl rfl)) rfl (fun _ _ h => by exact h) (fun _ _ => ?_)))
              all_goals
               refine GE.done (by as_aux_lemma => kernel_rfl) ?_; refine G.thenN ?_; refine G.cond rfl (fun hc => ?_) (fun hc => ?_)
               · try exact Bool.noConfusion hc
                 all_goals
                  try replace hc := of_decide_eq_true hc
                  try simp only [hln] at hc
                  try (exfalso; contradiction)
                  all_goals
                   have hbad : okCs r (l.map Prod.fst) = false := okCs_bad hb (by (try simp only [decide_eq_true_eq, decide_eq_false_iff_not] at *); (try simp only [List.length_map, id, show (typeAt r r.master).1 = mst r from rfl] at *); simp only [holdsM, Bool.and_eq_false_iff, decide_eq_false_iff_not]; omega)
                   all_goals
                    refine G.seq ?_; refine G.region ?_; refine G.v (rv_assign rfl) rfl ?_; refine G.done ?_; refine G.thenN ?_; refine G.ret ?_; refine G.thenR ?_; refine G.inR ?_; refine G.thenR ?_; refine G.thenR ?_; refine G.inR ?_; refine G.thenR ?_
                    exact G.retFV rfl rfl (congrArg Value.bool (packM_bad hbad).symm)
               · try exact Bool.noConfusion hc
                 all_goals
                  try replace hc := of_decide_eq_false hc
                  try simp only [hln] at hc
                  try (exfalso; contradiction)
                  all_goals
                   have hgood : (decide (b.1.length ≠ 0) && holdsM r b.1) = true := (by (try simp only [decide_eq_true_eq, decide_eq_false_iff_not] at *); (try simp only [List.length_map, id, show (typeAt r r.master).1 = mst r from rfl] at *); simp only [holdsM, Bool.and_eq_true, decide_eq_true_eq]; omega)
                   all_goals
                    refine G.skip ?_; refine G.thenN ?_; refine G.region ?_; refine G.v (rv_move rfl) rfl ?_; refine G.v (rv_move rfl) rfl ?_; refine G.v (rv_move rfl) rfl ?_
                    (refine G.v (rv_indexH rfl rfl (by exact Rd.stays (by assumption)) rfl (by exact he)) rfl ?_)
                    refine G.v (rv_loadE rfl (by exact Rd.stays (by assumption)) (by exact he) rfl) rfl ?_
                    ((refine G.op (og_app1 rfl rfl rfl (by exact Rd.stays (hs.at hb)) rfl rfl (by simp; omega) (by simp; omega)) rfl (fun va _ => ?_)))
                    refine G.v (rv_assign rfl) rfl ?_; refine G.done ?_; refine G.inN ?_; refine G.thenN ?_; refine G.region ?_; refine G.v (rv_move rfl) rfl ?_
                    (refine G.v (rv_incr rfl rfl (by omega)) rfl ?_)
                    refine G.v (rv_assign rfl) rfl ?_; refine G.done ?_
                    (refine G.frontR1 va rfl ?_)
                    (refine G.keep1 1 rfl ?_; refine G.backK (k + 1, va) 0 (one_eq (congrArg (fun z => Ch.row va 3 1 z) (flat_next hb))) (.cons rfl (.cons rfl (.cons rfl (.cons rfl (.cons rfl (.nil)))))) ?_ ?_ ?_)
                    · exact ⟨rfl, rfl, trivial⟩
                    · exact ⟨hlt, okCs_next hb hok hgood⟩
                    · dsimp only; omega
        · try exact Bool.noConfusion hc
          all_goals
           try replace hc := of_decide_eq_false hc
           try simp only [hln] at hc
           try (exfalso; omega)
           all_goals
            refine G.exit ?_; refine G.thenX ?_; refine G.thenX ?_; refine G.inX ?_; refine G.thenN ?_; refine G.seq ?_; refine G.region ?_; refine G.v (rv_move rfl) rfl ?_; refine G.v (rv_move rfl) rfl ?_
            (refine G.op (og_callF1 rfl rfl (fun w hh => l7Known_any (r := r) (us := us) w (by exact Rd.owned 1 rfl _ hh) (Rd.stays h4 _ hh) hul)) rfl ?_; rintro vt hvt; try dsimp only)
            rw [hall] at hok
            (refine G.frontR1 v rfl ?_)
            refine G.rowEq ((l.map Prod.fst).flatten.map icell) (by rw [hall]) rfl ?_; refine G.v (rv_assign rfl) rfl ?_; refine G.done ?_; refine G.thenN ?_; refine G.seq ?_; refine G.seq ?_; refine G.region ?_; refine G.v (rv_move rfl) rfl ?_; refine G.v (rv_len rfl (by exact Rd.owned 1 rfl)) rfl ?_; refine G.v (rv_move rfl) rfl ?_; refine G.v (rv_len rfl (by exact Rd.owned 0 rfl)) rfl ?_; refine G.v (rv_neq rfl rfl) rfl ?_; refine G.done ?_; refine G.thenN ?_; refine G.cond rfl (fun hc => ?_) (fun hc => ?_)
            · try exact Bool.noConfusion hc
              all_goals
               try replace hc := of_decide_eq_true hc
               try simp only [hln] at hc
               try (exfalso; contradiction)
               all_goals
                have hbad2 : packM r us (l.map Prod.fst) = false := pack_len (by simp only [List.length_map] at hc; omega)
                all_goals
                 refine G.seq ?_; refine G.region ?_; refine G.v (rv_assign rfl) rfl ?_; refine G.done ?_; refine G.thenN ?_; refine G.ret ?_; refine G.thenR ?_
                 exact G.retFV rfl rfl (congrArg Value.bool hbad2.symm)
            · try exact Bool.noConfusion hc
              all_goals
               try replace hc := of_decide_eq_false hc
               try simp only [hln] at hc
               try (exfalso; contradiction)
               all_goals
                have hsame : (thereM r us).length = (l.map Prod.fst).flatten.length := by simp only [List.length_map] at hc; omega
                all_goals
                 refine G.skip ?_; refine G.thenN ?_; refine G.seq ?_; refine G.seq ?_; refine G.region ?_; refine G.v (rv_assign rfl) rfl ?_; refine G.done ?_; refine G.thenN ?_; refine G.block ?_
                 -- loop 1: turned [14], kept [10, 13]
                 refine G.loopK (ι := Nat) (ks := [10, 13]) (fun k => [(14, .int .i64 k)]) (fun _ => []) (fun k => k ≤ (l.map Prod.fst).flatten.length ∧ ∀ x ∈ (l.map Prod.fst).flatten.take k, timesM (l.map Prod.fst).flatten x = timesM (thereM r us) x) (fun k => (l.map Prod.fst).flatten.length - k) 0 (.cons rfl (.cons rfl (.nil))) rfl ?_ ?_ ?_
                 · exact ⟨Nat.zero_le _, fun x hx => by simp at hx⟩
                 · exact ⟨rfl, trivial⟩
                 rintro j ⟨hj, hjt⟩
                 have hll : ((l.map Prod.fst).flatten.map icell).length = (l.map Prod.fst).flatten.length := List.length_map _
                 by_cases hlt1 : j < (l.map Prod.fst).flatten.length
                 case' pos => (obtain ⟨x, hx⟩ := get_of_lt hlt1; have e5 := get_map hx icell)
                 all_goals
                  refine G.seq ?_; refine G.seq ?_; refine G.region ?_; refine G.v (rv_move rfl) rfl ?_; refine G.v (rv_move rfl) rfl ?_; refine G.v (rv_len rfl (by exact Rd.owned 0 rfl)) rfl ?_; refine G.v (rv_lss rfl rfl) rfl ?_; refine G.done ?_; refine G.thenN ?_; refine G.cond rfl (fun hc => ?_) (fun hc => ?_)
                  · try exact Bool.noConfusion hc
                    all_goals
                     try replace hc := of_decide_eq_true hc
                     try simp only [hln] at hc
                     try (exfalso; omega)
                     all_goals
                      refine G.skip ?_; refine G.thenN ?_; refine G.seq ?_; refine G.block ?_; refine G.seq ?_; refine G.drawL [] ?_; refine GE.q 0 rfl (by as_aux_lemma => kernel_rfl) rfl (qg_runs (rv_move rfl)) rfl ?_; refine GE.q 1 rfl (by as_aux_lemma => kernel_rfl) rfl (qg_runs (rv_move rfl)) rfl ?_; refine GE.q 2 rfl (by as_aux_lemma => kernel_rfl) rfl (qg_runs (rv_move rfl)) rfl ?_
                      (refine GE.q 3 rfl (by as_aux_lemma => kernel_rfl) rfl (qg_runs (rv_indexH rfl rfl (by exact Rd.owned 0 rfl) rfl (by exact e5))) rfl ?_)
                      refine GE.q 4 rfl (by as_aux_lemma => kernel_rfl) rfl (qg_runs (rv_loadE rfl (by exact Rd.owned 0 rfl) (by exact e5) rfl)) rfl ?_; refine GE.q 5 rfl (by as_aux_lemma => kernel_rfl) rfl (qg_call rfl rfl (fun w hh => l8Times_any (l := (l.map Prod.fst).flatten) x w (by exact Rd.owned 0 rfl _ hh) hfl)) rfl ?_; refine GE.q 6 rfl (by as_aux_lemma => kernel_rfl) rfl (qg_runs (rv_move rfl)) rfl ?_; refine GE.q 7 rfl (by as_aux_lemma => kernel_rfl) rfl (qg_runs (rv_move rfl)) rfl ?_; refine GE.ol 8 (by as_aux_lemma => kernel_rfl) rfl rfl (og_runs (rv_move rfl)) rfl (fun _ _ h => by exact h) (fun _ _ => ?_)
                      (refine GE.ol 9 (by as_aux_lemma => kernel_rfl) rfl rfl (og_runs (rv_indexH rfl rfl (by exact Rd.owned 0 rfl) rfl (by exact e5))) rfl (fun _ _ h => by exact h) (fun _ _ => ?_))
                      refine GE.ol 10 (by as_aux_lemma => kernel_rfl) rfl rfl (og_runs (rv_loadE rfl (by exact Rd.owned 0 rfl) (by exact e5) rfl)) rfl (fun _ _ h => by exact h) (fun _ _ => ?_); refine GE.ol 11 (by as_aux_lemma => kernel_rfl) rfl rfl (og_callV rfl rfl (fun w hh => l8Times_any (l := thereM r us) x w (by exact Rd.owned 1 rfl _ hh) (by omega))) rfl (fun _ _ h => by exact h) (fun _ _ => ?_); refine GE.ol 12 (by as_aux_lemma => kernel_rfl) rfl rfl (og_runs (rv_neq rfl rfl)) rfl (fun _ _ h => by exact h) (fun _ _ => ?_); refine GE.done (by as_aux_lemma => kernel_rfl) ?_; refine G.thenN ?_; refine G.cond rfl (fun hc => ?_) (fun hc => ?_)
                      · try exact Bool.noConfusion hc
                        all_goals
                         try replace hc := of_decide_eq_true hc
                         try simp only [hln] at hc
                         try (exfalso; contradiction)
                         all_goals
                          have hbad3 : packM r us (l.map Prod.fst) = false := pack_at (x := x) (by omega)
                          all_goals
                           refine G.seq ?_; refine G.region ?_; refine G.v (rv_assign rfl) rfl ?_; refine G.done ?_; refine G.thenN ?_; refine G.ret ?_; refine G.inR ?_; refine G.thenR ?_; refine G.thenR ?_; refine G.inR ?_; refine G.thenR ?_
                           exact G.retFV rfl rfl (congrArg Value.bool hbad3.symm)
                      · try exact Bool.noConfusion hc
                        all_goals
                         try replace hc := of_decide_eq_false hc
                         try simp only [hln] at hc
                         try (exfalso; contradiction)
                         all_goals
                          refine G.skip ?_; refine G.inN ?_; refine G.thenN ?_; refine G.region ?_; refine G.v (rv_move rfl) rfl ?_
                          (refine G.v (rv_incr rfl rfl (by omega)) rfl ?_)
                          refine G.v (rv_assign rfl) rfl ?_; refine G.done ?_; refine G.backK (j + 1) 0 rfl (.cons rfl (.cons rfl (.nil))) ?_ ?_ ?_
                          · exact ⟨rfl, trivial⟩
                          · exact ⟨hlt1, fun y hy => by rw [List.take_add_one, hx, List.mem_append] at hy; rcases hy with hy | hy; (exact hjt y hy); (obtain rfl : y = x := (by simpa using hy)); omega⟩
                          · omega
                  · try exact Bool.noConfusion hc
                    all_goals
                     try replace hc := of_decide_eq_false hc
                     try simp only [hln] at hc
                     try (exfalso; omega)
                     all_goals
                      refine G.exit ?_; refine G.thenX ?_; refine G.thenX ?_; refine G.inX ?_; refine G.thenN ?_; refine G.seq ?_; refine G.region ?_; refine G.v (rv_assign rfl) rfl ?_; refine G.done ?_; refine G.thenN ?_; refine G.ret ?_
                      (exact G.retFV rfl rfl (congrArg Value.bool (pack_yes hyes hok hsame (fun x hx => hjt x (by rw [List.take_of_length_le (by omega)]; exact hx))).symm))
end
theorem flat_tot : ∀ l : List (List Int × Value), (l.map Prod.fst).flatten.length ≤ tot id l
  | [] => by simp
  | b :: l => by
    have := flat_tot l
    simp only [tot, List.map_cons, List.flatten_cons, List.length_append, List.length_cons, List.sum_cons, id] at *
    omega
theorem fnExactIsPacking_any {pv tv iv uv cv : Value} {w : World} (r : ReqM) (hr : RqRd w r pv tv iv) {us : List Int} (h4 : Rd w uv 1 (us.map icell)) {l : List (List Int × Value)} (h5 : Rd w cv 1 (l.map gcell)) (hs : Subs w id l) :
    FnV Tryz.prog 8 [.agg (r.cells pv tv iv).toArray, uv, cv] w (.bool true) := by
  obtain ⟨h, h2, h3⟩ := hr
  have hle := h4.le_map
  have hle5 := h5.le_map
  have hul2 : (us.map icell).length = us.length := by simp
  have hft : (l.map Prod.fst).flatten.length ≤ tot id l := flat_tot l
  refine FnV.of (n := 61) Tryz.func8 rfl rfl ?_; refine G.seq ?_; refine G.region ?_; refine G.op (og_box rfl rfl) rfl (fun bk3 _ => ?_); refine G.v (rv_assign rfl) rfl ?_; refine G.done ?_; refine G.thenN ?_; refine G.seq ?_; refine G.seq ?_; refine G.region ?_; refine G.v (rv_move rfl) rfl ?_; refine G.v (rv_len rfl (by exact Rd.stays (by assumption))) rfl ?_; refine G.v (rv_gtr rfl rfl) rfl ?_; refine G.done ?_; refine G.thenN ?_; refine G.cond rfl (fun hc => ?_) (fun hc => ?_)
  · try exact Bool.noConfusion hc
    all_goals
     try replace hc := of_decide_eq_true hc
     try (exfalso; contradiction)
     all_goals
      refine G.seq ?_; refine G.region ?_; refine G.v (rv_assign rfl) rfl ?_; refine G.done ?_; refine G.thenN ?_; refine G.ret ?_; refine G.thenR ?_
      exact G.retFV rfl rfl rfl
  · try exact Bool.noConfusion hc
    all_goals
     try replace hc := of_decide_eq_false hc
     try (exfalso; contradiction)
     all_goals
      refine G.skip ?_; refine G.thenN ?_; refine G.seq ?_; refine G.region ?_; refine G.v (rv_assign rfl) rfl ?_; refine G.done ?_; refine G.thenN ?_; refine G.seq ?_; refine G.region ?_
      (refine G.v (rv_loadW 0 rfl rfl rfl) rfl ?_)
      refine G.v (rv_move rfl) rfl ?_; refine G.op (og_callV rfl rfl (fun w hh => szRequest_any (r := r) _ w (Rd.stays h _ hh) (Rd.stays h2 _ hh) (Rd.stays h3 _ hh) (by omega) (by omega))) rfl (fun _ _ => ?_); refine G.v (rv_assign rfl) rfl ?_; refine G.done ?_; refine G.thenN ?_; refine G.seq ?_; refine G.seq ?_; refine G.region ?_; refine G.v (rv_move rfl) rfl ?_; refine G.v (rv_lss rfl rfl) rfl ?_; refine G.done ?_; refine G.thenN ?_; refine G.cond rfl (fun hc => ?_) (fun hc => ?_)
      · try exact Bool.noConfusion hc
        all_goals
         try replace hc := of_decide_eq_true hc
         try (exfalso; contradiction)
         all_goals
          refine G.seq ?_; refine G.region ?_; refine G.v (rv_assign rfl) rfl ?_; refine G.done ?_; refine G.thenN ?_; refine G.ret ?_; refine G.thenR ?_
          exact G.retFV rfl rfl rfl
      · try exact Bool.noConfusion hc
        all_goals
         try replace hc := of_decide_eq_false hc
         try (exfalso; contradiction)
         all_goals
          refine G.skip ?_; refine G.thenN ?_; refine G.seq ?_; refine G.region ?_; refine G.v (rv_move rfl) rfl ?_; refine G.v (rv_move rfl) rfl ?_; refine G.op (og_callV rfl rfl (fun w hh => szIntSS_any (l := l) _ w (Rd.stays h5 _ hh) (hs.stays _ hh) (by (try simp only [szM] at *); omega) (by (try simp only [szM] at *); omega))) rfl (fun _ _ => ?_); refine G.v (rv_assign rfl) rfl ?_; refine G.done ?_; refine G.thenN ?_; refine G.seq ?_; refine G.seq ?_; refine G.region ?_; refine G.v (rv_move rfl) rfl ?_; refine G.v (rv_lss rfl rfl) rfl ?_; refine G.done ?_; refine G.thenN ?_; refine G.cond rfl (fun hc => ?_) (fun hc => ?_)
          · try exact Bool.noConfusion hc
            all_goals
             try replace hc := of_decide_eq_true hc
             try (exfalso; contradiction)
             all_goals
              refine G.seq ?_; refine G.region ?_; refine G.v (rv_assign rfl) rfl ?_; refine G.done ?_; refine G.thenN ?_; refine G.ret ?_; refine G.thenR ?_
              exact G.retFV rfl rfl rfl
          · try exact Bool.noConfusion hc
            all_goals
             try replace hc := of_decide_eq_false hc
             try (exfalso; contradiction)
             all_goals
              refine G.skip ?_; refine G.thenN ?_; refine G.seq ?_; refine G.region ?_
              (refine G.v (rv_loadW 0 rfl rfl rfl) rfl ?_)
              ((refine G.op (og_callF3 rfl rfl (fun w hh => toRequest_any (r := r) w (Rd.stays h _ hh) (Rd.stays h2 _ hh) (Rd.stays h3 _ hh) (by (try simp only [szM] at *); omega))) rfl ?_; rintro ⟨pvN, tvN, ivN⟩ ⟨hovN, hov2N, hov3N⟩; try dsimp only))
              refine G.v (rv_move rfl) rfl ?_
              (first | (refine G.op (og_callF1 rfl rfl (fun w hh => toIntS_any w (Rd.stays h4 _ hh) (by omega))) rfl ?_; rintro vN1 hvN1; try dsimp only) | (refine G.op (og_callF2 rfl rfl (fun w hh => toIntS_any w (Rd.stays h4 _ hh) (by omega))) rfl ?_; rintro vN1 hvN1; try dsimp only) | (refine G.op (og_callF3 rfl rfl (fun w hh => toIntS_any w (Rd.stays h4 _ hh) (by omega))) rfl ?_; rintro vN1 hvN1; try dsimp only) | (refine G.op (og_callF0 rfl rfl (fun w hh => toIntS_any w (Rd.stays h4 _ hh) (by omega))) rfl ?_; rintro vN1 hvN1; try dsimp only) | (refine G.op (og_callF rfl rfl (fun w hh => toIntS_any w (Rd.stays h4 _ hh) (by omega))) rfl ?_; rintro vN1 hvN1; try dsimp only))
              refine G.v (rv_move rfl) rfl ?_
              (refine G.op (og_callF2 rfl rfl (fun w hh => toIntSS_any w (Rd.stays h5 _ hh) (hs.stays _ hh) (by (try simp only [szM] at *); omega))) rfl ?_; rintro ⟨cv1, l1⟩ ⟨hcv1, hl1⟩; try dsimp only)
              refine G.op (og_callV rfl rfl (fun w hh => (sisPacking_any (r := r) (us := us) (l := l1) w (by exact Rd.owned 5 rfl _ hh) (by exact Rd.owned 4 rfl _ hh) (by exact Rd.owned 3 rfl _ hh) (by exact Rd.owned 2 rfl _ hh) (by exact Rd.owned 1 rfl _ hh) (by exact Subs.owned 0 rfl _ hh) (by omega) (by rw [hl1]; (try simp only [szM] at *); omega)).mono (by rw [hl1]))) rfl (fun _ _ => ?_); refine G.v (rv_assign rfl) rfl ?_; refine G.done ?_; refine G.thenN ?_; refine G.seq ?_; refine G.region ?_
              (refine G.v (rv_loadW 6 rfl rfl rfl) rfl ?_)
              ((refine G.op (og_callF3 rfl rfl (fun w hh => toRequest_any (r := r) w (Rd.stays h _ hh) (Rd.stays h2 _ hh) (Rd.stays h3 _ hh) (by (try simp only [szM] at *); omega))) rfl ?_; rintro ⟨pv2, tv2, iv2⟩ ⟨hov2, hov22, hov32⟩; try dsimp only))
              refine G.op (og_alloc) rfl (fun bk9 _ => ?_)
              (refine G.op0 (og_st0 rfl rfl rfl rfl rfl (by repeat (first | rfl | refine one_cons (by first | rfl | assumption) ?_)) (.zero (.cons (.cons (.cons (.cons (.cons (.cons (.cons (.cons (.cons (.cons .nil)))))))))))) (fun _ _ => ?_))
              refine G.done ?_; refine G.thenN ?_; refine G.seq ?_; refine G.region ?_; refine G.v (rv_move rfl) rfl ?_
              (first | (refine G.op (og_callF1 rfl rfl (fun w hh => toIntS_any w (Rd.stays h4 _ hh) (by omega))) rfl ?_; rintro vN2 hvN2; try dsimp only) | (refine G.op (og_callF2 rfl rfl (fun w hh => toIntS_any w (Rd.stays h4 _ hh) (by omega))) rfl ?_; rintro vN2 hvN2; try dsimp only) | (refine G.op (og_callF3 rfl rfl (fun w hh => toIntS_any w (Rd.stays h4 _ hh) (by omega))) rfl ?_; rintro vN2 hvN2; try dsimp only) | (refine G.op (og_callF0 rfl rfl (fun w hh => toIntS_any w (Rd.stays h4 _ hh) (by omega))) rfl ?_; rintro vN2 hvN2; try dsimp only) | (refine G.op (og_callF rfl rfl (fun w hh => toIntS_any w (Rd.stays h4 _ hh) (by omega))) rfl ?_; rintro vN2 hvN2; try dsimp only))
              refine G.v (rv_assign rfl) rfl ?_; refine G.done ?_; refine G.thenN ?_; refine G.seq ?_; refine G.region ?_; refine G.v (rv_move rfl) rfl ?_
              (refine G.op (og_callF2 rfl rfl (fun w hh => toIntSS_any w (Rd.stays h5 _ hh) (hs.stays _ hh) (by (try simp only [szM] at *); omega))) rfl ?_; rintro ⟨cv2, l2⟩ ⟨hcv2, hl2⟩; try dsimp only)
              refine G.v (rv_assign rfl) rfl ?_; refine G.done ?_; refine G.thenN ?_; refine G.seq ?_; refine G.region ?_
              (refine G.v (rv_loadW 3 rfl rfl rfl) rfl ?_)
              refine G.v (rv_move rfl) rfl ?_; refine G.v (rv_move rfl) rfl ?_; refine G.op (og_callV rfl rfl (fun w hh => (isPacking_any (r := r) (us := us) (l := l2) w (by exact Rd.owned 6 rfl _ hh) (by exact Rd.owned 5 rfl _ hh) (by exact Rd.owned 4 rfl _ hh) (by exact Rd.owned 2 rfl _ hh) (by exact Rd.owned 1 rfl _ hh) (by exact Subs.owned 0 rfl _ hh) (by omega) (by rw [hl2]; (try simp only [szM] at *); omega)).mono (by rw [hl2]))) rfl (fun _ _ => ?_); refine G.v (rv_assign rfl) rfl ?_; refine G.done ?_; refine G.thenN ?_; refine G.seq ?_; refine G.seq ?_; refine G.region ?_; refine G.v (rv_move rfl) rfl ?_; refine G.v (rv_move rfl) rfl ?_; refine G.v (rv_neqb rfl rfl) rfl ?_; refine G.done ?_; refine G.thenN ?_; refine G.cond rfl (fun hc => ?_) (fun hc => ?_)
              · try exact Bool.noConfusion hc
                all_goals
                 try replace hc := of_decide_eq_true hc
                 try (exfalso; contradiction)
                 all_goals
                  refine G.seq ?_; refine G.region ?_; refine G.v (rv_assign rfl) rfl ?_; refine G.done ?_; refine G.thenN ?_; refine G.ret ?_; refine G.thenR ?_
                  exact G.retFV rfl rfl rfl
              · try exact Bool.noConfusion hc
                all_goals
                 try replace hc := of_decide_eq_false hc
                 try (exfalso; contradiction)
                 all_goals
                  refine G.skip ?_; refine G.thenN ?_; refine G.seq ?_; refine G.seq ?_; refine G.drawL [3] ?_
                  (refine GE.q 0 rfl (by as_aux_lemma => kernel_rfl) rfl (qg_runs (rv_loadW 3 rfl rfl rfl)) rfl ?_)
                  (refine GE.ol 1 (by as_aux_lemma => kernel_rfl) rfl rfl (og_runs (rv_loadW 13 rfl rfl rfl)) rfl (fun _ _ h => by exact h) (fun _ _ => ?_))
                  ((refine GE.ol 2 (by as_aux_lemma => kernel_rfl) rfl rfl (og_callF3 rfl rfl (fun w hh => toRequest_any (r := r) w (Rd.stays h _ hh) (Rd.stays h2 _ hh) (Rd.stays h3 _ hh) (by (try simp only [szM] at *); omega))) rfl (fun _ _ h => by exact h.drop 3) ?_; rintro ⟨pv3, tv3, iv3⟩ ⟨hov3, hov23, hov33⟩; try dsimp only))
                  refine GE.t 3 (by as_aux_lemma => kernel_rfl) rfl rfl rfl (og_callV rfl rfl (fun w hh => eqRequest_any (r := r) (s := r) w (by exact Rd.owned 9 rfl _ hh) (by exact Rd.owned 8 rfl _ hh) (by exact Rd.owned 7 rfl _ hh) (by exact Rd.owned 2 rfl _ hh) (by exact Rd.owned 1 rfl _ hh) (by exact Rd.owned 0 rfl _ hh))) rfl (fun _ _ => ?_); refine GE.ol 4 (by as_aux_lemma => kernel_rfl) rfl rfl (og_runs (rv_not rfl)) rfl (fun _ _ h => by exact h.drop 3) (fun _ _ => ?_); refine GE.done (by as_aux_lemma => kernel_rfl) ?_; refine G.thenN ?_; refine G.cond rfl (fun hc => ?_) (fun hc => ?_)
                  · try exact Bool.noConfusion hc
                    all_goals
                     try replace hc := of_decide_eq_true hc
                     try (exfalso; contradiction)
                     all_goals
                      refine G.seq ?_; refine G.region ?_; refine G.v (rv_assign rfl) rfl ?_; refine G.done ?_; refine G.thenN ?_; refine G.ret ?_; refine G.thenR ?_
                      (exfalso; simp_all; done)
                  · try exact Bool.noConfusion hc
                    all_goals
                     try replace hc := of_decide_eq_false hc
                     try (exfalso; contradiction)
                     all_goals
                      refine G.skip ?_; refine G.thenN ?_; refine G.seq ?_; refine G.seq ?_; refine G.region ?_; refine G.v (rv_move rfl) rfl ?_; refine G.v (rv_move rfl) rfl ?_
                      (first | (refine G.op (og_callF1 rfl rfl (fun w hh => toIntS_any w (Rd.stays h4 _ hh) (by omega))) rfl ?_; rintro vN3 hvN3; try dsimp only) | (refine G.op (og_callF2 rfl rfl (fun w hh => toIntS_any w (Rd.stays h4 _ hh) (by omega))) rfl ?_; rintro vN3 hvN3; try dsimp only) | (refine G.op (og_callF3 rfl rfl (fun w hh => toIntS_any w (Rd.stays h4 _ hh) (by omega))) rfl ?_; rintro vN3 hvN3; try dsimp only) | (refine G.op (og_callF0 rfl rfl (fun w hh => toIntS_any w (Rd.stays h4 _ hh) (by omega))) rfl ?_; rintro vN3 hvN3; try dsimp only) | (refine G.op (og_callF rfl rfl (fun w hh => toIntS_any w (Rd.stays h4 _ hh) (by omega))) rfl ?_; rintro vN3 hvN3; try dsimp only))
                      refine G.op (og_callV rfl rfl (fun w hh => eqIntS_any (xs := us) (ys := us) w (by exact Rd.owned 6 rfl _ hh) (by exact Rd.owned 0 rfl _ hh))) rfl (fun _ _ => ?_); refine G.v (rv_not rfl) rfl ?_; refine G.done ?_; refine G.thenN ?_; refine G.cond rfl (fun hc => ?_) (fun hc => ?_)
                      · try exact Bool.noConfusion hc
                        all_goals
                         try replace hc := of_decide_eq_true hc
                         try (exfalso; contradiction)
                         all_goals
                          refine G.seq ?_; refine G.region ?_; refine G.v (rv_assign rfl) rfl ?_; refine G.done ?_; refine G.thenN ?_; refine G.ret ?_; refine G.thenR ?_
                          (exfalso; simp_all; done)
                      · try exact Bool.noConfusion hc
                        all_goals
                         try replace hc := of_decide_eq_false hc
                         try (exfalso; contradiction)
                         all_goals
                          refine G.skip ?_; refine G.thenN ?_; refine G.seq ?_; refine G.seq ?_; refine G.region ?_; refine G.v (rv_move rfl) rfl ?_; refine G.v (rv_move rfl) rfl ?_
                          (refine G.op (og_callF2 rfl rfl (fun w hh => toIntSS_any w (Rd.stays h5 _ hh) (hs.stays _ hh) (by (try simp only [szM] at *); omega))) rfl ?_; rintro ⟨cv3, l3⟩ ⟨hcv3, hl3⟩; try dsimp only)
                          refine G.op (og_callV rfl rfl (fun w hh => eqIntSS_any (xs := l2) (ys := l3) w (by exact Rd.owned 7 rfl _ hh) (by exact Subs.owned 6 rfl _ hh) (by exact Rd.owned 1 rfl _ hh) (by exact Subs.owned 0 rfl _ hh))) rfl (fun _ _ => ?_); refine G.v (rv_not rfl) rfl ?_; refine G.done ?_; refine G.thenN ?_; refine G.cond rfl (fun hc => ?_) (fun hc => ?_)
                          · try exact Bool.noConfusion hc
                            all_goals
                             try replace hc := of_decide_eq_true hc
                             try (exfalso; contradiction)
                             all_goals
                              refine G.seq ?_; refine G.region ?_; refine G.v (rv_assign rfl) rfl ?_; refine G.done ?_; refine G.thenN ?_; refine G.ret ?_; refine G.thenR ?_
                              (exfalso; simp_all; done)
                          · try exact Bool.noConfusion hc
                            all_goals
                             try replace hc := of_decide_eq_false hc
                             try (exfalso; contradiction)
                             all_goals
                              refine G.skip ?_; refine G.thenN ?_; refine G.seq ?_; refine G.region ?_; refine G.v (rv_assign rfl) rfl ?_; refine G.done ?_; refine G.thenN ?_; refine G.ret ?_
                              exact G.retFV rfl rfl rfl
end Go.Proofs.YtibkggjbkgdnkaaGreat

/-
  A carton's box.
-/
namespace Go.Proofs.YtibkggjbkgdnkaaGreat
open Go.RowKit
theorem FnV.toFnO {P : Program} {f : FuncId} {vs : List Value} {w : World} {v : Value} (h : FnV P f vs w v) : Fn P f vs w (fun _ : Unit => True) (fun _ => v) (fun _ => []) :=
  Calls.mono h fun e w' he => ⟨(), trivial, he.1, he.2⟩
attribute [local irreducible] Go.wpList Go.Code.wp Go.Exit.then Go.Exit.inBlock Go.bodyPost Go.Calls pE pB G RunsV FnV Fn FnM
set_option maxRecDepth 100000
set_option maxHeartbeats 4000000
def grossM (r : ReqM) (x : CartonM) : Int := if (typeAt r x.t).2 = true ∧ classM r = 0 then (typeAt r x.t).1.tare + gramM r x.l else 0
def boxOfM (r : ReqM) (x : CartonM) : BoxM := if (typeAt r x.t).2 = true ∧ classM r = 0 then ⟨(typeAt r x.t).1.w, (typeAt r x.t).1.d, (typeAt r x.t).1.h, grossM r x⟩ else ⟨0, 0, 0, 0⟩
theorem type_at_in {r : ReqM} {id : Int} (h : (typeAt r id).2 = true ∧ classM r = 0) : 0 ≤ (typeAt r id).1.tare ∧ (typeAt r id).1.tare ≤ 100000 := by
  rw [typeAt] at h ⊢
  cases hf : typeByM r id with
  | none => rw [hf] at h; exact absurd h.1 (by decide)
  | some t =>
    have := type_in (bounds_types (cls_sound h.2) t (List.mem_of_find?_eq_some hf))
    dsimp only
    omega
theorem gross_any {r : ReqM} {pv tv iv : Value} (x : CartonM × Value) (w : World) (h : Rd w pv 2 (r.pairs.map PairM.cells)) (h2 : Rd w tv 7 (r.types.map TypeM.cells)) (h3 : Rd w iv 7 (r.items.map ItemM.cells)) (h4 : Rd w x.2 1 (x.1.l.map icell)) (hul : x.1.l.length ≤ 1048576) :
    FnV Tryz.prog 120 [.agg (r.cells pv tv iv).toArray, .agg (CartonM.cells x).toArray] w (.int .i64 (grossM r x.1)) := by
  have hgi := gram_in r x.1.l
  refine FnV.of (n := 28) Tryz.func120 rfl rfl ?_; refine G.seq ?_; refine G.region ?_; refine G.op (og_box rfl rfl) rfl (fun bk2 _ => ?_); refine G.op (og_box rfl rfl) rfl (fun bk3 _ => ?_); refine G.v (rv_assign rfl) rfl ?_; refine G.done ?_; refine G.thenN ?_; refine G.seq ?_; refine G.region ?_
  (first | refine G.v (rv_loadW 0 rfl rfl rfl) rfl ?_ | refine G.v (rv_loadW 1 rfl rfl rfl) rfl ?_ | refine G.v (rv_loadW 2 rfl rfl rfl) rfl ?_ | refine G.v (rv_loadW 3 rfl rfl rfl) rfl ?_ | refine G.v (rv_loadP 0 rfl rfl (.one (.one (.one (.one (.one (.one (.one (.one (.one (.one .nil))))))))))) rfl ?_ | refine G.v (rv_loadP 1 rfl rfl (.one (.one (.one (.one (.one (.one (.one (.one (.one (.one .nil))))))))))) rfl ?_ | refine G.v (rv_loadP 2 rfl rfl (.one (.one (.one (.one (.one (.one (.one (.one (.one (.one .nil))))))))))) rfl ?_ | refine G.v (rv_loadP 3 rfl rfl (.one (.one (.one (.one (.one (.one (.one (.one (.one (.one .nil))))))))))) rfl ?_)
  (first | refine G.v (rv_field rfl) rfl ?_ | refine G.v (rv_fieldE rfl) rfl ?_)
  (first | refine G.v (rv_load1 0 rfl rfl rfl) rfl ?_ | refine G.v (rv_load1 1 rfl rfl rfl) rfl ?_ | refine G.v (rv_load1 2 rfl rfl rfl) rfl ?_ | refine G.v (rv_load1 3 rfl rfl rfl) rfl ?_)
  refine G.op (og_callV rfl rfl (fun w hh => typeById_any (r := r) x.1.t w (Rd.stays h2 _ hh))) rfl (fun _ _ => ?_); refine G.v (rv_move rfl) rfl ?_; refine G.v (rv_extract rfl rfl) rfl ?_; refine G.v (rv_extract rfl rfl) rfl ?_; refine G.op (og_alloc) rfl (fun bk5 _ => ?_)
  (first | refine G.op0 (og_st0 rfl rfl rfl rfl rfl rfl (.zero (.cons (.cons (.cons (.cons (.cons (.cons (.cons .nil))))))))) (fun _ _ => ?_) | refine G.op0 (og_st1 rfl rfl rfl rfl rfl rfl (.zero (.cons (.cons (.cons (.cons (.cons (.cons (.cons .nil))))))))) (fun _ _ => ?_) | refine G.op0 (og_st2 rfl rfl rfl rfl rfl rfl (.zero (.cons (.cons (.cons (.cons (.cons (.cons (.cons .nil))))))))) (fun _ _ => ?_) | refine G.op0 (og_st3 rfl rfl rfl rfl rfl rfl (.zero (.cons (.cons (.cons (.cons (.cons (.cons (.cons .nil))))))))) (fun _ _ => ?_))
  refine G.v (rv_assign rfl) rfl ?_; refine G.done ?_; refine G.thenN ?_; refine G.seq ?_; refine G.seq ?_; refine G.region ?_; refine G.v (rv_move rfl) rfl ?_; refine G.v (rv_not rfl) rfl ?_; refine G.v (rv_move rfl) rfl ?_
  all_goals (((with_reducible refine G.gP rfl rfl (fun hg => ?_) (fun hg => ?_)) <;> (try exact Bool.noConfusion hg) <;> (first | (refine G.gY rfl rfl ?_; (first | refine G.v (rv_loadW 0 rfl rfl rfl) rfl ?_ | refine G.v (rv_loadW 1 rfl rfl rfl) rfl ?_ | refine G.v (rv_loadW 2 rfl rfl rfl) rfl ?_ | refine G.v (rv_loadW 3 rfl rfl rfl) rfl ?_ | refine G.v (rv_loadP 0 rfl rfl (.one (.one (.one (.one (.one (.one (.one (.one (.one (.one .nil))))))))))) rfl ?_ | refine G.v (rv_loadP 1 rfl rfl (.one (.one (.one (.one (.one (.one (.one (.one (.one (.one .nil))))))))))) rfl ?_ | refine G.v (rv_loadP 2 rfl rfl (.one (.one (.one (.one (.one (.one (.one (.one (.one (.one .nil))))))))))) rfl ?_ | refine G.v (rv_loadP 3 rfl rfl (.one (.one (.one (.one (.one (.one (.one (.one (.one (.one .nil))))))))))) rfl ?_)) | refine G.gN rfl rfl rfl ?_ | refine G.gU rfl rfl rfl ?_)))
  all_goals ((first | (refine G.gY rfl rfl ?_; refine G.op (og_callV rfl rfl (fun w hh => sound_any (r := r) w (Rd.stays h _ hh) (Rd.stays h2 _ hh) (Rd.stays h3 _ hh))) rfl (fun _ _ => ?_)) | refine G.gN rfl rfl rfl ?_ | refine G.gU rfl rfl rfl ?_))
  all_goals ((first | (refine G.gY rfl rfl ?_; refine G.v (rv_not rfl) rfl ?_) | refine G.gN rfl rfl rfl ?_ | refine G.gU rfl rfl rfl ?_))
  all_goals ((first | refine G.v (rv_pickT rfl rfl) rfl ?_ | refine G.v (rv_pickF rfl rfl) rfl ?_))
  all_goals
   refine G.done ?_; refine G.thenN ?_; refine G.cond rfl (fun hc => ?_) (fun hc => ?_)
   · try exact Bool.noConfusion hc
     all_goals
      try replace hc := of_decide_eq_true hc
      try (exfalso; first | contradiction | omega)
      all_goals
       have hno : ¬ ((typeAt r x.1.t).2 = true ∧ classM r = 0) := by (clear h h2 h3 h4; simp_all)
       all_goals
        refine G.seq ?_; refine G.region ?_; refine G.v (rv_assign rfl) rfl ?_; refine G.done ?_; refine G.thenN ?_; refine G.ret ?_; refine G.thenR ?_
        first | exact G.retFV rfl rfl (congrArg (Value.int .i64) (by rw [grossM, if_pos hyes])) | exact G.retFV rfl rfl (congrArg (Value.int .i64) (by rw [grossM, if_neg hno]))
   · try exact Bool.noConfusion hc
     all_goals
      try replace hc := of_decide_eq_false hc
      try (exfalso; first | contradiction | omega)
      all_goals
       have hyes : (typeAt r x.1.t).2 = true ∧ classM r = 0 := by (clear h h2 h3 h4; simp_all)
       have htb := type_at_in hyes
       all_goals
        refine G.skip ?_; refine G.thenN ?_; refine G.seq ?_; refine G.drawL [7] ?_
        (first | refine GE.q 0 rfl (by as_aux_lemma => kernel_rfl) rfl (qg_runs (rv_field rfl)) rfl ?_ | refine GE.q 0 rfl (by as_aux_lemma => kernel_rfl) rfl (qg_runs (rv_fieldE rfl)) rfl ?_)
        (first | refine GE.q 1 rfl (by as_aux_lemma => kernel_rfl) rfl (qg_runs (rv_load1 0 rfl rfl rfl)) rfl ?_ | refine GE.q 1 rfl (by as_aux_lemma => kernel_rfl) rfl (qg_runs (rv_load1 1 rfl rfl rfl)) rfl ?_ | refine GE.q 1 rfl (by as_aux_lemma => kernel_rfl) rfl (qg_runs (rv_load1 2 rfl rfl rfl)) rfl ?_ | refine GE.q 1 rfl (by as_aux_lemma => kernel_rfl) rfl (qg_runs (rv_load1 3 rfl rfl rfl)) rfl ?_)
        (first | refine GE.q 2 rfl (by as_aux_lemma => kernel_rfl) rfl (qg_runs (rv_loadW 0 rfl rfl rfl)) rfl ?_ | refine GE.q 2 rfl (by as_aux_lemma => kernel_rfl) rfl (qg_runs (rv_loadW 1 rfl rfl rfl)) rfl ?_ | refine GE.q 2 rfl (by as_aux_lemma => kernel_rfl) rfl (qg_runs (rv_loadW 2 rfl rfl rfl)) rfl ?_ | refine GE.q 2 rfl (by as_aux_lemma => kernel_rfl) rfl (qg_runs (rv_loadW 3 rfl rfl rfl)) rfl ?_ | refine GE.q 2 rfl (by as_aux_lemma => kernel_rfl) rfl (qg_runs (rv_loadP 0 rfl rfl (.one (.one (.one (.one (.one (.one (.one (.one (.one (.one .nil)))))))))))) rfl ?_ | refine GE.q 2 rfl (by as_aux_lemma => kernel_rfl) rfl (qg_runs (rv_loadP 1 rfl rfl (.one (.one (.one (.one (.one (.one (.one (.one (.one (.one .nil)))))))))))) rfl ?_ | refine GE.q 2 rfl (by as_aux_lemma => kernel_rfl) rfl (qg_runs (rv_loadP 2 rfl rfl (.one (.one (.one (.one (.one (.one (.one (.one (.one (.one .nil)))))))))))) rfl ?_ | refine GE.q 2 rfl (by as_aux_lemma => kernel_rfl) rfl (qg_runs (rv_loadP 3 rfl rfl (.one (.one (.one (.one (.one (.one (.one (.one (.one (.one .nil)))))))))))) rfl ?_)
        (first | refine GE.ol 3 (by as_aux_lemma => kernel_rfl) rfl rfl (og_runs (rv_field rfl)) rfl (fun _ _ h => by first | exact h | exact h.drop 1 | exact h.drop 2 | exact h.drop 3 | exact h.drop 4 | exact h.drop 5 | exact h.drop 6 | exact h.drop 7 | exact h.drop 8 | exact h.drop 9 | exact h.drop 10 | exact h.drop 11 | exact h.drop 12 | exact h.drop 13) (fun _ _ => ?_) | refine GE.ol 3 (by as_aux_lemma => kernel_rfl) rfl rfl (og_runs (rv_fieldE rfl)) rfl (fun _ _ h => by first | exact h | exact h.drop 1 | exact h.drop 2 | exact h.drop 3 | exact h.drop 4 | exact h.drop 5 | exact h.drop 6 | exact h.drop 7 | exact h.drop 8 | exact h.drop 9 | exact h.drop 10 | exact h.drop 11 | exact h.drop 12 | exact h.drop 13) (fun _ _ => ?_))
        (first | refine GE.ol 4 (by as_aux_lemma => kernel_rfl) rfl rfl (og_runs (rv_load1 0 rfl rfl rfl)) rfl (fun _ _ h => by first | exact h | exact h.drop 1 | exact h.drop 2 | exact h.drop 3 | exact h.drop 4 | exact h.drop 5 | exact h.drop 6 | exact h.drop 7 | exact h.drop 8 | exact h.drop 9 | exact h.drop 10 | exact h.drop 11 | exact h.drop 12 | exact h.drop 13) (fun _ _ => ?_) | refine GE.ol 4 (by as_aux_lemma => kernel_rfl) rfl rfl (og_runs (rv_load1 1 rfl rfl rfl)) rfl (fun _ _ h => by first | exact h | exact h.drop 1 | exact h.drop 2 | exact h.drop 3 | exact h.drop 4 | exact h.drop 5 | exact h.drop 6 | exact h.drop 7 | exact h.drop 8 | exact h.drop 9 | exact h.drop 10 | exact h.drop 11 | exact h.drop 12 | exact h.drop 13) (fun _ _ => ?_) | refine GE.ol 4 (by as_aux_lemma => kernel_rfl) rfl rfl (og_runs (rv_load1 2 rfl rfl rfl)) rfl (fun _ _ h => by first | exact h | exact h.drop 1 | exact h.drop 2 | exact h.drop 3 | exact h.drop 4 | exact h.drop 5 | exact h.drop 6 | exact h.drop 7 | exact h.drop 8 | exact h.drop 9 | exact h.drop 10 | exact h.drop 11 | exact h.drop 12 | exact h.drop 13) (fun _ _ => ?_) | refine GE.ol 4 (by as_aux_lemma => kernel_rfl) rfl rfl (og_runs (rv_load1 3 rfl rfl rfl)) rfl (fun _ _ h => by first | exact h | exact h.drop 1 | exact h.drop 2 | exact h.drop 3 | exact h.drop 4 | exact h.drop 5 | exact h.drop 6 | exact h.drop 7 | exact h.drop 8 | exact h.drop 9 | exact h.drop 10 | exact h.drop 11 | exact h.drop 12 | exact h.drop 13) (fun _ _ => ?_))
        refine GE.ol 5 (by as_aux_lemma => kernel_rfl) rfl rfl (og_callV rfl rfl (fun w hh => gramOf_any (r := r) w (Rd.stays h _ hh) (Rd.stays h2 _ hh) (Rd.stays h3 _ hh) (Rd.stays h4 _ hh) hul)) rfl (fun _ _ h => by first | exact h | exact h.drop 1 | exact h.drop 2 | exact h.drop 3 | exact h.drop 4 | exact h.drop 5 | exact h.drop 6 | exact h.drop 7 | exact h.drop 8 | exact h.drop 9 | exact h.drop 10 | exact h.drop 11 | exact h.drop 12 | exact h.drop 13) (fun _ _ => ?_)
        (first | refine GE.ol 6 (by as_aux_lemma => kernel_rfl) rfl rfl (og_runs (rv_incr rfl rfl (by omega))) rfl (fun _ _ h => by first | exact h | exact h.drop 1 | exact h.drop 2 | exact h.drop 3 | exact h.drop 4 | exact h.drop 5 | exact h.drop 6 | exact h.drop 7 | exact h.drop 8 | exact h.drop 9 | exact h.drop 10 | exact h.drop 11 | exact h.drop 12 | exact h.drop 13) (fun _ _ => ?_) | refine GE.ol 6 (by as_aux_lemma => kernel_rfl) rfl rfl (og_runs (rv_addB rfl rfl (by omega) (by omega))) rfl (fun _ _ h => by first | exact h | exact h.drop 1 | exact h.drop 2 | exact h.drop 3 | exact h.drop 4 | exact h.drop 5 | exact h.drop 6 | exact h.drop 7 | exact h.drop 8 | exact h.drop 9 | exact h.drop 10 | exact h.drop 11 | exact h.drop 12 | exact h.drop 13) (fun _ _ => ?_))
        refine GE.t 7 (by as_aux_lemma => kernel_rfl) rfl rfl rfl (og_runs (rv_assign rfl)) rfl (fun _ _ => ?_); refine GE.done (by as_aux_lemma => kernel_rfl) ?_; refine G.thenN ?_; refine G.ret ?_
        first | exact G.retFV rfl rfl (congrArg (Value.int .i64) (by rw [grossM, if_pos hyes])) | exact G.retFV rfl rfl (congrArg (Value.int .i64) (by rw [grossM, if_neg hno]))
theorem sgross_any {r : ReqM} {pv tv iv : Value} (x : CartonM × Value) (w : World) (h : Rd w pv 2 (r.pairs.map PairM.cells)) (h2 : Rd w tv 7 (r.types.map TypeM.cells)) (h3 : Rd w iv 7 (r.items.map ItemM.cells)) (h4 : Rd w x.2 1 (x.1.l.map icell)) (hul : x.1.l.length ≤ 1048576) :
    FnV Tryz.prog 116 [.agg (r.cells pv tv iv).toArray, .agg (CartonM.cells x).toArray] w (.int .i64 (grossM r x.1)) := by
  have hgi := gram_in r x.1.l
  refine FnV.of (n := 28) Tryz.func116 rfl rfl ?_; refine G.seq ?_; refine G.region ?_; refine G.op (og_box rfl rfl) rfl (fun bk2 _ => ?_); refine G.op (og_box rfl rfl) rfl (fun bk3 _ => ?_); refine G.v (rv_assign rfl) rfl ?_; refine G.done ?_; refine G.thenN ?_; refine G.seq ?_; refine G.region ?_
  (first | refine G.v (rv_loadW 0 rfl rfl rfl) rfl ?_ | refine G.v (rv_loadW 1 rfl rfl rfl) rfl ?_ | refine G.v (rv_loadW 2 rfl rfl rfl) rfl ?_ | refine G.v (rv_loadW 3 rfl rfl rfl) rfl ?_ | refine G.v (rv_loadP 0 rfl rfl (.one (.one (.one (.one (.one (.one (.one (.one (.one (.one .nil))))))))))) rfl ?_ | refine G.v (rv_loadP 1 rfl rfl (.one (.one (.one (.one (.one (.one (.one (.one (.one (.one .nil))))))))))) rfl ?_ | refine G.v (rv_loadP 2 rfl rfl (.one (.one (.one (.one (.one (.one (.one (.one (.one (.one .nil))))))))))) rfl ?_ | refine G.v (rv_loadP 3 rfl rfl (.one (.one (.one (.one (.one (.one (.one (.one (.one (.one .nil))))))))))) rfl ?_)
  (first | refine G.v (rv_field rfl) rfl ?_ | refine G.v (rv_fieldE rfl) rfl ?_)
  (first | refine G.v (rv_load1 0 rfl rfl rfl) rfl ?_ | refine G.v (rv_load1 1 rfl rfl rfl) rfl ?_ | refine G.v (rv_load1 2 rfl rfl rfl) rfl ?_ | refine G.v (rv_load1 3 rfl rfl rfl) rfl ?_)
  refine G.op (og_callV rfl rfl (fun w hh => stypeById_any (r := r) x.1.t w (Rd.stays h2 _ hh))) rfl (fun _ _ => ?_); refine G.v (rv_move rfl) rfl ?_; refine G.v (rv_extract rfl rfl) rfl ?_; refine G.v (rv_extract rfl rfl) rfl ?_; refine G.op (og_alloc) rfl (fun bk5 _ => ?_)
  (first | refine G.op0 (og_st0 rfl rfl rfl rfl rfl rfl (.zero (.cons (.cons (.cons (.cons (.cons (.cons (.cons .nil))))))))) (fun _ _ => ?_) | refine G.op0 (og_st1 rfl rfl rfl rfl rfl rfl (.zero (.cons (.cons (.cons (.cons (.cons (.cons (.cons .nil))))))))) (fun _ _ => ?_) | refine G.op0 (og_st2 rfl rfl rfl rfl rfl rfl (.zero (.cons (.cons (.cons (.cons (.cons (.cons (.cons .nil))))))))) (fun _ _ => ?_) | refine G.op0 (og_st3 rfl rfl rfl rfl rfl rfl (.zero (.cons (.cons (.cons (.cons (.cons (.cons (.cons .nil))))))))) (fun _ _ => ?_))
  refine G.v (rv_assign rfl) rfl ?_; refine G.done ?_; refine G.thenN ?_; refine G.seq ?_; refine G.seq ?_; refine G.region ?_
  (first | refine G.v (rv_loadW 0 rfl rfl rfl) rfl ?_ | refine G.v (rv_loadW 1 rfl rfl rfl) rfl ?_ | refine G.v (rv_loadW 2 rfl rfl rfl) rfl ?_ | refine G.v (rv_loadW 3 rfl rfl rfl) rfl ?_ | refine G.v (rv_loadP 0 rfl rfl (.one (.one (.one (.one (.one (.one (.one (.one (.one (.one .nil))))))))))) rfl ?_ | refine G.v (rv_loadP 1 rfl rfl (.one (.one (.one (.one (.one (.one (.one (.one (.one (.one .nil))))))))))) rfl ?_ | refine G.v (rv_loadP 2 rfl rfl (.one (.one (.one (.one (.one (.one (.one (.one (.one (.one .nil))))))))))) rfl ?_ | refine G.v (rv_loadP 3 rfl rfl (.one (.one (.one (.one (.one (.one (.one (.one (.one (.one .nil))))))))))) rfl ?_)
  refine G.op (og_callV rfl rfl (fun w hh => sclass_any (r := r) w (Rd.stays h _ hh) (Rd.stays h2 _ hh) (Rd.stays h3 _ hh))) rfl (fun _ _ => ?_); refine G.v (rv_neq rfl rfl) rfl ?_; refine G.v (rv_move rfl) rfl ?_
  all_goals (((with_reducible refine G.gP rfl rfl (fun hg => ?_) (fun hg => ?_)) <;> (try exact Bool.noConfusion hg) <;> (first | (refine G.gY rfl rfl ?_; refine G.v (rv_move rfl) rfl ?_) | refine G.gN rfl rfl rfl ?_ | refine G.gU rfl rfl rfl ?_)))
  all_goals ((first | (refine G.gY rfl rfl ?_; refine G.v (rv_not rfl) rfl ?_) | refine G.gN rfl rfl rfl ?_ | refine G.gU rfl rfl rfl ?_))
  all_goals ((first | refine G.v (rv_pickT rfl rfl) rfl ?_ | refine G.v (rv_pickF rfl rfl) rfl ?_))
  all_goals
   refine G.done ?_; refine G.thenN ?_; refine G.cond rfl (fun hc => ?_) (fun hc => ?_)
   · try exact Bool.noConfusion hc
     all_goals
      try replace hc := of_decide_eq_true hc
      try (exfalso; first | contradiction | omega)
      all_goals
       have hno : ¬ ((typeAt r x.1.t).2 = true ∧ classM r = 0) := by (clear h h2 h3 h4; simp_all)
       all_goals
        refine G.seq ?_; refine G.region ?_; refine G.v (rv_assign rfl) rfl ?_; refine G.done ?_; refine G.thenN ?_; refine G.ret ?_; refine G.thenR ?_
        first | exact G.retFV rfl rfl (congrArg (Value.int .i64) (by rw [grossM, if_pos hyes])) | exact G.retFV rfl rfl (congrArg (Value.int .i64) (by rw [grossM, if_neg hno]))
   · try exact Bool.noConfusion hc
     all_goals
      try replace hc := of_decide_eq_false hc
      try (exfalso; first | contradiction | omega)
      all_goals
       have hyes : (typeAt r x.1.t).2 = true ∧ classM r = 0 := by (clear h h2 h3 h4; simp_all)
       have htb := type_at_in hyes
       all_goals
        refine G.skip ?_; refine G.thenN ?_; refine G.seq ?_; refine G.drawL [7] ?_
        (first | refine GE.q 0 rfl (by as_aux_lemma => kernel_rfl) rfl (qg_runs (rv_field rfl)) rfl ?_ | refine GE.q 0 rfl (by as_aux_lemma => kernel_rfl) rfl (qg_runs (rv_fieldE rfl)) rfl ?_)
        (first | refine GE.q 1 rfl (by as_aux_lemma => kernel_rfl) rfl (qg_runs (rv_load1 0 rfl rfl rfl)) rfl ?_ | refine GE.q 1 rfl (by as_aux_lemma => kernel_rfl) rfl (qg_runs (rv_load1 1 rfl rfl rfl)) rfl ?_ | refine GE.q 1 rfl (by as_aux_lemma => kernel_rfl) rfl (qg_runs (rv_load1 2 rfl rfl rfl)) rfl ?_ | refine GE.q 1 rfl (by as_aux_lemma => kernel_rfl) rfl (qg_runs (rv_load1 3 rfl rfl rfl)) rfl ?_)
        (first | refine GE.q 2 rfl (by as_aux_lemma => kernel_rfl) rfl (qg_runs (rv_loadW 0 rfl rfl rfl)) rfl ?_ | refine GE.q 2 rfl (by as_aux_lemma => kernel_rfl) rfl (qg_runs (rv_loadW 1 rfl rfl rfl)) rfl ?_ | refine GE.q 2 rfl (by as_aux_lemma => kernel_rfl) rfl (qg_runs (rv_loadW 2 rfl rfl rfl)) rfl ?_ | refine GE.q 2 rfl (by as_aux_lemma => kernel_rfl) rfl (qg_runs (rv_loadW 3 rfl rfl rfl)) rfl ?_ | refine GE.q 2 rfl (by as_aux_lemma => kernel_rfl) rfl (qg_runs (rv_loadP 0 rfl rfl (.one (.one (.one (.one (.one (.one (.one (.one (.one (.one .nil)))))))))))) rfl ?_ | refine GE.q 2 rfl (by as_aux_lemma => kernel_rfl) rfl (qg_runs (rv_loadP 1 rfl rfl (.one (.one (.one (.one (.one (.one (.one (.one (.one (.one .nil)))))))))))) rfl ?_ | refine GE.q 2 rfl (by as_aux_lemma => kernel_rfl) rfl (qg_runs (rv_loadP 2 rfl rfl (.one (.one (.one (.one (.one (.one (.one (.one (.one (.one .nil)))))))))))) rfl ?_ | refine GE.q 2 rfl (by as_aux_lemma => kernel_rfl) rfl (qg_runs (rv_loadP 3 rfl rfl (.one (.one (.one (.one (.one (.one (.one (.one (.one (.one .nil)))))))))))) rfl ?_)
        (first | refine GE.ol 3 (by as_aux_lemma => kernel_rfl) rfl rfl (og_runs (rv_field rfl)) rfl (fun _ _ h => by first | exact h | exact h.drop 1 | exact h.drop 2 | exact h.drop 3 | exact h.drop 4 | exact h.drop 5 | exact h.drop 6 | exact h.drop 7 | exact h.drop 8 | exact h.drop 9 | exact h.drop 10 | exact h.drop 11 | exact h.drop 12 | exact h.drop 13) (fun _ _ => ?_) | refine GE.ol 3 (by as_aux_lemma => kernel_rfl) rfl rfl (og_runs (rv_fieldE rfl)) rfl (fun _ _ h => by first | exact h | exact h.drop 1 | exact h.drop 2 | exact h.drop 3 | exact h.drop 4 | exact h.drop 5 | exact h.drop 6 | exact h.drop 7 | exact h.drop 8 | exact h.drop 9 | exact h.drop 10 | exact h.drop 11 | exact h.drop 12 | exact h.drop 13) (fun _ _ => ?_))
        (first | refine GE.ol 4 (by as_aux_lemma => kernel_rfl) rfl rfl (og_runs (rv_load1 0 rfl rfl rfl)) rfl (fun _ _ h => by first | exact h | exact h.drop 1 | exact h.drop 2 | exact h.drop 3 | exact h.drop 4 | exact h.drop 5 | exact h.drop 6 | exact h.drop 7 | exact h.drop 8 | exact h.drop 9 | exact h.drop 10 | exact h.drop 11 | exact h.drop 12 | exact h.drop 13) (fun _ _ => ?_) | refine GE.ol 4 (by as_aux_lemma => kernel_rfl) rfl rfl (og_runs (rv_load1 1 rfl rfl rfl)) rfl (fun _ _ h => by first | exact h | exact h.drop 1 | exact h.drop 2 | exact h.drop 3 | exact h.drop 4 | exact h.drop 5 | exact h.drop 6 | exact h.drop 7 | exact h.drop 8 | exact h.drop 9 | exact h.drop 10 | exact h.drop 11 | exact h.drop 12 | exact h.drop 13) (fun _ _ => ?_) | refine GE.ol 4 (by as_aux_lemma => kernel_rfl) rfl rfl (og_runs (rv_load1 2 rfl rfl rfl)) rfl (fun _ _ h => by first | exact h | exact h.drop 1 | exact h.drop 2 | exact h.drop 3 | exact h.drop 4 | exact h.drop 5 | exact h.drop 6 | exact h.drop 7 | exact h.drop 8 | exact h.drop 9 | exact h.drop 10 | exact h.drop 11 | exact h.drop 12 | exact h.drop 13) (fun _ _ => ?_) | refine GE.ol 4 (by as_aux_lemma => kernel_rfl) rfl rfl (og_runs (rv_load1 3 rfl rfl rfl)) rfl (fun _ _ h => by first | exact h | exact h.drop 1 | exact h.drop 2 | exact h.drop 3 | exact h.drop 4 | exact h.drop 5 | exact h.drop 6 | exact h.drop 7 | exact h.drop 8 | exact h.drop 9 | exact h.drop 10 | exact h.drop 11 | exact h.drop 12 | exact h.drop 13) (fun _ _ => ?_))
        refine GE.ol 5 (by as_aux_lemma => kernel_rfl) rfl rfl (og_callV rfl rfl (fun w hh => sgramOf_any (r := r) w (Rd.stays h _ hh) (Rd.stays h2 _ hh) (Rd.stays h3 _ hh) (Rd.stays h4 _ hh) hul)) rfl (fun _ _ h => by first | exact h | exact h.drop 1 | exact h.drop 2 | exact h.drop 3 | exact h.drop 4 | exact h.drop 5 | exact h.drop 6 | exact h.drop 7 | exact h.drop 8 | exact h.drop 9 | exact h.drop 10 | exact h.drop 11 | exact h.drop 12 | exact h.drop 13) (fun _ _ => ?_)
        (first | refine GE.ol 6 (by as_aux_lemma => kernel_rfl) rfl rfl (og_runs (rv_incr rfl rfl (by omega))) rfl (fun _ _ h => by first | exact h | exact h.drop 1 | exact h.drop 2 | exact h.drop 3 | exact h.drop 4 | exact h.drop 5 | exact h.drop 6 | exact h.drop 7 | exact h.drop 8 | exact h.drop 9 | exact h.drop 10 | exact h.drop 11 | exact h.drop 12 | exact h.drop 13) (fun _ _ => ?_) | refine GE.ol 6 (by as_aux_lemma => kernel_rfl) rfl rfl (og_runs (rv_addB rfl rfl (by omega) (by omega))) rfl (fun _ _ h => by first | exact h | exact h.drop 1 | exact h.drop 2 | exact h.drop 3 | exact h.drop 4 | exact h.drop 5 | exact h.drop 6 | exact h.drop 7 | exact h.drop 8 | exact h.drop 9 | exact h.drop 10 | exact h.drop 11 | exact h.drop 12 | exact h.drop 13) (fun _ _ => ?_))
        refine GE.t 7 (by as_aux_lemma => kernel_rfl) rfl rfl rfl (og_runs (rv_assign rfl)) rfl (fun _ _ => ?_); refine GE.done (by as_aux_lemma => kernel_rfl) ?_; refine G.thenN ?_; refine G.ret ?_
        first | exact G.retFV rfl rfl (congrArg (Value.int .i64) (by rw [grossM, if_pos hyes])) | exact G.retFV rfl rfl (congrArg (Value.int .i64) (by rw [grossM, if_neg hno]))
end Go.Proofs.YtibkggjbkgdnkaaGreat

/-
  Plans that are right.
-/
namespace Go.Proofs.YtibkggjbkgdnkaaGreat
open Go.RowKit
attribute [local irreducible] Go.wpList Go.Code.wp Go.Exit.then Go.Exit.inBlock Go.bodyPost Go.Calls pE pB G RunsV FnV Fn FnM
set_option maxRecDepth 100000

/-- The numbers of a list go up, and are in bounds: at one place. -/
def upAt (l : List Int) (i : Nat) : Bool := match l[i]? with
  | none => true
  | some u => inB u 0 999 && (match i with | 0 => true | j + 1 => match l[j]? with | none => true | some v => decide (v < u))
def upM (l : List Int) : Bool := decide (l.length ≤ 100) && (List.range l.length).all (upAt l)
def planAt (cs : List CartonM) (ss : List SpotM) (i : Nat) : Bool := match cs[i]?, ss[i]? with
  | some c, some s => (inB c.t 0 999 && inB c.g 0 3 && upM c.l) && inB s.p 0 2000 && inB s.x 0 2000 && inB s.y 0 2000 && inB s.z 0 2000
  | _, _ => true
def planOkM (cs : List CartonM) (ss : List SpotM) : Bool := decide (ss.length = cs.length) && decide (cs.length ≤ 100) && (List.range cs.length).all (planAt cs ss)
theorem szPlan_any {cv sv : Value} {cs : List (CartonM × Value)} {ss : List SpotM} (left : Int) (w : World) (h : Rd w cv 3 (cs.map CartonM.cells)) (hs : Subs w CartonM.l cs) (h3 : Rd w sv 4 (ss.map SpotM.cells)) (h0 : 0 ≤ left) (h1 : left ≤ 1048576) :
    FnV Tryz.prog 43 [.agg [cv, sv].toArray, .int .i64 left] w (.int .i64 (szM (tot CartonM.l cs + ss.length) left)) := by
  refine FnV.of (n := 18) Tryz.func43 rfl rfl ?_; refine G.seq ?_; refine G.region ?_; refine G.op (og_box rfl rfl) rfl (fun bk2 _ => ?_); refine G.v (rv_assign rfl) rfl ?_; refine G.done ?_; refine G.thenN ?_; refine G.seq ?_; refine G.region ?_
  (refine G.v (rv_field rfl) rfl ?_)
  refine G.v (rv_load1 0 rfl rfl rfl) rfl ?_; refine G.v (rv_move rfl) rfl ?_; refine G.op (og_callV rfl rfl (fun w hh => szCartonS_any _ w (by exact Rd.stays (by assumption) _ hh) (by exact Subs.stays (by assumption) _ hh) (by (try simp only [szM] at *); omega) (by (try simp only [szM] at *); omega))) rfl (fun _ _ => ?_); refine G.v (rv_assign rfl) rfl ?_; refine G.done ?_; refine G.thenN ?_; refine G.seq ?_; refine G.seq ?_; refine G.region ?_; refine G.v (rv_move rfl) rfl ?_; refine G.v (rv_lss rfl rfl) rfl ?_; refine G.done ?_; refine G.thenN ?_; refine G.cond rfl (fun hc => ?_) (fun hc => ?_)
  · try exact Bool.noConfusion hc
    all_goals
     try replace hc := of_decide_eq_true hc
     try (exfalso; contradiction)
     all_goals
      refine G.seq ?_; refine G.region ?_; refine G.v (rv_assign rfl) rfl ?_; refine G.done ?_; refine G.thenN ?_; refine G.ret ?_; refine G.thenR ?_
      exact G.retFV rfl rfl (congrArg (Value.int .i64) (by simp only [szM] at * <;> omega))
  · try exact Bool.noConfusion hc
    all_goals
     try replace hc := of_decide_eq_false hc
     try (exfalso; contradiction)
     all_goals
      refine G.skip ?_; refine G.thenN ?_; refine G.seq ?_; refine G.region ?_
      (refine G.v (rv_field rfl) rfl ?_)
      refine G.v (rv_load1 0 rfl rfl rfl) rfl ?_; refine G.v (rv_move rfl) rfl ?_; refine G.op (og_callV rfl rfl (fun w hh => szSpotS_any _ w (by exact Rd.stays (by assumption) _ hh) (by (try simp only [szM] at *); omega) (by (try simp only [szM] at *); omega))) rfl (fun _ _ => ?_); refine G.v (rv_assign rfl) rfl ?_; refine G.done ?_; refine G.thenN ?_; refine G.seq ?_; refine G.seq ?_; refine G.region ?_; refine G.v (rv_move rfl) rfl ?_; refine G.v (rv_lss rfl rfl) rfl ?_; refine G.done ?_; refine G.thenN ?_; refine G.cond rfl (fun hc => ?_) (fun hc => ?_)
      · try exact Bool.noConfusion hc
        all_goals
         try replace hc := of_decide_eq_true hc
         try (exfalso; contradiction)
         all_goals
          refine G.seq ?_; refine G.region ?_; refine G.v (rv_assign rfl) rfl ?_; refine G.done ?_; refine G.thenN ?_; refine G.ret ?_; refine G.thenR ?_
          exact G.retFV rfl rfl (congrArg (Value.int .i64) (by simp only [szM] at * <;> omega))
      · try exact Bool.noConfusion hc
        all_goals
         try replace hc := of_decide_eq_false hc
         try (exfalso; contradiction)
         all_goals
          refine G.skip ?_; refine G.thenN ?_; refine G.seq ?_; refine G.region ?_; refine G.v (rv_move rfl) rfl ?_; refine G.v (rv_assign rfl) rfl ?_; refine G.done ?_; refine G.thenN ?_; refine G.ret ?_
          exact G.retFV rfl rfl (congrArg (Value.int .i64) (by simp only [szM] at * <;> omega))
theorem toPlan_any {cv sv : Value} {cs : List (CartonM × Value)} {ss : List SpotM} (w : World) (h : Rd w cv 3 (cs.map CartonM.cells)) (hs : Subs w CartonM.l cs) (h3 : Rd w sv 4 (ss.map SpotM.cells)) (ht : tot CartonM.l cs ≤ 1048576) (ht2 : ss.length ≤ 1048576) :
    Fn Tryz.prog 45 [.agg [cv, sv].toArray] w (fun x : (Value × List (CartonM × Value)) × Value => x.1.1.oneCell' = true ∧ x.2.oneCell' = true ∧ x.1.2.map Prod.fst = cs.map Prod.fst) (fun x => .agg [x.1.1, x.2].toArray)
      (fun x => [.row x.2 172 4 (ss.map SpotM.cells), .grp 3 1 (x.1.2.map (sub CartonM.l)), .row x.1.1 121 3 (x.1.2.map CartonM.cells)]) := by
  refine Fn.of (n := 13) Tryz.func45 rfl rfl ?_; refine G.seq ?_; refine G.region ?_; refine G.op (og_box rfl rfl) rfl (fun bk1 _ => ?_); refine G.op (og_alloc) rfl (fun bk2 _ => ?_); refine G.done ?_; refine G.thenN ?_; refine G.seq ?_; refine G.region ?_; refine G.op (og_alloc) rfl (fun bk3 _ => ?_); refine G.done ?_; refine G.thenN ?_; refine G.seq ?_; refine G.region ?_
  (refine G.v (rv_field rfl) rfl ?_)
  (refine G.v (rv_load1 2 rfl rfl rfl) rfl ?_)
  ((refine G.op (og_callF2 rfl rfl (fun w hh => toCartonS_any w (Rd.stays h _ hh) (Subs.stays hs _ hh) ht)) rfl ?_; rintro ⟨cv2, cs2⟩ ⟨hov, hvl⟩; try dsimp only))
  (refine G.v (rv_field rfl) rfl ?_)
  (refine G.op0 (og_st2 rfl rfl rfl (cells_one (by assumption)) rfl (by repeat (first | rfl | refine one_cons (by assumption) ?_)) (.zero (.cons .nil))) (fun _ _ => ?_))
  refine G.done ?_; refine G.thenN ?_; refine G.seq ?_; refine G.region ?_
  (refine G.v (rv_field rfl) rfl ?_)
  (refine G.v (rv_load1 4 rfl rfl rfl) rfl ?_)
  (first | (refine G.op (og_callF1 rfl rfl (fun w hh => toSpotS_any w (Rd.stays h3 _ hh) ht2)) rfl ?_; rintro sv2 hov2; try dsimp only) | (refine G.op (og_callF2 rfl rfl (fun w hh => toSpotS_any w (Rd.stays h3 _ hh) ht2)) rfl ?_; rintro sv2 hov2; try dsimp only) | (refine G.op (og_callF3 rfl rfl (fun w hh => toSpotS_any w (Rd.stays h3 _ hh) ht2)) rfl ?_; rintro sv2 hov2; try dsimp only) | (refine G.op (og_callF0 rfl rfl (fun w hh => toSpotS_any w (Rd.stays h3 _ hh) ht2)) rfl ?_; rintro sv2 hov2; try dsimp only) | (refine G.op (og_callF rfl rfl (fun w hh => toSpotS_any w (Rd.stays h3 _ hh) ht2)) rfl ?_; rintro sv2 hov2; try dsimp only))
  (refine G.v (rv_field rfl) rfl ?_)
  (refine G.op0 (og_st3 rfl rfl rfl (cells_one (by assumption)) rfl (by repeat (first | rfl | refine one_cons (by assumption) ?_)) (.succ (.zero (.cons .nil)))) (fun _ _ => ?_))
  refine G.done ?_; refine G.thenN ?_; refine G.seq ?_; refine G.region ?_
  (refine G.v (rv_loadW 3 rfl rfl rfl) rfl ?_)
  (refine G.op0 (og_st4 rfl rfl rfl rfl rfl (by repeat (first | rfl | refine one_cons (by assumption) ?_)) (.zero (.cons (.cons .nil)))) (fun _ _ => ?_))
  refine G.done ?_; refine G.thenN ?_; refine G.ret ?_
  exact G.retFc ((cv2, cs2), sv2) ⟨hov, hov2, hvl⟩ 4 rfl rfl rfl rfl rfl (fun w hh => hh.pick [0, 0, 0] rfl)
theorem eqPlan_any {cv sv cv' sv' : Value} {cs cs' : List (CartonM × Value)} {ss ss' : List SpotM} (w : World) (h : Rd w cv 3 (cs.map CartonM.cells)) (hs : Subs w CartonM.l cs) (h3 : Rd w sv 4 (ss.map SpotM.cells))
    (h' : Rd w cv' 3 (cs'.map CartonM.cells)) (hs' : Subs w CartonM.l cs') (h3' : Rd w sv' 4 (ss'.map SpotM.cells)) :
    FnV Tryz.prog 47 [.agg [cv, sv].toArray, .agg [cv', sv'].toArray] w (.bool (decide (cs.map Prod.fst = cs'.map Prod.fst) && decide (ss = ss'))) := by
  refine FnV.of (n := 17) Tryz.func47 rfl rfl ?_; refine G.seq ?_; refine G.region ?_; refine G.op (og_box rfl rfl) rfl (fun bk2 _ => ?_); refine G.op (og_box rfl rfl) rfl (fun bk3 _ => ?_); refine G.v (rv_assign rfl) rfl ?_; refine G.done ?_; refine G.thenN ?_; refine G.seq ?_; refine G.seq ?_; refine G.region ?_
  (refine G.v (rv_field rfl) rfl ?_)
  (refine G.v (rv_load1 1 rfl rfl rfl) rfl ?_)
  (refine G.v (rv_field rfl) rfl ?_)
  (refine G.v (rv_load1 0 rfl rfl rfl) rfl ?_)
  refine G.op (og_callV rfl rfl (fun w hh => eqCartonS_any w (Rd.stays h _ hh) (Subs.stays hs _ hh) (Rd.stays h' _ hh) (Subs.stays hs' _ hh))) rfl (fun _ _ => ?_); refine G.v (rv_not rfl) rfl ?_; refine G.done ?_; refine G.thenN ?_; refine G.cond rfl (fun hc => ?_) (fun hc => ?_)
  · try exact Bool.noConfusion hc
    all_goals
     try replace hc := of_decide_eq_true hc
     try (exfalso; contradiction)
     all_goals
      refine G.seq ?_; refine G.region ?_; refine G.v (rv_assign rfl) rfl ?_; refine G.done ?_; refine G.thenN ?_; refine G.ret ?_; refine G.thenR ?_; refine G.retFV rfl rfl (congrArg Value.bool ?_); simp_all
  · try exact Bool.noConfusion hc
    all_goals
     try replace hc := of_decide_eq_false hc
     try (exfalso; contradiction)
     all_goals
      refine G.skip ?_; refine G.thenN ?_; refine G.seq ?_; refine G.seq ?_; refine G.region ?_
      (refine G.v (rv_field rfl) rfl ?_)
      (refine G.v (rv_load1 1 rfl rfl rfl) rfl ?_)
      (refine G.v (rv_field rfl) rfl ?_)
      (refine G.v (rv_load1 0 rfl rfl rfl) rfl ?_)
      refine G.op (og_callV rfl rfl (fun w hh => eqSpotS_any w (Rd.stays h3 _ hh) (Rd.stays h3' _ hh))) rfl (fun _ _ => ?_); refine G.v (rv_not rfl) rfl ?_; refine G.done ?_; refine G.thenN ?_; refine G.cond rfl (fun hc => ?_) (fun hc => ?_)
      · try exact Bool.noConfusion hc
        all_goals
         try replace hc := of_decide_eq_true hc
         try (exfalso; contradiction)
         all_goals
          refine G.seq ?_; refine G.region ?_; refine G.v (rv_assign rfl) rfl ?_; refine G.done ?_; refine G.thenN ?_; refine G.ret ?_; refine G.thenR ?_; refine G.retFV rfl rfl (congrArg Value.bool ?_); simp_all
      · try exact Bool.noConfusion hc
        all_goals
         try replace hc := of_decide_eq_false hc
         try (exfalso; contradiction)
         all_goals
          refine G.skip ?_; refine G.thenN ?_; refine G.seq ?_; refine G.region ?_; refine G.v (rv_assign rfl) rfl ?_; refine G.done ?_; refine G.thenN ?_; refine G.ret ?_; refine G.retFV rfl rfl (congrArg Value.bool ?_); simp_all
end Go.Proofs.YtibkggjbkgdnkaaGreat

/-
  Plans that are alike, and what lies on a pallet.
-/
namespace Go.Proofs.YtibkggjbkgdnkaaGreat
open Go.RowKit
attribute [local irreducible] Go.wpList Go.Code.wp Go.Exit.then Go.Exit.inBlock Go.bodyPost Go.Calls pE pB G RunsV FnV Fn FnM
set_option maxRecDepth 100000
set_option maxHeartbeats 1000000
end Go.Proofs.YtibkggjbkgdnkaaGreat

/-
  What lies on a pallet.
-/
namespace Go.Proofs.YtibkggjbkgdnkaaGreat
open Go.RowKit
attribute [local irreducible] Go.wpList Go.Code.wp Go.Exit.then Go.Exit.inBlock Go.bodyPost Go.Calls pE pB G RunsV FnV Fn FnM
set_option maxRecDepth 100000
set_option maxHeartbeats 1000000
def onP (k : Int) (s : SpotM) : Bool := decide (s.p = k)
def onPalletM (n : Nat) (ss : List SpotM) (k : Int) : List Int := if ss.length = n then whereG (onP k) ss else []
theorem onPallet_len (n : Nat) (ss : List SpotM) (k : Int) : (onPalletM n ss k).length ≤ ss.length := by
  unfold onPalletM; split
  · exact where_len _ _
  · simp
theorem onPallet_any {cv sv : Value} {cs : List (CartonM × Value)} {ss : List SpotM} {z : Int} (w : World) (h : Rd w cv 3 (cs.map CartonM.cells)) (h3 : Rd w sv 4 (ss.map SpotM.cells)) (hb : ss.length ≤ 1048576) :
    Fn Tryz.prog 119 [.agg [cv, sv].toArray, .int .i64 z] w (fun v : Value => v.oneCell' = true) (fun v => v) (fun v => [.row v 3 1 ((onPalletM cs.length ss z).map icell)]) := by
  have hle := h3.le_map
  refine Fn.of (n := 34) Tryz.func119 rfl rfl ?_; refine G.seq ?_; refine G.region ?_; refine G.op (og_box rfl rfl) rfl (fun bk2 _ => ?_); refine G.v (rv_assign rfl) rfl ?_; refine G.done ?_; refine G.thenN ?_; refine G.seq ?_; refine G.seq ?_; refine G.region ?_
  (refine G.v (rv_field rfl) rfl ?_)
  (refine G.v (rv_load1 0 rfl rfl rfl) rfl ?_)
  refine G.v (rv_len rfl (by exact Rd.stays (by assumption))) rfl ?_
  (refine G.v (rv_field rfl) rfl ?_)
  (refine G.v (rv_load1 0 rfl rfl rfl) rfl ?_)
  refine G.v (rv_len rfl (by exact Rd.stays (by assumption))) rfl ?_; refine G.v (rv_neq rfl rfl) rfl ?_; refine G.done ?_; refine G.thenN ?_; refine G.cond rfl (fun hc => ?_) (fun hc => ?_)
  · try exact Bool.noConfusion hc
    all_goals
     try replace hc := of_decide_eq_true hc
     try simp only [List.length_map] at hc
     try (exfalso; contradiction)
     all_goals
      refine G.seq ?_; refine G.region ?_; refine G.v (rv_assign rfl) rfl ?_; refine G.done ?_; refine G.thenN ?_; refine G.ret ?_; refine G.thenR ?_
      (exact G.retF (.slice none 0 0) rfl rfl rfl rfl (fun w hw => by rw [onPalletM, if_neg (by omega)]; exact hw.none.nilRow _ _))
  · try exact Bool.noConfusion hc
    all_goals
     try replace hc := of_decide_eq_false hc
     try simp only [List.length_map] at hc
     try (exfalso; contradiction)
     all_goals
      refine G.skip ?_; refine G.thenN ?_; refine G.seq ?_; refine G.region ?_; refine G.op (og_lit rfl .nil rfl rfl rfl rfl rfl rfl) rfl (fun vl _ => ?_); refine G.v (rv_assign rfl) rfl ?_; refine G.done ?_; refine G.thenN ?_; refine G.seq ?_; refine G.seq ?_; refine G.region ?_
      (refine G.v (rv_field rfl) rfl ?_)
      (refine G.v (rv_load1 1 rfl rfl rfl) rfl ?_)
      refine G.v (rv_len rfl (by exact Rd.stays (by assumption))) rfl ?_; refine G.v (rv_move rfl) rfl ?_; refine G.done ?_; refine G.thenN ?_; refine G.block ?_
      -- loop 0: turned [5, 19], kept [1, 17, 18]
      have hl : ss.length = cs.length := by omega
      refine G.loopK (ι := Nat × Value) (ks := [1, 17, 18]) (fun x => [(5, x.2), (19, .int .i64 x.1)]) (fun x => [.row x.2 3 1 ((whereG (onP z) (ss.take x.1)).map icell)]) (fun x => x.1 ≤ ss.length) (fun x => ss.length - x.1) (0, vl) (.cons rfl (.cons rfl (.cons rfl (.nil)))) rfl ?_ ?_ ?_
      · exact Nat.zero_le _
      · exact ⟨rfl, rfl, trivial⟩
      rintro ⟨k, v2⟩ hk
      have hwl := where_len (onP z) (ss.take k)
      have htl : (ss.take k).length ≤ k := by (rw [List.length_take]; omega)
      by_cases hlt : k < ss.length
      case' pos => (obtain ⟨b, hb2⟩ := get_of_lt hlt; have he := get_map hb2 SpotM.cells)
      all_goals
       refine G.seq ?_; refine G.region ?_; refine G.v (rv_lss rfl rfl) rfl ?_; refine G.done ?_; refine G.thenN ?_; refine G.seq ?_; refine G.cond rfl (fun hc => ?_) (fun hc => ?_)
       · try exact Bool.noConfusion hc
         all_goals
          try replace hc := of_decide_eq_true hc
          try simp only [List.length_map] at hc
          try (exfalso; omega)
          all_goals
           refine G.skip ?_; refine G.thenN ?_; refine G.seq ?_; refine G.block ?_; refine G.seq ?_; refine G.region ?_; refine G.v (rv_move rfl) rfl ?_
           (refine G.v (rv_indexH rfl rfl (by exact Rd.stays (by assumption)) rfl (by assumption)) rfl ?_)
           (refine G.v (rv_loadEW rfl (by exact Rd.stays (by assumption)) (by assumption) rfl) rfl ?_)
           refine G.op (og_alloc) rfl (fun bk7 _ => ?_); refine G.v (rv_assign rfl) rfl ?_
           (refine G.op0 (og_st0 rfl rfl rfl rfl rfl rfl (.zero (.cons (.cons (.cons (.cons .nil)))))) (fun _ _ => ?_))
           refine G.done ?_; refine G.thenN ?_; refine G.seq ?_; refine G.region ?_
           (refine G.v (rv_field rfl) rfl ?_)
           (refine G.v (rv_load1 0 rfl rfl rfl) rfl ?_)
           refine G.v (rv_move rfl) rfl ?_; refine G.v (rv_eql rfl rfl) rfl ?_; refine G.done ?_; refine G.thenN ?_; refine G.cond rfl (fun hc => ?_) (fun hc => ?_)
           · try exact Bool.noConfusion hc
             all_goals
              try replace hc := of_decide_eq_true hc
              try simp only [List.length_map] at hc
              try (exfalso; contradiction)
              all_goals
               refine G.region ?_; refine G.v (rv_move rfl) rfl ?_; refine G.v (rv_move rfl) rfl ?_; refine G.op (og_lit rfl (.cons rfl .nil) rfl rfl rfl rfl rfl rfl) rfl (fun vl _ => ?_)
               ((refine G.op (og_app2 rfl rfl rfl (by exact Rd.owned 0 rfl) rfl rfl (by simp; omega) (by simp; omega)) rfl (fun va _ => ?_)))
               refine G.v (rv_assign rfl) rfl ?_; refine G.done ?_; refine G.inN ?_; refine G.thenN ?_; refine G.region ?_
               (refine G.v (rv_incr rfl rfl (by omega)) rfl ?_)
               refine G.v (rv_move rfl) rfl ?_; refine G.done ?_; refine G.backK (k + 1, va) 2 (by exact one_eq (congrArg (fun z => Ch.row _ 3 1 z) (where_yes hb2 (decide_eq_true hc)))) (.cons rfl (.cons rfl (.cons rfl (.nil)))) (⟨rfl, rfl, trivial⟩) ?_ ?_
               · exact hlt
               · omega
           · try exact Bool.noConfusion hc
             all_goals
              try replace hc := of_decide_eq_false hc
              try simp only [List.length_map] at hc
              try (exfalso; contradiction)
              all_goals
               refine G.skip ?_; refine G.inN ?_; refine G.thenN ?_; refine G.region ?_
               (refine G.v (rv_incr rfl rfl (by omega)) rfl ?_)
               refine G.v (rv_move rfl) rfl ?_; refine G.done ?_; refine G.backK (k + 1, v2) 1 (by exact one_eq (congrArg (fun z => Ch.row _ 3 1 z) (where_no hb2 (decide_eq_false hc)))) (.cons rfl (.cons rfl (.cons rfl (.nil)))) (⟨rfl, rfl, trivial⟩) ?_ ?_
               · exact hlt
               · omega
       · try exact Bool.noConfusion hc
         all_goals
          try replace hc := of_decide_eq_false hc
          try simp only [List.length_map] at hc
          try (exfalso; omega)
          all_goals
           refine G.exit ?_; refine G.thenX ?_; refine G.thenX ?_; refine G.inX ?_; refine G.thenN ?_; refine G.seq ?_; refine G.region ?_; refine G.v (rv_move rfl) rfl ?_; refine G.v (rv_assign rfl) rfl ?_; refine G.done ?_; refine G.thenN ?_; refine G.ret ?_
           (refine G.know (fun w hw => (Rd.owned 0 rfl w hw).one_) (fun hone => G.retF v2 hone rfl rfl rfl (fun w hw => by rw [onPalletM, if_pos hl, ← take_all hlt]; exact hw.sublist (by repeat (first | exact List.Sublist.refl _ | refine List.Sublist.cons_cons _ ?_ | refine List.Sublist.cons _ ?_)))); done)
theorem sonPallet_yes {cv sv : Value} {cs : List (CartonM × Value)} {ss : List SpotM} {z : Int} (w : World) (h : Rd w cv 3 (cs.map CartonM.cells)) (h3 : Rd w sv 4 (ss.map SpotM.cells)) (hb : ss.length ≤ 1048576) (hl : ss.length = cs.length) :
    Fn Tryz.prog 115 [.agg [cv, sv].toArray, .int .i64 z] w (fun v : Value => v.oneCell' = true) (fun v => v) (fun v => [.row v 3 1 ((onPalletM cs.length ss z).map icell)]) := by
  have hle := h3.le_map
  refine Fn.of (n := 37) Tryz.func115 rfl rfl ?_; refine G.seq ?_; refine G.region ?_; refine G.op (og_box rfl rfl) rfl (fun bk2 _ => ?_); refine G.v (rv_assign rfl) rfl ?_; refine G.done ?_; refine G.thenN ?_; refine G.seq ?_; refine G.region ?_; refine G.op (og_lit rfl .nil rfl rfl rfl rfl rfl rfl) rfl (fun vl _ => ?_); refine G.v (rv_assign rfl) rfl ?_; refine G.done ?_; refine G.thenN ?_; refine G.seq ?_; refine G.seq ?_; refine G.region ?_; refine G.v (rv_assign rfl) rfl ?_; refine G.done ?_; refine G.thenN ?_; refine G.block ?_
  -- loop 0: turned [5, 6], kept [1, 2]
  refine G.loopK (ι := Nat × Value) (ks := [1, 2]) (fun x => [(5, x.2), (6, .int .i64 x.1)]) (fun x => [.row x.2 3 1 ((whereG (onP z) (ss.take x.1)).map icell)]) (fun x => x.1 ≤ ss.length) (fun x => ss.length - x.1) (0, vl) (.cons rfl (.cons rfl (.nil))) rfl ?_ ?_ ?_
  · exact Nat.zero_le _
  · exact ⟨rfl, rfl, trivial⟩
  rintro ⟨k, v2⟩ hk
  have hwl := where_len (onP z) (ss.take k)
  have htl : (ss.take k).length ≤ k := by (rw [List.length_take]; omega)
  by_cases hlt : k < ss.length
  case' pos => (obtain ⟨b, hb2⟩ := get_of_lt hlt; have he := get_map hb2 SpotM.cells)
  all_goals
   refine G.seq ?_; refine G.seq ?_; refine G.region ?_; refine G.v (rv_move rfl) rfl ?_
   (refine G.v (rv_field rfl) rfl ?_)
   (refine G.v (rv_load1 1 rfl rfl rfl) rfl ?_)
   refine G.v (rv_len rfl (by exact Rd.stays (by assumption))) rfl ?_; refine G.v (rv_lss rfl rfl) rfl ?_; refine G.v (rv_move rfl) rfl ?_
   all_goals (((with_reducible refine G.gP rfl rfl (fun hg => ?_) (fun hg => ?_)) <;> (try exact Bool.noConfusion hg) <;> (first | (refine G.gY rfl rfl ?_; (refine G.v (rv_field rfl) rfl ?_)) | refine G.gN rfl rfl rfl ?_)))
   all_goals ((first | (refine G.gY rfl rfl ?_; (refine G.v (rv_load1 1 rfl rfl rfl) rfl ?_)) | refine G.gN rfl rfl rfl ?_))
   all_goals ((first | (refine G.gY rfl rfl ?_; refine G.v (rv_len rfl (by exact Rd.stays (by assumption))) rfl ?_) | refine G.gN rfl rfl rfl ?_))
   all_goals ((first | (refine G.gY rfl rfl ?_; (refine G.v (rv_field rfl) rfl ?_)) | refine G.gN rfl rfl rfl ?_))
   all_goals ((first | (refine G.gY rfl rfl ?_; (refine G.v (rv_load1 1 rfl rfl rfl) rfl ?_)) | refine G.gN rfl rfl rfl ?_))
   all_goals ((first | (refine G.gY rfl rfl ?_; refine G.v (rv_len rfl (by exact Rd.stays (by assumption))) rfl ?_) | refine G.gN rfl rfl rfl ?_))
   all_goals ((first | (refine G.gY rfl rfl ?_; refine G.v (rv_eql rfl rfl) rfl ?_) | refine G.gN rfl rfl rfl ?_))
   all_goals ((first | refine G.v (rv_pickT rfl rfl) rfl ?_ | refine G.v (rv_pickF rfl rfl) rfl ?_))
   all_goals
    refine G.done ?_; refine G.thenN ?_; refine G.cond rfl (fun hc => ?_) (fun hc => ?_)
    · try exact Bool.noConfusion hc
      all_goals
       try replace hc := of_decide_eq_true hc
       try (exfalso; have hq := of_decide_eq_true hg; simp only [List.length_map] at hq; omega)
       try simp only [List.length_map] at hc
       try (exfalso; contradiction)
       all_goals
        refine G.skip ?_; refine G.thenN ?_; refine G.seq ?_; refine G.block ?_; refine G.seq ?_; refine G.region ?_
        (refine G.v (rv_field rfl) rfl ?_)
        (refine G.v (rv_load1 1 rfl rfl rfl) rfl ?_)
        refine G.v (rv_move rfl) rfl ?_
        (refine G.v (rv_indexH rfl rfl (by exact Rd.stays (by assumption)) rfl (by assumption)) rfl ?_)
        (refine G.v (rv_fieldE rfl) rfl ?_)
        refine G.v (rv_loadE rfl (by exact Rd.stays (by assumption)) (by assumption) rfl) rfl ?_; refine G.v (rv_move rfl) rfl ?_; refine G.v (rv_eql rfl rfl) rfl ?_; refine G.done ?_; refine G.thenN ?_; refine G.cond rfl (fun hc => ?_) (fun hc => ?_)
        · try exact Bool.noConfusion hc
          all_goals
           try replace hc := of_decide_eq_true hc
           try (exfalso; have hq := of_decide_eq_true hg; simp only [List.length_map] at hq; omega)
           try simp only [List.length_map] at hc
           try (exfalso; contradiction)
           all_goals
            refine G.region ?_; refine G.v (rv_move rfl) rfl ?_; refine G.v (rv_move rfl) rfl ?_; refine G.op (og_lit rfl (.cons rfl .nil) rfl rfl rfl rfl rfl rfl) rfl (fun vl _ => ?_)
            ((refine G.op (og_app1 rfl rfl rfl (by exact Rd.owned 0 rfl) rfl rfl (by simp; omega) (by simp; omega)) rfl (fun va _ => ?_)))
            refine G.v (rv_assign rfl) rfl ?_; refine G.done ?_; refine G.inN ?_; refine G.thenN ?_; refine G.region ?_; refine G.v (rv_move rfl) rfl ?_
            (refine G.v (rv_incr rfl rfl (by omega)) rfl ?_)
            refine G.v (rv_assign rfl) rfl ?_; refine G.done ?_; refine G.backK (k + 1, va) 1 (by exact one_eq (congrArg (fun z => Ch.row _ 3 1 z) (where_yes hb2 (decide_eq_true hc)))) (.cons rfl (.cons rfl (.nil))) (⟨rfl, rfl, trivial⟩) ?_ ?_
            · exact hlt
            · omega
        · try exact Bool.noConfusion hc
          all_goals
           try replace hc := of_decide_eq_false hc
           try (exfalso; have hq := of_decide_eq_true hg; simp only [List.length_map] at hq; omega)
           try simp only [List.length_map] at hc
           try (exfalso; contradiction)
           all_goals
            refine G.skip ?_; refine G.inN ?_; refine G.thenN ?_; refine G.region ?_; refine G.v (rv_move rfl) rfl ?_
            (refine G.v (rv_incr rfl rfl (by omega)) rfl ?_)
            refine G.v (rv_assign rfl) rfl ?_; refine G.done ?_; refine G.backK (k + 1, v2) 0 (by exact one_eq (congrArg (fun z => Ch.row _ 3 1 z) (where_no hb2 (decide_eq_false hc)))) (.cons rfl (.cons rfl (.nil))) (⟨rfl, rfl, trivial⟩) ?_ ?_
            · exact hlt
            · omega
    · try exact Bool.noConfusion hc
      all_goals
       try replace hc := of_decide_eq_false hc
       try (exfalso; have hq := of_decide_eq_true hg; simp only [List.length_map] at hq; omega)
       try simp only [List.length_map] at hc
       try (exfalso; omega)
       all_goals
        refine G.exit ?_; refine G.thenX ?_; refine G.thenX ?_; refine G.inX ?_; refine G.thenN ?_; refine G.seq ?_; refine G.region ?_; refine G.v (rv_move rfl) rfl ?_; refine G.v (rv_assign rfl) rfl ?_; refine G.done ?_; refine G.thenN ?_; refine G.ret ?_
        first | (exfalso; have hq := of_decide_eq_false hg; simp only [List.length_map] at hq; omega) | (refine G.know (fun w hw => (Rd.owned 0 rfl w hw).one_) (fun hone => G.retF v2 hone rfl rfl rfl (fun w hw => by rw [onPalletM, if_pos hl, ← take_all (l := ss) (k := k) (by omega)]; exact hw.sublist (by repeat (first | exact List.Sublist.refl _ | refine List.Sublist.cons_cons _ ?_ | refine List.Sublist.cons _ ?_)))); done)
theorem sonPallet_no {cv sv : Value} {cs : List (CartonM × Value)} {ss : List SpotM} {z : Int} (w : World) (h : Rd w cv 3 (cs.map CartonM.cells)) (h3 : Rd w sv 4 (ss.map SpotM.cells)) (hl : ¬ ss.length = cs.length) :
    Fn Tryz.prog 115 [.agg [cv, sv].toArray, .int .i64 z] w (fun v : Value => v.oneCell' = true) (fun v => v) (fun v => [.row v 3 1 ((onPalletM cs.length ss z).map icell)]) := by
  have hle := h.le_map
  refine Fn.of (n := 37) Tryz.func115 rfl rfl ?_; refine G.seq ?_; refine G.region ?_; refine G.op (og_box rfl rfl) rfl (fun bk2 _ => ?_); refine G.v (rv_assign rfl) rfl ?_; refine G.done ?_; refine G.thenN ?_; refine G.seq ?_; refine G.region ?_; refine G.op (og_lit rfl .nil rfl rfl rfl rfl rfl rfl) rfl (fun vl _ => ?_); refine G.v (rv_assign rfl) rfl ?_; refine G.done ?_; refine G.thenN ?_; refine G.seq ?_; refine G.seq ?_; refine G.region ?_; refine G.v (rv_assign rfl) rfl ?_; refine G.done ?_; refine G.thenN ?_; refine G.block ?_
  -- loop 0: turned [5, 6], kept [1, 2]
  refine G.loopK (ι := Unit) (ks := [1, 2]) (fun _ => [(5, vl), (6, .int .i64 (0 : Nat))]) (fun _ => [.row vl 3 1 []]) (fun _ => True) (fun _ => 0) () (.cons rfl (.cons rfl (.nil))) rfl ?_ ?_ ?_
  · exact trivial
  · exact ⟨rfl, rfl, trivial⟩
  rintro i hp
  refine G.seq ?_; refine G.seq ?_; refine G.region ?_; refine G.v (rv_move rfl) rfl ?_
  (refine G.v (rv_field rfl) rfl ?_)
  (refine G.v (rv_load1 1 rfl rfl rfl) rfl ?_)
  refine G.v (rv_len rfl (by exact Rd.stays (by assumption))) rfl ?_; refine G.v (rv_lss rfl rfl) rfl ?_; refine G.v (rv_move rfl) rfl ?_
  all_goals (((with_reducible refine G.gP rfl rfl (fun hg => ?_) (fun hg => ?_)) <;> (try exact Bool.noConfusion hg) <;> (first | (refine G.gY rfl rfl ?_; (refine G.v (rv_field rfl) rfl ?_)) | refine G.gN rfl rfl rfl ?_)))
  all_goals ((first | (refine G.gY rfl rfl ?_; (refine G.v (rv_load1 1 rfl rfl rfl) rfl ?_)) | refine G.gN rfl rfl rfl ?_))
  all_goals ((first | (refine G.gY rfl rfl ?_; refine G.v (rv_len rfl (by exact Rd.stays (by assumption))) rfl ?_) | refine G.gN rfl rfl rfl ?_))
  all_goals ((first | (refine G.gY rfl rfl ?_; (refine G.v (rv_field rfl) rfl ?_)) | refine G.gN rfl rfl rfl ?_))
  all_goals ((first | (refine G.gY rfl rfl ?_; (refine G.v (rv_load1 1 rfl rfl rfl) rfl ?_)) | refine G.gN rfl rfl rfl ?_))
  all_goals ((first | (refine G.gY rfl rfl ?_; refine G.v (rv_len rfl (by exact Rd.stays (by assumption))) rfl ?_) | refine G.gN rfl rfl rfl ?_))
  all_goals ((first | (refine G.gY rfl rfl ?_; refine G.v (rv_eql rfl rfl) rfl ?_) | refine G.gN rfl rfl rfl ?_))
  all_goals ((first | refine G.v (rv_pickT rfl rfl) rfl ?_ | refine G.v (rv_pickF rfl rfl) rfl ?_))
  all_goals
   refine G.done ?_; refine G.thenN ?_; refine G.cond rfl (fun hc => ?_) (fun hc => ?_)
   · try exact Bool.noConfusion hc
     all_goals
      try replace hc := of_decide_eq_true hc
      try (exfalso; simp only [List.length_map] at hc; omega)
      try (exfalso; contradiction)
      all_goals
       refine G.skip ?_; refine G.thenN ?_; refine G.seq ?_; refine G.block ?_; refine G.seq ?_; refine G.region ?_
       (refine G.v (rv_field rfl) rfl ?_)
       (refine G.v (rv_load1 0 rfl rfl rfl) rfl ?_)
       refine G.v (rv_move rfl) rfl ?_
       (refine G.v (rv_indexH rfl rfl (by exact Rd.stays (by assumption)) rfl (by assumption)) rfl ?_)
       (refine G.v (rv_field rfl) rfl ?_)
       refine G.v (rv_loadE rfl (by exact Rd.stays (by assumption)) (by assumption) rfl) rfl ?_; refine G.v (rv_move rfl) rfl ?_; refine G.v (rv_eql rfl rfl) rfl ?_; refine G.done ?_; refine G.thenN ?_; refine G.cond rfl (fun hc => ?_) (fun hc => ?_)
       · try exact Bool.noConfusion hc
         all_goals
          try replace hc := of_decide_eq_true hc
          try (exfalso; simp only [List.length_map] at hc; omega)
          try (exfalso; contradiction)
          all_goals
           refine G.region ?_; refine G.v (rv_move rfl) rfl ?_; refine G.v (rv_move rfl) rfl ?_; refine G.op (og_lit rfl (.cons rfl .nil) rfl rfl rfl rfl rfl rfl) rfl (fun vl _ => ?_)
           (refine G.op (og_app0 rfl rfl rfl (by exact Rd.stays (by assumption)) rfl rfl (by simp; omega) (by simp; omega)) rfl (fun va _ => ?_))
           refine G.v (rv_assign rfl) rfl ?_; refine G.done ?_; refine G.inN ?_; refine G.thenN ?_; refine G.region ?_; refine G.v (rv_move rfl) rfl ?_
           (refine G.v (rv_incr rfl rfl (by omega)) rfl ?_)
           refine G.v (rv_assign rfl) rfl ?_; refine G.done ?_; refine G.backK () 0 rfl (.cons rfl (.cons rfl (.nil))) ?_ ?_ ?_
           · exact ⟨rfl, rfl, trivial⟩
           · exact trivial
           · omega
       · try exact Bool.noConfusion hc
         all_goals
          try replace hc := of_decide_eq_false hc
          try (exfalso; simp only [List.length_map] at hc; omega)
          try (exfalso; contradiction)
          all_goals
           refine G.skip ?_; refine G.inN ?_; refine G.thenN ?_; refine G.region ?_; refine G.v (rv_move rfl) rfl ?_
           (refine G.v (rv_incr rfl rfl (by omega)) rfl ?_)
           refine G.v (rv_assign rfl) rfl ?_; refine G.done ?_; refine G.backK () 0 rfl (.cons rfl (.cons rfl (.nil))) ?_ ?_ ?_
           · exact ⟨rfl, rfl, trivial⟩
           · exact trivial
           · omega
   · try exact Bool.noConfusion hc
     all_goals
      try replace hc := of_decide_eq_false hc
      try (exfalso; simp only [List.length_map] at hc; omega)
      try (exfalso; contradiction)
      all_goals
       refine G.exit ?_; refine G.thenX ?_; refine G.thenX ?_; refine G.inX ?_; refine G.thenN ?_; refine G.seq ?_; refine G.region ?_; refine G.v (rv_move rfl) rfl ?_; refine G.v (rv_assign rfl) rfl ?_; refine G.done ?_; refine G.thenN ?_; refine G.ret ?_
       (refine G.know (fun w hw => (Rd.owned 0 rfl w hw).one_) (fun hone => G.retF vl hone rfl rfl rfl (fun w hw => by rw [onPalletM, if_neg hl]; exact hw.sublist (by repeat (first | exact List.Sublist.refl _ | refine List.Sublist.cons_cons _ ?_ | refine List.Sublist.cons _ ?_)))))
theorem sonPallet_any {cv sv : Value} {cs : List (CartonM × Value)} {ss : List SpotM} {z : Int} (w : World) (h : Rd w cv 3 (cs.map CartonM.cells)) (h3 : Rd w sv 4 (ss.map SpotM.cells)) (hb : ss.length ≤ 1048576) :
    Fn Tryz.prog 115 [.agg [cv, sv].toArray, .int .i64 z] w (fun v : Value => v.oneCell' = true) (fun v => v) (fun v => [.row v 3 1 ((onPalletM cs.length ss z).map icell)]) := by
  by_cases hl : ss.length = cs.length
  · exact sonPallet_yes w h h3 hb hl
  · exact sonPallet_no w h h3 hl
end Go.Proofs.YtibkggjbkgdnkaaGreat
