/-
  Orders: their parts as data.
-/
import Derived.Test.YtpmphkcibiimcaaGreatModel
namespace Go.Proofs.YtpmphkcibiimcaaGreat
open Go.RowKit
structure PairM where
  a : Int
  b : Int
deriving DecidableEq
def PairM.cells (x : PairM) : List Value := [.int .i64 x.a, .int .i64 x.b]
def PairM.val (x : PairM) : Value := .agg x.cells.toArray
abbrev PairM.z : List Value := [.int .i64 0, .int .i64 0]
structure TypeM where
  id : Int
  w : Int
  h : Int
  d : Int
  tare : Int
  g : Int
  cost : Int
deriving DecidableEq
def TypeM.cells (x : TypeM) : List Value := [.int .i64 x.id, .int .i64 x.w, .int .i64 x.h, .int .i64 x.d, .int .i64 x.tare, .int .i64 x.g, .int .i64 x.cost]
def TypeM.val (x : TypeM) : Value := .agg x.cells.toArray
abbrev TypeM.z : List Value := [.int .i64 0, .int .i64 0, .int .i64 0, .int .i64 0, .int .i64 0, .int .i64 0, .int .i64 0]
structure ItemM where
  id : Int
  w : Int
  h : Int
  d : Int
  g : Int
  cls : Int
  cnt : Int
deriving DecidableEq
def ItemM.cells (x : ItemM) : List Value := [.int .i64 x.id, .int .i64 x.w, .int .i64 x.h, .int .i64 x.d, .int .i64 x.g, .int .i64 x.cls, .int .i64 x.cnt]
def ItemM.val (x : ItemM) : Value := .agg x.cells.toArray
abbrev ItemM.z : List Value := [.int .i64 0, .int .i64 0, .int .i64 0, .int .i64 0, .int .i64 0, .int .i64 0, .int .i64 0]
structure ReqM where
  way : Int
  pal : PalletM
  classes : Int
  pairs : List PairM
  types : List TypeM
  master : Int
  items : List ItemM
deriving DecidableEq
def ReqM.cells (r : ReqM) (pv tv iv : Value) : List Value := [.int .i64 r.way, .int .i64 r.pal.w, .int .i64 r.pal.d, .int .i64 r.pal.h, .int .i64 r.pal.g, .int .i64 r.classes, pv, tv, .int .i64 r.master, iv]
def ReqM.val (r : ReqM) (pv tv iv : Value) : Value := .agg (r.cells pv tv iv).toArray
structure RqRd (w : World) (r : ReqM) (pv tv iv : Value) : Prop where
  p : Rd w pv 2 (r.pairs.map PairM.cells)
  t : Rd w tv 7 (r.types.map TypeM.cells)
  i : Rd w iv 7 (r.items.map ItemM.cells)
theorem RqRd.stays {w0 w : World} {r : ReqM} {pv tv iv : Value} {H : List Ch} (h : RqRd w0 r pv tv iv) (hh : HeapOk w0 w H) : RqRd w r pv tv iv := ⟨h.p.stays w hh, h.t.stays w hh, h.i.stays w hh⟩
/-! ### What is asked of an order -/
def itemOkM (x : ItemM) : Bool := inB x.id 0 999 && inB x.w 1 2000 && inB x.h 1 2000 && inB x.d 1 2000 && inB x.g 1 100000 && inB x.cls 0 3 && inB x.cnt 1 6
def typeOkM (x : TypeM) : Bool := inB x.id 0 999 && inB x.w 1 2000 && inB x.h 1 2000 && inB x.d 1 2000 && inB x.tare 0 100000 && inB x.g 1 100000 && inB x.cost 0 100000
def pairOkM (x : PairM) : Bool := inB x.a 0 3 && inB x.b 0 3
def cntSum (l : List ItemM) : Int := (l.map ItemM.cnt).sum
def boundsOkM (r : ReqM) : Bool :=
  inB r.way 0 1 && palletOkM r.pal && inB r.classes 1 4 && decide ((r.pairs.length : Int) ≤ 16) && r.pairs.all pairOkM && inB (r.types.length : Int) 1 5 && r.types.all typeOkM && inB r.master 0 999 && decide ((r.items.length : Int) ≤ 8) && r.items.all itemOkM && decide (cntSum r.items ≤ 12)
def besideM (ps : List PairM) (a b : Int) : Bool := ps.any fun p => decide (p.a = a) && decide (p.b = b)
def tableOkM (ps : List PairM) (n : Int) : Bool := inB n 1 4 && (List.range n.toNat).all fun a => besideM ps a a && (List.range n.toNat).all fun b => besideM ps a b == besideM ps b a
def typeByM (r : ReqM) (id : Int) : Option TypeM := r.types.find? fun t => decide (t.id = id)
def masterM (r : ReqM) : Option TypeM := typeByM r r.master
def typeZ : TypeM := ⟨0, 0, 0, 0, 0, 0, 0⟩
end Go.Proofs.YtpmphkcibiimcaaGreat
