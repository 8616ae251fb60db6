/- Plain words: how the reference reads a word. No program in sight. -/
import Derived.Test.YthpleohkngfdfaaGreatDoorFIs
import Derived.Test.YthpleohkngfdfaaGreatDoorRDec
import Derived.Test.YthpleohkngfdfaaGreatDoorRMask
namespace Go.Proofs.YthpleohkngfdfaaGreatDoor
set_option linter.all false
/- Words. -/
def qIndex (T : List Str) (s : Str) : Nat := ((List.range' 1 (T.length - 1)).find? fun i => wd T i == s).getD 0
def qAfter (s b : Str) : Option Str := if Lib.hasPrefix s b then some (s.drop b.length) else none
/-- The bound of kind k that a word stands for. -/
def qr (w name : Str) (k : Nat) : Option (Nat × Int) := ((qAfter w (name ++ wd signT k)).bind rdNum).map fun n => (k, n)
def qRead (w name : Str) : Nat × Int := ((List.range' 1 3).findSome? (qr w name)).getD (0, 0)
def addBit (m : Int) (i : Nat) : Int := ((qMask m.toNat i : Nat) : Int)
def stType (w : Str) (f : Flt) (i : Nat) : Flt :=
  let f := if w = wd typeT i then { f with types := addBit f.types i } else f
  if w = nonW ++ wd typeT i then { f with ntypes := addBit f.ntypes i } else f
def stColor (w : Str) (f : Flt) (i : Nat) : Flt :=
  let f := if w = wd colorT i then { f with colors := addBit f.colors i } else f
  if w = nonW ++ wd colorT i then { f with ncolors := addBit f.ncolors i } else f
def stKey (w : Str) (f : Flt) (i : Nat) : Flt := if w = withW ++ wd kwT i then { f with keys := addBit f.keys i } else f
def qNamed (f : Flt) (w : Str) : Flt := (List.range 17).foldl (stKey w) ((List.range 5).foldl (stColor w) ((List.range 6).foldl (stType w) f))
def qSet (f : Flt) (zo wh se ta : Nat) (su : Option Str) (p t v : Nat × Int) : Flt :=
  let f := if 0 < zo then { f with zone := (zo : Int) } else f
  let f := if 0 < wh then { f with who := (wh : Int) } else f
  let f := if 0 < se then { f with self := (se : Int) } else f
  let f := if 0 < ta then { f with tap := (ta : Int) } else f
  let f := match su with | some t => { f with sub := B t } | none => f
  let f := if 0 < p.1 then { f with pk := (p.1 : Int), pn := p.2 } else f
  let f := if 0 < t.1 then { f with tk := (t.1 : Int), tn := t.2 } else f
  if 0 < v.1 then { f with vk := (v.1 : Int), vn := v.2 } else f
def qWord (f : Flt) (w : Str) : Flt := qNamed (qSet f (qIndex zoneT w) (qIndex whoT w) (qIndex selfT w) (qIndex tapT w) (qAfter w subW) (qRead w powerW) (qRead w toughW) (qRead w valueW)) w
end Go.Proofs.YthpleohkngfdfaaGreatDoor
