/- Walks of the reference: package cardgameref16: numbered, Is of any reference. Conditions: none. Walks of the reference: package cardgameref16: Is by any value, names, Text of a kind without number -/
import Derived.Test.YtdnnbfbhifelkaaGreatDoorMSIsW
import Derived.Test.YtdnnbfbhifelkaaGreatDoorQ4
import Derived.Test.YtdnnbfbhifelkaaGreatDoorMSText
import Derived.Test.YtdnnbfbhifelkaaGreatDoorQ7
import Derived.Test.YtdnnbfbhifelkaaGreatDoorQ9
set_option linter.all false
set_option maxRecDepth 100000
set_option maxHeartbeats 16000000
namespace Go.Proofs.YtdnnbfbhifelkaaGreatDoor
attribute [local irreducible] wpList Code.wp Calls fltIs fltEq
open Go.ChangeShapes Go.WideShapes Go.RowKit
end Go.Proofs.YtdnnbfbhifelkaaGreatDoor
namespace Go.Proofs.YtdnnbfbhifelkaaGreatDoor
open Go.ChangeShapes Go.WideShapes Go.RowKit
def RowS (b : Nat) (cs : Array Value) (g k : Nat) (X : ByteArray) (w1 w' : World) : Prop := (b < w1.heap.size ∧ g < w1.heap.size) ∧ Below w1.heap.size w1 w' ∧ w'.cell? ⟨g, k, none⟩ = some (.string X) ∧ ∀ j, w'.cell? ⟨b, j, none⟩ = cs[j]?
theorem RowS.below {b : Nat} {cs : Array Value} {g k : Nat} {X : ByteArray} {w1 w2 w3 : World} (h : RowS b cs g k X w1 w2) (hb : Below w2.heap.size w2 w3) : RowS b cs g k X w1 w3 :=
 ⟨h.1, below_two h.2.1 hb, (hb.cell (p := ⟨g, k, none⟩) (Nat.lt_of_lt_of_le h.1.2 h.2.1.size)).trans h.2.2.1, fun j => (hb.cell (p := ⟨b, j, none⟩) (Nat.lt_of_lt_of_le h.1.1 h.2.1.size)).trans (h.2.2.2 j)⟩
theorem RowS.drew {b : Nat} {cs : Array Value} {g k : Nat} {X : ByteArray} {w1 w2 : World} (h : RowS b cs g k X w1 w2) : RowS b cs g k X w1 w2.drew := h.below (Below.refl _ _).drew
def RSt (w wr : World) : Prop := wr.heap[w.heap.size]? = some (.cells zeroR.cells TRf) ∧ Below w.heap.size w wr
theorem RSt.below {w w1 w2 : World} (h : RSt w w1) (hb : Below w1.heap.size w1 w2) : RSt w w2 := ⟨blk_below2 hb h.1, below_two h.2 hb⟩
end Go.Proofs.YtdnnbfbhifelkaaGreatDoor
