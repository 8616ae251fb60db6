/- Walks: the reference of chapter 8: Is, cost, Text, PoolText. Conditions: Laid. Walks: the reference of chapter 8: Text, PoolText. Conditions: Laid. Walks: the reference of chapter 8: PoolText, coun -/
import Derived.Test.YtdnnbfbhifelkaaGreatDoorMEMem
import Derived.Test.YtdnnbfbhifelkaaGreatDoorQ7
import Derived.Test.YtdnnbfbhifelkaaGreatDoorQ4
import Derived.Test.YtdnnbfbhifelkaaGreatDoorQ5
import Derived.Test.YtdnnbfbhifelkaaGreatDoorQ9
set_option linter.all false
set_option maxRecDepth 100000
set_option maxHeartbeats 16000000
namespace Go.Proofs.YtdnnbfbhifelkaaGreatDoor
attribute [local irreducible] wpList Code.wp Calls
open Go.ChangeShapes Go.WideShapes Go.RowKit
structure Small (c : Co) (n : Int) : Prop where
 x : 0 ≤ c.x ∧ c.x ≤ n
 c0 : 0 ≤ c.c0 ∧ c.c0 ≤ n
 c1 : 0 ≤ c.c1 ∧ c.c1 ≤ n
 c2 : 0 ≤ c.c2 ∧ c.c2 ≤ n
 c3 : 0 ≤ c.c3 ∧ c.c3 ≤ n
 c4 : 0 ≤ c.c4 ∧ c.c4 ≤ n
 g : 0 ≤ c.g ∧ c.g ≤ 99
theorem Small.step {c d : Co} {b : UInt8} {n : Int} (h : Small c n) (hc : cntC c b = some d) (hg : d.g ≤ 99) : Small d (n + 1) := by
 obtain ⟨a1, a2, a3, a4, a5, a6, a7⟩ := cntC_small hc h.x h.c0 h.c1 h.c2 h.c3 h.c4 h.g.1
 exact ⟨a1, a2, a3, a4, a5, a6, a7, hg⟩
end Go.Proofs.YtdnnbfbhifelkaaGreatDoor
