/- Walks: chapter 17's reference: Word. Conditions: none. Walks: chapter 17's reference: ZoneName. Conditions: none. Walks: the reference of chapter 17: Uses, uses, mods, filter, inner. Conditions: La -/
import Derived.Test.YtdnnbfbhifelkaaGreatDoorQ7
import Derived.Test.YtdnnbfbhifelkaaGreatDoorQ3
import Derived.Test.YtdnnbfbhifelkaaGreatDoorMEParse
import Derived.Test.YtdnnbfbhifelkaaGreatDoorQ4
import Derived.Test.YtdnnbfbhifelkaaGreatDoorQ10
import Derived.Test.YtdnnbfbhifelkaaGreatDoorQ11
import Derived.Test.YtdnnbfbhifelkaaGreatDoorMEMem
import Derived.Deep.DeepCutAuto
import Derived.Test.YtdnnbfbhifelkaaGreatDoorQ8
set_option linter.all false
set_option maxRecDepth 100000
set_option maxHeartbeats 16000000
namespace Go.Proofs.YtdnnbfbhifelkaaGreatDoor
attribute [local irreducible] wpList Code.wp Calls
open Go.ChangeShapes Go.WideShapes Go.RowKit
end Go.Proofs.YtdnnbfbhifelkaaGreatDoor
namespace Go.Proofs.YtdnnbfbhifelkaaGreatDoor
attribute [local irreducible] wpList Code.wp
open Go.ChangeShapes Go.WideShapes Go.RowKit
theorem r17Zone_any (z : Int) (w : World) : Calls Tryz.prog 16 #[.int .i64 z] w fun e w' => e = .returned (.string (B (zoneName z))) ∧ Below w.heap.size w w' := by
 by_cases h0 : z = 0
 ·subst h0
  have k0 := Lib.hid (Below.refl w.heap.size w)
  go_enter Tryz.func16, Tryz.ntmps16
  go_wp2
  go_ret
  exact ⟨rfl, (k0.out.alloc (Nat.le_refl _) _)⟩
 by_cases h1 : z = 1
 ·subst h1
  have k0 := Lib.hid (Below.refl w.heap.size w)
  go_enter Tryz.func16, Tryz.ntmps16
  go_wp2
  go_ret
  exact ⟨rfl, (k0.out.alloc (Nat.le_refl _) _)⟩
 by_cases h2 : z = 2
 ·subst h2
  have k0 := Lib.hid (Below.refl w.heap.size w)
  go_enter Tryz.func16, Tryz.ntmps16
  go_wp2
  go_ret
  exact ⟨rfl, (k0.out.alloc (Nat.le_refl _) _)⟩
 by_cases h3 : z = 3
 ·subst h3
  have k0 := Lib.hid (Below.refl w.heap.size w)
  go_enter Tryz.func16, Tryz.ntmps16
  go_wp2
  go_ret
  exact ⟨rfl, (k0.out.alloc (Nat.le_refl _) _)⟩
 by_cases h4 : z = 4
 ·subst h4
  have k0 := Lib.hid (Below.refl w.heap.size w)
  go_enter Tryz.func16, Tryz.ntmps16
  go_wp2
  go_ret
  exact ⟨rfl, (k0.out.alloc (Nat.le_refl _) _)⟩
 by_cases h5 : z = 5
 ·subst h5
  have k0 := Lib.hid (Below.refl w.heap.size w)
  go_enter Tryz.func16, Tryz.ntmps16
  go_wp2
  go_ret
  exact ⟨rfl, (k0.out.alloc (Nat.le_refl _) _)⟩
 ·have HR : Hid (zoneName z = []) := Lib.hid (by unfold zoneName; rw [if_neg h0, if_neg h1, if_neg h2, if_neg h3, if_neg h4, if_neg h5])
  have hc : z < 0 ∨ (0 ≤ z ∧ 5 < z) := by omega
  clear h0 h1 h2 h3 h4 h5
  generalize zoneName z = R at *
  rcases hc with hc | ⟨hc, hd⟩
  all_goals
   go_enter Tryz.func16, Tryz.ntmps16
   go_wp2
   go_ret
   exact ⟨ret_str (by rw [HR.out]; rfl), Below.refl _ _⟩
end Go.Proofs.YtdnnbfbhifelkaaGreatDoor
namespace Go.Proofs.YtdnnbfbhifelkaaGreatDoor
attribute [local irreducible] wpList Code.wp Calls
open Go.ChangeShapes Go.WideShapes Go.RowKit
theorem r17Zone_B (z : Int) (T : Str) (h : Hid (zoneName z = T)) (w : World) : Calls Tryz.prog 16 #[.int .i64 z] w fun e w' => e = .returned (.string (B T)) ∧ Below w.heap.size w w' := (r17Zone_any z w).mono fun e w' h' => ⟨by rw [h'.1, h.out], h'.2⟩
end Go.Proofs.YtdnnbfbhifelkaaGreatDoor
namespace Go.Proofs.YtdnnbfbhifelkaaGreatDoor
attribute [local irreducible] wpList Code.wp Calls refIs amIs fltIs mlText poText cntText isName fRef fAmt fCtr fZone fCard fFlt fPool fMods rfEq amEq fltEq poEq textOf
open Go.ChangeShapes Go.WideShapes Go.RowKit
end Go.Proofs.YtdnnbfbhifelkaaGreatDoor
namespace Go.Proofs.YtdnnbfbhifelkaaGreatDoor
attribute [local irreducible] wpList Code.wp Calls
open Go.ChangeShapes Go.WideShapes Go.RowKit
end Go.Proofs.YtdnnbfbhifelkaaGreatDoor
