/- Walks: package effect: whole, Is. Conditions: LaidM; the modifications lie where the slice says. -/
import Derived.Test.YtdnnbfbhifelkaaGreatDoorMEMem
import Derived.Test.YtdnnbfbhifelkaaGreatDoorQ3
import Derived.Test.YtdnnbfbhifelkaaGreatDoorQ8
import Derived.Test.YtdnnbfbhifelkaaGreatDoorQ9
import Derived.Test.YtdnnbfbhifelkaaGreatDoorMSText
set_option linter.all false
set_option maxRecDepth 100000
set_option maxHeartbeats 16000000
namespace Go.Proofs.YtdnnbfbhifelkaaGreatDoor
attribute [local irreducible] wpList Code.wp Calls refIs amIs fltIs mlText poText cntText isName fRef fAmt fCtr fZone fCard fFlt fPool fMods rfEq amEq fltEq poEq textOf
open Go.ChangeShapes Go.WideShapes Go.RowKit
theorem neq_fl (f g : Flt) (w : World) : (binOp .neq TF (.agg f.cells) (.agg g.cells)).run Tryz.prog w = .ok (.bool (!fltEq f g)) w := by
 have h := eq_v f g w
 rw [run_eql_struct] at h
 rw [run_neq_struct]
 generalize (Op.equalIn 10000 TF (.agg f.cells) (.agg g.cells)).run Tryz.prog w = x at *
 cases x <;> simp_all [Result.andThen]
theorem wordIs_is (s : ByteArray) (R : Bool) (h : Hid (isName (L s) = R)) (w : World) (hl : Laid w) : Calls Tryz.prog 56 #[.string s] w fun e w' => e = .returned (.bool R) ∧ Below w.heap.size w w' :=
 (wordIs_any s w hl.shaped).mono fun e w' h' => ⟨by rw [h'.1, h.out], h'.2⟩
theorem cntName_B (c : Int) (T : Str) (h : Hid (cntText c = T)) (w : World) (hl : LaidM w) : Calls Tryz.prog 40 #[.int .i64 c] w fun e w' => e = .returned (.string (B T)) ∧ w = w' :=
 cntName_is c (B T) (Lib.hid (by rw [h.out])) w hl
end Go.Proofs.YtdnnbfbhifelkaaGreatDoor
