/- Walks: package effect: whole, Is. Conditions: LaidM; the modifications lie where the slice says. -/
import Derived.Test.YtdnnkgkondkhfaaGreatDoorMEMem
import Derived.Test.YtdnnkgkondkhfaaGreatDoorQ3
import Derived.Test.YtdnnkgkondkhfaaGreatDoorQ8
import Derived.Test.YtdnnkgkondkhfaaGreatDoorQ9
import Derived.Test.YtdnnkgkondkhfaaGreatDoorMSText
set_option linter.all false
set_option maxRecDepth 100000
set_option maxHeartbeats 16000000
namespace Go.Proofs.YtdnnkgkondkhfaaGreatDoor
attribute [local irreducible] wpList Code.wp Calls iY iT dh eH jY dw isName fRef rG rH oC fCard qL oz ou vU sV fK uV textOf
open Go.ChangeShapes Go.WideShapes Go.RowKit
theorem aoH (f g:aH) (w:World):(binOp .neq TF (.agg f.cells) (.agg g.cells)).run Tryz.prog w= .ok (.bool (!fK f g)) w:=by
 have h:=an4 f g w
 rw [run_eql_struct] at h
 rw [run_neq_struct]
 generalize (Op.equalIn 10000 TF (.agg f.cells) (.agg g.cells)).run Tryz.prog w=x at *
 cases x<;>simp_all [Result.andThen]
theorem ahm (s:ByteArray) (R:Bool) (h:Hid (isName (L s)=R)) (w:World) (hl:Laid w):Calls Tryz.prog 189 #[.string s] w fun e w'=>e= .returned (.bool R)∧Below w.heap.size w w':=
 (QD s w hl.shaped).mono fun e w' h'=>⟨by rw [h'.1,h.out],h'.2⟩
theorem aeJ (c:Int) (T:Str) (h:Hid (dw c=T)) (w:World) (hl:bZ w):Calls Tryz.prog 100 #[.int .i64 c] w fun e w'=>e= .returned (.string (B T))∧w=w':=
 Oz c (B T) (Lib.hid (by rw [h.out])) w hl
end Go.Proofs.YtdnnkgkondkhfaaGreatDoor
