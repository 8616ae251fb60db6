/- Plain words: the reference's validity of a replacement effect is the program's (chapter 19). No program in sight. Walks: the reference of chapter 19: field, plain, moves, Is. Conditions: LaidM. Wal -/
import Derived.Test.YtdicgggkdmkklaaGreatDoorQ3
import Derived.Test.YtdicgggkdmkklaaGreatDoorQ4
import Derived.Test.YtdicgggkdmkklaaGreatDoorQ15
import Derived.Test.YtdicgggkdmkklaaGreatDoorQ12
set_option linter.all false
set_option maxRecDepth 100000
set_option maxHeartbeats 16000000
namespace Go.Proofs.YtdicgggkdmkklaaGreatDoor
open Go.ChangeShapes Go.WideShapes Go.RowKit
end Go.Proofs.YtdicgggkdmkklaaGreatDoor
namespace Go.Proofs.YtdicgggkdmkklaaGreatDoor
attribute [local irreducible] wpList Code.wp
open Go.ChangeShapes Go.WideShapes Go.RowKit
end Go.Proofs.YtdicgggkdmkklaaGreatDoor
