/- Plain words: how the reference reads abilities (chapter 20); it reads as the program does. No program in sight. -/
import Derived.Test.YtdicgggkdmkklaaGreatDoorMVLaw
import Derived.Test.YtdicgggkdmkklaaGreatDoorQ7
set_option linter.all false
set_option maxRecDepth 100000
set_option maxHeartbeats 16000000
namespace Go.Proofs.YtdicgggkdmkklaaGreatDoor
open Go.ChangeShapes Go.WideShapes Go.RowKit
def aAU:Str:=[117,115,101,32]
def azh:Str:=[119,104,101,110,32]
end Go.Proofs.YtdicgggkdmkklaaGreatDoor
