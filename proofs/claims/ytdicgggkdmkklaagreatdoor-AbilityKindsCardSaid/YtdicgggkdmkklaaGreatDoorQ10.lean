/- Walks of the reference: package cardgameref16: numbered, Is of any reference. Conditions: none. Walks of the reference: package cardgameref16: Text. Conditions: none. Walks of the reference: packag -/
import Derived.Test.YtdicgggkdmkklaaGreatDoorQ17
import Derived.Test.YtdicgggkdmkklaaGreatDoorQ7
import Derived.Test.YtdicgggkdmkklaaGreatDoorQ9
import Derived.Test.YtdicgggkdmkklaaGreatDoorQ3
set_option linter.all false
set_option maxRecDepth 100000
set_option maxHeartbeats 16000000
namespace Go.Proofs.YtdicgggkdmkklaaGreatDoor
attribute [local irreducible] wpList Code.wp Calls dh fK
open Go.ChangeShapes Go.WideShapes Go.RowKit
attribute [local simp] lD
end Go.Proofs.YtdicgggkdmkklaaGreatDoor
namespace Go.Proofs.YtdicgggkdmkklaaGreatDoor
attribute [local irreducible] wpList Code.wp Calls dh fK
open Go.ChangeShapes Go.WideShapes Go.RowKit
attribute [local simp] lD
instance:ahu qQ 20:=⟨by decide⟩
instance:SQ 1:=⟨by decide,by decide⟩
instance:SQ 2:=⟨by decide,by decide⟩
instance:SQ 3:=⟨by decide,by decide⟩
instance:SQ 4:=⟨by decide,by decide⟩
end Go.Proofs.YtdicgggkdmkklaaGreatDoor
namespace Go.Proofs.YtdicgggkdmkklaaGreatDoor
attribute [local irreducible] wpList Code.wp Calls dh fK
open Go.ChangeShapes Go.WideShapes Go.RowKit
attribute [local simp] lD
attribute [local go_sem] KX KW Dq
end Go.Proofs.YtdicgggkdmkklaaGreatDoor
namespace Go.Proofs.YtdicgggkdmkklaaGreatDoor
attribute [local irreducible] wpList Code.wp Calls dh fK
open Go.ChangeShapes Go.WideShapes Go.RowKit
end Go.Proofs.YtdicgggkdmkklaaGreatDoor
