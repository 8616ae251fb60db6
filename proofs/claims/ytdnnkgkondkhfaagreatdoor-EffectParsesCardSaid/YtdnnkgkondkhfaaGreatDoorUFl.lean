/- Steps of a walk: filters in rows; lists of texts, their lengths; facts of the context for instances. Conditions: none. -/
import Derived.Test.YtdnnkgkondkhfaaGreatDoorUL
import Derived.Test.YtdnnkgkondkhfaaGreatDoorQ2
set_option linter.all false
set_option maxRecDepth 100000
set_option maxHeartbeats 16000000
namespace Go.Proofs.YtdnnkgkondkhfaaGreatDoor
open Go.ChangeShapes Go.WideShapes Go.RowKit
instance (r:aH):Part (aH.cells r) 0 26 (aH.cells r):= .of (n:=16) rfl Tryz.underlying26 rfl (by kernel_rfl)
instance (r v:aH):Put (aH.cells r) 0 26 (.agg (aH.cells v)) (aH.cells v):= .of rfl rfl (by kernel_rfl) rfl
instance:Xb 26 (aH.cells zeroF):=⟨fun _=>by kernel_rfl⟩
instance:AL 26 [] (.agg (aH.cells zeroF)):=⟨fun _=>by kernel_rfl⟩
instance (f g:aH):OT TF (aH.cells f) (aH.cells g) (fK f g):=⟨ap1 f g⟩
class Fc (P:Prop):Prop where
 h:P
class WZ (l:List Str) (n:outParam Nat):Prop where
 le:l.length≤n
instance:WZ [] 0:=⟨Nat.le_refl _⟩
instance {l:List Str} {s:Str} {n:Nat} [h:WZ l n]:WZ (bf l s) (n+1):=⟨by have:=iH l s;have:=h.le;omega⟩
theorem WZ.small {l:List Str} {n:Nat} [h:WZ l n] (hn:Nat.ble n 1000000=true):l.length≤1000000:=Nat.le_trans h.le (Nat.le_of_ble_eq_true hn)
instance {l:List Str} {n k:Nat} [h:aiN l n]:Len (wd l k) n:=inferInstanceAs (Len (l.getD k []) n)
class aiM (b:ByteArray) (l:outParam Str):Prop where
 eq:L b=l
 sz:b.size≤100
instance:aiM ⟨#[112,111,119,101,114]⟩ eP:=⟨rfl,by decide⟩
instance:aiM ⟨#[116,111,117,103,104]⟩ fE:=⟨rfl,by decide⟩
instance:aiM ⟨#[118,97,108,117,101]⟩ fH:=⟨rfl,by decide⟩
end Go.Proofs.YtdnnkgkondkhfaaGreatDoor
