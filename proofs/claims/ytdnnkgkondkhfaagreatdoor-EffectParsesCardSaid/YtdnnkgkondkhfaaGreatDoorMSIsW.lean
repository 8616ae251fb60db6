/- Walks: package ref: Is of any reference. Conditions: Laid. -/
import Derived.Test.YtdnnkgkondkhfaaGreatDoorQ9
import Derived.Test.YtdnnkgkondkhfaaGreatDoorQ7
set_option linter.all false
set_option maxRecDepth 100000
set_option maxHeartbeats 16000000
namespace Go.Proofs.YtdnnkgkondkhfaaGreatDoor
open Go.ChangeShapes Go.WideShapes Go.RowKit
abbrev TRf:Nat:=28
instance (r:Rf):Part (Rf.cells r) 0 28 (Rf.cells r):= .of (n:=18) rfl Tryz.underlying28 rfl (by kernel_rfl)
instance (r v:Rf):Put (Rf.cells r) 0 28 (.agg (Rf.cells v)) (Rf.cells v):= .of rfl rfl (by kernel_rfl) rfl
instance:VX 28 (Rf.cells dY):=⟨fun _=>by kernel_rfl⟩
instance (r:Rf) (x:Int):Put (Rf.cells r) 0 3 (.int .i64 x) (Rf.cells ⟨x,r.n,r.f⟩):= .of rfl rfl (by kernel_rfl) rfl
instance (r:Rf) (x:Int):Put (Rf.cells r) 1 3 (.int .i64 x) (Rf.cells ⟨r.kind,x,r.f⟩):= .of rfl rfl (by kernel_rfl) rfl
instance (r:Rf):Part (Rf.cells r) 2 26 (aH.cells r.f):= .of (n:=16) rfl Tryz.underlying26 rfl (by kernel_rfl)
instance (r:Rf) (x:aH):Put (Rf.cells r) 2 26 (.agg (aH.cells x)) (Rf.cells ⟨r.kind,r.n,x⟩):= .of rfl rfl (by kernel_rfl) rfl
instance:Ae 28 [] (.agg (Rf.cells dY)):=⟨fun _=>by kernel_rfl⟩
instance (x0:Int):Ae 28 [(0, .int .i64 x0)] (.agg (Rf.cells ⟨x0,0,aaB⟩)):=⟨fun _=>by kernel_rfl⟩
instance (x0:Int) (x1:Int):Ae 28 [(0, .int .i64 x0),(1, .int .i64 x1)] (.agg (Rf.cells ⟨x0,x1,aaB⟩)):=⟨fun _=>by kernel_rfl⟩
instance (x0:Int) (x2:aH):Ae 28 [(0, .int .i64 x0),(2, .agg (aH.cells x2))] (.agg (Rf.cells ⟨x0,0,x2⟩)):=⟨fun _=>by kernel_rfl⟩
instance (r q:Rf):Ob TRf (Rf.cells r) (Rf.cells q) (vU r q):=⟨VG r q⟩
attribute [local irreducible] wpList Code.wp Calls dh fK
attribute [local simp] lD
theorem agH (kind n specs:Int) (f:aH) (w0:World) (hl:Laid w0):
 Calls Tryz.prog 187 #[.agg (Rf.cells ⟨kind,n,f⟩), .int .i64 specs] w0 fun e w'=>e= .returned (.bool (iY ⟨kind,n,f⟩ specs))∧Below w0.heap.size w0 w':=by
 have hS:=St.start hl fun _ _ h hb=>h.below hb
 go_in
 go_wp2_with (first|(have hq:=iE;subst hq)|refine s0 ?_|(refine s1 ?_;clear hS;intro w hS)|(refine s2 ?_;clear hS;intro g w hS)|(refine s3 ?_ ?_<;>intro hb<;>(try subst hb)<;>(try (exfalso;first|omega|exact Bool.noConfusion hb))))
 all_goals go_ret
 all_goals refine ⟨aX ?_,hS.below⟩
 all_goals clear hS
 all_goals (simp_all [iY,xw,Pn,Int.le_min]<;>exact fin)
instance {L:World→Prop} [Sub L Laid] (r:Rf) (n:Int):mG 187 #[.agg (Rf.cells r), .int .i64 n] L (.bool (iY r n)):=⟨fun w hl=>agH r.kind r.n n r.f w (Sub.sub w hl)⟩
end Go.Proofs.YtdnnkgkondkhfaaGreatDoor
