/- Steps of a walk: costs, pools, modifications, effects in memory. Conditions: none. -/
import Derived.Test.YtdnnkgkondkhfaaGreatDoorMEMem
import Derived.Test.YtdnnkgkondkhfaaGreatDoorMSIsW
set_option linter.all false
set_option maxRecDepth 100000
set_option maxHeartbeats 16000000
namespace Go.Proofs.YtdnnkgkondkhfaaGreatDoor
open Go.ChangeShapes Go.WideShapes Go.RowKit
instance (r:Co):Part (Co.cells r) 0 50 (Co.cells r):= .of (n:=7) rfl Tryz.underlying50 rfl (by kernel_rfl)
instance (r v:Co):Put (Co.cells r) 0 50 (.agg (Co.cells v)) (Co.cells v):= .of rfl rfl (by kernel_rfl) rfl
instance:VX 50 (Co.cells dQ):=⟨fun _=>by kernel_rfl⟩
instance (r:Co) (x:Int):Put (Co.cells r) 0 3 (.int .i64 x) (Co.cells ⟨x,r.x,r.c0,r.c1,r.c2,r.c3,r.c4⟩):= .of rfl rfl (by kernel_rfl) rfl
instance (r:Co) (x:Int):Put (Co.cells r) 1 3 (.int .i64 x) (Co.cells ⟨r.g,x,r.c0,r.c1,r.c2,r.c3,r.c4⟩):= .of rfl rfl (by kernel_rfl) rfl
instance (r:Co) (x:Int):Put (Co.cells r) 2 3 (.int .i64 x) (Co.cells ⟨r.g,r.x,x,r.c1,r.c2,r.c3,r.c4⟩):= .of rfl rfl (by kernel_rfl) rfl
instance (r:Co) (x:Int):Put (Co.cells r) 3 3 (.int .i64 x) (Co.cells ⟨r.g,r.x,r.c0,x,r.c2,r.c3,r.c4⟩):= .of rfl rfl (by kernel_rfl) rfl
instance (r:Co) (x:Int):Put (Co.cells r) 4 3 (.int .i64 x) (Co.cells ⟨r.g,r.x,r.c0,r.c1,x,r.c3,r.c4⟩):= .of rfl rfl (by kernel_rfl) rfl
instance (r:Co) (x:Int):Put (Co.cells r) 5 3 (.int .i64 x) (Co.cells ⟨r.g,r.x,r.c0,r.c1,r.c2,x,r.c4⟩):= .of rfl rfl (by kernel_rfl) rfl
instance (r:Co) (x:Int):Put (Co.cells r) 6 3 (.int .i64 x) (Co.cells ⟨r.g,r.x,r.c0,r.c1,r.c2,r.c3,x⟩):= .of rfl rfl (by kernel_rfl) rfl
instance:Ae 50 [] (.agg (Co.cells dQ)):=⟨fun _=>by kernel_rfl⟩
instance (x0:Int):Ae 50 [(0, .int .i64 x0)] (.agg (Co.cells ⟨x0,0,0,0,0,0,0⟩)):=⟨fun _=>by kernel_rfl⟩
instance (r:Po):Part (Po.cells r) 0 32 (Po.cells r):= .of (n:=6) rfl Tryz.underlying32 rfl (by kernel_rfl)
instance (r v:Po):Put (Po.cells r) 0 32 (.agg (Po.cells v)) (Po.cells v):= .of rfl rfl (by kernel_rfl) rfl
instance:VX 32 (Po.cells bn):=⟨fun _=>by kernel_rfl⟩
instance:Ae 32 [] (.agg (Po.cells bn)):=⟨fun _=>by kernel_rfl⟩
instance (x0:Int):Ae 32 [(0, .int .i64 x0)] (.agg (Po.cells ⟨x0,0,0,0,0,0⟩)):=⟨fun _=>by kernel_rfl⟩
instance (r:Em):Part (Em.cells r) 0 35 (Em.cells r):= .of (n:=64) rfl Tryz.underlying35 rfl (by kernel_rfl)
instance (r v:Em):Put (Em.cells r) 0 35 (.agg (Em.cells v)) (Em.cells v):= .of rfl rfl (by kernel_rfl) rfl
instance:VX 35 (Em.cells kC):=⟨fun _=>by kernel_rfl⟩
instance (r:Em) (x:Int):Put (Em.cells r) 0 3 (.int .i64 x) (Em.cells ⟨x,r.ref,r.amt,r.ctr,r.zone,r.card,r.flt,r.pool,r.mods⟩):= .of rfl rfl (by kernel_rfl) rfl
instance (r:Em):Part (Em.cells r) 1 28 (Rf.cells r.ref):= .of (n:=18) rfl Tryz.underlying28 rfl (by kernel_rfl)
instance (r:Em) (x:Rf):Put (Em.cells r) 1 28 (.agg (Rf.cells x)) (Em.cells ⟨r.op,x,r.amt,r.ctr,r.zone,r.card,r.flt,r.pool,r.mods⟩):= .of rfl rfl (by kernel_rfl) rfl
instance (r:Em):Part (Em.cells r) 19 30 (Am.cells r.amt):= .of (n:=19) rfl Tryz.underlying30 rfl (by kernel_rfl)
instance (r:Em) (x:Am):Put (Em.cells r) 19 30 (.agg (Am.cells x)) (Em.cells ⟨r.op,r.ref,x,r.ctr,r.zone,r.card,r.flt,r.pool,r.mods⟩):= .of rfl rfl (by kernel_rfl) rfl
instance (r:Em) (x:Int):Put (Em.cells r) 38 3 (.int .i64 x) (Em.cells ⟨r.op,r.ref,r.amt,x,r.zone,r.card,r.flt,r.pool,r.mods⟩):= .of rfl rfl (by kernel_rfl) rfl
instance (r:Em) (x:Int):Put (Em.cells r) 39 3 (.int .i64 x) (Em.cells ⟨r.op,r.ref,r.amt,r.ctr,x,r.card,r.flt,r.pool,r.mods⟩):= .of rfl rfl (by kernel_rfl) rfl
instance (r:Em) (x:ByteArray):Put (Em.cells r) 40 9 (.string x) (Em.cells ⟨r.op,r.ref,r.amt,r.ctr,r.zone,x,r.flt,r.pool,r.mods⟩):= .of rfl rfl (by kernel_rfl) rfl
instance (r:Em):Part (Em.cells r) 41 26 (aH.cells r.flt):= .of (n:=16) rfl Tryz.underlying26 rfl (by kernel_rfl)
instance (r:Em) (x:aH):Put (Em.cells r) 41 26 (.agg (aH.cells x)) (Em.cells ⟨r.op,r.ref,r.amt,r.ctr,r.zone,r.card,x,r.pool,r.mods⟩):= .of rfl rfl (by kernel_rfl) rfl
instance (r:Em):Part (Em.cells r) 57 32 (Po.cells r.pool):= .of (n:=6) rfl Tryz.underlying32 rfl (by kernel_rfl)
instance (r:Em) (x:Po):Put (Em.cells r) 57 32 (.agg (Po.cells x)) (Em.cells ⟨r.op,r.ref,r.amt,r.ctr,r.zone,r.card,r.flt,x,r.mods⟩):= .of rfl rfl (by kernel_rfl) rfl
instance (r:Em) (x:Sl):Put (Em.cells r) 63 33 (.slice x.a x.n x.c) (Em.cells ⟨r.op,r.ref,r.amt,r.ctr,r.zone,r.card,r.flt,r.pool,x⟩):= .of rfl rfl (by kernel_rfl) rfl
instance:Ae 35 [] (.agg (Em.cells kC)):=⟨fun _=>by kernel_rfl⟩
instance (r q:Po):Ob 32 (Po.cells r) (Po.cells q) (uV r q):=⟨OV r q⟩
instance (r q:Co):Ob 50 (Co.cells r) (Co.cells q) (uU r q):=⟨VF r q⟩
end Go.Proofs.YtdnnkgkondkhfaaGreatDoor
