/- Steps of a walk: costs, pools, modifications, effects in memory. Conditions: none. -/
import Derived.Test.YtdnnbfbhifelkaaGreatDoorMEMem
import Derived.Test.YtdnnbfbhifelkaaGreatDoorMSIsW
set_option linter.all false
set_option maxRecDepth 100000
set_option maxHeartbeats 16000000
namespace Go.Proofs.YtdnnbfbhifelkaaGreatDoor
open Go.ChangeShapes Go.WideShapes Go.RowKit
instance (r : Co) : Part (Co.cells r) 0 86 (Co.cells r) := .of (n := 7) rfl Tryz.underlying86 rfl (by kernel_rfl)
instance (r v : Co) : Put (Co.cells r) 0 86 (.agg (Co.cells v)) (Co.cells v) := .of rfl rfl (by kernel_rfl) rfl
instance : Zer 86 (Co.cells zeroCo) := ⟨fun _ => by kernel_rfl⟩
instance (r : Co) (x : Int) : Put (Co.cells r) 0 3 (.int .i64 x) (Co.cells ⟨x, r.x, r.c0, r.c1, r.c2, r.c3, r.c4⟩) := .of rfl rfl (by kernel_rfl) rfl
instance (r : Co) (x : Int) : Put (Co.cells r) 1 3 (.int .i64 x) (Co.cells ⟨r.g, x, r.c0, r.c1, r.c2, r.c3, r.c4⟩) := .of rfl rfl (by kernel_rfl) rfl
instance (r : Co) (x : Int) : Put (Co.cells r) 2 3 (.int .i64 x) (Co.cells ⟨r.g, r.x, x, r.c1, r.c2, r.c3, r.c4⟩) := .of rfl rfl (by kernel_rfl) rfl
instance (r : Co) (x : Int) : Put (Co.cells r) 3 3 (.int .i64 x) (Co.cells ⟨r.g, r.x, r.c0, x, r.c2, r.c3, r.c4⟩) := .of rfl rfl (by kernel_rfl) rfl
instance (r : Co) (x : Int) : Put (Co.cells r) 4 3 (.int .i64 x) (Co.cells ⟨r.g, r.x, r.c0, r.c1, x, r.c3, r.c4⟩) := .of rfl rfl (by kernel_rfl) rfl
instance (r : Co) (x : Int) : Put (Co.cells r) 5 3 (.int .i64 x) (Co.cells ⟨r.g, r.x, r.c0, r.c1, r.c2, x, r.c4⟩) := .of rfl rfl (by kernel_rfl) rfl
instance (r : Co) (x : Int) : Put (Co.cells r) 6 3 (.int .i64 x) (Co.cells ⟨r.g, r.x, r.c0, r.c1, r.c2, r.c3, x⟩) := .of rfl rfl (by kernel_rfl) rfl
instance : Bld 86 [] (.agg (Co.cells zeroCo)) := ⟨fun _ => by kernel_rfl⟩
instance (x0 : Int) : Bld 86 [(0, .int .i64 x0)] (.agg (Co.cells ⟨x0, 0, 0, 0, 0, 0, 0⟩)) := ⟨fun _ => by kernel_rfl⟩
instance (r : Po) : Part (Po.cells r) 0 31 (Po.cells r) := .of (n := 6) rfl Tryz.underlying31 rfl (by kernel_rfl)
instance (r v : Po) : Put (Po.cells r) 0 31 (.agg (Po.cells v)) (Po.cells v) := .of rfl rfl (by kernel_rfl) rfl
instance : Zer 31 (Po.cells zeroPo) := ⟨fun _ => by kernel_rfl⟩
instance : Bld 31 [] (.agg (Po.cells zeroPo)) := ⟨fun _ => by kernel_rfl⟩
instance (x0 : Int) : Bld 31 [(0, .int .i64 x0)] (.agg (Po.cells ⟨x0, 0, 0, 0, 0, 0⟩)) := ⟨fun _ => by kernel_rfl⟩
instance (r : Em) : Part (Em.cells r) 0 34 (Em.cells r) := .of (n := 64) rfl Tryz.underlying34 rfl (by kernel_rfl)
instance (r v : Em) : Put (Em.cells r) 0 34 (.agg (Em.cells v)) (Em.cells v) := .of rfl rfl (by kernel_rfl) rfl
instance : Zer 34 (Em.cells zeroEm) := ⟨fun _ => by kernel_rfl⟩
instance (r : Em) (x : Int) : Put (Em.cells r) 0 3 (.int .i64 x) (Em.cells ⟨x, r.ref, r.amt, r.ctr, r.zone, r.card, r.flt, r.pool, r.mods⟩) := .of rfl rfl (by kernel_rfl) rfl
instance (r : Em) : Part (Em.cells r) 1 27 (Rf.cells r.ref) := .of (n := 18) rfl Tryz.underlying27 rfl (by kernel_rfl)
instance (r : Em) (x : Rf) : Put (Em.cells r) 1 27 (.agg (Rf.cells x)) (Em.cells ⟨r.op, x, r.amt, r.ctr, r.zone, r.card, r.flt, r.pool, r.mods⟩) := .of rfl rfl (by kernel_rfl) rfl
instance (r : Em) : Part (Em.cells r) 19 29 (Am.cells r.amt) := .of (n := 19) rfl Tryz.underlying29 rfl (by kernel_rfl)
instance (r : Em) (x : Am) : Put (Em.cells r) 19 29 (.agg (Am.cells x)) (Em.cells ⟨r.op, r.ref, x, r.ctr, r.zone, r.card, r.flt, r.pool, r.mods⟩) := .of rfl rfl (by kernel_rfl) rfl
instance (r : Em) (x : Int) : Put (Em.cells r) 38 3 (.int .i64 x) (Em.cells ⟨r.op, r.ref, r.amt, x, r.zone, r.card, r.flt, r.pool, r.mods⟩) := .of rfl rfl (by kernel_rfl) rfl
instance (r : Em) (x : Int) : Put (Em.cells r) 39 3 (.int .i64 x) (Em.cells ⟨r.op, r.ref, r.amt, r.ctr, x, r.card, r.flt, r.pool, r.mods⟩) := .of rfl rfl (by kernel_rfl) rfl
instance (r : Em) (x : ByteArray) : Put (Em.cells r) 40 9 (.string x) (Em.cells ⟨r.op, r.ref, r.amt, r.ctr, r.zone, x, r.flt, r.pool, r.mods⟩) := .of rfl rfl (by kernel_rfl) rfl
instance (r : Em) : Part (Em.cells r) 41 25 (Flt.cells r.flt) := .of (n := 16) rfl Tryz.underlying25 rfl (by kernel_rfl)
instance (r : Em) (x : Flt) : Put (Em.cells r) 41 25 (.agg (Flt.cells x)) (Em.cells ⟨r.op, r.ref, r.amt, r.ctr, r.zone, r.card, x, r.pool, r.mods⟩) := .of rfl rfl (by kernel_rfl) rfl
instance (r : Em) : Part (Em.cells r) 57 31 (Po.cells r.pool) := .of (n := 6) rfl Tryz.underlying31 rfl (by kernel_rfl)
instance (r : Em) (x : Po) : Put (Em.cells r) 57 31 (.agg (Po.cells x)) (Em.cells ⟨r.op, r.ref, r.amt, r.ctr, r.zone, r.card, r.flt, x, r.mods⟩) := .of rfl rfl (by kernel_rfl) rfl
instance (r : Em) (x : Sl) : Put (Em.cells r) 63 32 (.slice x.a x.n x.c) (Em.cells ⟨r.op, r.ref, r.amt, r.ctr, r.zone, r.card, r.flt, r.pool, x⟩) := .of rfl rfl (by kernel_rfl) rfl
instance : Bld 34 [] (.agg (Em.cells zeroEm)) := ⟨fun _ => by kernel_rfl⟩
instance (r q : Po) : EqC 31 (Po.cells r) (Po.cells q) (poEq r q) := ⟨eq_po r q⟩
instance (r q : Co) : EqC 86 (Co.cells r) (Co.cells q) (coEq r q) := ⟨eq_co r q⟩
end Go.Proofs.YtdnnbfbhifelkaaGreatDoor
