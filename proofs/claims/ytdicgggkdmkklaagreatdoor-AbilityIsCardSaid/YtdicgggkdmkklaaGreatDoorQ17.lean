/- Walks: package ref: Is of any reference. Conditions: Laid. Steps of a walk: costs, pools, modifications, effects in memory. Conditions: none. Walks: package ref: Text. Conditions: Laid. Walks: pack -/
import Derived.Test.YtdicgggkdmkklaaGreatDoorQ9
import Derived.Test.YtdicgggkdmkklaaGreatDoorQ7
import Derived.Test.YtdicgggkdmkklaaGreatDoorMEMem
set_option linter.all false
set_option maxRecDepth 100000
set_option maxHeartbeats 16000000
namespace Go.Proofs.YtdicgggkdmkklaaGreatDoor
open Go.ChangeShapes Go.WideShapes Go.RowKit
abbrev TRf:Nat:=61
instance (r:Rf):Part (Rf.cells r) 0 61 (Rf.cells r):= .of (n:=18) rfl Tryz.underlying61 rfl (by kernel_rfl)
instance (r v:Rf):Put (Rf.cells r) 0 61 (.agg (Rf.cells v)) (Rf.cells v):= .of rfl rfl (by kernel_rfl) rfl
instance:VX 61 (Rf.cells dY):=⟨fun _=>by kernel_rfl⟩
instance (r:Rf) (x:Int):Put (Rf.cells r) 0 3 (.int .i64 x) (Rf.cells ⟨x,r.n,r.f⟩):= .of rfl rfl (by kernel_rfl) rfl
instance (r:Rf) (x:Int):Put (Rf.cells r) 1 3 (.int .i64 x) (Rf.cells ⟨r.kind,x,r.f⟩):= .of rfl rfl (by kernel_rfl) rfl
instance (r:Rf):Part (Rf.cells r) 2 25 (aH.cells r.f):= .of (n:=16) rfl Tryz.underlying25 rfl (by kernel_rfl)
instance (r:Rf) (x:aH):Put (Rf.cells r) 2 25 (.agg (aH.cells x)) (Rf.cells ⟨r.kind,r.n,x⟩):= .of rfl rfl (by kernel_rfl) rfl
instance:Ae 61 [] (.agg (Rf.cells dY)):=⟨fun _=>by kernel_rfl⟩
instance (x0:Int):Ae 61 [(0, .int .i64 x0)] (.agg (Rf.cells ⟨x0,0,aaB⟩)):=⟨fun _=>by kernel_rfl⟩
instance (x0:Int) (x1:Int):Ae 61 [(0, .int .i64 x0),(1, .int .i64 x1)] (.agg (Rf.cells ⟨x0,x1,aaB⟩)):=⟨fun _=>by kernel_rfl⟩
instance (x0:Int) (x2:aH):Ae 61 [(0, .int .i64 x0),(2, .agg (aH.cells x2))] (.agg (Rf.cells ⟨x0,0,x2⟩)):=⟨fun _=>by kernel_rfl⟩
instance (r q:Rf):Ob TRf (Rf.cells r) (Rf.cells q) (vU r q):=⟨VG r q⟩
attribute [local irreducible] wpList Code.wp Calls dh fK
attribute [local simp] lD
theorem agH (kind n specs:Int) (f:aH) (w0:World) (hl:Laid w0):
 Calls Tryz.prog 158 #[.agg (Rf.cells ⟨kind,n,f⟩), .int .i64 specs] w0 fun e w'=>e= .returned (.bool (iY ⟨kind,n,f⟩ specs))∧Below w0.heap.size w0 w':=by
 have hS:=St.start hl fun _ _ h hb=>h.below hb
 go_in
 go_wp2_with (first|(have hq:=iE;subst hq)|refine s0 ?_|(refine s1 ?_;clear hS;intro w hS)|(refine s2 ?_;clear hS;intro g w hS)|(refine s3 ?_ ?_<;>intro hb<;>(try subst hb)<;>(try (exfalso;first|omega|exact Bool.noConfusion hb))))
 all_goals go_ret
 all_goals refine ⟨aX ?_,hS.below⟩
 all_goals clear hS
 all_goals (simp_all [iY,xw,Pn,Int.le_min]<;>exact fin)
instance {L:World→Prop} [Sub L Laid] (r:Rf) (n:Int):mG 158 #[.agg (Rf.cells r), .int .i64 n] L (.bool (iY r n)):=⟨fun w hl=>agH r.kind r.n n r.f w (Sub.sub w hl)⟩
end Go.Proofs.YtdicgggkdmkklaaGreatDoor
namespace Go.Proofs.YtdicgggkdmkklaaGreatDoor
open Go.ChangeShapes Go.WideShapes Go.RowKit
instance (r:Co):Part (Co.cells r) 0 29 (Co.cells r):= .of (n:=7) rfl Tryz.underlying29 rfl (by kernel_rfl)
instance (r v:Co):Put (Co.cells r) 0 29 (.agg (Co.cells v)) (Co.cells v):= .of rfl rfl (by kernel_rfl) rfl
instance:VX 29 (Co.cells dQ):=⟨fun _=>by kernel_rfl⟩
instance (r:Co) (x:Int):Put (Co.cells r) 0 3 (.int .i64 x) (Co.cells ⟨x,r.x,r.c0,r.c1,r.c2,r.c3,r.c4⟩):= .of rfl rfl (by kernel_rfl) rfl
instance (r:Co) (x:Int):Put (Co.cells r) 1 3 (.int .i64 x) (Co.cells ⟨r.g,x,r.c0,r.c1,r.c2,r.c3,r.c4⟩):= .of rfl rfl (by kernel_rfl) rfl
instance (r:Co) (x:Int):Put (Co.cells r) 2 3 (.int .i64 x) (Co.cells ⟨r.g,r.x,x,r.c1,r.c2,r.c3,r.c4⟩):= .of rfl rfl (by kernel_rfl) rfl
instance (r:Co) (x:Int):Put (Co.cells r) 3 3 (.int .i64 x) (Co.cells ⟨r.g,r.x,r.c0,x,r.c2,r.c3,r.c4⟩):= .of rfl rfl (by kernel_rfl) rfl
instance (r:Co) (x:Int):Put (Co.cells r) 4 3 (.int .i64 x) (Co.cells ⟨r.g,r.x,r.c0,r.c1,x,r.c3,r.c4⟩):= .of rfl rfl (by kernel_rfl) rfl
instance (r:Co) (x:Int):Put (Co.cells r) 5 3 (.int .i64 x) (Co.cells ⟨r.g,r.x,r.c0,r.c1,r.c2,x,r.c4⟩):= .of rfl rfl (by kernel_rfl) rfl
instance (r:Co) (x:Int):Put (Co.cells r) 6 3 (.int .i64 x) (Co.cells ⟨r.g,r.x,r.c0,r.c1,r.c2,r.c3,x⟩):= .of rfl rfl (by kernel_rfl) rfl
instance:Ae 29 [] (.agg (Co.cells dQ)):=⟨fun _=>by kernel_rfl⟩
instance (x0:Int):Ae 29 [(0, .int .i64 x0)] (.agg (Co.cells ⟨x0,0,0,0,0,0,0⟩)):=⟨fun _=>by kernel_rfl⟩
instance (r:Po):Part (Po.cells r) 0 65 (Po.cells r):= .of (n:=6) rfl Tryz.underlying65 rfl (by kernel_rfl)
instance (r v:Po):Put (Po.cells r) 0 65 (.agg (Po.cells v)) (Po.cells v):= .of rfl rfl (by kernel_rfl) rfl
instance:VX 65 (Po.cells bn):=⟨fun _=>by kernel_rfl⟩
instance:Ae 65 [] (.agg (Po.cells bn)):=⟨fun _=>by kernel_rfl⟩
instance (x0:Int):Ae 65 [(0, .int .i64 x0)] (.agg (Po.cells ⟨x0,0,0,0,0,0⟩)):=⟨fun _=>by kernel_rfl⟩
instance (r:Em):Part (Em.cells r) 0 67 (Em.cells r):= .of (n:=64) rfl Tryz.underlying67 rfl (by kernel_rfl)
instance (r v:Em):Put (Em.cells r) 0 67 (.agg (Em.cells v)) (Em.cells v):= .of rfl rfl (by kernel_rfl) rfl
instance:VX 67 (Em.cells kC):=⟨fun _=>by kernel_rfl⟩
instance (r:Em) (x:Int):Put (Em.cells r) 0 3 (.int .i64 x) (Em.cells ⟨x,r.ref,r.amt,r.ctr,r.zone,r.card,r.flt,r.pool,r.mods⟩):= .of rfl rfl (by kernel_rfl) rfl
instance (r:Em):Part (Em.cells r) 1 61 (Rf.cells r.ref):= .of (n:=18) rfl Tryz.underlying61 rfl (by kernel_rfl)
instance (r:Em) (x:Rf):Put (Em.cells r) 1 61 (.agg (Rf.cells x)) (Em.cells ⟨r.op,x,r.amt,r.ctr,r.zone,r.card,r.flt,r.pool,r.mods⟩):= .of rfl rfl (by kernel_rfl) rfl
instance (r:Em):Part (Em.cells r) 19 63 (Am.cells r.amt):= .of (n:=19) rfl Tryz.underlying63 rfl (by kernel_rfl)
instance (r:Em) (x:Am):Put (Em.cells r) 19 63 (.agg (Am.cells x)) (Em.cells ⟨r.op,r.ref,x,r.ctr,r.zone,r.card,r.flt,r.pool,r.mods⟩):= .of rfl rfl (by kernel_rfl) rfl
instance (r:Em) (x:Int):Put (Em.cells r) 38 3 (.int .i64 x) (Em.cells ⟨r.op,r.ref,r.amt,x,r.zone,r.card,r.flt,r.pool,r.mods⟩):= .of rfl rfl (by kernel_rfl) rfl
instance (r:Em) (x:Int):Put (Em.cells r) 39 3 (.int .i64 x) (Em.cells ⟨r.op,r.ref,r.amt,r.ctr,x,r.card,r.flt,r.pool,r.mods⟩):= .of rfl rfl (by kernel_rfl) rfl
instance (r:Em) (x:ByteArray):Put (Em.cells r) 40 9 (.string x) (Em.cells ⟨r.op,r.ref,r.amt,r.ctr,r.zone,x,r.flt,r.pool,r.mods⟩):= .of rfl rfl (by kernel_rfl) rfl
instance (r:Em):Part (Em.cells r) 41 25 (aH.cells r.flt):= .of (n:=16) rfl Tryz.underlying25 rfl (by kernel_rfl)
instance (r:Em) (x:aH):Put (Em.cells r) 41 25 (.agg (aH.cells x)) (Em.cells ⟨r.op,r.ref,r.amt,r.ctr,r.zone,r.card,x,r.pool,r.mods⟩):= .of rfl rfl (by kernel_rfl) rfl
instance (r:Em):Part (Em.cells r) 57 65 (Po.cells r.pool):= .of (n:=6) rfl Tryz.underlying65 rfl (by kernel_rfl)
instance (r:Em) (x:Po):Put (Em.cells r) 57 65 (.agg (Po.cells x)) (Em.cells ⟨r.op,r.ref,r.amt,r.ctr,r.zone,r.card,r.flt,x,r.mods⟩):= .of rfl rfl (by kernel_rfl) rfl
instance (r:Em) (x:Sl):Put (Em.cells r) 63 26 (.slice x.a x.n x.c) (Em.cells ⟨r.op,r.ref,r.amt,r.ctr,r.zone,r.card,r.flt,r.pool,x⟩):= .of rfl rfl (by kernel_rfl) rfl
instance:Ae 67 [] (.agg (Em.cells kC)):=⟨fun _=>by kernel_rfl⟩
instance (r q:Po):Ob 65 (Po.cells r) (Po.cells q) (uV r q):=⟨OV r q⟩
instance (r q:Co):Ob 29 (Co.cells r) (Co.cells q) (uU r q):=⟨VF r q⟩
end Go.Proofs.YtdicgggkdmkklaaGreatDoor
namespace Go.Proofs.YtdicgggkdmkklaaGreatDoor
attribute [local irreducible] wpList Code.wp Calls dh fK
open Go.ChangeShapes Go.WideShapes Go.RowKit
attribute [local simp] lD
theorem aps (r:Rf) (specs:Int) (R:Bool) (HR:Hid (iY r specs=R)) (w:World) (hl:Laid w):Calls Tryz.prog 158 #[.agg r.cells, .int .i64 specs] w fun e w'=>e= .returned (.bool R)∧Below w.heap.size w w':=HR.out ▸ agH r.kind r.n specs r.f w hl
theorem apo {r:Rf} (h:(!iY r 4)=false):0≤r.n∧r.n≤4:=by
 rcases sN (by simpa using h) with rfl|rfl|rfl|rfl|rfl|(rfl|rfl|rfl|rfl)|(rfl|rfl|rfl|rfl)|⟨f,_,rfl⟩<;>simp
theorem ai9 (kind n:Int) (f:aH) (w0:World) (hl:Laid w0):Calls Tryz.prog 185 #[.agg (Rf.cells ⟨kind,n,f⟩)] w0 fun e w'=>e= .returned (.string (B (dI ⟨kind,n,f⟩)))∧Below w0.heap.size w0 w':=by
 have hS:=St.start hl fun _ _ h hb=>h.below hb
 go_in
 go_wp2_with (first|(have hq:=iE;subst hq)|(go_at_call 63;have hn:=apo ‹(!iY _ _)=false›;simp only at hn;have:Len (Lib.itoa n) 21:=⟨Lib.itoa_length_le n (by omega) (by omega)⟩;refine c_call (fun hl=>nH _ (by omega) (by omega) _ hl) hS ?_;clear hS;intro w hS)|refine s0 ?_|(refine s1 ?_;clear hS;intro w hS)|(refine s2 ?_;clear hS;intro g w hS))
 all_goals go_ret
 all_goals refine ⟨dL ?_,hS.below⟩
 all_goals clear hS
 all_goals first|(simp_all [dI];done)|(simp_all [dI,refBody,xw,eF,wd,qQ];done)|(simp_all [dI,refBody,xw,Pn,iY,wd,qQ];done)
theorem Yz (r:Rf) (w:World) (hl:Laid w):Calls Tryz.prog 185 #[.agg r.cells] w fun e w'=>e= .returned (.string (B (dI r)))∧Below w.heap.size w w':=ai9 r.kind r.n r.f w hl
instance {L:World→Prop} [Sub L Laid] (r:Rf):mG 185 #[.agg (Rf.cells r)] L (.string (B (dI r))):=⟨fun w hl=>Yz r w (Sub.sub w hl)⟩
end Go.Proofs.YtdicgggkdmkklaaGreatDoor
namespace Go.Proofs.YtdicgggkdmkklaaGreatDoor
attribute [local irreducible] wpList Code.wp Calls dh fK
open Go.ChangeShapes Go.WideShapes Go.RowKit
attribute [local simp] lD
attribute [local go_sem] KX KW
def zV (o:Option Rf):Value:=match o with|some r=> .tuple #[.agg r.cells, .int .i64 0]|none=> .tuple #[.agg dY.cells, .int .i64 3]
theorem ac3 (s p:Str) (k:Int) [jr s] (w0:World) (hl:Laid w0):Calls Tryz.prog 331 #[.string (B s), .string (B p), .int .i64 k] w0 fun e w'=>e= .returned (.tuple #[.agg (Rf.cells ⟨k,(numOf (Lib.trimPrefix s p)).getD 0,aaB⟩), .bool (Lib.hasPrefix s p&&(numOf (Lib.trimPrefix s p)).isSome)])∧Below w0.heap.size w0 w':=by
 have hS:=St.start hl fun _ _ h hb=>h.below hb
 go_in
 go_wp2_with (first|refine s0 ?_|(refine s1 ?_;clear hS;intro w hS)|(refine s2 ?_;clear hS;intro g w hS))
 all_goals (refine res2 hS ?_;refine ⟨ret_val ?_,hS.below⟩;simp_all)
instance {L:World→Prop} [Sub L Laid] {p:ByteArray} {l:Str} [h:Lit p l] (s:Str) (k:Int) [jr s]:mG 331 #[.string (B s), .string p, .int .i64 k] L (.tuple #[.agg (Rf.cells ⟨k,(numOf (Lib.trimPrefix s l)).getD 0,aaB⟩), .bool (Lib.hasPrefix s l&&(numOf (Lib.trimPrefix s l)).isSome)]):=⟨fun w hl=>h.eq ▸ ac3 s l k w (Sub.sub w hl)⟩
theorem apn (s:Str) [jr s] (w0:World) (hl:Laid w0):Calls Tryz.prog 317 #[.string (B s)] w0 fun e w'=>e= .returned (.agg (Rf.cells (AL s)))∧Below w0.heap.size w0 w':=by
 have hS:=St.start hl fun _ _ h hb=>h.below hb
 go_in
 go_wp2_with (first|(have hq:=sE;subst hq)|refine s0 ?_|(refine s1 ?_;clear hS;intro w hS)|(refine s2 ?_;clear hS;intro g w hS))
 all_goals (refine res1 hS ?_;refine ⟨kW ?_,hS.below⟩;clear hS)
 all_goals first|rfl|(cases hA:numOf (Lib.trimPrefix s [116,97,114,103,101,116])<;>cases hB:numOf (Lib.trimPrefix s [111,119,110,101,114])<;>cases hC:bW (Lib.trimSuffix (Lib.trimPrefix s [101,97,99,104,40]) [41])<;>simp_all [AL,Fe,CX,wd,qQ,SA,XL,eF])
instance {L:World→Prop} [Sub L Laid] (s:Str) [jr s]:mG 317 #[.string (B s)] L (.agg (Rf.cells (AL s))):=⟨fun w hl=>apn s w (Sub.sub w hl)⟩
theorem Yy (o:Option Rf):zV o= .tuple #[.agg (Rf.cells (o.getD dY)), .int .i64 (BN o.isSome)]:=by cases o<;>rfl
theorem Uz (s:Str) [jr s] (w0:World) (hl:Laid w0):Calls Tryz.prog 296 #[.string (B s)] w0 fun e w'=>e= .returned (zV (dX s))∧Below w0.heap.size w0 w':=by
 have hS:=St.start hl fun _ _ h hb=>h.below hb
 go_in
 go_wp2_with (first|refine s0 ?_|(refine s1 ?_;clear hS;intro w hS)|(refine s2 ?_;clear hS;intro g w hS)|(refine s3 ?_ ?_<;>intro hb<;>(try subst hb)<;>(try (exfalso;first|omega|exact Bool.noConfusion hb))))
 all_goals refine res2 hS ?_
 all_goals refine ⟨ret_val ?_,hS.below⟩
 all_goals clear hS
 all_goals simp_all [dX,zV]
instance {L:World→Prop} [Sub L Laid] (s:Str) [jr s]:mG 296 #[.string (B s)] L (.tuple #[.agg (Rf.cells ((dX s).getD dY)), .int .i64 (BN (dX s).isSome)]):=⟨fun w hl=>by rw [←Yy];exact Uz s w (Sub.sub w hl)⟩
theorem aah (s:ByteArray) (w:World) (hl:Laid w) (hs:s.size<100000000):Calls Tryz.prog 296 #[.string s] w fun e w'=>e= .returned (zV (dX (L s)))∧Below w.heap.size w w':=by
 have:jr (L s):=⟨by rw [dN];exact hs⟩
 have h:=Uz (L s) w hl
 rwa [qV] at h
theorem agI (r:Rf) (T:ByteArray) (hT:Hid (B (dI r)=T)) (w:World) (hl:Laid w):
 Calls Tryz.prog 185 #[.agg r.cells] w fun e w'=>e= .returned (.string T)∧Below w.heap.size w w':=
 (Yz r w hl).mono fun e w' h=>⟨by rw [h.1,hT.out],h.2⟩
end Go.Proofs.YtdicgggkdmkklaaGreatDoor
