/- Walks: package ref: Text. Conditions: Laid. Walks: package ref: numbered, read, Parse. Conditions: Laid; the text is shorter than 100 million bytes. -/
import Derived.Test.YtdnnkgkondkhfaaGreatDoorMSIsW
set_option linter.all false
set_option maxRecDepth 100000
set_option maxHeartbeats 16000000
namespace Go.Proofs.YtdnnkgkondkhfaaGreatDoor
attribute [local irreducible] wpList Code.wp Calls dh fK
open Go.ChangeShapes Go.WideShapes Go.RowKit
attribute [local simp] lF
theorem arD (r:Rf) (specs:Int) (R:Bool) (HR:Hid (iZ r specs=R)) (w:World) (hl:Laid w):Calls Tryz.prog 187 #[.agg r.cells, .int .i64 specs] w fun e w'=>e= .returned (.bool R)∧Below w.heap.size w w':=HR.out ▸ ahW r.kind r.n specs r.f w hl
theorem arA {r:Rf} (h:(!iZ r 4)=false):0≤r.n∧r.n≤4:=by
 rcases sV (by simpa using h) with rfl|rfl|rfl|rfl|rfl|(rfl|rfl|rfl|rfl)|(rfl|rfl|rfl|rfl)|⟨f,_,rfl⟩<;>simp
theorem akG (kind n:Int) (f:aH) (w0:World) (hl:Laid w0):Calls Tryz.prog 99 #[.agg (Rf.cells ⟨kind,n,f⟩)] w0 fun e w'=>e= .returned (.string (B (dI ⟨kind,n,f⟩)))∧Below w0.heap.size w0 w':=by
 have hS:=St.start hl fun _ _ h hb=>h.below hb
 go_in
 go_wp2_with (first|(have hq:=iE;subst hq)|(go_at_call 81;have hn:=arA ‹(!iZ _ _)=false›;simp only at hn;have:Len (Lib.itoa n) 21:=⟨Lib.itoa_length_le n (by omega) (by omega)⟩;refine c_call (fun hl=>nI _ (by omega) (by omega) _ hl) hS ?_;clear hS;intro w hS)|refine s0 ?_|(refine s1 ?_;clear hS;intro w hS)|(refine s2 ?_;clear hS;intro g w hS))
 all_goals go_ret
 all_goals refine ⟨dL ?_,hS.below⟩
 all_goals clear hS
 all_goals first|(simp_all [dI];done)|(simp_all [dI,refBody,xM,eF,wd,qV];done)|(simp_all [dI,refBody,xM,Qe,iZ,wd,qV];done)
theorem ZF (r:Rf) (w:World) (hl:Laid w):Calls Tryz.prog 99 #[.agg r.cells] w fun e w'=>e= .returned (.string (B (dI r)))∧Below w.heap.size w w':=akG r.kind r.n r.f w hl
instance {L:World→Prop} [Sub L Laid] (r:Rf):mJ 99 #[.agg (Rf.cells r)] L (.string (B (dI r))):=⟨fun w hl=>ZF r w (Sub.sub w hl)⟩
end Go.Proofs.YtdnnkgkondkhfaaGreatDoor
namespace Go.Proofs.YtdnnkgkondkhfaaGreatDoor
attribute [local irreducible] wpList Code.wp Calls dh fK
open Go.ChangeShapes Go.WideShapes Go.RowKit
attribute [local simp] lF
attribute [local go_sem] LP LM
def Ak (o:Option Rf):Value:=match o with|some r=> .tuple #[.agg r.cells, .int .i64 0]|none=> .tuple #[.agg dY.cells, .int .i64 3]
theorem aei (s p:Str) (k:Int) [jw s] (w0:World) (hl:Laid w0):Calls Tryz.prog 255 #[.string (B s), .string (B p), .int .i64 k] w0 fun e w'=>e= .returned (.tuple #[.agg (Rf.cells ⟨k,(numOf (Lib.trimPrefix s p)).getD 0,zeroF⟩), .bool (Lib.hasPrefix s p&&(numOf (Lib.trimPrefix s p)).isSome)])∧Below w0.heap.size w0 w':=by
 have hS:=St.start hl fun _ _ h hb=>h.below hb
 go_in
 go_wp2_with (first|refine s0 ?_|(refine s1 ?_;clear hS;intro w hS)|(refine s2 ?_;clear hS;intro g w hS))
 all_goals (refine res2 hS ?_;refine ⟨ret_val ?_,hS.below⟩;simp_all)
instance {L:World→Prop} [Sub L Laid] {p:ByteArray} {l:Str} [h:Lit p l] (s:Str) (k:Int) [jw s]:mJ 255 #[.string (B s), .string p, .int .i64 k] L (.tuple #[.agg (Rf.cells ⟨k,(numOf (Lib.trimPrefix s l)).getD 0,zeroF⟩), .bool (Lib.hasPrefix s l&&(numOf (Lib.trimPrefix s l)).isSome)]):=⟨fun w hl=>h.eq ▸ aei s l k w (Sub.sub w hl)⟩
theorem arz (s:Str) [jw s] (w0:World) (hl:Laid w0):Calls Tryz.prog 190 #[.string (B s)] w0 fun e w'=>e= .returned (.agg (Rf.cells (Bj s)))∧Below w0.heap.size w0 w':=by
 have hS:=St.start hl fun _ _ h hb=>h.below hb
 go_in
 go_wp2_with (first|(have hq:=sE;subst hq)|refine s0 ?_|(refine s1 ?_;clear hS;intro w hS)|(refine s2 ?_;clear hS;intro g w hS))
 all_goals (refine res1 hS ?_;refine ⟨kX ?_,hS.below⟩;clear hS)
 all_goals first|rfl|(cases hA:numOf (Lib.trimPrefix s [116,97,114,103,101,116])<;>cases hB:numOf (Lib.trimPrefix s [111,119,110,101,114])<;>cases hC:bW (Lib.trimSuffix (Lib.trimPrefix s [101,97,99,104,40]) [41])<;>simp_all [Bj,FX,Dx,wd,qV,TY,YR,eF])
instance {L:World→Prop} [Sub L Laid] (s:Str) [jw s]:mJ 190 #[.string (B s)] L (.agg (Rf.cells (Bj s))):=⟨fun w hl=>arz s w (Sub.sub w hl)⟩
theorem ZE (o:Option Rf):Ak o= .tuple #[.agg (Rf.cells (o.getD dY)), .int .i64 (CO o.isSome)]:=by cases o<;>rfl
theorem Vw (s:Str) [jw s] (w0:World) (hl:Laid w0):Calls Tryz.prog 89 #[.string (B s)] w0 fun e w'=>e= .returned (Ak (dX s))∧Below w0.heap.size w0 w':=by
 have hS:=St.start hl fun _ _ h hb=>h.below hb
 go_in
 go_wp2_with (first|refine s0 ?_|(refine s1 ?_;clear hS;intro w hS)|(refine s2 ?_;clear hS;intro g w hS)|(refine s3 ?_ ?_<;>intro hb<;>(try subst hb)<;>(try (exfalso;first|omega|exact Bool.noConfusion hb))))
 all_goals refine res2 hS ?_
 all_goals refine ⟨ret_val ?_,hS.below⟩
 all_goals clear hS
 all_goals simp_all [dX,Ak]
instance {L:World→Prop} [Sub L Laid] (s:Str) [jw s]:mJ 89 #[.string (B s)] L (.tuple #[.agg (Rf.cells ((dX s).getD dY)), .int .i64 (CO (dX s).isSome)]):=⟨fun w hl=>by rw [←ZE];exact Vw s w (Sub.sub w hl)⟩
theorem abf (s:ByteArray) (w:World) (hl:Laid w) (hs:s.size<100000000):Calls Tryz.prog 89 #[.string s] w fun e w'=>e= .returned (Ak (dX (L s)))∧Below w.heap.size w w':=by
 have:jw (L s):=⟨by rw [dN];exact hs⟩
 have h:=Vw (L s) w hl
 rwa [qY] at h
theorem ahX (r:Rf) (T:ByteArray) (hT:Hid (B (dI r)=T)) (w:World) (hl:Laid w):
 Calls Tryz.prog 99 #[.agg r.cells] w fun e w'=>e= .returned (.string T)∧Below w.heap.size w w':=
 (ZF r w hl).mono fun e w' h=>⟨by rw [h.1,hT.out],h.2⟩
end Go.Proofs.YtdnnkgkondkhfaaGreatDoor
