/- Walks: package ref: Text. Conditions: Laid. Walks: package ref: numbered, read, Parse. Conditions: Laid; the text is shorter than 100 million bytes. -/
import Derived.Test.YtdnnkgkondkhfaaGreatDoorMSIsW
set_option linter.all false
set_option maxRecDepth 100000
set_option maxHeartbeats 16000000
namespace Go.Proofs.YtdnnkgkondkhfaaGreatDoor
attribute [local irreducible] wpList Code.wp Calls dh fK
open Go.ChangeShapes Go.WideShapes Go.RowKit
attribute [local simp] lD
theorem aps (r:Rf) (specs:Int) (R:Bool) (HR:Hid (iY r specs=R)) (w:World) (hl:Laid w):Calls Tryz.prog 187 #[.agg r.cells, .int .i64 specs] w fun e w'=>e= .returned (.bool R)∧Below w.heap.size w w':=HR.out ▸ agH r.kind r.n specs r.f w hl
theorem apo {r:Rf} (h:(!iY r 4)=false):0≤r.n∧r.n≤4:=by
 rcases sN (by simpa using h) with rfl|rfl|rfl|rfl|rfl|(rfl|rfl|rfl|rfl)|(rfl|rfl|rfl|rfl)|⟨f,_,rfl⟩<;>simp
theorem ai9 (kind n:Int) (f:aH) (w0:World) (hl:Laid w0):Calls Tryz.prog 99 #[.agg (Rf.cells ⟨kind,n,f⟩)] w0 fun e w'=>e= .returned (.string (B (dI ⟨kind,n,f⟩)))∧Below w0.heap.size w0 w':=by
 have hS:=St.start hl fun _ _ h hb=>h.below hb
 go_in
 go_wp2_with (first|(have hq:=iE;subst hq)|(go_at_call 81;have hn:=apo ‹(!iY _ _)=false›;simp only at hn;have:Len (Lib.itoa n) 21:=⟨Lib.itoa_length_le n (by omega) (by omega)⟩;refine c_call (fun hl=>nH _ (by omega) (by omega) _ hl) hS ?_;clear hS;intro w hS)|refine s0 ?_|(refine s1 ?_;clear hS;intro w hS)|(refine s2 ?_;clear hS;intro g w hS))
 all_goals go_ret
 all_goals refine ⟨dL ?_,hS.below⟩
 all_goals clear hS
 all_goals first|(simp_all [dI];done)|(simp_all [dI,refBody,xw,eF,wd,qQ];done)|(simp_all [dI,refBody,xw,Pn,iY,wd,qQ];done)
theorem Yz (r:Rf) (w:World) (hl:Laid w):Calls Tryz.prog 99 #[.agg r.cells] w fun e w'=>e= .returned (.string (B (dI r)))∧Below w.heap.size w w':=ai9 r.kind r.n r.f w hl
instance {L:World→Prop} [Sub L Laid] (r:Rf):mG 99 #[.agg (Rf.cells r)] L (.string (B (dI r))):=⟨fun w hl=>Yz r w (Sub.sub w hl)⟩
end Go.Proofs.YtdnnkgkondkhfaaGreatDoor
namespace Go.Proofs.YtdnnkgkondkhfaaGreatDoor
attribute [local irreducible] wpList Code.wp Calls dh fK
open Go.ChangeShapes Go.WideShapes Go.RowKit
attribute [local simp] lD
attribute [local go_sem] KX KW
def zV (o:Option Rf):Value:=match o with|some r=> .tuple #[.agg r.cells, .int .i64 0]|none=> .tuple #[.agg dY.cells, .int .i64 3]
theorem ac3 (s p:Str) (k:Int) [jr s] (w0:World) (hl:Laid w0):Calls Tryz.prog 255 #[.string (B s), .string (B p), .int .i64 k] w0 fun e w'=>e= .returned (.tuple #[.agg (Rf.cells ⟨k,(numOf (Lib.trimPrefix s p)).getD 0,aaB⟩), .bool (Lib.hasPrefix s p&&(numOf (Lib.trimPrefix s p)).isSome)])∧Below w0.heap.size w0 w':=by
 have hS:=St.start hl fun _ _ h hb=>h.below hb
 go_in
 go_wp2_with (first|refine s0 ?_|(refine s1 ?_;clear hS;intro w hS)|(refine s2 ?_;clear hS;intro g w hS))
 all_goals (refine res2 hS ?_;refine ⟨ret_val ?_,hS.below⟩;simp_all)
instance {L:World→Prop} [Sub L Laid] {p:ByteArray} {l:Str} [h:Lit p l] (s:Str) (k:Int) [jr s]:mG 255 #[.string (B s), .string p, .int .i64 k] L (.tuple #[.agg (Rf.cells ⟨k,(numOf (Lib.trimPrefix s l)).getD 0,aaB⟩), .bool (Lib.hasPrefix s l&&(numOf (Lib.trimPrefix s l)).isSome)]):=⟨fun w hl=>h.eq ▸ ac3 s l k w (Sub.sub w hl)⟩
theorem apn (s:Str) [jr s] (w0:World) (hl:Laid w0):Calls Tryz.prog 190 #[.string (B s)] w0 fun e w'=>e= .returned (.agg (Rf.cells (AL s)))∧Below w0.heap.size w0 w':=by
 have hS:=St.start hl fun _ _ h hb=>h.below hb
 go_in
 go_wp2_with (first|(have hq:=sE;subst hq)|refine s0 ?_|(refine s1 ?_;clear hS;intro w hS)|(refine s2 ?_;clear hS;intro g w hS))
 all_goals (refine res1 hS ?_;refine ⟨kW ?_,hS.below⟩;clear hS)
 all_goals first|rfl|(cases hA:numOf (Lib.trimPrefix s [116,97,114,103,101,116])<;>cases hB:numOf (Lib.trimPrefix s [111,119,110,101,114])<;>cases hC:bW (Lib.trimSuffix (Lib.trimPrefix s [101,97,99,104,40]) [41])<;>simp_all [AL,Fe,CX,wd,qQ,SA,XL,eF])
instance {L:World→Prop} [Sub L Laid] (s:Str) [jr s]:mG 190 #[.string (B s)] L (.agg (Rf.cells (AL s))):=⟨fun w hl=>apn s w (Sub.sub w hl)⟩
theorem Yy (o:Option Rf):zV o= .tuple #[.agg (Rf.cells (o.getD dY)), .int .i64 (BN o.isSome)]:=by cases o<;>rfl
theorem Uz (s:Str) [jr s] (w0:World) (hl:Laid w0):Calls Tryz.prog 89 #[.string (B s)] w0 fun e w'=>e= .returned (zV (dX s))∧Below w0.heap.size w0 w':=by
 have hS:=St.start hl fun _ _ h hb=>h.below hb
 go_in
 go_wp2_with (first|refine s0 ?_|(refine s1 ?_;clear hS;intro w hS)|(refine s2 ?_;clear hS;intro g w hS)|(refine s3 ?_ ?_<;>intro hb<;>(try subst hb)<;>(try (exfalso;first|omega|exact Bool.noConfusion hb))))
 all_goals refine res2 hS ?_
 all_goals refine ⟨ret_val ?_,hS.below⟩
 all_goals clear hS
 all_goals simp_all [dX,zV]
instance {L:World→Prop} [Sub L Laid] (s:Str) [jr s]:mG 89 #[.string (B s)] L (.tuple #[.agg (Rf.cells ((dX s).getD dY)), .int .i64 (BN (dX s).isSome)]):=⟨fun w hl=>by rw [←Yy];exact Uz s w (Sub.sub w hl)⟩
theorem aah (s:ByteArray) (w:World) (hl:Laid w) (hs:s.size<100000000):Calls Tryz.prog 89 #[.string s] w fun e w'=>e= .returned (zV (dX (L s)))∧Below w.heap.size w w':=by
 have:jr (L s):=⟨by rw [dN];exact hs⟩
 have h:=Uz (L s) w hl
 rwa [qV] at h
theorem agI (r:Rf) (T:ByteArray) (hT:Hid (B (dI r)=T)) (w:World) (hl:Laid w):
 Calls Tryz.prog 99 #[.agg r.cells] w fun e w'=>e= .returned (.string T)∧Below w.heap.size w w':=
 (Yz r w hl).mono fun e w' h=>⟨by rw [h.1,hT.out],h.2⟩
end Go.Proofs.YtdnnkgkondkhfaaGreatDoor
