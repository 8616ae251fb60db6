/- Walks of the reference: package cardgameref16: numbered, Is of any reference. Conditions: none. Walks of the reference: package cardgameref16: Text. Conditions: none. Walks of the reference: packag -/
import Derived.Test.YtdicgggkdmkklaaGreatDoorQ17
import Derived.Test.YtdicgggkdmkklaaGreatDoorQ7
import Derived.Test.YtdicgggkdmkklaaGreatDoorQ9
import Derived.Test.YtdicgggkdmkklaaGreatDoorQ3
set_option linter.all false
set_option maxRecDepth 100000
set_option maxHeartbeats 16000000
namespace Go.Proofs.YtdicgggkdmkklaaGreatDoor
attribute [local irreducible] wpList Code.wp Calls dh fK
open Go.ChangeShapes Go.WideShapes Go.RowKit
attribute [local simp] lD
theorem agA (k:Int) (w:World):Calls Tryz.prog 232 #[.int .i64 k] w fun e w'=>e= .returned (.bool (xw k))∧w=w':=by
 go_in
 go_wp2_with (have hq:=iE;subst hq)
 all_goals (go_ret;exact ⟨aX (by simp_all [xw]),rfl⟩)
instance {L:World→Prop} (k:Int):mG 232 #[.int .i64 k] L (.bool (xw k)):=⟨fun w _=>(agA k w).mono fun _ _ h=>⟨h.1,BA h.2⟩⟩
theorem agL (kind n specs:Int) (f:aH) (w0:World):
 Calls Tryz.prog 172 #[.agg (Rf.cells ⟨kind,n,f⟩), .int .i64 specs] w0 fun e w'=>e= .returned (.bool (iY ⟨kind,n,f⟩ specs))∧Below w0.heap.size w0 w':=by
 have hS:=St.Dj w0
 go_in
 go_wp2_with (first|(have hq:=iE;subst hq)|refine s0 ?_|(refine s1 ?_;clear hS;intro w hS)|(refine s2 ?_;clear hS;intro g w hS)|(refine s3 ?_ ?_<;>intro hb<;>(try subst hb)<;>(try (exfalso;first|omega|exact Bool.noConfusion hb))))
 all_goals go_ret
 all_goals refine ⟨aX ?_,hS.below⟩
 all_goals clear hS
 all_goals (simp_all [iY,xw,Pn,Int.le_min]<;>exact fin)
instance {L:World→Prop} (r:Rf) (n:Int):mG 172 #[.agg (Rf.cells r), .int .i64 n] L (.bool (iY r n)):=⟨fun w _=>agL r.kind r.n n r.f w⟩
end Go.Proofs.YtdicgggkdmkklaaGreatDoor
namespace Go.Proofs.YtdicgggkdmkklaaGreatDoor
attribute [local irreducible] wpList Code.wp Calls dh fK
open Go.ChangeShapes Go.WideShapes Go.RowKit
attribute [local simp] lD
theorem apw (r:Rf) (specs:Int) (R:Bool) (HR:Hid (iY r specs=R)) (w:World):Calls Tryz.prog 172 #[.agg r.cells, .int .i64 specs] w fun e w'=>e= .returned (.bool R)∧Below w.heap.size w w':=HR.out ▸ agL r.kind r.n specs r.f w
theorem aam (w:World):Calls Tryz.prog 282 #[] w (kR w qQ):=by
 go_enter Tryz.func282,Tryz.ntmps282
 go_wp2
 go_ret
 exact ⟨_,_,rfl,qw qQ _ rfl (by decide) w _ rfl,(Below.refl _ _).alloc (Nat.le_refl _) _⟩
instance {L:World→Prop} :ana 282 #[] L qQ 9:=⟨fun w _=>aam w,rfl,by decide⟩
instance:ahu qQ 20:=⟨by decide⟩
instance:SQ 1:=⟨by decide,by decide⟩
instance:SQ 2:=⟨by decide,by decide⟩
instance:SQ 3:=⟨by decide,by decide⟩
instance:SQ 4:=⟨by decide,by decide⟩
theorem YD (r:Rf) (w0:World):Calls Tryz.prog 237 #[.agg r.cells] w0 fun e w'=>e= .returned (.string (B (dI r)))∧Below w0.heap.size w0 w':=by
 have hS:=St.Dj w0
 cases hv:iY r 4
 ·go_in
  go_wp2_with (first|refine s0 ?_|(refine s1 ?_;clear hS;intro w hS)|(refine s2 ?_;clear hS;intro g w hS))
  all_goals (go_ret;refine ⟨dL ?_,hS.below⟩;clear hS;simp_all [dI])
 rcases sN hv with rfl|rfl|rfl|rfl|rfl|(rfl|rfl|rfl|rfl)|(rfl|rfl|rfl|rfl)|⟨f,hf,rfl⟩
 all_goals
  go_in
  go_wp2_with (first|refine s0 ?_|(refine s1 ?_;clear hS;intro w hS)|(refine s2 ?_;clear hS;intro g w hS)|(refine s4 ?_;clear hS;intro g cur cw w hw hcw hS))
 all_goals (go_ret;refine ⟨dL ?_,hS.below⟩;clear hS;first|(simp_all [dI,refBody,xw,wd,qQ,eF];done))
instance {L:World→Prop} (r:Rf):mG 237 #[.agg (Rf.cells r)] L (.string (B (dI r))):=⟨fun w _=>YD r w⟩
end Go.Proofs.YtdicgggkdmkklaaGreatDoor
namespace Go.Proofs.YtdicgggkdmkklaaGreatDoor
attribute [local irreducible] wpList Code.wp Calls dh fK
open Go.ChangeShapes Go.WideShapes Go.RowKit
attribute [local simp] lD
attribute [local go_sem] KX KW Dq
end Go.Proofs.YtdicgggkdmkklaaGreatDoor
namespace Go.Proofs.YtdicgggkdmkklaaGreatDoor
attribute [local irreducible] wpList Code.wp Calls dh fK
open Go.ChangeShapes Go.WideShapes Go.RowKit
theorem agu (k n c:Int) (f:aH) (w0:World):Calls Tryz.prog 174 #[.agg (Am.cells ⟨k,n,c,f⟩)] w0 fun e w'=>e= .returned (.bool (iT ⟨k,n,c,f⟩))∧Below w0.heap.size w0 w':=by
 have hS:=St.Dj w0
 go_in
 go_wp2_with (first|(have hq:=iE;subst hq)|refine s0 ?_|(refine s1 ?_;clear hS;intro w hS)|(refine s2 ?_;clear hS;intro g w hS)|(refine s3 ?_ ?_<;>intro hb<;>(try subst hb)<;>(try (exfalso;first|omega|exact Bool.noConfusion hb))))
 all_goals go_ret
 all_goals refine ⟨aX ?_,hS.below⟩
 all_goals clear hS
 all_goals (simp_all [iT,sV,Dv,Nu,dG,lD]<;>first|omega|(rcases (by omega:c=0∨c=1∨c=2) with rfl|rfl|rfl<;>simp))
theorem apb (a:Am) (R:Bool) (HR:Hid (iT a=R)) (w:World):Calls Tryz.prog 174 #[.agg a.cells] w fun e w'=>e= .returned (.bool R)∧Below w.heap.size w w':=HR.out ▸ agu a.k a.n a.c a.f w
instance {L:World→Prop} (a:Am):mG 174 #[.agg (Am.cells a)] L (.bool (iT a)):=⟨fun w _=>agu a.k a.n a.c a.f w⟩
theorem aiZ (k n c:Int) (f:aH) (w0:World):Calls Tryz.prog 238 #[.agg (Am.cells ⟨k,n,c,f⟩)] w0 fun e w'=>e= .returned (.string (B (dW ⟨k,n,c,f⟩)))∧Below w0.heap.size w0 w':=by
 have hS:=St.Dj w0
 go_in
 go_wp2_with (first|(have hq:=iE;subst hq)|(go_at_call 65;have hn:=ajS ‹(!iT _)=false›;simp only at hn;have:Len (Lib.itoa n) 21:=⟨Lib.itoa_length_le n (by omega) (by omega)⟩;refine c_call (fun _=>qo _ _ (by omega) (by omega)) hS ?_;clear hS;intro w hS)|refine s0 ?_|(refine s1 ?_;clear hS;intro w hS)|(refine s2 ?_;clear hS;intro g w hS))
 all_goals go_ret
 all_goals refine ⟨dL ?_,hS.below⟩
 all_goals clear hS
 all_goals first|(simp_all [dW];done)|(simp_all [dW,rU,bT,fB,yU,wd,EF,iT,Dv]<;>omega)
theorem Yp (a:Am) (w:World):Calls Tryz.prog 238 #[.agg a.cells] w fun e w'=>e= .returned (.string (B (dW a)))∧Below w.heap.size w w':=aiZ a.k a.n a.c a.f w
instance {L:World→Prop} (a:Am):mG 238 #[.agg (Am.cells a)] L (.string (B (dW a))):=⟨fun w _=>Yp a w⟩
end Go.Proofs.YtdicgggkdmkklaaGreatDoor
