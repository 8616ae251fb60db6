/- Walks of the reference: package cardgameref20: specs, effects, Is. Conditions: LaidV; the lists lie in memory. Walks of the reference: package cardgameref20: Is. Conditions: LaidV; the lists lie in -/
import Derived.Test.YtdicgggkdmkklaaGreatDoorMVArg
import Derived.Test.YtdicgggkdmkklaaGreatDoorQ12
import Derived.Test.YtdicgggkdmkklaaGreatDoorMTp
set_option linter.all false
set_option maxRecDepth 100000
set_option maxHeartbeats 16000000
namespace Go.Proofs.YtdicgggkdmkklaaGreatDoor
attribute [local irreducible] wpList Code.wp Calls dh fK
open Go.ChangeShapes Go.WideShapes Go.RowKit
def atS (l:List Sp):Bool:=l.all afp&&decide (l.length≤4)
def atQ (l:List Ef) (n:Int):Bool:=(l.all fun e=>jl e n)&&(decide (1≤l.length)&&decide (l.length≤8))
theorem aCh (l:List Sp) (A:Option Addr) (c:Nat) (w0:World) (hl:aqh A l w0) (h0:l.length<100000000):Calls Tryz.prog 36 #[.slice A l.length c] w0 fun x w'=>x= .returned (.bool (atS l))∧Below w0.heap.size w0 w':=by
 have hS:=St.start hl fun _ _ h hb=>h.keep hb
 go_in
 go_wp2_with (first|(have hq:=iE;subst hq)|(have hq:=sE;subst hq)|refine s0 ?_|(refine s1 ?_;clear hS;intro w hS)|(refine s2 ?_;clear hS;intro g w hS)|(refine s4 ?_;clear hS;intro g cur cw w hw hcw hS)|(refine s3 ?_ ?_<;>intro hb<;>(try subst hb)<;>(try (exfalso;first|omega|exact Bool.noConfusion hb))))
 go_loopw [3] (fun iv wr=>∃k:Nat,k≤l.length∧iv= .int .i64 k∧Hid ((l.take k).all afp=true)∧Hid (St (aqh A l) w0 [] wr)) (fun iv _=>l.length - (intOf iv).toNat)
 case atStart=>exact ⟨0,by omega,rfl,Lib.hid rfl,Lib.hid hS⟩
 case round=>
  clear hS
  obtain ⟨k,hk,rfl,HV,HS⟩:=hrel
  have hS:=HS.out
  clear HS
  by_cases hlt:k<l.length
  ·obtain ⟨s,hs⟩:∃s,l[k]? =some s:=⟨l[k],List.getElem?_eq_getElem hlt⟩
   obtain ⟨b1,o1,rfl⟩:=hS.laid.zB hlt
   have HP:=Lib.hid hs
   clear hs
   have hki:(k:Int)<l.length:=by omega
   go_wp2_with (first|(have hq:=iE;subst hq)|(have hq:=sE;subst hq)|((with_reducible refine aC (T:=49) ?_);refine jk 49 rfl rfl rfl (hS.laid.row HP) Tryz.underlying49 rfl (by kernel_rfl) ?_;(try simp only [ah,ak,au,ay,aA]))|refine s0 ?_|(refine s1 ?_;clear hS;intro w hS)|(refine s2 ?_;clear hS;intro g w hS)|(refine s4 ?_;clear hS;intro g cur cw w hw hcw hS)|(refine s3 ?_ ?_<;>intro hb<;>(try subst hb)<;>(try (exfalso;first|omega|exact Bool.noConfusion hb))))
   all_goals first
    |(go_ret;refine ⟨aX ?_,hS.below⟩;unfold atS;rw [awE HP.out (by first|assumption|exact asQ (by assumption))];rfl)
    |(go_roundw
      case rel=>exact ⟨k+1,by omega,by go_num,Lib.hid (arf HV.out HP.out (by first|assumption|exact aro (by assumption))),Lib.hid hS⟩
      case measure=>simp [intOf];omega)
  ·obtain rfl:k=l.length:=by omega
   go_wp2_with (first|(have hq:=iE;subst hq)|(have hq:=sE;subst hq)|refine s0 ?_|(refine s1 ?_;clear hS;intro w hS)|(refine s2 ?_;clear hS;intro g w hS)|(refine s4 ?_;clear hS;intro g cur cw w hw hcw hS)|(refine s3 ?_ ?_<;>intro hb<;>(try subst hb)<;>(try (exfalso;first|omega|exact Bool.noConfusion hb))))
   all_goals go_ret
   all_goals (refine ⟨aX ?_,hS.below⟩;have h:=HV.out;rw [List.take_length] at h;unfold atS;rw [h];simp<;>omega)
theorem aDm (es:List EV) (A:Option Addr) (c:Nat) (n:Int) (w0:World) (hl:KO A es w0) (h0:es.length<1000000):Calls Tryz.prog 37 #[.slice A es.length c, .int .i64 n] w0 fun x w'=>x= .returned (.bool (atQ (es.map Prod.fst) n))∧Below w0.heap.size w0 w':=by
 have hS:=St.start hl (EW A es)
 go_in
 go_wp2_with (first|(have hq:=iE;subst hq)|(have hq:=sE;subst hq)|refine s0 ?_|(refine s1 ?_;clear hS;intro w hS)|(refine s2 ?_;clear hS;intro g w hS)|(refine s4 ?_;clear hS;intro g cur cw w hw hcw hS)|(refine s3 ?_ ?_<;>intro hb<;>(try subst hb)<;>(try (exfalso;first|omega|exact Bool.noConfusion hb))))
 go_loopw [5] (fun iv wr=>∃k:Nat,k≤es.length∧iv= .int .i64 k∧Hid (((es.take k).all fun p=>jl p.1 n)=true)∧Hid (St (KO A es) w0 [] wr)) (fun iv _=>es.length - (intOf iv).toNat)
 case atStart=>exact ⟨0,by omega,rfl,Lib.hid rfl,Lib.hid hS⟩
 case round=>
  clear hS
  obtain ⟨k,hk,rfl,HV,HS⟩:=hrel
  have hS:=HS.out
  clear HS
  by_cases hlt:k<es.length
  ·obtain ⟨p,hp⟩:∃p,es[k]? =some p:=⟨es[k],List.getElem?_eq_getElem hlt⟩
   obtain ⟨b1,o1,rfl⟩:=hS.laid.2.zB hlt
   have HP:=Lib.hid hp
   clear hp
   have hki:(k:Int)<es.length:=by omega
   go_wp2_with (first|(have hq:=iE;subst hq)|(have hq:=sE;subst hq)|((with_reducible refine aC (T:=kZ) ?_);refine jk kZ rfl rfl rfl (hS.laid.2.row HP) Tryz.underlying67 rfl kY ?_;(try simp only [ah,ak,au,ay,aA]))|(go_at_call 93;refine c_call (fun hl=>zT p.1 p.2 n _ (Lib.hid rfl) _ ⟨hl.1,hl.2.mods HP⟩) hS ?_;clear hS;intro w hS)|refine s0 ?_|(refine s1 ?_;clear hS;intro w hS)|(refine s2 ?_;clear hS;intro g w hS)|(refine s4 ?_;clear hS;intro g cur cw w hw hcw hS)|(refine s3 ?_ ?_<;>intro hb<;>(try subst hb)<;>(try (exfalso;first|omega|exact Bool.noConfusion hb))))
   all_goals first
    |(go_ret;refine ⟨aX ?_,hS.below⟩;unfold atQ;rw [show ((es.map Prod.fst).all fun e=>jl e n)=false by rw [List.all_map];exact awE (P:=fun p=>jl p.1 n) HP.out (by first|assumption|exact asQ (by assumption))];rfl)
    |(go_roundw
      case rel=>exact ⟨k+1,by omega,by go_num,Lib.hid (arf (P:=fun p=>jl p.1 n) HV.out HP.out (by first|assumption|exact aro (by assumption))),Lib.hid hS⟩
      case measure=>simp [intOf];omega)
  ·obtain rfl:k=es.length:=by omega
   go_wp2_with (first|(have hq:=iE;subst hq)|(have hq:=sE;subst hq)|refine s0 ?_|(refine s1 ?_;clear hS;intro w hS)|(refine s2 ?_;clear hS;intro g w hS)|(refine s4 ?_;clear hS;intro g cur cw w hw hcw hS)|(refine s3 ?_ ?_<;>intro hb<;>(try subst hb)<;>(try (exfalso;first|omega|exact Bool.noConfusion hb))))
   all_goals go_ret
   all_goals (refine ⟨aX ?_,hS.below⟩;have h:=HV.out;rw [List.take_length] at h;unfold atQ;rw [List.all_map,List.length_map];simp only [Function.comp_def];rw [h];clear hS;by_cases h1:1≤es.length<;>by_cases h8:es.length≤8<;>simp [h1,h8]<;>omega)
section
variable {L:World→Prop} {x:Ax} {mods:List Md} {specs:List Sp} {qE:List Ef} {es:List EV}
theorem tX.atX (k:tX L x mods specs qE es):mG 36 #[.slice x.specs.a x.specs.n x.specs.c] L (.bool (atS specs)):=⟨fun w h=>by
 have h:=k.h w h
 rw [h.at_.sn];exact aCh specs x.specs.a x.specs.c w h.at_.sa h.at_.sl⟩
theorem tX.atV (k:tX L x mods specs qE es):mG 37 #[.slice x.qE.a x.qE.n x.qE.c, .int .i64 (x.specs.n:Int)] L (.bool (atQ qE (specs.length:Int))):=⟨fun w h=>by
 have h:=k.h w h
 rw [h.at_.en,h.at_.sn,←h.at_.ee];exact aDm es x.qE.a x.qE.c _ w ⟨h.v.m,h.at_.ea⟩ h.at_.el⟩
end
end Go.Proofs.YtdicgggkdmkklaaGreatDoor
namespace Go.Proofs.YtdicgggkdmkklaaGreatDoor
attribute [local irreducible] wpList Code.wp Calls dh fK aeu aej ajU ael aeF eH afp jl jW asz arb arE atS atQ
open Go.ChangeShapes Go.WideShapes Go.RowKit
theorem aG4 {x:Ax} {mods:List Md} {specs:List Sp} {qE:List Ef} (hk:x.kind=1):aej (x.ab mods specs qE)=(dh x.f&&(x.f.zone==0&&(!(eH mods==[])&&((arE x.pr RD&& !x.slow)&&((asz x.t adY&& !x.may)&&(arb x.r I5&&(decide (specs.length=0)&&decide (qE.length=0)))))))):=by
 unfold aej;rw [if_pos (show (x.ab mods specs qE).k=1 from hk)];rfl
theorem aG5 {x:Ax} {mods:List Md} {specs:List Sp} {qE:List Ef} (hk:x.kind=5):aej (x.ab mods specs qE)=(ael x.r&&((fK x.f aaB&&decide (mods.length=0))&&((arE x.pr RD&& !x.slow)&&((asz x.t adY&& !x.may)&&(decide (specs.length=0)&&decide (qE.length=0)))))):=by
 unfold aej;rw [if_neg (show ¬(x.ab mods specs qE).k=1 by show ¬x.kind=1;omega),if_pos (show (x.ab mods specs qE).k=5 from hk)];rfl
theorem aAV (a:Ab):vE a=(atS a.specs&&atQ a.qE (a.specs.length:Int)):=by
 unfold vE atS atQ;rw [Bool.and_assoc]
theorem aEE {x:Ax} {mods:List Md} {specs:List Sp} {qE:List Ef} (hk:x.kind=2):aej (x.ab mods specs qE)=((fK x.f aaB&&decide (mods.length=0))&&((arE x.pr RD&& !x.slow)&&((asz x.t adY&& !x.may)&&(arb x.r I5&&(atS specs&&atQ qE (specs.length:Int)))))):=by
 unfold aej;rw [if_neg (show ¬(x.ab mods specs qE).k=1 by show ¬x.kind=1;omega),if_neg (show ¬(x.ab mods specs qE).k=5 by show ¬x.kind=5;omega),if_pos (show (x.ab mods specs qE).k=2 from hk),aAV];rfl
theorem aEF {x:Ax} {mods:List Md} {specs:List Sp} {qE:List Ef} (hk:x.kind=3):aej (x.ab mods specs qE)=(aeF x.pr&&((fK x.f aaB&&decide (mods.length=0))&&((asz x.t adY&& !x.may)&&(arb x.r I5&&(atS specs&&atQ qE (specs.length:Int)))))):=by
 unfold aej;rw [if_neg (show ¬(x.ab mods specs qE).k=1 by show ¬x.kind=1;omega),if_neg (show ¬(x.ab mods specs qE).k=5 by show ¬x.kind=5;omega),if_neg (show ¬(x.ab mods specs qE).k=2 by show ¬x.kind=2;omega),if_pos (show (x.ab mods specs qE).k=3 from hk),aAV];rfl
theorem aEG {x:Ax} {mods:List Md} {specs:List Sp} {qE:List Ef} (hk:x.kind=4):aej (x.ab mods specs qE)=(ajU x.t&&((fK x.f aaB&&decide (mods.length=0))&&((arE x.pr RD&& !x.slow)&&(arb x.r I5&&(atS specs&&atQ qE (specs.length:Int)))))):=by
 unfold aej;rw [if_neg (show ¬(x.ab mods specs qE).k=1 by show ¬x.kind=1;omega),if_neg (show ¬(x.ab mods specs qE).k=5 by show ¬x.kind=5;omega),if_neg (show ¬(x.ab mods specs qE).k=2 by show ¬x.kind=2;omega),if_neg (show ¬(x.ab mods specs qE).k=3 by show ¬x.kind=3;omega),if_pos (show (x.ab mods specs qE).k=4 from hk),aAV];rfl
section
variable (x:Ax) (mods:List Md) (specs:List Sp) (qE:List Ef) (es:List EV) (L:World→Prop) [ajO:tX L x mods specs qE es] (w0:World) (hl:L w0) (hk:∀w1 w2,L w1→Below w1.heap.size w1 w2→L w2)
include ajO hl hk
theorem aAQ (hc:x.kind=1):Calls Tryz.prog 12 #[.agg (Ax.cells x)] w0 fun e w'=>e= .returned (.bool (aej (x.ab mods specs qE)))∧Below w0.heap.size w0 w':=by
 have HM:=Lib.hid (ajO.h _ hl).at_.mn
 have HN:=Lib.hid (ajO.h _ hl).at_.sn
 have H9:=Lib.hid (ajO.h _ hl).at_.aAb
 rw [aG4 hc]
 have g1:¬x.kind<1:=by omega
 have g2:¬5<x.kind:=by omega
 have q1:(x.kind==1)=true:=by rw [hc];rfl
 have q2:(x.kind==2)=false:=by rw [hc];rfl
 have q3:(x.kind==3)=false:=by rw [hc];rfl
 have q4:(x.kind==4)=false:=by rw [hc];rfl
 have q5:(x.kind==5)=false:=by rw [hc];rfl
 have i1:=ajO.aEp
 have i2:=ajO.sM
 have i3:=ajO.sT
 have i4:=ajO.sL
 have i5:=ajO.atW
 have i6:=ajO.atX
 have i7:=ajO.atV
 clear hc
 have hS:=St.start hl hk
 go_in
 go_wp2_with (first|(have hq:=iE;subst hq)|(have hq:=sE;subst hq)|refine s0 ?_|(refine s1 ?_;clear hS;intro w hS)|(refine s2 ?_;clear hS;intro g w hS)|(refine s4 ?_;clear hS;intro g cur cw w hw hcw hS)|(refine s3 ?_ ?_<;>intro hb<;>(try subst hb)<;>(try (exfalso;first|omega|exact Bool.noConfusion hb))))
 all_goals go_ret
 all_goals refine ⟨aX ?_,hS.below⟩
 all_goals
  clear hS i1 i2 i3 i4 i5 i6 i7
  have e1:=HM.out
  have e2:=HN.out
  have e3:=H9.out
  clear HM HN H9
  have e4:((x.qE.n:Int)==0)=decide (qE.length=0):=by rw [e3];exact asC
  first
  |(have h4:¬mods.length=0:=by omega
    simp_all;done)
  |(have h4:mods.length=0:=by omega
    simp_all;done)
  |(simp_all;done)
  |(rw [e4];simp_all;done)
  |(rw [e4];have h4:mods.length=0:=by omega
    simp_all;done)
theorem aCf (hc:x.kind=5):Calls Tryz.prog 12 #[.agg (Ax.cells x)] w0 fun e w'=>e= .returned (.bool (aej (x.ab mods specs qE)))∧Below w0.heap.size w0 w':=by
 have HM:=Lib.hid (ajO.h _ hl).at_.mn
 have HN:=Lib.hid (ajO.h _ hl).at_.sn
 have H9:=Lib.hid (ajO.h _ hl).at_.aAb
 rw [aG5 hc]
 have g1:¬x.kind<1:=by omega
 have g2:¬5<x.kind:=by omega
 have q1:(x.kind==1)=false:=by rw [hc];rfl
 have q2:(x.kind==2)=false:=by rw [hc];rfl
 have q3:(x.kind==3)=false:=by rw [hc];rfl
 have q4:(x.kind==4)=false:=by rw [hc];rfl
 have q5:(x.kind==5)=true:=by rw [hc];rfl
 have i1:=ajO.aEp
 have i2:=ajO.sM
 have i3:=ajO.sT
 have i4:=ajO.sL
 have i5:=ajO.atW
 have i6:=ajO.atX
 have i7:=ajO.atV
 clear hc
 have hS:=St.start hl hk
 go_in
 go_wp2_with (first|(have hq:=iE;subst hq)|(have hq:=sE;subst hq)|refine s0 ?_|(refine s1 ?_;clear hS;intro w hS)|(refine s2 ?_;clear hS;intro g w hS)|(refine s4 ?_;clear hS;intro g cur cw w hw hcw hS)|(refine s3 ?_ ?_<;>intro hb<;>(try subst hb)<;>(try (exfalso;first|omega|exact Bool.noConfusion hb))))
 all_goals go_ret
 all_goals refine ⟨aX ?_,hS.below⟩
 all_goals
  clear hS i1 i2 i3 i4 i5 i6 i7
  have e1:=HM.out
  have e2:=HN.out
  have e3:=H9.out
  clear HM HN H9
  have e4:((x.qE.n:Int)==0)=decide (qE.length=0):=by rw [e3];exact asC
  first
  |(have h4:¬mods.length=0:=by omega
    simp_all;done)
  |(have h4:mods.length=0:=by omega
    simp_all;done)
  |(simp_all;done)
  |(rw [e4];simp_all;done)
  |(rw [e4];have h4:mods.length=0:=by omega
    simp_all;done)
theorem aB2 (hc:x.kind=2):Calls Tryz.prog 12 #[.agg (Ax.cells x)] w0 fun e w'=>e= .returned (.bool (aej (x.ab mods specs qE)))∧Below w0.heap.size w0 w':=by
 have HM:=Lib.hid (ajO.h _ hl).at_.mn
 have HN:=Lib.hid (ajO.h _ hl).at_.sn
 have H9:=Lib.hid (ajO.h _ hl).at_.aAb
 rw [aEE hc]
 have g1:¬x.kind<1:=by omega
 have g2:¬5<x.kind:=by omega
 have q1:(x.kind==1)=false:=by rw [hc];rfl
 have q2:(x.kind==2)=true:=by rw [hc];rfl
 have q3:(x.kind==3)=false:=by rw [hc];rfl
 have q4:(x.kind==4)=false:=by rw [hc];rfl
 have q5:(x.kind==5)=false:=by rw [hc];rfl
 have i1:=ajO.aEp
 have i2:=ajO.sM
 have i3:=ajO.sT
 have i4:=ajO.sL
 have i5:=ajO.atW
 have i6:=ajO.atX
 have i7:=ajO.atV
 clear hc
 have hS:=St.start hl hk
 go_in
 go_wp2_with (first|(have hq:=iE;subst hq)|(have hq:=sE;subst hq)|refine s0 ?_|(refine s1 ?_;clear hS;intro w hS)|(refine s2 ?_;clear hS;intro g w hS)|(refine s4 ?_;clear hS;intro g cur cw w hw hcw hS)|(refine s3 ?_ ?_<;>intro hb<;>(try subst hb)<;>(try (exfalso;first|omega|exact Bool.noConfusion hb))))
 all_goals go_ret
 all_goals refine ⟨aX ?_,hS.below⟩
 all_goals
  clear hS i1 i2 i3 i4 i5 i6 i7
  have e1:=HM.out
  have e2:=HN.out
  have e3:=H9.out
  clear HM HN H9
  have e4:((x.qE.n:Int)==0)=decide (qE.length=0):=by rw [e3];exact asC
  first
  |(have h4:¬mods.length=0:=by omega
    simp_all;done)
  |(have h4:mods.length=0:=by omega
    simp_all;done)
  |(simp_all;done)
  |(rw [e4];simp_all;done)
  |(rw [e4];have h4:mods.length=0:=by omega
    simp_all;done)
theorem aDn (hc:x.kind=3):Calls Tryz.prog 12 #[.agg (Ax.cells x)] w0 fun e w'=>e= .returned (.bool (aej (x.ab mods specs qE)))∧Below w0.heap.size w0 w':=by
 have HM:=Lib.hid (ajO.h _ hl).at_.mn
 have HN:=Lib.hid (ajO.h _ hl).at_.sn
 have H9:=Lib.hid (ajO.h _ hl).at_.aAb
 rw [aEF hc]
 have g1:¬x.kind<1:=by omega
 have g2:¬5<x.kind:=by omega
 have q1:(x.kind==1)=false:=by rw [hc];rfl
 have q2:(x.kind==2)=false:=by rw [hc];rfl
 have q3:(x.kind==3)=true:=by rw [hc];rfl
 have q4:(x.kind==4)=false:=by rw [hc];rfl
 have q5:(x.kind==5)=false:=by rw [hc];rfl
 have i1:=ajO.aEp
 have i2:=ajO.sM
 have i3:=ajO.sT
 have i4:=ajO.sL
 have i5:=ajO.atW
 have i6:=ajO.atX
 have i7:=ajO.atV
 clear hc
 have hS:=St.start hl hk
 go_in
 go_wp2_with (first|(have hq:=iE;subst hq)|(have hq:=sE;subst hq)|refine s0 ?_|(refine s1 ?_;clear hS;intro w hS)|(refine s2 ?_;clear hS;intro g w hS)|(refine s4 ?_;clear hS;intro g cur cw w hw hcw hS)|(refine s3 ?_ ?_<;>intro hb<;>(try subst hb)<;>(try (exfalso;first|omega|exact Bool.noConfusion hb))))
 all_goals go_ret
 all_goals refine ⟨aX ?_,hS.below⟩
 all_goals
  clear hS i1 i2 i3 i4 i5 i6 i7
  have e1:=HM.out
  have e2:=HN.out
  have e3:=H9.out
  clear HM HN H9
  have e4:((x.qE.n:Int)==0)=decide (qE.length=0):=by rw [e3];exact asC
  first
  |(have h4:¬mods.length=0:=by omega
    simp_all;done)
  |(have h4:mods.length=0:=by omega
    simp_all;done)
  |(simp_all;done)
  |(rw [e4];simp_all;done)
  |(rw [e4];have h4:mods.length=0:=by omega
    simp_all;done)
theorem aCg (hc:x.kind=4):Calls Tryz.prog 12 #[.agg (Ax.cells x)] w0 fun e w'=>e= .returned (.bool (aej (x.ab mods specs qE)))∧Below w0.heap.size w0 w':=by
 have HM:=Lib.hid (ajO.h _ hl).at_.mn
 have HN:=Lib.hid (ajO.h _ hl).at_.sn
 have H9:=Lib.hid (ajO.h _ hl).at_.aAb
 rw [aEG hc]
 have g1:¬x.kind<1:=by omega
 have g2:¬5<x.kind:=by omega
 have q1:(x.kind==1)=false:=by rw [hc];rfl
 have q2:(x.kind==2)=false:=by rw [hc];rfl
 have q3:(x.kind==3)=false:=by rw [hc];rfl
 have q4:(x.kind==4)=true:=by rw [hc];rfl
 have q5:(x.kind==5)=false:=by rw [hc];rfl
 have i1:=ajO.aEp
 have i2:=ajO.sM
 have i3:=ajO.sT
 have i4:=ajO.sL
 have i5:=ajO.atW
 have i6:=ajO.atX
 have i7:=ajO.atV
 clear hc
 have hS:=St.start hl hk
 go_in
 go_wp2_with (first|(have hq:=iE;subst hq)|(have hq:=sE;subst hq)|refine s0 ?_|(refine s1 ?_;clear hS;intro w hS)|(refine s2 ?_;clear hS;intro g w hS)|(refine s4 ?_;clear hS;intro g cur cw w hw hcw hS)|(refine s3 ?_ ?_<;>intro hb<;>(try subst hb)<;>(try (exfalso;first|omega|exact Bool.noConfusion hb))))
 all_goals go_ret
 all_goals refine ⟨aX ?_,hS.below⟩
 all_goals
  clear hS i1 i2 i3 i4 i5 i6 i7
  have e1:=HM.out
  have e2:=HN.out
  have e3:=H9.out
  clear HM HN H9
  have e4:((x.qE.n:Int)==0)=decide (qE.length=0):=by rw [e3];exact asC
  first
  |(have h4:¬mods.length=0:=by omega
    simp_all;done)
  |(have h4:mods.length=0:=by omega
    simp_all;done)
  |(simp_all;done)
  |(rw [e4];simp_all;done)
  |(rw [e4];have h4:mods.length=0:=by omega
    simp_all;done)
theorem aCe (hc:x.kind<1∨5<x.kind):Calls Tryz.prog 12 #[.agg (Ax.cells x)] w0 fun e w'=>e= .returned (.bool (aej (x.ab mods specs qE)))∧Below w0.heap.size w0 w':=by
 have HM:=Lib.hid (ajO.h _ hl).at_.mn
 have HN:=Lib.hid (ajO.h _ hl).at_.sn
 have H9:=Lib.hid (ajO.h _ hl).at_.aAb
 rw [axZ (by omega) (by omega) (by omega) (by omega) (by omega)]
 have hS:=St.start hl hk
 rcases hc with hc|hc
 ·go_in
  go_wp2_with (first|(have hq:=iE;subst hq)|(have hq:=sE;subst hq)|refine s0 ?_|(refine s1 ?_;clear hS;intro w hS)|(refine s2 ?_;clear hS;intro g w hS)|(refine s4 ?_;clear hS;intro g cur cw w hw hcw hS)|(refine s3 ?_ ?_<;>intro hb<;>(try subst hb)<;>(try (exfalso;first|omega|exact Bool.noConfusion hb))))
  all_goals go_ret
  all_goals exact ⟨aX rfl,hS.below⟩
 ·have hc1:¬x.kind<1:=by omega
  go_in
  go_wp2_with (first|(have hq:=iE;subst hq)|(have hq:=sE;subst hq)|refine s0 ?_|(refine s1 ?_;clear hS;intro w hS)|(refine s2 ?_;clear hS;intro g w hS)|(refine s4 ?_;clear hS;intro g cur cw w hw hcw hS)|(refine s3 ?_ ?_<;>intro hb<;>(try subst hb)<;>(try (exfalso;first|omega|exact Bool.noConfusion hb))))
  all_goals go_ret
  all_goals exact ⟨aX rfl,hS.below⟩
theorem aAO:Calls Tryz.prog 12 #[.agg (Ax.cells x)] w0 fun e w'=>e= .returned (.bool (aej (x.ab mods specs qE)))∧Below w0.heap.size w0 w':=by
 have h:x.kind=1∨x.kind=2∨x.kind=3∨x.kind=4∨x.kind=5∨(x.kind<1∨5<x.kind):=by omega
 rcases h with h|h|h|h|h|h
 ·exact aAQ x mods specs qE es L w0 hl hk h
 ·exact aB2 x mods specs qE es L w0 hl hk h
 ·exact aDn x mods specs qE es L w0 hl hk h
 ·exact aCg x mods specs qE es L w0 hl hk h
 ·exact aCf x mods specs qE es L w0 hl hk h
 ·exact aCe x mods specs qE es L w0 hl hk h
end
end Go.Proofs.YtdicgggkdmkklaaGreatDoor
