/- Walks of the reference: package cardgameref20: Text, IsMana. Conditions: LaidV; the lists lie in memory. AbilityIs: the program answers as the reference. Conditions: LaidV; the lists lie in memory. -/
import Derived.Test.YtdicgggkdmkklaaGreatDoorMVRIs
import Derived.Test.YtdicgggkdmkklaaGreatDoorMVText
import Derived.Test.YtdicgggkdmkklaaGreatDoorMVParts
import Derived.Test.YtdicgggkdmkklaaGreatDoorMVLen
import Derived.Test.YtdicgggkdmkklaaGreatDoorVQ
import Derived.Test.YtdicgggkdmkklaaGreatDoorMTp
set_option linter.all false
set_option maxRecDepth 100000
set_option maxHeartbeats 16000000
namespace Go.Proofs.YtdicgggkdmkklaaGreatDoor
open Go.ChangeShapes Go.WideShapes Go.RowKit
theorem ay4 {x:Ax} {mods:List Md} {specs:List Sp} {qE:List Ef} (h:aej (x.ab mods specs qE)=true) (h1:¬x.kind=1) (h5:¬x.kind=5):
 (x.kind=2∧(x.kind==3)=false∧(x.kind==4)=false∧x.slow=false∧x.may=false)∨(x.kind=3∧(x.kind==3)=true∧(x.kind==4)=false∧x.slow=true∧x.may=false)∨(x.kind=3∧(x.kind==3)=true∧(x.kind==4)=false∧x.slow=false∧x.may=false)∨
 (x.kind=4∧(x.kind==3)=false∧(x.kind==4)=true∧x.slow=false∧x.may=true)∨(x.kind=4∧(x.kind==3)=false∧(x.kind==4)=true∧x.slow=false∧x.may=false):=by
 rcases (azb h h1 h5).1 with hk|hk|hk
 ·rw [aEE hk] at h
  simp only [Bool.and_eq_true,Bool.not_eq_true'] at h
  exact .inl ⟨hk,by rw [hk];rfl,by rw [hk];rfl,h.2.1.2,h.2.2.1.2⟩
 ·rw [aEF hk] at h
  simp only [Bool.and_eq_true,Bool.not_eq_true'] at h
  have hm:=h.2.2.1.2
  cases hs:x.slow
  ·exact .inr (.inr (.inl ⟨hk,by rw [hk];rfl,by rw [hk];rfl,rfl,hm⟩))
  ·exact .inr (.inl ⟨hk,by rw [hk];rfl,by rw [hk];rfl,rfl,hm⟩)
 ·rw [aEG hk] at h
  simp only [Bool.and_eq_true,Bool.not_eq_true'] at h
  have hs:=h.2.2.1.2
  cases hm:x.may
  ·exact .inr (.inr (.inr (.inr ⟨hk,by rw [hk];rfl,by rw [hk];rfl,hs,rfl⟩)))
  ·exact .inr (.inr (.inr (.inl ⟨hk,by rw [hk];rfl,by rw [hk];rfl,hs,rfl⟩)))
def tx1 (x:Ax):Str:=if x.kind=3 then aAU++LX x.pr else auy
def tx2 (x:Ax):Str:=if x.kind=4 then azh++aei x.t else tx1 x
def tx3 (x:Ax):Str:=if x.slow=true then tx2 x++32::ajN else tx2 x
def tx4 (x:Ax):Str:=if x.may=true then tx3 x++32::akg else tx3 x
theorem aDp {x:Ax} {mods:List Md} {specs:List Sp} {qE:List Ef} (h:aej (x.ab mods specs qE)=true) (h1:¬x.kind=1) (h5:¬x.kind=5):tx4 x=Lib.join (aur x) [32]:=by
 unfold tx4 tx3 tx2 tx1
 rcases ay4 h h1 h5 with ⟨hk,_,_,hs,hm⟩|⟨hk,_,_,hs,hm⟩|⟨hk,_,_,hs,hm⟩|⟨hk,_,_,hs,hm⟩|⟨hk,_,_,hs,hm⟩
 ·rw [aDb hk];simp [hk,hs,hm,Lib.join]
 ·rw [aA6 hk hs];simp [hk,hs,hm,Lib.join,opt,aAU,axk,ajN]
 ·rw [aA6 hk hs];simp [hk,hs,hm,Lib.join,opt,aAU,axk,ajN]
 ·rw [aA7 hk hm];simp [hk,hs,hm,Lib.join,opt,azh,avT,akg]
 ·rw [aA7 hk hm];simp [hk,hs,hm,Lib.join,opt,azh,avT,akg]
theorem tX.aDS {L:World→Prop} {x:Ax} {mods:List Md} {specs:List Sp} {qE:List Ef} {es:List EV} (k:tX L x mods specs qE es) (hk:∀w1 w2,L w1→Below w1.heap.size w1 w2→L w2):mG 12 #[.agg (Ax.cells x)] L (.bool (aej (x.ab mods specs qE))):=⟨fun w h=>aAO x mods specs qE es L (ajO:=k) w h hk⟩
theorem aDl (x:Ax) (l:List Sp) (h4:l.length≤4):(Lib.join (aur x++l.map MI) [32]).length≤6000000:=by
 have h:=(aAB (x.ab [] l []) h4).le
 rw [aBZ] at h
 exact Nat.le_trans (aqP _) h
attribute [local irreducible] wpList Code.wp Calls dh fK aej ajU ael aeF eH afp MI LX jl jW aei aeg textOf
theorem aB1 (x:Ax) (mods:List Md) (specs:List Sp) (qE:List Ef) (es:List EV) (L:World→Prop) [ajO:tX L x mods specs qE es] (w0:World) (hl:L w0) (hk:∀w1 w2,L w1→Below w1.heap.size w1 w2→L w2):
 Calls Tryz.prog 14 #[.agg (Ax.cells x)] w0 fun e w'=>e= .returned (.string (B (aeh (x.ab mods specs qE))))∧Below w0.heap.size w0 w':=by
 have HN:=Lib.hid (ajO.h _ hl).at_.sn
 have hmx:x.specs.n<100000000:=by rw [HN.out];exact (ajO.h _ hl).at_.sl
 have i1:=ajO.aEp
 have i2:=ajO.sM
 have i3:=ajO.sT
 have i4:=ajO.sL
 have i5:=ajO.atW
 have i6:=ajO.aDR
 have i7:=ajO.aDS hk
 have hS:=St.start hl hk
 cases hv:aej (x.ab mods specs qE) with
 |false=>
  go_in
  go_wp2_with (first|(have hq:=iE;subst hq)|(have hq:=sE;subst hq)|refine s0 ?_|(refine s1 ?_;clear hS;intro w hS)|(refine s2 ?_;clear hS;intro g w hS)|(refine s4 ?_;clear hS;intro g cur cw w hw hcw hS)|(refine s3 ?_ ?_<;>intro hb<;>(try subst hb)<;>(try (exfalso;first|omega|exact Bool.noConfusion hb))))
  all_goals go_ret
  all_goals exact ⟨dL (by rw [asg hv]),hS.below⟩
 |true=>
  by_cases h1:x.kind=1
  ·have HT:=Lib.hid (axu hv h1)
   have q1:(x.kind==1)=true:=by rw [h1];rfl
   clear h1
   go_in
   go_wp2_with (first|(have hq:=iE;subst hq)|(have hq:=sE;subst hq)|refine s0 ?_|(refine s1 ?_;clear hS;intro w hS)|(refine s2 ?_;clear hS;intro g w hS)|(refine s4 ?_;clear hS;intro g cur cw w hw hcw hS)|(refine s3 ?_ ?_<;>intro hb<;>(try subst hb)<;>(try (exfalso;first|omega|exact Bool.noConfusion hb))))
   all_goals go_ret
   all_goals exact ⟨dL (by rw [HT.out];simp [ajL]),hS.below⟩
  by_cases h5:x.kind=5
  ·have HT:=Lib.hid (azc hv h5)
   have q1:(x.kind==1)=false:=by rw [h5];rfl
   have q5:(x.kind==5)=true:=by rw [h5];rfl
   clear h1 h5
   go_in
   go_wp2_with (first|(have hq:=iE;subst hq)|(have hq:=sE;subst hq)|refine s0 ?_|(refine s1 ?_;clear hS;intro w hS)|(refine s2 ?_;clear hS;intro g w hS)|(refine s4 ?_;clear hS;intro g cur cw w hw hcw hS)|(refine s3 ?_ ?_<;>intro hb<;>(try subst hb)<;>(try (exfalso;first|omega|exact Bool.noConfusion hb))))
   all_goals go_ret
   all_goals exact ⟨dL (by rw [HT.out];simp [aeH]),hS.below⟩
  obtain ⟨hk3,h4,HT⟩:=azb hv h1 h5
  have HT:=Lib.hid HT
  have HL4:=Lib.hid h4
  have q1:(x.kind==1)=false:=beq_eq_false_iff_ne.2 h1
  have q5:(x.kind==5)=false:=beq_eq_false_iff_ne.2 h5
  have HTX:=Lib.hid (aDp hv h1 h5)
  rcases ay4 hv h1 h5 with ⟨hc,q3,q4,gs,gm⟩|⟨hc,q3,q4,gs,gm⟩|⟨hc,q3,q4,gs,gm⟩|⟨hc,q3,q4,gs,gm⟩|⟨hc,q3,q4,gs,gm⟩
  all_goals
   have ht:=HTX.out
   unfold tx4 tx3 tx2 tx1 at ht
   rw [gs,gm,hc] at ht
   have HT2:=Lib.hid ht
   clear hc h1 h5 h4 ht HTX
   go_in
   go_upto_if 42 with (first|(have hq:=iE;subst hq)|(have hq:=sE;subst hq)|refine s0 ?_|(refine s1 ?_;clear hS;intro w hS)|(refine s2 ?_;clear hS;intro g w hS)|(refine s4 ?_;clear hS;intro g cur cw w hw hcw hS)|(refine s3 ?_ ?_<;>intro hb<;>(try subst hb)<;>(try (exfalso;first|omega|exact Bool.noConfusion hb))))
   rw [gs]
   go_upto_if 46 with (first|(have hq:=iE;subst hq)|(have hq:=sE;subst hq)|refine s0 ?_|(refine s1 ?_;clear hS;intro w hS)|(refine s2 ?_;clear hS;intro g w hS)|(refine s4 ?_;clear hS;intro g cur cw w hw hcw hS)|(refine s3 ?_ ?_<;>intro hb<;>(try subst hb)<;>(try (exfalso;first|omega|exact Bool.noConfusion hb))))
   rw [gm]
   clear gs gm q1 q3 q4 q5
   go_wp2_with (first|(have hq:=iE;subst hq)|(have hq:=sE;subst hq)|refine s0 ?_|(refine s1 ?_;clear hS;intro w hS)|(refine s2 ?_;clear hS;intro g w hS)|(refine s4 ?_;clear hS;intro g cur cw w hw hcw hS)|(refine s3 ?_ ?_<;>intro hb<;>(try subst hb)<;>(try (exfalso;first|omega|exact Bool.noConfusion hb))))
   try simp only [List.cons_append,List.nil_append,List.append_assoc]
   go_loopw [3,4] (fun sv iv wr=>∃(j:Nat) (X:Str),j≤x.specs.n∧sv= .string (B X)∧iv= .int .i64 j∧Hid (X=Lib.join (aur x++(specs.take j).map MI) [32])∧Hid (St L w0 [(g,Ax.cells x,39)] wr)) (fun _ iv _=>x.specs.n - (intOf iv).toNat)
   case atStart=>exact ⟨0,_,Nat.zero_le _,rfl,rfl,Lib.hid (by rw [List.take_zero,List.map_nil,List.append_nil,←HT2.out];simp [aAU,azh,auy,ajN,akg]),Lib.hid hS⟩
   case round=>
    clear hS
    obtain ⟨j,X,hj,rfl,rfl,HX,HS⟩:=hrel
    have hS:=HS.out
    clear HS
    have hlX:X.length≤6000000:=by rw [HX.out];exact aDl x _ (by rw [List.length_take];have:=HL4.out;omega)
    have iX:Len X 6000000:=⟨hlX⟩
    by_cases hlt:j<x.specs.n
    ·obtain ⟨s,hs⟩:∃s,specs[j]? =some s:=⟨specs[j]'(by rw [←HN.out];exact hlt),List.getElem?_eq_getElem _⟩
     obtain ⟨b1,o1,hA1⟩:=(ajO.h _ hS.laid).at_.sa.zB (by rw [←HN.out];exact hlt)
     have HQP:=Lib.hid hs
     have HQ:Hid (∀w,L w→w.rangeAt b1 (o1+j * 18) (Sp.cells s).toList):=Lib.hid fun w h=>by
      have h:=(ajO.h w h).at_.sa
      rw [hA1] at h
      exact h.row HQP
     clear hs hlX
     have hji:(j:Int)<x.specs.n:=by omega
     go_wp2_with (first|(have hq:=iE;subst hq)|(have hq:=sE;subst hq)|((with_reducible refine gY ?_);refine qp (ds:=Sp.cells s) 49 rfl rfl rfl (fun w hS=>HQ.out _ hS.laid) Tryz.underlying49 rfl (by kernel_rfl) (fun _ _ _ h=>h) ?_;(try simp only [ah,ak,au,ay,aA]))|((with_reducible refine aC (T:=49) ?_);refine jk 49 rfl rfl rfl (HQ.out _ hS.laid) Tryz.underlying49 rfl (by kernel_rfl) ?_;(try simp only [ah,ak,au,ay,aA]))|refine s0 ?_|(refine s1 ?_;clear hS;intro w hS)|(refine s2 ?_;clear hS;intro g w hS)|(refine s4 ?_;clear hS;intro g cur cw w hw hcw hS)|(refine s3 ?_ ?_<;>intro hb<;>(try subst hb)<;>(try (exfalso;first|omega|exact Bool.noConfusion hb))))
     go_roundw
     case rel=>exact ⟨j+1,_,by omega,rfl,by go_num,Lib.hid (by rw [awl HQP.out,←List.append_assoc,wG,if_neg (by unfold aur;simp),←HX.out]),Lib.hid hS⟩
     case measure=>simp [intOf];omega
    ·have hjn:j=x.specs.n:=by omega
     have hjx:¬(j:Int)<x.specs.n:=by omega
     have VR:Hid (Lib.join (headW (x.ab mods specs qE)) [32]=X):=Lib.hid (by rw [HX.out,hjn,HN.out,List.take_length];rfl)
     clear hjn hlX
     go_wp2_with (first|(have hq:=iE;subst hq)|(have hq:=sE;subst hq)|refine s0 ?_|(refine s1 ?_;clear hS;intro w hS)|(refine s2 ?_;clear hS;intro g w hS)|(refine s4 ?_;clear hS;intro g cur cw w hw hcw hS)|(refine s3 ?_ ?_<;>intro hb<;>(try subst hb)<;>(try (exfalso;first|omega|exact Bool.noConfusion hb))))
     go_ret
     exact ⟨dL (by rw [HT.out,VR.out];simp),hS.below⟩
theorem aDo (x:Ax) (mods:List Md) (specs:List Sp) (qE:List Ef) (es:List EV) (L:World→Prop) [ajO:tX L x mods specs qE es] (w0:World) (hl:L w0) (hk:∀w1 w2,L w1→Below w1.heap.size w1 w2→L w2):
 Calls Tryz.prog 16 #[.agg (Ax.cells x)] w0 fun e w'=>e= .returned (.bool (aqN (x.ab mods specs qE)))∧Below w0.heap.size w0 w':=by
 have HN:=Lib.hid (ajO.h _ hl).at_.sn
 have HEN:=Lib.hid (ajO.h _ hl).at_.en
 have zA:=Lib.hid (ajO.h _ hl).at_.ee
 have hmx:x.specs.n<100000000:=by rw [HN.out];exact (ajO.h _ hl).at_.sl
 have hex:x.qE.n<1000000:=by rw [HEN.out];exact (ajO.h _ hl).at_.el
 have i1:=ajO.aEp
 have i7:=ajO.aDS hk
 have hS:=St.start hl hk
 have HZ:=Lib.hid (fun h=>auJ (x:=x) (mods:=mods) (specs:=specs) (qE:=qE) h)
 have HY:=Lib.hid (fun h1 h2 h3 h4=>aAg (x:=x) (mods:=mods) (specs:=specs) (qE:=qE) h1 h2 h3 h4)
 obtain ⟨R,hR⟩:∃R,aqN (x.ab mods specs qE)=R:=⟨_,rfl⟩
 rw [hR] at HY HZ ⊢
 clear hR
 go_in
 go_wp2_with (first|(have hq:=iE;subst hq)|(have hq:=sE;subst hq)|refine s0 ?_|(refine s1 ?_;clear hS;intro w hS)|(refine s2 ?_;clear hS;intro g w hS)|(refine s4 ?_;clear hS;intro g cur cw w hw hcw hS)|(refine s3 ?_ ?_<;>intro hb<;>(try subst hb)<;>(try (exfalso;first|omega|exact Bool.noConfusion hb))))
 generalize g=ga at *
 go_loopw [3] (fun iv wr=>∃j:Nat,j≤x.qE.n∧iv= .int .i64 j∧Hid (((es.take j).all fun p=>p.1.op==14)=true)∧Hid (St L w0 [(ga,Ax.cells x,39)] wr)) (fun iv _=>x.qE.n - (intOf iv).toNat)
 case atStart=>exact ⟨0,by omega,rfl,Lib.hid rfl,Lib.hid hS⟩
 case round=>
  clear hS
  obtain ⟨j,hj,rfl,HV,HS⟩:=hrel
  have hS:=HS.out
  clear HS
  by_cases hlt:j<x.qE.n
  ·have hle:j<es.length:=by rw [←HEN.out];exact hlt
   obtain ⟨p,hp⟩:∃p,es[j]? =some p:=⟨es[j],List.getElem?_eq_getElem hle⟩
   obtain ⟨b1,o1,hA1⟩:=(ajO.h _ hS.laid).at_.ea.zB hle
   have HP:=Lib.hid hp
   have HQ:Hid (∀w,L w→w.cell? ⟨b1,o1+j * 64,none⟩=some (.int .i64 p.1.op)):=Lib.hid fun w h=>by
    have h:=(ajO.h w h).at_.ea
    rw [hA1] at h
    have:=h.row HP 0 (.int .i64 p.1.op) rfl
    simpa using this
   clear hp hle
   have hji:(j:Int)<x.qE.n:=by omega
   go_wp2_with (first|(have hq:=iE;subst hq)|(have hq:=sE;subst hq)|((with_reducible refine aC (T:=3) ?_);refine asL aEP rfl rfl rfl (HQ.out _ hS.laid) ?_;(try simp only [ah,ak,au,ay,aA]))|refine s0 ?_|(refine s1 ?_;clear hS;intro w hS)|(refine s2 ?_;clear hS;intro g w hS)|(refine s4 ?_;clear hS;intro g cur cw w hw hcw hS)|(refine s3 ?_ ?_<;>intro hb<;>(try subst hb)<;>(try (exfalso;first|omega|exact Bool.noConfusion hb))))
   all_goals first
    |(go_ret
      refine ⟨aX ?_,hS.below⟩
      rw [HZ.out (.inr (.inr (.inr (by rw [←zA.out,List.all_map];exact awE (P:=fun p=>p.1.op==14) HP.out (by first|assumption|exact beq_eq_false_iff_ne.2 (by assumption)|exact asQ (by assumption))))))])
    |(go_roundw
      case rel=>exact ⟨j+1,by omega,by go_num,Lib.hid (arf (P:=fun p=>p.1.op==14) HV.out HP.out (by first|assumption|exact beq_iff_eq.2 (by assumption)|exact aro (by assumption))),Lib.hid hS⟩
      case measure=>simp [intOf];omega)
  ·have awL:j=x.qE.n:=by omega
   have aEe:¬(j:Int)<x.qE.n:=by omega
   have H4:Hid ((qE.all fun e=>e.op==14)=true):=Lib.hid (by
    have h:=HV.out
    rw [awL,HEN.out,List.take_length] at h
    rw [←zA.out,List.all_map];exact h)
   clear awL
   go_wp2_with (first|(have hq:=iE;subst hq)|(have hq:=sE;subst hq)|refine s0 ?_|(refine s1 ?_;clear hS;intro w hS)|(refine s2 ?_;clear hS;intro g w hS)|(refine s4 ?_;clear hS;intro g cur cw w hw hcw hS)|(refine s3 ?_ ?_<;>intro hb<;>(try subst hb)<;>(try (exfalso;first|omega|exact Bool.noConfusion hb))))
   all_goals go_ret
   all_goals refine ⟨aX ?_,hS.below⟩
   all_goals first
    |(rw [HZ.out (.inr (.inr (.inl ‹aej (x.ab mods specs qE)=false›)))];done)
    |(rw [HZ.out (.inl ‹(x.kind==3)=false›)];done)
    |(have h1:(x.kind==3)=true:=by first|assumption|exact beq_iff_eq.2 (by assumption)
      rw [show ((x.specs.n:Int)==0)=decide (specs.length=0) by rw [HN.out];exact asC]
      by_cases h0:specs.length=0
      ·rw [decide_eq_true h0,HY.out h1 h0 ‹aej (x.ab mods specs qE)=true› H4.out]
      ·rw [decide_eq_false h0,HZ.out (.inr (.inl h0))])
end Go.Proofs.YtdicgggkdmkklaaGreatDoor
namespace Go.Proofs.YtdicgggkdmkklaaGreatDoor
attribute [local irreducible] wpList Code.wp Calls aeh ad6 aej aqN aek
open Go.ChangeShapes Go.WideShapes Go.RowKit
theorem azg (x:Ax) (mods:List Md) (specs:List Sp) (es:List EV) (w0:World) (hl:anh x mods specs es w0):Calls Tryz.prog 3 #[.agg (Ax.cells x)] w0 fun e w'=>e= .returned (.bool true)∧Below w0.heap.size w0 w':=by
 have hS:=St.start hl (axS _ _ _ _)
 have aHe:Sub (anh x mods specs es) aew:=⟨fun _ h=>h.v⟩
 obtain ⟨I,hI⟩:∃I,aej (x.ab mods specs (es.map Prod.fst))=I:=⟨_,rfl⟩
 obtain ⟨T,hT⟩:∃T,aeh (x.ab mods specs (es.map Prod.fst))=T:=⟨_,rfl⟩
 obtain ⟨M,hM⟩:∃M,aqN (x.ab mods specs (es.map Prod.fst))=M:=⟨_,rfl⟩
 have HI:=Lib.hid hI
 have HT:=Lib.hid hT
 have HM:=Lib.hid hM
 clear hI hT hM
 go_in
 go_upto_region 3 with (first|(have hq:=iE;subst hq)|(have hq:=sE;subst hq)|(go_at_call 9;refine (aw2 x mods specs es _ hS.laid).mono ?_;rintro e w1 ⟨⟨b,rfl,hf⟩,hb⟩;have hS2:=hS.mono hb;clear hS;have hS:=hS2;have HF:=Lib.hid hf;clear hb hf hS2;cases b)|refine s0 ?_|(refine s1 ?_;clear hS;intro w hS)|(refine s2 ?_;clear hS;intro g w hS)|(refine s4 ?_;clear hS;intro g cur cw w hw hcw hS)|(refine s3 ?_ ?_<;>intro hb<;>(try subst hb)<;>(try (exfalso;first|omega|exact Bool.noConfusion hb))))
 ·go_ret
  exact ⟨aX rfl,hS.below⟩
 have HF:=HF.out (by trivial)
 have at_:=fun w (hl:anh x mods specs es w)=>hl.at_.few HF
 have j1:mG 11 #[.agg (Ax.cells x)] (anh x mods specs es) (.bool I):=⟨fun w hl=>by rw [←HI.out];exact aww hl.v (at_ w hl)⟩
 have j2:mG 12 #[.agg (Ax.cells x)] (anh x mods specs es) (.bool I):=⟨fun w hl=>by rw [←HI.out];exact aAO x mods specs _ es (aq5 x mods specs _ es) w ⟨hl.v,at_ w hl⟩ (auq _ _ _ _ _)⟩
 have j3:mG 13 #[.agg (Ax.cells x)] (anh x mods specs es) (.string (B T)):=⟨fun w hl=>by rw [←HT.out];exact avd hl.v (at_ w hl)⟩
 have j4:mG 14 #[.agg (Ax.cells x)] (anh x mods specs es) (.string (B T)):=⟨fun w hl=>by rw [←HT.out];exact aB1 x mods specs _ es (aq5 x mods specs _ es) w ⟨hl.v,at_ w hl⟩ (auq _ _ _ _ _)⟩
 have j5:mG 15 #[.agg (Ax.cells x)] (anh x mods specs es) (.bool M):=⟨fun w hl=>by rw [←HM.out];exact aCd hl.v (at_ w hl)⟩
 have j6:mG 16 #[.agg (Ax.cells x)] (anh x mods specs es) (.bool M):=⟨fun w hl=>by rw [←HM.out];exact aDo x mods specs _ es (aq5 x mods specs _ es) w ⟨hl.v,at_ w hl⟩ (auq _ _ _ _ _)⟩
 have q1:(I==I)=true:=by simp
 have q2:(T==T)=true:=by simp
 have q3:(M==M)=true:=by simp
 clear at_ HF HI HT HM
 go_wp2_with (first|(have hq:=iE;subst hq)|(have hq:=sE;subst hq)|refine s0 ?_|(refine s1 ?_;clear hS;intro w hS)|(refine s2 ?_;clear hS;intro g w hS)|(refine s4 ?_;clear hS;intro g cur cw w hw hcw hS)|(refine s3 ?_ ?_<;>intro hb<;>(try subst hb)<;>(try (exfalso;first|omega|exact Bool.noConfusion hb))))
 all_goals go_ret
 all_goals exact ⟨aX (by simp),hS.below⟩
end Go.Proofs.YtdicgggkdmkklaaGreatDoor
