/- Walks: package ability: Is. Conditions: LaidV; the lists lie in memory. -/
import Derived.Test.YtdicgggkdmkklaaGreatDoorMVArg
set_option linter.all false
set_option maxRecDepth 100000
set_option maxHeartbeats 16000000
namespace Go.Proofs.YtdicgggkdmkklaaGreatDoor
attribute [local irreducible] wpList Code.wp Calls dh fK aeu aej ajU ael aeF eH afp MI LX jl jW asz arb arE
open Go.ChangeShapes Go.WideShapes Go.RowKit
theorem ayW (x:Ax) (mods:List Md) (specs:List Sp) (qE:List Ef) (es:List EV) (L:World→Prop) [ajO:tX L x mods specs qE es] (w0:World) (hl:L w0) (hk:∀w1 w2,L w1→Below w1.heap.size w1 w2→L w2):
 Calls Tryz.prog 11 #[.agg (Ax.cells x)] w0 fun e w'=>e= .returned (.bool (aej (x.ab mods specs qE)))∧Below w0.heap.size w0 w':=by
 have HM:=Lib.hid (ajO.h _ hl).at_.mn
 have HN:=Lib.hid (ajO.h _ hl).at_.sn
 have HEN:=Lib.hid (ajO.h _ hl).at_.en
 have H9:=Lib.hid (ajO.h _ hl).at_.aAb
 have zA:=Lib.hid (ajO.h _ hl).at_.ee
 have hmx:x.specs.n<100000000:=by rw [HN.out];exact (ajO.h _ hl).at_.sl
 have hex:x.qE.n<1000000:=by rw [HEN.out];exact (ajO.h _ hl).at_.el
 have i1:=ajO.aEp
 have i2:=ajO.sM
 have i3:=ajO.sT
 have i4:=ajO.sL
 have i5:=ajO.aym
 have hS:=St.start hl hk
 obtain ⟨R,hR⟩:∃R,aej (x.ab mods specs qE)=R:=⟨_,rfl⟩
 rw [hR]
 have HR:=Lib.hid hR
 clear hR
 go_in
 go_upto_block 0 with (first|(have hq:=iE;subst hq)|(have hq:=sE;subst hq)|refine s0 ?_|(refine s1 ?_;clear hS;intro w hS)|(refine s2 ?_;clear hS;intro g w hS)|(refine s4 ?_;clear hS;intro g cur cw w hw hcw hS)|(refine s3 ?_ ?_<;>intro hb<;>(try subst hb)<;>(try (exfalso;first|omega|exact Bool.noConfusion hb))))
 go_cut [1,3] from 4 to 143 (fun av zv wc=>∃ga gz z,av= .pointer (some ⟨ga,0,none⟩)∧zv= .pointer (some ⟨gz,0,none⟩)∧AbK x z∧Hid (St L w0 [(gz,Ax.cells z,39),(ga,Ax.cells x,39)] wc))
 case first=>
  as_aux_lemma=>
  go_wp2_with (first|(have hq:=iE;subst hq)|(have hq:=sE;subst hq)|((with_reducible refine aT ?_);refine aq7 [0,1,2,3,4] [6,7] 5 6 g 1 25 (.agg (aH.cells x.f)) hS (lh:=[_,_,_,_,_]) (lt:=[_,_]) (by repeat constructor) (by infer_instance) (by simp only [List.map_cons,List.map_nil,List.getElem?_toArray,List.getElem?_cons_succ,List.getElem?_cons_zero];first|done|rfl) (by simp only [List.getElem?_toArray,List.getElem?_cons_succ,List.getElem?_cons_zero];first|done|rfl) (by simp only [List.map_cons,List.map_nil,List.getElem?_toArray,List.getElem?_cons_succ,List.getElem?_cons_zero];first|done|rfl) rfl rfl rfl rfl rfl rfl (by kernel_rfl) (by kernel_rfl) (by kernel_rfl) (by kernel_rfl) (by kernel_rfl) (by kernel_rfl) (by kernel_rfl) (by kernel_rfl) (by kernel_rfl) ?_)|(refine s10 ?_)|(refine aAW rfl rfl ?_;clear hS;intro w hS)|((with_reducible refine aT ?_);refine aq7 [0,1,2,3,4] [6,7] 5 6 g 18 31 (.agg (Pr.cells x.pr)) hS (lh:=[_,_,_,_,_]) (lt:=[_,_]) (by repeat constructor) (by infer_instance) (by simp only [List.map_cons,List.map_nil,List.getElem?_toArray,List.getElem?_cons_succ,List.getElem?_cons_zero];first|done|rfl) (by simp only [List.getElem?_toArray,List.getElem?_cons_succ,List.getElem?_cons_zero];first|done|rfl) (by simp only [List.map_cons,List.map_nil,List.getElem?_toArray,List.getElem?_cons_succ,List.getElem?_cons_zero];first|done|rfl) rfl rfl rfl rfl rfl rfl (by kernel_rfl) (by kernel_rfl) (by kernel_rfl) (by kernel_rfl) (by kernel_rfl) (by kernel_rfl) (by kernel_rfl) (by kernel_rfl) (by kernel_rfl) ?_)|((with_reducible refine aT ?_);refine aq7 [0,1,2,3,4] [6,7] 5 6 g 29 33 (.agg (Tg.cells x.t)) hS (lh:=[_,_,_,_,_]) (lt:=[_,_]) (by repeat constructor) (by infer_instance) (by simp only [List.map_cons,List.map_nil,List.getElem?_toArray,List.getElem?_cons_succ,List.getElem?_cons_zero];first|done|rfl) (by simp only [List.getElem?_toArray,List.getElem?_cons_succ,List.getElem?_cons_zero];first|done|rfl) (by simp only [List.map_cons,List.map_nil,List.getElem?_toArray,List.getElem?_cons_succ,List.getElem?_cons_zero];first|done|rfl) rfl rfl rfl rfl rfl rfl (by kernel_rfl) (by kernel_rfl) (by kernel_rfl) (by kernel_rfl) (by kernel_rfl) (by kernel_rfl) (by kernel_rfl) (by kernel_rfl) (by kernel_rfl) ?_)|refine s0 ?_|(refine s1 ?_;clear hS;intro w hS)|(refine s2 ?_;clear hS;intro g w hS)|(refine s4 ?_;clear hS;intro g cur cw w hw hcw hS)|(refine s3 ?_ ?_<;>intro hb<;>(try subst hb)<;>(try (exfalso;first|omega|exact Bool.noConfusion hb))))
  all_goals first
   |(go_ret
     refine ⟨aX ?_,hS.below⟩
     clear hS
     rw [←HR.out]
     first
     |(rw [azN (eq_of_beq ‹(x.kind==1)=true›) HN.out H9.out]
       first
       |(rw [‹aeu _ _=false›];rfl)
       |(rw [‹aeu _ _=true›, ‹dh x.f=false›];rfl)
       |(rw [‹aeu _ _=true›, ‹dh x.f=true›, ‹(x.f.zone==0)=false›];rfl)
       |(rw [‹aeu _ _=true›, ‹dh x.f=true›,show (x.f.zone==0)=true from beq_iff_eq.2 (by assumption)];exact aBw _)
       |(rw [‹aeu _ _=true›, ‹dh x.f=true›,show (x.f.zone==0)=false from beq_eq_false_iff_ne.2 (by assumption)];rfl))
     |(rw [aBE (eq_of_beq ‹(x.kind==5)=true›) HM.out HN.out H9.out]
       first
       |(rw [‹aeu _ _=false›];rfl)
       |(rw [‹aeu _ _=true›];rfl))
     |(rw [axZ (beq_eq_false_iff_ne.1 ‹(x.kind==1)=false›) (beq_eq_false_iff_ne.1 ‹(x.kind==2)=false›) (beq_eq_false_iff_ne.1 ‹(x.kind==3)=false›) (beq_eq_false_iff_ne.1 ‹(x.kind==4)=false›) (beq_eq_false_iff_ne.1 ‹(x.kind==5)=false›)]))
   |(go_meet;exact ⟨_,_,_,rfl,rfl, .inl ⟨by first|assumption|exact eq_of_beq (by assumption),rfl⟩,Lib.hid hS⟩)
   |(go_meet;exact ⟨_,_,_,rfl,rfl, .inr (.inl ⟨by first|assumption|exact eq_of_beq (by assumption),rfl⟩),Lib.hid hS⟩)
   |(go_meet;exact ⟨_,_,_,rfl,rfl, .inr (.inr ⟨by first|assumption|exact eq_of_beq (by assumption),rfl⟩),Lib.hid hS⟩)
 case rest=>
  as_aux_lemma=>
  clear hS
  obtain ⟨ga,g,z,rfl,rfl,hK,HS⟩:=hcut
  have HK:=Lib.hid hK
  have hS:=HS.out
  have HA:=Lib.hid (HR.out.symm.trans (aBf (specs:=specs) (qE:=qE) hK HM.out))
  clear HS hK
  go_wp2_with (first|(have hq:=iE;subst hq)|(have hq:=sE;subst hq)|((with_reducible refine aT ?_);refine aq7 [0,1,2,3,4] [6,7] 5 6 g 48 34 (.slice x.specs.a x.specs.n x.specs.c) hS (lh:=[_,_,_,_,_]) (lt:=[_,_]) (by repeat constructor) (by infer_instance) (by simp only [List.map_cons,List.map_nil,List.getElem?_toArray,List.getElem?_cons_succ,List.getElem?_cons_zero];first|done|rfl) (by simp only [List.getElem?_toArray,List.getElem?_cons_succ,List.getElem?_cons_zero];first|done|rfl) (by simp only [List.map_cons,List.map_nil,List.getElem?_toArray,List.getElem?_cons_succ,List.getElem?_cons_zero];first|done|rfl) rfl rfl rfl rfl rfl rfl (by kernel_rfl) (by kernel_rfl) (by kernel_rfl) (by kernel_rfl) (by kernel_rfl) (by kernel_rfl) (by kernel_rfl) (by kernel_rfl) (by kernel_rfl) ?_)|(refine s10 ?_)|(refine aAW rfl rfl ?_;clear hS;intro w hS)|refine s0 ?_|(refine s1 ?_;clear hS;intro w hS)|(refine s2 ?_;clear hS;intro g w hS)|(refine s4 ?_;clear hS;intro g cur cw w hw hcw hS)|(refine s3 ?_ ?_<;>intro hb<;>(try subst hb)<;>(try (exfalso;first|omega|exact Bool.noConfusion hb))))
  all_goals first
   |(go_ret
     refine ⟨aX ?_,hS.below⟩
     clear hS
     rw [HA.out]
     first
     |(rw [asQ ‹(!aeu _ _)=true›];rfl)
     |(rw [aCU (by show ¬specs.length≤4;have:=HN.out;omega)];simp;done)
     |(rw [aCV (by show qE.length=0∨8<qE.length;have:=H9.out;omega)];simp;done))
   |skip
  generalize hsa:x.specs.a=sa
  go_loopw [103] (fun iv wr=>∃j:Nat,j≤x.specs.n∧iv= .int .i64 j∧Hid ((specs.take j).all afp=true)∧Hid (St L w0 [(g,Ax.cells ⟨z.kind,z.f,z.mods,z.pr,z.slow,z.t,z.may,⟨x.specs.a,x.specs.n,x.specs.c⟩,⟨x.qE.a,x.qE.n,x.qE.c⟩,z.r⟩,39),(ga,Ax.cells x,39)] wr)) (fun iv _=>x.specs.n - (intOf iv).toNat)
  case atStart=>exact ⟨0,by omega,rfl,Lib.hid rfl,Lib.hid hS⟩
  case round=>
   clear hS
   obtain ⟨j,hj,rfl,HV,HS⟩:=hrel
   have hS:=HS.out
   clear HS
   by_cases hlt:j<x.specs.n
   ·obtain ⟨s,hs⟩:∃s,specs[j]? =some s:=⟨specs[j]'(by rw [←HN.out];exact hlt),List.getElem?_eq_getElem _⟩
    obtain ⟨b1,o1,hA1⟩:=(ajO.h _ hS.laid).at_.sa.zB (by rw [←HN.out];exact hlt)
    obtain rfl:=hsa.symm.trans hA1
    have HP:=Lib.hid hs
    have HQ:Hid (∀w,L w→w.rangeAt b1 (o1+j * 18) (Sp.cells s).toList):=Lib.hid fun w h=>by
     have h:=(ajO.h w h).at_.sa
     rw [hA1] at h
     exact h.row HP
    clear hs hsa hA1
    have hji:(j:Int)<x.specs.n:=by omega
    go_wp2_with (first|(have hq:=iE;subst hq)|(have hq:=sE;subst hq)|((with_reducible refine aC (T:=49) ?_);refine jk 49 rfl rfl rfl (HQ.out _ hS.laid) Tryz.underlying49 rfl (by kernel_rfl) ?_;(try simp only [ah,ak,au,ay,aA]))|refine s0 ?_|(refine s1 ?_;clear hS;intro w hS)|(refine s2 ?_;clear hS;intro g w hS)|(refine s4 ?_;clear hS;intro g cur cw w hw hcw hS)|(refine s3 ?_ ?_<;>intro hb<;>(try subst hb)<;>(try (exfalso;first|omega|exact Bool.noConfusion hb))))
    all_goals first
     |(go_ret
       refine ⟨aX ?_,hS.below⟩
       clear hS
       have h1:afp s=false:=by have h:=avP s;rw [‹(MI s).isEmpty=true›] at h;simpa using h.symm
       rw [HA.out,aCW (awE HP.out h1)];simp;done)
     |(go_roundw
       case rel=>
        have h1:afp s=true:=by have h:=avP s;rw [‹(MI s).isEmpty=false›] at h;simpa using h.symm
        exact ⟨j+1,by omega,by go_num,Lib.hid (arf HV.out HP.out h1),Lib.hid hS.tail⟩
       case measure=>simp [intOf];omega)
   ·clear hsa
    have hjn:j=x.specs.n:=by omega
    have hjx:¬(j:Int)<x.specs.n:=by omega
    have HV1:Hid (specs.all afp=true):=Lib.hid (by have h:=HV.out;rw [hjn,HN.out] at h;rwa [List.take_length] at h)
    clear HV hjn
    go_wp2_with (first|(have hq:=iE;subst hq)|(have hq:=sE;subst hq)|refine s0 ?_|(refine s1 ?_;clear hS;intro w hS)|(refine s2 ?_;clear hS;intro g w hS)|(refine s4 ?_;clear hS;intro g cur cw w hw hcw hS)|(refine s3 ?_ ?_<;>intro hb<;>(try subst hb)<;>(try (exfalso;first|omega|exact Bool.noConfusion hb))))
    generalize hea:x.qE.a=ea
    go_loopw [114] (fun iv wr=>∃j:Nat,j≤x.qE.n∧iv= .int .i64 j∧Hid (((es.take j).all fun p=>jl p.1 (specs.length:Int))=true)∧Hid (St L w0 [(g,Ax.cells ⟨z.kind,z.f,z.mods,z.pr,z.slow,z.t,z.may,⟨x.specs.a,x.specs.n,x.specs.c⟩,⟨x.qE.a,x.qE.n,x.qE.c⟩,z.r⟩,39),(ga,Ax.cells x,39)] wr)) (fun iv _=>x.qE.n - (intOf iv).toNat)
    case atStart=>exact ⟨0,by omega,rfl,Lib.hid rfl,Lib.hid hS⟩
    case round=>
     clear hS
     obtain ⟨j,hj,rfl,HV,HS⟩:=hrel
     have hS:=HS.out
     clear HS
     by_cases hlt:j<x.qE.n
     ·have hle:j<es.length:=by rw [←HEN.out];exact hlt
      obtain ⟨p,hp⟩:∃p,es[j]? =some p:=⟨es[j],List.getElem?_eq_getElem hle⟩
      obtain ⟨b1,o1,hA1⟩:=(ajO.h _ hS.laid).at_.ea.zB hle
      obtain rfl:=hea.symm.trans hA1
      have HP:=Lib.hid hp
      have HQ:Hid (∀w,L w→w.rangeAt b1 (o1+j * 64) (Em.cells (p.1.at p.2)).toList):=Lib.hid fun w h=>by
       have h:=(ajO.h w h).at_.ea
       rw [hA1] at h
       exact h.row HP
      have HSN:=Lib.hid (show ((x.specs.n:Nat):Int)=(specs.length:Int) by rw [HN.out])
      clear hp hle hea hA1
      have hji:(j:Int)<x.qE.n:=by omega
      go_wp2_with (first|(have hq:=iE;subst hq)|(have hq:=sE;subst hq)|((with_reducible refine aC (T:=kZ) ?_);refine jk kZ rfl rfl rfl (HQ.out _ hS.laid) Tryz.underlying67 rfl kY ?_;(try simp only [ah,ak,au,ay,aA]))|(go_at_call 29;refine c_call (v:= .bool (jl p.1 (specs.length:Int))) (fun hl=>by rw [HSN.out];exact KT p.1 p.2 (specs.length:Int) _ (Lib.hid rfl) _ ⟨(ajO.h _ hl).v.m,(ajO.h _ hl).at_.ea.mods HP⟩) hS ?_;clear hS;intro w hS)|refine s0 ?_|(refine s1 ?_;clear hS;intro w hS)|(refine s2 ?_;clear hS;intro g w hS)|(refine s4 ?_;clear hS;intro g cur cw w hw hcw hS)|(refine s3 ?_ ?_<;>intro hb<;>(try subst hb)<;>(try (exfalso;first|omega|exact Bool.noConfusion hb))))
      all_goals first
       |(go_ret
         refine ⟨aX ?_,hS.below⟩
         rw [HA.out,aCX (by show (qE.all fun e=>jl e (specs.length:Int))=false;rw [←zA.out,List.all_map];exact awE (P:=fun p=>jl p.1 (specs.length:Int)) HP.out (by first|assumption|exact asQ (by assumption)))];simp;done)
       |(go_roundw
         case rel=>exact ⟨j+1,by omega,by go_num,Lib.hid (arf (P:=fun p=>jl p.1 (specs.length:Int)) HV.out HP.out (by first|assumption|exact aro (by assumption))),Lib.hid hS.tail⟩
         case measure=>simp [intOf];omega)
     ·clear hea
      have awL:j=x.qE.n:=by omega
      have aEe:¬(j:Int)<x.qE.n:=by omega
      have HE:Hid (vE (x.ab mods specs qE)=true):=Lib.hid (aCY HV1.out (by show specs.length≤4;have:=HN.out;omega) (by
       show (qE.all fun e=>jl e (specs.length:Int))=true
       have h:=HV.out
       rw [awL,HEN.out,List.take_length] at h
       rw [←zA.out,List.all_map];exact h) (by show ¬qE.length=0;have:=H9.out;first|omega|(have h:=beq_eq_false_iff_ne.1 ‹((x.qE.n:Int)==0)=false›;omega)) (by show qE.length≤8;have:=H9.out;omega))
      clear HV HV1 awL i1 i2 i5
      have hax:=HA.out
      rw [HE.out] at hax
      rcases HK.out with ⟨hk,_⟩|⟨hk,_⟩|⟨hk,_⟩
      ·have n3:(x.kind != 3)=true:=by rw [hk];rfl
       have n4:(x.kind != 4)=true:=by rw [hk];rfl
       have e3:(x.kind==3)=false:=by rw [hk];rfl
       have e4:(x.kind==4)=false:=by rw [hk];rfl
       rw [e3,e4] at hax
       have HAX:=Lib.hid hax
       clear hk hax e3 e4 HA HE
       go_wp2_with (first|(have hq:=iE;subst hq)|(have hq:=sE;subst hq)|refine s0 ?_|(refine s1 ?_;clear hS;intro w hS)|(refine s2 ?_;clear hS;intro g w hS)|(refine s4 ?_;clear hS;intro g cur cw w hw hcw hS)|(refine s3 ?_ ?_<;>intro hb<;>(try subst hb)<;>(try (exfalso;first|omega|exact Bool.noConfusion hb))))
       all_goals go_ret
       all_goals (refine ⟨aX ?_,hS.below⟩;clear hS;rw [HAX.out,aro ‹(!aeu _ _)=false›];first
       |rfl
       |(have h:=aj1 x.pr;rw [aro ‹(!List.isEmpty (LX x.pr))=false›] at h;rw [show aeF x.pr=false by simpa using h.symm];rfl)
       |(have h:=aj1 x.pr;rw [asQ ‹(!List.isEmpty (LX x.pr))=true›] at h;rw [show aeF x.pr=true by simpa using h.symm];simp;done)
       |(simp [aj1,arp];done))
      ·have n3:(x.kind != 3)=false:=by rw [hk];rfl
       have n4:(x.kind != 4)=true:=by rw [hk];rfl
       have e3:(x.kind==3)=true:=by rw [hk];rfl
       have e4:(x.kind==4)=false:=by rw [hk];rfl
       rw [e3,e4] at hax
       have HAX:=Lib.hid hax
       clear hk hax e3 e4 HA HE
       go_wp2_with (first|(have hq:=iE;subst hq)|(have hq:=sE;subst hq)|refine s0 ?_|(refine s1 ?_;clear hS;intro w hS)|(refine s2 ?_;clear hS;intro g w hS)|(refine s4 ?_;clear hS;intro g cur cw w hw hcw hS)|(refine s3 ?_ ?_<;>intro hb<;>(try subst hb)<;>(try (exfalso;first|omega|exact Bool.noConfusion hb))))
       all_goals go_ret
       all_goals (refine ⟨aX ?_,hS.below⟩;clear hS;rw [HAX.out,aro ‹(!aeu _ _)=false›];first
       |rfl
       |(have h:=aj1 x.pr;rw [aro ‹(!List.isEmpty (LX x.pr))=false›] at h;rw [show aeF x.pr=false by simpa using h.symm];rfl)
       |(have h:=aj1 x.pr;rw [asQ ‹(!List.isEmpty (LX x.pr))=true›] at h;rw [show aeF x.pr=true by simpa using h.symm];simp;done)
       |(simp [aj1,arp];done))
      ·have n3:(x.kind != 3)=true:=by rw [hk];rfl
       have n4:(x.kind != 4)=false:=by rw [hk];rfl
       have e3:(x.kind==3)=false:=by rw [hk];rfl
       have e4:(x.kind==4)=true:=by rw [hk];rfl
       rw [e3,e4] at hax
       have HAX:=Lib.hid hax
       clear hk hax e3 e4 HA HE
       go_wp2_with (first|(have hq:=iE;subst hq)|(have hq:=sE;subst hq)|refine s0 ?_|(refine s1 ?_;clear hS;intro w hS)|(refine s2 ?_;clear hS;intro g w hS)|(refine s4 ?_;clear hS;intro g cur cw w hw hcw hS)|(refine s3 ?_ ?_<;>intro hb<;>(try subst hb)<;>(try (exfalso;first|omega|exact Bool.noConfusion hb))))
       all_goals go_ret
       all_goals (refine ⟨aX ?_,hS.below⟩;clear hS;rw [HAX.out,aro ‹(!aeu _ _)=false›];first
       |rfl
       |(have h:=aj1 x.pr;rw [aro ‹(!List.isEmpty (LX x.pr))=false›] at h;rw [show aeF x.pr=false by simpa using h.symm];rfl)
       |(have h:=aj1 x.pr;rw [asQ ‹(!List.isEmpty (LX x.pr))=true›] at h;rw [show aeF x.pr=true by simpa using h.symm];simp;done)
       |(simp [aj1,arp];done))
end Go.Proofs.YtdicgggkdmkklaaGreatDoor
