/- Steps of a walk: strings.Cut, HasPrefix, HasSuffix by contract. Conditions: Laid for Cut. Plain words: how the reference reads a trigger (chapter 18); it reads as the program does. No program in si -/
import Derived.Test.YtdicgggkdmkklaaGreatDoorQ9
import Derived.Test.YtdicgggkdmkklaaGreatDoorQ3
import Derived.Test.YtdicgggkdmkklaaGreatDoorMTg
import Derived.Test.YtdicgggkdmkklaaGreatDoorQ4
set_option linter.all false
set_option maxRecDepth 100000
set_option maxHeartbeats 16000000
namespace Go.Proofs.YtdicgggkdmkklaaGreatDoor
open Go.ChangeShapes Go.WideShapes Go.RowKit
theorem asj (s l:Str):(Lib.cut s l).1.length≤s.length∧(Lib.cut s l).2.1.length≤s.length:=by
 unfold Lib.cut
 split<;>simp<;>omega
instance {s l:Str} [h:jr s]:jr (Lib.cut s l).1:=⟨by have:=h.lt;have:=(asj s l).1;omega⟩
instance {s l:Str} [h:jr s]:jr (Lib.cut s l).2.1:=⟨by have:=h.lt;have:=(asj s l).2;omega⟩
section
variable {L':World→Prop}
instance {p:ByteArray} {l:Str} [h:Lit p l] (s:Str) [Sub L' Laid] [jr s]:mG 122 #[.string (B s), .string p] L' (.tuple #[.string (B (Lib.cut s l).1), .string (B (Lib.cut s l).2.1), .bool (Lib.cut s l).2.2]):=
 ⟨fun w hl=>(Tryz.strings_Cut_shaped (B s) p w (Sub.sub (L':=Laid) w hl).shaped (by have:=jr.sz s;omega)).mono fun e w' ⟨he,n,hw⟩=>⟨he.trans (by rw [show p=B l from h.eq,show (B s).data.toList=L (B s) from rfl,show (B l).data.toList=L (B l) from rfl,cO,cO];rfl),hw ▸ below_drewN (Below.refl _ _) n⟩⟩
instance {p:ByteArray} {l:Str} [h:Lit p l] (s:Str):mG 131 #[.string (B s), .string p] L' (.bool (Lib.hasPrefix s l)):=⟨fun w _=>(Tryz.strings_HasPrefix (B s) p w).mono fun e w' h'=>⟨by rw [h'.1,show p=B l from h.eq];simp [cO],BA h'.2.symm⟩⟩
end
end Go.Proofs.YtdicgggkdmkklaaGreatDoor
namespace Go.Proofs.YtdicgggkdmkklaaGreatDoor
open Go.ChangeShapes Go.WideShapes Go.RowKit
end Go.Proofs.YtdicgggkdmkklaaGreatDoor
namespace Go.Proofs.YtdicgggkdmkklaaGreatDoor
attribute [local irreducible] wpList Code.wp Calls dh fK
open Go.ChangeShapes Go.WideShapes Go.RowKit
attribute [local simp] lD
attribute [local go_sem] KX KW
theorem ayJ:∀j k:Fin 15,wd ajX j=wd ajX k→j=k:=by decide +kernel
def aBb (o:Option Tg):Value:=match o with|some r=> .tuple #[.agg r.cells, .int .i64 0]|none=> .tuple #[.agg adY.cells, .int .i64 3]
theorem aBM (o:Option Tg):aBb o= .tuple #[.agg (Tg.cells (o.getD adY)), .int .i64 (BN o.isSome)]:=by cases o<;>rfl
def aqX (n:Str):Nat→Int
 |0=>0
 |j+1=>if X9 (j:Int)=n then (j:Int) else aqX n j
theorem axn (n:Str):aqX n 3=an8 n:=by
 show (if X9 2=n then (2:Int) else if X9 1=n then 1 else if X9 0=n then 0 else 0)=_
 unfold an8
 simp only [show X9 2=wd pwT 2 from rfl,show X9 1=wd pwT 1 from rfl, @eq_comm _ _ n]
 repeat' split
 all_goals rfl
def asn (s:Str) (o:Option Tg):Option Tg:=match o with|some t=>if ajU t=true∧aei t=s then some t else none|none=>none
theorem axT {s q:Str} {k who:Int} (h:an7 k=true) (hp:(bW (Lib.trimSuffix (Lib.trimPrefix q [40]) [41])).isNone=true):asn s (aex k who q)=none:=by
 rw [aex,if_pos h,Option.isNone_iff_eq_none.1 hp];rfl
theorem aso {q:Str} {k who:Int} (h:an7 k=true) (hp:(bW (Lib.trimSuffix (Lib.trimPrefix q [40]) [41])).isNone=false):aex k who q=some ⟨k,who,(bW (Lib.trimSuffix (Lib.trimPrefix q [40]) [41])).getD aaB⟩:=by
 rw [aex,if_pos h]
 cases hq:bW (Lib.trimSuffix (Lib.trimPrefix q [40]) [41]) with
 |none=>rw [hq] at hp;cases hp
 |some f=>rfl
theorem asT {q:Str} {k who:Int} (h:an7 k=false):aex k who q=some ⟨k,who,aaB⟩:=by rw [aex,h];rfl
theorem azn {s q:Str} {k who:Int} {f:aH} (hf:aex k who q=some ⟨k,who,f⟩) (h:ajU ⟨k,who,f⟩=false∨(aei ⟨k,who,f⟩==s)=false):asn s (aex k who q)=none:=by
 rw [hf,asn]
 refine if_neg fun e=> ?_
 rcases h with h|h
 ·rw [h] at e;cases e.1
 ·rw [e.2] at h;simp at h
theorem aAX {q:Str} {k who:Int} {f:aH} (hf:aex k who q=some ⟨k,who,f⟩) (h:ajU ⟨k,who,f⟩=true):asn (aei ⟨k,who,f⟩) (aex k who q)=some ⟨k,who,f⟩:=by
 rw [hf];exact if_pos ⟨h,rfl⟩
theorem aAy (s:Str) [jr s] (w0:World) (hl:ahi w0):Calls Tryz.prog 135 #[.string (B s)] w0 fun e w'=>e= .returned (aBb (am9 s))∧Below w0.heap.size w0 w':=by
 have h0:am9 s=asn s (match asK (Lib.cut s [32]).1 with|some k=>avL k (Lib.cut s [32]).2.1|none=>none):=by rw [(anm 32 s).1,(anm 32 s).2];rfl
 obtain ⟨o,ho⟩:∃o,am9 s=o:=⟨_,rfl⟩
 rw [ho] at h0 ⊢
 have H0:=Lib.hid h0
 clear h0 ho
 have hS:=St.start hl fun _ _ h hb=>h.below hb
 go_in
 go_wp2_with (first|(have hq:=iE;subst hq)|(have hq:=sE;subst hq)|refine s0 ?_|(refine s1 ?_;clear hS;intro w hS)|(refine s2 ?_;clear hS;intro g w hS)|(refine s4 ?_;clear hS;intro g cur cw w hw hcw hS)|(refine s3 ?_ ?_<;>intro hb<;>(try subst hb)<;>(try (exfalso;first|omega|exact Bool.noConfusion hb))))
 generalize g=gr at *
 have hq:jr (Lib.cut s [32]).2.1:=inferInstance
 generalize (Lib.cut s [32]).1=v at *
 generalize (Lib.cut s [32]).2.1=q at *
 go_loopw [5,7] (fun rv kv wr=>∃(k:Nat) (qx:Str),1≤k∧k≤15∧kv= .int .i64 k∧rv= .string (B qx)∧Hid (St ahi w0 [(gr,Tg.cells adY,TTg)] wr)∧((qx=q∧Hid (asK v=(List.range' k (15 - k)).find? fun k=>wd ajX k==v))∨Hid (o=none∧∀j,k≤j→j<15→¬wd ajX j=v))) (fun _ kv _=>15 - (intOf kv).toNat)
 case atStart=>exact ⟨1,q,by omega,by omega,rfl,rfl,Lib.hid hS, .inl ⟨rfl,Lib.hid rfl⟩⟩
 case round=>
  obtain ⟨k,qx,hk1,hk2,rfl,rfl,HS,HA⟩:=hrel
  clear hS
  have hS:=HS.out
  clear HS
  by_cases hlt:k<15
  ·have aF0:(k:Int)≤14:=by omega
   by_cases he:wd ajX k=v
   ·rcases HA with ⟨rfl,HA⟩|HA
    ·have HO:Hid (o=asn s (avL (k:Int) qx)):=Lib.hid (by
      have:asK v=some k:=NC hlt (by simpa using he) HA.out
      rw [H0.out,this])
     have HD:Hid (∀j,k+1≤j→j<15→¬wd ajX j=v):=Lib.hid (fun j h1 h2 e=>by
      have:=congrArg Fin.val (ayJ ⟨j,h2⟩ ⟨k,hlt⟩ (by show wd ajX j=wd ajX k;rw [e,he]))
      simp at this;omega)
     clear HA H0
     subst he
     have hv:=hS.laid.verb (k:=k) (by omega)
     cases hU:atp (k:Int) with
     |false=>
      have HO:Hid (o=asn s (aex (k:Int) 0 qx)):=Lib.hid (HO.out.trans (by rw [avL,hU];rfl))
      go_wp2_with (first|(have hq:=iE;subst hq)|(have hq:=sE;subst hq)|(go_at_call 79;refine akH ((hU ▸ ars (k:Int) (by omega) (by omega) _)) ?_)|refine s0 ?_|(refine s1 ?_;clear hS;intro w hS)|(refine s2 ?_;clear hS;intro g w hS)|(refine s4 ?_;clear hS;intro g cur cw w hw hcw hS)|(refine s3 ?_ ?_<;>intro hb<;>(try subst hb)<;>(try (exfalso;first|omega|exact Bool.noConfusion hb))))
      all_goals first
       |(refine res2 hS ?_
         refine ⟨ret_val ?_,hS.below⟩
         rw [HO.out]
         first
         |(rw [axT ‹_› ‹_›];rfl)
         |(rw [aAX (by first|exact aso ‹_› ‹_› |exact asT ‹_›) ‹_›];rfl))
       |(go_roundw
         case rel=>exact ⟨k+1,qx,by omega,by omega,by go_num,rfl,Lib.hid (by first|exact hS.tail|exact hS.tail.tail|exact hS.tail.tail.tail), .inr (Lib.hid ⟨HO.out.trans (azn (by first|exact aso ‹_› ‹_› |exact asT ‹_›) (by first|exact .inl ‹_› |exact .inr ‹_›)),HD.out⟩)⟩
         case measure=>simp [intOf];omega)
     |true=>
      have HO:Hid (o=asn s (aex (k:Int) (an8 (Lib.cut qx [32]).1) (Lib.cut qx [32]).2.1)):=Lib.hid (HO.out.trans (by rw [avL,hU,(anm 32 qx).1,(anm 32 qx).2];rfl))
      go_upto_region 11 with (first|(have hq:=iE;subst hq)|(have hq:=sE;subst hq)|(go_at_call 79;refine akH ((hU ▸ ars (k:Int) (by omega) (by omega) _)) ?_)|refine s0 ?_|(refine s1 ?_;clear hS;intro w hS)|(refine s2 ?_;clear hS;intro g w hS)|(refine s4 ?_;clear hS;intro g cur cw w hw hcw hS)|(refine s3 ?_ ?_<;>intro hb<;>(try subst hb)<;>(try (exfalso;first|omega|exact Bool.noConfusion hb))))
      have hn:jr (Lib.cut qx [32]).2.1:=inferInstance
      generalize (Lib.cut qx [32]).1=nm at *
      generalize (Lib.cut qx [32]).2.1=rs at *
      generalize g=gt at *
      go_loopw [46] (fun jv wj=>∃j:Nat,j≤3∧jv= .int .i64 j∧Hid (St ahi w0 [(gt,Tg.cells ⟨k,aqX nm j,aaB⟩,TTg),(gr,Tg.cells adY,TTg)] wj)) (fun jv _=>3 - (intOf jv).toNat)
      case atStart=>exact ⟨0,by omega,rfl,Lib.hid hS⟩
      case round=>
       clear hS
       obtain ⟨j,hj,rfl,HS⟩:=hrel
       have hS:=HS.out
       clear HS
       by_cases hj3:j<3
       ·by_cases hw:X9 (j:Int)=nm
        ·have hq:(X9 (j:Int)==nm)=true:=by simpa using hw
         have HN:Hid (aqX nm (j+1)=(j:Int)):=Lib.hid (by rw [aqX,if_pos hw])
         clear hw
         go_wp2_with (first|(have hq:=iE;subst hq)|(have hq:=sE;subst hq)|refine s0 ?_|(refine s1 ?_;clear hS;intro w hS)|(refine s2 ?_;clear hS;intro g w hS)|(refine s4 ?_;clear hS;intro g cur cw w hw hcw hS)|(refine s3 ?_ ?_<;>intro hb<;>(try subst hb)<;>(try (exfalso;first|omega|exact Bool.noConfusion hb))))
         go_roundw
         case rel=>exact ⟨j+1,by omega,by go_num,Lib.hid (by rw [HN.out];exact hS)⟩
         case measure=>simp [intOf];omega
        ·have hq:(X9 (j:Int)==nm)=false:=by simpa using hw
         have HN:Hid (aqX nm (j+1)=aqX nm j):=Lib.hid (by rw [aqX,if_neg hw])
         clear hw
         go_wp2_with (first|(have hq:=iE;subst hq)|(have hq:=sE;subst hq)|refine s0 ?_|(refine s1 ?_;clear hS;intro w hS)|(refine s2 ?_;clear hS;intro g w hS)|(refine s4 ?_;clear hS;intro g cur cw w hw hcw hS)|(refine s3 ?_ ?_<;>intro hb<;>(try subst hb)<;>(try (exfalso;first|omega|exact Bool.noConfusion hb))))
         go_roundw
         case rel=>exact ⟨j+1,by omega,by go_num,Lib.hid (by rw [HN.out];exact hS)⟩
         case measure=>simp [intOf];omega
       ·have hge:¬(j:Int)<3:=by omega
        rw [show aqX nm j=an8 nm by rw [show j=3 by omega];exact axn nm] at hS
        go_wp2_with (first|(have hq:=iE;subst hq)|(have hq:=sE;subst hq)|refine s0 ?_|(refine s1 ?_;clear hS;intro w hS)|(refine s2 ?_;clear hS;intro g w hS)|(refine s4 ?_;clear hS;intro g cur cw w hw hcw hS)|(refine s3 ?_ ?_<;>intro hb<;>(try subst hb)<;>(try (exfalso;first|omega|exact Bool.noConfusion hb))))
        all_goals first
         |(refine res2 hS ?_
           refine ⟨ret_val ?_,hS.below⟩
           rw [HO.out]
           first
           |(rw [axT ‹_› ‹_›];rfl)
           |(rw [aAX (by first|exact aso ‹_› ‹_› |exact asT ‹_›) ‹_›];rfl))
         |(go_roundw
           case rel=>exact ⟨k+1,rs,by omega,by omega,by go_num,rfl,Lib.hid (by first|exact hS.tail|exact hS.tail.tail|exact hS.tail.tail.tail), .inr (Lib.hid ⟨HO.out.trans (azn (by first|exact aso ‹_› ‹_› |exact asT ‹_›) (by first|exact .inl ‹_› |exact .inr ‹_›)),HD.out⟩)⟩
           case measure=>simp [intOf];omega)
    ·have HA:=HA.out
     have hv:=hS.laid.verb (k:=k) (by omega)
     have HN:Hid (o=none∧∀j,k+1≤j→j<15→¬wd ajX j=v):=Lib.hid ⟨HA.1,fun j h1 h2=>HA.2 j (by omega) h2⟩
     exact absurd he (HA.2 k (by omega) hlt)
   ·have hb:(wd ajX k==v)=false:=by simpa using he
    have hv:=hS.laid.verb (k:=k) (by omega)
    have HN:(qx=q∧Hid (asK v=(List.range' (k+1) (15 - (k+1))).find? fun k=>wd ajX k==v))∨Hid (o=none∧∀j,k+1≤j→j<15→¬wd ajX j=v):=
     HA.imp (fun h=>⟨h.1,Lib.hid (Q5 hlt (by simpa using he) h.2.out)⟩) fun h=>Lib.hid ⟨h.out.1,fun j h1 h2=>h.out.2 j (by omega) h2⟩
    have HE:=Lib.hid he
    clear he HA H0
    go_wp2_with (first|(have hq:=iE;subst hq)|(have hq:=sE;subst hq)|refine s0 ?_|(refine s1 ?_;clear hS;intro w hS)|(refine s2 ?_;clear hS;intro g w hS)|(refine s4 ?_;clear hS;intro g cur cw w hw hcw hS)|(refine s3 ?_ ?_<;>intro hb<;>(try subst hb)<;>(try (exfalso;first|omega|exact Bool.noConfusion hb))))
    go_roundw
    case rel=>exact ⟨k+1,qx,by omega,by omega,by go_num,rfl,Lib.hid hS,HN⟩
    case measure=>simp [intOf];omega
  ·have hge:¬(k:Int)≤14:=by omega
   have HN:Hid (o=none):=Lib.hid (by
    rcases HA with ⟨_,h⟩|h
    ·have:asK v=none:=by rw [h.out,show 15 - k=0 by omega];rfl
     rw [H0.out,this];rfl
    ·exact h.out.1)
   clear HA H0
   go_wp2_with (first|(have hq:=iE;subst hq)|(have hq:=sE;subst hq)|refine s0 ?_|(refine s1 ?_;clear hS;intro w hS)|(refine s2 ?_;clear hS;intro g w hS)|(refine s4 ?_;clear hS;intro g cur cw w hw hcw hS)|(refine s3 ?_ ?_<;>intro hb<;>(try subst hb)<;>(try (exfalso;first|omega|exact Bool.noConfusion hb))))
   refine res2 hS ?_
   exact ⟨ret_val (by rw [HN.out];rfl),hS.below⟩
instance aEy {L':World→Prop} [Sub L' ahi] (s:Str) [jr s]:mG 135 #[.string (B s)] L' (.tuple #[.agg (Tg.cells ((am9 s).getD adY)), .int .i64 (BN (am9 s).isSome)]):=⟨fun w hl=>by rw [←aBM];exact aAy s w (Sub.sub w hl)⟩
end Go.Proofs.YtdicgggkdmkklaaGreatDoor
namespace Go.Proofs.YtdicgggkdmkklaaGreatDoor
attribute [local irreducible] wpList Code.wp Calls dh fK
open Go.ChangeShapes Go.WideShapes Go.RowKit
attribute [local simp] lD
def atT (k:Int):Str:=if 1≤k∧k≤14 then wd ajX k.toNat else []
theorem aCb (k:Int):(atT k).length≤7:=by unfold atT;split;exact axl _;simp
instance {k:Int} :Len (atT k) 7:=⟨aCb k⟩
theorem ayh (k:Int):(1≤k∧k≤14∧atT k≠[]∧atT k=wd ajX k.toNat)∨(¬(1≤k∧k≤14)∧atT k=[]):=by
 by_cases h:1≤k∧k≤14
 ·refine .inl ⟨h.1,h.2,?_,if_pos h⟩
  have:∀j:Fin 15,1≤j.val→wd ajX j.val≠[]:=by decide +kernel
  rw [show atT k=wd ajX k.toNat from if_pos h]
  exact this ⟨k.toNat,by omega⟩ (by simp only;omega)
 ·exact .inr ⟨h,if_neg h⟩
theorem ay5 {k:Int} :atT k=[]↔ ¬(1≤k∧k≤14):=by
 rcases ayh k with ⟨a,b,c,_⟩|⟨a,b⟩
 ·exact ⟨fun e=>absurd e c,fun e=>absurd ⟨a,b⟩ e⟩
 ·exact ⟨fun _=>a,fun _=>b⟩
theorem aAT (k:Int) (w:World):Calls Tryz.prog 87 #[.int .i64 k] w fun e w'=>e= .returned (.string (B (atT k)))∧w=w':=by
 go_in
 go_wp2_with (have hq:=iE;subst hq)
 all_goals go_ret
 all_goals refine ⟨dL ?_,rfl⟩
 all_goals first|rfl|(simp only [beq_eq_false_iff_ne,ne_eq] at *;exact (if_neg (by omega)).symm)
instance aHA {L:World→Prop} (k:Int):mG 87 #[.int .i64 k] L (.string (B (atT k))):=⟨fun w _=>(aAT k w).mono fun _ _ h=>⟨h.1,h.2 ▸ Below.refl _ _⟩⟩
theorem azZ (k:Int) (w:World):Calls Tryz.prog 88 #[.int .i64 k] w fun e w'=>e= .returned (.bool (atp k))∧w=w':=by
 go_in
 go_wp2_with (have hq:=iE;subst hq)
 all_goals go_ret
 all_goals refine ⟨aX ?_,rfl⟩
 all_goals first|rfl|(simp_all [atp,Bool.or_assoc];done)
instance aG3 {L:World→Prop} (k:Int):mG 88 #[.int .i64 k] L (.bool (atp k)):=⟨fun w _=>(azZ k w).mono fun _ _ h=>⟨h.1,h.2 ▸ Below.refl _ _⟩⟩
theorem aCl (k:Int):an7 k=(decide (1≤k∧k≤14)&&(!atp k || k==9)):=by
 rw [Bool.eq_iff_iff]
 simp [an7,atp]
 omega
theorem aAS (k:Int) (w0:World):Calls Tryz.prog 89 #[.int .i64 k] w0 fun e w'=>e= .returned (.bool (an7 k))∧Below w0.heap.size w0 w':=by
 have hS:=St.Dj w0
 go_in
 go_wp2_with (first|(have hq:=iE;subst hq)|(have hq:=sE;subst hq)|refine s0 ?_|(refine s1 ?_;clear hS;intro w hS)|(refine s2 ?_;clear hS;intro g w hS)|(refine s4 ?_;clear hS;intro g cur cw w hw hcw hS)|(refine s3 ?_ ?_<;>intro hb<;>(try subst hb)<;>(try (exfalso;first|omega|exact Bool.noConfusion hb))))
 all_goals go_ret
 all_goals refine ⟨aX ?_,hS.below⟩
 all_goals (clear hS;rw [aCl];simp_all [ay5]<;>exact fin)
instance aEZ {L:World→Prop} (k:Int):mG 89 #[.int .i64 k] L (.bool (an7 k)):=⟨fun w _=>aAS k w⟩
theorem aER (k who:Int) (f:aH) (w0:World):Calls Tryz.prog 34 #[.agg (Tg.cells ⟨k,who,f⟩)] w0 fun e w'=>e= .returned (.bool (ajU ⟨k,who,f⟩))∧Below w0.heap.size w0 w':=by
 have hS:=St.Dj w0
 go_in
 go_wp2_with (first|(have hq:=iE;subst hq)|(have hq:=sE;subst hq)|refine s0 ?_|(refine s1 ?_;clear hS;intro w hS)|(refine s2 ?_;clear hS;intro g w hS)|(refine s4 ?_;clear hS;intro g cur cw w hw hcw hS)|(refine s3 ?_ ?_<;>intro hb<;>(try subst hb)<;>(try (exfalso;first|omega|exact Bool.noConfusion hb))))
 all_goals go_ret
 all_goals refine ⟨aX ?_,hS.below⟩
 all_goals (clear hS;simp_all [ajU,ay5]<;>exact fin)
instance aIb {L:World→Prop} (t:Tg):mG 34 #[.agg (Tg.cells t)] L (.bool (ajU t)):=⟨fun w _=>aER t.k t.who t.f w⟩
theorem aCj (k who:Int) (f:aH) (w0:World):Calls Tryz.prog 45 #[.agg (Tg.cells ⟨k,who,f⟩)] w0 fun e w'=>e= .returned (.string (B (aei ⟨k,who,f⟩)))∧Below w0.heap.size w0 w':=by
 have hS:=St.Dj w0
 go_in
 go_wp2_with (first|(have hq:=iE;subst hq)|(have hq:=sE;subst hq)|refine s0 ?_|(refine s1 ?_;clear hS;intro w hS)|(refine s2 ?_;clear hS;intro g w hS)|(refine s4 ?_;clear hS;intro g cur cw w hw hcw hS)|(refine s3 ?_ ?_<;>intro hb<;>(try subst hb)<;>(try (exfalso;first|omega|exact Bool.noConfusion hb))))
 all_goals go_ret
 all_goals refine ⟨dL ?_,hS.below⟩
 all_goals clear hS
 all_goals rcases ayh k with ⟨_,_,_,hv⟩|⟨_,_⟩
 all_goals first|(simp_all [aei,ajQ,aqW,aon];done)|(simp_all [aei,ajU]<;>omega)
theorem aCi (t:Tg) (w:World):Calls Tryz.prog 45 #[.agg t.cells] w fun e w'=>e= .returned (.string (B (aei t)))∧Below w.heap.size w w':=aCj t.k t.who t.f w
instance aG6 {L:World→Prop} (t:Tg):mG 45 #[.agg (Tg.cells t)] L (.string (B (aei t))):=⟨fun w _=>aCi t w⟩
end Go.Proofs.YtdicgggkdmkklaaGreatDoor
