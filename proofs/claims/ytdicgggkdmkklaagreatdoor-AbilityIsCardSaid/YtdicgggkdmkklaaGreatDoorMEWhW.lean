/- Walks: package effect: whole. Conditions: LaidM; the modifications lie where the slice says. -/
import Derived.Test.YtdicgggkdmkklaaGreatDoorQ18
import Derived.Deep.DeepCutAuto
set_option linter.all false
set_option maxRecDepth 100000
set_option maxHeartbeats 16000000
namespace Go.Proofs.YtdicgggkdmkklaaGreatDoor
attribute [local irreducible] wpList Code.wp Calls iY iT dh eH jY dw isName fRef rG rH oC fCard qL oz ou vU sV fK uV textOf
open Go.ChangeShapes Go.WideShapes Go.RowKit
theorem vW {u a b r:Bool} (h:r=if u=true then a else b) (h1:false=(u&& !a)) (h2:false=(!u&& !b)):r=true:=by
 revert h h1 h2;cases u<;>cases a<;>cases b<;>cases r<;>decide
theorem mD {u a b r:Bool} (h:r=if u=true then a else b) (h1:true=(u&& !a)∨true=(!u&& !b)):r=false:=by
 revert h h1;cases u<;>cases a<;>cases b<;>cases r<;>decide
theorem UH {e:Ef} {specs:Int} (h:fRef e specs=false):jw e specs=false:=by unfold jw;rw [h];simp
theorem UJ {e:Ef} {specs:Int} (h:rG e=false):jw e specs=false:=by unfold jw;rw [h];simp
theorem UK {e:Ef} {specs:Int} (h:rH e=false):jw e specs=false:=by unfold jw;rw [h];simp
theorem UL {e:Ef} {specs:Int} (h:oC e=false):jw e specs=false:=by unfold jw;rw [h];simp
theorem UM {e:Ef} {specs:Int} (h:fCard e=false):jw e specs=false:=by unfold jw;rw [h];simp
theorem UN {e:Ef} {specs:Int} (h:qL e=false):jw e specs=false:=by unfold jw;rw [h];simp
theorem UO {e:Ef} {specs:Int} (h:oz e=false):jw e specs=false:=by unfold jw;rw [h];simp
theorem UQ {e:Ef} {specs:Int} (h:ou e=false):jw e specs=false:=by unfold jw;rw [h];simp
theorem adL (op:Int) (ref:Rf) (amt:Am) (ctr zone:Int) (card:Str) (flt:aH) (pool:Po) (mods:List Md) (va:Option Addr) (vn vc:Nat) (specs:Int) (p1 p2 p3 p4 p5 p6 p7 p8:Bool) (hU:Dk op=⟨p1,p2,p3,p4,p5,p6,p7,p8⟩) (w0:World) (hl:bQ ⟨op,ref,amt,ctr,zone,B card,flt,pool,mods⟩ ⟨va,vn,vc⟩ w0):
 Calls Tryz.prog 77 #[.agg (Em.cells ⟨op,ref,amt,ctr,zone,B card,flt,pool,⟨va,vn,vc⟩⟩), .agg (Us.cells ⟨p1,p2,p3,p4,p5,p6,p7,p8⟩), .int .i64 specs] w0 fun e w'=>e= .returned (.bool (jw ⟨op,ref,amt,ctr,zone,B card,flt,pool,mods⟩ specs))∧Below w0.heap.size w0 w':=by
 have U1:=Lib.hid (show uR op=p1 from congrArg Us.ref hU)
 have U2:=Lib.hid (show uA op=p2 from congrArg Us.amt hU)
 have U3:=Lib.hid (show uK op=p3 from congrArg Us.ctr hU)
 have U4:=Lib.hid (show uZ op=p4 from congrArg Us.zone hU)
 have U5:=Lib.hid (show uC op=p5 from congrArg Us.card hU)
 have U6:=Lib.hid (show uF op=p6 from congrArg Us.flt hU)
 have U7:=Lib.hid (show uP op=p7 from congrArg Us.pool hU)
 have U8:=Lib.hid (show uM op=p8 from congrArg Us.mods hU)
 clear hU
 obtain ⟨Z,hZ⟩:∃z,Hz op=z:=⟨_,rfl⟩
 have HZ:=Lib.hid hZ
 obtain ⟨a1,h1⟩:∃b,iY ref specs=b:=⟨_,rfl⟩
 obtain ⟨b1,k1⟩:∃b,vU ref dY=b:=⟨_,rfl⟩
 obtain ⟨a2,h2⟩:∃b,iT amt=b:=⟨_,rfl⟩
 obtain ⟨b2,k2⟩:∃b,sV amt dG=b:=⟨_,rfl⟩
 obtain ⟨T3,h3⟩:∃T,dw ctr=T:=⟨_,rfl⟩
 obtain ⟨b3,k3⟩:∃b,(ctr==0)=b:=⟨_,rfl⟩
 obtain ⟨b4,k4⟩:∃b,(zone==0)=b:=⟨_,rfl⟩
 obtain ⟨a5,h5⟩:∃b,isName (L (B card))=b:=⟨_,rfl⟩
 obtain ⟨b5,k5⟩:∃b,(card==[])=b:=⟨_,rfl⟩
 obtain ⟨f6,h6⟩:∃b,dh flt=b:=⟨_,rfl⟩
 obtain ⟨z6,j6⟩:∃b,(flt.zone==Z)=b:=⟨_,rfl⟩
 obtain ⟨b6,k6⟩:∃b,fK flt aaB=b:=⟨_,rfl⟩
 obtain ⟨T7,h7⟩:∃T,jY pool=T:=⟨_,rfl⟩
 obtain ⟨b7,k7⟩:∃b,uV pool bn=b:=⟨_,rfl⟩
 obtain ⟨T8,h8⟩:∃T,eH mods=T:=⟨_,rfl⟩
 obtain ⟨b8,k8⟩:∃b,decide (mods.length=0)=b:=⟨_,rfl⟩
 obtain ⟨a3,h3'⟩:∃b,(T3==[])= !b:=⟨!(T3==[]),by simp⟩
 obtain ⟨c7,h7'⟩:∃b,(T7==[])= !b:=⟨!(T7==[]),by simp⟩
 obtain ⟨a8,h8'⟩:∃b,(T8==[])= !b:=⟨!(T8==[]),by simp⟩
 have F1:Hid (fRef ⟨op,ref,amt,ctr,zone,B card,flt,pool,mods⟩ specs=if p1=true then a1 else b1):=Lib.hid (by unfold fRef;simp only;rw [U1.out,h1,k1])
 have F2:Hid (rG ⟨op,ref,amt,ctr,zone,B card,flt,pool,mods⟩=if p2=true then a2 else b2):=Lib.hid (by unfold rG;simp only;rw [U2.out,h2,k2])
 have F3:Hid (rH ⟨op,ref,amt,ctr,zone,B card,flt,pool,mods⟩=if p3=true then a3 else b3):=Lib.hid (by unfold rH;simp only;rw [U3.out,h3,h3',k3,Bool.not_not])
 have F4:Hid (oC ⟨op,ref,amt,ctr,zone,B card,flt,pool,mods⟩=if p4=true then (decide (0≤zone)&&decide (zone≤4)) else b4):=Lib.hid (by unfold oC;simp only;rw [U4.out,k4])
 have F5:Hid (fCard ⟨op,ref,amt,ctr,zone,B card,flt,pool,mods⟩=if p5=true then a5 else b5):=Lib.hid (by unfold fCard;simp only;rw [U5.out,h5,cO,k5])
 have F6:Hid (qL ⟨op,ref,amt,ctr,zone,B card,flt,pool,mods⟩=if p6=true then (f6&&z6) else b6):=Lib.hid (by unfold qL;simp only;rw [U6.out,h6,HZ.out,j6,k6])
 have F7:Hid (oz ⟨op,ref,amt,ctr,zone,B card,flt,pool,mods⟩=if p7=true then (!b7&&c7) else b7):=Lib.hid (by unfold oz;simp only;rw [U7.out,k7,h7,h7',Bool.not_not])
 have F8:Hid (ou ⟨op,ref,amt,ctr,zone,B card,flt,pool,mods⟩=if p8=true then a8 else b8):=Lib.hid (by unfold ou;simp only;rw [U8.out,h8,h8',k8,Bool.not_not])
 have e1:=fun wx=>(aoJ ref ⟨dY.kind,dY.n,dY.f⟩ wx).trans (by rw [show (⟨dY.kind,dY.n,dY.f⟩:Rf)=dY from rfl,k1])
 have e2:=fun wx=>(aoF amt ⟨dG.k,dG.n,dG.c,dG.f⟩ wx).trans (by rw [show (⟨dG.k,dG.n,dG.c,dG.f⟩:Am)=dG from rfl,k2])
 have e3:(ctr != 0)= !b3:=by rw [←k3];rfl
 have e4:(zone != 0)= !b4:=by rw [←k4];rfl
 have e5:(card != [])= !b5:=by rw [←k5];rfl
 have k5i:card.isEmpty=b5:=by rw [←k5];cases card<;>rfl
 have e6:=fun wx=>(aoH flt ⟨aaB.zone,aaB.who,aaB.self,aaB.types,aaB.aV,aaB.colors,aaB.aP,aaB.sub,aaB.keys,aaB.dJ,aaB.pk,aaB.pn,aaB.tk,aaB.tn,aaB.vk,aaB.vn⟩ wx).trans (by rw [show (⟨aaB.zone,aaB.who,aaB.self,aaB.types,aaB.aV,aaB.colors,aaB.aP,aaB.sub,aaB.keys,aaB.dJ,aaB.pk,aaB.pn,aaB.tk,aaB.tn,aaB.vk,aaB.vn⟩:aH)=aaB from rfl,k6])
 have e6z:(flt.zone != Z)= !z6:=by rw [←j6];rfl
 have e7:=fun wx=>(aoI pool ⟨bn.g,bn.c0,bn.c1,bn.c2,bn.c3,bn.c4⟩ wx).trans (by rw [show (⟨bn.g,bn.c0,bn.c1,bn.c2,bn.c3,bn.c4⟩:Po)=bn from rfl,k7])
 have e7e:=fun wx=>(OV pool ⟨bn.g,bn.c0,bn.c1,bn.c2,bn.c3,bn.c4⟩ wx).trans (by rw [show (⟨bn.g,bn.c0,bn.c1,bn.c2,bn.c3,bn.c4⟩:Po)=bn from rfl,k7])
 have e8:decide ((vn:Int) > 0)= !b8:=by
  rw [←k8]
  have:=hl.2.1
  simp only at this
  rw [this];cases mods<;>simp
 have e8':decide (0<(vn:Int))= !b8:=e8
 have G1:=Lib.hid h1
 have G2:=Lib.hid h2
 have G3:=Lib.hid h3
 have G5:=Lib.hid h5
 have G6:=Lib.hid h6
 have G7:=Lib.hid h7
 have G8:=Lib.hid h8
 clear h1 h2 h3 h5 h6 h7 h8 hZ k1 k2 k6 k7 k8 k3 k4 k5 j6
 have hS:=St.start hl (jL _ _)
 go_enter Tryz.func77,Tryz.ntmps77
 go_upto_if 10 with (first|fail|((refine aF rfl ?_);(first|((with_reducible refine aC (T:=3) ?_);(first|(refine lq rfl hS rfl rfl (by repeat constructor) ?_));(try simp only [ah,ak,au,ay,aA]))|((with_reducible refine bI ?_);(first|(refine aG rfl hS rfl rfl ?_;intro g w hS));(try simp only [ah,ak,au,ay,aA]))))|((fail_if_success (with_reducible refine aB ?_));(first|fail)))
 obtain ⟨rows,hrows,hS⟩:∃rows,rows=[(g,Us.cells ⟨p1,p2,p3,p4,p5,p6,p7,p8⟩,112),(_,Em.cells ⟨op,ref,amt,ctr,zone,B card,flt,pool,⟨va,vn,vc⟩⟩,67)]∧St (bQ ⟨op,ref,amt,ctr,zone,B card,flt,pool,mods⟩ ⟨va,vn,vc⟩) w0 rows w:=⟨_,rfl,hS⟩
 have HRW:=Lib.hid hrows
 clear hrows
 have HS0:=Lib.hid hS
 clear hS
 have hS:=HS0.out
 rw [HRW.out] at hS
 go_cut [7] (fun zv wc=>zv= .int .i64 Z∧Hid (St (bQ ⟨op,ref,amt,ctr,zone,B card,flt,pool,mods⟩ ⟨va,vn,vc⟩) w0 rows wc))
 case first=>
  as_aux_lemma=>
   by_cases ho:op=21
   ·have ho':(op==21)=true:=by simpa using ho
    have hz:Z=2:=by rw [←HZ.out];exact if_pos ho
    have HZ2:=Lib.hid hz
    clear ho hz
    go_wp2_with (first|fail|((refine aF rfl ?_);(first|fail))|((fail_if_success (with_reducible refine aB ?_));(first|fail)))
    all_goals go_meet
    all_goals exact ⟨by rw [HZ2.out],Lib.hid (by rw [HRW.out];exact hS)⟩
   ·have ho':(op==21)=false:=by simpa using ho
    have hz:Z=0:=by rw [←HZ.out];exact if_neg ho
    have HZ2:=Lib.hid hz
    clear ho hz
    go_wp2_with (first|fail|((refine aF rfl ?_);(first|fail))|((fail_if_success (with_reducible refine aB ?_));(first|fail)))
    all_goals go_meet
    all_goals exact ⟨by rw [HZ2.out],Lib.hid (by rw [HRW.out];exact hS)⟩
 case rest=>
 as_aux_lemma=>
 clear hS
 obtain ⟨rfl,HS⟩:=hcut
 have hS:=HS.out
 rw [HRW.out] at hS
 clear HS
 go_upto_region 4 with (first|fail|((refine aF rfl ?_);(first|fail))|((fail_if_success (with_reducible refine aB ?_));(first|fail)))
 go_cut [11] (fun tv wc=>∃t:Bool,tv= .bool t∧Hid (t=(p1&& !a1))∧Hid (St (bQ ⟨op,ref,amt,ctr,zone,B card,flt,pool,mods⟩ ⟨va,vn,vc⟩) w0 rows wc))
 case first=>
  as_aux_lemma=>
   cases p1
   ·skip
    go_wp2_with (first|fail|((refine aF rfl ?_);(first|((with_reducible refine bG ?_);(first|(refine aS rfl ?_));(try simp only [ah,ak,au,ay,aA]))|((with_reducible refine aC (T:=4) ?_);(first|(refine Kz rfl hS rfl rfl (by repeat constructor) ?_));(try simp only [ah,ak,au,ay,aA]))))|((fail_if_success (with_reducible refine aB ?_));(first|fail)))
    all_goals go_meet
    all_goals exact ⟨_,rfl,Lib.hid (by first|rfl|(simp;done)|(simp_all;done)|(rw [Bool.eq_iff_iff];simp_all;done)|(rw [Bool.eq_iff_iff];simp_all;omega)),Lib.hid (by rw [HRW.out];exact hS)⟩
   ·skip
    go_wp2_with (first|fail|((refine aF rfl ?_);(first|((with_reducible refine aC (T:=4) ?_);(first|(refine Kz rfl hS rfl rfl (by repeat constructor) ?_));(try simp only [ah,ak,au,ay,aA]))|((with_reducible refine aC (T:=61) ?_);(first|(refine EP rfl hS rfl rfl (by repeat constructor) ?_));(try simp only [ah,ak,au,ay,aA]))))|((fail_if_success (with_reducible refine aB ?_));(first|(go_at_call 158;(with_reducible refine (St.call hS fun hl=>aps _ _ _ G1 _ hl.1.base).mono ?_);rintro e w ⟨rfl,hS⟩))))
    all_goals go_meet
    all_goals exact ⟨_,rfl,Lib.hid (by first|rfl|(simp;done)|(simp_all;done)|(rw [Bool.eq_iff_iff];simp_all;done)|(rw [Bool.eq_iff_iff];simp_all;omega)),Lib.hid (by rw [HRW.out];exact hS)⟩
 case rest=>
 as_aux_lemma=>
 clear hS
 obtain ⟨t,rfl,HT,HS⟩:=hcut
 have hS:=HS.out
 rw [HRW.out] at hS
 clear HS
 cases t with
 |true=>
  have HN:=Lib.hid (UH (specs:=specs) (mD F1.out (.inl HT.out)))
  go_wp2_with (first|fail|((refine aF rfl ?_);(first|fail))|((fail_if_success (with_reducible refine aB ?_));(first|fail)))
  all_goals go_ret
  all_goals exact ⟨aX HN.out.symm,hS.below⟩
 |false=>
 go_upto_if 11 with (first|fail|((refine aF rfl ?_);(first|fail))|((fail_if_success (with_reducible refine aB ?_));(first|fail)))
 go_cut [11] (fun tv wc=>∃t:Bool,tv= .bool t∧Hid (t=(!p1&& !b1))∧Hid (St (bQ ⟨op,ref,amt,ctr,zone,B card,flt,pool,mods⟩ ⟨va,vn,vc⟩) w0 rows wc))
 case first=>
  as_aux_lemma=>
   cases p1
   ·skip
    go_wp2_with (first|fail|((refine aF rfl ?_);(first|((with_reducible refine aC (T:=4) ?_);(first|(refine Kz rfl hS rfl rfl (by repeat constructor) ?_));(try simp only [ah,ak,au,ay,aA]))|((with_reducible refine aC (T:=61) ?_);(first|(refine EP rfl hS rfl rfl (by repeat constructor) ?_));(try simp only [ah,ak,au,ay,aA]))|((with_reducible refine Qr ?_);refine YA rfl ?_;(try simp only [ah,ak,au,ay,aA]))))|((fail_if_success (with_reducible refine aB ?_));(first|fail)))
    all_goals go_meet
    all_goals exact ⟨_,rfl,Lib.hid (by first|rfl|(simp;done)|(simp_all;done)),Lib.hid (by rw [HRW.out];exact hS)⟩
   ·skip
    go_wp2_with (first|fail|((refine aF rfl ?_);(first|((with_reducible refine bG ?_);(first|(refine aS rfl ?_));(try simp only [ah,ak,au,ay,aA]))|((with_reducible refine aC (T:=4) ?_);(first|(refine Kz rfl hS rfl rfl (by repeat constructor) ?_));(try simp only [ah,ak,au,ay,aA]))))|((fail_if_success (with_reducible refine aB ?_));(first|fail)))
    all_goals go_meet
    all_goals exact ⟨_,rfl,Lib.hid (by first|rfl|(simp;done)|(simp_all;done)),Lib.hid (by rw [HRW.out];exact hS)⟩
 case rest=>
 as_aux_lemma=>
 clear hS
 obtain ⟨t,rfl,HT2,HS⟩:=hcut
 have hS:=HS.out
 rw [HRW.out] at hS
 clear HS
 cases t with
 |true=>
  have HN:=Lib.hid (UH (specs:=specs) (mD F1.out (.inr HT2.out)))
  go_wp2_with (first|fail|((refine aF rfl ?_);(first|fail))|((fail_if_success (with_reducible refine aB ?_));(first|fail)))
  all_goals go_ret
  all_goals exact ⟨aX HN.out.symm,hS.below⟩
 |false=>
 have Y1:=Lib.hid (vW F1.out HT.out HT2.out)
 clear HT HT2
 go_upto_region 7 with (first|fail|((refine aF rfl ?_);(first|fail))|((fail_if_success (with_reducible refine aB ?_));(first|((with_reducible refine l9 ?_);refine wp_cond_split rfl (fun hb=> ?_) (fun hb=> ?_)<;>(first|(exfalso;exact Bool.noConfusion hb)|(obtain rfl:=eq_of_beq hb)|skip)<;>(try simp only [decide_eq_true_eq,decide_eq_false_iff_not,Bool.and_eq_true,Bool.or_eq_true,Bool.and_eq_false_iff,Bool.or_eq_false_iff] at hb)<;>go_prune))))
 go_cut [30] (fun tv wc=>∃t:Bool,tv= .bool t∧Hid (t=(p2&& !a2))∧Hid (St (bQ ⟨op,ref,amt,ctr,zone,B card,flt,pool,mods⟩ ⟨va,vn,vc⟩) w0 rows wc))
 case first=>
  as_aux_lemma=>
   cases p2
   ·skip
    go_wp2_with (first|fail|((refine aF rfl ?_);(first|((with_reducible refine bG ?_);(first|(refine aS rfl ?_));(try simp only [ah,ak,au,ay,aA]))|((with_reducible refine aC (T:=4) ?_);(first|(refine KA rfl hS rfl rfl (by repeat constructor) ?_));(try simp only [ah,ak,au,ay,aA]))))|((fail_if_success (with_reducible refine aB ?_));(first|fail)))
    all_goals go_meet
    all_goals exact ⟨_,rfl,Lib.hid (by first|rfl|(simp;done)|(simp_all;done)|(rw [Bool.eq_iff_iff];simp_all;done)|(rw [Bool.eq_iff_iff];simp_all;omega)),Lib.hid (by rw [HRW.out];exact hS)⟩
   ·skip
    go_wp2_with (first|fail|((refine aF rfl ?_);(first|((with_reducible refine aC (T:=4) ?_);(first|(refine KA rfl hS rfl rfl (by repeat constructor) ?_));(try simp only [ah,ak,au,ay,aA]))|((with_reducible refine aC (T:=63) ?_);(first|(refine Bc rfl hS rfl rfl (by repeat constructor) ?_));(try simp only [ah,ak,au,ay,aA]))))|((fail_if_success (with_reducible refine aB ?_));(first|(go_at_call 159;(with_reducible refine (St.call hS fun hl=>aqj _ _ G2 _ hl.1).mono ?_);rintro e w ⟨rfl,hS⟩))))
    all_goals go_meet
    all_goals exact ⟨_,rfl,Lib.hid (by first|rfl|(simp;done)|(simp_all;done)|(rw [Bool.eq_iff_iff];simp_all;done)|(rw [Bool.eq_iff_iff];simp_all;omega)),Lib.hid (by rw [HRW.out];exact hS)⟩
 case rest=>
 as_aux_lemma=>
 clear hS
 obtain ⟨t,rfl,HT,HS⟩:=hcut
 have hS:=HS.out
 rw [HRW.out] at hS
 clear HS
 cases t with
 |true=>
  have HN:=Lib.hid (UJ (specs:=specs) (mD F2.out (.inl HT.out)))
  go_wp2_with (first|fail|((refine aF rfl ?_);(first|fail))|((fail_if_success (with_reducible refine aB ?_));(first|fail)))
  all_goals go_ret
  all_goals exact ⟨aX HN.out.symm,hS.below⟩
 |false=>
 go_upto_if 30 with (first|fail|((refine aF rfl ?_);(first|fail))|((fail_if_success (with_reducible refine aB ?_));(first|fail)))
 go_cut [30] (fun tv wc=>∃t:Bool,tv= .bool t∧Hid (t=(!p2&& !b2))∧Hid (St (bQ ⟨op,ref,amt,ctr,zone,B card,flt,pool,mods⟩ ⟨va,vn,vc⟩) w0 rows wc))
 case first=>
  as_aux_lemma=>
   cases p2
   ·skip
    go_wp2_with (first|fail|((refine aF rfl ?_);(first|((with_reducible refine aC (T:=4) ?_);(first|(refine KA rfl hS rfl rfl (by repeat constructor) ?_));(try simp only [ah,ak,au,ay,aA]))|((with_reducible refine aC (T:=63) ?_);(first|(refine Bc rfl hS rfl rfl (by repeat constructor) ?_));(try simp only [ah,ak,au,ay,aA]))|((with_reducible refine Oq ?_);refine V8 rfl ?_;(try simp only [ah,ak,au,ay,aA]))))|((fail_if_success (with_reducible refine aB ?_));(first|fail)))
    all_goals go_meet
    all_goals exact ⟨_,rfl,Lib.hid (by first|rfl|(simp;done)|(simp_all;done)),Lib.hid (by rw [HRW.out];exact hS)⟩
   ·skip
    go_wp2_with (first|fail|((refine aF rfl ?_);(first|((with_reducible refine bG ?_);(first|(refine aS rfl ?_));(try simp only [ah,ak,au,ay,aA]))|((with_reducible refine aC (T:=4) ?_);(first|(refine KA rfl hS rfl rfl (by repeat constructor) ?_));(try simp only [ah,ak,au,ay,aA]))))|((fail_if_success (with_reducible refine aB ?_));(first|fail)))
    all_goals go_meet
    all_goals exact ⟨_,rfl,Lib.hid (by first|rfl|(simp;done)|(simp_all;done)),Lib.hid (by rw [HRW.out];exact hS)⟩
 case rest=>
 as_aux_lemma=>
 clear hS
 obtain ⟨t,rfl,HT2,HS⟩:=hcut
 have hS:=HS.out
 rw [HRW.out] at hS
 clear HS
 cases t with
 |true=>
  have HN:=Lib.hid (UJ (specs:=specs) (mD F2.out (.inr HT2.out)))
  go_wp2_with (first|fail|((refine aF rfl ?_);(first|fail))|((fail_if_success (with_reducible refine aB ?_));(first|fail)))
  all_goals go_ret
  all_goals exact ⟨aX HN.out.symm,hS.below⟩
 |false=>
 have Y2:=Lib.hid (vW F2.out HT.out HT2.out)
 clear HT HT2
 go_upto_region 10 with (first|fail|((refine aF rfl ?_);(first|fail))|((fail_if_success (with_reducible refine aB ?_));(first|((with_reducible refine l9 ?_);refine wp_cond_split rfl (fun hb=> ?_) (fun hb=> ?_)<;>(first|(exfalso;exact Bool.noConfusion hb)|(obtain rfl:=eq_of_beq hb)|skip)<;>(try simp only [decide_eq_true_eq,decide_eq_false_iff_not,Bool.and_eq_true,Bool.or_eq_true,Bool.and_eq_false_iff,Bool.or_eq_false_iff] at hb)<;>go_prune))))
 go_cut [48] (fun tv wc=>∃t:Bool,tv= .bool t∧Hid (t=(p3&& !a3))∧Hid (St (bQ ⟨op,ref,amt,ctr,zone,B card,flt,pool,mods⟩ ⟨va,vn,vc⟩) w0 rows wc))
 case first=>
  as_aux_lemma=>
   cases p3
   ·skip
    go_wp2_with (first|fail|((refine aF rfl ?_);(first|((with_reducible refine bG ?_);(first|(refine aS rfl ?_));(try simp only [ah,ak,au,ay,aA]))|((with_reducible refine aC (T:=4) ?_);(first|(refine KC rfl hS rfl rfl (by repeat constructor) ?_));(try simp only [ah,ak,au,ay,aA]))))|((fail_if_success (with_reducible refine aB ?_));(first|fail)))
    all_goals go_meet
    all_goals exact ⟨_,rfl,Lib.hid (by first|rfl|(simp;done)|(simp_all;done)|(rw [Bool.eq_iff_iff];simp_all;done)|(rw [Bool.eq_iff_iff];simp_all;omega)),Lib.hid (by rw [HRW.out];exact hS)⟩
   ·skip
    go_wp2_with (first|fail|((refine aF rfl ?_);(first|((with_reducible refine aC (T:=4) ?_);(first|(refine KC rfl hS rfl rfl (by repeat constructor) ?_));(try simp only [ah,ak,au,ay,aA]))|((with_reducible refine aC (T:=3) ?_);(first|(refine yu rfl hS rfl rfl (by repeat constructor) ?_));(try simp only [ah,ak,au,ay,aA]))))|((fail_if_success (with_reducible refine aB ?_));(first|(go_at_call 75;(with_reducible refine (St.still hS fun hl=>aeJ _ _ G3 _ hl.1).mono ?_);rintro e w ⟨rfl,hS⟩))))
    all_goals go_meet
    all_goals exact ⟨_,rfl,Lib.hid (by first|rfl|(simp;done)|(simp_all;done)|(rw [Bool.eq_iff_iff];simp_all;done)|(rw [Bool.eq_iff_iff];simp_all;omega)),Lib.hid (by rw [HRW.out];exact hS)⟩
 case rest=>
 as_aux_lemma=>
 clear hS
 obtain ⟨t,rfl,HT,HS⟩:=hcut
 have hS:=HS.out
 rw [HRW.out] at hS
 clear HS
 cases t with
 |true=>
  have HN:=Lib.hid (UK (specs:=specs) (mD F3.out (.inl HT.out)))
  go_wp2_with (first|fail|((refine aF rfl ?_);(first|fail))|((fail_if_success (with_reducible refine aB ?_));(first|fail)))
  all_goals go_ret
  all_goals exact ⟨aX HN.out.symm,hS.below⟩
 |false=>
 go_upto_if 48 with (first|fail|((refine aF rfl ?_);(first|fail))|((fail_if_success (with_reducible refine aB ?_));(first|fail)))
 go_cut [48] (fun tv wc=>∃t:Bool,tv= .bool t∧Hid (t=(!p3&& !b3))∧Hid (St (bQ ⟨op,ref,amt,ctr,zone,B card,flt,pool,mods⟩ ⟨va,vn,vc⟩) w0 rows wc))
 case first=>
  as_aux_lemma=>
   cases p3
   ·skip
    go_wp2_with (first|fail|((refine aF rfl ?_);(first|((with_reducible refine aC (T:=4) ?_);(first|(refine KC rfl hS rfl rfl (by repeat constructor) ?_));(try simp only [ah,ak,au,ay,aA]))|((with_reducible refine aC (T:=3) ?_);(first|(refine yu rfl hS rfl rfl (by repeat constructor) ?_));(try simp only [ah,ak,au,ay,aA]))))|((fail_if_success (with_reducible refine aB ?_));(first|fail)))
    all_goals go_meet
    all_goals exact ⟨_,rfl,Lib.hid (by first|rfl|(simp;done)|(simp_all;done)),Lib.hid (by rw [HRW.out];exact hS)⟩
   ·skip
    go_wp2_with (first|fail|((refine aF rfl ?_);(first|((with_reducible refine bG ?_);(first|(refine aS rfl ?_));(try simp only [ah,ak,au,ay,aA]))|((with_reducible refine aC (T:=4) ?_);(first|(refine KC rfl hS rfl rfl (by repeat constructor) ?_));(try simp only [ah,ak,au,ay,aA]))))|((fail_if_success (with_reducible refine aB ?_));(first|fail)))
    all_goals go_meet
    all_goals exact ⟨_,rfl,Lib.hid (by first|rfl|(simp;done)|(simp_all;done)),Lib.hid (by rw [HRW.out];exact hS)⟩
 case rest=>
 as_aux_lemma=>
 clear hS
 obtain ⟨t,rfl,HT2,HS⟩:=hcut
 have hS:=HS.out
 rw [HRW.out] at hS
 clear HS
 cases t with
 |true=>
  have HN:=Lib.hid (UK (specs:=specs) (mD F3.out (.inr HT2.out)))
  go_wp2_with (first|fail|((refine aF rfl ?_);(first|fail))|((fail_if_success (with_reducible refine aB ?_));(first|fail)))
  all_goals go_ret
  all_goals exact ⟨aX HN.out.symm,hS.below⟩
 |false=>
 have Y3:=Lib.hid (vW F3.out HT.out HT2.out)
 clear HT HT2
 go_upto_region 13 with (first|fail|((refine aF rfl ?_);(first|fail))|((fail_if_success (with_reducible refine aB ?_));(first|((with_reducible refine l9 ?_);refine wp_cond_split rfl (fun hb=> ?_) (fun hb=> ?_)<;>(first|(exfalso;exact Bool.noConfusion hb)|(obtain rfl:=eq_of_beq hb)|skip)<;>(try simp only [decide_eq_true_eq,decide_eq_false_iff_not,Bool.and_eq_true,Bool.or_eq_true,Bool.and_eq_false_iff,Bool.or_eq_false_iff] at hb)<;>go_prune))))
 go_cut [65] (fun tv wc=>∃t:Bool,tv= .bool t∧Hid (t=(p4&& !(decide (0≤zone)&&decide (zone≤4))))∧Hid (St (bQ ⟨op,ref,amt,ctr,zone,B card,flt,pool,mods⟩ ⟨va,vn,vc⟩) w0 rows wc))
 case first=>
  as_aux_lemma=>
   cases p4
   ·skip
    go_wp2_with (first|fail|((refine aF rfl ?_);(first|((with_reducible refine bG ?_);(first|(refine aS rfl ?_));(try simp only [ah,ak,au,ay,aA]))|((with_reducible refine aC (T:=4) ?_);(first|(refine KD rfl hS rfl rfl (by repeat constructor) ?_));(try simp only [ah,ak,au,ay,aA]))))|((fail_if_success (with_reducible refine aB ?_));(first|fail)))
    all_goals go_meet
    all_goals exact ⟨_,rfl,Lib.hid (by first|rfl|(simp;done)|(simp_all;done)|(rw [Bool.eq_iff_iff];simp_all;done)|(rw [Bool.eq_iff_iff];simp_all;omega)),Lib.hid (by rw [HRW.out];exact hS)⟩
   ·skip
    go_wp2_with (first|fail|((refine aF rfl ?_);(first|((with_reducible refine bG ?_);(first|(refine aS rfl ?_)|((fail_if_success refine fJ rfl ?_);refine iZ _ _ rfl rfl (fun hb=> ?_) (fun hb=> ?_)<;>(first|(obtain rfl:=eq_of_beq hb)|(simp only [hb]))));(try simp only [ah,ak,au,ay,aA]))|((with_reducible refine aC (T:=4) ?_);(first|(refine KD rfl hS rfl rfl (by repeat constructor) ?_));(try simp only [ah,ak,au,ay,aA]))|((with_reducible refine aC (T:=3) ?_);(first|(refine wB rfl hS rfl rfl (by repeat constructor) ?_));(try simp only [ah,ak,au,ay,aA]))))|((fail_if_success (with_reducible refine aB ?_));(first|fail)))
    all_goals go_meet
    all_goals exact ⟨_,rfl,Lib.hid (by first|rfl|(simp;done)|(simp_all;done)|(rw [Bool.eq_iff_iff];simp_all;done)|(rw [Bool.eq_iff_iff];simp_all;omega)),Lib.hid (by rw [HRW.out];exact hS)⟩
 case rest=>
 as_aux_lemma=>
 clear hS
 obtain ⟨t,rfl,HT,HS⟩:=hcut
 have hS:=HS.out
 rw [HRW.out] at hS
 clear HS
 cases t with
 |true=>
  have HN:=Lib.hid (UL (specs:=specs) (mD F4.out (.inl HT.out)))
  go_wp2_with (first|fail|((refine aF rfl ?_);(first|fail))|((fail_if_success (with_reducible refine aB ?_));(first|fail)))
  all_goals go_ret
  all_goals exact ⟨aX HN.out.symm,hS.below⟩
 |false=>
 go_upto_if 65 with (first|fail|((refine aF rfl ?_);(first|fail))|((fail_if_success (with_reducible refine aB ?_));(first|fail)))
 go_cut [65] (fun tv wc=>∃t:Bool,tv= .bool t∧Hid (t=(!p4&& !b4))∧Hid (St (bQ ⟨op,ref,amt,ctr,zone,B card,flt,pool,mods⟩ ⟨va,vn,vc⟩) w0 rows wc))
 case first=>
  as_aux_lemma=>
   cases p4
   ·skip
    go_wp2_with (first|fail|((refine aF rfl ?_);(first|((with_reducible refine aC (T:=4) ?_);(first|(refine KD rfl hS rfl rfl (by repeat constructor) ?_));(try simp only [ah,ak,au,ay,aA]))|((with_reducible refine aC (T:=3) ?_);(first|(refine wB rfl hS rfl rfl (by repeat constructor) ?_));(try simp only [ah,ak,au,ay,aA]))))|((fail_if_success (with_reducible refine aB ?_));(first|fail)))
    all_goals go_meet
    all_goals exact ⟨_,rfl,Lib.hid (by first|rfl|(simp;done)|(simp_all;done)),Lib.hid (by rw [HRW.out];exact hS)⟩
   ·skip
    go_wp2_with (first|fail|((refine aF rfl ?_);(first|((with_reducible refine bG ?_);(first|(refine aS rfl ?_));(try simp only [ah,ak,au,ay,aA]))|((with_reducible refine aC (T:=4) ?_);(first|(refine KD rfl hS rfl rfl (by repeat constructor) ?_));(try simp only [ah,ak,au,ay,aA]))))|((fail_if_success (with_reducible refine aB ?_));(first|fail)))
    all_goals go_meet
    all_goals exact ⟨_,rfl,Lib.hid (by first|rfl|(simp;done)|(simp_all;done)),Lib.hid (by rw [HRW.out];exact hS)⟩
 case rest=>
 as_aux_lemma=>
 clear hS
 obtain ⟨t,rfl,HT2,HS⟩:=hcut
 have hS:=HS.out
 rw [HRW.out] at hS
 clear HS
 cases t with
 |true=>
  have HN:=Lib.hid (UL (specs:=specs) (mD F4.out (.inr HT2.out)))
  go_wp2_with (first|fail|((refine aF rfl ?_);(first|fail))|((fail_if_success (with_reducible refine aB ?_));(first|fail)))
  all_goals go_ret
  all_goals exact ⟨aX HN.out.symm,hS.below⟩
 |false=>
 have Y4:=Lib.hid (vW F4.out HT.out HT2.out)
 clear HT HT2
 go_upto_region 16 with (first|fail|((refine aF rfl ?_);(first|fail))|((fail_if_success (with_reducible refine aB ?_));(first|((with_reducible refine l9 ?_);refine wp_cond_split rfl (fun hb=> ?_) (fun hb=> ?_)<;>(first|(exfalso;exact Bool.noConfusion hb)|(obtain rfl:=eq_of_beq hb)|skip)<;>(try simp only [decide_eq_true_eq,decide_eq_false_iff_not,Bool.and_eq_true,Bool.or_eq_true,Bool.and_eq_false_iff,Bool.or_eq_false_iff] at hb)<;>go_prune))))
 go_cut [86] (fun tv wc=>∃t:Bool,tv= .bool t∧Hid (t=(p5&& !a5))∧Hid (St (bQ ⟨op,ref,amt,ctr,zone,B card,flt,pool,mods⟩ ⟨va,vn,vc⟩) w0 rows wc))
 case first=>
  as_aux_lemma=>
   cases p5
   ·skip
    go_wp2_with (first|fail|((refine aF rfl ?_);(first|((with_reducible refine bG ?_);(first|(refine aS rfl ?_));(try simp only [ah,ak,au,ay,aA]))|((with_reducible refine aC (T:=4) ?_);(first|(refine Fp rfl hS rfl rfl (by repeat constructor) ?_));(try simp only [ah,ak,au,ay,aA]))))|((fail_if_success (with_reducible refine aB ?_));(first|fail)))
    all_goals go_meet
    all_goals exact ⟨_,rfl,Lib.hid (by first|rfl|(simp;done)|(simp_all;done)|(rw [Bool.eq_iff_iff];simp_all;done)|(rw [Bool.eq_iff_iff];simp_all;omega)),Lib.hid (by rw [HRW.out];exact hS)⟩
   ·skip
    go_wp2_with (first|fail|((refine aF rfl ?_);(first|((with_reducible refine aC (T:=4) ?_);(first|(refine Fp rfl hS rfl rfl (by repeat constructor) ?_));(try simp only [ah,ak,au,ay,aA]))|((with_reducible refine aC (T:=9) ?_);(first|(refine wC rfl hS rfl rfl (by repeat constructor) ?_));(try simp only [ah,ak,au,ay,aA]))))|((fail_if_success (with_reducible refine aB ?_));(first|(go_at_call 149;(with_reducible refine (St.call hS fun hl=>ahm _ _ G5 _ hl.1.base).mono ?_);rintro e w ⟨rfl,hS⟩))))
    all_goals go_meet
    all_goals exact ⟨_,rfl,Lib.hid (by first|rfl|(simp;done)|(simp_all;done)|(rw [Bool.eq_iff_iff];simp_all;done)|(rw [Bool.eq_iff_iff];simp_all;omega)),Lib.hid (by rw [HRW.out];exact hS)⟩
 case rest=>
 as_aux_lemma=>
 clear hS
 obtain ⟨t,rfl,HT,HS⟩:=hcut
 have hS:=HS.out
 rw [HRW.out] at hS
 clear HS
 cases t with
 |true=>
  have HN:=Lib.hid (UM (specs:=specs) (mD F5.out (.inl HT.out)))
  go_wp2_with (first|fail|((refine aF rfl ?_);(first|fail))|((fail_if_success (with_reducible refine aB ?_));(first|fail)))
  all_goals go_ret
  all_goals exact ⟨aX HN.out.symm,hS.below⟩
 |false=>
 go_upto_if 86 with (first|fail|((refine aF rfl ?_);(first|fail))|((fail_if_success (with_reducible refine aB ?_));(first|fail)))
 go_cut [86] (fun tv wc=>∃t:Bool,tv= .bool t∧Hid (t=(!p5&& !b5))∧Hid (St (bQ ⟨op,ref,amt,ctr,zone,B card,flt,pool,mods⟩ ⟨va,vn,vc⟩) w0 rows wc))
 case first=>
  as_aux_lemma=>
   cases p5
   ·skip
    go_wp2_with (first|fail|((refine aF rfl ?_);(first|((with_reducible refine aC (T:=4) ?_);(first|(refine Fp rfl hS rfl rfl (by repeat constructor) ?_));(try simp only [ah,ak,au,ay,aA]))|((with_reducible refine aC (T:=9) ?_);(first|(refine wC rfl hS rfl rfl (by repeat constructor) ?_));(try simp only [ah,ak,au,ay,aA]))))|((fail_if_success (with_reducible refine aB ?_));(first|fail)))
    all_goals go_meet
    all_goals exact ⟨_,rfl,Lib.hid (by first|rfl|(simp;done)|(simp_all;done)),Lib.hid (by rw [HRW.out];exact hS)⟩
   ·skip
    go_wp2_with (first|fail|((refine aF rfl ?_);(first|((with_reducible refine bG ?_);(first|(refine aS rfl ?_));(try simp only [ah,ak,au,ay,aA]))|((with_reducible refine aC (T:=4) ?_);(first|(refine Fp rfl hS rfl rfl (by repeat constructor) ?_));(try simp only [ah,ak,au,ay,aA]))))|((fail_if_success (with_reducible refine aB ?_));(first|fail)))
    all_goals go_meet
    all_goals exact ⟨_,rfl,Lib.hid (by first|rfl|(simp;done)|(simp_all;done)),Lib.hid (by rw [HRW.out];exact hS)⟩
 case rest=>
 as_aux_lemma=>
 clear hS
 obtain ⟨t,rfl,HT2,HS⟩:=hcut
 have hS:=HS.out
 rw [HRW.out] at hS
 clear HS
 cases t with
 |true=>
  have HN:=Lib.hid (UM (specs:=specs) (mD F5.out (.inr HT2.out)))
  go_wp2_with (first|fail|((refine aF rfl ?_);(first|fail))|((fail_if_success (with_reducible refine aB ?_));(first|fail)))
  all_goals go_ret
  all_goals exact ⟨aX HN.out.symm,hS.below⟩
 |false=>
 have Y5:=Lib.hid (vW F5.out HT.out HT2.out)
 clear HT HT2
 go_upto_region 19 with (first|fail|((refine aF rfl ?_);(first|fail))|((fail_if_success (with_reducible refine aB ?_));(first|((with_reducible refine l9 ?_);refine wp_cond_split rfl (fun hb=> ?_) (fun hb=> ?_)<;>(first|(exfalso;exact Bool.noConfusion hb)|(obtain rfl:=eq_of_beq hb)|skip)<;>(try simp only [decide_eq_true_eq,decide_eq_false_iff_not,Bool.and_eq_true,Bool.or_eq_true,Bool.and_eq_false_iff,Bool.or_eq_false_iff] at hb)<;>go_prune))))
 go_cut [103] (fun tv wc=>∃t:Bool,tv= .bool t∧Hid (t=(p6&& !(f6&&z6)))∧Hid (St (bQ ⟨op,ref,amt,ctr,zone,B card,flt,pool,mods⟩ ⟨va,vn,vc⟩) w0 rows wc))
 case first=>
  as_aux_lemma=>
   cases p6
   ·skip
    go_wp2_with (first|fail|((refine aF rfl ?_);(first|((with_reducible refine bG ?_);(first|(refine aS rfl ?_));(try simp only [ah,ak,au,ay,aA]))|((with_reducible refine aC (T:=4) ?_);(first|(refine KE rfl hS rfl rfl (by repeat constructor) ?_));(try simp only [ah,ak,au,ay,aA]))))|((fail_if_success (with_reducible refine aB ?_));(first|fail)))
    all_goals go_meet
    all_goals exact ⟨_,rfl,Lib.hid (by first|rfl|(simp;done)|(simp_all;done)|(rw [Bool.eq_iff_iff];simp_all;done)|(rw [Bool.eq_iff_iff];simp_all;omega)),Lib.hid (by rw [HRW.out];exact hS)⟩
   ·skip
    go_wp2_with (first|fail|((refine aF rfl ?_);(first|((with_reducible refine bG ?_);(first|(refine aS rfl ?_)|((fail_if_success refine fJ rfl ?_);refine iZ _ _ rfl rfl (fun hb=> ?_) (fun hb=> ?_)<;>(first|(obtain rfl:=eq_of_beq hb)|(simp only [hb]))));(try simp only [ah,ak,au,ay,aA]))|((with_reducible refine aC (T:=4) ?_);(first|(refine KE rfl hS rfl rfl (by repeat constructor) ?_));(try simp only [ah,ak,au,ay,aA]))|((with_reducible refine aC (T:=3) ?_);(first|(refine ah1 rfl hS rfl rfl (by repeat constructor) ?_));(try simp only [ah,ak,au,ay,aA]))|((with_reducible refine aC (T:=25) ?_);(first|(refine Bd rfl hS rfl rfl (by repeat constructor) ?_));(try simp only [ah,ak,au,ay,aA]))))|((fail_if_success (with_reducible refine aB ?_));(first|(go_at_call 26;(with_reducible refine (St.call hS fun hl=>alo _ _ G6 _ hl.1.base).mono ?_);rintro e w ⟨rfl,hS⟩))))
    all_goals go_meet
    all_goals exact ⟨_,rfl,Lib.hid (by first|rfl|(simp;done)|(simp_all;done)|(rw [Bool.eq_iff_iff];simp_all;done)|(rw [Bool.eq_iff_iff];simp_all;omega)),Lib.hid (by rw [HRW.out];exact hS)⟩
 case rest=>
 as_aux_lemma=>
 clear hS
 obtain ⟨t,rfl,HT,HS⟩:=hcut
 have hS:=HS.out
 rw [HRW.out] at hS
 clear HS
 cases t with
 |true=>
  have HN:=Lib.hid (UN (specs:=specs) (mD F6.out (.inl HT.out)))
  go_wp2_with (first|fail|((refine aF rfl ?_);(first|fail))|((fail_if_success (with_reducible refine aB ?_));(first|fail)))
  all_goals go_ret
  all_goals exact ⟨aX HN.out.symm,hS.below⟩
 |false=>
 go_upto_if 103 with (first|fail|((refine aF rfl ?_);(first|fail))|((fail_if_success (with_reducible refine aB ?_));(first|fail)))
 go_cut [103] (fun tv wc=>∃t:Bool,tv= .bool t∧Hid (t=(!p6&& !b6))∧Hid (St (bQ ⟨op,ref,amt,ctr,zone,B card,flt,pool,mods⟩ ⟨va,vn,vc⟩) w0 rows wc))
 case first=>
  as_aux_lemma=>
   cases p6
   ·skip
    go_wp2_with (first|fail|((refine aF rfl ?_);(first|((with_reducible refine aC (T:=4) ?_);(first|(refine KE rfl hS rfl rfl (by repeat constructor) ?_));(try simp only [ah,ak,au,ay,aA]))|((with_reducible refine aC (T:=25) ?_);(first|(refine Bd rfl hS rfl rfl (by repeat constructor) ?_));(try simp only [ah,ak,au,ay,aA]))|((with_reducible refine Gh ?_);refine NG rfl ?_;(try simp only [ah,ak,au,ay,aA]))))|((fail_if_success (with_reducible refine aB ?_));(first|fail)))
    all_goals go_meet
    all_goals exact ⟨_,rfl,Lib.hid (by first|rfl|(simp;done)|(simp_all;done)),Lib.hid (by rw [HRW.out];exact hS)⟩
   ·skip
    go_wp2_with (first|fail|((refine aF rfl ?_);(first|((with_reducible refine bG ?_);(first|(refine aS rfl ?_));(try simp only [ah,ak,au,ay,aA]))|((with_reducible refine aC (T:=4) ?_);(first|(refine KE rfl hS rfl rfl (by repeat constructor) ?_));(try simp only [ah,ak,au,ay,aA]))))|((fail_if_success (with_reducible refine aB ?_));(first|fail)))
    all_goals go_meet
    all_goals exact ⟨_,rfl,Lib.hid (by first|rfl|(simp;done)|(simp_all;done)),Lib.hid (by rw [HRW.out];exact hS)⟩
 case rest=>
 as_aux_lemma=>
 clear hS
 obtain ⟨t,rfl,HT2,HS⟩:=hcut
 have hS:=HS.out
 rw [HRW.out] at hS
 clear HS
 cases t with
 |true=>
  have HN:=Lib.hid (UN (specs:=specs) (mD F6.out (.inr HT2.out)))
  go_wp2_with (first|fail|((refine aF rfl ?_);(first|fail))|((fail_if_success (with_reducible refine aB ?_));(first|fail)))
  all_goals go_ret
  all_goals exact ⟨aX HN.out.symm,hS.below⟩
 |false=>
 have Y6:=Lib.hid (vW F6.out HT.out HT2.out)
 clear HT HT2
 go_upto_region 22 with (first|fail|((refine aF rfl ?_);(first|fail))|((fail_if_success (with_reducible refine aB ?_));(first|((with_reducible refine l9 ?_);refine wp_cond_split rfl (fun hb=> ?_) (fun hb=> ?_)<;>(first|(exfalso;exact Bool.noConfusion hb)|(obtain rfl:=eq_of_beq hb)|skip)<;>(try simp only [decide_eq_true_eq,decide_eq_false_iff_not,Bool.and_eq_true,Bool.or_eq_true,Bool.and_eq_false_iff,Bool.or_eq_false_iff] at hb)<;>go_prune))))
 go_cut [128] (fun tv wc=>∃t:Bool,tv= .bool t∧Hid (t=(p7&& !(!b7&&c7)))∧Hid (St (bQ ⟨op,ref,amt,ctr,zone,B card,flt,pool,mods⟩ ⟨va,vn,vc⟩) w0 rows wc))
 case first=>
  as_aux_lemma=>
   cases p7
   ·skip
    go_wp2_with (first|fail|((refine aF rfl ?_);(first|((with_reducible refine bG ?_);(first|(refine aS rfl ?_));(try simp only [ah,ak,au,ay,aA]))|((with_reducible refine aC (T:=4) ?_);(first|(refine KF rfl hS rfl rfl (by repeat constructor) ?_));(try simp only [ah,ak,au,ay,aA]))))|((fail_if_success (with_reducible refine aB ?_));(first|fail)))
    all_goals go_meet
    all_goals exact ⟨_,rfl,Lib.hid (by first|rfl|(simp;done)|(simp_all;done)|(rw [Bool.eq_iff_iff];simp_all;done)|(rw [Bool.eq_iff_iff];simp_all;omega)),Lib.hid (by rw [HRW.out];exact hS)⟩
   ·skip
    go_wp2_with (first|fail|((refine aF rfl ?_);(first|((with_reducible refine bG ?_);(first|(refine aS rfl ?_)|((fail_if_success refine fJ rfl ?_);refine iZ _ _ rfl rfl (fun hb=> ?_) (fun hb=> ?_)<;>(first|(obtain rfl:=eq_of_beq hb)|(simp only [hb]))));(try simp only [ah,ak,au,ay,aA]))|((with_reducible refine aC (T:=4) ?_);(first|(refine KF rfl hS rfl rfl (by repeat constructor) ?_));(try simp only [ah,ak,au,ay,aA]))|((with_reducible refine aC (T:=65) ?_);(first|(refine Bf rfl hS rfl rfl (by repeat constructor) ?_));(try simp only [ah,ak,au,ay,aA]))|((with_reducible refine rO ?_);refine vS rfl ?_;(try simp only [ah,ak,au,ay,aA]))))|((fail_if_success (with_reducible refine aB ?_));(first|(go_at_call 160;(with_reducible refine (St.call hS fun hl=>Un _ _ G7 _ hl.1.base).mono ?_);rintro e w ⟨rfl,hS⟩))))
    all_goals go_meet
    all_goals exact ⟨_,rfl,Lib.hid (by first|rfl|(simp;done)|(simp_all;done)|(rw [Bool.eq_iff_iff];simp_all;done)|(rw [Bool.eq_iff_iff];simp_all;omega)),Lib.hid (by rw [HRW.out];exact hS)⟩
 case rest=>
 as_aux_lemma=>
 clear hS
 obtain ⟨t,rfl,HT,HS⟩:=hcut
 have hS:=HS.out
 rw [HRW.out] at hS
 clear HS
 cases t with
 |true=>
  have HN:=Lib.hid (UO (specs:=specs) (mD F7.out (.inl HT.out)))
  go_wp2_with (first|fail|((refine aF rfl ?_);(first|fail))|((fail_if_success (with_reducible refine aB ?_));(first|fail)))
  all_goals go_ret
  all_goals exact ⟨aX HN.out.symm,hS.below⟩
 |false=>
 go_upto_if 128 with (first|fail|((refine aF rfl ?_);(first|fail))|((fail_if_success (with_reducible refine aB ?_));(first|fail)))
 go_cut [128] (fun tv wc=>∃t:Bool,tv= .bool t∧Hid (t=(!p7&& !b7))∧Hid (St (bQ ⟨op,ref,amt,ctr,zone,B card,flt,pool,mods⟩ ⟨va,vn,vc⟩) w0 rows wc))
 case first=>
  as_aux_lemma=>
   cases p7
   ·skip
    go_wp2_with (first|fail|((refine aF rfl ?_);(first|((with_reducible refine aC (T:=4) ?_);(first|(refine KF rfl hS rfl rfl (by repeat constructor) ?_));(try simp only [ah,ak,au,ay,aA]))|((with_reducible refine aC (T:=65) ?_);(first|(refine Bf rfl hS rfl rfl (by repeat constructor) ?_));(try simp only [ah,ak,au,ay,aA]))|((with_reducible refine rO ?_);refine vS rfl ?_;(try simp only [ah,ak,au,ay,aA]))))|((fail_if_success (with_reducible refine aB ?_));(first|fail)))
    all_goals go_meet
    all_goals exact ⟨_,rfl,Lib.hid (by first|rfl|(simp;done)|(simp_all;done)),Lib.hid (by rw [HRW.out];exact hS)⟩
   ·skip
    go_wp2_with (first|fail|((refine aF rfl ?_);(first|((with_reducible refine bG ?_);(first|(refine aS rfl ?_));(try simp only [ah,ak,au,ay,aA]))|((with_reducible refine aC (T:=4) ?_);(first|(refine KF rfl hS rfl rfl (by repeat constructor) ?_));(try simp only [ah,ak,au,ay,aA]))))|((fail_if_success (with_reducible refine aB ?_));(first|fail)))
    all_goals go_meet
    all_goals exact ⟨_,rfl,Lib.hid (by first|rfl|(simp;done)|(simp_all;done)),Lib.hid (by rw [HRW.out];exact hS)⟩
 case rest=>
 as_aux_lemma=>
 clear hS
 obtain ⟨t,rfl,HT2,HS⟩:=hcut
 have hS:=HS.out
 rw [HRW.out] at hS
 clear HS
 cases t with
 |true=>
  have HN:=Lib.hid (UO (specs:=specs) (mD F7.out (.inr HT2.out)))
  go_wp2_with (first|fail|((refine aF rfl ?_);(first|fail))|((fail_if_success (with_reducible refine aB ?_));(first|fail)))
  all_goals go_ret
  all_goals exact ⟨aX HN.out.symm,hS.below⟩
 |false=>
 have Y7:=Lib.hid (vW F7.out HT.out HT2.out)
 clear HT HT2
 go_upto_region 25 with (first|fail|((refine aF rfl ?_);(first|fail))|((fail_if_success (with_reducible refine aB ?_));(first|((with_reducible refine l9 ?_);refine wp_cond_split rfl (fun hb=> ?_) (fun hb=> ?_)<;>(first|(exfalso;exact Bool.noConfusion hb)|(obtain rfl:=eq_of_beq hb)|skip)<;>(try simp only [decide_eq_true_eq,decide_eq_false_iff_not,Bool.and_eq_true,Bool.or_eq_true,Bool.and_eq_false_iff,Bool.or_eq_false_iff] at hb)<;>go_prune))))
 go_cut [152] (fun tv wc=>∃t:Bool,tv= .bool t∧Hid (t=(p8&& !a8))∧Hid (St (bQ ⟨op,ref,amt,ctr,zone,B card,flt,pool,mods⟩ ⟨va,vn,vc⟩) w0 rows wc))
 case first=>
  as_aux_lemma=>
   cases p8
   ·skip
    go_wp2_with (first|fail|((refine aF rfl ?_);(first|((with_reducible refine bG ?_);(first|(refine aS rfl ?_));(try simp only [ah,ak,au,ay,aA]))|((with_reducible refine aC (T:=4) ?_);(first|(refine KG rfl hS rfl rfl (by repeat constructor) ?_));(try simp only [ah,ak,au,ay,aA]))))|((fail_if_success (with_reducible refine aB ?_));(first|fail)))
    all_goals go_meet
    all_goals exact ⟨_,rfl,Lib.hid (by first|rfl|(simp;done)|(simp_all;done)|(rw [Bool.eq_iff_iff];simp_all;done)|(rw [Bool.eq_iff_iff];simp_all;omega)),Lib.hid (by rw [HRW.out];exact hS)⟩
   ·skip
    go_wp2_with (first|fail|((refine aF rfl ?_);(first|((with_reducible refine aC (T:=4) ?_);(first|(refine KG rfl hS rfl rfl (by repeat constructor) ?_));(try simp only [ah,ak,au,ay,aA]))|((with_reducible refine aC (T:=26) ?_);(first|(refine sH rfl hS rfl rfl (by repeat constructor) ?_));(try simp only [ah,ak,au,ay,aA]))))|((fail_if_success (with_reducible refine aB ?_));(first|(go_at_call 27;(with_reducible refine (St.call hS fun hl=>Pq ⟨op,ref,amt,ctr,zone,B card,flt,pool,mods⟩ ⟨va,vn,vc⟩ _ G8 _ hl).mono ?_);rintro e w ⟨rfl,hS⟩))))
    all_goals go_meet
    all_goals exact ⟨_,rfl,Lib.hid (by first|rfl|(simp;done)|(simp_all;done)|(rw [Bool.eq_iff_iff];simp_all;done)|(rw [Bool.eq_iff_iff];simp_all;omega)),Lib.hid (by rw [HRW.out];exact hS)⟩
 case rest=>
 as_aux_lemma=>
 clear hS
 obtain ⟨t,rfl,HT,HS⟩:=hcut
 have hS:=HS.out
 rw [HRW.out] at hS
 clear HS
 cases t with
 |true=>
  have HN:=Lib.hid (UQ (specs:=specs) (mD F8.out (.inl HT.out)))
  go_wp2_with (first|fail|((refine aF rfl ?_);(first|fail))|((fail_if_success (with_reducible refine aB ?_));(first|fail)))
  all_goals go_ret
  all_goals exact ⟨aX HN.out.symm,hS.below⟩
 |false=>
 go_upto_if 152 with (first|fail|((refine aF rfl ?_);(first|fail))|((fail_if_success (with_reducible refine aB ?_));(first|fail)))
 go_cut [152] (fun tv wc=>∃t:Bool,tv= .bool t∧Hid (t=(!p8&& !b8))∧Hid (St (bQ ⟨op,ref,amt,ctr,zone,B card,flt,pool,mods⟩ ⟨va,vn,vc⟩) w0 rows wc))
 case first=>
  as_aux_lemma=>
   cases p8
   ·skip
    go_wp2_with (first|fail|((refine aF rfl ?_);(first|((with_reducible refine aC (T:=4) ?_);(first|(refine KG rfl hS rfl rfl (by repeat constructor) ?_));(try simp only [ah,ak,au,ay,aA]))|((with_reducible refine aC (T:=26) ?_);(first|(refine sH rfl hS rfl rfl (by repeat constructor) ?_));(try simp only [ah,ak,au,ay,aA]))))|((fail_if_success (with_reducible refine aB ?_));(first|fail)))
    all_goals go_meet
    all_goals exact ⟨_,rfl,Lib.hid (by first|rfl|(simp;done)|(simp_all;done)),Lib.hid (by rw [HRW.out];exact hS)⟩
   ·skip
    go_wp2_with (first|fail|((refine aF rfl ?_);(first|((with_reducible refine bG ?_);(first|(refine aS rfl ?_));(try simp only [ah,ak,au,ay,aA]))|((with_reducible refine aC (T:=4) ?_);(first|(refine KG rfl hS rfl rfl (by repeat constructor) ?_));(try simp only [ah,ak,au,ay,aA]))))|((fail_if_success (with_reducible refine aB ?_));(first|fail)))
    all_goals go_meet
    all_goals exact ⟨_,rfl,Lib.hid (by first|rfl|(simp;done)|(simp_all;done)),Lib.hid (by rw [HRW.out];exact hS)⟩
 case rest=>
 as_aux_lemma=>
 clear hS
 obtain ⟨t,rfl,HT2,HS⟩:=hcut
 have hS:=HS.out
 rw [HRW.out] at hS
 clear HS
 cases t with
 |true=>
  have HN:=Lib.hid (UQ (specs:=specs) (mD F8.out (.inr HT2.out)))
  go_wp2_with (first|fail|((refine aF rfl ?_);(first|fail))|((fail_if_success (with_reducible refine aB ?_));(first|fail)))
  all_goals go_ret
  all_goals exact ⟨aX HN.out.symm,hS.below⟩
 |false=>
 have Y8:=Lib.hid (vW F8.out HT.out HT2.out)
 clear HT HT2
 go_wp2_with (first|fail|((refine aF rfl ?_);(first|fail))|((fail_if_success (with_reducible refine aB ?_));(first|fail)))
 all_goals go_ret
 all_goals exact ⟨aX (by unfold jw;rw [Y1.out,Y2.out,Y3.out,Y4.out,Y5.out,Y6.out,Y7.out,Y8.out];rfl),hS.below⟩
theorem ahl (op:Int) (ref:Rf) (amt:Am) (ctr zone:Int) (card:Str) (flt:aH) (pool:Po) (mods:List Md) (va:Option Addr) (vn vc:Nat) (specs:Int) (w:World) (hl:bQ ⟨op,ref,amt,ctr,zone,B card,flt,pool,mods⟩ ⟨va,vn,vc⟩ w):
 Calls Tryz.prog 77 #[.agg (Em.cells ⟨op,ref,amt,ctr,zone,B card,flt,pool,⟨va,vn,vc⟩⟩), .agg (Us.cells (Dk op)), .int .i64 specs] w fun e w'=>e= .returned (.bool (jw ⟨op,ref,amt,ctr,zone,B card,flt,pool,mods⟩ specs))∧Below w.heap.size w w':=
 adL op ref amt ctr zone card flt pool mods va vn vc specs _ _ _ _ _ _ _ _ rfl w hl
end Go.Proofs.YtdicgggkdmkklaaGreatDoor
