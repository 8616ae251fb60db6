/- Walks: package ability: guess at a text of an ability that does something. Conditions: LaidV; the text is shorter than 90 million bytes. -/
import Derived.Test.YtdicgggkdmkklaaGreatDoorMVArg
import Derived.Test.YtdicgggkdmkklaaGreatDoorMVReg
set_option linter.all false
set_option maxRecDepth 100000
set_option maxHeartbeats 16000000
namespace Go.Proofs.YtdicgggkdmkklaaGreatDoor
open Go.ChangeShapes Go.WideShapes Go.RowKit
instance aEC {y:Str} :Put #[.string ⟨#[]⟩] 0 9 (.string (B y)) (YN y):= .of rfl rfl (by kernel_rfl) rfl
instance aC9 (s:Sp):arJ awv (.agg (Sp.cells s)) (Sp.cells s) su:=⟨fun w=>by kernel_rfl⟩
theorem axR (wr:List Row):∀X:List Row,Ends wr X (X++wr)
 |[]=> .n
 |_::X=> .c (axR wr X)
def azo:Value→Nat
 | .slice _ n _=>n
 |_=>0
theorem axj {ws:List Str} {m:Nat} (h:m<ws.length):(ws.take (m+1)).reverse=ws[m]::(ws.take m).reverse:=by
 rw [List.take_succ_eq_append_getElem h,List.reverse_append];rfl
theorem aAs {x:Str} {l:List Str} {r:Str} {acc:List Sp} (h:Lib.hasPrefix x [91]=true):aj3 (x::l) r acc=aj3 l (afX r x) (acc++[aoa x]):=by rw [aj3,if_pos h]
theorem ayB {x:Str} {l:List Str} {r:Str} {acc:List Sp} (h:Lib.hasPrefix x [91]=false):aj3 (x::l) r acc=(acc,r):=by rw [aj3,if_neg (by rw [h];decide)]
theorem slice_inj {n c:Nat} {g g':Nat} (h:(Value.slice (some ⟨g,0,none⟩) n c)= .slice (some ⟨g',0,none⟩) n c):g=g':=by
 injection h with h;injection h with h;injection h
theorem aBv {a:Act} {o:Oper} {TL:Nat} {x:Operand} (ho:o.op= .buildSlice TL 1 #[(0,x)]) {v:Value} (hx:a.eval x=v) {cs:Array Value} {T:Nat} [hl:arJ TL v cs T] (w:World):(execOp a.eval o).run Tryz.prog w= .ok (.value (.slice (some ⟨w.heap.size,0,none⟩) 1 1)) (w.alloc (.cells cs T)):=by
 unfold execOp
 rw [ho]
 simp [hx,Sem.run_bind,hl.l,Result.andThen]
theorem awf {r:Str} {acc:List Sp} :aj3 [] r acc=(acc,r):=by rw [aj3]
theorem au9 {F r:Str} {sp:List Sp} {es:List Ef} (h:(F==[115,112,101,108,108])=true):arn F r sp es=⟨2,aaB,[],RD,false,adY,false,sp,es,I5⟩:=if_pos (eq_of_beq h)
theorem av9 {F r:Str} {sp:List Sp} {es:List Ef} (h1:(F==[115,112,101,108,108])=false) (h:(F==[117,115,101])=true):arn F r sp es=⟨3,aaB,[],asx (afX r ajN),takeB r ajN,adY,false,sp,es,I5⟩:=
 (if_neg (fun e=>by rw [show F=[115,112,101,108,108] from e] at h1;cases h1)).trans (if_pos (eq_of_beq h))
theorem avz {F r:Str} {sp:List Sp} {es:List Ef} (h1:(F==[115,112,101,108,108])=false) (h2:(F==[117,115,101])=false) (h:(F==[119,104,101,110])=true):arn F r sp es=⟨4,aaB,[],RD,false,(am9 (afX r akg)).getD adY,takeB r akg,sp,es,I5⟩:=
 (if_neg (fun e=>by rw [show F=[115,112,101,108,108] from e] at h1;cases h1)).trans ((if_neg (fun e=>by rw [show F=[117,115,101] from e] at h2;cases h2)).trans (if_pos (eq_of_beq h)))
theorem awY {F r:Str} {sp:List Sp} {es:List Ef} (h1:(F==[115,112,101,108,108])=false) (h2:(F==[117,115,101])=false) (h3:(F==[119,104,101,110])=false):arn F r sp es=⟨0,aaB,[],RD,false,adY,false,sp,es,I5⟩:=
 (if_neg (fun e=>by rw [show F=[115,112,101,108,108] from e] at h1;cases h1)).trans ((if_neg (fun e=>by rw [show F=[117,115,101] from e] at h2;cases h2)).trans (if_neg (fun e=>by rw [show F=[119,104,101,110] from e] at h3;cases h3)))
theorem FB.sps {l:List Sp} {A:Option Addr} {c:Nat} {wr:List Row} {w2:World} (h:FB su 18 Sp.cells l A c wr) (hk:aep wr w2):aqh A l w2:=by
 rcases h with ⟨_,_,h,_⟩|⟨g,cur,rfl,rfl,h1,h2,h3,h4⟩
 ·exact .inl h
 ·refine .inr ⟨g,0,rfl,fun k s hs j v hj=> ?_⟩
  have hrow:=hk (g,cur,su) (by simp)
  have hkl:=(List.getElem?_eq_some_iff.1 hs).1
  have aFY:j<18:=(List.getElem?_eq_some_iff.1 hj).1
  have ht:k * 18+j<l.length * 18:=by omega
  have e:=flat_get l (k * 18+j) ht
  have e1:(k * 18+j) / 18=k:=by omega
  have e2:(k * 18+j) % 18=j:=by omega
  rw [e1,e2,←h4,List.getElem?_take,if_pos ht,getElem!_pos l k hkl,(List.getElem?_eq_some_iff.1 hs).2] at e
  show w2.cell? ⟨g,0+k * 18+j,none⟩=some v
  rw [Nat.zero_add,cell_of_row w2 g (k * 18+j) cur su (0,0) hrow]
  simpa using e.trans hj
theorem apL {x:Ax} {acc:List Sp} {A EA:Option Addr} {cc en ec:Nat} {es:List EV} {T:Str} {az0:List Ef} {wr X:List Row} {w2:World} (hm:x.mods=⟨none,0,0⟩) (hs:x.specs=⟨A,acc.length,cc⟩) (he:x.qE=⟨EA,en,ec⟩) (hal:acc.length<100000000) (hW:FB su 18 Sp.cells acc.reverse A cc wr) (zA:Hid ((kH T).getD []=az0)) (Ht:Hid ((kH T).getD []=es.map Prod.fst∧en=es.length∧es.length<1000000)) (HX:Hid (∀w2,aep X w2→qG EA es w2)) (k1:aep wr w2) (k2:aep X w2):anc x [] acc.reverse az0 es w2:=
 ⟨by rw [hm];rfl,by decide, .inl rfl,by rw [hs,List.length_reverse],by rw [List.length_reverse];exact hal,by rw [hs];exact hW.sps k1,by rw [he];exact Ht.out.2.1,Ht.out.2.2,by rw [he];exact HX.out w2 k2,Ht.out.1.symm.trans zA.out⟩
theorem St.arl {L:World→Prop} {w0 w:World} {rows X:List Row} (h:St L w0 rows w) (hs:∀y∈X,y∈rows):aep X w:=fun y hy=>(h.has y (hs y hy)).1
theorem aep.more {L:World→Prop} {w0 w:World} {rows X:List Row} (h:St L w0 rows w) (hs:∀y∈X,y∈rows) {w2:World} (hk:aep (ajJ w0.heap.size w) w2):aep X w2:=fun y hy=>hk y (asP (h.has y (hs y hy)).2 (h.has y (hs y hy)).1)
theorem aAC {R0:Str} {ws:List Str} (h:eX 32 R0=ws):0<ws.length∧ws.length≤R0.length+1∧∀x∈ws,x.length≤R0.length:=by
 subst h
 refine ⟨List.length_pos_iff.2 (nU 32 R0 [] 0).2,(nU 32 R0 [] 0).1,fun x hx=> ?_⟩
 have:=rY 32 R0 [] 0 x hx
 simpa using this
attribute [local irreducible] wpList Code.wp Calls dh fK bW am8 fF kH am9 aoa asx afX takeB Lib.hasPrefix wc1 wc2 qy aj3 eX
theorem ayu (s:Str) (hs:s.length<90000000) (hq:Lib.hasPrefix s aeH=false) (hp:Lib.hasPrefix s ajL=false) (w0:World) (hl:aew w0):Calls Tryz.prog 47 #[.string (B s)] w0 (AbR (aek s) w0):=by
 have hS:=St.start hl fun _ _ h hb=>h.below hb
 have hp1:Lib.hasPrefix s [115,116,97,116,105,99,32,40]=false:=hp
 have hq1:Lib.hasPrefix s [114,101,112,108,97,99,101,32]=false:=hq
 have:jr s:=⟨by omega⟩
 obtain ⟨h1l,h2l⟩:=aC1 s
 obtain ⟨H,hH⟩:∃H,wc1 s=H:=⟨_,rfl⟩
 obtain ⟨T,hT⟩:∃T,wc2 s=T:=⟨_,rfl⟩
 rw [hH] at h1l
 rw [hT] at h2l
 have hHl:H.length<90000000:=by omega
 have hTl:T.length<100000000:=by omega
 have:jr H:=⟨by omega⟩
 obtain ⟨F,hF⟩:∃F,(Lib.cut H [32]).1=F:=⟨_,rfl⟩
 obtain ⟨R0,hR0⟩:∃R0,(Lib.cut H [32]).2.1=R0:=⟨_,rfl⟩
 have hRl:R0.length<90000000:=by have:=(asj H [32]).2;rw [hR0] at this;omega
 obtain ⟨ws,hws⟩:∃ws,eX 32 R0=ws:=⟨_,rfl⟩
 obtain ⟨hne,hw1,hw2⟩:=aAC hws
 have hwl:ws.length≤90000000:=by omega
 have hwm:∀x∈ws,x.length<90000000:=fun x hx=>by have:=hw2 x hx;omega
 obtain ⟨az0,hES⟩:∃az0,(kH T).getD []=az0:=⟨_,rfl⟩
 obtain ⟨G,hG⟩:∃G,aek s=G:=⟨_,rfl⟩
 have HG:Hid (G=arn F (aj3 ws.reverse R0 []).2 (aj3 ws.reverse R0 []).1.reverse az0):=Lib.hid (by
  rw [←hG];unfold aek
  rw [if_neg (by rw [hq];decide),if_neg (by rw [hp];decide),hH,hT,←(anm 32 H).1,←(anm 32 H).2,hF,hR0,hES]
  unfold auw
  rw [hws])
 rw [hG]
 have HWS:=Lib.hid hws
 have zA:=Lib.hid hES
 clear hp hq hG hws hES
 go_in
 go_upto_region 1 with (first|(have hq:=iE;subst hq)|(have hq:=sE;subst hq)|refine s0 ?_|(refine s1 ?_;clear hS;intro w hS)|(refine s2 ?_;clear hS;intro g w hS)|(refine s4 ?_;clear hS;intro g cur cw w hw hcw hS)|(refine s3 ?_ ?_<;>intro hb<;>(try subst hb)<;>(try (exfalso;first|omega|exact Bool.noConfusion hb))))
 generalize g=gr at *
 go_upto_region 14 with (first|(have hq:=iE;subst hq)|(have hq:=sE;subst hq)|refine s0 ?_|(refine s1 ?_;clear hS;intro w hS)|(refine s2 ?_;clear hS;intro g w hS)|(refine s4 ?_;clear hS;intro g cur cw w hw hcw hS)|(refine s3 ?_ ?_<;>intro hb<;>(try subst hb)<;>(try (exfalso;first|omega|exact Bool.noConfusion hb))))
 generalize g=ga at *
 go_upto_region 17 with (first|(have hq:=iE;subst hq)|(have hq:=sE;subst hq)|(go_at_call 126;refine (aCk T hTl hS hS.laid.m).mono ?_;clear hS;rintro e w ⟨EA,en,ec,es,X,rfl,Ht,hS,HX⟩;simp only [List.cons_append,List.nil_append] at hS)|((with_reducible refine aW ?_);refine aax 9 (.string ⟨#[]⟩) rfl hS rfl (fun _=>by kernel_rfl) rfl ?_;clear hS;intro g w hS;(try simp only [ah,ak,au,ay,aA]))|refine s0 ?_|(refine s1 ?_;clear hS;intro w hS)|(refine s2 ?_;clear hS;intro g w hS)|(refine s4 ?_;clear hS;intro g cur cw w hw hcw hS)|(refine s3 ?_ ?_<;>intro hb<;>(try subst hb)<;>(try (exfalso;first|omega|exact Bool.noConfusion hb))))
 generalize g=gs at *
 try rw [hF] at hS ⊢
 clear hF hR0
 go_wp2_with (first|(have hq:=iE;subst hq)|(have hq:=sE;subst hq)|(go_at_call 130;refine (aes R0 (by omega) ws HWS _).mono ?_;rintro e w1 ⟨aHd,wc,rfl,ht,hb⟩;obtain ⟨gw,cw,rfl,hw,hcw,hS2⟩:=hS.words ht hb hne;clear hS ht hb;have hS:=hS2;clear hS2;have HW:=Lib.hid hw;clear hw)|refine s0 ?_|(refine s1 ?_;clear hS;intro w hS)|(refine s2 ?_;clear hS;intro g w hS)|(refine s4 ?_;clear hS;intro g cur cw w hw hcw hS)|(refine s3 ?_ ?_<;>intro hb<;>(try subst hb)<;>(try (exfalso;first|omega|exact Bool.noConfusion hb))))
 obtain ⟨F0,hF0⟩:∃p,aj3 ws.reverse R0 []=p:=⟨_,rfl⟩
 have HF0:=Lib.hid hF0
 rw [hF0] at HG
 go_loopw [21] (fun lv wr=>∃(k:Nat) (r:Str) (acc:List Sp) (A:Option Addr) (cc:Nat) (wrr:List Row),k≤ws.length∧lv= .slice (some ⟨gw,0,none⟩) k wc∧r.length<90000000∧acc.length+k≤ws.length∧Hid (aj3 (ws.take k).reverse r acc=F0)∧Hid (FB su 18 Sp.cells acc A cc wrr)∧Hid (St aew w0 ((gw,cw,9)::(gs,YN r,9)::(ga,Ax.cells ⟨0,aaB,⟨none,0,0⟩,RD,false,adY,false,⟨A,acc.length,cc⟩,⟨EA,en,ec⟩,I5⟩,39)::(gr,Ax.cells aqY,39)::(X++wrr)) wr)) (fun lv _=>azo lv)
 case atStart=>exact ⟨ws.length,R0,[],none,0,[],Nat.le_refl _,rfl,hRl,by simp,Lib.hid (by rw [List.take_length];exact hF0),Lib.hid .nil,Lib.hid (by rw [List.append_nil];exact hS)⟩
 case round=>
  clear hS
  obtain ⟨k,r,acc,A,cc,wrr,hk,rfl,hr,hac,HR,HO,HS⟩:=hrel
  have hS:=HS.out
  have hW:=HO.out
  clear HS HO
  by_cases hgo:∃m,k=m+1∧∃h:m<ws.length,Lib.hasPrefix ws[m] [91]=true
  ·obtain ⟨m,rfl,hm,hx⟩:=hgo
   have hxm:=hwm _ (List.getElem_mem hm)
   have:jr ws[m]:=⟨by omega⟩
   have hgd:ws.getD m []=ws[m]:=by rw [List.getD_eq_getElem?_getD,List.getElem?_eq_getElem hm];rfl
   have:jr (ws.getD m []):=by rw [hgd];infer_instance
   have HGD:=Lib.hid hgd
   have HRn:Hid (aj3 (ws.take m).reverse (afX r ws[m]) (acc++[aoa ws[m]])=F0):=Lib.hid (by rw [←HR.out,axj hm,aAs hx])
   have hrl:=awh r ws[m]
   have hmw:IntKind.i64.wrap (m:Int)=(m:Int):=BZ _ (by omega) (by omega)
   have hm0:(0:Int)≤(m:Int):=by omega
   have hm1:(m:Int)<(m:Int)+1:=by omega
   clear hgd HR
   go_upto_region 20 with (first|(have hq:=iE;subst hq)|(have hq:=sE;subst hq)|refine s0 ?_|(refine s1 ?_;clear hS;intro w hS)|(refine s2 ?_;clear hS;intro g w hS)|(refine s4 ?_;clear hS;intro g cur cw w hw hcw hS)|(refine s3 ?_ ?_<;>intro hb<;>(try subst hb)<;>(try (exfalso;first|omega|exact Bool.noConfusion hb))))
   (with_reducible refine aT ?_)
   refine axK [0,1,2,3,4,5,6,7,8] [10,11,12] 9 10 108 (fun g=> .slice (some ⟨g,0,none⟩) 1 1) (fun _ _ h=>slice_inj h) (Sp.cells (aoa (ws[m]))) su hS (lh:=[_,_,_,_,_,_,_,_,_]) (lt:=[_,_,_]) (by simp only [List.map_cons,List.map_nil,List.getElem?_toArray,List.getElem?_cons_succ,List.getElem?_cons_zero];first|done|rfl) (by simp only [List.getElem?_toArray,List.getElem?_cons_succ,List.getElem?_cons_zero];first|done|rfl) rfl rfl (by simp only [List.map_cons,List.map_nil,List.getElem?_toArray,List.getElem?_cons_succ,List.getElem?_cons_zero];first|done|rfl) rfl rfl rfl (by kernel_rfl) (by kernel_rfl) (by kernel_rfl) (by kernel_rfl) (by kernel_rfl) (by kernel_rfl) (by kernel_rfl) (by kernel_rfl) (by kernel_rfl) ?_
   refine s9 ?_
   refine s9 ?_
   refine s9 ?_
   refine s9 ?_
   refine s9 ?_
   refine s9 ?_
   refine s9 ?_
   refine s9 ?_
   refine s9 ?_
   refine aC7 ⟨Nat.le_of_ble_eq_true (n:=109) rfl,?_,?_⟩
   ·exact fun w=>aBv (x:= .tmp 107) (v:= .agg (Sp.cells (aoa (ws[m])))) (hl:=aC9 (aoa (ws[m]))) rfl rfl w
   ·clear hS
    intro g w hS
    (try simp only [ah,ak,au,ay,aA])
    at_builtin
    refine ayI (TL:=awv) (f:=Sp.cells) (T:=su) (n:=18) (xs:=acc) (A:=A) (c:=cc) rfl hS rfl rfl hW inferInstance (.c (.c (.c (.c (.c (axR wrr X)))))) rfl (by repeat constructor) (by omega) (fun _=>by simp only [List.cons_append,List.nil_append];rfl) ?_
    clear hS
    intro A2 c2 wr2 w hW2 hS
    (try simp only [ah,ak,au,ay,aA])
    go_wp2_with (first|(have hq:=iE;subst hq)|(have hq:=sE;subst hq)|(go_at_call 127;refine (asJ ws[m] r hxm hr hS (by repeat constructor) (by repeat constructor) (fun e=>by rw [e])).mono ?_;clear hS;rintro e w ⟨rfl,hS⟩)|refine s0 ?_|(refine s1 ?_;clear hS;intro w hS)|(refine s2 ?_;clear hS;intro g w hS)|(refine s4 ?_;clear hS;intro g cur cw w hw hcw hS)|(refine s3 ?_ ?_<;>intro hb<;>(try subst hb)<;>(try (exfalso;first|omega|exact Bool.noConfusion hb))))
    all_goals
     go_roundw
     case rel=>exact ⟨m,afX r ws[m],acc++[aoa ws[m]],A2,c2,wr2,by omega,rfl,by omega,by simp;omega,HRn,Lib.hid hW2,Lib.hid (by have h:=hS.tail;rw [show (acc++[aoa ws[m]]).length=acc.length+1 by simp];exact h)⟩
     case measure=>simp [azo]
  ·have hF:aj3 [] r acc=F0:=by
    rw [←HR.out]
    rcases k with _|m
    ·rfl
    ·have hm:m<ws.length:=hk
     have hx:Lib.hasPrefix ws[m] [91]=false:=by
      cases h:Lib.hasPrefix ws[m] [91] with
      |false=>rfl
      |true=>exact absurd ⟨m,rfl,hm,h⟩ hgo
     rw [axj hm,ayB hx,awf]
   rw [awf] at hF
   have HG2:Hid (G=arn F r acc.reverse az0):=Lib.hid (by rw [HG.out,←hF])
   clear HG
   clear HR hF
   have:jr r:=⟨by omega⟩
   have hal:acc.length<100000000:=by omega
   rcases k with _|m
   ·clear hgo
    go_wp2_with (first|(have hq:=iE;subst hq)|(have hq:=sE;subst hq)|(go_at_call 133;refine (azv (p:=_::_::_::_::X) hW hS).mono ?_;clear hS;rintro e w ⟨wr2,rfl,hW2,hS⟩;simp only [List.cons_append] at hS)|(go_at_call 127;(first|refine (asJ ajN r (by decide) hr hS (by repeat constructor) (by repeat constructor) (fun e=>by rw [e])).mono ?_|refine (asJ akg r (by decide) hr hS (by repeat constructor) (by repeat constructor) (fun e=>by rw [e])).mono ?_);clear hS;rintro e w ⟨rfl,hS⟩)|refine s0 ?_|(refine s1 ?_;clear hS;intro w hS)|(refine s2 ?_;clear hS;intro g w hS)|(refine s4 ?_;clear hS;intro g cur cw w hw hcw hS)|(refine s3 ?_ ?_<;>intro hb<;>(try subst hb)<;>(try (exfalso;first|omega|exact Bool.noConfusion hb))))
    all_goals first
     |(have e:=HG2.out.trans (au9 (by first|assumption|decide))
       refine res1 hS ?_
       refine ⟨_,es,rfl,by rw [e];rfl,?_,hS.below⟩
       rw [e];exact fun w2 hk=>apL rfl rfl rfl hal hW2 zA Ht HX (aep.more hS (fun y hy=>by simp [hy]) hk) (aep.more hS (fun y hy=>by simp [hy]) hk))
     |(have e:=HG2.out.trans (av9 (by first|assumption|decide) (by first|assumption|decide))
       refine res1 hS ?_
       refine ⟨_,es,rfl,by rw [e];rfl,?_,hS.below⟩
       rw [e];exact fun w2 hk=>apL rfl rfl rfl hal hW2 zA Ht HX (aep.more hS (fun y hy=>by simp [hy]) hk) (aep.more hS (fun y hy=>by simp [hy]) hk))
     |(have e:=HG2.out.trans (avz (by first|assumption|decide) (by first|assumption|decide) (by first|assumption|decide))
       refine res1 hS ?_
       refine ⟨_,es,rfl,by rw [e];rfl,?_,hS.below⟩
       rw [e];exact fun w2 hk=>apL rfl rfl rfl hal hW2 zA Ht HX (aep.more hS (fun y hy=>by simp [hy]) hk) (aep.more hS (fun y hy=>by simp [hy]) hk))
     |(have e:=HG2.out.trans (awY (by first|assumption|decide) (by first|assumption|decide) (by first|assumption|decide))
       refine res1 hS ?_
       refine ⟨_,es,rfl,by rw [e];rfl,?_,hS.below⟩
       rw [e];exact fun w2 hk=>apL rfl rfl rfl hal hW2 zA Ht HX (aep.more hS (fun y hy=>by simp [hy]) hk) (aep.more hS (fun y hy=>by simp [hy]) hk))
   ·have hm:m<ws.length:=hk
    have hx:Lib.hasPrefix ws[m] [91]=false:=by
     cases h:Lib.hasPrefix ws[m] [91] with
     |false=>rfl
     |true=>exact absurd ⟨m,rfl,hm,h⟩ hgo
    have:jr ws[m]:=⟨by have:=hwm _ (List.getElem_mem hm);omega⟩
    have hgd:ws.getD m []=ws[m]:=by rw [List.getD_eq_getElem?_getD,List.getElem?_eq_getElem hm];rfl
    have:jr (ws.getD m []):=by rw [hgd];infer_instance
    have hmw:IntKind.i64.wrap (m:Int)=(m:Int):=BZ _ (by omega) (by omega)
    have hm0:(0:Int)≤(m:Int):=by omega
    have hm1:(m:Int)<(m:Int)+1:=by omega
    clear hgo hgd
    go_wp2_with (first|(have hq:=iE;subst hq)|(have hq:=sE;subst hq)|(go_at_call 133;refine (azv (p:=_::_::_::_::X) hW hS).mono ?_;clear hS;rintro e w ⟨wr2,rfl,hW2,hS⟩;simp only [List.cons_append] at hS)|(go_at_call 127;(first|refine (asJ ajN r (by decide) hr hS (by repeat constructor) (by repeat constructor) (fun e=>by rw [e])).mono ?_|refine (asJ akg r (by decide) hr hS (by repeat constructor) (by repeat constructor) (fun e=>by rw [e])).mono ?_);clear hS;rintro e w ⟨rfl,hS⟩)|refine s0 ?_|(refine s1 ?_;clear hS;intro w hS)|(refine s2 ?_;clear hS;intro g w hS)|(refine s4 ?_;clear hS;intro g cur cw w hw hcw hS)|(refine s3 ?_ ?_<;>intro hb<;>(try subst hb)<;>(try (exfalso;first|omega|exact Bool.noConfusion hb))))
    all_goals first
     |(have e:=HG2.out.trans (au9 (by first|assumption|decide))
       refine res1 hS ?_
       refine ⟨_,es,rfl,by rw [e];rfl,?_,hS.below⟩
       rw [e];exact fun w2 hk=>apL rfl rfl rfl hal hW2 zA Ht HX (aep.more hS (fun y hy=>by simp [hy]) hk) (aep.more hS (fun y hy=>by simp [hy]) hk))
     |(have e:=HG2.out.trans (av9 (by first|assumption|decide) (by first|assumption|decide))
       refine res1 hS ?_
       refine ⟨_,es,rfl,by rw [e];rfl,?_,hS.below⟩
       rw [e];exact fun w2 hk=>apL rfl rfl rfl hal hW2 zA Ht HX (aep.more hS (fun y hy=>by simp [hy]) hk) (aep.more hS (fun y hy=>by simp [hy]) hk))
     |(have e:=HG2.out.trans (avz (by first|assumption|decide) (by first|assumption|decide) (by first|assumption|decide))
       refine res1 hS ?_
       refine ⟨_,es,rfl,by rw [e];rfl,?_,hS.below⟩
       rw [e];exact fun w2 hk=>apL rfl rfl rfl hal hW2 zA Ht HX (aep.more hS (fun y hy=>by simp [hy]) hk) (aep.more hS (fun y hy=>by simp [hy]) hk))
     |(have e:=HG2.out.trans (awY (by first|assumption|decide) (by first|assumption|decide) (by first|assumption|decide))
       refine res1 hS ?_
       refine ⟨_,es,rfl,by rw [e];rfl,?_,hS.below⟩
       rw [e];exact fun w2 hk=>apL rfl rfl rfl hal hW2 zA Ht HX (aep.more hS (fun y hy=>by simp [hy]) hk) (aep.more hS (fun y hy=>by simp [hy]) hk))
theorem aze (s:Str) (hs:s.length<90000000) (w0:World) (hl:aew w0):Calls Tryz.prog 47 #[.string (B s)] w0 (AbR (aek s) w0):=by
 cases hq:Lib.hasPrefix s aeH with
 |true=>exact ayv s hs hq w0 hl
 |false=>
  cases hp:Lib.hasPrefix s ajL with
  |true=>exact awJ s hs hq hp w0 hl
  |false=>exact ayu s hs hq hp w0 hl
end Go.Proofs.YtdicgggkdmkklaaGreatDoor
