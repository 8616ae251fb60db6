/- Abilities in memory as handed in: lists of any length. Conditions: none. Plain words: how long an ability's text is; an ability of one kind as one of another kind. No program in sight. Abilities ha -/
import Derived.Test.YtdicgggkdmkklaaGreatDoorMVArg
import Derived.Test.YtdicgggkdmkklaaGreatDoorMVText
import Derived.Test.YtdicgggkdmkklaaGreatDoorMEParse
import Derived.Test.YtdicgggkdmkklaaGreatDoorMEAlive
set_option linter.all false
set_option maxRecDepth 100000
set_option maxHeartbeats 16000000
namespace Go.Proofs.YtdicgggkdmkklaaGreatDoor
open Go.ChangeShapes Go.WideShapes Go.RowKit
structure asf (x:Ax) (mods:List Md) (specs:List Sp) (es:List EV) (w:World):Prop where
 mn:x.mods.n=mods.length
 ml:mods.length≤9223372036854775807
 ma:uj x.mods.a mods w
 sn:x.specs.n=specs.length
 sl:specs.length≤9223372036854775807
 sa:aqh x.specs.a specs w
 en:x.qE.n=es.length
 ea:og x.qE.a es w
theorem asf.keep {x:Ax} {mods:List Md} {specs:List Sp} {es:List EV} {w1 w2:World} (h:asf x mods specs es w1) (hb:Below w1.heap.size w1 w2):asf x mods specs es w2:= { h with ma:=h.ma.keep hb,sa:=h.sa.keep hb,ea:=h.ea.keep hb }
def ayk (mods:List Md) (specs:List Sp) (es:List EV):Prop:=mods.length≤20∧specs.length≤20∧es.length≤20∧∀p∈es,p.1.mods.length≤20
theorem asf.few {x:Ax} {mods:List Md} {specs:List Sp} {es:List EV} {w:World} (h:asf x mods specs es w) (hf:ayk mods specs es):anc x mods specs (es.map Prod.fst) es w:=
 ⟨h.mn,by have:=hf.1;omega,h.ma,h.sn,by have:=hf.2.1;omega,h.sa,h.en,by have:=hf.2.2.1;omega,h.ea.few hf.2.2.2,rfl⟩
structure anh (x:Ax) (mods:List Md) (specs:List Sp) (es:List EV) (w:World):Prop where
 v:aew w
 at_:asf x mods specs es w
theorem axS (x:Ax) (mods:List Md) (specs:List Sp) (es:List EV):∀w1 w2:World,anh x mods specs es w1→Below w1.heap.size w1 w2→anh x mods specs es w2:=fun _ _ h hb=>⟨h.v.below hb,h.at_.keep hb⟩
theorem anh.few {x:Ax} {mods:List Md} {specs:List Sp} {es:List EV} {w:World} (h:anh x mods specs es w) (hf:ayk mods specs es):aq5 x mods specs (es.map Prod.fst) es w:=⟨h.v,h.at_.few hf⟩
theorem an5 (b:Bool) (s:Str):((opt b s).map List.length).sum≤s.length:=by cases b<;>simp [opt]
theorem ayg {α:Type} (f:α→Str) (B:Nat) (h:∀x,(f x).length≤B):∀l:List α,((l.map f).map List.length).sum≤l.length * B
 |[]=>by simp
 |x::l=>by
  have h1:=h x
  have h2:=ayg f B h l
  simp only [List.map_cons,List.sum_cons,List.length_cons,Nat.succ_mul]
  omega
theorem axr (e:Ef):(dB e).length≤10001000:=by
 unfold dB
 split
 ·rename_i h
  have o:=Eo h
  have h1:=MV e.ref
  have h2:=Oo e.amt
  have h3:=Gt e.mods
  have h4:=oH (f:=e.flt)
  have h5:=OB (Ee e.pool)
  have h6:=Ws e.ctr
  have h7:=Y0 e.zone
  have h8:=PW e.op
  have hn:=aco e
  have hj:=aqP (kM e)
  have hc:((opt (uC e.op) (L e.card)).map List.length).sum≤32:=by
   cases hu:uC e.op with
   |false=>simp [opt]
   |true=>
    have hc:=o.card
    unfold fCard at hc
    rw [if_pos hu] at hc
    have:=Pj hc
    simp [opt];omega
  have s1:=an5 (uR e.op) (dI e.ref)
  have s2:=an5 (uZ e.op) (dR e.zone)
  have s3:=an5 (uK e.op) (dw e.ctr)
  have s5:=an5 (uA e.op) (dW e.amt)
  have s6:=an5 (uM e.op) (yZ e.mods)
  have s7:=an5 (uP e.op) (jY e.pool)
  have s8:=an5 (uF e.op) (Gg e.flt)
  have m6:(yZ e.mods).length≤(eH e.mods).length+10:=by unfold yZ;simp
  have m7:(jY e.pool).length≤60:=by unfold jY;omega
  have m8:(Gg e.flt).length≤(textOf e.flt).length+10:=by unfold Gg;simp
  have hs:((kM e).map List.length).sum≤10000900:=by
   unfold kM
   simp only [List.map_cons,List.map_append,List.sum_cons,List.sum_append]
   omega
  omega
 ·simp
theorem awH (l:List Ef):(jW l).length≤80100000:=by
 unfold jW
 split
 ·rename_i h
  have h1:=join_le jC 10001000 (l.map dB) (fun x hx=>by
   obtain ⟨e,_,rfl⟩:=List.mem_map.1 hx
   exact axr e)
  have h2:jC.length=2:=rfl
  have h3:=h.2.1
  rw [List.length_map,h2] at h1
  have:l.length * (10001000+2)≤8 * (10001000+2):=Nat.mul_le_mul_right _ h3
  omega
 ·simp
theorem aw4 (r:Rp):(aeg r).length≤1001000:=by
 cases h:ael r with
 |false=>rw [asq h];simp
 |true=>
  obtain ⟨on,who,f,d,n,z,c⟩:=r
  obtain ⟨_,_,_,_,f1,f2,hac⟩:=aoZ h
  have h1:=oH (f:=f)
  have h2:=ari on who d
  have h3:=ano who
  have hn:0≤n∧n≤1000000:=by unfold ash at hac;simp only at hac;omega
  have h4:=asM d n z c hn
  rw [show aeg ⟨on,who,f,d,n,z,c⟩=anj ⟨on,who,f,d,n,z,c⟩ from if_pos h]
  unfold anj aru
  simp only [List.length_append,List.length_cons]
  split<;>simp<;>omega
theorem aC3 {a:Ab} (h:aej a=true) (h1:¬a.k=1) (h5:¬a.k=5):vE a=true:=by
 unfold aej at h
 rw [if_neg h1,if_neg h5] at h
 split at h
 ·simp only [Bool.and_eq_true] at h;exact h.2.2.2.2
 ·split at h
  ·simp only [Bool.and_eq_true] at h;exact h.2.2.2.2
  ·split at h
   ·simp only [Bool.and_eq_true] at h;exact h.2.2.2.2
   ·cases h
theorem aBN {a:Ab} (h:vE a=true):a.specs.length≤4:=by
 unfold vE at h
 simp only [Bool.and_eq_true,decide_eq_true_eq] at h
 exact h.2.1
theorem awC (a:Ab):(aeh a).length<90000000:=by
 cases h:aej a with
 |false=>rw [asg h];decide
 |true=>
  rw [show aeh a=ajZ a from if_pos h]
  have h1:=oH (f:=a.f)
  have h2:=Gt a.mods
  have h3:=aw4 a.r
  have h4:=awH a.qE
  have q1:ajL.length=8:=rfl
  have q2:aeH.length=8:=rfl
  unfold ajZ
  split
  ·simp only [List.length_append,List.length_cons];omega
  ·rename_i k1
   split
   ·simp only [List.length_append];omega
   ·rename_i k5
    have hv:=aBN (aC3 h k1 k5)
    have hj:=aqP (headW a)
    have hs:=ayg MI 1000020 (fun s=>(axV (s:=s)).le) a.specs
    have ht:=(axW (t:=a.t)).le
    have hp:=(axU (p:=a.pr)).le
    have hm:(anr a).length≤2∧((anr a).map List.length).sum≤1020300:=by
     have q3:ajN.length=4:=rfl
     have q4:akg.length=3:=rfl
     have g1:=an5 a.slow ajN
     have g2:=an5 a.may akg
     have g3:=wI a.slow ajN
     have g4:=wI a.may akg
     unfold anr
     split
     ·simp
     ·split
      ·simp only [List.length_cons,List.map_cons,List.sum_cons];omega
      ·simp only [List.length_cons,List.map_cons,List.sum_cons];omega
    have hf:(akf a.k).length≤5:=by unfold akf;repeat' split
                                   all_goals decide
    have:a.specs.length * 1000020≤4 * 1000020:=Nat.mul_le_mul_right _ hv
    unfold headW at hj ⊢
    simp only [List.length_append,List.length_cons,List.map_cons,List.map_append,List.sum_cons,List.sum_append,List.length_map] at hj ⊢
    omega
theorem aAG {l:List Md} (h:l.length=0):eH l=[]:=by
 obtain rfl:=List.length_eq_zero_iff.1 h
 rfl
theorem aB8:ajU adY=false:=by decide +kernel
theorem aB7:aeF RD=true:=by decide +kernel
theorem aDu {a:Ab} (h:vE a=true):¬a.qE.length=0:=by
 unfold vE at h
 simp only [Bool.and_eq_true,decide_eq_true_eq] at h
 omega
theorem aB5 {a:Ab} (h:aej a=true) (k:Int):aej { a with k:=k } =((k==a.k) || ((a.k==3&&(k==2&&(arE a.pr RD&& !a.slow))) || (a.k==2&&k==3))):=by
 obtain ⟨ka,f,mods,pr,slow,t,may,specs,qE,r⟩:=a
 have hml:mods.length=0→eH mods=[]:=aAG
 have htg:asz t adY=true→ajU t=false:=fun e=>by rw [(avq t adY).1 e];exact aB8
 have hpr:arE pr RD=true→aeF pr=true:=fun e=>by rw [(avl pr RD).1 e];exact aB7
 have hve:vE ⟨k,f,mods,pr,slow,t,may,specs,qE,r⟩=vE ⟨ka,f,mods,pr,slow,t,may,specs,qE,r⟩:=rfl
 have hvp:vE ⟨ka,f,mods,pr,slow,t,may,specs,qE,r⟩=true→¬qE.length=0:=fun e=>aDu e
 have hF:axH ⟨k,f,mods,pr,slow,t,may,specs,qE,r⟩=axH ⟨ka,f,mods,pr,slow,t,may,specs,qE,r⟩:=rfl
 have hP:axI ⟨k,f,mods,pr,slow,t,may,specs,qE,r⟩=axI ⟨ka,f,mods,pr,slow,t,may,specs,qE,r⟩:=rfl
 have hT:axJ ⟨k,f,mods,pr,slow,t,may,specs,qE,r⟩=axJ ⟨ka,f,mods,pr,slow,t,may,specs,qE,r⟩:=rfl
 have hR:vR ⟨k,f,mods,pr,slow,t,may,specs,qE,r⟩=vR ⟨ka,f,mods,pr,slow,t,may,specs,qE,r⟩:=rfl
 have hN:aBO ⟨k,f,mods,pr,slow,t,may,specs,qE,r⟩=aBO ⟨ka,f,mods,pr,slow,t,may,specs,qE,r⟩:=rfl
 have hF2:axH ⟨ka,f,mods,pr,slow,t,may,specs,qE,r⟩=true→mods.length=0:=fun e=>by
  unfold axH at e
  simp only [Bool.and_eq_true,decide_eq_true_eq] at e
  exact e.2
 have hT2:axJ ⟨ka,f,mods,pr,slow,t,may,specs,qE,r⟩=true→asz t adY=true:=fun e=>by
  unfold axJ at e
  simp only [Bool.and_eq_true] at e
  exact e.1
 have hN2:aBO ⟨ka,f,mods,pr,slow,t,may,specs,qE,r⟩=true→qE.length=0:=fun e=>by
  unfold aBO at e
  simp only [Bool.and_eq_true,decide_eq_true_eq] at e
  exact e.2
 have hP2:axI ⟨ka,f,mods,pr,slow,t,may,specs,qE,r⟩=(arE pr RD&& !slow):=rfl
 unfold aej at h ⊢
 simp only [hve,hF,hP,hT,hR,hN] at h ⊢
 clear hve hF hP hT hR hN
 generalize vE _=bE at *
 generalize axH _=aGO at *
 generalize axI _=aHl at *
 generalize axJ _=aGP at *
 generalize vR _=bR at *
 generalize aBO _=bN at *
 subst hP2
 have hk:k=1∨k=2∨k=3∨k=4∨k=5∨(k≠1∧k≠2∧k≠3∧k≠4∧k≠5):=by omega
 have hka:ka=1∨ka=2∨ka=3∨ka=4∨ka=5∨(ka≠1∧ka≠2∧ka≠3∧ka≠4∧ka≠5):=by omega
 rcases hka with rfl|rfl|rfl|rfl|rfl|⟨a1,a2,a3,a4,a5⟩
 case inr.inr.inr.inr.inr=>simp [a1,a2,a3,a4,a5] at h
 all_goals
  rcases hk with rfl|rfl|rfl|rfl|rfl|⟨b1,b2,b3,b4,b5⟩
 all_goals simp only [Bool.and_eq_true,show ((2:Int)=1)=False by simp,show ((3:Int)=1)=False by simp,show ((4:Int)=1)=False by simp,show ((5:Int)=1)=False by simp,show ((2:Int)=5)=False by simp,show ((3:Int)=5)=False by simp,show ((4:Int)=5)=False by simp,show ((3:Int)=2)=False by simp,show ((4:Int)=2)=False by simp,show ((4:Int)=3)=False by simp,if_true,if_false] at h
 all_goals first
  |(simp_all;done)
  |(cases aGO<;>cases bE<;>cases aGP<;>cases bN<;>cases bR<;>simp_all;done)
theorem aB6 {a:Ab} (h:aej a=true):aej { a with qE:=[] } =((a.k==1) || (a.k==5)):=by
 by_cases h1:a.k=1
 ·obtain ⟨ka,f,mods,pr,slow,t,may,specs,qE,r⟩:=a
  simp only at h1
  subst h1
  simp [aej,axI,axJ,vR,aBO] at h ⊢
  simp [h]
 ·by_cases h5:a.k=5
  ·obtain ⟨ka,f,mods,pr,slow,t,may,specs,qE,r⟩:=a
   simp only at h5
   subst h5
   simp [aej,axH,axI,axJ,aBO] at h ⊢
   simp [h]
  ·have hn:vE { a with qE:=[] } =false:=aCV (.inl rfl)
   rw [show (a.k==1)=false from beq_eq_false_iff_ne.2 h1,show (a.k==5)=false from beq_eq_false_iff_ne.2 h5]
   unfold aej
   rw [if_neg (show ¬({ a with qE:=[] } :Ab).k=1 from h1),if_neg (show ¬({ a with qE:=[] } :Ab).k=5 from h5),hn]
   simp
theorem aww {x:Ax} {mods:List Md} {specs:List Sp} {qE:List Ef} {es:List EV} {w:World} (v:aew w) (h:anc x mods specs qE es w):Calls Tryz.prog 11 #[.agg (Ax.cells x)] w fun e w'=>e= .returned (.bool (aej (x.ab mods specs qE)))∧Below w.heap.size w w':=
 ayW x mods specs qE es (aq5 x mods specs qE es) w ⟨v,h⟩ (auq _ _ _ _ _)
theorem avd {x:Ax} {mods:List Md} {specs:List Sp} {qE:List Ef} {es:List EV} {w:World} (v:aew w) (h:anc x mods specs qE es w):Calls Tryz.prog 13 #[.agg (Ax.cells x)] w fun e w'=>e= .returned (.string (B (aeh (x.ab mods specs qE))))∧Below w.heap.size w w':=
 awD x mods specs qE es (aq5 x mods specs qE es) w ⟨v,h⟩ (auq _ _ _ _ _)
theorem anc.kind {x:Ax} {mods:List Md} {specs:List Sp} {qE:List Ef} {es:List EV} {w:World} (h:anc x mods specs qE es w) (k:Int):anc ⟨k,x.f,x.mods,x.pr,x.slow,x.t,x.may,x.specs,x.qE,x.r⟩ mods specs qE es w:=⟨h.mn,h.ml,h.ma,h.sn,h.sl,h.sa,h.en,h.el,h.ea,h.ee⟩
theorem anc.bare {x:Ax} {mods:List Md} {specs:List Sp} {qE:List Ef} {es:List EV} {w:World} (h:anc x mods specs qE es w):anc ⟨x.kind,x.f,x.mods,x.pr,x.slow,x.t,x.may,x.specs,⟨none,0,0⟩,x.r⟩ mods specs [] [] w:=⟨h.mn,h.ml,h.ma,h.sn,h.sl,h.sa,rfl,by decide,⟨.inl rfl,by simp⟩,rfl⟩
end Go.Proofs.YtdicgggkdmkklaaGreatDoor
namespace Go.Proofs.YtdicgggkdmkklaaGreatDoor
attribute [local irreducible] wpList Code.wp Calls dh fK aeu aej ajU ael aeF eH afp MI LX jl jW asz arb arE atm
open Go.ChangeShapes Go.WideShapes Go.RowKit
structure arh (x y:Ax) (mods:List Md) (specs:List Sp) (qE:List Ef) (es es2:List EV) (w:World):Prop where
 a:anc x mods specs qE es w
 b:anc y mods specs qE es2 w
theorem aCD (x y:Ax) (mods:List Md) (specs:List Sp) (qE:List Ef) (es es2:List EV):∀w1 w2:World,arh x y mods specs qE es es2 w1→Below w1.heap.size w1 w2→arh x y mods specs qE es es2 w2:=fun _ _ h hb=>⟨h.a.keep hb,h.b.keep hb⟩
theorem azE {x y:Ax} {mods:List Md} {specs:List Sp} {qE:List Ef} {es es2:List EV} {w:World} (h:arh x y mods specs qE es es2 w):Calls Tryz.prog 58 #[.slice x.mods.a x.mods.n x.mods.c, .slice y.mods.a y.mods.n y.mods.c] w fun e w'=>e= .returned (.bool true)∧Below w.heap.size w w':=by
 rw [h.a.mn,h.b.mn]
 exact YI mods mods x.mods.a y.mods.a x.mods.c y.mods.c true (Lib.hid ((DR _ _).2 rfl)) w ⟨h.a.ma,h.b.ma⟩ h.a.ml h.b.ml
theorem azD {x y:Ax} {mods:List Md} {specs:List Sp} {qE:List Ef} {es es2:List EV} {w:World} (h:arh x y mods specs qE es es2 w):Calls Tryz.prog 59 #[.slice x.qE.a x.qE.n x.qE.c, .slice y.qE.a y.qE.n y.qE.c] w fun e w'=>e= .returned (.bool true)∧Below w.heap.size w w':=by
 rw [h.a.en,h.b.en]
 exact J7 es es2 x.qE.a y.qE.a x.qE.c y.qE.c true (Lib.hid ((yw _ _).2 (h.a.ee.trans h.b.ee.symm))) w ⟨h.a.ea,h.b.ea⟩ (by have:=h.a.el;omega) (by have:=h.b.el;omega)
theorem ax1 (x y:Ax) (mods:List Md) (specs:List Sp) (qE:List Ef) (es es2:List EV) (hxy:x.ab mods specs qE=y.ab mods specs qE) (w0:World) (hl:arh x y mods specs qE es es2 w0):Calls Tryz.prog 19 #[.agg (Ax.cells x), .agg (Ax.cells y)] w0 fun e w'=>e= .returned (.bool true)∧Below w0.heap.size w0 w':=by
 have e1:x.kind=y.kind:=congrArg Ab.k hxy
 have e2:x.f=y.f:=congrArg Ab.f hxy
 have e3:x.pr=y.pr:=congrArg Ab.pr hxy
 have e4:x.slow=y.slow:=congrArg Ab.slow hxy
 have e5:x.t=y.t:=congrArg Ab.t hxy
 have e6:x.may=y.may:=congrArg Ab.may hxy
 have e7:x.r=y.r:=congrArg Ab.r hxy
 have e8:x.specs.n=y.specs.n:=by rw [hl.a.sn,hl.b.sn]
 have g1:(x.kind==y.kind)=true:=beq_iff_eq.2 e1
 have g2:fK x.f y.f=true:=(lI _ _).2 e2
 have g3:arE x.pr y.pr=true:=(avl _ _).2 e3
 have g4:(x.slow==y.slow)=true:=by rw [e4];simp
 have g5:asz x.t y.t=true:=(avq _ _).2 e5
 have g6:(x.may==y.may)=true:=by rw [e6];simp
 have g7:arb x.r y.r=true:=(arF _ _).2 e7
 have g8:((x.specs.n:Int)==(y.specs.n:Int))=true:=by rw [e8];simp
 have g9:((x.specs.n:Int) != (y.specs.n:Int))=false:=by rw [e8];simp
 have hmx:x.specs.n<100000000:=by rw [hl.a.sn];exact hl.a.sl
 have hmy:y.specs.n<100000000:=by rw [hl.b.sn];exact hl.b.sl
 have HN:=Lib.hid hl.a.sn
 have II:=Lib.hid hl.b.sn
 have HG:=Lib.hid (And.intro g1 (And.intro g2 (And.intro g3 (And.intro g4 (And.intro g5 (And.intro g6 g7))))))
 clear e1 e2 e3 e4 e5 e6 e7 g1 g2 g3 g4 g5 g6 g7 hxy
 have hS:=St.start hl (aCD _ _ _ _ _ _ _)
 go_in
 go_wp2_with (first|(have hq:=iE;subst hq)|(have hq:=sE;subst hq)|refine s0 ?_|(refine s1 ?_;clear hS;intro w hS)|(refine s2 ?_;clear hS;intro g w hS)|(refine s4 ?_;clear hS;intro g cur cw w hw hcw hS)|(refine s3 ?_ ?_<;>intro hb<;>(try subst hb)<;>(try (exfalso;first|omega|exact Bool.noConfusion hb))))
 obtain ⟨rows,hrows,hS⟩:∃rows,rows=[(_,Ax.cells y,39),(_,Ax.cells x,39)]∧St (arh x y mods specs qE es es2) w0 rows w:=⟨_,rfl,hS⟩
 have HRW:=Lib.hid hrows
 clear hrows
 go_loopw [5] (fun iv wr=>∃j:Nat,j≤x.specs.n∧iv= .int .i64 j∧Hid (St (arh x y mods specs qE es es2) w0 rows wr)) (fun iv _=>x.specs.n - (intOf iv).toNat)
 case atStart=>exact ⟨0,by omega,rfl,Lib.hid hS⟩
 case round=>
  clear hS
  obtain ⟨j,hj,rfl,HS⟩:=hrel
  have hS:=HS.out
  rw [HRW.out] at hS
  clear HS
  by_cases hlt:j<x.specs.n
  ·have hle:j<specs.length:=by rw [←HN.out];exact hlt
   have hlt2:j<y.specs.n:=by omega
   obtain ⟨s,hs⟩:∃s,specs[j]? =some s:=⟨specs[j],List.getElem?_eq_getElem hle⟩
   obtain ⟨b1,o1,hA1⟩:=hl.a.sa.zB hle
   obtain ⟨b2,o2,hA2⟩:=hl.b.sa.zB hle
   have HP:=Lib.hid hs
   have HQ1:Hid (∀w,arh x y mods specs qE es es2 w→w.rangeAt b1 (o1+j * 18) (Sp.cells s).toList):=Lib.hid fun w h=>by
    have h:=h.a.sa
    rw [hA1] at h
    exact h.row HP
   have nX:Hid (∀w,arh x y mods specs qE es es2 w→w.rangeAt b2 (o2+j * 18) (Sp.cells s).toList):=Lib.hid fun w h=>by
    have h:=h.b.sa
    rw [hA2] at h
    exact h.row HP
   have hji:(j:Int)<x.specs.n:=by omega
   have aFZ:(j:Int)<y.specs.n:=by omega
   have hj0:(0:Int)≤(j:Int):=by omega
   have hq:(!atm s s)=false:=by rw [azG];rfl
   have HCX:Hid (Ax.cells x=Ax.cells ⟨x.kind,x.f,x.mods,x.pr,x.slow,x.t,x.may,⟨some ⟨b1,o1,none⟩,x.specs.n,x.specs.c⟩,x.qE,x.r⟩):=Lib.hid (by rw [←hA1])
   have HCY:Hid (Ax.cells y=Ax.cells ⟨y.kind,y.f,y.mods,y.pr,y.slow,y.t,y.may,⟨some ⟨b2,o2,none⟩,y.specs.n,y.specs.c⟩,y.qE,y.r⟩):=Lib.hid (by rw [←hA2])
   rw [HCX.out,HCY.out] at hS
   clear hs hle hA1 hA2
   go_wp2_with (first|(have hq:=iE;subst hq)|(have hq:=sE;subst hq)|((with_reducible refine gY ?_);refine qp (ds:=Sp.cells s) 49 rfl rfl rfl (fun w hS=>HQ1.out _ hS.laid) Tryz.underlying49 rfl (by kernel_rfl) (fun _ _ _ h=>h) ?_;(try simp only [ah,ak,au,ay,aA]))|((with_reducible refine gY ?_);refine qp (ds:=Sp.cells s) 49 rfl rfl rfl (fun w hS=>nX.out _ hS.laid) Tryz.underlying49 rfl (by kernel_rfl) (fun _ _ _ h=>h) ?_;(try simp only [ah,ak,au,ay,aA]))|((with_reducible refine dS ?_);refine Qm rfl (fun w _=>ajh (by rfl) (by rfl) (by rfl) (by kernel_rfl) (by infer_instance) w) (fun _ _ _ h=>h) (by simp only [ah,ak,au,ay,aA];exact rfl) ?_)|refine s0 ?_|(refine s1 ?_;clear hS;intro w hS)|(refine s2 ?_;clear hS;intro g w hS)|(refine s4 ?_;clear hS;intro g cur cw w hw hcw hS)|(refine s3 ?_ ?_<;>intro hb<;>(try subst hb)<;>(try (exfalso;first|omega|exact Bool.noConfusion hb))))
   all_goals first
    |(exfalso;have h:= ‹(!atm s s)=true›;rw [hq] at h;cases h)
    |(go_roundw
      case rel=>exact ⟨j+1,by omega,by go_num,Lib.hid (by rw [HRW.out,HCX.out,HCY.out];exact hS)⟩
      case measure=>simp [intOf];omega)
  ·skip
   have hjx:¬(j:Int)<x.specs.n:=by omega
   obtain ⟨g1,g2,g3,g4,g5,g6,g7⟩:=HG.out
   go_wp2_with (first|(have hq:=iE;subst hq)|(have hq:=sE;subst hq)|(go_at_call 58;refine c_call (v:= .bool true) (fun hl=>azE hl) hS ?_;clear hS;intro w hS)|(go_at_call 59;refine c_call (v:= .bool true) (fun hl=>azD hl) hS ?_;clear hS;intro w hS)|refine s0 ?_|(refine s1 ?_;clear hS;intro w hS)|(refine s2 ?_;clear hS;intro g w hS)|(refine s4 ?_;clear hS;intro g cur cw w hw hcw hS)|(refine s3 ?_ ?_<;>intro hb<;>(try subst hb)<;>(try (exfalso;first|omega|exact Bool.noConfusion hb))))
   all_goals go_ret
   all_goals exact ⟨aX (by simp),hS.below⟩
end Go.Proofs.YtdicgggkdmkklaaGreatDoor
namespace Go.Proofs.YtdicgggkdmkklaaGreatDoor
attribute [local irreducible] wpList Code.wp Calls
open Go.ChangeShapes Go.WideShapes Go.RowKit
def LtP (F:Prop) (e:Ending):Prop:=∃b,e= .returned (.bool b)∧(b=true→F)
theorem aw2 (x:Ax) (mods:List Md) (specs:List Sp) (es:List EV) (w0:World) (hl:anh x mods specs es w0):Calls Tryz.prog 9 #[.agg (Ax.cells x)] w0 fun e w'=>LtP (ayk mods specs es) e∧Below w0.heap.size w0 w':=by
 have HM:=Lib.hid hl.at_.mn
 have HN:=Lib.hid hl.at_.sn
 have HE:=Lib.hid hl.at_.en
 have hm1:x.mods.n≤9223372036854775807:=by rw [HM.out];exact hl.at_.ml
 have hs1:x.specs.n≤9223372036854775807:=by rw [HN.out];exact hl.at_.sl
 have he1:x.qE.n≤9223372036854775807:=by rw [HE.out];exact hl.at_.ea.2.1
 have hS:=St.start hl (axS _ _ _ _)
 go_in
 go_wp2_with (first|(have hq:=iE;subst hq)|(have hq:=sE;subst hq)|(go_at_call 24;have HLI:=Lib.hid (show Calls Tryz.prog 24 #[.slice x.qE.a x.qE.n x.qE.c] w _ by rw [HE.out];exact CU es x.qE.a x.qE.c _ hS.laid.at_.ea);refine HLI.out.mono ?_;rintro e w1 ⟨⟨b,rfl,h20⟩,hb⟩;have hS2:=hS.mono hb;clear hS HLI;have hS:=hS2;have H20:=Lib.hid h20;clear hb h20 hS2;cases b)|refine s0 ?_|(refine s1 ?_;clear hS;intro w hS)|(refine s2 ?_;clear hS;intro g w hS)|(refine s4 ?_;clear hS;intro g cur cw w hw hcw hS)|(refine s3 ?_ ?_<;>intro hb<;>(try subst hb)<;>(try (exfalso;first|omega|exact Bool.noConfusion hb))))
 all_goals first
  |(go_ret;exact ⟨⟨false,rfl,fun h=>by cases h⟩,hS.below⟩)
  |skip
 have HF:Hid (ayk mods specs es):=Lib.hid ⟨by have:=HM.out;omega,by have:=HN.out;omega,(H20.out (by trivial)).1,(H20.out (by trivial)).2⟩
 clear H20
 have aF1:x.mods.n≤20:=by omega
 have aF2:x.specs.n≤20:=by omega
 generalize g=ga at *
 go_loopw [3] (fun iv wr=>∃j:Nat,j≤x.mods.n∧iv= .int .i64 j∧Hid (St (anh x mods specs es) w0 [(ga,Ax.cells x,39)] wr)) (fun iv _=>x.mods.n - (intOf iv).toNat)
 case atStart=>exact ⟨0,by omega,rfl,Lib.hid hS⟩
 case round=>
  clear hS
  obtain ⟨j,hj,rfl,HS⟩:=hrel
  have hS:=HS.out
  clear HS
  by_cases hlt:j<x.mods.n
  ·have hle:j<mods.length:=by rw [←HM.out];exact hlt
   obtain ⟨m,hm⟩:∃m,mods[j]? =some m:=⟨mods[j],List.getElem?_eq_getElem hle⟩
   obtain ⟨b1,o1,hA1⟩:=ad8 hl.at_.ma hle
   have HP:=Lib.hid hm
   have HQ1:Hid (∀w,anh x mods specs es w→w.cell? ⟨b1,o1+j * 20+3,none⟩=some (.string m.sub)):=Lib.hid fun w h=>by
    have h:=h.at_.ma
    rw [hA1] at h
    exact Ou h HP 3 rfl
   have nX:Hid (∀w,anh x mods specs es w→w.cell? ⟨b1,o1+j * 20+11,none⟩=some (.string m.f.sub)):=Lib.hid fun w h=>by
    have h:=h.at_.ma
    rw [hA1] at h
    exact Ou h HP 11 rfl
   clear hm hle
   have hji:(j:Int)<x.mods.n:=by omega
   go_wp2_with (first|(have hq:=iE;subst hq)|(have hq:=sE;subst hq)|((with_reducible refine aC (T:=9) ?_);refine mJ rfl rfl rfl (HQ1.out _ hS.laid) ?_;(try simp only [ah,ak,au,ay,aA]))|((with_reducible refine aC (T:=9) ?_);refine mJ rfl rfl rfl (nX.out _ hS.laid) ?_;(try simp only [ah,ak,au,ay,aA]))|refine s0 ?_|(refine s1 ?_;clear hS;intro w hS)|(refine s2 ?_;clear hS;intro g w hS)|(refine s4 ?_;clear hS;intro g cur cw w hw hcw hS)|(refine s3 ?_ ?_<;>intro hb<;>(try subst hb)<;>(try (exfalso;first|omega|exact Bool.noConfusion hb))))
   all_goals first
    |(go_ret;exact ⟨⟨false,rfl,fun h=>by cases h⟩,hS.below⟩)
    |(go_roundw
      case rel=>exact ⟨j+1,by omega,by go_num,Lib.hid hS⟩
      case measure=>simp [intOf];omega)
  ·have hjx:¬(j:Int)<x.mods.n:=by omega
   go_wp2_with (first|(have hq:=iE;subst hq)|(have hq:=sE;subst hq)|refine s0 ?_|(refine s1 ?_;clear hS;intro w hS)|(refine s2 ?_;clear hS;intro g w hS)|(refine s4 ?_;clear hS;intro g cur cw w hw hcw hS)|(refine s3 ?_ ?_<;>intro hb<;>(try subst hb)<;>(try (exfalso;first|omega|exact Bool.noConfusion hb))))
   go_loopw [4] (fun iv wr=>∃j:Nat,j≤x.specs.n∧iv= .int .i64 j∧Hid (St (anh x mods specs es) w0 [(ga,Ax.cells x,39)] wr)) (fun iv _=>x.specs.n - (intOf iv).toNat)
   case atStart=>exact ⟨0,by omega,rfl,Lib.hid hS⟩
   case round=>
    clear hS
    obtain ⟨j,hj,rfl,HS⟩:=hrel
    have hS:=HS.out
    clear HS
    by_cases hlt:j<x.specs.n
    ·have hle:j<specs.length:=by rw [←HN.out];exact hlt
     obtain ⟨s,hs⟩:∃s,specs[j]? =some s:=⟨specs[j],List.getElem?_eq_getElem hle⟩
     obtain ⟨b1,o1,hA1⟩:=hl.at_.sa.zB hle
     have HP:=Lib.hid hs
     have HQ1:Hid (∀w,anh x mods specs es w→w.cell? ⟨b1,o1+j * 18+9,none⟩=some (.string s.f.sub)):=Lib.hid fun w h=>by
      have h:=h.at_.sa
      rw [hA1] at h
      exact h.row HP 9 _ rfl
     clear hs hle
     have hji:(j:Int)<x.specs.n:=by omega
     go_wp2_with (first|(have hq:=iE;subst hq)|(have hq:=sE;subst hq)|((with_reducible refine aC (T:=9) ?_);refine mJ rfl rfl rfl (HQ1.out _ hS.laid) ?_;(try simp only [ah,ak,au,ay,aA]))|refine s0 ?_|(refine s1 ?_;clear hS;intro w hS)|(refine s2 ?_;clear hS;intro g w hS)|(refine s4 ?_;clear hS;intro g cur cw w hw hcw hS)|(refine s3 ?_ ?_<;>intro hb<;>(try subst hb)<;>(try (exfalso;first|omega|exact Bool.noConfusion hb))))
     all_goals first
      |(go_ret;exact ⟨⟨false,rfl,fun h=>by cases h⟩,hS.below⟩)
      |(go_roundw
        case rel=>exact ⟨j+1,by omega,by go_num,Lib.hid hS⟩
        case measure=>simp [intOf];omega)
    ·have hjx:¬(j:Int)<x.specs.n:=by omega
     go_wp2_with (first|(have hq:=iE;subst hq)|(have hq:=sE;subst hq)|refine s0 ?_|(refine s1 ?_;clear hS;intro w hS)|(refine s2 ?_;clear hS;intro g w hS)|(refine s4 ?_;clear hS;intro g cur cw w hw hcw hS)|(refine s3 ?_ ?_<;>intro hb<;>(try subst hb)<;>(try (exfalso;first|omega|exact Bool.noConfusion hb))))
     all_goals go_ret
     all_goals exact ⟨⟨true,rfl,fun _=>HF.out⟩,hS.below⟩
end Go.Proofs.YtdicgggkdmkklaaGreatDoor
