/- Plain words: abilities (chapter 20): specifications, prices, their texts and readings. No program in sight. Plain words: abilities (chapter 20): their words are found again, Parse inverts Text. No -/
import Derived.Test.YtdicgggkdmkklaaGreatDoorQ7
import Derived.Test.YtdicgggkdmkklaaGreatDoorQ3
import Derived.Test.YtdicgggkdmkklaaGreatDoorMTg
import Derived.Lib.SlTrimSet
import Derived.Test.YtdicgggkdmkklaaGreatDoorQ4
import Derived.Test.YtdicgggkdmkklaaGreatDoorMTp
set_option linter.all false
set_option maxRecDepth 100000
set_option maxHeartbeats 16000000
namespace Go.Proofs.YtdicgggkdmkklaaGreatDoor
open Go.ChangeShapes Go.WideShapes Go.RowKit
structure Sp where
 pl:Bool
 ob:Bool
 f:aH
structure Pr where
 aeC:Co
 dJ:Bool
 fM:Bool
 life:Int
structure Ab where
 k:Int
 f:aH
 mods:List Md
 pr:Pr
 slow:Bool
 t:Tg
 may:Bool
 specs:List Sp
 qE:List Ef
 r:Rp
def auG:Sp:=⟨false,false,aaB⟩
def RD:Pr:=⟨dQ,false,false,0⟩
def anz:Str:=[91,112,108,97,121,101,114,93]
def aen:Str:=[112,108,97,121,101,114,32,111,114,32]
def aqV:Str:=[116,97,112]
def ard:Str:=[115,97,99,114,105,102,105,99,101]
def ane:Str:=[108,105,102,101,32]
def aeH:Str:=[114,101,112,108,97,99,101,32]
def ajL:Str:=[115,116,97,116,105,99,32,40]
def auy:Str:=[115,112,101,108,108]
def axk:Str:=[117,115,101]
def avT:Str:=[119,104,101,110]
def ajN:Str:=[115,108,111,119]
def akg:Str:=[109,97,121]
def atm (a b:Sp):Bool:=a.pl==b.pl&&(a.ob==b.ob&&fK a.f b.f)
def arE (a b:Pr):Bool:=uU a.aeC b.aeC&&(a.dJ==b.dJ&&(a.fM==b.fM&&a.life==b.life))
theorem avl (a b:Pr):arE a b=true↔a=b:=by
 obtain ⟨a1,a2,a3,a4⟩:=a
 obtain ⟨b1,b2,b3,b4⟩:=b
 simp [arE,yh]
theorem azr (a:Pr):arE a a=true:=(avl a a).2 rfl
def afp (s:Sp):Bool:=if s.ob=true then dh s.f&&(s.f.zone==0 || (s.f.zone==3 || s.f.zone==5)) else s.pl&&fK s.f aaB
def MI (s:Sp):Str:=if afp s=true then (if s.ob=true then 91::((if s.pl=true then aen else [])++(40::(textOf s.f++[41,93]))) else anz) else []
def aeF (p:Pr):Bool:=kU p.aeC&&(p.aeC.x==0&&(decide (0≤p.life)&&decide (p.life≤99)))
def akd (p:Pr):List Str:=opt (!uU p.aeC dQ) (iy p.aeC)++(opt p.dJ aqV++(opt p.fM ard++opt (!(p.life==0)) (ane++Lib.itoa p.life)))
def ajK (p:Pr):List Str:=if akd p=[] then [[48]] else akd p
def LX (p:Pr):Str:=if aeF p=true then 123::(Lib.join (ajK p) iK++[125]) else []
def axH (a:Ab):Bool:=fK a.f aaB&&decide (a.mods.length=0)
def axI (a:Ab):Bool:=arE a.pr RD&& !a.slow
def axJ (a:Ab):Bool:=asz a.t adY&& !a.may
def vR (a:Ab):Bool:=arb a.r I5
def aBO (a:Ab):Bool:=decide (a.specs.length=0)&&decide (a.qE.length=0)
def vE (a:Ab):Bool:=a.specs.all afp&&(decide (a.specs.length≤4)&&((a.qE.all fun e=>jl e (a.specs.length:Int))&&(decide (1≤a.qE.length)&&decide (a.qE.length≤8))))
def aej (a:Ab):Bool:=
 if a.k=1 then dh a.f&&(a.f.zone==0&&(!(eH a.mods==[])&&(axI a&&(axJ a&&(vR a&&aBO a)))))
 else if a.k=5 then ael a.r&&(axH a&&(axI a&&(axJ a&&aBO a)))
 else if a.k=2 then axH a&&(axI a&&(axJ a&&(vR a&&vE a)))
 else if a.k=3 then aeF a.pr&&(axH a&&(axJ a&&(vR a&&vE a)))
 else if a.k=4 then ajU a.t&&(axH a&&(axI a&&(vR a&&vE a)))
 else false
def anr (a:Ab):List Str:=if a.k=2 then [] else if a.k=3 then LX a.pr::opt a.slow ajN else aei a.t::opt a.may akg
def akf (k:Int):Str:=if k=2 then auy else if k=3 then axk else avT
def headW (a:Ab):List Str:=akf a.k::(anr a++a.specs.map MI)
def ajZ (a:Ab):Str:=
 if a.k=1 then ajL++(textOf a.f++(41::32::eH a.mods))
 else if a.k=5 then aeH++aeg a.r
 else Lib.join (headW a) [32]++(58::32::jW a.qE)
def aeh (a:Ab):Str:=if aej a=true then ajZ a else []
def aqN (a:Ab):Bool:=a.k==3&&(decide (a.specs.length=0)&&(aej a&&a.qE.all fun e=>e.op==14))
def spT (s:Str):Str:=Lib.trimSuffix (Lib.trimPrefix s [91]) [93]
def spU (s:Str):Str:=Lib.trimPrefix (spT s) aen
def aoa (s:Str):Sp:=if s=anz then ⟨true,false,aaB⟩ else ⟨Lib.hasPrefix (spT s) aen,Lib.hasPrefix (spU s) [40],(bW (Lib.trimSuffix (Lib.trimPrefix (spU s) [40]) [41])).getD aaB⟩
def aeG (p:Pr) (w:Str):Pr:=
 if w=aqV then ⟨p.aeC,true,p.fM,p.life⟩ else if w=ard then ⟨p.aeC,p.dJ,true,p.life⟩
 else if Lib.hasPrefix w ane=true then ⟨p.aeC,p.dJ,p.fM,(numOf (Lib.trimPrefix w ane)).getD 0⟩
 else ⟨(kX w).getD dQ,p.dJ,p.fM,p.life⟩
def asx (s:Str):Pr:=(jV (Lib.trimS s [123,125])).foldl aeG RD
def aq0:Str→Str × Str
 |[]=>([],[])
 |c::r=>if c=41∧r.head?=some 32 then ([],r.drop 1) else (c::(aq0 r).1,(aq0 r).2)
def qy:Nat→Str→Option (Str × Str)
 |_,[]=>none
 |d,c::r=>if d=0∧c=58∧r.head?=some 32 then some ([],r.drop 1) else (qy (bP d c.toNat) r).map fun p=>(c::p.1,p.2)
def wc1 (s:Str):Str:=((qy 0 s).map (·.1)).getD s
def wc2 (s:Str):Str:=((qy 0 s).map (·.2)).getD []
def takeB (rest x:Str):Bool:=Lib.hasSuffix (32::rest) (32::x)
def afX (rest x:Str):Str:=if takeB rest x=true then Lib.trimPrefix (Lib.trimSuffix (32::rest) (32::x)) [32] else rest
def aj3:List Str→Str→List Sp→List Sp × Str
 |[],r,acc=>(acc,r)
 |w::ws,r,acc=>if Lib.hasPrefix w [91]=true then aj3 ws (afX r w) (acc++[aoa w]) else (acc,r)
def auw (s:Str):List Sp × Str:=aj3 (eX 32 s).reverse s []
def arn (first rest:Str) (specs:List Sp) (qE:List Ef):Ab:=
 if first=auy then ⟨2,aaB,[],RD,false,adY,false,specs,qE,I5⟩
 else if first=axk then ⟨3,aaB,[],asx (afX rest ajN),takeB rest ajN,adY,false,specs,qE,I5⟩
 else if first=avT then ⟨4,aaB,[],RD,false,(am9 (afX rest akg)).getD adY,takeB rest akg,specs,qE,I5⟩
 else ⟨0,aaB,[],RD,false,adY,false,specs,qE,I5⟩
def aek (s:Str):Ab:=
 if Lib.hasPrefix s aeH=true then ⟨5,aaB,[],RD,false,adY,false,[],[],(am8 (Lib.trimPrefix s aeH)).getD I5⟩
 else if Lib.hasPrefix s ajL=true then ⟨1,(bW (aq0 (Lib.trimPrefix s ajL)).1).getD aaB,(fF (aq0 (Lib.trimPrefix s ajL)).2).getD [],RD,false,adY,false,[],[],I5⟩
 else arn (cutAt 32 (wc1 s)).1 (auw (cutAt 32 (wc1 s)).2).2 (auw (cutAt 32 (wc1 s)).2).1.reverse ((kH (wc2 s)).getD [])
def ad6 (s:Str):Option Ab:=if s≠[]∧aeh (aek s)=s then some (aek s) else none
def okP (c:UInt8):Prop:=(48≤c.toNat∧c.toNat≤57)∨(65≤c.toNat∧c.toNat≤90)∨(97≤c.toNat∧c.toNat≤122)∨c.toNat=32∨c.toNat=45
instance (c:UInt8):Decidable (okP c):=by unfold okP;exact inferInstance
theorem azs {p:Pr} (h:aeF p=true):LX p≠[]:=by unfold LX;rw [if_pos h];simp
theorem awd {p:Pr} (h:aeF p=false):LX p=[]:=if_neg (by rw [h];decide)
theorem azL {p:Sp} (h:afp p=false):MI p=[]:=if_neg (by rw [h];decide)
theorem atn {s:Sp} (h:afp s=true):(s=⟨true,false,aaB⟩∧MI s=anz)∨(s.ob=true∧dh s.f=true∧(s.f.zone=0∨s.f.zone=3∨s.f.zone=5)∧MI s=91::((if s.pl=true then aen else [])++(40::(textOf s.f++[41,93])))):=by
 have e:MI s=_:=if_pos h
 obtain ⟨pl,ob,f⟩:=s
 unfold afp at h
 cases ob with
 |false=>
  have h:(pl&&fK f aaB)=true:=h
  rw [Bool.and_eq_true] at h
  obtain ⟨h1,h2⟩:=h
  obtain rfl:f=aaB:=(lI _ _).1 h2
  subst h1
  exact .inl ⟨rfl,e⟩
 |true=>
  have h:(dh f&&(f.zone==0 || (f.zone==3 || f.zone==5)))=true:=h
  simp only [Bool.and_eq_true,Bool.or_eq_true,beq_iff_eq] at h
  exact .inr ⟨rfl,h.1,h.2,e⟩
theorem azK {s:Sp} (h:afp s=true):MI s≠[]:=by
 rcases atn h with ⟨_,e⟩|⟨_,_,_,e⟩<;>rw [e]<;>simp [anz]
structure avc (a:Ab):Prop where
 kind:a.k=2∨(a.k=3∧aeF a.pr=true)∨(a.k=4∧ajU a.t=true)
 specs:∀s∈a.specs,afp s=true
structure az1 (a:Ab):Prop where
 specs:∀s∈a.specs,afp s=true
 four:a.specs.length≤4
 qE:(a.qE.all fun e=>jl e (a.specs.length:Int))=true
 one:1≤a.qE.length
 eight:a.qE.length≤8
theorem ayp {a:Ab} (h:vE a=true):az1 a:=by
 simp only [vE,Bool.and_eq_true,decide_eq_true_eq] at h
 exact ⟨List.all_eq_true.1 h.1,h.2.1,h.2.2.1,h.2.2.2.1,h.2.2.2.2⟩
inductive avr:Ab→Prop
 |static (f:aH) (l:List Md) (hf:dh f=true) (hz:f.zone=0) (hl:(!(eH l==[]))=true):avr ⟨1,f,l,RD,false,adY,false,[],[],I5⟩
 |replace (r:Rp) (hr:ael r=true):avr ⟨5,aaB,[],RD,false,adY,false,[],[],r⟩
 |acts (a:Ab) (h:avc a) (e:az1 a) (hz:a=if a.k=2 then ⟨2,aaB,[],RD,false,adY,false,a.specs,a.qE,I5⟩ else if a.k=3 then ⟨3,aaB,[],a.pr,a.slow,adY,false,a.specs,a.qE,I5⟩ else ⟨4,aaB,[],RD,false,a.t,a.may,a.specs,a.qE,I5⟩):avr a
theorem axN {a:Ab} (h:aej a=true):avr a:=by
 obtain ⟨k,f,mods,pr,slow,t,may,specs,qE,r⟩:=a
 have hF:axH ⟨k,f,mods,pr,slow,t,may,specs,qE,r⟩=true→f=aaB∧mods=[]:=fun h=>by
  simp only [axH,Bool.and_eq_true,decide_eq_true_eq,lI] at h;exact ⟨h.1,List.length_eq_zero_iff.1 h.2⟩
 have hP:axI ⟨k,f,mods,pr,slow,t,may,specs,qE,r⟩=true→pr=RD∧slow=false:=fun h=>by
  simpa [axI,avl] using h
 have hT:axJ ⟨k,f,mods,pr,slow,t,may,specs,qE,r⟩=true→t=adY∧may=false:=fun h=>by
  simpa [axJ,avq] using h
 have hR:vR ⟨k,f,mods,pr,slow,t,may,specs,qE,r⟩=true→r=I5:=fun h=>by
  simpa [vR,arF] using h
 have hN:aBO ⟨k,f,mods,pr,slow,t,may,specs,qE,r⟩=true→specs=[]∧qE=[]:=fun h=>by
  simpa [aBO] using h
 unfold aej at h
 split at h
 ·rename_i hk;simp only at hk;subst hk
  simp only [Bool.and_eq_true,beq_iff_eq] at h
  obtain ⟨h1,h2,h3,h4,h5,h6,h7⟩:=h
  obtain ⟨rfl,rfl⟩:=hP h4
  obtain ⟨rfl,rfl⟩:=hT h5
  obtain rfl:=hR h6
  obtain ⟨rfl,rfl⟩:=hN h7
  exact .static f mods h1 h2 h3
 split at h
 ·rename_i hk;simp only at hk;subst hk
  simp only [Bool.and_eq_true] at h
  obtain ⟨h1,h2,h3,h4,h5⟩:=h
  obtain ⟨rfl,rfl⟩:=hF h2
  obtain ⟨rfl,rfl⟩:=hP h3
  obtain ⟨rfl,rfl⟩:=hT h4
  obtain ⟨rfl,rfl⟩:=hN h5
  exact .replace r h1
 split at h
 ·rename_i hk;simp only at hk;subst hk
  simp only [Bool.and_eq_true] at h
  obtain ⟨h1,h2,h3,h4,h5⟩:=h
  obtain ⟨rfl,rfl⟩:=hF h1
  obtain ⟨rfl,rfl⟩:=hP h2
  obtain ⟨rfl,rfl⟩:=hT h3
  obtain rfl:=hR h4
  have e:=ayp h5
  exact .acts _ ⟨.inl rfl,e.specs⟩ e rfl
 split at h
 ·rename_i hk;simp only at hk;subst hk
  simp only [Bool.and_eq_true] at h
  obtain ⟨h1,h2,h3,h4,h5⟩:=h
  obtain ⟨rfl,rfl⟩:=hF h2
  obtain ⟨rfl,rfl⟩:=hT h3
  obtain rfl:=hR h4
  have e:=ayp h5
  exact .acts _ ⟨.inr (.inl ⟨rfl,h1⟩),e.specs⟩ e rfl
 split at h
 ·rename_i hk;simp only at hk;subst hk
  simp only [Bool.and_eq_true] at h
  obtain ⟨h1,h2,h3,h4,h5⟩:=h
  obtain ⟨rfl,rfl⟩:=hF h2
  obtain ⟨rfl,rfl⟩:=hP h3
  obtain rfl:=hR h4
  have e:=ayp h5
  exact .acts _ ⟨.inr (.inr ⟨rfl,h1⟩),e.specs⟩ e rfl
 ·cases h
theorem asg {a:Ab} (h:aej a=false):aeh a=[]:=if_neg (by rw [h];decide)
end Go.Proofs.YtdicgggkdmkklaaGreatDoor
