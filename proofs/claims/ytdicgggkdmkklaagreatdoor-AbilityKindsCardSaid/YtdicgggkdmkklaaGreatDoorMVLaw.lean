/- Plain words: abilities (chapter 20): specifications, prices, their texts and readings. No program in sight. Plain words: abilities (chapter 20): their words are found again, Parse inverts Text. No -/
import Derived.Test.YtdicgggkdmkklaaGreatDoorQ7
import Derived.Test.YtdicgggkdmkklaaGreatDoorQ3
import Derived.Test.YtdicgggkdmkklaaGreatDoorMTg
import Derived.Lib.SlTrimSet
import Derived.Test.YtdicgggkdmkklaaGreatDoorQ4
import Derived.Test.YtdicgggkdmkklaaGreatDoorMTp
set_option linter.all false
set_option maxRecDepth 100000
set_option maxHeartbeats 16000000
namespace Go.Proofs.YtdicgggkdmkklaaGreatDoor
open Go.ChangeShapes Go.WideShapes Go.RowKit
structure Sp where
 pl:Bool
 ob:Bool
 f:aH
structure Pr where
 aeC:Co
 dJ:Bool
 fM:Bool
 life:Int
structure Ab where
 k:Int
 f:aH
 mods:List Md
 pr:Pr
 slow:Bool
 t:Tg
 may:Bool
 specs:List Sp
 qE:List Ef
 r:Rp
def auG:Sp:=⟨false,false,aaB⟩
def RD:Pr:=⟨dQ,false,false,0⟩
def anz:Str:=[91,112,108,97,121,101,114,93]
def aen:Str:=[112,108,97,121,101,114,32,111,114,32]
def aqV:Str:=[116,97,112]
def ard:Str:=[115,97,99,114,105,102,105,99,101]
def ane:Str:=[108,105,102,101,32]
def aeH:Str:=[114,101,112,108,97,99,101,32]
def ajL:Str:=[115,116,97,116,105,99,32,40]
def auy:Str:=[115,112,101,108,108]
def axk:Str:=[117,115,101]
def avT:Str:=[119,104,101,110]
def ajN:Str:=[115,108,111,119]
def akg:Str:=[109,97,121]
def atm (a b:Sp):Bool:=a.pl==b.pl&&(a.ob==b.ob&&fK a.f b.f)
def arE (a b:Pr):Bool:=uU a.aeC b.aeC&&(a.dJ==b.dJ&&(a.fM==b.fM&&a.life==b.life))
theorem aAr (a b:Sp):atm a b=true↔a=b:=by
 obtain ⟨a1,a2,a3⟩:=a
 obtain ⟨b1,b2,b3⟩:=b
 simp [atm,lI]
theorem avl (a b:Pr):arE a b=true↔a=b:=by
 obtain ⟨a1,a2,a3,a4⟩:=a
 obtain ⟨b1,b2,b3,b4⟩:=b
 simp [arE,yh]
theorem azr (a:Pr):arE a a=true:=(avl a a).2 rfl
theorem azG (a:Sp):atm a a=true:=(aAr a a).2 rfl
def afp (s:Sp):Bool:=if s.ob=true then dh s.f&&(s.f.zone==0 || (s.f.zone==3 || s.f.zone==5)) else s.pl&&fK s.f aaB
def MI (s:Sp):Str:=if afp s=true then (if s.ob=true then 91::((if s.pl=true then aen else [])++(40::(textOf s.f++[41,93]))) else anz) else []
def aeF (p:Pr):Bool:=kU p.aeC&&(p.aeC.x==0&&(decide (0≤p.life)&&decide (p.life≤99)))
def akd (p:Pr):List Str:=opt (!uU p.aeC dQ) (iy p.aeC)++(opt p.dJ aqV++(opt p.fM ard++opt (!(p.life==0)) (ane++Lib.itoa p.life)))
def ajK (p:Pr):List Str:=if akd p=[] then [[48]] else akd p
def LX (p:Pr):Str:=if aeF p=true then 123::(Lib.join (ajK p) iK++[125]) else []
def axH (a:Ab):Bool:=fK a.f aaB&&decide (a.mods.length=0)
def axI (a:Ab):Bool:=arE a.pr RD&& !a.slow
def axJ (a:Ab):Bool:=asz a.t adY&& !a.may
def vR (a:Ab):Bool:=arb a.r I5
def aBO (a:Ab):Bool:=decide (a.specs.length=0)&&decide (a.qE.length=0)
def vE (a:Ab):Bool:=a.specs.all afp&&(decide (a.specs.length≤4)&&((a.qE.all fun e=>jl e (a.specs.length:Int))&&(decide (1≤a.qE.length)&&decide (a.qE.length≤8))))
def aej (a:Ab):Bool:=
 if a.k=1 then dh a.f&&(a.f.zone==0&&(!(eH a.mods==[])&&(axI a&&(axJ a&&(vR a&&aBO a)))))
 else if a.k=5 then ael a.r&&(axH a&&(axI a&&(axJ a&&aBO a)))
 else if a.k=2 then axH a&&(axI a&&(axJ a&&(vR a&&vE a)))
 else if a.k=3 then aeF a.pr&&(axH a&&(axJ a&&(vR a&&vE a)))
 else if a.k=4 then ajU a.t&&(axH a&&(axI a&&(vR a&&vE a)))
 else false
def anr (a:Ab):List Str:=if a.k=2 then [] else if a.k=3 then LX a.pr::opt a.slow ajN else aei a.t::opt a.may akg
def akf (k:Int):Str:=if k=2 then auy else if k=3 then axk else avT
def headW (a:Ab):List Str:=akf a.k::(anr a++a.specs.map MI)
def ajZ (a:Ab):Str:=
 if a.k=1 then ajL++(textOf a.f++(41::32::eH a.mods))
 else if a.k=5 then aeH++aeg a.r
 else Lib.join (headW a) [32]++(58::32::jW a.qE)
def aeh (a:Ab):Str:=if aej a=true then ajZ a else []
def aqN (a:Ab):Bool:=a.k==3&&(decide (a.specs.length=0)&&(aej a&&a.qE.all fun e=>e.op==14))
def spT (s:Str):Str:=Lib.trimSuffix (Lib.trimPrefix s [91]) [93]
def spU (s:Str):Str:=Lib.trimPrefix (spT s) aen
def aoa (s:Str):Sp:=if s=anz then ⟨true,false,aaB⟩ else ⟨Lib.hasPrefix (spT s) aen,Lib.hasPrefix (spU s) [40],(bW (Lib.trimSuffix (Lib.trimPrefix (spU s) [40]) [41])).getD aaB⟩
def aeG (p:Pr) (w:Str):Pr:=
 if w=aqV then ⟨p.aeC,true,p.fM,p.life⟩ else if w=ard then ⟨p.aeC,p.dJ,true,p.life⟩
 else if Lib.hasPrefix w ane=true then ⟨p.aeC,p.dJ,p.fM,(numOf (Lib.trimPrefix w ane)).getD 0⟩
 else ⟨(kX w).getD dQ,p.dJ,p.fM,p.life⟩
def asx (s:Str):Pr:=(jV (Lib.trimS s [123,125])).foldl aeG RD
def aq0:Str→Str × Str
 |[]=>([],[])
 |c::r=>if c=41∧r.head?=some 32 then ([],r.drop 1) else (c::(aq0 r).1,(aq0 r).2)
def qy:Nat→Str→Option (Str × Str)
 |_,[]=>none
 |d,c::r=>if d=0∧c=58∧r.head?=some 32 then some ([],r.drop 1) else (qy (bP d c.toNat) r).map fun p=>(c::p.1,p.2)
def wc1 (s:Str):Str:=((qy 0 s).map (·.1)).getD s
def wc2 (s:Str):Str:=((qy 0 s).map (·.2)).getD []
def takeB (rest x:Str):Bool:=Lib.hasSuffix (32::rest) (32::x)
def afX (rest x:Str):Str:=if takeB rest x=true then Lib.trimPrefix (Lib.trimSuffix (32::rest) (32::x)) [32] else rest
def aj3:List Str→Str→List Sp→List Sp × Str
 |[],r,acc=>(acc,r)
 |w::ws,r,acc=>if Lib.hasPrefix w [91]=true then aj3 ws (afX r w) (acc++[aoa w]) else (acc,r)
def auw (s:Str):List Sp × Str:=aj3 (eX 32 s).reverse s []
def arn (first rest:Str) (specs:List Sp) (qE:List Ef):Ab:=
 if first=auy then ⟨2,aaB,[],RD,false,adY,false,specs,qE,I5⟩
 else if first=axk then ⟨3,aaB,[],asx (afX rest ajN),takeB rest ajN,adY,false,specs,qE,I5⟩
 else if first=avT then ⟨4,aaB,[],RD,false,(am9 (afX rest akg)).getD adY,takeB rest akg,specs,qE,I5⟩
 else ⟨0,aaB,[],RD,false,adY,false,specs,qE,I5⟩
def aek (s:Str):Ab:=
 if Lib.hasPrefix s aeH=true then ⟨5,aaB,[],RD,false,adY,false,[],[],(am8 (Lib.trimPrefix s aeH)).getD I5⟩
 else if Lib.hasPrefix s ajL=true then ⟨1,(bW (aq0 (Lib.trimPrefix s ajL)).1).getD aaB,(fF (aq0 (Lib.trimPrefix s ajL)).2).getD [],RD,false,adY,false,[],[],I5⟩
 else arn (cutAt 32 (wc1 s)).1 (auw (cutAt 32 (wc1 s)).2).2 (auw (cutAt 32 (wc1 s)).2).1.reverse ((kH (wc2 s)).getD [])
def ad6 (s:Str):Option Ab:=if s≠[]∧aeh (aek s)=s then some (aek s) else none
def runK:Str→Nat→Option Nat
 |[],d=>some d
 |c::r,d=>if c.toNat=58∧d=0 then none else runK r (bP d c.toNat)
theorem anw:∀ {a b:Str} {d d1 d2:Nat},runK a d=some d1→runK b d1=some d2→runK (a++b) d=some d2
 |[],b,d,d1,d2,h1,h2=>by rw [runK] at h1;injection h1 with h1;rw [h1];exact h2
 |c::a,b,d,d1,d2,h1,h2=>by
  rw [runK] at h1
  rw [List.cons_append,runK]
  split at h1
  ·cases h1
  ·rename_i hc
   rw [if_neg hc];exact anw h1 h2
theorem auv:∀ {w:Str} {d:Nat},(∀c∈w,Dw c)→(d≠0∨∀c∈w,c.toNat≠58)→runK w d=some d
 |[],_,_,_=>rfl
 |c::w,d,h,h2=>by
  rw [runK,if_neg,Zm (h c (.head _))]
  ·exact auv (fun x hx=>h x (.tail _ hx)) (h2.imp id fun g x hx=>g x (.tail _ hx))
  ·rintro ⟨e1,e2⟩
   rcases h2 with g|g
   ·exact g e2
   ·exact g c (.head _) e1
theorem ayj:∀ {w:Str} {d d':Nat},runK w d=some d'→∀r,qy d (w++r)=(qy d' r).map fun p=>(w++p.1,p.2)
 |[],d,d',h,r=>by rw [runK] at h;injection h with h;rw [h];simp
 |c::w,d,d',h,r=>by
  rw [runK] at h
  split at h
  ·cases h
  ·rename_i hc
   rw [List.cons_append,qy,if_neg (fun e=>hc ⟨by rw [e.2.1];rfl,e.1⟩),ayj h]
   cases qy d' r<;>rfl
theorem axh:∀ {w:Str} {d:Nat},runK w d=some 0→∀cur y,splitAux 32 d cur (w++32::y)=splitAux 32 d cur w++splitAux 32 0 [] y
 |[],d,h,cur,y=>by
  rw [runK] at h;injection h with h;subst h
  rw [List.nil_append,show splitAux 32 0 cur []=[cur] by rw [splitAux]]
  show splitAux 32 0 cur (32::y)=cur::splitAux 32 0 [] y
  rw [splitAux,if_pos ⟨by decide,rfl⟩];rfl
 |c::w,d,h,cur,y=>by
  rw [runK] at h
  split at h
  ·cases h
  ·rw [List.cons_append,splitAux,splitAux]
   split
   ·rw [axh h];rfl
   ·exact axh h _ _
theorem avR:∀ {l:List Str},l≠[]→(∀x∈l,runK x 0=some 0)→eX 32 (Lib.join l [32])=l.flatMap (eX 32)
 |[],h,_=>absurd rfl h
 |[a],_,_=>by rw [Lib.join_one];simp
 |a::b::r,_,h=>by
  have ih:=avR (l:=b::r) (by simp) fun x hx=>h x (.tail _ hx)
  rw [fA,List.append_assoc,List.flatMap_cons,←ih]
  exact axh (h a (by simp)) [] _
theorem auA:∀(w:Str) (d:Nat) (cur x:Str),x∈splitAux 32 d cur w→∀c∈x,c∈cur∨c∈w
 |[],d,cur,x,h,c,hc=>by rw [splitAux,List.mem_singleton] at h;subst h;exact .inl hc
 |a::w,d,cur,x,h,c,hc=>by
  rw [splitAux] at h
  split at h
  ·rcases List.mem_cons.1 h with rfl|h
   ·exact .inl hc
   ·rcases auA w _ _ x h c hc with h|h
    ·cases h
    ·exact .inr (.tail _ h)
  ·rcases auA w _ _ x h c hc with h|h
   ·rcases List.mem_append.1 h with h|h
    ·exact .inl h
    ·rw [List.mem_singleton] at h;subst h;exact .inr (.head _)
   ·exact .inr (.tail _ h)
theorem av7 {sep:Str} (hs:runK sep 0=some 0):∀ {l:List Str},(∀x∈l,runK x 0=some 0)→runK (Lib.join l sep) 0=some 0
 |[],_=>rfl
 |[a],h=>by rw [Lib.join_one];exact h a (by simp)
 |a::b::r,h=>by
  rw [fA]
  exact anw (anw (h a (by simp)) hs) (av7 hs fun x hx=>h x (.tail _ hx))
theorem aEg {x:Str} (h:(91:UInt8)∉x):Lib.hasPrefix x [91]=false:=by
 cases x with
 |nil=>rfl
 |cons c r=>
  have:c≠91:=fun e=>h (by rw [e];exact .head _)
  unfold Lib.hasPrefix
  simp [List.isPrefixOf,Ne.symm this]
theorem ayf (p q:Str):Lib.hasSuffix (p++q) q=true:=by
 unfold Lib.hasSuffix;rw [List.isSuffixOf_iff_suffix];exact List.suffix_append p q
theorem asA (p q:Str):Lib.trimSuffix (p++q) q=p:=by
 unfold Lib.trimSuffix;rw [if_pos (ayf p q)];simp
theorem arw (p q:Str):Lib.hasPrefix (p++q) p=true:=by
 unfold Lib.hasPrefix;rw [List.isPrefixOf_iff_prefix];exact List.prefix_append p q
theorem am7 (p q:Str):Lib.trimPrefix (p++q) p=q:=by
 unfold Lib.trimPrefix;rw [if_pos (arw p q)];simp
theorem ayH {s p:Str} (h:Lib.hasPrefix s p=false):Lib.trimPrefix s p=s:=by unfold Lib.trimPrefix;rw [h];rfl
theorem az6 (x:Str) (ws:List Str) (h:(32:UInt8)∉x):cutAt 32 (Lib.join (x::ws) [32])=(x,Lib.join ws [32]):=by
 have none:∀x:Str,(32:UInt8)∉x→cutAt 32 x=(x,[]):=by
  intro x
  induction x with
  |nil=>intro _;rfl
  |cons c r ih=>intro h;rw [cutAt,if_neg (fun e=>h (by rw [show c=32 from by simpa using e];exact .head _)),ih (fun m=>h (.tail _ m))]
 cases ws with
 |nil=>rw [Lib.join_one,none x h];rfl
 |cons y r=>rw [fA,List.append_assoc];exact BI 32 x _ h
theorem avp (l:List Str) (x:Str):takeB (Lib.join (l++[x]) [32]) x=true∧afX (Lib.join (l++[x]) [32]) x=Lib.join l [32]:=by
 have e:32::Lib.join (l++[x]) [32]=(if l=[] then [] else 32::Lib.join l [32])++32::x:=by
  rw [wG];split<;>simp
 have hb:takeB (Lib.join (l++[x]) [32]) x=true:=by unfold takeB;rw [e];exact ayf _ _
 refine ⟨hb,?_⟩
 unfold afX
 rw [if_pos hb,e,asA]
 split
 ·rename_i h;subst h;rfl
 ·exact am7 [32] _
theorem axi {s x:Str} {c d:UInt8} (hs:s.getLast?=some c) (hx:x.getLast?=some d) (h:c≠d):takeB s x=false∧afX s x=s:=by
 have hb:takeB s x=false:=by
  cases hb:takeB s x with
  |false=>rfl
  |true=>
   unfold takeB Lib.hasSuffix at hb
   rw [List.isSuffixOf_iff_suffix] at hb
   obtain ⟨t,ht⟩:=hb
   have e:=congrArg List.getLast? ht
   have h1:(t++32::x).getLast?=some d:=by
    rw [List.getLast?_append,List.getLast?_cons,hx];rfl
   have h2:(32::s).getLast?=some c:=by rw [List.getLast?_cons,hs];rfl
   rw [h1,h2] at e
   exact absurd (Option.some.inj e).symm h
 exact ⟨hb,by unfold afX;rw [hb];rfl⟩
theorem ay7 {m:Co} {c:UInt8} (h:c∈iy m):(48≤c.toNat∧c.toNat≤57)∨(65≤c.toNat∧c.toNat≤90):=by
 unfold iy at h
 split at h
 ·split at h
  ·simp at h;subst h;decide
  ·rename_i hv _
   unfold lH at h
   simp only [kU,rJ,Bool.and_eq_true,decide_eq_true_eq] at hv
   rcases List.mem_append.1 h with hc|h
   ·rw [RQ hc];decide
   rcases List.mem_append.1 h with hc|hc
   ·exact .inl (JJ (by omega) hc)
   ·have:=Ho _ c hc
    unfold isLet at this
    simp only [Bool.or_eq_true,beq_iff_eq] at this
    rcases this with rfl|rfl|rfl|rfl|rfl<;>decide
 ·cases h
def okP (c:UInt8):Prop:=(48≤c.toNat∧c.toNat≤57)∨(65≤c.toNat∧c.toNat≤90)∨(97≤c.toNat∧c.toNat≤122)∨c.toNat=32∨c.toNat=45
instance (c:UInt8):Decidable (okP c):=by unfold okP;exact inferInstance
theorem aw0 {p:Pr} {x:Str} (h:x∈ajK p):∀c∈x,okP c:=by
 intro c hc
 unfold ajK at h
 split at h
 ·simp at h;subst h;simp at hc;subst hc;decide
 ·unfold akd at h
  rcases List.mem_append.1 h with h|h
  ·obtain ⟨_,rfl⟩:=uJ h
   rcases ay7 hc with h|h
   ·exact .inl h
   ·exact .inr (.inl h)
  rcases List.mem_append.1 h with h|h
  ·obtain ⟨_,rfl⟩:=uJ h
   revert c;decide
  rcases List.mem_append.1 h with h|h
  ·obtain ⟨_,rfl⟩:=uJ h
   revert c;decide
  ·obtain ⟨_,rfl⟩:=uJ h
   rcases List.mem_append.1 hc with hc|hc
   ·have:∀c∈ane,okP c:=by decide
    exact this c hc
   ·rcases tC hc with h|h
    ·exact .inr (.inr (.inr (.inr h)))
    ·exact .inl h
theorem avK (p:Pr):ajK p≠[]:=by
 unfold ajK;split
 ·simp
 ·assumption
theorem avI {p:Pr} {c:UInt8} (h:c∈Lib.join (ajK p) iK):okP c∨c.toNat=44:=by
 rcases Cb h with ⟨w,hw,hc⟩|h
 ·exact .inl (aw0 hw c hc)
 ·simp [iK] at h
  rcases h with rfl|rfl<;>decide
theorem avJ {p:Pr} {c:UInt8} (h:c∈LX p):okP c∨c.toNat=44∨c.toNat=123∨c.toNat=125:=by
 unfold LX at h
 split at h
 ·rcases List.mem_cons.1 h with rfl|h
  ·exact .inr (.inr (.inl rfl))
  rcases List.mem_append.1 h with h|h
  ·exact (avI h).imp id .inl
  ·simp at h;subst h;exact .inr (.inr (.inr rfl))
 ·cases h
theorem axQ {p:UInt8→Bool} :∀ {l:Str},(∀c∈l.head?,p c=false)→l.dropWhile p=l
 |[],_=>rfl
 |c::r,h=>by rw [List.dropWhile_cons,h c (by simp)];rfl
theorem axG {m:Str} (h:∀c∈m,c≠123∧c≠125) (h0:m≠[]):Lib.trimS (123::(m++[125])) [123,125]=m:=by
 have hp:∀c∈m,([123,125]:Str).contains c=false:=fun c hc=>by simp [h c hc]
 obtain ⟨r,hr⟩:∃r,r=m.reverse:=⟨_,rfl⟩
 have e1:Lib.trimRightS (123::(m++[125])) [123,125]=123::m:=by
  unfold Lib.trimRightS
  rw [show (123::(m++[125]):Str).reverse=125::(m.reverse++[123]) by simp,List.dropWhile_cons,if_pos (by decide),axQ]
  ·simp
  ·intro c hc
   cases hm:m.reverse with
   |nil=>exact absurd (List.reverse_eq_nil_iff.1 hm) h0
   |cons a t=>
    rw [hm] at hc;simp at hc;subst hc
    exact hp a (List.mem_reverse.1 (by rw [hm];exact .head _))
 unfold Lib.trimS
 rw [e1]
 unfold Lib.trimLeftS
 rw [List.dropWhile_cons,if_pos (by decide),axQ]
 intro c hc
 cases m with
 |nil=>exact absurd rfl h0
 |cons a t=>simp at hc;subst hc;exact hp a (.head _)
theorem aBJ {m:Co} (h:kU m=true) (q:Pr):aeG q (iy m)=⟨m,q.dJ,q.fM,q.life⟩:=by
 have hlow:∀c∈iy m,c.toNat≤90:=fun c hc=>by rcases ay7 hc with h|h<;>omega
 unfold aeG
 rw [if_neg (fun e=>by have:=hlow 116 (by rw [e];decide);revert this;decide),if_neg (fun e=>by have:=hlow 115 (by rw [e];decide);revert this;decide),if_neg,I9 h]
 ·rfl
 ·intro e
  unfold Lib.hasPrefix at e
  rw [List.isPrefixOf_iff_prefix] at e
  obtain ⟨t,ht⟩:=e
  have:=hlow 108 (by rw [←ht];exact .head _)
  revert this;decide
theorem aAx (q:Pr):aeG q aqV=⟨q.aeC,true,q.fM,q.life⟩:=by unfold aeG;rw [if_pos rfl]
theorem aAw (q:Pr):aeG q ard=⟨q.aeC,q.dJ,true,q.life⟩:=by unfold aeG;rw [if_neg (by decide),if_pos rfl]
theorem azO (q:Pr) (n:Int) (h1:0≤n) (h2:n≤99):aeG q (ane++Lib.itoa n)=⟨q.aeC,q.dJ,q.fM,n⟩:=by
 unfold aeG
 rw [if_neg (by simp [ane,aqV]),if_neg (by simp [ane,ard]),if_pos (arw _ _),am7,NM n (by omega) h2];rfl
theorem awc {p:Pr} (h:aeF p=true):asx (LX p)=p:=by
 unfold LX
 rw [if_pos h]
 unfold asx
 rw [axG (fun c hc=>by
  rcases avI hc with h|h
  ·constructor<;>(rintro rfl;revert h;decide)
  ·constructor<;>(rintro rfl;revert h;decide))]
 ·rw [LJ _ (avK p) (fun x hx hm=>by have:=aw0 hx 44 hm;revert this;decide)]
  obtain ⟨m,dJ,fM,life⟩:=p
  simp only [aeF,Bool.and_eq_true,decide_eq_true_eq] at h
  obtain ⟨hm,hx,h0,h1⟩:=h
  have key:(akd ⟨m,dJ,fM,life⟩).foldl aeG RD=⟨m,dJ,fM,life⟩:=by
   unfold akd
   simp only [List.foldl_append]
   have a1:(opt (!uU m dQ) (iy m)).foldl aeG RD=⟨m,false,false,0⟩:=by
    cases hz:uU m dQ with
    |true=>rw [(yh _ _).1 hz];rfl
    |false=>show aeG RD (iy m)=_;rw [aBJ hm];rfl
   have a2:(opt dJ aqV).foldl aeG ⟨m,false,false,0⟩=⟨m,dJ,false,0⟩:=by cases dJ<;>first|rfl|exact aAx _
   have a3:(opt fM ard).foldl aeG ⟨m,dJ,false,0⟩=⟨m,dJ,fM,0⟩:=by cases fM<;>first|rfl|exact aAw _
   have a4:(opt (!(life==0)) (ane++Lib.itoa life)).foldl aeG ⟨m,dJ,fM,0⟩=⟨m,dJ,fM,life⟩:=by
    cases hz:life==0 with
    |true=>rw [eq_of_beq hz];rfl
    |false=>exact azO _ _ h0 h1
   rw [a1,a2,a3,a4]
  unfold ajK
  split
  ·rename_i he
   rw [he] at key
   exact Eq.trans (by kernel_rfl) key
  ·exact key
 ·intro e
  obtain ⟨m,dJ,fM,life⟩:=p
  cases hw:ajK ⟨m,dJ,fM,life⟩ with
  |nil=>exact avK _ hw
  |cons a l=>
   have ha:a≠[]:=by
    intro h0
    subst h0
    have hm:([]:Str)∈ajK ⟨m,dJ,fM,life⟩:=by rw [hw];exact .head _
    unfold ajK at hm
    split at hm
    ·simp at hm
    ·simp only [aeF,Bool.and_eq_true] at h
     unfold akd at hm
     simp only [List.mem_append] at hm
     rcases hm with hm|hm|hm|hm
     ·exact Td h.1 (uJ hm).2.symm
     ·exact absurd (uJ hm).2 (by decide)
     ·exact absurd (uJ hm).2 (by decide)
     ·have:=(uJ hm).2;simp [ane] at this
   rw [hw] at e
   cases l with
   |nil=>rw [Lib.join_one] at e;exact ha e
   |cons b l=>rw [fA] at e;simp at e;exact ha e.1
theorem azs {p:Pr} (h:aeF p=true):LX p≠[]:=by unfold LX;rw [if_pos h];simp
theorem awd {p:Pr} (h:aeF p=false):LX p=[]:=if_neg (by rw [h];decide)
theorem azL {p:Sp} (h:afp p=false):MI p=[]:=if_neg (by rw [h];decide)
theorem atn {s:Sp} (h:afp s=true):(s=⟨true,false,aaB⟩∧MI s=anz)∨(s.ob=true∧dh s.f=true∧(s.f.zone=0∨s.f.zone=3∨s.f.zone=5)∧MI s=91::((if s.pl=true then aen else [])++(40::(textOf s.f++[41,93])))):=by
 have e:MI s=_:=if_pos h
 obtain ⟨pl,ob,f⟩:=s
 unfold afp at h
 cases ob with
 |false=>
  have h:(pl&&fK f aaB)=true:=h
  rw [Bool.and_eq_true] at h
  obtain ⟨h1,h2⟩:=h
  obtain rfl:f=aaB:=(lI _ _).1 h2
  subst h1
  exact .inl ⟨rfl,e⟩
 |true=>
  have h:(dh f&&(f.zone==0 || (f.zone==3 || f.zone==5)))=true:=h
  simp only [Bool.and_eq_true,Bool.or_eq_true,beq_iff_eq] at h
  exact .inr ⟨rfl,h.1,h.2,e⟩
theorem azH {s:Sp} (h:afp s=true):aoa (MI s)=s:=by
 rcases atn h with ⟨rfl,e⟩|⟨ho,hf,_,e⟩
 ·rw [e];rfl
 ·obtain ⟨pl,ob,f⟩:=s
  simp only at ho hf e
  subst ho
  rw [e]
  have hT:spT (91::((if pl=true then aen else [])++(40::(textOf f++[41,93]))))=(if pl=true then aen else [])++(40::(textOf f++[41])):=by
   unfold spT
   rw [show (91::((if pl=true then aen else [])++(40::(textOf f++[41,93]))):Str)=[91]++(((if pl=true then aen else [])++(40::(textOf f++[41])))++[93]) by simp,am7,asA]
  have hP:Lib.hasPrefix ((if pl=true then aen else [])++(40::(textOf f++[41]))) aen=pl:=by
   cases pl with
   |true=>exact arw _ _
   |false=>rfl
  have hU:spU (91::((if pl=true then aen else [])++(40::(textOf f++[41,93]))))=40::(textOf f++[41]):=by
   unfold spU
   rw [hT]
   cases pl with
   |true=>exact am7 aen _
   |false=>exact ayH rfl
  unfold aoa
  rw [if_neg,hT,hU,hP,show (40::(textOf f++[41]):Str)=[40]++(textOf f++[41]) from rfl,am7,asA,arw,nI hf]
  ·rfl
  ·cases pl<;>simp [anz,aen]
theorem azK {s:Sp} (h:afp s=true):MI s≠[]:=by
 rcases atn h with ⟨_,e⟩|⟨_,_,_,e⟩<;>rw [e]<;>simp [anz]
theorem azJ {s:Sp} (h:afp s=true):Lib.hasPrefix (MI s) [91]=true:=by
 rcases atn h with ⟨_,e⟩|⟨_,_,_,e⟩<;>rw [e]<;>rfl
theorem asy (f:aH):∀c∈textOf f,Dw c:=fun c hc=>by
 rcases Hr hc with h|h
 ·exact (Cm h).1
 ·subst h;decide
theorem avb (f:aH) (d:Nat) (h:d≠0):runK (textOf f) d=some d:=auv (asy f) (.inl h)
theorem avQ {s:Sp} (h:afp s=true):runK (MI s) 0=some 0∧jh (MI s) 0=some 0:=by
 rcases atn h with ⟨_,e⟩|⟨_,_,_,e⟩<;>rw [e]
 ·decide
 ·rw [show (91::((if s.pl=true then aen else [])++(40::(textOf s.f++[41,93]))):Str)=(91::(if s.pl=true then aen else [])++[40])++(textOf s.f++[41,93]) by simp]
  refine ⟨anw (d1:=2) ?_ (anw (avb s.f 2 (by decide)) (by decide)),eU (d1:=2) ?_ (eU (AV s.f 2 (by decide)) (by decide))⟩
  all_goals cases s.pl<;>decide
theorem axg {s:Sp} (h:afp s=true):eX 32 (MI s)=[MI s]:=by
 have:=GV (avQ h).2 [] []
 rw [List.append_nil] at this
 unfold eX
 rw [this];rfl
theorem ayz (p:Pr):runK (LX p) 0=some 0:=by
 refine auv (fun c hc=> ?_) (.inr fun c hc=> ?_)
 all_goals
  have:=avJ hc
  unfold okP at this
  first|(unfold Dw;omega)|omega
theorem aAA {t:Tg} (h:ajU t=true):∃k:Fin 15,∃n:Fin 3,1≤k.val∧aei t=aqW (k.val:Int) (n.val:Int)++(if an7 (k.val:Int)=true then aon t.f else []):=by
 obtain ⟨k,n,h1,h2,h3,hk,hn⟩:=aAz h
 refine ⟨⟨k,by omega⟩,⟨n,by omega⟩,h1,?_⟩
 rw [show aei t=ajQ t from if_pos h]
 unfold ajQ
 rw [hk,hn]
theorem azQ:∀k:Fin 15,∀n:Fin 3,runK (aqW (k.val:Int) (n.val:Int)) 0=some 0∧(91:UInt8)∉aqW (k.val:Int) (n.val:Int):=by decide +kernel
theorem ayE:∀k:Fin 15,∀n:Fin 3,takeB (aqW (k.val:Int) (n.val:Int)) akg=false:=by decide +kernel
theorem ayG (f:aH):runK (aon f) 0=some 0:=by
 unfold aon
 exact anw (d1:=1) (anw (d1:=1) (by decide) (avb f 1 (by decide))) (by decide)
theorem azR (f:aH):(91:UInt8)∉aon f:=by
 unfold aon
 intro h
 rcases List.mem_append.1 h with h|h
 ·rcases List.mem_append.1 h with h|h
  ·revert h;decide
  ·exact (asy f 91 h).2.2.2.1 (by decide)
 ·revert h;decide
theorem ato {t:Tg} (h:ajU t=true):runK (aei t) 0=some 0∧(91:UInt8)∉aei t∧takeB (aei t) akg=false:=by
 obtain ⟨k,n,_,e⟩:=aAA h
 rw [e]
 obtain ⟨a,b⟩:=azQ k n
 split
 ·refine ⟨anw a (ayG _),fun hm=> ?_,?_⟩
  ·rcases List.mem_append.1 hm with hm|hm
   ·exact b hm
   ·exact azR _ hm
  ·rw [show ∀x,aqW (k.val:Int) (n.val:Int)++aon x=(aqW (k.val:Int) (n.val:Int)++32::40::textOf x)++[41] from fun x=>by unfold aon;simp]
   exact (axi (c:=41) (d:=121) (by rw [List.getLast?_append];rfl) rfl (by decide)).1
 ·rw [List.append_nil]
  exact ⟨a,b,ayE k n⟩
structure avc (a:Ab):Prop where
 kind:a.k=2∨(a.k=3∧aeF a.pr=true)∨(a.k=4∧ajU a.t=true)
 specs:∀s∈a.specs,afp s=true
theorem azp {a:Ab} (h:avc a):∀x∈anr a,runK x 0=some 0∧(91:UInt8)∉x:=by
 intro x hx
 unfold anr at hx
 split at hx
 ·cases hx
 split at hx
 ·rcases List.mem_cons.1 hx with rfl|hx
  ·refine ⟨ayz _,fun hm=> ?_⟩
   have:=avJ hm
   revert this;decide
  ·obtain ⟨_,rfl⟩:=uJ hx;decide
 ·rename_i h2 h3
  have ht:ajU a.t=true:=by rcases h.kind with h|⟨h,_⟩|⟨_,h⟩<;>first|contradiction|exact h
  rcases List.mem_cons.1 hx with rfl|hx
  ·exact ⟨(ato ht).1,(ato ht).2.1⟩
  ·obtain ⟨_,rfl⟩:=uJ hx;decide
theorem awI (k:Int):runK (akf k) 0=some 0∧(32:UInt8)∉akf k:=by
 unfold akf;repeat' split
 all_goals decide
theorem ax2 {a:Ab} (h:avc a):∀x∈anr a++a.specs.map MI,runK x 0=some 0:=by
 intro x hx
 rcases List.mem_append.1 hx with hx|hx
 ·exact (azp h x hx).1
 ·obtain ⟨s,hs,rfl⟩:=List.mem_map.1 hx
  exact (avQ (h.specs s hs)).1
theorem aAd {a:Ab} (h:avc a):runK (Lib.join (headW a) [32]) 0=some 0:=by
 refine av7 (by decide) fun x hx=> ?_
 rcases List.mem_cons.1 hx with rfl|hx
 ·exact (awI _).1
 ·exact ax2 h x hx
theorem aBP {a:Ab} (h:avc a) (t:Str):qy 0 (Lib.join (headW a) [32]++(58::32::t))=some (Lib.join (headW a) [32],t):=by
 rw [ayj (aAd h),qy,if_pos ⟨rfl,rfl,rfl⟩]
 simp
theorem avO (mid ps:List Str) (hps:∀w∈ps.head?,Lib.hasPrefix w [91]=false):∀(q acc:List Sp),(∀s∈q,afp s=true)→
 aj3 (q.map MI++ps) (Lib.join (mid++(q.map MI).reverse) [32]) acc=(acc++q,Lib.join mid [32])
 |[],acc,_=>by
  simp only [List.map_nil,List.nil_append,List.reverse_nil,List.append_nil]
  cases ps with
  |nil=>rfl
  |cons w ws=>rw [aj3,hps w (by simp)];rfl
 |x::q,acc,h=>by
  have ih:=avO mid ps hps q (acc++[x]) fun s hs=>h s (.tail _ hs)
  have hx:=h x (.head _)
  rw [List.map_cons,List.cons_append,aj3,if_pos (azJ hx),azH hx,List.reverse_cons,←List.append_assoc,(avp _ _).2,ih]
  simp
theorem axD {a:Ab} (h:avc a):auw (Lib.join (anr a++a.specs.map MI) [32])=(a.specs.reverse,Lib.join (anr a) [32]):=by
 have hsp:∀l:List Sp,(∀s∈l,afp s=true)→(l.map MI).flatMap (eX 32)=l.map MI:=by
  intro l
  induction l with
  |nil=>intro _;rfl
  |cons x l ih=>intro h;rw [List.map_cons,List.flatMap_cons,axg (h x (.head _)),ih fun s hs=>h s (.tail _ hs)];rfl
 have hps:∀(l:List Str),(∀x∈l,runK x 0=some 0∧(91:UInt8)∉x)→∀w∈(l.flatMap (eX 32)).reverse.head?,Lib.hasPrefix w [91]=false:=by
  intro l hl w hw
  have hm:w∈l.flatMap (eX 32):=List.mem_reverse.1 (List.mem_of_mem_head? hw)
  obtain ⟨x,hx,hwx⟩:=List.mem_flatMap.1 hm
  refine aEg fun hc=> ?_
  rcases auA x 0 [] w hwx 91 hc with h|h
  ·cases h
  ·exact (hl x hx).2 h
 unfold auw
 by_cases he:anr a++a.specs.map MI=[]
 ·obtain ⟨h1,h2⟩:=List.append_eq_nil_iff.1 he
  have h3:a.specs=[]:=List.map_eq_nil_iff.1 h2
  rw [he,h1,h3];rfl
 ·rw [avR he (ax2 h),List.flatMap_append,hsp _ h.specs,List.reverse_append,←List.map_reverse]
  have:=avO (anr a) _ (hps _ (azp h)) a.specs.reverse [] fun s hs=>h.specs s (List.mem_reverse.1 hs)
  rw [←List.map_reverse,List.reverse_reverse] at this
  simpa using this
theorem aBA {p:Pr} (h:aeF p=true):(LX p).getLast?=some 125:=by
 unfold LX;rw [if_pos h,List.getLast?_cons,List.getLast?_append];rfl
theorem azm {a:Ab} (h:avc a) (sp:List Sp) (es:List Ef):arn (akf a.k) (Lib.join (anr a) [32]) sp es=
 if a.k=2 then ⟨2,aaB,[],RD,false,adY,false,sp,es,I5⟩ else if a.k=3 then ⟨3,aaB,[],a.pr,a.slow,adY,false,sp,es,I5⟩ else ⟨4,aaB,[],RD,false,a.t,a.may,sp,es,I5⟩:=by
 obtain ⟨k,f,mods,pr,slow,t,may,specs,qE,r⟩:=a
 obtain ⟨hk,_⟩:=h
 simp only at hk ⊢
 unfold anr akf arn
 rcases hk with rfl|⟨rfl,hp⟩|⟨rfl,ht⟩
 ·rfl
 ·simp only [show ¬(3:Int)=2 by decide,show ¬axk=auy by decide,if_false,if_true]
  cases slow with
  |true=>
   have:=avp [LX pr] ajN
   rw [show opt true ajN=[ajN] from rfl,show [LX pr]++[ajN]=[LX pr,ajN] from rfl] at *
   rw [this.1,this.2,Lib.join_one,awc hp]
  |false=>
   have:=axi (x:=ajN) (d:=119) (aBA hp) rfl (by decide)
   rw [show opt false ajN=[] from rfl,Lib.join_one,this.1,this.2,awc hp]
 ·simp only [show ¬(4:Int)=2 by decide,show ¬(4:Int)=3 by decide,show ¬avT=auy by decide,show ¬avT=axk by decide,if_false,if_true]
  cases may with
  |true=>
   have:=avp [aei t] akg
   rw [show opt true akg=[akg] from rfl,show [aei t]++[akg]=[aei t,akg] from rfl] at *
   rw [this.1,this.2,Lib.join_one,auB ht];rfl
  |false=>
   have:=(ato ht).2.2
   rw [show opt false akg=[] from rfl,Lib.join_one]
   have h2:afX (aei t) akg=aei t:=by unfold afX;rw [this];rfl
   rw [h2,this,auB ht];rfl
theorem axP:∀(x r:Str),(41:UInt8)∉x→aq0 (x++41::32::r)=(x,r)
 |[],r,_=>by rw [List.nil_append,aq0,if_pos ⟨rfl,rfl⟩];rfl
 |c::x,r,h=>by
  rw [List.cons_append,aq0,if_neg (fun e=>h (by rw [←e.1];exact .head _)),axP x r fun m=>h (.tail _ m)]
structure az1 (a:Ab):Prop where
 specs:∀s∈a.specs,afp s=true
 four:a.specs.length≤4
 qE:(a.qE.all fun e=>jl e (a.specs.length:Int))=true
 one:1≤a.qE.length
 eight:a.qE.length≤8
theorem ayp {a:Ab} (h:vE a=true):az1 a:=by
 simp only [vE,Bool.and_eq_true,decide_eq_true_eq] at h
 exact ⟨List.all_eq_true.1 h.1,h.2.1,h.2.2.1,h.2.2.2.1,h.2.2.2.2⟩
inductive avr:Ab→Prop
 |static (f:aH) (l:List Md) (hf:dh f=true) (hz:f.zone=0) (hl:(!(eH l==[]))=true):avr ⟨1,f,l,RD,false,adY,false,[],[],I5⟩
 |replace (r:Rp) (hr:ael r=true):avr ⟨5,aaB,[],RD,false,adY,false,[],[],r⟩
 |acts (a:Ab) (h:avc a) (e:az1 a) (hz:a=if a.k=2 then ⟨2,aaB,[],RD,false,adY,false,a.specs,a.qE,I5⟩ else if a.k=3 then ⟨3,aaB,[],a.pr,a.slow,adY,false,a.specs,a.qE,I5⟩ else ⟨4,aaB,[],RD,false,a.t,a.may,a.specs,a.qE,I5⟩):avr a
theorem axN {a:Ab} (h:aej a=true):avr a:=by
 obtain ⟨k,f,mods,pr,slow,t,may,specs,qE,r⟩:=a
 have hF:axH ⟨k,f,mods,pr,slow,t,may,specs,qE,r⟩=true→f=aaB∧mods=[]:=fun h=>by
  simp only [axH,Bool.and_eq_true,decide_eq_true_eq,lI] at h;exact ⟨h.1,List.length_eq_zero_iff.1 h.2⟩
 have hP:axI ⟨k,f,mods,pr,slow,t,may,specs,qE,r⟩=true→pr=RD∧slow=false:=fun h=>by
  simpa [axI,avl] using h
 have hT:axJ ⟨k,f,mods,pr,slow,t,may,specs,qE,r⟩=true→t=adY∧may=false:=fun h=>by
  simpa [axJ,avq] using h
 have hR:vR ⟨k,f,mods,pr,slow,t,may,specs,qE,r⟩=true→r=I5:=fun h=>by
  simpa [vR,arF] using h
 have hN:aBO ⟨k,f,mods,pr,slow,t,may,specs,qE,r⟩=true→specs=[]∧qE=[]:=fun h=>by
  simpa [aBO] using h
 unfold aej at h
 split at h
 ·rename_i hk;simp only at hk;subst hk
  simp only [Bool.and_eq_true,beq_iff_eq] at h
  obtain ⟨h1,h2,h3,h4,h5,h6,h7⟩:=h
  obtain ⟨rfl,rfl⟩:=hP h4
  obtain ⟨rfl,rfl⟩:=hT h5
  obtain rfl:=hR h6
  obtain ⟨rfl,rfl⟩:=hN h7
  exact .static f mods h1 h2 h3
 split at h
 ·rename_i hk;simp only at hk;subst hk
  simp only [Bool.and_eq_true] at h
  obtain ⟨h1,h2,h3,h4,h5⟩:=h
  obtain ⟨rfl,rfl⟩:=hF h2
  obtain ⟨rfl,rfl⟩:=hP h3
  obtain ⟨rfl,rfl⟩:=hT h4
  obtain ⟨rfl,rfl⟩:=hN h5
  exact .replace r h1
 split at h
 ·rename_i hk;simp only at hk;subst hk
  simp only [Bool.and_eq_true] at h
  obtain ⟨h1,h2,h3,h4,h5⟩:=h
  obtain ⟨rfl,rfl⟩:=hF h1
  obtain ⟨rfl,rfl⟩:=hP h2
  obtain ⟨rfl,rfl⟩:=hT h3
  obtain rfl:=hR h4
  have e:=ayp h5
  exact .acts _ ⟨.inl rfl,e.specs⟩ e rfl
 split at h
 ·rename_i hk;simp only at hk;subst hk
  simp only [Bool.and_eq_true] at h
  obtain ⟨h1,h2,h3,h4,h5⟩:=h
  obtain ⟨rfl,rfl⟩:=hF h2
  obtain ⟨rfl,rfl⟩:=hT h3
  obtain rfl:=hR h4
  have e:=ayp h5
  exact .acts _ ⟨.inr (.inl ⟨rfl,h1⟩),e.specs⟩ e rfl
 split at h
 ·rename_i hk;simp only at hk;subst hk
  simp only [Bool.and_eq_true] at h
  obtain ⟨h1,h2,h3,h4,h5⟩:=h
  obtain ⟨rfl,rfl⟩:=hF h2
  obtain ⟨rfl,rfl⟩:=hP h3
  obtain rfl:=hR h4
  have e:=ayp h5
  exact .acts _ ⟨.inr (.inr ⟨rfl,h1⟩),e.specs⟩ e rfl
 ·cases h
theorem az9 {e:Ef} {n:Int} (h:jl e n=true):jl e 4=true:=aBq h axB
theorem aBr {a:Ab} (e:az1 a):kH (jW a.qE)=some a.qE∧jW a.qE≠[]:=by
 have h4:(a.qE.all fun e=>jl e 4)=true:=List.all_eq_true.2 fun x hx=>az9 (List.all_eq_true.1 e.qE x hx)
 have h0:a.qE≠[]:=fun h=>by have:=e.one;rw [h] at this;simp at this
 exact ⟨BM h0 e.eight h4,acr h0 e.eight h4⟩
theorem axw {a:Ab} (h:aej a=true):aek (aeh a)=a:=by
 rw [show aeh a=ajZ a from if_pos h]
 cases axN h with
 |static f l hf hz hl=>
  obtain ⟨a1,a2,a3⟩:=acX hl
  rw [show ajZ ⟨1,f,l,RD,false,adY,false,[],[],I5⟩=ajL++(textOf f++(41::32::eH l)) from rfl]
  unfold aek
  rw [if_neg (by rw [show Lib.hasPrefix (ajL++(textOf f++(41::32::eH l))) aeH=false from rfl];decide),if_pos (arw _ _),am7,axP,nI hf,JG a1 a2 a3]
  ·rfl
  ·intro hm;exact (asy f 41 hm).2.2.1 (by decide)
 |replace r hr=>
  rw [show ajZ ⟨5,aaB,[],RD,false,adY,false,[],[],r⟩=aeH++aeg r from rfl]
  unfold aek
  rw [if_pos (arw _ _),am7,aw3 hr];rfl
 |acts _ hh e hz=>
  have hb:ajZ a=Lib.join (headW a) [32]++(58::32::jW a.qE):=by
   unfold ajZ
   rcases hh.kind with h|⟨h,_⟩|⟨h,_⟩<;>rw [h]<;>rfl
  have aEd:∀r:Str,∃t,Lib.join (headW a) [32]++r=akf a.k++t:=fun r=>by
   unfold headW
   cases anr a++a.specs.map MI with
   |nil=>exact ⟨r,by rw [Lib.join_one]⟩
   |cons b l=>exact ⟨_,by rw [fA,List.append_assoc,List.append_assoc]⟩
  have hn:∀r:Str,Lib.hasPrefix (Lib.join (headW a) [32]++r) aeH=false∧Lib.hasPrefix (Lib.join (headW a) [32]++r) ajL=false:=fun r=>by
   obtain ⟨t,ht⟩:=aEd r
   rw [ht]
   rcases hh.kind with h|⟨h,_⟩|⟨h,_⟩<;>rw [h]<;>exact ⟨rfl,rfl⟩
  unfold aek
  rw [hb,if_neg (by rw [(hn _).1];decide),if_neg (by rw [(hn _).2];decide)]
  unfold wc1 wc2
  rw [aBP hh]
  simp only [Option.map_some,Option.getD_some]
  unfold headW
  rw [az6 _ _ (awI _).2]
  simp only
  rw [axD hh]
  simp only [List.reverse_reverse]
  rw [azm hh,(aBr e).1]
  exact hz.symm
theorem asg {a:Ab} (h:aej a=false):aeh a=[]:=if_neg (by rw [h];decide)
theorem av6 {a:Ab} (h:aej a=true):aeh a≠[]:=by
 rw [show aeh a=ajZ a from if_pos h]
 unfold ajZ
 repeat' split
 ·simp [ajL]
 ·simp [aeH]
 ·simp
theorem awz {a:Ab} (h:aej a=true):ad6 (aeh a)=some a:=by
 unfold ad6
 rw [axw h,if_pos ⟨av6 h,rfl⟩]
theorem awy {s:Str} {a:Ab} (h:ad6 s=some a):aej a=true∧aeh a=s:=by
 unfold ad6 at h
 split at h
 ·rename_i hc
  obtain rfl:=Option.some.inj h
  refine ⟨?_,hc.2⟩
  cases hv:aej (aek s) with
  |true=>rfl
  |false=>
   have:=hc.2
   rw [asg hv] at this
   exact absurd this.symm hc.1
 ·cases h
end Go.Proofs.YtdicgggkdmkklaaGreatDoor
