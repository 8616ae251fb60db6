/- Plain law: reading a valid filter's words gives the filter. No program in sight. Plain law: a bound's word; Parse inverts Text on the valid filters. No program in sight. Plain law: Parse inverts Te -/
import Derived.Test.YtdicgggkdmkklaaGreatDoorQ2
import Derived.Test.YtdicgggkdmkklaaGreatDoorQ1
import Derived.KernelRfl
import Derived.Lib.ItoaMem
import Derived.Lib.Strings
import Derived.Lib.CutLaws
import Derived.Deep.MidRow
import Derived.Laws.CopyRow
import Derived.OrdersHeld
import Derived.Laws.Concat
import Derived.Maps.AppendAt
import Derived.Lib.Index
set_option linter.all false
set_option maxRecDepth 100000
set_option maxHeartbeats 16000000
namespace Go.Proofs.YtdicgggkdmkklaaGreatDoor
open Go.ChangeShapes Go.WideShapes Go.RowKit
section words
variable (a b c d e f g:Int) (s:ByteArray) (k t p q u v y z:Int)
end words
end Go.Proofs.YtdicgggkdmkklaaGreatDoor
namespace Go.Proofs.YtdicgggkdmkklaaGreatDoor
open Go.ChangeShapes Go.WideShapes Go.RowKit
section words
variable (a b c d e f g:Int) (s:ByteArray) (k t p q u v y z:Int)
end words
end Go.Proofs.YtdicgggkdmkklaaGreatDoor
namespace Go.Proofs.YtdicgggkdmkklaaGreatDoor
open Go.ChangeShapes Go.WideShapes Go.RowKit
def ac4 (x:FN):aH:=⟨x.zone,x.who,x.self,x.types,x.aV,x.colors,x.aP,B x.sub,x.keys,x.dJ,x.pk,x.pn,x.tk,x.tn,x.vk,x.vn⟩
structure Nl (x:FN):Prop where
 zone:x.zone<6
 who:x.who<3
 self:x.self<3
 dJ:x.dJ<3
 keys:x.keys<2 ^ 17
 types:x.types<2 ^ 6
 aV:x.aV<2 ^ 6
 colors:x.colors<2 ^ 5
 aP:x.aP<2 ^ 5
 sub:x.sub=[]∨nG x.sub=true
 pk:x.pk<4
 pn:x.pn≤1000000
 p0:x.pk=0→x.pn=0
 tk:x.tk<4
 tn:x.tn≤1000000
 t0:x.tk=0→x.tn=0
 vk:x.vk<4
 vn:x.vn≤1000000
 v0:x.vk=0→x.vn=0
structure VW (st:aH→Str→Option aH):Prop where
 type:∀(a b c e f g:Int) (s:ByteArray) (k t p q u v y z:Int) (i x:Nat),i<6→x<2 ^ 31→st ⟨a,b,c,(x:Int),e,f,g,s,k,t,p,q,u,v,y,z⟩ ([]++wd aO i)=some ⟨a,b,c,((x |||2 ^ i:Nat):Int),e,f,g,s,k,t,p,q,u,v,y,z⟩
 ntype:∀(a b c d f g:Int) (s:ByteArray) (k t p q u v y z:Int) (i x:Nat),i<6→x<2 ^ 31→st ⟨a,b,c,d,(x:Int),f,g,s,k,t,p,q,u,v,y,z⟩ (dD++wd aO i)=some ⟨a,b,c,d,((x |||2 ^ i:Nat):Int),f,g,s,k,t,p,q,u,v,y,z⟩
 color:∀(a b c d e g:Int) (s:ByteArray) (k t p q u v y z:Int) (i x:Nat),i<5→x<2 ^ 31→st ⟨a,b,c,d,e,(x:Int),g,s,k,t,p,q,u,v,y,z⟩ ([]++wd aY i)=some ⟨a,b,c,d,e,((x |||2 ^ i:Nat):Int),g,s,k,t,p,q,u,v,y,z⟩
 aoE:∀(a b c d e f:Int) (s:ByteArray) (k t p q u v y z:Int) (i x:Nat),i<5→x<2 ^ 31→st ⟨a,b,c,d,e,f,(x:Int),s,k,t,p,q,u,v,y,z⟩ (dD++wd aY i)=some ⟨a,b,c,d,e,f,((x |||2 ^ i:Nat):Int),s,k,t,p,q,u,v,y,z⟩
 key:∀(a b c d e f g:Int) (s:ByteArray) (t p q u v y z:Int) (i x:Nat),i<17→x<2 ^ 31→st ⟨a,b,c,d,e,f,g,s,(x:Int),t,p,q,u,v,y,z⟩ (fZ++wd bK i)=some ⟨a,b,c,d,e,f,g,s,((x |||2 ^ i:Nat):Int),t,p,q,u,v,y,z⟩
 zone:∀(a b c d e f g:Int) (s:ByteArray) (k t p q u v y z:Int) (i:Nat),i<6→wd bU i≠[]→st ⟨a,b,c,d,e,f,g,s,k,t,p,q,u,v,y,z⟩ (wd bU i)=some ⟨((i:Nat):Int),b,c,d,e,f,g,s,k,t,p,q,u,v,y,z⟩
 who:∀(a b c d e f g:Int) (s:ByteArray) (k t p q u v y z:Int) (i:Nat),i<3→wd iQ i≠[]→st ⟨a,b,c,d,e,f,g,s,k,t,p,q,u,v,y,z⟩ (wd iQ i)=some ⟨a,((i:Nat):Int),c,d,e,f,g,s,k,t,p,q,u,v,y,z⟩
 self:∀(a b c d e f g:Int) (s:ByteArray) (k t p q u v y z:Int) (i:Nat),i<3→wd fU i≠[]→st ⟨a,b,c,d,e,f,g,s,k,t,p,q,u,v,y,z⟩ (wd fU i)=some ⟨a,b,((i:Nat):Int),d,e,f,g,s,k,t,p,q,u,v,y,z⟩
 dJ:∀(a b c d e f g:Int) (s:ByteArray) (k t p q u v y z:Int) (i:Nat),i<3→wd iP i≠[]→st ⟨a,b,c,d,e,f,g,s,k,t,p,q,u,v,y,z⟩ (wd iP i)=some ⟨a,b,c,d,e,f,g,s,k,((i:Nat):Int),p,q,u,v,y,z⟩
 sub:∀(F:aH) (r:Str),st F (iM++r)=some { F with sub:=B r }
 power:∀(a b c d e f g:Int) (s:ByteArray) (k t p q u v y z:Int) (i n:Nat),i<4→i≠0→n≤1000000→st ⟨a,b,c,d,e,f,g,s,k,t,p,q,u,v,y,z⟩ (eP++wd fV i++Lib.itoa n)=some ⟨a,b,c,d,e,f,g,s,k,t,((i:Nat):Int),((n:Nat):Int),u,v,y,z⟩
 aqH:∀(a b c d e f g:Int) (s:ByteArray) (k t p q u v y z:Int) (i n:Nat),i<4→i≠0→n≤1000000→st ⟨a,b,c,d,e,f,g,s,k,t,p,q,u,v,y,z⟩ (fE++wd fV i++Lib.itoa n)=some ⟨a,b,c,d,e,f,g,s,k,t,p,q,((i:Nat):Int),((n:Nat):Int),y,z⟩
 value:∀(a b c d e f g:Int) (s:ByteArray) (k t p q u v y z:Int) (i n:Nat),i<4→i≠0→n≤1000000→st ⟨a,b,c,d,e,f,g,s,k,t,p,q,u,v,y,z⟩ (fH++wd fV i++Lib.itoa n)=some ⟨a,b,c,d,e,f,g,s,k,t,p,q,u,v,((i:Nat):Int),((n:Nat):Int)⟩
def okB (c:UInt8):Bool:=XI c || (c==58 || (c==60 || (c==61 || c==62)))
def oI (w:Str):Prop:=w.all okB=true
instance (w:Str):Decidable (oI w):=inferInstanceAs (Decidable (_=true))
theorem oI.app {a b:Str} (ha:oI a) (hb:oI b):oI (a++b):=by
 unfold oI at *;rw [List.all_append,ha,hb];rfl
theorem oI.no {w:Str} (h:oI w) {c:UInt8} (hc:okB c=false):c∉w:=fun hm=>by
 rw [List.all_eq_true.1 h _ hm] at hc;cases hc
theorem FK {n m:Int} (h:jJ n m=true):((n.toNat:Nat):Int)=n∧(n.toNat:Int)≤m:=by
 simp only [jJ,Bool.and_eq_true,decide_eq_true_eq] at h;omega
theorem ahC {k n:Int} (h:bnd k n=true):(((k.toNat:Nat):Int)=k∧k.toNat<4)∧(((n.toNat:Nat):Int)=n∧n.toNat≤1000000)∧(k.toNat=0→n.toNat=0):=by
 simp only [bnd,jJ,Bool.and_eq_true,decide_eq_true_eq,Bool.or_eq_true,bne_iff_ne,ne_eq,beq_iff_eq] at h
 omega
theorem BP {f:aH} (h:dh f=true):ac4 (qC f)=f∧Nl (qC f):=by
 simp only [dh,mF,Bool.and_eq_true,Bool.or_eq_true,beq_iff_eq] at h
 obtain ⟨⟨h1,h2,h3,h4,h5⟩,⟨h6,h7,h8⟩,⟨h9,h10,h11⟩,h12,h13,h14,h15⟩:=h
 have a1:=FK h1;have a2:=FK h2;have a3:=FK h3;have a4:=FK h4;have a5:=FK h5
 have a6:=FK h6;have a7:=FK h7;have a9:=FK h9;have a10:=FK h10
 have a13:=ahC h13;have a14:=ahC h14;have a15:=ahC h15
 constructor
 ·obtain ⟨zone,who,self,types,aV,colors,aP,sub,keys,dJ,pk,pn,tk,tn,vk,vn⟩:=f
  simp only [ac4,qC,a1.1,a2.1,a3.1,a4.1,a5.1,a6.1,a7.1,a9.1,a10.1,a13.1.1,a13.2.1.1,a14.1.1,a14.2.1.1,a15.1.1,a15.2.1.1,qV]
 ·exact {
   zone:=by simp only [qC];omega
   who:=by simp only [qC];omega
   self:=by simp only [qC];omega
   dJ:=by simp only [qC];omega
   keys:=by simp only [qC];omega
   types:=by simp only [qC];omega
   aV:=by simp only [qC];omega
   colors:=by simp only [qC];omega
   aP:=by simp only [qC];omega
   sub:=h12
   pk:=a13.1.2
   pn:=a13.2.1.2
   p0:=a13.2.2
   tk:=a14.1.2
   tn:=a14.2.1.2
   t0:=a14.2.2
   vk:=a15.1.2
   vn:=a15.2.1.2
   v0:=a15.2.2 }
structure Rf where
 kind:Int
 n:Int
 f:aH
def Rf.cells (r:Rf):Array Value:=#[.int .i64 r.kind, .int .i64 r.n, .int .i64 r.f.zone, .int .i64 r.f.who, .int .i64 r.f.self, .int .i64 r.f.types, .int .i64 r.f.aV, .int .i64 r.f.colors, .int .i64 r.f.aP, .string r.f.sub, .int .i64 r.f.keys, .int .i64 r.f.dJ, .int .i64 r.f.pk, .int .i64 r.f.pn, .int .i64 r.f.tk, .int .i64 r.f.tn, .int .i64 r.f.vk, .int .i64 r.f.vn]
def dY:Rf:=⟨0,0,aaB⟩
def qQ:List Str:=[[],[121,111,117],[115,101,108,102],[116,97,114,103,101,116],[101,97,99,104,40],[111,112,112,111,110,101,110,116,115],[112,108,97,121,101,114,115],[105,116],[111,119,110,101,114]]
def eF:Str:=[101,97,99,104,40]
def SA:Str:=[116,97,114,103,101,116]
def XL:Str:=[111,119,110,101,114]
def xw (k:Int):Bool:=k==3 || k==8
def Pn (k:Int):Bool:=k==1 || (k==2 || (k==5 || (k==6 || k==7)))
def iY (r:Rf) (specs:Int):Bool:=
 if xw r.kind=true then decide (1≤r.n)&&(decide (r.n≤specs)&&(decide (r.n≤4)&&fK r.f aaB))
 else if r.kind=4 then r.n==0&&dh r.f
 else Pn r.kind&&(r.n==0&&fK r.f aaB)
def refBody (r:Rf):Str:=
 if xw r.kind=true then wd qQ r.kind.toNat++Lib.itoa r.n
 else if r.kind=4 then eF++textOf r.f++[41] else wd qQ r.kind.toNat
def dI (r:Rf):Str:=if iY r 4=true then refBody r else []
def CX (s:Str):Option aH:=if Lib.hasPrefix s eF=true∧Lib.hasSuffix (Lib.trimPrefix s eF) [41]=true then bW (Lib.trimSuffix (Lib.trimPrefix s eF) [41]) else none
def Fe (s p:Str):Option Int:=if Lib.hasPrefix s p=true then numOf (Lib.trimPrefix s p) else none
def AL (s:Str):Rf:=
 if s=wd qQ 1 then ⟨1,0,aaB⟩ else if s=wd qQ 2 then ⟨2,0,aaB⟩ else if s=wd qQ 5 then ⟨5,0,aaB⟩ else if s=wd qQ 6 then ⟨6,0,aaB⟩ else if s=wd qQ 7 then ⟨7,0,aaB⟩
 else match Fe s SA with
  |some n=>⟨3,n,aaB⟩
  |none=>match Fe s XL with
   |some n=>⟨8,n,aaB⟩
   |none=>match CX s with
    |some f=>⟨4,0,f⟩
    |none=>dY
def dX (s:Str):Option Rf:=if iY (AL s) 4=true∧dI (AL s)=s then some (AL s) else none
theorem sN {r:Rf} (h:iY r 4=true):r=⟨1,0,aaB⟩∨r=⟨2,0,aaB⟩∨r=⟨5,0,aaB⟩∨r=⟨6,0,aaB⟩∨r=⟨7,0,aaB⟩∨(r=⟨3,1,aaB⟩∨r=⟨3,2,aaB⟩∨r=⟨3,3,aaB⟩∨r=⟨3,4,aaB⟩)∨(r=⟨8,1,aaB⟩∨r=⟨8,2,aaB⟩∨r=⟨8,3,aaB⟩∨r=⟨8,4,aaB⟩)∨∃f,dh f=true∧r=⟨4,0,f⟩:=by
 obtain ⟨k,n,f⟩:=r
 unfold iY xw Pn at h
 simp only at h
 by_cases h3:k=3
 ·subst h3
  simp only [beq_self_eq_true,Bool.true_or,if_true,Bool.and_eq_true,decide_eq_true_eq] at h
  obtain ⟨h1,h2,_,hf⟩:=h
  have hf:=(lI _ _).1 hf;subst hf
  have:n=1∨n=2∨n=3∨n=4:=by omega
  rcases this with rfl|rfl|rfl|rfl<;>simp
 ·by_cases h8:k=8
  ·subst h8
   simp only [beq_self_eq_true,Bool.or_true,if_true,Bool.and_eq_true,decide_eq_true_eq] at h
   obtain ⟨h1,h2,_,hf⟩:=h
   have hf:=(lI _ _).1 hf;subst hf
   have:n=1∨n=2∨n=3∨n=4:=by omega
   rcases this with rfl|rfl|rfl|rfl<;>simp
  ·rw [if_neg (by simp [h3,h8])] at h
   by_cases h4:k=4
   ·subst h4
    rw [if_pos rfl,Bool.and_eq_true,beq_iff_eq] at h
    obtain ⟨rfl,hf⟩:=h
    right;right;right;right;right;right;right
    exact ⟨f,hf,rfl⟩
   ·rw [if_neg h4] at h
    simp only [Bool.and_eq_true,Bool.or_eq_true,beq_iff_eq] at h
    obtain ⟨hk,rfl,hf⟩:=h
    have hf:=(lI _ _).1 hf;subst hf
    rcases hk with rfl|rfl|rfl|rfl|rfl<;>simp
structure Am where
 k:Int
 n:Int
 c:Int
 f:aH
def Am.cells (r:Am):Array Value:=#[.int .i64 r.k, .int .i64 r.n, .int .i64 r.c, .int .i64 r.f.zone, .int .i64 r.f.who, .int .i64 r.f.self, .int .i64 r.f.types, .int .i64 r.f.aV, .int .i64 r.f.colors, .int .i64 r.f.aP, .string r.f.sub, .int .i64 r.f.keys, .int .i64 r.f.dJ, .int .i64 r.f.pk, .int .i64 r.f.pn, .int .i64 r.f.tk, .int .i64 r.f.tn, .int .i64 r.f.vk, .int .i64 r.f.vn]
def dG:Am:=⟨0,0,0,aaB⟩
def EF:List Str:=[[],[120],[],[112,111,119,101,114],[],[108,105,102,101],[104,97,110,100],[116,104,97,116]]
def uT:List Str:=[[112,108,117,115],[109,105,110,117,115],[99,104,97,114,103,101]]
def yU:Str:=[99,111,117,110,116,101,114,115,40]
def fB:Str:=[99,111,117,110,116,40]
def Dv (k:Int):Bool:=k==1 || (k==3 || (k==5 || (k==6 || k==7)))
def iT (a:Am):Bool:=
 if a.k=0 then decide (0≤a.n)&&(decide (a.n≤1000000)&&(a.c==0&&fK a.f aaB))
 else if a.k=2 then decide (1≤a.n)&&(decide (a.n≤99)&&(a.c==0&&dh a.f))
 else if a.k=4 then a.n==0&&((a.c==0 || (a.c==1 || a.c==2))&&fK a.f aaB)
 else Dv a.k&&(a.n==0&&(a.c==0&&fK a.f aaB))
def dw (c:Int):Str:=if c=0 then wd uT 0 else if c=1 then wd uT 1 else if c=2 then wd uT 2 else []
def bT (f:aH):Str:=fB++(textOf f++[41])
def rU (a:Am):Str:=
 if a.k=0 then Lib.itoa a.n
 else if a.k=2 then (if 1<a.n then Lib.itoa a.n++42::bT a.f else bT a.f)
 else if a.k=4 then yU++(dw a.c++[41])
 else wd EF a.k.toNat
def dW (a:Am):Str:=if iT a=true then rU a else []
def nR (b:Nat):Nat→Str→Option (Str × Str)
 |_,[]=>none
 |d,c::r=>if d=0∧c.toNat=b then some ([],r) else (nR b (bP d c.toNat) r).map fun p=>(c::p.1,p.2)
def Qu (s:Str):Option Nat:=(List.range' 0 8).find? fun k=>wd EF k==s
def jF (s:Str):Option Nat:=(List.range' 0 3).find? fun k=>wd uT k==s
def ET (s:Str):Str:=Lib.trimSuffix (Lib.trimPrefix s fB) [41]
def ql (s:Str):Am:=match numOf s with
 |some n=>⟨0,n,0,aaB⟩
 |none=>match Qu s with
  |some k=>⟨(k:Int),0,0,aaB⟩
  |none=>if Lib.hasPrefix s yU=true then ⟨4,0,(((jF (Lib.trimSuffix (Lib.trimPrefix s yU) [41])).getD 0:Nat):Int),aaB⟩
   else match nR 42 0 s with
    |some (a,r)=>⟨2,(numOf a).getD 0,0,(bW (ET r)).getD aaB⟩
    |none=>⟨2,1,0,(bW (ET s)).getD aaB⟩
def eY (s:Str):Option Am:=if s≠[]∧dW (ql s)=s then some (ql s) else none
theorem Nv:∀ {s:Str} {d b:Nat} {p q:Str},nR b d s=some (p,q)→p.length≤s.length∧q.length≤s.length
 |[],_,_,_,_,h=>by cases h
 |x::t,d,b,p,q,h=>by
  rw [nR] at h
  split at h
  ·injection h with h;injection h with h1 h2;subst h1 h2;simp
  ·cases hc:nR b (bP d x.toNat) t with
   |none=>rw [hc] at h;cases h
   |some pr=>
    rw [hc] at h
    obtain ⟨p',q'⟩:=pr
    have:=Nv hc
    simp at h
    obtain ⟨rfl,rfl⟩:=h
    simp;omega
theorem wS (n c:Int) (f:aH):rU ⟨2,n,c,f⟩=if 1<n then Lib.itoa n++42::bT f else bT f:=rfl
theorem wU {a:Am} (h:iT a=true):(∃n:Nat,n≤1000000∧a=⟨0,n,0,aaB⟩)∨(∃n:Nat,1≤n∧n≤99∧∃f,dh f=true∧a=⟨2,n,0,f⟩)∨(∃c,(c=0∨c=1∨c=2)∧a=⟨4,0,c,aaB⟩)∨(∃k,(k=1∨k=3∨k=5∨k=6∨k=7)∧a=⟨k,0,0,aaB⟩):=by
 obtain ⟨k,n,c,f⟩:=a
 unfold iT at h
 simp only at h
 by_cases h0:k=0
 ·rw [if_pos h0] at h
  simp only [Bool.and_eq_true,decide_eq_true_eq,beq_iff_eq] at h
  obtain ⟨a1,a2,rfl,hf⟩:=h
  have:=(lI _ _).1 hf;subst this;subst h0
  exact .inl ⟨n.toNat,by omega,by rw [Int.toNat_of_nonneg a1]⟩
 rw [if_neg h0] at h
 by_cases h2:k=2
 ·rw [if_pos h2] at h
  simp only [Bool.and_eq_true,decide_eq_true_eq,beq_iff_eq] at h
  obtain ⟨a1,a2,rfl,hf⟩:=h
  subst h2
  exact .inr (.inl ⟨n.toNat,by omega,by omega,f,hf,by rw [Int.toNat_of_nonneg (by omega)]⟩)
 rw [if_neg h2] at h
 by_cases h4:k=4
 ·rw [if_pos h4] at h
  simp only [Bool.and_eq_true,Bool.or_eq_true,beq_iff_eq] at h
  obtain ⟨rfl,hc,hf⟩:=h
  have:=(lI _ _).1 hf;subst this;subst h4
  exact .inr (.inr (.inl ⟨c,hc,rfl⟩))
 ·rw [if_neg h4] at h
  unfold Dv at h
  simp only [Bool.and_eq_true,Bool.or_eq_true,beq_iff_eq] at h
  obtain ⟨hk,rfl,rfl,hf⟩:=h
  have:=(lI _ _).1 hf;subst this
  exact .inr (.inr (.inr ⟨k,hk,rfl⟩))
structure Tg where
 k:Int
 who:Int
 f:aH
def Tg.cells (r:Tg):Array Value:=#[.int .i64 r.k, .int .i64 r.who, .int .i64 r.f.zone, .int .i64 r.f.who, .int .i64 r.f.self, .int .i64 r.f.types, .int .i64 r.f.aV, .int .i64 r.f.colors, .int .i64 r.f.aP, .string r.f.sub, .int .i64 r.f.keys, .int .i64 r.f.dJ, .int .i64 r.f.pk, .int .i64 r.f.pn, .int .i64 r.f.tk, .int .i64 r.f.tn, .int .i64 r.f.vk, .int .i64 r.f.vn]
def adY:Tg:=⟨0,0,aaB⟩
def ajX:List Str:=[[],[101,110,116,101,114,115],[108,101,97,118,101,115],[100,105,101,115],[97,116,116,97,99,107,115],[98,108,111,99,107,115],[100,101,97,108,115],[100,101,97,108,116],[100,114,97,119,115],[99,97,115,116,115],[117,112,107,101,101,112],[101,110,100],[103,97,105,110,115],[108,111,115,101,115],[112,108,97,99,101,100]]
def pwT:List Str:=[[97,110,121],[121,111,117],[111,112,112,111,110,101,110,116,115]]
def cutAt (c:UInt8):Str→Str × Str
 |[]=>([],[])
 |x::r=>if x==c then ([],r) else (x::(cutAt c r).1,(cutAt c r).2)
theorem index_one (c:UInt8) (s:Str):(Lib.index s [c]= -1∧cutAt c s=(s,[]))∨(∃i:Nat,Lib.index s [c]=i∧cutAt c s=(s.take i,s.drop (i+1))):=by
 induction s with
 |nil=>exact Or.inl ⟨rfl,rfl⟩
 |cons x r ih=>
  by_cases h:x=c
  ·subst h
   refine Or.inr ⟨0,?_,?_⟩
   ·unfold Lib.index;simp [List.isPrefixOf]
   ·simp [cutAt]
  ·have h1:(x==c)=false:=by simpa using h
   have h2:List.isPrefixOf [c] (x::r)=false:=by simp [List.isPrefixOf];exact fun e=>h e.symm
   rcases ih with ⟨a,b⟩|⟨i,a,b⟩
   ·refine Or.inl ⟨?_,?_⟩
    ·unfold Lib.index;rw [h2,a];rfl
    ·rw [cutAt,h1,b];rfl
   ·refine Or.inr ⟨i+1,?_,?_⟩
    ·unfold Lib.index;rw [h2,a]
     have:((i:Int)== -1)=false:=by rw [beq_eq_false_iff_ne];omega
     simp [this]
    ·rw [cutAt,h1,b];simp
theorem anm (c:UInt8) (s:Str):(Lib.cut s [c]).1=(cutAt c s).1∧(Lib.cut s [c]).2.1=(cutAt c s).2:=by
 unfold Lib.cut
 rcases index_one c s with ⟨a,b⟩|⟨i,a,b⟩
 ·rw [a,b,if_neg (by omega)];exact ⟨rfl,rfl⟩
 ·rw [a,b,if_pos (by omega)];exact ⟨rfl,rfl⟩
theorem aaN (c:UInt8) (s:Str):(cutAt c s).1.length≤s.length∧(cutAt c s).2.length≤s.length:=by
 rcases index_one c s with ⟨_,b⟩|⟨i,_,b⟩
 ·rw [b];simp
 ·rw [b];simp;omega
def atp (k:Int):Bool:=k==8 || (k==9 || (k==10 || (k==11 || (k==12 || k==13))))
def an7 (k:Int):Bool:=k==1 || (k==2 || (k==3 || (k==4 || (k==5 || (k==6 || (k==7 || (k==9 || k==14)))))))
def X9 (who:Int):Str:=if who=0 then wd pwT 0 else if who=1 then wd pwT 1 else if who=2 then wd pwT 2 else []
def ajU (t:Tg):Bool:=
 (decide (1≤t.k)&&decide (t.k≤14))&&((atp t.k || t.who==0)&&((t.who==0 || (t.who==1 || t.who==2))&&(if an7 t.k=true then dh t.f&&t.f.zone==(if t.k=9 then 5 else 0) else fK t.f aaB)))
def aqW (k who:Int):Str:=wd ajX k.toNat++(if atp k=true then [32]++X9 who else [])
def aon (f:aH):Str:=[32,40]++textOf f++[41]
def ajQ (t:Tg):Str:=aqW t.k t.who++(if an7 t.k=true then aon t.f else [])
def aei (t:Tg):Str:=if ajU t=true then ajQ t else []
def asK (v:Str):Option Nat:=(List.range' 1 14).find? fun k=>wd ajX k==v
def an8 (n:Str):Int:=if n=wd pwT 2 then 2 else if n=wd pwT 1 then 1 else 0
def aex (k who:Int) (rest:Str):Option Tg:=
 if an7 k=true then (match bW (Lib.trimSuffix (Lib.trimPrefix rest [40]) [41]) with|some f=>some ⟨k,who,f⟩|none=>none) else some ⟨k,who,aaB⟩
def avL (k:Int) (rest:Str):Option Tg:=if atp k=true then aex k (an8 (cutAt 32 rest).1) (cutAt 32 rest).2 else aex k 0 rest
def akw (s:Str):Option Tg:=match asK (cutAt 32 s).1 with|some k=>avL k (cutAt 32 s).2|none=>none
def am9 (s:Str):Option Tg:=match akw s with|some t=>if ajU t=true∧aei t=s then some t else none|none=>none
structure Rp where
 on:Int
 who:Int
 f:aH
 d:Int
 n:Int
 z:Int
 c:Int
def Rp.cells (r:Rp):Array Value:=#[.int .i64 r.on, .int .i64 r.who, .int .i64 r.f.zone, .int .i64 r.f.who, .int .i64 r.f.self, .int .i64 r.f.types, .int .i64 r.f.aV, .int .i64 r.f.colors, .int .i64 r.f.aP, .string r.f.sub, .int .i64 r.f.keys, .int .i64 r.f.dJ, .int .i64 r.f.pk, .int .i64 r.f.pn, .int .i64 r.f.tk, .int .i64 r.f.tn, .int .i64 r.f.vk, .int .i64 r.f.vn, .int .i64 r.d, .int .i64 r.n, .int .i64 r.z, .int .i64 r.c]
def I5:Rp:=⟨0,0,aaB,0,0,0,0⟩
def SI:List Str:=[[98,97,116,116,108,101,102,105,101,108,100],[104,97,110,100],[108,105,98,114,97,114,121],[103,114,97,118,101,121,97,114,100],[101,120,105,108,101],[115,116,97,99,107]]
def ant:Str:=[112,114,101,118,101,110,116]
def anA:Str:=[114,101,100,117,99,101]
def apM:Str:=[100,111,117,98,108,101]
def asN:Str:=[97,100,100]
def aqf:Str:=[116,97,112,112,101,100]
def asw:Str:=[119,105,116,104]
def asr:Str:=[115,107,105,112]
def ayw:Str:=[104,117,114,116]
def avW:Str:=[100,97,109,97,103,101]
def ayn:Str:=[100,105,101,115]
def avX:Str:=[101,110,116,101,114,115]
def ayo:Str:=[100,114,97,119]
def ayt:Str:=[103,97,105,110]
def ayx:Str:=[108,111,115,101]
def avV:Str:=[99,114,101,97,116,101]
def aAj:Str:=[112,117,116]
def dR (z:Int):Str:=if z=0 then wd SI 0 else if z=1 then wd SI 1 else if z=2 then wd SI 2 else if z=3 then wd SI 3 else if z=4 then wd SI 4 else if z=5 then wd SI 5 else []
def arj (on d:Int):Bool:=
 if on=1 then d==1 || (d==2 || (d==3 || d==4))
 else if on=2 then d==5 || (d==6 || d==7)
 else if on=3 then d==8 || d==4
 else if on=4∨on=5∨on=10∨on=8 then d==8 || (d==4 || d==3)
 else false
def aoR (on who:Int):Bool:=on==2 || (on==8 || (on==1&&who==0))
def avF (r:Rp):Rp:=⟨r.on,if r.on=2∨r.on=8 then 0 else r.who,if aoR r.on r.who=true then r.f else aaB,r.d,if r.d=2∨r.d=4∨r.d=7 then r.n else 0,if r.d=5 then r.z else 0,if r.d=7 then r.c else 0⟩
def arb (a b:Rp):Bool:=a.on==b.on&&(a.who==b.who&&(fK a.f b.f&&(a.d==b.d&&(a.n==b.n&&(a.z==b.z&&a.c==b.c)))))
theorem arF (a b:Rp):arb a b=true↔a=b:=by
 obtain ⟨a1,a2,a3,a4,a5,a6,a7⟩:=a
 obtain ⟨b1,b2,b3,b4,b5,b6,b7⟩:=b
 simp [arb,lI]
def avG (r:Rp):Bool:=
 if r.d=2∨r.d=4 then decide (1≤r.n)&&decide (r.n≤99)
 else if r.d=7 then decide (1≤r.n)&&(decide (r.n≤99)&&(r.c==0 || (r.c==1 || r.c==2)))
 else if r.d=5 then r.z==1 || (r.z==2 || r.z==4)
 else true
def ael (r:Rp):Bool:=arj r.on r.d&&(arb r (avF r)&&(decide (0≤r.who)&&(decide (r.who≤2)&&(dh r.f&&(r.f.zone==0&&avG r)))))
def arC (d n z c:Int):Str:=
 if d=1 then ant else if d=2 then anA++32::Lib.itoa n else if d=3 then apM else if d=4 then asN++32::Lib.itoa n
 else if d=5 then dR z else if d=6 then aqf else if d=7 then asw++32::(Lib.itoa n++32::dw c) else asr
def ani (on who d:Int):Str:=
 if on=1 then (if who=0 then avW else ayw) else if on=2 then (if d=5 then ayn else avX) else if on=3 then ayo else if on=4 then ayt
 else if on=5 then ayx else if on=10 then avV else aAj
def aru (on who:Int) (f:aH):Str:=if aoR on who=true then 40::(textOf f++[41]) else X9 who
def anj (r:Rp):Str:=ani r.on r.who r.d++32::(aru r.on r.who r.f++32::arC r.d r.n r.z r.c)
def aeg (r:Rp):Str:=if ael r=true then anj r else []
def kindOf (w:Str):Int:=
 if w=avW∨w=ayw then 1 else if w=ayn∨w=avX then 2 else if w=ayo then 3 else if w=ayt then 4 else if w=ayx then 5
 else if w=avV then 10 else if w=aAj then 8 else 0
def aoP (w:Str):Option (Int × aH):=if Lib.hasPrefix w [40]=true then (bW (Lib.trimSuffix (Lib.trimPrefix w [40]) [41])).map fun f=>(0,f) else some (an8 w,aaB)
def auH (w:Str):Int:=if w=wd SI 5 then 5 else if w=wd SI 4 then 4 else if w=wd SI 3 then 3 else if w=wd SI 2 then 2 else if w=wd SI 1 then 1 else 0
def aun (w:Str):Int:=if w=ant then 1 else if w=anA then 2 else if w=apM then 3 else if w=asN then 4 else if w=aqf then 6 else if w=asr then 8 else 5
def adV (on who:Int) (f:aH) (l:List Str):Rp:=
 if l.length=3∧l.headD []=asw then ⟨on,who,f,7,(numOf (l.getD 1 [])).getD 0,0,(((jF (l.getD 2 [])).getD 0:Nat):Int)⟩
 else ⟨on,who,f,aun (l.headD []),if l.length=2 then (numOf (l.getD 1 [])).getD 0 else 0,if aun (l.headD [])=5 then auH (l.headD []) else 0,0⟩
def aqO (s:Str):Option Rp:=match eX 32 s with
 |a::b::c::l=>(aoP b).map fun p=>adV (kindOf a) p.1 p.2 (c::l)
 |_=>none
def am8 (s:Str):Option Rp:=match aqO s with|some r=>if ael r=true∧aeg r=s then some r else none|none=>none
theorem avu {on d:Int} (h:arj on d=true):(on=1∧(d=1∨d=2∨d=3∨d=4))∨(on=2∧(d=5∨d=6∨d=7))∨(on=3∧(d=8∨d=4))∨((on=4∨on=5∨on=10∨on=8)∧(d=8∨d=4∨d=3)):=by
 unfold arj at h
 split at h
 ·simp only [Bool.or_eq_true,beq_iff_eq] at h;exact .inl ⟨by assumption,h⟩
 split at h
 ·simp only [Bool.or_eq_true,beq_iff_eq] at h;exact .inr (.inl ⟨by assumption,h⟩)
 split at h
 ·simp only [Bool.or_eq_true,beq_iff_eq] at h;exact .inr (.inr (.inl ⟨by assumption,h⟩))
 split at h
 ·simp only [Bool.or_eq_true,beq_iff_eq] at h;exact .inr (.inr (.inr ⟨by assumption,h⟩))
 ·cases h
def ash (d n z c:Int):Prop:=((d=1∨d=3∨d=6∨d=8)∧n=0∧z=0∧c=0)∨((d=2∨d=4)∧(1≤n∧n≤99)∧z=0∧c=0)∨(d=5∧n=0∧(z=1∨z=2∨z=4)∧c=0)∨(d=7∧(1≤n∧n≤99)∧z=0∧(c=0∨c=1∨c=2))
theorem aoZ {r:Rp} (h:ael r=true):arj r.on r.d=true∧(r.who=0∨r.who=1∨r.who=2)∧dh r.f=true∧r.f.zone=0∧(aoR r.on r.who=true→r.who=0)∧(aoR r.on r.who=false→r.f=aaB)∧ash r.d r.n r.z r.c:=by
 obtain ⟨on,who,f,d,n,z,c⟩:=r
 unfold ael at h
 simp only [Bool.and_eq_true,decide_eq_true_eq,beq_iff_eq] at h
 obtain ⟨hd,he,w0,w2,hf,hz,hn⟩:=h
 have he:=(arF _ _).1 he
 unfold avF at he
 simp only [Rp.mk.injEq,true_and] at he
 obtain ⟨e2,e3,e5,e6,e7⟩:=he
 have hw:who=0∨who=1∨who=2:=by omega
 refine ⟨hd,hw,hf,hz,?_,?_,?_⟩
 ·intro hr
  simp only [aoR,Bool.or_eq_true,Bool.and_eq_true,beq_iff_eq] at hr
  simp only
  by_cases ho:on=2∨on=8
  ·rw [if_pos ho] at e2;exact e2
  ·omega
 ·intro hr
  simp only at hr ⊢
  rw [hr] at e3
  simpa using e3
 ·simp only [avG] at hn
  have hd8:d=1∨d=2∨d=3∨d=4∨d=5∨d=6∨d=7∨d=8:=by
   rcases avu hd with ⟨_,hx⟩|⟨_,hx⟩|⟨_,hx⟩|⟨_,hx⟩<;>omega
  unfold ash
  rcases hd8 with rfl|rfl|rfl|rfl|rfl|rfl|rfl|rfl
  all_goals simp at e5 e6 e7 hn
  all_goals simp
  all_goals omega
theorem asq {r:Rp} (h:ael r=false):aeg r=[]:=if_neg (by rw [h];decide)
structure Md where
 kind:Int
 n:Int
 m:Int
 sub:ByteArray
 f:aH
def Md.cells (r:Md):Array Value:=#[.int .i64 r.kind, .int .i64 r.n, .int .i64 r.m, .string r.sub, .int .i64 r.f.zone, .int .i64 r.f.who, .int .i64 r.f.self, .int .i64 r.f.types, .int .i64 r.f.aV, .int .i64 r.f.colors, .int .i64 r.f.aP, .string r.f.sub, .int .i64 r.f.keys, .int .i64 r.f.dJ, .int .i64 r.f.pk, .int .i64 r.f.pn, .int .i64 r.f.tk, .int .i64 r.f.tn, .int .i64 r.f.vk, .int .i64 r.f.vn]
def dO:Md:=⟨0,0,0,⟨#[]⟩,aaB⟩
def vK:Str:=[99,111,110,116,114,111,108]
def BD:Str:=[98,108,97,110,107]
def yQ:Str:=[112,116,45,115,119,105,116,99,104]
def vw:Str:=[116,121,112,101,115]
def sQ:Str:=[116,121,112,101,115,43]
def EG:Str:=[115,117,98]
def zu:Str:=[115,117,98,43]
def sG:Str:=[99,111,108,111,114,115]
def qA:Str:=[99,111,108,111,114,115,43]
def tK:Str:=[107,101,121,115,43]
def tJ:Str:=[107,101,121,115,45]
def uS:Str:=[112,116]
def zX:Str:=[112,116,43]
def ig:Str:=[99,111,117,110,116,40]
def Ll (k:Int):Bool:=k==2 || (k==3 || (k==6 || (k==7 || (k==8 || (k==9 || (k==12 || k==13))))))
def Lj (r:Md):Md:=⟨r.kind,if Ll r.kind=true then r.n else 0,if r.kind=12∨r.kind=13 then r.m else 0,if r.kind=4∨r.kind=5 then r.sub else ⟨#[]⟩,if r.kind=11 then r.f else aaB⟩
def Ew (a b:Md):Bool:=a.kind==b.kind&&(a.n==b.n&&(a.m==b.m&&(a.sub.toList==b.sub.toList&&fK a.f b.f)))
theorem yD (a b:Md):Ew a b=true↔a=b:=by
 obtain ⟨a1,a2,a3,a4,a5⟩:=a
 obtain ⟨b1,b2,b3,b4,b5⟩:=b
 simp only [Ew,Bool.and_eq_true,beq_iff_eq,lI,Md.mk.injEq]
 constructor
 ·rintro ⟨h1,h2,h3,h4,h5⟩
  refine ⟨h1,h2,h3,?_,h5⟩
  exact lC (by rw [←dZ,←dZ];exact h4)
 ·rintro ⟨h1,h2,h3,h4,h5⟩
  exact ⟨h1,h2,h3,by rw [h4],h5⟩
def Px (r:Md):Bool:=
 if r.kind=2∨r.kind=3 then decide (1≤r.n)&&(decide (r.n≤63)&&(bits .and .i64 r.n 6==0))
 else if r.kind=4∨r.kind=5 then nG (L r.sub)
 else if r.kind=6 then decide (0≤r.n)&&decide (r.n≤31)
 else if r.kind=7 then decide (1≤r.n)&&decide (r.n≤31)
 else if r.kind=8∨r.kind=9 then decide (1≤r.n)&&decide (r.n≤131071)
 else if r.kind=11 then dh r.f
 else if r.kind=12 then decide (0≤r.n)&&(decide (r.n≤99)&&(decide (0≤r.m)&&decide (r.m≤99)))
 else if r.kind=13 then decide (-99≤r.n)&&(decide (r.n≤99)&&(decide (-99≤r.m)&&decide (r.m≤99)))
 else true
def iL (r:Md):Bool:=decide (1≤r.kind)&&(decide (r.kind≤14)&&(Ew r (Lj r)&&Px r))
def nK (r:Md):Str:=
 if r.kind=1 then vK else if r.kind=2 then vw++61::bD r.n.toNat else if r.kind=3 then sQ++61::bD r.n.toNat
 else if r.kind=4 then EG++61::L r.sub else if r.kind=5 then zu++61::L r.sub
 else if r.kind=6 then sG++61::bM r.n.toNat else if r.kind=7 then qA++61::bM r.n.toNat
 else if r.kind=8 then tK++61::dA r.n.toNat else if r.kind=9 then tJ++61::dA r.n.toNat
 else if r.kind=10 then BD else if r.kind=11 then uS++61::(ig++(textOf r.f++[41]))
 else if r.kind=12 then uS++61::(Lib.itoa r.n++47::Lib.itoa r.m) else if r.kind=13 then zX++61::(Lib.itoa r.n++47::Lib.itoa r.m)
 else yQ
def cu (r:Md):Str:=if iL r=true then nK r else []
def sK (s:Str):Md:=
 if Lib.hasPrefix s ig=true then ⟨11,0,0,⟨#[]⟩,(bW (Lib.trimSuffix (Lib.trimPrefix s ig) [41])).getD aaB⟩
 else ⟨12,(numOf (cutAt 47 s).1).getD 0,(numOf (cutAt 47 s).2).getD 0,⟨#[]⟩,aaB⟩
def pq (o:Option Nat):Int:=((o.getD 0:Nat):Int)
def rD (nm rest:Str):Md:=
 if nm=vw∨nm=sQ then ⟨2,pq (xM rest),0,⟨#[]⟩,aaB⟩
 else if nm=EG∨nm=zu then ⟨4,0,0,B rest,aaB⟩
 else if nm=sG∨nm=qA then ⟨6,pq (pO rest),0,⟨#[]⟩,aaB⟩
 else if nm=tK∨nm=tJ then ⟨8,pq (xJ rest),0,⟨#[]⟩,aaB⟩
 else if nm=uS∨nm=zX then sK rest
 else dO
def stepM (nm:Str):Bool:=nm==tJ || (Lib.hasSuffix nm [43]&& !(nm==tK))
def upM (r:Md) (b:Bool):Md:=if b=true then ⟨r.kind+1,r.n,r.m,r.sub,r.f⟩ else r
def kN (s:Str):Md:=
 if s=vK then ⟨1,0,0,⟨#[]⟩,aaB⟩ else if s=BD then ⟨10,0,0,⟨#[]⟩,aaB⟩ else if s=yQ then ⟨14,0,0,⟨#[]⟩,aaB⟩
 else upM (rD (cutAt 61 s).1 (cutAt 61 s).2) (stepM (cutAt 61 s).1)
def iJ (s:Str):Option Md:=if iL (kN s)=true∧cu (kN s)=s then some (kN s) else none
theorem afP:∀k:Fin 199,numOf (Lib.itoa ((k.val:Int) - 99))=some ((k.val:Int) - 99):=by decide +kernel
theorem NM (n:Int) (h1: -99≤n) (h2:n≤99):numOf (Lib.itoa n)=some n:=by
 have:=afP ⟨(n+99).toNat,by omega⟩
 simp only at this
 rwa [show (((n+99).toNat:Nat):Int) - 99=n by omega] at this
theorem abf {T:List Str} {m:Nat} (h0:m≠0) (hm:m<2 ^ 31):bV T m≠[]:=by
 intro h
 apply h0
 apply Nat.eq_of_testBit_eq
 intro i
 rw [Nat.zero_testBit]
 cases hb:m.testBit i
 ·rfl
 ·have hi:i<31:=by
   rcases Nat.lt_or_ge i 31 with h'|h'
   ·exact h'
   ·rw [Nat.testBit_lt_two_pow (Nat.lt_of_lt_of_le hm (Nat.pow_le_pow_right (by omega) h'))] at hb;cases hb
  have:i∈aK m 31:=by unfold aK;simp [hi,hb]
  unfold bV at h
  rw [List.map_eq_nil_iff] at h
  rw [h] at this;cases this
inductive nJ:Md→Prop
 |control:nJ ⟨1,0,0,⟨#[]⟩,aaB⟩
 |rZ (k:Nat):1≤k→k≤63→nJ ⟨2,k,0,⟨#[]⟩,aaB⟩
 |zW (k:Nat):1≤k→k≤63→nJ ⟨3,k,0,⟨#[]⟩,aaB⟩
 |Ku (s:ByteArray):nG (L s)=true→nJ ⟨4,0,0,s,aaB⟩
 |Kv (s:ByteArray):nG (L s)=true→nJ ⟨5,0,0,s,aaB⟩
 |vX (k:Nat):k≤31→nJ ⟨6,k,0,⟨#[]⟩,aaB⟩
 |vY (k:Nat):1≤k→k≤31→nJ ⟨7,k,0,⟨#[]⟩,aaB⟩
 |keys8 (k:Nat):1≤k→k≤131071→nJ ⟨8,k,0,⟨#[]⟩,aaB⟩
 |DK (k:Nat):1≤k→k≤131071→nJ ⟨9,k,0,⟨#[]⟩,aaB⟩
 |blank:nJ ⟨10,0,0,⟨#[]⟩,aaB⟩
 |count (f:aH):dh f=true→nJ ⟨11,0,0,⟨#[]⟩,f⟩
 |DZ (n m:Int):0≤n→n≤99→0≤m→m≤99→nJ ⟨12,n,m,⟨#[]⟩,aaB⟩
 |Dt (n m:Int): -99≤n→n≤99→ -99≤m→m≤99→nJ ⟨13,n,m,⟨#[]⟩,aaB⟩
 |switch:nJ ⟨14,0,0,⟨#[]⟩,aaB⟩
theorem wH {r:Md} (h:iL r=true):nJ r:=by
 obtain ⟨k,n,m,s,f⟩:=r
 unfold iL at h
 simp only [Bool.and_eq_true,decide_eq_true_eq] at h
 obtain ⟨k1,k14,he,hn⟩:=h
 have he:=(yD _ _).1 he
 unfold Lj at he
 simp only [Md.mk.injEq,true_and] at he
 obtain ⟨e1,e2,e3,e4⟩:=he
 unfold Px at hn
 have hk:k=1∨k=2∨k=3∨k=4∨k=5∨k=6∨k=7∨k=8∨k=9∨k=10∨k=11∨k=12∨k=13∨k=14:=by omega
 clear k1 k14
 rcases hk with rfl|rfl|rfl|rfl|rfl|rfl|rfl|rfl|rfl|rfl|rfl|rfl|rfl|rfl
 all_goals simp [Ll] at e1 e2 e3 e4 hn
 ·subst e1 e2 e3 e4;exact .control
 ·subst e2 e3 e4;obtain ⟨j,rfl⟩:∃j:Nat,n=j:=⟨n.toNat,by omega⟩;exact .rZ j (by omega) (by omega)
 ·subst e2 e3 e4;obtain ⟨j,rfl⟩:∃j:Nat,n=j:=⟨n.toNat,by omega⟩;exact .zW j (by omega) (by omega)
 ·subst e1 e2 e4;exact .Ku s hn
 ·subst e1 e2 e4;exact .Kv s hn
 ·subst e2 e3 e4;obtain ⟨j,rfl⟩:∃j:Nat,n=j:=⟨n.toNat,by omega⟩;exact .vX j (by omega)
 ·subst e2 e3 e4;obtain ⟨j,rfl⟩:∃j:Nat,n=j:=⟨n.toNat,by omega⟩;exact .vY j (by omega) (by omega)
 ·subst e2 e3 e4;obtain ⟨j,rfl⟩:∃j:Nat,n=j:=⟨n.toNat,by omega⟩;exact .keys8 j (by omega) (by omega)
 ·subst e2 e3 e4;obtain ⟨j,rfl⟩:∃j:Nat,n=j:=⟨n.toNat,by omega⟩;exact .DK j (by omega) (by omega)
 ·subst e1 e2 e3 e4;exact .blank
 ·subst e1 e2 e3;exact .count f hn
 ·subst e3 e4;exact .DZ n m (by omega) (by omega) (by omega) (by omega)
 ·subst e3 e4;exact .Dt n m (by omega) (by omega) (by omega) (by omega)
 ·subst e1 e2 e3 e4;exact .switch
theorem DN {r:Md} (h:iL r=false):cu r=[]:=if_neg (by rw [h];decide)
theorem Jw {s:Str} {r:Md} (h:iJ s=some r):iL r=true∧cu r=s:=by
 unfold iJ at h
 split at h
 ·rename_i hh;injection h with h;subst h;exact hh
 ·cases h
def iK:Str:=[44,32]
def fQ:Bool→Str→Str→List Str
 |_,cur,[]=>[cur]
 |true,cur,_::r=>fQ false cur r
 |false,cur,c::r=>if c=44∧r.head?=some 32 then cur::fQ true [] r else fQ false (cur++[c]) r
def jV (s:Str):List Str:=fQ false [] s
theorem Je (cur r:Str):fQ false cur (44::32::r)=cur::fQ false [] r:=by
 rw [fQ,if_pos ⟨rfl,rfl⟩,fQ]
theorem wW (c:UInt8) (cur r:Str) (h:¬(c=44∧r.head?=some 32)):fQ false cur (c::r)=fQ false (cur++[c]) r:=by
 rw [fQ,if_neg h]
theorem FT:∀(s cur:Str) (b:Bool),fQ b cur s≠[]
 |[],cur,b=>by cases b<;>simp [fQ]
 |c::r,cur,true=>by rw [fQ];exact FT r cur false
 |c::r,cur,false=>by
  rw [fQ];split
  ·simp
  ·exact FT r _ false
theorem Gj:∀(n:Nat) (s cur:Str),s.length≤n→Lib.join (fQ false cur s) iK=cur++s
 |_,[],cur,_=>by rw [fQ,Lib.join_one,List.append_nil]
 |0,c::r,cur,h=>by simp at h
 |n+1,c::r,cur,h=>by
  by_cases hc:c=44∧r.head?=some 32
  ·obtain ⟨rfl,hr⟩:=hc
   cases r with
   |nil=>cases hr
   |cons d r=>
    obtain rfl:d=32:=by simpa using hr
    rw [Je]
    have ih:=Gj n r [] (by simp at h ⊢;omega)
    cases hl:fQ false [] r with
    |nil=>exact absurd hl (FT r [] false)
    |cons b l=>rw [hl] at ih;rw [fA,ih];simp [iK]
  ·rw [wW _ _ _ hc,Gj n r _ (by simp at h ⊢;omega)];simp
theorem ZH (s:Str):Lib.join (jV s) iK=s:=by unfold jV;rw [Gj s.length s [] (Nat.le_refl _)];rfl
theorem asi:∀(s cur:Str) (b:Bool),(fQ b cur s).length≤s.length+1
 |[],cur,b=>by cases b<;>simp [fQ]
 |c::r,cur,true=>by rw [fQ];have:=asi r cur false;simp;omega
 |c::r,cur,false=>by
  rw [fQ];split
  ·have:=asi r [] true;simp;omega
  ·have:=asi r (cur++[c]) false;simp;omega
theorem Dz:∀(s cur:Str) (b:Bool),∀x∈fQ b cur s,x.length≤cur.length+s.length
 |[],cur,b,x,h=>by cases b<;>(simp [fQ] at h;subst h;simp)
 |c::r,cur,true,x,h=>by rw [fQ] at h;have:=Dz r cur false x h;simp;omega
 |c::r,cur,false,x,h=>by
  rw [fQ] at h
  split at h
  ·rcases List.mem_cons.1 h with rfl|h
   ·simp
   ·have:=Dz r [] true x h;simp at this ⊢;omega
  ·have:=Dz r _ false x h;simp at this ⊢;omega
def eH (l:List Md):Str:=if l≠[]∧l.length≤6∧l.all iL=true then Lib.join (l.map cu) iK else []
def jS:List Md→List Str→Option (List Md)
 |out,[]=>some out
 |out,p::r=>match iJ p with
  |none=>none
  |some m=>if out.length=6 then none else jS (out++[m]) r
def fF (s:Str):Option (List Md):=jS [] (jV s)
theorem PN:∀(ps:List Str) (out l:List Md),jS out ps=some l→out.length≤6→out.all iL=true→l.all iL=true∧l.length≤6∧l.map cu=out.map cu++ps
 |[],out,l,h,h6,ha=>by
  rw [jS] at h;injection h with h;subst h;exact ⟨ha,h6,by simp⟩
 |p::r,out,l,h,h6,ha=>by
  rw [jS] at h
  cases hp:iJ p with
  |none=>rw [hp] at h;cases h
  |some m=>
   rw [hp] at h
   simp only at h
   split at h
   ·cases h
   ·obtain ⟨i,t⟩:=Jw hp
    have ih:=PN r _ l h (by simp;omega) (by simp only [List.all_append,ha,Bool.true_and,List.all_cons,i,List.all_nil,Bool.and_self])
    refine ⟨ih.1,ih.2.1,?_⟩
    rw [ih.2.2,List.map_append,List.append_assoc]
    simp [t]
theorem tY {s:Str} {l:List Md} (h:fF s=some l):l≠[]∧l.length≤6∧l.all iL=true∧eH l=s:=by
 unfold fF at h
 obtain ⟨a,b,c⟩:=PN _ _ _ h (by simp) rfl
 simp only [List.map_nil,List.nil_append] at c
 have hne:l≠[]:=fun e=>by
  subst e
  exact FT s [] false c.symm
 refine ⟨hne,b,a,?_⟩
 unfold eH
 rw [if_pos ⟨hne,b,a⟩,c,ZH]
theorem Dl {P:Program} {ops:Array Oper} {rest:List Oper} {o:Oper} {a:Act} {w:World} {Q:Exit→Act→World→Prop} (hw:Region.wanted o (yielded ops a.tmps)=true) (ty:TypeId) (x:Operand) (ho:o.op= .load ty x)
 (g off:Nat) (hx:a.eval x= .pointer (some ⟨g,off,none⟩)) (t:TypeId) (cs ds:Array Value) (fr:Nat × Nat) (d:TypeDesc) (hg:w.heap[g]? =some (.cells cs t fr)) (hp:∀j v,ds[j]? =some v→cs[off+j]? =some v)
 (hu:P.underlying ty=some d) (hd:d.isRow=true) (hi:(P.info? ty).map (·.size)=some ds.size)
 (h:wpList P ops Q rest (a.put o.dst (.agg ds)) w):wpList P ops Q (o::rest) a w:=by
 unfold wpList
 rw [if_pos hw]
 refine .inl (wp_load_mid ty x ho g off hx ds.toList d ?_ hu hd (by simpa using hi) (by simpa using h))
 intro j v hv
 rw [cell_of_row w g (off+j) cs t fr hg]
 exact hp j v (by simpa using hv)
theorem SH {P:Program} {ops:Array Oper} {rest:List Oper} {o:Oper} {a:Act} {w:World} {Q:Exit→Act→World→Prop} (hw:Region.wanted o (yielded ops a.tmps)=false):wpList P ops Q (o::rest) a w=wpList P ops Q rest (a.put o.dst undef) w:=by
 conv=>lhs;unfold wpList
 rw [if_neg (by rw [hw];simp)]
theorem gI:(Tryz.prog.info? 3).map (·.size)=some 1:=by kernel_rfl
theorem Tryz.fieldsF:Tryz.prog.underlying 25=some (.struct (Tryz.prog.fieldsOf 25)):=by kernel_rfl
theorem Tryz.stoodF:Tryz.prog.stoodInHeld 25=false:=by kernel_rfl
theorem Zf (c:Int):(dw c).length≤6:=by
 unfold dw;split
 ·decide
 split
 ·decide
 split
 ·decide
 ·decide
def Wq:Array Value:=(uT.map fun x=>Value.string (B x)).toArray
structure bZ (w:World):Prop where
 base:Laid w
 cnts:∃ty fr,w.heap[(1:Nat)]? =some (.cells Wq ty fr)
theorem bZ.below {w w':World} (h:bZ w) (hb:Below w.heap.size w w'):bZ w':=⟨h.base.below hb,by
 obtain ⟨ty,fr,hv⟩:=h.cnts
 exact ⟨ty,fr,aaD hb hv⟩⟩
theorem bZ.alloc {w:World} (h:bZ w) (o:Obj):bZ (w.alloc o):=h.below ((Below.refl _ _).alloc (Nat.le_refl _) _)
theorem bZ.cnt {w:World} (h:bZ w) {k:Nat} (hk:k<3):w.cell? ⟨(1:Nat),k,none⟩=some (.string (B (wd uT k))):=by
 obtain ⟨ty,fr,hv⟩:=h.cnts
 rw [cell_of_row _ _ k _ _ _ hv]
 have hl:k<uT.length:=hk
 simp [Wq,wd,List.getD,hl]
theorem LG (c:Int) (w:World) (hl:bZ w):Calls Tryz.prog 75 #[.int .i64 c] w fun e w'=>e= .returned (.string (B (dw c)))∧w=w':=by
 have q0:=hl.cnt (k:=0) (by omega)
 have q1:=hl.cnt (k:=1) (by omega)
 have q2:=hl.cnt (k:=2) (by omega)
 by_cases h0:c=0
 ·subst h0
  go_enter Tryz.func75,Tryz.ntmps75
  go_wp2
  go_ret
  exact ⟨rfl,rfl⟩
 by_cases h1:c=1
 ·subst h1
  go_enter Tryz.func75,Tryz.ntmps75
  go_wp2
  go_ret
  exact ⟨rfl,rfl⟩
 by_cases h2:c=2
 ·subst h2
  go_enter Tryz.func75,Tryz.ntmps75
  go_wp2
  go_ret
  exact ⟨rfl,rfl⟩
 ·have HR:Hid (dw c=[]):=Lib.hid (by unfold dw;rw [if_neg h0,if_neg h1,if_neg h2])
  have hc:c<0∨(0≤c∧3≤c):=by omega
  clear h0 h1 h2
  generalize dw c=R at *
  rcases hc with hc|⟨hc,hd⟩
  all_goals
   go_enter Tryz.func75,Tryz.ntmps75
   go_wp2
   go_ret
   exact ⟨dV (by rw [HR.out];rfl),rfl⟩
theorem Oz (c:Int) (R:ByteArray) (h:Hid (B (dw c)=R)) (w:World) (hl:bZ w):Calls Tryz.prog 75 #[.int .i64 c] w fun e w'=>e= .returned (.string R)∧w=w':=
 (LG c w hl).mono fun e w' h'=>⟨by rw [h'.1,h.out],h'.2⟩
def VH (o:Option Nat):Int:=match o with|some k=>(k:Int)|none=> -1
theorem Wp (s:ByteArray) (w:World) (hl:bZ w):
 Calls Tryz.prog 283 #[.slice (some ⟨(1:Nat),0,none⟩) 3 3, .string s] w fun e w'=>e= .returned (.int .i64 (VH (jF (L s))))∧w=w':=by
 obtain ⟨R,hR⟩:∃R,jF (L s)=R:=⟨_,rfl⟩
 rw [hR]
 have HR:Hid (((List.range' 0 3).find? fun k=>wd uT k==L s)=R):=Lib.hid hR
 clear hR
 go_enter Tryz.func283,Tryz.ntmps283
 go_wp2
 go_loop [8] (fun kv=>∃k:Nat,k≤3∧kv= .int .i64 k∧Hid (((List.range' k (3 - k)).find? fun k=>wd uT k==L s)=R)) (fun kv=>3 - (intOf kv).toNat)
 case atStart=>exact ⟨0,by omega,rfl,HR⟩
 case round=>
  obtain ⟨k,hk,rfl,HD⟩:=hrel
  by_cases hlt:k<3
  ·have hk3:(k:Int)<3:=by omega
   have q:=hl.cnt hlt
   have hst:=HD.out
   rw [show 3 - k=(3 - (k+1))+1 by omega,List.range'_succ,List.find?_cons] at hst
   generalize wd uT k=x at *
   by_cases he:L s=x
   ·have te:(s.toList==x)=true:=dP he
    have HN:Hid (some k=R):=Lib.hid (by rw [←hst,show (x==L s)=true by simpa using he.symm])
    clear hst he
    go_wp2
    go_ret
    exact ⟨jg (by rw [←HN.out];rfl),rfl⟩
   ·have te:(s.toList==x)=false:=aU he
    have HN:Hid (((List.range' (k+1) (3 - (k+1))).find? fun k=>wd uT k==L s)=R):=Lib.hid (by rw [←hst,show (x==L s)=false by simpa using fun e=>he e.symm])
    clear hst he
    go_wp2
    go_round
    case rel=>exact ⟨k+1,by omega,by go_num,HN⟩
    case measure=>simp [intOf];omega
  ·obtain rfl:k=3:=by omega
   have HN:Hid (none=R):=Lib.hid (by rw [←HD.out];rfl)
   go_wp2
   go_ret
   exact ⟨jg (by rw [←HN.out];rfl),rfl⟩
theorem Oy (s:ByteArray) (n:Int) (b:Bool) (h:Hid ((((jF (L s)).getD 0:Nat):Int)=n∧(jF (L s)).isSome=b)) (w:World) (hl:bZ w):
 Calls Tryz.prog 240 #[.string s] w fun e w'=>e= .returned (.tuple #[.int .i64 n, .bool b])∧w=w':=by
 obtain ⟨o,ho⟩:∃o,jF (L s)=o:=⟨_,rfl⟩
 have HC:∀wx,bZ wx→Calls Tryz.prog 283 #[.slice (some ⟨(1:Nat),0,none⟩) 3 3, .string s] wx fun e w'=>e= .returned (.int .i64 (VH o))∧wx=w':=fun wx hlx=>by rw [←ho];exact Wp s wx hlx
 obtain ⟨h1,h2⟩:=h.out
 rw [ho] at h1 h2
 have HCH:=Lib.hid HC
 cases o with
 |none=>
  have HN:Hid ((0:Int)=n∧false=b):=Lib.hid ⟨h1,h2⟩
  clear h h1 h2 ho HC
  go_enter Tryz.func240,Tryz.ntmps240
  go_wp2_with (go_at_call 283;(with_reducible refine (HCH.out _ hl).mono ?_);rintro e w1 ⟨rfl,rfl⟩;dsimp only [VH])
  go_ret2
  exact ⟨ret_val (by rw [←HN.out.1,←HN.out.2];try rfl),rfl⟩
 |some k=>
  have HN:Hid ((k:Int)=n∧true=b):=Lib.hid ⟨h1,h2⟩
  have hk0:(0:Int)≤(k:Int):=by omega
  clear h h1 h2 ho HC
  go_enter Tryz.func240,Tryz.ntmps240
  go_wp2_with (go_at_call 283;(with_reducible refine (HCH.out _ hl).mono ?_);rintro e w1 ⟨rfl,rfl⟩;dsimp only [VH])
  go_ret2
  exact ⟨ret_val (by rw [←HN.out.1,←HN.out.2];try simp),rfl⟩
theorem ah (a:Act) (v:Value):a.put none v=a:=rfl
theorem ak (l:Array Value) (d:List Deferred) (i:Nat) (v:Value):Act.put ⟨l,d⟩ (some i) v=⟨l.setIfInBounds i v,d⟩:=rfl
theorem au (l:List Value) (i:Nat) (v:Value):l.toArray.setIfInBounds i v=(l.set i v).toArray:=by simp
theorem ay (a b:Value) (l:List Value):(a::l).set 0 b=b::l:=rfl
theorem aA (a b:Value) (l:List Value) (n:Nat):(a::l).set (n+1) b=a::l.set n b:=rfl
abbrev Row:=Nat × Array Value × Nat
structure St (L:World→Prop) (w0:World) (rows:List Row) (w:World):Prop where
 base:L w0
 keeps:∀w1 w2:World,L w1→Below w1.heap.size w1 w2→L w2
 below:Below w0.heap.size w0 w
 has:∀x∈rows,w.heap[x.1]? =some (.cells x.2.1 x.2.2 (0,0))∧w0.heap.size≤x.1
 apart:(rows.map (·.1)).Nodup
inductive cZ (g:Nat) (cs:Array Value) (T:Nat):List Row→Prop
 |head {r} :cZ g cs T ((g,cs,T)::r)
 |tail {x r} :cZ g cs T r→cZ g cs T (x::r)
inductive jq (g:Nat) (cs new:Array Value) (T:Nat):List Row→List Row→Prop
 |head {r} :jq g cs new T ((g,cs,T)::r) ((g,new,T)::r)
 |tail {x r r'} :jq g cs new T r r'→jq g cs new T (x::r) (x::r')
theorem cZ.mem {g cs T r} (h:cZ g cs T r):(g,cs,T)∈r:=by
 induction h with
 |head=>exact .head _
 |tail _ ih=>exact .tail _ ih
theorem jq.mem {g cs new T r r'} (h:jq g cs new T r r'):(g,cs,T)∈r:=by
 induction h with
 |head=>exact .head _
 |tail _ ih=>exact .tail _ ih
theorem jq.keys {g cs new T r r'} (h:jq g cs new T r r'):r'.map (·.1)=r.map (·.1):=by
 induction h with
 |head=>rfl
 |tail _ ih=>simp [ih]
theorem jq.cases {g cs new T r r'} (h:jq g cs new T r r') (hn:(r.map (·.1)).Nodup):∀x∈r',x=(g,new,T)∨(x∈r∧x.1≠g):=by
 induction h with
 | @head r=>
   intro x hx
   rcases List.mem_cons.1 hx with rfl|hx
   ·exact .inl rfl
   ·refine .inr ⟨.tail _ hx,?_⟩
    intro e
    simp only [List.map_cons,List.nodup_cons] at hn
    exact hn.1 (by rw [←e];exact List.mem_map.2 ⟨x,hx,rfl⟩)
 | @tail y r r' hs ih=>
   intro x hx
   simp only [List.map_cons,List.nodup_cons] at hn
   rcases List.mem_cons.1 hx with rfl|hx
   ·refine .inr ⟨.head _,?_⟩
    intro e
    exact hn.1 (by rw [e];exact List.mem_map.2 ⟨_,hs.mem,rfl⟩)
   ·rcases ih hn.2 x hx with h|⟨h1,h2⟩
    ·exact .inl h
    ·exact .inr ⟨.tail _ h1,h2⟩
section
variable {L:World→Prop} {w0 w:World} {rows:List Row}
theorem St.start (hl:L w) (hk:∀w1 w2:World,L w1→Below w1.heap.size w1 w2→L w2):St L w [] w:=⟨hl,hk,Below.refl _ _,by simp,by simp⟩
theorem St.laid (h:St L w0 rows w):L w:=h.keeps _ _ h.base h.below
theorem St.row (h:St L w0 rows w) {g cs T} (m:cZ g cs T rows):w.heap[g]? =some (.cells cs T (0,0)):=(h.has _ m.mem).1
theorem St.mono (h:St L w0 rows w) {w':World} (hb:Below w.heap.size w w'):St L w0 rows w':=
 ⟨h.base,h.keeps,aaC h.below hb,fun x hx=>⟨aaD hb (h.has x hx).1,(h.has x hx).2⟩,h.apart⟩
theorem St.drew (h:St L w0 rows w):St L w0 rows w.drew:=h.mono (Below.refl _ _).drew
theorem St.alloc (h:St L w0 rows w) (cs:Array Value) (T:Nat):St L w0 ((w.heap.size,cs,T)::rows) (w.alloc (.cells cs T)):=by
 have h':=h.mono ((Below.refl _ w).alloc (Nat.le_refl _) (.cells cs T))
 refine ⟨h'.base,h'.keeps,h'.below,?_,?_⟩
 ·intro x hx
  rcases List.mem_cons.1 hx with rfl|hx
  ·exact ⟨heap_alloc_new w _,h.below.size⟩
  ·exact h'.has x hx
 ·simp only [List.map_cons,List.nodup_cons]
  refine ⟨?_,h.apart⟩
  intro hm
  obtain ⟨x,hx,e⟩:=List.mem_map.1 hm
  have:=(Array.getElem?_eq_some_iff.1 (h.has x hx).1).1
  omega
theorem St.set (h:St L w0 rows w) {g cs new T rows'} (m:jq g cs new T rows rows'):St L w0 rows' (w.setRow g new):=by
 obtain ⟨hg,ho⟩:=h.has _ m.mem
 refine ⟨h.base,h.keeps,below_setRow h.below ho new,?_,by rw [m.keys];exact h.apart⟩
 intro x hx
 rcases m.cases h.apart x hx with rfl|⟨h1,h2⟩
 ·exact ⟨oV hg,ho⟩
 ·exact ⟨(setRow_other w g x.1 new h2).trans (h.has x h1).1,(h.has x h1).2⟩
theorem St.call (h:St L w0 rows w) {k:Nat} {args:Array Value} {v:Value} (hc:L w→Calls Tryz.prog k args w fun e w'=>e= .returned v∧Below w.heap.size w w'):Calls Tryz.prog k args w fun e w'=>e= .returned v∧St L w0 rows w':=
 (hc h.laid).mono fun _ _ ⟨he,hb⟩=>⟨he,h.mono hb⟩
theorem St.still (h:St L w0 rows w) {k:Nat} {args:Array Value} {v:Value} (hc:L w→Calls Tryz.prog k args w fun e w'=>e= .returned v∧w=w'):Calls Tryz.prog k args w fun e w'=>e= .returned v∧St L w0 rows w':=
 (hc h.laid).mono fun _ _ ⟨he,hb⟩=>⟨he,hb ▸ h⟩
theorem St.jE (h:St L w0 rows w) {k:Nat} {args:Array Value} {v v':Value} (hc:L w→Calls Tryz.prog k args w fun e w'=>e= .returned v∧Below w.heap.size w w') (hv:v=v'):Calls Tryz.prog k args w fun e w'=>e= .returned v'∧St L w0 rows w':=hv ▸ h.call hc
theorem St.Kt (h:St L w0 rows w) {k:Nat} {args:Array Value} {v v':Value} (hc:L w→Calls Tryz.prog k args w fun e w'=>e= .returned v∧w=w') (hv:v=v'):Calls Tryz.prog k args w fun e w'=>e= .returned v'∧St L w0 rows w':=hv ▸ h.still hc
variable {ops:Array Oper} {rest:List Oper} {o:Oper} {a:Act} {Q:Exit→Act→World→Prop}
theorem iZ {b:Bool} (j:Nat) (want:Bool) (hg:o.guard=some (j,want)) (hy:yielded ops a.tmps j=some b)
 (h1:b=true→wpList Tryz.prog ops Q (o::rest) a w) (h2:b=false→wpList Tryz.prog ops Q (o::rest) a w):wpList Tryz.prog ops Q (o::rest) a w:=by
 cases b
 ·exact h2 rfl
 ·exact h1 rfl
theorem aB (h:wpList Tryz.prog ops Q (o::rest) a w):wpList Tryz.prog ops Q (o::rest) a w:=h
variable {dst:Option Tmp} {ty:TypeId} {pos:String} {af:Array Edge} {gd:Option (Nat × Bool)}
theorem bI {T:Nat} {x:Operand} (h:wpList Tryz.prog ops Q ((⟨dst, .box T x,ty,pos,af,gd⟩:Oper)::rest) a w):wpList Tryz.prog ops Q ((⟨dst, .box T x,ty,pos,af,gd⟩:Oper)::rest) a w:=h
theorem aW {T:Nat} (h:wpList Tryz.prog ops Q ((⟨dst, .alloc T,ty,pos,af,gd⟩:Oper)::rest) a w):wpList Tryz.prog ops Q ((⟨dst, .alloc T,ty,pos,af,gd⟩:Oper)::rest) a w:=h
theorem ahy {T:Nat} {ps:Array (Nat × Operand)} (h:wpList Tryz.prog ops Q ((⟨dst, .build T ps,ty,pos,af,gd⟩:Oper)::rest) a w):wpList Tryz.prog ops Q ((⟨dst, .build T ps,ty,pos,af,gd⟩:Oper)::rest) a w:=h
theorem aC {T:Nat} {x:Operand} (h:wpList Tryz.prog ops Q ((⟨dst, .load T x,ty,pos,af,gd⟩:Oper)::rest) a w):wpList Tryz.prog ops Q ((⟨dst, .load T x,ty,pos,af,gd⟩:Oper)::rest) a w:=h
theorem aN {T:Nat} {x y:Operand} (h:wpList Tryz.prog ops Q ((⟨dst, .store T x y,ty,pos,af,gd⟩:Oper)::rest) a w):wpList Tryz.prog ops Q ((⟨dst, .store T x y,ty,pos,af,gd⟩:Oper)::rest) a w:=h
theorem bG {op:Op} {g:Nat × Bool} (h:wpList Tryz.prog ops Q ((⟨dst,op,ty,pos,af,some g⟩:Oper)::rest) a w):wpList Tryz.prog ops Q ((⟨dst,op,ty,pos,af,some g⟩:Oper)::rest) a w:=h
theorem l9 {x:Operand} {c d:Code} (h:(Code.cond x c d).wp Tryz.prog Q a w):(Code.cond x c d).wp Tryz.prog Q a w:=h
theorem aS (hw:Region.wanted o (yielded ops a.tmps)=false) (h:wpList Tryz.prog ops Q rest (a.put o.dst undef) w):wpList Tryz.prog ops Q (o::rest) a w:=by
 rw [SH hw];exact h
theorem fJ (hw:Region.wanted o (yielded ops a.tmps)=true) (h:wpList Tryz.prog ops Q (o::rest) a w):wpList Tryz.prog ops Q (o::rest) a w:=h
theorem jc (hw:Region.wanted o (yielded ops a.tmps)=true) (h:∀K:Act→World→Prop,(∀a w,wpList Tryz.prog ops Q rest a w→K a w)→o.wp Tryz.prog a w K Q):wpList Tryz.prog ops Q (o::rest) a w:=by
 unfold wpList
 rw [if_pos hw]
 exact .inl (h _ fun _ _ h=>h)
theorem aG {T:Nat} {x:Operand} (ho:o.op= .box T x) (hS:St L w0 rows w) (hw:Region.wanted o (yielded ops a.tmps)=true) {cs:Array Value} (hx:a.eval x= .agg cs)
 (h:∀g w',St L w0 ((g,cs,T)::rows) w'→wpList Tryz.prog ops Q rest (a.put o.dst (.pointer (some ⟨g,0,none⟩))) w'):wpList Tryz.prog ops Q (o::rest) a w:=
 jc hw fun K hK=>by
  unfold Oper.wp execOp
  simp only [ho,hx,Instr.box,newVar,newRow,Value.cells]
  exact hK _ _ (h _ _ (hS.alloc cs T))
theorem SG {T:Nat} {x:Operand} (ho:o.op= .box T x) (hS:St L w0 rows w) (hw:Region.wanted o (yielded ops a.tmps)=true) {v:Value} (hx:a.eval x=v) (hv:v.oneCell'=true)
 (h:∀g w',St L w0 ((g,#[v],T)::rows) w'→wpList Tryz.prog ops Q rest (a.put o.dst (.pointer (some ⟨g,0,none⟩))) w'):wpList Tryz.prog ops Q (o::rest) a w:=
 jc hw fun K hK=>by
  have hc:v.cells= #[v]:=by cases v<;>first|rfl|simp [Value.oneCell'] at hv
  unfold Oper.wp execOp
  simp only [ho,hx,Instr.box,newVar,newRow,hc]
  exact hK _ _ (h _ _ (hS.alloc #[v] T))
theorem aJ (T:Nat) (ho:o.op= .alloc T) (hS:St L w0 rows w) (hw:Region.wanted o (yielded ops a.tmps)=true) (cs:Array Value) (hz:∀w,(zeroValue T).run Tryz.prog w= .ok (.agg cs) w)
 (h:∀g w',St L w0 ((g,cs,T)::rows) w'→wpList Tryz.prog ops Q rest (a.put o.dst (.pointer (some ⟨g,0,none⟩))) w'):wpList Tryz.prog ops Q (o::rest) a w:=
 jc hw fun K hK=>by
  unfold Oper.wp execOp
  simp only [ho,Instr.alloc,newVar,newRow,Sem.run_bind,hz,Result.andThen_ok,Value.cells]
  exact hK _ _ (h _ _ (hS.alloc cs T))
theorem gQ {T:Nat} {l:List (Nat × Operand)} (ho:o.op= .build T l.toArray) (hw:Region.wanted o (yielded ops a.tmps)=true) {ps:List (Nat × Value)} (hp:l.map (fun p=>(p.1,a.eval p.2))=ps) {v:Value} (hv:∀w,(Instr.build T ps.toArray).run Tryz.prog w= .ok v w)
 (h:wpList Tryz.prog ops Q rest (a.put o.dst v) w):wpList Tryz.prog ops Q (o::rest) a w:=
 jc hw fun K hK=>by
  unfold Oper.wp execOp
  have e:(l.toArray.map fun p=>(p.1,a.eval p.2))=ps.toArray:=by rw [List.map_toArray,hp]
  simp only [ho,Sem.run_bind,e,hv,Sem.run_pure,Result.andThen_ok]
  exact hK _ _ h
theorem mM (T:Nat) {x:Operand} (ho:o.op= .load T x) (hS:St L w0 rows w) (hw:Region.wanted o (yielded ops a.tmps)=true) {g:Nat} (hx:a.eval x= .pointer (some ⟨g,0,none⟩)) {cs:Array Value} {T':Nat} (hm:cZ g cs T' rows)
 {d:TypeDesc} (hu:Tryz.prog.underlying T=some d) (hd:d.isRow=true) (hi:(Tryz.prog.info? T).map (·.size)=some cs.size)
 (h:wpList Tryz.prog ops Q rest (a.put o.dst (.agg cs)) w):wpList Tryz.prog ops Q (o::rest) a w:=
 Dl hw T x ho g 0 hx T' cs cs (0,0) d (hS.row hm) (fun j v hj=>by simpa using hj) hu hd hi h
theorem ny (T:Nat) {x:Operand} (ho:o.op= .load T x) (hS:St L w0 rows w) (hw:Region.wanted o (yielded ops a.tmps)=true) {g:Nat} (off:Nat) (hx:a.eval x= .pointer (some ⟨g,off,none⟩)) {cs ds:Array Value} {T':Nat} (hm:cZ g cs T' rows)
 (hp:∀j v,ds[j]? =some v→cs[off+j]? =some v) {d:TypeDesc} (hu:Tryz.prog.underlying T=some d) (hd:d.isRow=true) (hi:(Tryz.prog.info? T).map (·.size)=some ds.size)
 (h:wpList Tryz.prog ops Q rest (a.put o.dst (.agg ds)) w):wpList Tryz.prog ops Q (o::rest) a w:=
 Dl hw T x ho g off hx T' cs ds (0,0) d (hS.row hm) hp hu hd hi h
theorem gB (hS:St L w0 rows w) {T:Nat} {x:Operand} (ho:o.op= .load T x) {g off:Nat} (hx:a.eval x= .pointer (some ⟨g,off,none⟩)) {cs:Array Value} {T':Nat} (hm:cZ g cs T' rows)
 (hT:∃d,Tryz.prog.underlying T=some d∧d.isRow=false) {v:Value} (hv:cs[off]? =some v):(execOp a.eval o).run Tryz.prog w= .ok (.value v) w:=by
 obtain ⟨d,hu,hd⟩:=hT
 have hagg:(isAgg T).run Tryz.prog w= .ok false w:=by
  unfold isAgg
  rw [Sem.run_bind,run_underlying hu w]
  cases d<;>simp_all
 have hc:w.cell? ⟨g,off,none⟩=some v:=(cell_of_row w g off cs T' (0,0) (hS.row hm)).trans hv
 have hl:(loadVar T ⟨g,off,none⟩).run Tryz.prog w= .ok v w:=by simp [loadVar,Sem.run_bind,hagg,hc]
 unfold execOp
 simp only [ho,hx,Instr.loadAt,Instr.sureAddr,Sem.run_bind,Sem.run_pure,Result.andThen_ok,hl]
theorem kF (hS:St L w0 rows w) {T:Nat} {x:Operand} (ho:o.op= .load T x) {g off:Nat} (hx:a.eval x= .pointer (some ⟨g,off,none⟩)) {cs ds:Array Value} {T':Nat} (hm:cZ g cs T' rows)
 (hp:∀j v,ds[j]? =some v→cs[off+j]? =some v) {d:TypeDesc} (hu:Tryz.prog.underlying T=some d) (hd:d.isRow=true) (hi:(Tryz.prog.info? T).map (·.size)=some ds.size):(execOp a.eval o).run Tryz.prog w= .ok (.value (.agg ds)) w:=by
 have hr:w.rangeAt g off ds.toList:=fun j v hv=>by
  rw [cell_of_row w g (off+j) cs T' (0,0) (hS.row hm)]
  exact hp j v (by simpa using hv)
 have hl:=run_loadVar_mid (P:=Tryz.prog) w g off T ds.toList d hr hu hd (by simpa using hi)
 unfold execOp
 simp only [ho,hx,Instr.loadAt,Instr.sureAddr,Sem.run_bind,Sem.run_pure,Result.andThen_ok,hl,Array.toArray_toList]
theorem aQ {T:Nat} {x:Operand} (ho:o.op= .load T x) (hS:St L w0 rows w) (hw:Region.wanted o (yielded ops a.tmps)=true) {g off:Nat} (hx:a.eval x= .pointer (some ⟨g,off,none⟩)) {cs:Array Value} {T':Nat} (hm:cZ g cs T' rows)
 (hT:∃d,Tryz.prog.underlying T=some d∧d.isRow=false) {v:Value} (hv:cs[off]? =some v)
 (h:wpList Tryz.prog ops Q rest (a.put o.dst v) w):wpList Tryz.prog ops Q (o::rest) a w:=
 jc hw fun K hK=>by
  unfold Oper.wp
  rw [gB hS ho hx hm hT hv]
  exact hK _ _ h
theorem ag1 (hS:St L w0 rows w) {T:Nat} {g off:Nat} {cs new:Array Value} {T':Nat} {rows'} (hm:jq g cs new T' rows rows') (v:Value) (hfit:off+v.cells.size≤cs.size)
 (hnew:cs.toList.take off++v.cells.toList++cs.toList.drop (off+v.cells.size)=new.toList) (hi:(Tryz.prog.info? T).map (·.size)=some v.cells.size) (h1:v.cells.all (·.oneCell')=true):
 ∃w',(storeVar T ⟨g,off,none⟩ v).run Tryz.prog w= .ok () w'∧St L w0 rows' w':=by
 refine ⟨w.setRow g new,?_,hS.set hm⟩
 have hst:=run_storeCells_at Tryz.prog g off T' v.cells.toList 0 cs w (hS.has _ hm.mem).1 (by simpa using hfit) (fun u hu=>(Array.all_eq_true_iff_forall_mem.1 h1) u (by simpa using hu))
 have e:(cs.toList.take (off+0)++v.cells.toList++cs.toList.drop (off+0+v.cells.toList.length)).toArray=new:=by
  rw [Nat.add_zero,Array.length_toList,hnew]
 rw [e] at hst
 cases hq:Tryz.prog.info? T with
 |none=>simp [hq] at hi
 |some i=>
  have hs:v.cells.size=i.size:=by simp [hq] at hi;omega
  simp [storeVar,sizeOf,typeInfo,hq,hs,hst]
theorem bF {T:Nat} {x y:Operand} (ho:o.op= .store T x y) (hS:St L w0 rows w) (hw:Region.wanted o (yielded ops a.tmps)=true) {g off:Nat} (hx:a.eval x= .pointer (some ⟨g,off,none⟩)) {v:Value} (hy:a.eval y=v)
 {cs new:Array Value} {T':Nat} {rows'} (hm:jq g cs new T' rows rows') (hfit:off+v.cells.size≤cs.size)
 (hnew:cs.toList.take off++v.cells.toList++cs.toList.drop (off+v.cells.size)=new.toList) (hi:(Tryz.prog.info? T).map (·.size)=some v.cells.size) (h1:v.cells.all (·.oneCell')=true)
 (h:∀w',St L w0 rows' w'→wpList Tryz.prog ops Q rest (a.put o.dst undef) w'):wpList Tryz.prog ops Q (o::rest) a w:=
 jc hw fun K hK=>by
  obtain ⟨w',hs,hS'⟩:=ag1 hS hm v hfit hnew hi h1
  unfold Oper.wp execOp
  simp only [ho,hx,hy,Instr.storeAt,Instr.sureAddr,Sem.run_bind,Sem.run_pure,Result.andThen_ok,hs]
  exact hK _ _ (h _ hS')
theorem St.result (hS:St L w0 rows w) {fn:Func} {p:Tmp} {T:Nat} (hf:fn.results= #[.cell p T]) {g:Nat} (hp:a.tmps.getD p undef= .pointer (some ⟨g,0,none⟩)) {cs:Array Value} {T':Nat} (hm:cZ g cs T' rows)
 {d:TypeDesc} (hu:Tryz.prog.underlying T=some d) (hd:d.isRow=true) (hi:(Tryz.prog.info? T).map (·.size)=some cs.size) (hdef:a.defers=[]) {R:Ending→World→Prop} (hR:Below w0.heap.size w0 w→R (.returned (.agg cs)) w):bodyPost Tryz.prog fn R .ret a w:=
 bodyPost_ret (results_cell_row hf a.tmps w g T' cs (0,0) d hp (hS.row hm) hu (by cases d<;>first|rfl|exact hd) hi) hdef (hR hS.below)
theorem kW {X:Type} {f:X→Array Value} {x y:X} (h:x=y):Ending.returned (.agg (f x))= .returned (.agg (f y)):=by rw [h]
end
end Go.Proofs.YtdicgggkdmkklaaGreatDoor
namespace Go.Proofs.YtdicgggkdmkklaaGreatDoor
theorem Tryz.follows_mixed:Tryz.prog.follows .mixedOrders=true:=by kernel_rfl
section
variable {P:Program} {ops:Array Oper} {Q:Exit→Act→World→Prop} {md:Region.Mode} {S:World→Prop}
def Yld (P:Program) (S:World→Prop) (v:Value):Result Next→Prop
 | .ok (.value u) w'=>u=v∧S w'
 | .ok .skip w'=>v=undef∧S w'
 | .ok (.enter f args) w'=>Calls P f args w' fun e w''=>e= .returned v∧S w''
 |_=>False
theorem Yld.upon {o:Oper} {a:Act} {v:Value} {r:Result Next} {next:Act→World→Prop} (h:Yld P S v r) (hn:∀w',S w'→next (a.put o.dst v) w'):o.upon P a next Q r:=by
 cases r with
 |halt x w'=>exact h.elim
 |ok n w'=>
  cases n with
  |value u=>obtain ⟨rfl,hs⟩:=h;exact hn _ hs
  |skip=>obtain ⟨rfl,hs⟩:=h;exact hn _ hs
  |enter f args=>
   refine Calls.mono (show Calls P f args w' _ from h) fun e w'' he=> ?_
   obtain ⟨rfl,hs⟩:=he
   exact hn _ hs
  |_=>exact h.elim
def zF (P:Program) (ops:Array Oper) (S:World→Prop) (o:Oper) (v:Value) (a:Act):Prop:=
 (Region.wanted o (yielded ops a.tmps)=true∧∀w,S w→Yld P S v ((execOp a.eval o).run P w))∨(Region.wanted o (yielded ops a.tmps)=false∧v=undef)
theorem zF.op {i:Nat} {o:Oper} {v:Value} {a:Act} (hi:ops[i]? =some o) (hy:zF P ops S o v a) {K:Act→World→Prop} {w:World} (hS:S w) (h:∀w',S w'→K (a.put o.dst v) w'):wpOp P ops Q i K a w:=by
 unfold Go.wpOp
 rw [hi]
 simp only
 rcases hy with ⟨hw,hv⟩|⟨hw,rfl⟩
 ·rw [if_pos hw];exact .inl ((hv w hS).upon h)
 ·rw [if_neg (by rw [hw];decide)];exact h w hS
theorem zF.same {o:Oper} {v:Value} {a a':Act} (hy:zF P ops S o v a) (he:execOp a'.eval o=execOp a.eval o) (hw:Region.wanted o (yielded ops a'.tmps)=Region.wanted o (yielded ops a.tmps)):zF P ops S o v a':=by
 rcases hy with ⟨h1,h2⟩|⟨h1,h2⟩
 ·exact .inl ⟨hw.trans h1,fun w hs=>by rw [he];exact h2 w hs⟩
 ·exact .inr ⟨hw.trans h1,h2⟩
theorem XJ {j:Nat} {oi oj:Oper} {v:Value} (hj:ops[j]? =some oj) (hap:oi.apart ops oj=true) (hsi:∀cs b,oi.op≠ .select cs b) (hsj:∀cs b,oj.op≠ .select cs b)
 (hQ:∀c a w,Q (.panic c) (a.put oi.dst v) w→Q (.panic c) a w) {K:Act→World→Prop} {a:Act} {w:World} (hy:zF P ops S oi v a) (h:wpOp P ops Q j K (a.put oi.dst v) w):
 wpOp P ops Q j (fun a' w'=>zF P ops S oi v a'∧K (a'.put oi.dst v) w') a w:=by
 obtain ⟨p1,p2,p3⟩:=Oper.apart_spec hap
 have kp:∀u,zF P ops S oi v (a.put oj.dst u):=fun u=>hy.same (execOp_put oi hsi a oj.dst u p3) (wanted_put oi a oj.dst u p3)
 have cm:∀u,(a.put oi.dst v).put oj.dst u=(a.put oj.dst u).put oi.dst v:=fun u=>Act.put_comm a v u p2
 have ex:execOp (a.put oi.dst v).eval oj=execOp a.eval oj:=execOp_put oj hsj a oi.dst v p1
 unfold wpOp at h ⊢
 rw [hj] at h ⊢
 simp only at h ⊢
 rw [wanted_put oj a oi.dst v p1] at h
 by_cases hw:Region.wanted oj (yielded ops a.tmps)=true
 ·rw [if_pos hw] at h ⊢
  rcases h with h|⟨h1,h2⟩
  ·left
   unfold Oper.wp at h ⊢
   rw [ex] at h
   revert h
   generalize (execOp a.eval oj).run P w=r
   intro h
   match r,h with
   | .ok (.value u) w',h=>exact ⟨kp u,by rw [←cm u];exact h⟩
   | .ok .skip w',h=>exact ⟨kp undef,by rw [←cm undef];exact h⟩
   | .ok (.defer d) w',h=>
     have h':K (({ a.put oi.dst v with defers:=d::(a.put oi.dst v).defers } :Act).put oj.dst undef) w':=h
     rw [Act.put_defers] at h'
     have hyd:zF P ops S oi v ({ a with defers:=d::a.defers } :Act):=hy.same rfl rfl
     refine ⟨hyd.same (execOp_put oi hsi _ oj.dst undef p3) (wanted_put oi _ oj.dst undef p3),?_⟩
     rw [←Act.put_comm _ v undef p2];exact h'
   | .ok (.enter f args) w',h=>
     refine Calls.mono (show Calls P f args w' _ from h) fun e w'' he=> ?_
     cases e with
     |returned u=>exact ⟨kp u,by rw [←cm u];exact he⟩
     |panicked c=>exact hQ _ _ _ he
     |outgrown=>exact he
   | .ok (.row row args) w',h=>exact Rows.mono (show Rows P row args w' _ from h) fun u w'' he=>⟨kp u,by rw [←cm u];exact he⟩
   | .halt (.panic u) w',h=>exact hQ _ _ _ h
  ·right
   refine ⟨?_,h2⟩
   unfold Oper.asks at h1 ⊢
   rw [ex] at h1;exact h1
 ·rw [if_neg hw] at h ⊢
  exact ⟨kp undef,by rw [←cm undef];exact h⟩
def wpAnyS (P:Program) (md:Region.Mode) (ops:Array Oper) (Q:Exit→Act→World→Prop) (S:World→Prop):Nat→Array Bool→Act→Prop
 |0,listed,a=>Region.ready md ops listed=[]∧∀w,S w→Q .normal a w
 |fuel+1,listed,a=>(Region.ready md ops listed=[]→∀w,S w→Q .normal a w)∧
  ∀i∈Region.ready md ops listed,∀w,S w→wpOp P ops Q i (fun a' w'=>S w'∧wpAnyS P md ops Q S fuel (listed.setIfInBounds i true) a') a w
theorem QE:∀(fuel:Nat) (listed:Array Bool) (a:Act) (w:World),S w→wpAnyS P md ops Q S fuel listed a→wpAny P md ops Q fuel listed a w
 |0,_,_,w,hs,h=>⟨h.1,h.2 w hs⟩
 |fuel+1,_,_,w,hs,h=>⟨fun e=>h.1 e w hs,fun i hi=>wpOp_mono (fun a' w' h'=>QE fuel _ a' w' h'.1 h'.2) (h.2 i hi w hs)⟩
theorem apG {i:Nat} {oi:Oper} {v:Value} (hi:ops[i]? =some oi) (hsel:∀(j:Nat) (o:Oper) cs b,ops[j]? =some o→o.op≠ .select cs b) (hQ:∀c a w,Q (.panic c) (a.put oi.dst v) w→Q (.panic c) a w):
 ∀(fuel:Nat) (listed:Array Bool) (a:Act),
  (∀j oj,ops[j]? =some oj→j≠i→listed.getD j true=false→(∀e∈oj.after,Region.binds md e=true→e.on≠i)→oi.apart ops oj=true)→
  i∈Region.ready md ops listed→zF P ops S oi v a→wpAnyS P md ops Q S fuel (listed.setIfInBounds i true) (a.put oi.dst v)→wpAnyS P md ops Q S (fuel+1) listed a:=by
 intro fuel
 induction fuel with
 |zero=>
  intro listed a _ hr hy H
  refine ⟨fun h=>(by rw [h] at hr;cases hr),fun j hj w hs=> ?_⟩
  by_cases e:j=i
  ·subst e;exact hy.op hi hs fun w' hs'=>⟨hs',H⟩
  ·have:=ready_mono hj e
   rw [H.1] at this
   cases this
 |succ fuel ih=>
  intro listed a hfree hr hy H
  refine ⟨fun h=>(by rw [h] at hr;cases hr),fun j hj w hs=> ?_⟩
  by_cases e:j=i
  ·subst e;exact hy.op hi hs fun w' hs'=>⟨hs',H⟩
  ·obtain ⟨hjn,oj,hoj,haft⟩:=mem_ready.1 hj
   have hno:∀x∈oj.after,Region.binds md x=true→x.on≠i:=fun x hx hb hq=>by
    have h1:=haft x hx hb
    have h0:=(mem_ready.1 hr).1
    rw [hq] at h1
    rcases Nat.lt_or_ge i listed.size with h'|h'
    ·simp [h'] at h0 h1;rw [h0] at h1;cases h1
    ·simp [Array.getElem?_eq_none h'] at h1
   have h2:=XJ hoj (hfree j oj hoj e hjn hno) (fun cs b=>hsel i oi cs b hi) (fun cs b=>hsel j oj cs b hoj) hQ hy (H.2 j (ready_mono hj e) w hs)
   refine wpOp_mono (fun a' w' h3=>⟨h3.2.1,ih (listed.setIfInBounds j true) a' ?_ (ready_mono hr (Ne.symm e)) h3.1 ?_⟩) h2
   ·intro k ok hk hki hun hn
    refine hfree k ok hk hki ?_ hn
    by_cases hjk:j=k
    ·subst hjk;exact hjn
    ·rw [getD_set_ne true hjk] at hun;exact hun
   ·rw [Array.setIfInBounds_comm _ _ e]
    exact h3.2.2
def Bj (md:Region.Mode) (ops:Array Oper):Nat→Nat→Array Bool→Bool
 |0,_,listed=>(Region.ready md ops listed).isEmpty
 |fuel+1,i,listed=>Region.free md ops listed i&&((Region.ready md ops listed).contains i&&Bj md ops fuel (i+1) (listed.setIfInBounds i true))
inductive iR (P:Program) (ops:Array Oper) (Q:Exit→Act→World→Prop) (S:World→Prop):List Oper→Act→Prop
 |nil {a} :(∀w,S w→Q .normal a w)→iR P ops Q S [] a
 |cons {o rest a} (v:Value):(∀c a w,Q (.panic c) (a.put o.dst v) w→Q (.panic c) a w)→zF P ops S o v a→iR P ops Q S rest (a.put o.dst v)→iR P ops Q S (o::rest) a
theorem Ot (hs:Region.noSelect ops=true):∀(l:List Oper) (i:Nat) (listed:Array Bool) (a:Act),(∀j,l[j]? =ops[i+j]?)→Bj md ops l.length i listed=true→iR P ops Q S l a→wpAnyS P md ops Q S l.length listed a
 |[],i,listed,a,_,ho,h=>by
  cases h with
  |nil h=>exact ⟨by simpa [Bj] using ho,h⟩
 |o::rest,i,listed,a,hl,ho,h=>by
  cases h with
  |cons v hQ hy h=>
   simp only [List.length_cons,Bj,Bool.and_eq_true] at ho
   obtain ⟨hf,hr,ho⟩:=ho
   have hi:ops[i]? =some o:=by simpa using (hl 0).symm
   have hl':∀j,rest[j]? =ops[i+1+j]? :=fun j=>by have:=hl (j+1);simpa [Nat.add_assoc,Nat.add_comm 1 j] using this
   exact apG hi (Region.noSelect_spec hs) hQ rest.length listed a (Region.free_spec hi hf) (by simpa using hr) hy (Ot hs rest (i+1) _ _ hl' ho h)
def lastOf (md:Region.Mode) (ops:Array Oper) (fin:Nat):Bool:=
 match ops[fin]? with
 |some o=>(List.range ops.size).all fun j=>j==fin || o.after.any fun e=>Region.binds md e&&e.on==j
 |none=>false
theorem axA {fin:Nat} (h:lastOf md ops fin=true) {listed:Array Bool} (hr:fin∈Region.ready md ops listed) {j:Nat} (hj:j<ops.size) (hne:j≠fin):listed.getD j true=true:=by
 obtain ⟨_,o,ho,hall⟩:=mem_ready.1 hr
 unfold lastOf at h
 rw [ho] at h
 have h1:=List.all_eq_true.1 h j (List.mem_range.2 hj)
 simp only [Bool.or_eq_true,beq_iff_eq,hne,false_or] at h1
 obtain ⟨k,hk,he⟩:=Array.any_eq_true.1 h1
 simp only [Bool.and_eq_true,beq_iff_eq] at he
 have h2:=hall _ (Array.getElem_mem hk) he.1
 rw [he.2] at h2
 rcases Nat.lt_or_ge j listed.size with h'|h'
 ·simpa [h'] using h2
 ·simp [Array.getElem?_eq_none h'] at h2
def auF (P:Program) (md:Region.Mode) (ops:Array Oper) (Q:Exit→Act→World→Prop) (S:World→Prop) (fin:Nat):Nat→Array Bool→Act→Prop
 |0,listed,a=>Region.ready md ops listed=[fin]∧Region.ready md ops (listed.setIfInBounds fin true)=[]∧∀w,S w→wpOp P ops Q fin (Q .normal) a w
 |fuel+1,listed,a=>Region.ready md ops listed≠[]∧∀i∈Region.ready md ops listed,∀w,S w→wpOp P ops Q i (fun a' w'=>S w'∧auF P md ops Q S fin fuel (listed.setIfInBounds i true) a') a w
theorem avU {fin:Nat} :∀(fuel:Nat) (listed:Array Bool) (a:Act) (w:World),S w→auF P md ops Q S fin fuel listed a→wpAny P md ops Q (fuel+1) listed a w
 |0,listed,a,w,hs,h=>by
  obtain ⟨h1,h2,h3⟩:=h
  refine ⟨fun e=>(by rw [h1] at e;cases e),fun i hi=> ?_⟩
  rw [h1] at hi
  obtain rfl:i=fin:=by simpa using hi
  exact wpOp_mono (fun a' w' hq=>⟨h2,hq⟩) (h3 w hs)
 |fuel+1,_,_,w,hs,h=>⟨fun e=>absurd e h.1,fun i hi=>wpOp_mono (fun a' w' h'=>avU fuel _ a' w' h'.1 h'.2) (h.2 i hi w hs)⟩
theorem aCR {fin i:Nat} {oi:Oper} {v:Value} (hl:lastOf md ops fin=true) (hif:i≠fin) (hi:ops[i]? =some oi) (hsel:∀(j:Nat) (o:Oper) cs b,ops[j]? =some o→o.op≠ .select cs b) (hQ:∀c a w,Q (.panic c) (a.put oi.dst v) w→Q (.panic c) a w):
 ∀(fuel:Nat) (listed:Array Bool) (a:Act),
  (∀j oj,ops[j]? =some oj→j≠i→listed.getD j true=false→(∀e∈oj.after,Region.binds md e=true→e.on≠i)→oi.apart ops oj=true)→
  i∈Region.ready md ops listed→zF P ops S oi v a→auF P md ops Q S fin fuel (listed.setIfInBounds i true) (a.put oi.dst v)→auF P md ops Q S fin (fuel+1) listed a:=by
 have hsz:i<ops.size:=by
  rcases Nat.lt_or_ge i ops.size with h|h
  ·exact h
  ·rw [Array.getElem?_eq_none h] at hi;cases hi
 intro fuel
 induction fuel with
 |zero=>
  intro listed a _ hr hy H
  refine ⟨fun h=>(by rw [h] at hr;cases hr),fun j hj w hs=> ?_⟩
  by_cases e:j=i
  ·subst e;exact hy.op hi hs fun w' hs'=>⟨hs',H⟩
  ·have h1:=ready_mono hj e
   rw [H.1] at h1
   obtain rfl:j=fin:=by simpa using h1
   have h2:=axA hl hj hsz hif
   have h3:=(mem_ready.1 hr).1
   rw [h2] at h3;cases h3
 |succ fuel ih=>
  intro listed a hfree hr hy H
  refine ⟨fun h=>(by rw [h] at hr;cases hr),fun j hj w hs=> ?_⟩
  by_cases e:j=i
  ·subst e;exact hy.op hi hs fun w' hs'=>⟨hs',H⟩
  ·obtain ⟨hjn,oj,hoj,haft⟩:=mem_ready.1 hj
   have hno:∀x∈oj.after,Region.binds md x=true→x.on≠i:=fun x hx hb hq=>by
    have h1:=haft x hx hb
    have h0:=(mem_ready.1 hr).1
    rw [hq] at h1
    rcases Nat.lt_or_ge i listed.size with h'|h'
    ·simp [h'] at h0 h1;rw [h0] at h1;cases h1
    ·simp [Array.getElem?_eq_none h'] at h1
   have h2:=XJ hoj (hfree j oj hoj e hjn hno) (fun cs b=>hsel i oi cs b hi) (fun cs b=>hsel j oj cs b hoj) hQ hy (H.2 j (ready_mono hj e) w hs)
   refine wpOp_mono (fun a' w' h3=>⟨h3.2.1,ih (listed.setIfInBounds j true) a' ?_ (ready_mono hr (Ne.symm e)) h3.1 ?_⟩) h2
   ·intro k ok hk hki hun hn
    refine hfree k ok hk hki ?_ hn
    by_cases hjk:j=k
    ·subst hjk;exact hjn
    ·rw [getD_set_ne true hjk] at hun;exact hun
   ·rw [Array.setIfInBounds_comm _ _ e]
    exact h3.2.2
def aq4 (md:Region.Mode) (ops:Array Oper) (fin:Nat):Nat→Nat→Array Bool→Bool
 |0,_,listed=>(Region.ready md ops listed==[fin])&&(Region.ready md ops (listed.setIfInBounds fin true)).isEmpty
 |fuel+1,i,listed=>Region.free md ops listed i&&((Region.ready md ops listed).contains i&&(i != fin&&aq4 md ops fin fuel (i+1) (listed.setIfInBounds i true)))
inductive RunT (P:Program) (ops:Array Oper) (Q:Exit→Act→World→Prop) (S:World→Prop):List Oper→Act→Prop
 |fin {o a} :(∀w,S w→wpList P ops Q [o] a w)→RunT P ops Q S [o] a
 |cons {o o' rest a} (v:Value):(∀c a w,Q (.panic c) (a.put o.dst v) w→Q (.panic c) a w)→zF P ops S o v a→RunT P ops Q S (o'::rest) (a.put o.dst v)→RunT P ops Q S (o::o'::rest) a
theorem au8 (hs:Region.noSelect ops=true) {fin:Nat} (hlast:lastOf md ops fin=true):∀(n:Nat) (l:List Oper) (i:Nat) (listed:Array Bool) (a:Act),l.length=n+1→i+n=fin→(∀j,l[j]? =ops[i+j]?)→aq4 md ops fin n i listed=true→RunT P ops Q S l a→auF P md ops Q S fin n listed a
 |0,l,i,listed,a,hn,hf,hl,ho,h=>by
  simp only [aq4,Bool.and_eq_true,beq_iff_eq,List.isEmpty_iff] at ho
  refine ⟨ho.1,ho.2,fun w hw=> ?_⟩
  cases h with
  | @fin o _ h=>
    have hi:ops[fin]? =some o:=by have:=hl 0;rw [←hf];simpa using this.symm
    have h1:=h w hw
    unfold wpOp
    rw [hi]
    simp only
    unfold wpList at h1
    exact h1
  |cons v hQ hy h=>simp at hn
 |n+1,l,i,listed,a,hn,hf,hl,ho,h=>by
  cases h with
  |fin h=>simp at hn
  | @cons o o' rest _ v hQ hy h=>
    simp only [aq4,Bool.and_eq_true,bne_iff_ne,ne_eq] at ho
    obtain ⟨hfr,hr,hne,ho⟩:=ho
    have hi:ops[i]? =some o:=by simpa using (hl 0).symm
    have hl':∀j,(o'::rest)[j]? =ops[i+1+j]? :=fun j=>by have:=hl (j+1);simpa [Nat.add_assoc,Nat.add_comm 1 j] using this
    exact aCR hlast hne hi (Region.noSelect_spec hs) hQ n listed a (Region.free_spec hi hfr) (by simpa using hr) hy (au8 hs hlast n (o'::rest) (i+1) _ _ (by simpa using hn) (by omega) hl' ho h)
theorem axL {id:Nat} {a:Act} {w:World} {l:List Oper} (n:Nat) (hn:l.length=n+1) (hm:P.follows .mixedOrders=true) (hs:Region.noSelect l.toArray=true) (hlast:lastOf .any l.toArray n=true) (ho:aq4 .any l.toArray n n 0 (Array.replicate (n+1) false)=true)
 (hS:S w) (hd:∀w,S w→S w.drew) (h:RunT P l.toArray Q S l a):(Code.region id l.toArray true).wp P Q a w:=by
 have h1:=avU (P:=P) (md:= .any) (ops:=l.toArray) (Q:=Q) n (Array.replicate (n+1) false) a _ (hd _ hS) (au8 hs hlast n l 0 _ a hn (by omega) (fun j=>by simp) ho h)
 refine wp_region_any hm ?_
 have e:l.toArray.size=n+1:=by simpa using hn
 rw [e]
 exact h1
theorem aay {id:Nat} {a:Act} {w:World} {l:List Oper} (hm:P.follows .mixedOrders=true) (hs:Region.noSelect l.toArray=true) (ho:Bj .any l.toArray l.length 0 (Array.replicate l.length false)=true)
 (hS:S w) (hd:∀w,S w→S w.drew) (h:iR P l.toArray Q S l a):(Code.region id l.toArray true).wp P Q a w:=by
 refine wp_region_any hm (QE _ _ _ _ (hd _ hS) ?_)
 have:=Ot (md:= .any) hs l 0 (Array.replicate l.length false) a (fun j=>by simp) ho h
 simpa using this
end
section
variable {L:World→Prop} {w0 w:World} {rows:List Row} {ops:Array Oper} {Q:Exit→Act→World→Prop} {o:Oper} {rest:List Oper} {a:Act}
theorem bY {id:Nat} {l:List Oper} (hS:St L w0 rows w) (hs:Region.noSelect l.toArray=true) (ho:Bj .any l.toArray l.length 0 (Array.replicate l.length false)=true)
 (h:iR Tryz.prog l.toArray Q (St L w0 rows) l a):(Code.region id l.toArray true).wp Tryz.prog Q a w:=
 aay Tryz.follows_mixed hs ho hS (fun _ h=>h.drew) h
theorem adZ {id:Nat} {l:List Oper} (n:Nat) (hS:St L w0 rows w) (hn:l.length=n+1) (hs:Region.noSelect l.toArray=true) (hlast:lastOf .any l.toArray n=true) (ho:aq4 .any l.toArray n n 0 (Array.replicate (n+1) false)=true)
 (h:RunT Tryz.prog l.toArray Q (St L w0 rows) l a):(Code.region id l.toArray true).wp Tryz.prog Q a w:=
 axL n hn Tryz.follows_mixed hs hlast ho hS (fun _ h=>h.drew) h
theorem aeI {S:World→Prop} (h:∀w,S w→wpList Tryz.prog ops Q [o] a w):RunT Tryz.prog ops Q S [o] a:= .fin h
theorem aBR {v:Value} (hw:Region.wanted o (yielded ops a.tmps)=true) (hy:∀w,St L w0 rows w→(execOp a.eval o).run Tryz.prog w= .ok (.value v) w):zF Tryz.prog ops (St L w0 rows) o v a:=
 .inl ⟨hw,fun w hS=>by rw [hy w hS];exact ⟨rfl,hS⟩⟩
theorem aeD {o':Oper} {rest':List Oper} {v:Value} (hw:Region.wanted o (yielded ops a.tmps)=true) (hq:∀c a w,Q (.panic c) (a.put o.dst v) w→Q (.panic c) a w) (hy:∀w,St L w0 rows w→(execOp a.eval o).run Tryz.prog w= .ok (.value v) w)
 (h:RunT Tryz.prog ops Q (St L w0 rows) (o'::rest') (a.put o.dst v)):RunT Tryz.prog ops Q (St L w0 rows) (o::o'::rest') a:= .cons v hq (aBR hw hy) h
theorem aev (k:Nat) {o':Oper} {rest':List Oper} {args:Array Value} {v:Value} (hw:Region.wanted o (yielded ops a.tmps)=true) (hq:∀c a w,Q (.panic c) (a.put o.dst v) w→Q (.panic c) a w) (hy:∀w,(execOp a.eval o).run Tryz.prog w= .ok (.enter k args) w)
 (hc:∀w,St L w0 rows w→Calls Tryz.prog k args w fun e w'=>e= .returned v∧St L w0 rows w') (h:RunT Tryz.prog ops Q (St L w0 rows) (o'::rest') (a.put o.dst v)):RunT Tryz.prog ops Q (St L w0 rows) (o::o'::rest') a:=
 .cons v hq (.inl ⟨hw,fun w hS=>by rw [hy w];exact hc w hS⟩) h
theorem dS {P:Program} {S:World→Prop} (h:iR P ops Q S (o::rest) a):iR P ops Q S (o::rest) a:=h
theorem aT {P:Program} {id:Nat} {l:Array Oper} (h:(Code.region id l true).wp P Q a w):(Code.region id l true).wp P Q a w:=h
variable {dst:Option Tmp} {ty:TypeId} {pos:String} {af:Array Edge} {gd:Option (Nat × Bool)}
theorem gY {P:Program} {S:World→Prop} {T:Nat} {x:Operand} (h:iR P ops Q S ((⟨dst, .load T x,ty,pos,af,gd⟩:Oper)::rest) a):iR P ops Q S ((⟨dst, .load T x,ty,pos,af,gd⟩:Oper)::rest) a:=h
theorem iH {P:Program} {S:World→Prop} {c:Call} (h:iR P ops Q S ((⟨dst, .call c,ty,pos,af,gd⟩:Oper)::rest) a):iR P ops Q S ((⟨dst, .call c,ty,pos,af,gd⟩:Oper)::rest) a:=h
theorem afm {P:Program} {S:World→Prop} {o':Oper} {rest':List Oper} {T:Nat} {x:Operand} (h:RunT P ops Q S ((⟨dst, .load T x,ty,pos,af,gd⟩:Oper)::o'::rest') a):RunT P ops Q S ((⟨dst, .load T x,ty,pos,af,gd⟩:Oper)::o'::rest') a:=h
theorem afl {P:Program} {S:World→Prop} {o':Oper} {rest':List Oper} {c:Call} (h:RunT P ops Q S ((⟨dst, .call c,ty,pos,af,gd⟩:Oper)::o'::rest') a):RunT P ops Q S ((⟨dst, .call c,ty,pos,af,gd⟩:Oper)::o'::rest') a:=h
theorem ajM {P:Program} {S:World→Prop} {o':Oper} {rest':List Oper} (h:RunT P ops Q S (o::o'::rest') a):RunT P ops Q S (o::o'::rest') a:=h
theorem wK {P:Program} {S:World→Prop} {op:Op} {g:Nat × Bool} (h:iR P ops Q S ((⟨dst,op,ty,pos,af,some g⟩:Oper)::rest) a):iR P ops Q S ((⟨dst,op,ty,pos,af,some g⟩:Oper)::rest) a:=h
theorem fG {S:World→Prop} (h:∀w,S w→Q .normal a w):iR Tryz.prog ops Q S [] a:= .nil h
theorem uh {S:World→Prop} (hw:Region.wanted o (yielded ops a.tmps)=false) (hq:∀c a w,Q (.panic c) (a.put o.dst undef) w→Q (.panic c) a w) (h:iR Tryz.prog ops Q S rest (a.put o.dst undef)):iR Tryz.prog ops Q S (o::rest) a:=
 .cons undef hq (.inr ⟨hw,rfl⟩) h
theorem MX {S:World→Prop} (hw:Region.wanted o (yielded ops a.tmps)=true) (h:iR Tryz.prog ops Q S (o::rest) a):iR Tryz.prog ops Q S (o::rest) a:=h
theorem YF {S:World→Prop} {b:Bool} (j:Nat) (want:Bool) (hg:o.guard=some (j,want)) (hy:yielded ops a.tmps j=some b)
 (h1:b=true→iR Tryz.prog ops Q S (o::rest) a) (h2:b=false→iR Tryz.prog ops Q S (o::rest) a):iR Tryz.prog ops Q S (o::rest) a:=by
 cases b
 ·exact h2 rfl
 ·exact h1 rfl
theorem dn {v:Value} (hw:Region.wanted o (yielded ops a.tmps)=true) (hq:∀c a w,Q (.panic c) (a.put o.dst v) w→Q (.panic c) a w) (hy:∀w,St L w0 rows w→(execOp a.eval o).run Tryz.prog w= .ok (.value v) w)
 (h:iR Tryz.prog ops Q (St L w0 rows) rest (a.put o.dst v)):iR Tryz.prog ops Q (St L w0 rows) (o::rest) a:=
 .cons v hq (.inl ⟨hw,fun w hS=>by rw [hy w hS];exact ⟨rfl,hS⟩⟩) h
theorem eu (k:Nat) {args:Array Value} {v:Value} (hw:Region.wanted o (yielded ops a.tmps)=true) (hq:∀c a w,Q (.panic c) (a.put o.dst v) w→Q (.panic c) a w) (hy:∀w,(execOp a.eval o).run Tryz.prog w= .ok (.enter k args) w)
 (hc:∀w,St L w0 rows w→Calls Tryz.prog k args w fun e w'=>e= .returned v∧St L w0 rows w') (h:iR Tryz.prog ops Q (St L w0 rows) rest (a.put o.dst v)):iR Tryz.prog ops Q (St L w0 rows) (o::rest) a:=
 .cons v hq (.inl ⟨hw,fun w hS=>by rw [hy w];exact hc w hS⟩) h
end
end Go.Proofs.YtdicgggkdmkklaaGreatDoor
namespace Go.Proofs.YtdicgggkdmkklaaGreatDoor
def aqt (o:Oper):Bool:=o.guard.isSome || match o.op with
 | .box .. =>true
 | .alloc .. =>true
 | .build .. =>true
 | .buildSlice .. =>true
 | .load .. =>true
 | .store .. =>true
 | .call .. =>true
 | .binOp .add 9 _ _ _=>true
 | .binOp .eql T _ _ _=>T != 3&&(T != 9&&T != 4)
 | .binOp .neq T _ _ _=>T != 3&&(T != 9&&T != 4)
 |_=>false
theorem aF {P:Program} {ops:Array Oper} {Q:Exit→Act→World→Prop} {o:Oper} {rest:List Oper} {a:Act} {w:World} (_:aqt o=true) (h:wpList P ops Q (o::rest) a w):wpList P ops Q (o::rest) a w:=h
end Go.Proofs.YtdicgggkdmkklaaGreatDoor
namespace Go.Proofs.YtdicgggkdmkklaaGreatDoor
open Go.ChangeShapes Go.WideShapes Go.RowKit
def look:List Value→Nat→Option Value
 |[],_=>none
 |x::_,0=>some x
 |_::l,n+1=>look l n
theorem Rt:∀(l:List Value) (n:Nat),look l n=l[n]?
 |[],n=>by simp [look]
 |x::l,0=>rfl
 |x::l,n+1=>by simp [look,Rt l n]
class Part (cs:Array Value) (off T:Nat) (ds:outParam (Array Value)):Prop where
 at_:∀j v,ds[j]? =some v→cs[off+j]? =some v
 row:∃d,Tryz.prog.underlying T=some d∧d.isRow=true
 size:(Tryz.prog.info? T).map (·.size)=some ds.size
class VX (T:Nat) (cs:outParam (Array Value)):Prop where
 z:∀w,(zeroValue T).run Tryz.prog w= .ok (.agg cs) w
class Put (cs:Array Value) (off T:Nat) (v:Value) (new:outParam (Array Value)):Prop where
 fit:off+v.cells.size≤cs.size
 new:cs.toList.take off++v.cells.toList++cs.toList.drop (off+v.cells.size)=new.toList
 info:(Tryz.prog.info? T).map (·.size)=some v.cells.size
 one:v.cells.all (·.oneCell')=true
class Sub (L L':World→Prop):Prop where
 sub:∀w,L w→L' w
instance {L:World→Prop} :Sub L L:=⟨fun _ h=>h⟩
class mG (k:Nat) (args:Array Value) (L:World→Prop) (v:outParam Value):Prop where
 c:∀w,L w→Calls Tryz.prog k args w fun e w'=>e= .returned v∧Below w.heap.size w w'
section
variable {L:World→Prop} {w0 w:World} {rows:List Row} {ops:Array Oper} {rest:List Oper} {o:Oper} {a a':Act} {Q:Exit→Act→World→Prop}
theorem apP (hw:Region.wanted o (yielded ops a.tmps)=false) (ha:a.put o.dst undef=a') (h:wpList Tryz.prog ops Q rest a' w):wpList Tryz.prog ops Q (o::rest) a w:=by subst ha;exact aS hw h
theorem apN {T:Nat} {x:Operand} (ho:o.op= .load T x) (hS:St L w0 rows w) (hw:Region.wanted o (yielded ops a.tmps)=true) {g off:Nat} (hx:a.eval x= .pointer (some ⟨g,off,none⟩)) {cs:Array Value} {T':Nat} (hm:cZ g cs T' rows)
 {d:TypeDesc} (hd:Tryz.prog.underlying T=some d) (hr:d.isRow=false) {v:Value} (hv:look cs.toList off=some v) (ha:a.put o.dst v=a') (h:wpList Tryz.prog ops Q rest a' w):wpList Tryz.prog ops Q (o::rest) a w:=by
 subst ha;exact aQ ho hS hw hx hm ⟨d,hd,hr⟩ (by rw [Rt] at hv;simpa using hv) h
theorem apO {T:Nat} {x:Operand} (ho:o.op= .load T x) (hS:St L w0 rows w) (hw:Region.wanted o (yielded ops a.tmps)=true) {g off:Nat} (hx:a.eval x= .pointer (some ⟨g,off,none⟩)) {cs ds:Array Value} {T':Nat} (hm:cZ g cs T' rows)
 (hp:Part cs off T ds) (ha:a.put o.dst (.agg ds)=a') (h:wpList Tryz.prog ops Q rest a' w):wpList Tryz.prog ops Q (o::rest) a w:=by
 subst ha;obtain ⟨d,hu,hd⟩:=hp.row;exact ny T ho hS hw off hx hm hp.at_ hu hd hp.size h
theorem aqI {T:Nat} {x:Operand} (ho:o.op= .box T x) (hS:St L w0 rows w) (hw:Region.wanted o (yielded ops a.tmps)=true) {cs:Array Value} (hx:a.eval x= .agg cs)
 (h:∀g w',St L w0 ((g,cs,T)::rows) w'→wpList Tryz.prog ops Q rest (a.put o.dst (.pointer (some ⟨g,0,none⟩))) w'):wpList Tryz.prog ops Q (o::rest) a w:=aG ho hS hw hx h
theorem aqJ {T:Nat} (ho:o.op= .alloc T) (hS:St L w0 rows w) (hw:Region.wanted o (yielded ops a.tmps)=true) {cs:Array Value} (hz:VX T cs)
 (h:∀g w',St L w0 ((g,cs,T)::rows) w'→wpList Tryz.prog ops Q rest (a.put o.dst (.pointer (some ⟨g,0,none⟩))) w'):wpList Tryz.prog ops Q (o::rest) a w:=aJ T ho hS hw cs hz.z h
theorem u_call {k:Nat} {args:Array Value} {v:Value} {R:Ending→World→Prop} (hS:St L w0 rows w) (hc:mG k args L v) (h:∀w',St L w0 rows w'→R (.returned v) w'):Calls Tryz.prog k args w R:=
 (hS.call (hc.c w)).mono fun e w' ⟨he,h'⟩=>by subst he;exact h w' h'
theorem c_call {k:Nat} {args:Array Value} {v:Value} {R:Ending→World→Prop} (hc:L w→Calls Tryz.prog k args w fun e w'=>e= .returned v∧Below w.heap.size w w') (hS:St L w0 rows w) (h:∀w',St L w0 rows w'→R (.returned v) w'):Calls Tryz.prog k args w R:=
 (hS.call hc).mono fun e w' ⟨he,h'⟩=>by subst he;exact h w' h'
theorem akH {k:Nat} {args:Array Value} {v:Value} {R:Ending→World→Prop} (hc:Calls Tryz.prog k args w fun e w'=>e= .returned v∧w=w') (h:R (.returned v) w):Calls Tryz.prog k args w R:=
 hc.mono fun e w' ⟨he,h'⟩=>by subst he;subst h';exact h
end
section
variable {L:World→Prop} {w0 w:World} {rows:List Row} {ops:Array Oper} {rest:List Oper} {o:Oper} {a a':Act} {Q:Exit→Act→World→Prop}
inductive Ev (a:Act) (y:Operand):Value→Prop
 |i {k n} (h:a.eval y= .int k n):Ev a y (.int k n)
 |a {c} (h:a.eval y= .agg c):Ev a y (.agg c)
 |s {s} (h:a.eval y= .string s):Ev a y (.string s)
 |b {b} (h:a.eval y= .bool b):Ev a y (.bool b)
 |l {p n c} (h:a.eval y= .slice p n c):Ev a y (.slice p n c)
theorem Ev.eq {y:Operand} {v:Value} (h:Ev a y v):a.eval y=v:=by cases h<;>assumption
inductive EvL (a:Act):List (Nat × Operand)→List (Nat × Value)→Prop
 |n:EvL a [] []
 |c {i y v l r} (h:Ev a y v) (t:EvL a l r):EvL a ((i,y)::l) ((i,v)::r)
theorem EvL.eq {l:List (Nat × Operand)} {r:List (Nat × Value)} (h:EvL a l r):l.map (fun p=>(p.1,a.eval p.2))=r:=by
 induction h with
 |n=>rfl
 |c h _ ih=>simp only [List.map_cons,h.eq,ih]
class Ob (T:Nat) (x y:Array Value) (b:outParam Bool):Prop where
 e:∀w,(binOp .eql T (.agg x) (.agg y)).run Tryz.prog w= .ok (.bool b) w
theorem Ob.ne {T:Nat} {x y:Array Value} {b:Bool} (h:Ob T x y b) (w:World):(binOp .neq T (.agg x) (.agg y)).run Tryz.prog w= .ok (.bool (!b)) w:=by
 have h:=h.e w
 rw [run_eql_struct] at h
 rw [run_neq_struct]
 generalize (Op.equalIn 10000 T (.agg x) (.agg y)).run Tryz.prog w=r at *
 cases r<;>simp_all [Result.andThen]
theorem amL {T:Nat} {x y:Operand} {ty:TypeId} (ho:o.op= .binOp .eql T x y ty) {u v:Array Value} (hx:a.eval x= .agg u) (hy:a.eval y= .agg v) (hg:Tryz.prog.eqGuardType Tryz.prog.depth T=false) {b:Bool} (he:Ob T u v b) (w:World):(execOp a.eval o).run Tryz.prog w= .ok (.value (.bool b)) w:=by
 unfold execOp
 have h:=he.e w
 simp only [ho,hx,hy]
 simp [eqGuard,Sem.run_bind,h,hg,run_program]
theorem ajh {T:Nat} {x y:Operand} {ty:TypeId} (ho:o.op= .binOp .neq T x y ty) {u v:Array Value} (hx:a.eval x= .agg u) (hy:a.eval y= .agg v) (hg:Tryz.prog.eqGuardType Tryz.prog.depth T=false) {b:Bool} (he:Ob T u v b) (w:World):(execOp a.eval o).run Tryz.prog w= .ok (.value (.bool (!b))) w:=by
 unfold execOp
 have h:=he.ne w
 simp only [ho,hx,hy]
 simp [eqGuard,Sem.run_bind,h,hg,run_program]
theorem adI {v:Value} (hw:Region.wanted o (yielded ops a.tmps)=true) (hr:∀w,(execOp a.eval o).run Tryz.prog w= .ok (.value v) w) (ha:a.put o.dst v=a') (h:wpList Tryz.prog ops Q rest a' w):wpList Tryz.prog ops Q (o::rest) a w:=by
 subst ha
 exact jc hw fun K hK=>by unfold Oper.wp;rw [hr w];exact hK _ _ h
class Ae (T:Nat) (ps:List (Nat × Value)) (v:outParam Value):Prop where
 b:∀w,(Instr.build T ps.toArray).run Tryz.prog w= .ok v w
theorem amU {T:Nat} {l:List (Nat × Operand)} (ho:o.op= .build T l.toArray) (hw:Region.wanted o (yielded ops a.tmps)=true) {ps:List (Nat × Value)} (hp:EvL a l ps) {v:Value} (hv:Ae T ps v) (ha:a.put o.dst v=a') (h:wpList Tryz.prog ops Q rest a' w):wpList Tryz.prog ops Q (o::rest) a w:=by
 subst ha;exact gQ ho hw hp.eq hv.b h
theorem amV {T:Nat} {x y:Operand} (ho:o.op= .store T x y) (hS:St L w0 rows w) (hw:Region.wanted o (yielded ops a.tmps)=true) {g off:Nat} (hx:a.eval x= .pointer (some ⟨g,off,none⟩)) {v:Value} (hy:Ev a y v)
 {cs new:Array Value} {T':Nat} {rows'} (hm:jq g cs new T' rows rows') (hp:Put cs off T v new) (ha:a.put o.dst undef=a') {aku:List Row} (hz:rows'=aku) (h:∀w',St L w0 aku w'→wpList Tryz.prog ops Q rest a' w'):wpList Tryz.prog ops Q (o::rest) a w:=by
 subst ha;subst hz;exact bF ho hS hw hx hy.eq hm hp.fit hp.new hp.info hp.one h
theorem apf {S:World→Prop} (hw:Region.wanted o (yielded ops a.tmps)=false) (hq:∀c a w,Q (.panic c) (a.put o.dst undef) w→Q (.panic c) a w) (ha:a.put o.dst undef=a') (h:iR Tryz.prog ops Q S rest a'):iR Tryz.prog ops Q S (o::rest) a:=by subst ha;exact uh hw hq h
theorem Qm {v:Value} (hw:Region.wanted o (yielded ops a.tmps)=true) (hy:∀w,St L w0 rows w→(execOp a.eval o).run Tryz.prog w= .ok (.value v) w) (hq:∀c a w,Q (.panic c) (a.put o.dst v) w→Q (.panic c) a w) (ha:a.put o.dst v=a')
 (h:iR Tryz.prog ops Q (St L w0 rows) rest a'):iR Tryz.prog ops Q (St L w0 rows) (o::rest) a:=by subst ha;exact dn hw hq hy h
theorem apd {T:Nat} {x:Operand} (ho:o.op= .load T x) {g off:Nat} (hx:a.eval x= .pointer (some ⟨g,off,none⟩)) {cs:Array Value} {T':Nat} (hm:cZ g cs T' rows) {d:TypeDesc} (hd:Tryz.prog.underlying T=some d) (hr:d.isRow=false) {v:Value} (hv:look cs.toList off=some v):
 ∀w,St L w0 rows w→(execOp a.eval o).run Tryz.prog w= .ok (.value v) w:=fun w hS=>gB hS ho hx hm ⟨d,hd,hr⟩ (by rw [Rt] at hv;simpa using hv)
theorem ape {T:Nat} {x:Operand} (ho:o.op= .load T x) {g off:Nat} (hx:a.eval x= .pointer (some ⟨g,off,none⟩)) {cs ds:Array Value} {T':Nat} (hm:cZ g cs T' rows) (hp:Part cs off T ds):
 ∀w,St L w0 rows w→(execOp a.eval o).run Tryz.prog w= .ok (.value (.agg ds)) w:=fun w hS=>by
 obtain ⟨d,hu,hd⟩:=hp.row;exact kF hS ho hx hm hp.at_ hu hd hp.size
theorem apc {k:Nat} {args:Array Value} {v:Value} (hw:Region.wanted o (yielded ops a.tmps)=true) (hy:∀w,(execOp a.eval o).run Tryz.prog w= .ok (.enter k args) w) (hc:mG k args L v) (hq:∀c a w,Q (.panic c) (a.put o.dst v) w→Q (.panic c) a w) (ha:a.put o.dst v=a')
 (h:iR Tryz.prog ops Q (St L w0 rows) rest a'):iR Tryz.prog ops Q (St L w0 rows) (o::rest) a:=by subst ha;exact eu k hw hq hy (fun w hS=>hS.call (hc.c w)) h
theorem Part.of {cs ds:Array Value} {off T n:Nat} (h:(cs.toList.drop off).take n=ds.toList) {d:TypeDesc} (hu:Tryz.prog.underlying T=some d) (hd:d.isRow=true) (hs:(Tryz.prog.info? T).map (·.size)=some ds.size):Part cs off T ds:=
 ⟨fun j v hj=>(by
  have h1:ds.toList[j]? =some v:=by simpa using hj
  rw [←h,List.getElem?_take] at h1
  split at h1
  ·simpa using h1
  ·cases h1),⟨d,hu,hd⟩,hs⟩
theorem Put.of {cs new:Array Value} {off T:Nat} {v:Value} (h:cs.toList.take off++v.cells.toList++cs.toList.drop (off+v.cells.size)=new.toList) (f:Nat.ble (off+v.cells.size) cs.size=true) (hi:(Tryz.prog.info? T).map (·.size)=some v.cells.size) (h1:v.cells.toList.all (·.oneCell')=true):Put cs off T v new:=
 ⟨Nat.le_of_ble_eq_true f,h,hi,by simpa using h1⟩
end
class Len (s:Str) (n:outParam Nat):Prop where
 le:s.length≤n
class ahu (l:List Str) (n:outParam Nat):Prop where
 le:∀x∈l,x.length≤n
instance {l:List Str} {n k:Nat} [h:ahu l n]:Len (l.getD k []) n:=⟨by
 rw [List.getD_eq_getElem?_getD]
 rcases Nat.lt_or_ge k l.length with hk|hk
 ·rw [List.getElem?_eq_getElem hk];exact h.le _ (List.getElem_mem hk)
 ·rw [List.getElem?_eq_none hk];exact Nat.zero_le _⟩
instance:Len [] 0:=⟨Nat.le_refl _⟩
instance {x:UInt8} {s:Str} {n:Nat} [h:Len s n]:Len (x::s) (n+1):=⟨Nat.succ_le_succ h.le⟩
instance {s t:Str} {m n:Nat} [h:Len s m] [k:Len t n]:Len (s++t) (m+n):=⟨by rw [List.length_append];exact Nat.add_le_add h.le k.le⟩
section
variable {L:World→Prop} {w0 w:World} {rows:List Row} {ops:Array Oper} {rest:List Oper} {o:Oper} {a a':Act} {Q:Exit→Act→World→Prop}
theorem YH {x y:Operand} {ty:TypeId} (ho:o.op= .binOp .add 9 x y ty) {p q:Str} (hx:a.eval x= .string (B p)) (hy:a.eval y= .string (B q)) {m n:Nat} (hp:Len p m) (hq:Len q n) (hb:Nat.ble (m+n) 9223372036854775807=true) (w:World):
 (execOp a.eval o).run Tryz.prog w= .ok (.value (.string (B (p++q)))) w:=by
 have h:=run_string_add_sum (P:=Tryz.prog) (w:=w) (B p) (B q) (by rw [bC,bC];exact Nat.le_trans (Nat.add_le_add hp.le hq.le) (Nat.le_of_ble_eq_true hb))
 rw [ru] at h
 unfold execOp
 simp only [ho,hx,hy]
 simp [go_sem,Tryz.underlying9,h,eqGuard]
end
theorem res1 {L:World→Prop} {w0 w:World} {rows:List Row} {a:Act} {fn:Func} {p:Tmp} {T g T':Nat} {cs:Array Value} {R:Ending→World→Prop} (hS:St L w0 rows w) (h:R (.returned (.agg cs)) w)
 (hf:fn.results= #[.cell p T]:=by exact rfl) (hp:a.tmps.getD p undef= .pointer (some ⟨g,0,none⟩):=by exact rfl) (hm:cZ g cs T' rows:=by repeat constructor) (hc:Part cs 0 T cs:=by infer_instance) (hd:a.defers=[]:=by exact rfl):bodyPost Tryz.prog fn R .ret a w:=by
 obtain ⟨d,hu,hr⟩:=hc.row
 exact St.result hS hf hp hm hu hr hc.size hd fun _=>h
theorem res2 {L:World→Prop} {w0 w:World} {rows:List Row} {a:Act} {fn:Func} {p q:Tmp} {T g T':Nat} {cs:Array Value} {v:Value} {R:Ending→World→Prop} (hS:St L w0 rows w) (h:R (.returned (.tuple #[.agg cs,v])) w)
 (hf:fn.results= #[.cell p T, .tmp q]:=by exact rfl) (hp:a.tmps.getD p undef= .pointer (some ⟨g,0,none⟩):=by exact rfl) (hq:Ev a (.tmp q) v:=by first|exact .i rfl|exact .b rfl|exact .s rfl|exact .l rfl|exact .a rfl) (hm:cZ g cs T' rows:=by repeat constructor) (hc:Part cs 0 T cs:=by infer_instance) (hd:a.defers=[]:=by exact rfl):bodyPost Tryz.prog fn R .ret a w:=by
 obtain ⟨d,hu,hr⟩:=hc.row
 exact bodyPost_ret ((gV hf a.tmps w g T' cs (0,0) d hp (hS.row hm) hu (by cases d<;>first|rfl|exact hr) hc.size).trans (by rw [show a.tmps.getD q undef=v from hq.eq])) hd h
theorem dL {p q:Str} (h:p=q):Ending.returned (.string (B p))= .returned (.string (B q)):=by rw [h]
theorem fin {P:Prop} (h:P:=by
 first
 |omega
 |(simp_all;done)
 |((repeat' split)<;>intros<;>first|omega|(simp_all;done)|(simp_all;omega))
 |(rw [Bool.eq_iff_iff];simp_all;done)
 |(rw [Bool.eq_iff_iff];simp_all;omega)):P:=h
section
variable {L:World→Prop} {w0 w:World} {rows:List Row}
theorem St.grow (h:St L w0 rows w) {w':World} (hb:Below w.heap.size w w') {g T:Nat} {cs:Array Value} (hg:w'.heap[g]? =some (.cells cs T (0,0))) (h1:w.heap.size≤g):St L w0 ((g,cs,T)::rows) w':=by
 have h':=h.mono hb
 refine ⟨h'.base,h'.keeps,h'.below,?_,?_⟩
 ·intro x hx
  rcases List.mem_cons.1 hx with rfl|hx
  ·exact ⟨hg,Nat.le_trans h.below.size h1⟩
  ·exact h'.has x hx
 ·simp only [List.map_cons,List.nodup_cons]
  refine ⟨?_,h'.apart⟩
  intro hm
  obtain ⟨x,hx,e⟩:=List.mem_map.1 hm
  have:=(Array.getElem?_eq_some_iff.1 (h.has x hx).1).1
  omega
def oZ (cur:Array Value) (l:List Str):Prop:=∀(k:Nat) (x:Str),l[k]? =some x→cur[k]? =some (Value.string (B x))
theorem St.words (h:St L w0 rows w) {w':World} {l:List Str} {A:Option Addr} {c:Nat} (ht:Texts w' w.heap.size l (.slice A l.length c)) (hb:Below w.heap.size w w') (hne:0<l.length):
 ∃g cur,A=some ⟨g,0,none⟩∧oZ cur l∧l.length≤c∧St L w0 ((g,cur,9)::rows) w':=by
 rcases ht.2 with ⟨_,h0⟩|⟨g,cap,cur,hv,hg,hh,hn,_,_,hx⟩
 ·omega
 ·injection hv with h1 h2 h3
  subst h1 h3
  refine ⟨g,cur,rfl,?_,hn,h.grow hb hh hg⟩
  intro k x hk
  have hlt:k<l.length:=by
   rcases Nat.lt_or_ge k l.length with h|h
   ·exact h
   ·rw [List.getElem?_eq_none h] at hk;cases hk
  have e:=congrArg (fun z=>z[k]?) hx
  simp only [Nat.mul_one,List.getElem?_take,hlt,if_true,Array.getElem?_toList] at e
  rw [e,sO hlt]
  rw [List.getElem?_eq_getElem hlt] at hk
  rw [Option.some.inj hk]
end
class ana (k:Nat) (args:Array Value) (L:World→Prop) (l:outParam (List Str)) (n:outParam Nat):Prop where
 c:∀w,L w→Calls Tryz.prog k args w (kR w l)
 len:l.length=n
 pos:0<n
theorem aqK {L:World→Prop} {w0 w:World} {rows:List Row} {k:Nat} {args:Array Value} {l:List Str} {n:Nat} {R:Ending→World→Prop} (hS:St L w0 rows w) (hc:ana k args L l n)
 (h:∀g cur c w',Hid (oZ cur l)→n≤c→St L w0 ((g,cur,9)::rows) w'→R (.returned (.slice (some ⟨g,0,none⟩) n c)) w'):Calls Tryz.prog k args w R:=
 (hc.c w hS.laid).mono fun e w' ⟨A,c,he,ht,hb⟩=>by
  obtain ⟨g,cur,hA,hh,hcw,hS'⟩:=hS.words ht hb (by rw [hc.len];exact hc.pos)
  subst he;subst hA;rw [hc.len] at hcw ⊢
  exact h g cur c w' hh hcw hS'
theorem alu {L:World→Prop} {w0 w:World} {rows:List Row} {cur:Array Value} {l:List Str} (hS:St L w0 rows w) {g:Nat} (hm:cZ g cur 9 rows) (HW:Hid (oZ cur l)) {k:Nat} (hk:k<l.length):w.cell? ⟨g,k,none⟩=some (.string (B (l.getD k []))):=by
 rw [cell_of_row w g k cur 9 (0,0) (hS.row hm)]
 exact HW.out k _ (by rw [List.getD_eq_getElem?_getD,List.getElem?_eq_getElem hk];rfl)
section
variable {L:World→Prop} {w0 w:World} {rows:List Row} {ops:Array Oper} {rest:List Oper} {o:Oper} {a a':Act} {Q:Exit→Act→World→Prop}
theorem agD {x:Operand} (ho:o.op= .load 9 x) {g k:Nat} (hx:a.eval x= .pointer (some ⟨g,k,none⟩)) {cur:Array Value} (hm:cZ g cur 9 rows) {l:List Str} (HW:Hid (oZ cur l)) (hk:k<l.length) (w:World) (hS:St L w0 rows w):
 (execOp a.eval o).run Tryz.prog w= .ok (.value (.string (B (l.getD k [])))) w:=by
 have hc:=alu hS hm HW hk
 have hagg:(isAgg 9).run Tryz.prog w= .ok false w:=by
  unfold isAgg
  rw [Sem.run_bind,run_underlying Tryz.underlying9 w]
  simp
 have hl:(loadVar 9 ⟨g,k,none⟩).run Tryz.prog w= .ok (.string (B (l.getD k []))) w:=by simp [loadVar,Sem.run_bind,hagg,hc]
 unfold execOp
 simp only [ho,hx,Instr.loadAt,Instr.sureAddr,Sem.run_bind,Sem.run_pure,Result.andThen_ok,hl]
theorem apQ {x:Operand} (ho:o.op= .load 9 x) (hS:St L w0 rows w) (hw:Region.wanted o (yielded ops a.tmps)=true) {g k:Nat} (hx:a.eval x= .pointer (some ⟨g,k,none⟩)) {cur:Array Value} (hm:cZ g cur 9 rows) {l:List Str} (HW:Hid (oZ cur l)) (hk:k<l.length)
 (ha:a.put o.dst (.string (B (l.getD k [])))=a') (h:wpList Tryz.prog ops Q rest a' w):wpList Tryz.prog ops Q (o::rest) a w:=by
 subst ha
 exact jc hw fun K hK=>by unfold Oper.wp;rw [agD ho hx hm HW hk w hS];exact hK _ _ h
end
theorem St.tail {L:World→Prop} {w0 w:World} {x:Row} {rows:List Row} (h:St L w0 (x::rows) w):St L w0 rows w:=
 ⟨h.base,h.keeps,h.below,fun y hy=>h.has y (.tail _ hy),by have:=h.apart;simp only [List.map_cons,List.nodup_cons] at this;exact this.2⟩
theorem St.Dj (w:World):St (fun _=>True) w [] w:= .start trivial fun _ _ _ _=>trivial
theorem iE {x y:Int} (h:(x==y)=true:=by assumption):x=y:=eq_of_beq h
theorem sE {x y:Str} (h:(x==y)=true:=by assumption):x=y:=eq_of_beq h
theorem s0 {G R:Prop} (k:R) (h:R→G:=by
 intro k
 first
 |((with_reducible refine aB ?_)
   refine aF rfl ?_
   first
   |exact apP rfl (by simp only [ah,ak,au,ay,aA];exact rfl) k
   |exact apO rfl hS rfl rfl (by repeat constructor) (by infer_instance) (by simp only [ah,ak,au,ay,aA];exact rfl) k
   |exact apQ rfl hS rfl rfl (by repeat constructor) (by assumption) (by first|decide|omega) (by simp only [ah,ak,au,ay,aA];exact rfl) k
   |exact apN rfl hS rfl rfl (by repeat constructor) rfl rfl rfl (by simp only [ah,ak,au,ay,aA];exact rfl) k
   |exact amU rfl rfl (by repeat (first|exact .n|(apply EvL.c;first|exact .i rfl|exact .a rfl|exact .s rfl|exact .b rfl|exact .l rfl))) (by infer_instance) (by simp only [ah,ak,au,ay,aA];exact rfl) k
   |exact adI rfl (YH (by rfl) (by rfl) (by rfl) (by infer_instance) (by infer_instance) (by rfl)) (by simp only [ah,ak,au,ay,aA];exact rfl) k
   |exact adI rfl (amL (by rfl) (by rfl) (by rfl) (by kernel_rfl) (by infer_instance)) (by simp only [ah,ak,au,ay,aA];exact rfl) k
   |exact adI rfl (ajh (by rfl) (by rfl) (by rfl) (by kernel_rfl) (by infer_instance)) (by simp only [ah,ak,au,ay,aA];exact rfl) k)
 |((with_reducible refine dS ?_)
   first
   |exact apf rfl (fun _ _ _ h=>h) (by simp only [ah,ak,au,ay,aA];exact rfl) k
   |exact Qm rfl (ape (by rfl) (by rfl) (by repeat constructor) (by infer_instance)) (fun _ _ _ h=>h) (by simp only [ah,ak,au,ay,aA];exact rfl) k
   |exact Qm rfl (agD (by rfl) (by rfl) (by repeat constructor) (by assumption) (by first|decide|omega)) (fun _ _ _ h=>h) (by simp only [ah,ak,au,ay,aA];exact rfl) k
   |exact Qm rfl (apd (by rfl) (by rfl) (by repeat constructor) (by rfl) (by rfl) (by exact rfl)) (fun _ _ _ h=>h) (by simp only [ah,ak,au,ay,aA];exact rfl) k
   |exact Qm rfl (fun w _=>YH (by rfl) (by rfl) (by rfl) (by infer_instance) (by infer_instance) (by rfl) w) (fun _ _ _ h=>h) (by simp only [ah,ak,au,ay,aA];exact rfl) k
   |exact apc rfl (by intro w;go_simp;first|with_reducible rfl|exact ⟨rfl,rfl⟩) (by infer_instance) (fun _ _ _ h=>h) (by simp only [ah,ak,au,ay,aA];exact rfl) k
   |exact Qm rfl (by intro w hS;go_simp;with_reducible rfl) (fun _ _ _ h=>h) (by simp only [ah,ak,au,ay,aA];exact rfl) k)
 |((with_reducible refine aT ?_);exact bY hS (by kernel_rfl) (by kernel_rfl) k)):G:=h k
theorem s1 {G R:Prop} (k:R) (h:R→G:=by
 intro k
 first
 |((with_reducible refine aB ?_);refine aF rfl ?_;exact amV rfl hS rfl rfl (by first|exact .i rfl|exact .a rfl|exact .s rfl|exact .b rfl|exact .l rfl) (by repeat constructor) (by infer_instance) (by simp only [ah,ak,au,ay,aA];exact rfl) (by first|(dsimp only;done)|(dsimp only;exact rfl)|exact rfl) k)
 |exact fG k
 |exact u_call hS (by infer_instance) k):G:=h k
theorem s2 {G R:Prop} (k:R) (h:R→G:=by
 intro k
 refine aF rfl ?_
 first
 |exact aqI rfl hS rfl rfl k
 |exact aqJ rfl hS rfl (by infer_instance) k):G:=h k
theorem s4 {G R:Prop} (k:R) (h:R→G:=by
 intro k
 exact aqK hS (by infer_instance) k):G:=h k
theorem s3 {G R1 R2:Prop} (k1:R1) (k2:R2) (h:R1→R2→G:=by
 intro k1 k2
 first
 |((with_reducible refine l9 ?_);refine wp_cond_split rfl (fun hb=> ?_) (fun hb=> ?_))
 |((with_reducible refine aB ?_);refine aF rfl ?_;(fail_if_success refine fJ rfl ?_);refine iZ _ _ rfl rfl (fun hb=> ?_) (fun hb=> ?_)<;>simp only [hb])
 |((with_reducible refine dS ?_);(fail_if_success refine MX rfl ?_);refine YF _ _ rfl rfl (fun hb=> ?_) (fun hb=> ?_)<;>simp only [hb])
 ·(try simp only [decide_eq_true_eq,beq_iff_eq,Bool.and_eq_true,Bool.or_eq_true] at hb);revert hb;exact k1
 ·(try simp only [decide_eq_false_iff_not,Bool.and_eq_false_iff,Bool.or_eq_false_iff] at hb);revert hb;exact k2):G:=h k1 k2
end Go.Proofs.YtdicgggkdmkklaaGreatDoor
namespace Go.Proofs.YtdicgggkdmkklaaGreatDoor
attribute [local irreducible] wpList Code.wp Calls
open Go.ChangeShapes Go.WideShapes Go.RowKit
theorem ano (who:Int):(X9 who).length≤9:=by
 unfold X9;repeat' split
 all_goals decide
instance {who:Int} :Len (X9 who) 9:=⟨ano who⟩
theorem axo {who:Int} :X9 who=[]↔ ¬(who=0∨who=1∨who=2):=by
 unfold X9
 repeat' split
 all_goals simp_all [wd,pwT]
theorem aeE (who:Int) (w:World):Calls Tryz.prog 80 #[.int .i64 who] w fun e w'=>e= .returned (.string (B (X9 who)))∧w=w':=by
 go_in
 go_wp2_with (have hq:=iE;subst hq)
 all_goals go_ret
 all_goals refine ⟨dL ?_,rfl⟩
 all_goals first|rfl|(simp_all [X9];done)
instance aFX {L:World→Prop} (who:Int):mG 80 #[.int .i64 who] L (.string (B (X9 who))):=⟨fun w _=>(aeE who w).mono fun _ _ h=>⟨h.1,h.2 ▸ Below.refl _ _⟩⟩
end Go.Proofs.YtdicgggkdmkklaaGreatDoor
namespace Go.Proofs.YtdicgggkdmkklaaGreatDoor
open Go.ChangeShapes Go.WideShapes Go.RowKit
theorem Xf:(Tryz.prog.info? 9).map (·.size)=some 1:=by kernel_rfl
theorem qZ:(Tryz.prog.info? 4).map (·.size)=some 1:=by kernel_rfl
theorem kJ:∃d,Tryz.prog.underlying 3=some d∧d.isRow=false:=⟨_,Tryz.underlying3,rfl⟩
theorem GY:∃d,Tryz.prog.underlying 9=some d∧d.isRow=false:=⟨_,Tryz.underlying9,rfl⟩
theorem rQ:∃d,Tryz.prog.underlying 4=some d∧d.isRow=false:=⟨_,Tryz.underlying4,rfl⟩
theorem Q9 (r:aH):r.cells.all (·.oneCell')=true:=by simp [aH.cells,Value.oneCell']
theorem vM:(Tryz.prog.info? 25).map (·.size)=some 16:=by kernel_rfl
theorem Q8:∀w:World,(zeroValue 25).run Tryz.prog w= .ok (.agg (aH.cells aaB)) w:=fun _=>by kernel_rfl
theorem acC:∀w:World,(Instr.build 25 ([]:List (Nat × Value)).toArray).run Tryz.prog w= .ok (.agg (aH.cells ⟨(aaB).zone,(aaB).who,(aaB).self,(aaB).types,(aaB).aV,(aaB).colors,(aaB).aP,(aaB).sub,(aaB).keys,(aaB).dJ,(aaB).pk,(aaB).pn,(aaB).tk,(aaB).tn,(aaB).vk,(aaB).vn⟩)) w:=fun _=>by kernel_rfl
def Gh {ops rest a w Q dst ty pos af gd} (h:wpList Tryz.prog ops Q ((⟨dst, .build 25 #[],ty,pos,af,gd⟩:Oper)::rest) a w):=h
def NG {ops rest} {a:Act} {w Q dst ty pos af gd} hw h:=
 @gQ w ops rest (⟨dst, .build 25 #[],ty,pos,af,gd⟩:Oper) a Q 25 [] rfl hw [] (by simp only [List.map_cons,List.map_nil]) _ (acC) h
theorem alp (r:aH):(aH.cells r)[0]? =some (.int .i64 r.zone):=rfl
theorem alq (r x:aH):(aH.cells r).toList.take 0++(Value.cells (.agg (aH.cells x))).toList++(aH.cells r).toList.drop (0+(Value.cells (.agg (aH.cells x))).size)=(aH.cells x).toList:=rfl
def Rh {L w0 w rows ops rest o a Q x y} ho hS hw {g} hx {v} hy {r T' rows'} hm h:=
 @bF L w0 w rows ops rest o a Q 25 x y ho hS hw g 0 hx _ hy _ _ T' rows' hm (by exact Nat.le_of_ble_eq_true rfl) (alq r v) vM (Q9 v) h
def aa0 {L w0 w rows ops rest o a Q x} ho hS hw {g} hx {r T'} hm h:=
 @aQ L w0 w rows ops rest o a Q 3 x ho hS hw g 0 hx _ T' hm kJ _ (alp r) h
def ES {L w0 w rows ops rest o a Q x} ho hS hw {g} hx {r T'} hm h:=
 @mM L w0 w rows ops rest o a Q 25 x ho hS hw g hx (aH.cells r) T' hm _ Tryz.underlying25 rfl vM h
theorem aln (f:aH) (w:World) (hl:Laid w):Calls Tryz.prog 26 #[.agg f.cells] w fun e w'=>e= .returned (.bool (dh f))∧Below w.heap.size w w':=
 wF f.zone f.who f.self f.types f.aV f.colors f.aP f.sub f.keys f.dJ f.pk f.pn f.tk f.tn f.vk f.vn w hl _ (Lib.hid rfl)
theorem bJ:∀w1 w2:World,Laid w1→Below w1.heap.size w1 w2→Laid w2:=fun _ _ h hb=>h.below hb
theorem xA:∀w1 w2:World,bZ w1→Below w1.heap.size w1 w2→bZ w2:=fun _ _ h hb=>h.below hb
section
variable {L:World→Prop} {w0 w:World} {rows:List Row} {ops:Array Oper} {rest:List Oper} {o:Oper} {a:Act} {Q:Exit→Act→World→Prop}
theorem RU {x y:Operand} {ty:TypeId} (ho:o.op= .binOp .add 9 x y ty) {p q:Str} (hx:a.eval x= .string (B p)) (hy:a.eval y= .string (B q)) (hb:p.length+q.length≤9223372036854775807) (w:World):
 (execOp a.eval o).run Tryz.prog w= .ok (.value (.string (B (p++q)))) w:=by
 have h:=run_string_add_sum (P:=Tryz.prog) (w:=w) (B p) (B q) (by rw [bC,bC];exact hb)
 rw [ru] at h
 unfold execOp
 simp only [ho,hx,hy]
 simp [go_sem,Tryz.underlying9,h,eqGuard]
variable {dst:Option Tmp} {ty:TypeId} {pos:String} {af:Array Edge} {gd:Option (Nat × Bool)}
theorem jT {x y:Operand} {t:TypeId} (h:wpList Tryz.prog ops Q ((⟨dst, .binOp .add 9 x y t,ty,pos,af,gd⟩:Oper)::rest) a w):wpList Tryz.prog ops Q ((⟨dst, .binOp .add 9 x y t,ty,pos,af,gd⟩:Oper)::rest) a w:=h
theorem Fb {P:Program} {S:World→Prop} {x y:Operand} {t:TypeId} (h:iR P ops Q S ((⟨dst, .binOp .add 9 x y t,ty,pos,af,gd⟩:Oper)::rest) a):iR P ops Q S ((⟨dst, .binOp .add 9 x y t,ty,pos,af,gd⟩:Oper)::rest) a:=h
theorem eG {x y:Operand} {ty:TypeId} (ho:o.op= .binOp .add 9 x y ty) (hw:Region.wanted o (yielded ops a.tmps)=true) {p q:Str} (hx:a.eval x= .string (B p)) (hy:a.eval y= .string (B q)) (hb:p.length+q.length≤9223372036854775807)
 (h:wpList Tryz.prog ops Q rest (a.put o.dst (.string (B (p++q)))) w):wpList Tryz.prog ops Q (o::rest) a w:=
 jc hw fun K hK=>by
  unfold Oper.wp
  rw [RU ho hx hy hb]
  exact hK _ _ h
theorem C9 {x y:Operand} {ty:TypeId} (ho:o.op= .binOp .add 9 x y ty) (hw:Region.wanted o (yielded ops a.tmps)=true) {p q:Str} (hx:a.eval x= .string (B p)) (hy:a.eval y= .string (B q)) (hb:p.length+q.length≤9223372036854775807)
 (hq:∀c a w,Q (.panic c) (a.put o.dst (.string (B (p++q)))) w→Q (.panic c) a w) (h:iR Tryz.prog ops Q (St L w0 rows) rest (a.put o.dst (.string (B (p++q))))):iR Tryz.prog ops Q (St L w0 rows) (o::rest) a:=
 dn hw hq (fun w _=>RU ho hx hy hb w) h
theorem int_eq {x y:Int} (h:(x==y)=true):x=y:=eq_of_beq h
theorem str_eq {x y:Str} (h:(x==y)=true):x=y:=eq_of_beq h
theorem lK {c:Code} (h:(Code.loop c).wp Tryz.prog Q a w):(Code.loop c).wp Tryz.prog Q a w:=h
theorem jG {c:Code} {n:Nat} (h:c.wp Tryz.prog (Exit.then (Code.rounds Tryz.prog c Q n) Q) a w):Code.rounds Tryz.prog c Q (n+1) a w:=h
theorem GX {x:Operand} (ho:o.op= .load 9 x) {p:Addr} (hx:a.eval x= .pointer (some p)) {v:Value} (hc:w.cell? p=some v):(execOp a.eval o).run Tryz.prog w= .ok (.value v) w:=by
 obtain ⟨d,hu,hd⟩:=GY
 have hagg:(isAgg 9).run Tryz.prog w= .ok false w:=by
  unfold isAgg
  rw [Sem.run_bind,run_underlying hu w]
  cases d<;>simp_all
 have hl:(loadVar 9 p).run Tryz.prog w= .ok v w:=by simp [loadVar,Sem.run_bind,hagg,hc]
 unfold execOp
 simp only [ho,hx,Instr.loadAt,Instr.sureAddr,Sem.run_bind,Sem.run_pure,Result.andThen_ok,hl]
theorem mJ {x:Operand} (ho:o.op= .load 9 x) (hw:Region.wanted o (yielded ops a.tmps)=true) {p:Addr} (hx:a.eval x= .pointer (some p)) {v:Value} (hc:w.cell? p=some v)
 (h:wpList Tryz.prog ops Q rest (a.put o.dst v) w):wpList Tryz.prog ops Q (o::rest) a w:=
 jc hw fun K hK=>by
  unfold Oper.wp
  rw [GX ho hx hc]
  exact hK _ _ h
theorem zn {x:Operand} (ho:o.op= .load 9 x) (hw:Region.wanted o (yielded ops a.tmps)=true) {p:Addr} (hx:a.eval x= .pointer (some p)) {v:Value} (hc:∀w,St L w0 rows w→w.cell? p=some v)
 (hq:∀c a w,Q (.panic c) (a.put o.dst v) w→Q (.panic c) a w) (h:iR Tryz.prog ops Q (St L w0 rows) rest (a.put o.dst v)):iR Tryz.prog ops Q (St L w0 rows) (o::rest) a:=
 dn hw hq (fun w hS=>GX ho hx (hc w hS)) h
def sD (g off:Nat) (l:List Str) (w:World):Prop:=∀k x,l[k]? =some x→w.cell? ⟨g,off+k,none⟩=some (.string (B x))
theorem sD.keep {g off:Nat} {l:List Str} {w1 w2:World} (h:sD g off l w1) (hb:Below w1.heap.size w1 w2):sD g off l w2:=fun k x hx=>cell_below hb (h k x hx)
theorem oZ.at_ {cur:Array Value} {l:List Str} (h:oZ cur l) {g:Nat} (hS:St L w0 rows w) (hm:cZ g cur 9 rows) (off:Nat):sD g off (l.drop off) w:=fun k x hx=>by
 rw [cell_of_row w g (off+k) cur 9 (0,0) (hS.row hm)]
 exact h (off+k) x (by rw [List.getElem?_drop] at hx;exact hx)
end
end Go.Proofs.YtdicgggkdmkklaaGreatDoor
namespace Go.Proofs.YtdicgggkdmkklaaGreatDoor
open Go.ChangeShapes Go.WideShapes Go.RowKit
theorem aAm {w:World} {g T:Nat} {cs:Array Value} (h:w.heap[g]? =some (.cells cs T (0,0))):∀(j:Nat) (u:Value),cs.toList[j]? =some u→w.cell? ((⟨g,0,none⟩:Addr).add j)=some u:=fun j u hj=>by
 have e:((⟨g,0,none⟩:Addr).add j)=⟨g,j,none⟩:=by simp [Addr.add];try (intro h;exact h.symm)
 rw [e,cell_of_row w g j cs T (0,0) h];simpa using hj
class ElT {α:Type} (TL T n:Nat) (f:α→Array Value):Prop where
 ty:Tryz.prog.underlying TL=some (.slice T)
 info:∃z b,(Tryz.prog.info? T).map (fun i=>(i.zero,i.size,i.bytes))=some (some z,n,b)∧z.cells.size=n∧b≤10000
 pos:0<n
 size:∀x,(f x).size=n
 one:∀x,∀u∈(f x).toList,u.oneCell'=true
def xk {α:Type} (f:α→Array Value) (xs:List α):List Value:=xs.flatMap fun x=>(f x).toList
def FB {α:Type} (T n:Nat) (f:α→Array Value) (xs:List α) (A:Option Addr) (c:Nat) (wr:List Row):Prop:=
 (A=none∧c=0∧xs=[]∧wr=[])∨∃g cur,A=some ⟨g,0,none⟩∧wr=[(g,cur,T)]∧xs.length≤c∧c≤maxLen∧cur.size=c * n∧cur.toList.take (xs.length * n)=xk f xs
theorem FB.nil {α:Type} {T n:Nat} {f:α→Array Value} :FB T n f [] none 0 []:= .inl ⟨rfl,rfl,rfl,rfl⟩
inductive Ends (wr:List Row):List Row→List Row→Prop
 |n:Ends wr [] wr
 |c {x p r} :Ends wr p r→Ends wr (x::p) (x::r)
theorem Ends.eq {wr p r:List Row} (h:Ends wr p r):r=p++wr:=by
 induction h with
 |n=>rfl
 |c _ ih=>rw [ih];rfl
section
variable {α:Type} {TL T n:Nat} {f:α→Array Value} {xs:List α} {A:Option Addr} {c:Nat} {wr p:List Row} {L:World→Prop} {w0 w:World}
theorem St.nm {rows:List Row} (hS:St L w0 rows w) (_:FB T n f xs A c wr) (he:Ends wr p rows):∃q,Hid (q=p)∧St L w0 (q++wr) w:=⟨p,Lib.hid rfl,he.eq ▸ hS⟩
theorem TQ (h:ElT TL T n f):∀xs:List α,(xk f xs).length=xs.length * n
 |[]=>by simp [xk]
 |x::xs=>by
  have ih:=TQ h xs
  have hx:=h.size x
  unfold xk at *
  rw [List.flatMap_cons,List.length_append,ih,List.length_cons,Array.length_toList,hx,Nat.succ_mul];omega
theorem acy (x:α):xk f (xs++[x])=xk f xs++(f x).toList:=by simp [xk]
theorem FB.owns (h:FB T n f xs A c wr) (hT:ElT TL T n f) (hS:St L w0 (p++wr) w):w.ownsRow w0.heap.size T n (.slice A xs.length c) xs.length (xk f xs):=by
 refine ⟨TQ hT xs,?_⟩
 rcases h with ⟨rfl,rfl,rfl,_⟩|⟨g,cur,rfl,rfl,h1,h2,h3,h4⟩
 ·exact .inl ⟨rfl,rfl⟩
 ·have:=hS.has (g,cur,T) (by simp)
  exact .inr ⟨g,c,cur,rfl,this.2,this.1,h1,h2,h3,h4⟩
theorem St.app {x:α} (hS:St L w0 (p++wr) w) (h:FB T n f xs A c wr) {v':Value} {w':World} (hown:w'.ownsRow w0.heap.size T n v' (xs.length+1) (xk f xs++(f x).toList))
 (hg:w.grownBy w' (Value.slice A xs.length c).ownBlock) (hat:v'.ownBlock=(Value.slice A xs.length c).ownBlock∨v'.ownBlock=some w.heap.size):
 ∃A' c' wr',v'= .slice A' (xs.length+1) c'∧FB T n f (xs++[x]) A' c' wr'∧St L w0 (p++wr') w':=by
 rcases hown.2 with ⟨_,h0⟩|⟨g',cap',cur',rfl,hb,hh,h1,h2,h3,h4⟩
 ·omega
 refine ⟨some ⟨g',0,none⟩,cap',[(g',cur',T)],rfl, .inr ⟨g',cur',rfl,rfl,by simpa using h1,h2,h3,by rw [acy,List.length_append];exact h4⟩,?_⟩
 have hwr:∀k,(Value.slice A xs.length c).ownBlock=some k→∃cur,wr=[(k,cur,T)]:=fun k hk=>by
  rcases h with ⟨rfl,_⟩|⟨g,cur,rfl,rfl,_⟩
  ·cases hk
  ·obtain rfl:g=k:=by simpa [Value.ownBlock] using hk
   exact ⟨cur,rfl⟩
 have hne:∀y∈p,some y.1≠(Value.slice A xs.length c).ownBlock:=fun y hy e=>by
  obtain ⟨cur,rfl⟩:=hwr y.1 e.symm
  have:=hS.apart
  rw [List.map_append,List.nodup_append] at this
  exact this.2.2 y.1 (List.mem_map.2 ⟨y,hy,rfl⟩) y.1 (by simp) rfl
 have hlt:∀y∈p,y.1<w.heap.size:=fun y hy=>(Array.getElem?_eq_some_iff.1 (hS.has y (by simp [hy])).1).1
 refine ⟨hS.base,hS.keeps,hS.below.grown hg hS.below.size (fun k hk=> ?_),fun y hy=> ?_,?_⟩
 ·obtain ⟨cur,rfl⟩:=hwr k hk
  exact (hS.has (k,cur,T) (by simp)).2
 ·rcases List.mem_append.1 hy with hy|hy
  ·have:=hS.has y (by simp [hy])
   exact ⟨(hg.block y.1 (hlt y hy) (hne y hy)).trans this.1,this.2⟩
  ·obtain rfl:y=(g',cur',T):=by simpa using hy
   exact ⟨hh,hb⟩
 ·rw [List.map_append,List.nodup_append]
  have hn:=hS.apart
  rw [List.map_append,List.nodup_append] at hn
  refine ⟨hn.1,by simp,fun a ha b hb' e=> ?_⟩
  obtain rfl:b=g':=by simpa using hb'
  subst e
  obtain ⟨y,hy,rfl⟩:=List.mem_map.1 ha
  rcases hat with e|e
  ·exact hne y hy (by rw [←e];rfl)
  ·have:=hlt y hy
   have e2:y.1=w.heap.size:=by simpa [Value.ownBlock] using e
   omega
variable {rows:List Row} {ops:Array Oper} {rest:List Oper} {o:Oper} {a:Act} {Q:Exit→Act→World→Prop}
theorem ayI {x y:Operand} (ho:o.op= .call { callee:= .builtin .append,args:=#[x,y],argTypes:=#[TL,TL] }) (hS:St L w0 rows w) (hg:o.guard=none) (hx:a.eval x= .slice A xs.length c) (hW:FB T n f xs A c wr) (hT:ElT TL T n f) (hen:Ends wr p rows)
 {g3:Nat} (hy:a.eval y= .slice (some ⟨g3,0,none⟩) 1 1) {z:α} {T3:Nat} (hm:cZ g3 (f z) T3 rows) (hl:xs.length≤100000000) {aku:List Row→List Row} (hz:∀wr',p++wr'=aku wr')
 (h:∀A' c' wr' w',FB T n f (xs++[z]) A' c' wr'→St L w0 (aku wr') w'→wpList Tryz.prog ops Q rest (a.put o.dst (.slice A' (xs.length+1) c')) w'):wpList Tryz.prog ops Q (o::rest) a w:=by
 obtain ⟨zz,b,hi,hzs,hb⟩:=hT.info
 cases hi0:Tryz.prog.info? T with
 |none=>rw [hi0] at hi;cases hi
 |some i=>
  rw [hi0] at hi
  simp only [Option.map_some,Option.some.injEq,Prod.mk.injEq] at hi
  obtain ⟨hi1,hi2,hi3⟩:=hi
  have hrow:=hS.row hm
  rw [hen.eq] at hS
  refine wpList_append_own_at w hg x y TL ho w0.heap.size T i zz n b hT.ty hi0 hi1 hi2 hi3 hzs hT.pos _ xs.length (xk f xs) hx (hW.owns hT hS) ⟨g3,0,none⟩ 1 1 (f z).toList hy (by rw [Array.length_toList,hT.size,Nat.one_mul]) (aAm hrow) (hT.one z) (by unfold maxLen;omega) ?_ hS.below.size ?_
  ·have:=Nat.mul_le_mul (show xs.length+1≤100000001 by omega) hb;omega
  ·intro v' w' hown hgr _ hat
   obtain ⟨A',c',wr',rfl,hW',hS'⟩:=hS.app hW hown hgr hat
   exact h A' c' wr' w' hW' (by rw [←hz];exact hS')
class arJ (TL:Nat) (v:Value) (cs:outParam (Array Value)) (T:outParam Nat):Prop where
 l:∀w,(Instr.buildSlice TL 1 #[(0,v)]).run Tryz.prog w= .ok (.slice (some ⟨w.heap.size,0,none⟩) 1 1) (w.alloc (.cells cs T))
theorem aDi {x:Operand} (ho:o.op= .buildSlice TL 1 #[(0,x)]) (hS:St L w0 rows w) (hw:Region.wanted o (yielded ops a.tmps)=true) {v:Value} (hx:Ev a x v) {cs:Array Value} (hl:arJ TL v cs T)
 (h:∀g w',St L w0 ((g,cs,T)::rows) w'→wpList Tryz.prog ops Q rest (a.put o.dst (.slice (some ⟨g,0,none⟩) 1 1)) w'):wpList Tryz.prog ops Q (o::rest) a w:=
 jc hw fun K hK=>by
  unfold Oper.wp execOp
  simp [ho,hx.eq,Sem.run_bind,hl.l,Result.andThen]
  exact hK _ _ (h _ _ (hS.alloc cs T))
end
theorem s6 {G R:Prop} (k:R) (h:R→G:=by
 intro k
 (with_reducible refine aB ?_)
 exact aDi rfl hS rfl (by first|exact .i rfl|exact .a rfl|exact .s rfl|exact .b rfl|exact .l rfl) (by infer_instance) k):G:=h k
theorem s5 {G R:Prop} (k:R) (h:R→G:=by
 intro k
 at_builtin
 exact ayI rfl hS rfl rfl (by assumption) (by infer_instance) (by repeat (first|assumption|constructor)) rfl (by repeat constructor) (by first|omega|(simp only [List.length_append,List.length_cons,List.length_nil];omega)) (by intro _;simp only [List.cons_append,List.nil_append];exact rfl) k):G:=h k
def YN (s:Str):Array Value:=#[.string (B s)]
instance:ElT 73 9 1 YN:=⟨Tryz.underlying73,⟨.string ⟨#[]⟩,16,by kernel_rfl,rfl,by decide⟩,by decide,fun _=>rfl,fun x u hu=>by simp [YN] at hu;subst hu;rfl⟩
instance aEf (s:Str):arJ 73 (.string (B s)) (YN s) 9:=⟨fun w=>by kernel_rfl⟩
instance aF3 (l:Str):arJ 73 (.string ⟨l.toArray⟩) (YN l) 9:=aEf l
theorem s8 {G R:Prop} (k:R) (h:R→G:=by
 intro k
 at_builtin
 exact ayI (f:=YN) (T:=9) (n:=1) (xs:=[]) (A:=none) (c:=0) (wr:=[]) rfl hS rfl rfl .nil (by infer_instance) (by repeat constructor) rfl (by repeat constructor) (by decide) (by intro _;simp only [List.cons_append,List.nil_append];exact rfl) k):G:=h k
theorem FB.row {g:Nat} {x:Str} :FB 9 1 YN [x] (some ⟨g,0,none⟩) 1 [(g,YN x,9)]:= .inr ⟨g,YN x,rfl,rfl,by simp,by decide,rfl,rfl⟩
theorem aie (l:List Str):xk YN l=strCells l:=by
 induction l with
 |nil=>rfl
 |cons x l ih=>unfold xk at *;rw [List.flatMap_cons,ih];rfl
theorem FB.texts {l:List Str} {A:Option Addr} {c:Nat} {wr p rows:List Row} {L:World→Prop} {w0 w:World} (h:FB 9 1 YN l A c wr) (hS:St L w0 rows w) (hen:Ends wr p rows):Texts w w0.heap.size l (.slice A l.length c):=by
 have:=h.owns (TL:=73) inferInstance (hen.eq ▸ hS)
 rwa [aie] at this
end Go.Proofs.YtdicgggkdmkklaaGreatDoor
namespace Go.Proofs.YtdicgggkdmkklaaGreatDoor
open Go.ChangeShapes Go.WideShapes Go.RowKit
theorem oH {f:aH} :(textOf f).length≤1000000:=by
 unfold textOf;split
 ·rename_i h
  obtain ⟨_,hok⟩:=BP h
  unfold iI;split
  ·decide
  ·have hs:(qC f).sub.length≤32:=by
    rcases hok.sub with e|e
    ·rw [e];simp
    ·exact tu e
   have:=Et (qC f) hs hok.pn hok.tn hok.vn
   omega
 ·decide
theorem axF (s p:ByteArray) (w:World) (hs:s.size<1000000000) (pl:Str) (hp:L p=pl) (r:Str) (h:Hid (Lib.trimSuffix (L s) pl=r)):
 Calls Tryz.prog 194 #[.string s, .string p] w fun e w'=>e= .returned (.string (B r))∧w=w':=by
 subst hp
 exact (Tryz.strings_TrimSuffix s p w (by omega)).mono fun _ _ h'=>⟨h'.1.trans (by rw [←h.out];rfl),h'.2.symm⟩
abbrev TRp:Nat:=37
theorem aCO (r:Rp):r.cells.all (·.oneCell')=true:=by simp [Rp.cells,aH.cells,Value.oneCell']
theorem arx:(Tryz.prog.info? 37).map (·.size)=some 22:=by kernel_rfl
theorem aey:∀w:World,(zeroValue 37).run Tryz.prog w= .ok (.agg (Rp.cells I5)) w:=fun _=>by kernel_rfl
theorem azz:∀w:World,(Instr.build 37 ([]:List (Nat × Value)).toArray).run Tryz.prog w= .ok (.agg (Rp.cells ⟨(I5).on,(I5).who,(I5).f,(I5).d,(I5).n,(I5).z,(I5).c⟩)) w:=fun _=>by kernel_rfl
def aer {ops rest a w Q dst ty pos af gd} (h:wpList Tryz.prog ops Q ((⟨dst, .build 37 #[],ty,pos,af,gd⟩:Oper)::rest) a w):=h
def ahh {ops rest} {a:Act} {w Q dst ty pos af gd} hw h:=
 @gQ w ops rest (⟨dst, .build 37 #[],ty,pos,af,gd⟩:Oper) a Q 37 [] rfl hw [] (by simp only [List.map_cons,List.map_nil]) _ (azz) h
theorem axe (x0:Int) (x3:Int):∀w:World,(Instr.build 37 ([(0, .int .i64 x0),(3, .int .i64 x3)]:List (Nat × Value)).toArray).run Tryz.prog w= .ok (.agg (Rp.cells ⟨x0,(I5).who,(I5).f,x3,(I5).n,(I5).z,(I5).c⟩)) w:=fun _=>by kernel_rfl
def anv {ops rest a w Q dst ty pos af gd y0 y3} (h:wpList Tryz.prog ops Q ((⟨dst, .build 37 #[(0,y0),(3,y3)],ty,pos,af,gd⟩:Oper)::rest) a w):=h
def aqR {x0:Int} {x3:Int} {ops rest} {a:Act} {w Q dst ty pos af gd y0 y3} hw (h0:a.eval y0= .int .i64 x0) (h3:a.eval y3= .int .i64 x3) h:=
 @gQ w ops rest (⟨dst, .build 37 #[(0,y0),(3,y3)],ty,pos,af,gd⟩:Oper) a Q 37 [(0,y0),(3,y3)] rfl hw [(0, .int .i64 x0),(3, .int .i64 x3)] (by simp only [List.map_cons,List.map_nil,h0,h3]) _ (axe x0 x3) h
theorem axd (x0:Int) (x1:Int):∀w:World,(Instr.build 37 ([(0, .int .i64 x0),(1, .int .i64 x1)]:List (Nat × Value)).toArray).run Tryz.prog w= .ok (.agg (Rp.cells ⟨x0,x1,(I5).f,(I5).d,(I5).n,(I5).z,(I5).c⟩)) w:=fun _=>by kernel_rfl
def aqU {ops rest a w Q dst ty pos af gd y0 y1} (h:wpList Tryz.prog ops Q ((⟨dst, .build 37 #[(0,y0),(1,y1)],ty,pos,af,gd⟩:Oper)::rest) a w):=h
def arq {x0:Int} {x1:Int} {ops rest} {a:Act} {w Q dst ty pos af gd y0 y1} hw (h0:a.eval y0= .int .i64 x0) (h1:a.eval y1= .int .i64 x1) h:=
 @gQ w ops rest (⟨dst, .build 37 #[(0,y0),(1,y1)],ty,pos,af,gd⟩:Oper) a Q 37 [(0,y0),(1,y1)] rfl hw [(0, .int .i64 x0),(1, .int .i64 x1)] (by simp only [List.map_cons,List.map_nil,h0,h1]) _ (axd x0 x1) h
theorem av1 (x0:Int) (x3:Int) (x1:Int):∀w:World,(Instr.build 37 ([(0, .int .i64 x0),(3, .int .i64 x3),(1, .int .i64 x1)]:List (Nat × Value)).toArray).run Tryz.prog w= .ok (.agg (Rp.cells ⟨x0,x1,(I5).f,x3,(I5).n,(I5).z,(I5).c⟩)) w:=fun _=>by kernel_rfl
def anH {ops rest a w Q dst ty pos af gd y0 y3 y1} (h:wpList Tryz.prog ops Q ((⟨dst, .build 37 #[(0,y0),(3,y3),(1,y1)],ty,pos,af,gd⟩:Oper)::rest) a w):=h
def aqS {x0:Int} {x3:Int} {x1:Int} {ops rest} {a:Act} {w Q dst ty pos af gd y0 y3 y1} hw (h0:a.eval y0= .int .i64 x0) (h3:a.eval y3= .int .i64 x3) (h1:a.eval y1= .int .i64 x1) h:=
 @gQ w ops rest (⟨dst, .build 37 #[(0,y0),(3,y3),(1,y1)],ty,pos,af,gd⟩:Oper) a Q 37 [(0,y0),(3,y3),(1,y1)] rfl hw [(0, .int .i64 x0),(3, .int .i64 x3),(1, .int .i64 x1)] (by simp only [List.map_cons,List.map_nil,h0,h3,h1]) _ (av1 x0 x3 x1) h
theorem avZ (x0:Int) (x1:Int) (x3:Int):∀w:World,(Instr.build 37 ([(0, .int .i64 x0),(1, .int .i64 x1),(3, .int .i64 x3)]:List (Nat × Value)).toArray).run Tryz.prog w= .ok (.agg (Rp.cells ⟨x0,x1,(I5).f,x3,(I5).n,(I5).z,(I5).c⟩)) w:=fun _=>by kernel_rfl
def anG {ops rest a w Q dst ty pos af gd y0 y1 y3} (h:wpList Tryz.prog ops Q ((⟨dst, .build 37 #[(0,y0),(1,y1),(3,y3)],ty,pos,af,gd⟩:Oper)::rest) a w):=h
def aqQ {x0:Int} {x1:Int} {x3:Int} {ops rest} {a:Act} {w Q dst ty pos af gd y0 y1 y3} hw (h0:a.eval y0= .int .i64 x0) (h1:a.eval y1= .int .i64 x1) (h3:a.eval y3= .int .i64 x3) h:=
 @gQ w ops rest (⟨dst, .build 37 #[(0,y0),(1,y1),(3,y3)],ty,pos,af,gd⟩:Oper) a Q 37 [(0,y0),(1,y1),(3,y3)] rfl hw [(0, .int .i64 x0),(1, .int .i64 x1),(3, .int .i64 x3)] (by simp only [List.map_cons,List.map_nil,h0,h1,h3]) _ (avZ x0 x1 x3) h
theorem avm (x0:Int) (x1:Int) (x2:aH) (x3:Int):∀w:World,(Instr.build 37 ([(0, .int .i64 x0),(1, .int .i64 x1),(2, .agg (aH.cells x2)),(3, .int .i64 x3)]:List (Nat × Value)).toArray).run Tryz.prog w= .ok (.agg (Rp.cells ⟨x0,x1,x2,x3,(I5).n,(I5).z,(I5).c⟩)) w:=fun _=>by kernel_rfl
def anf {ops rest a w Q dst ty pos af gd y0 y1 y2 y3} (h:wpList Tryz.prog ops Q ((⟨dst, .build 37 #[(0,y0),(1,y1),(2,y2),(3,y3)],ty,pos,af,gd⟩:Oper)::rest) a w):=h
def anC {x0:Int} {x1:Int} {x2:aH} {x3:Int} {ops rest} {a:Act} {w Q dst ty pos af gd y0 y1 y2 y3} hw (h0:a.eval y0= .int .i64 x0) (h1:a.eval y1= .int .i64 x1) (h2:a.eval y2= .agg (aH.cells x2)) (h3:a.eval y3= .int .i64 x3) h:=
 @gQ w ops rest (⟨dst, .build 37 #[(0,y0),(1,y1),(2,y2),(3,y3)],ty,pos,af,gd⟩:Oper) a Q 37 [(0,y0),(1,y1),(2,y2),(3,y3)] rfl hw [(0, .int .i64 x0),(1, .int .i64 x1),(2, .agg (aH.cells x2)),(3, .int .i64 x3)] (by simp only [List.map_cons,List.map_nil,h0,h1,h2,h3]) _ (avm x0 x1 x2 x3) h
theorem avn (x0:Int) (x3:Int) (x1:Int) (x2:aH):∀w:World,(Instr.build 37 ([(0, .int .i64 x0),(3, .int .i64 x3),(1, .int .i64 x1),(2, .agg (aH.cells x2))]:List (Nat × Value)).toArray).run Tryz.prog w= .ok (.agg (Rp.cells ⟨x0,x1,x2,x3,(I5).n,(I5).z,(I5).c⟩)) w:=fun _=>by kernel_rfl
def ang {ops rest a w Q dst ty pos af gd y0 y3 y1 y2} (h:wpList Tryz.prog ops Q ((⟨dst, .build 37 #[(0,y0),(3,y3),(1,y1),(2,y2)],ty,pos,af,gd⟩:Oper)::rest) a w):=h
def anD {x0:Int} {x3:Int} {x1:Int} {x2:aH} {ops rest} {a:Act} {w Q dst ty pos af gd y0 y3 y1 y2} hw (h0:a.eval y0= .int .i64 x0) (h3:a.eval y3= .int .i64 x3) (h1:a.eval y1= .int .i64 x1) (h2:a.eval y2= .agg (aH.cells x2)) h:=
 @gQ w ops rest (⟨dst, .build 37 #[(0,y0),(3,y3),(1,y1),(2,y2)],ty,pos,af,gd⟩:Oper) a Q 37 [(0,y0),(3,y3),(1,y1),(2,y2)] rfl hw [(0, .int .i64 x0),(3, .int .i64 x3),(1, .int .i64 x1),(2, .agg (aH.cells x2))] (by simp only [List.map_cons,List.map_nil,h0,h3,h1,h2]) _ (avn x0 x3 x1 x2) h
theorem azx (r:Rp):(Rp.cells r)[0]? =some (.int .i64 r.on):=rfl
theorem aBG (r:Rp) (x:Int):(Rp.cells r).toList.take 0++(Value.cells (.int .i64 x)).toList++(Rp.cells r).toList.drop (0+(Value.cells (.int .i64 x)).size)=(Rp.cells ⟨x,r.who,r.f,r.d,r.n,r.z,r.c⟩).toList:=rfl
theorem azy (r:Rp):(Rp.cells r)[1]? =some (.int .i64 r.who):=rfl
theorem aBH (r:Rp) (x:Int):(Rp.cells r).toList.take 1++(Value.cells (.int .i64 x)).toList++(Rp.cells r).toList.drop (1+(Value.cells (.int .i64 x)).size)=(Rp.cells ⟨r.on,x,r.f,r.d,r.n,r.z,r.c⟩).toList:=rfl
theorem axf (r:Rp):∀j v,(aH.cells r.f)[j]? =some v→(Rp.cells r)[2+j]? =some v:=by
 intro j v h
 have hj:j<16:=by
  rcases Nat.lt_or_ge j 16 with h1|h1
  ·exact h1
  ·rw [Array.getElem?_eq_none (by exact h1)] at h;cases h
 match j,hj,h with
 |0,_,h=>exact h
 |1,_,h=>exact h
 |2,_,h=>exact h
 |3,_,h=>exact h
 |4,_,h=>exact h
 |5,_,h=>exact h
 |6,_,h=>exact h
 |7,_,h=>exact h
 |8,_,h=>exact h
 |9,_,h=>exact h
 |10,_,h=>exact h
 |11,_,h=>exact h
 |12,_,h=>exact h
 |13,_,h=>exact h
 |14,_,h=>exact h
 |15,_,h=>exact h
theorem aBI (r:Rp) (x:aH):(Rp.cells r).toList.take 2++(Value.cells (.agg (aH.cells x))).toList++(Rp.cells r).toList.drop (2+(Value.cells (.agg (aH.cells x))).size)=(Rp.cells ⟨r.on,r.who,x,r.d,r.n,r.z,r.c⟩).toList:=rfl
theorem ax3 (r:Rp):(Rp.cells r)[18]? =some (.int .i64 r.d):=rfl
theorem aAn (r:Rp) (x:Int):(Rp.cells r).toList.take 18++(Value.cells (.int .i64 x)).toList++(Rp.cells r).toList.drop (18+(Value.cells (.int .i64 x)).size)=(Rp.cells ⟨r.on,r.who,r.f,x,r.n,r.z,r.c⟩).toList:=rfl
theorem ax4 (r:Rp):(Rp.cells r)[19]? =some (.int .i64 r.n):=rfl
theorem aAo (r:Rp) (x:Int):(Rp.cells r).toList.take 19++(Value.cells (.int .i64 x)).toList++(Rp.cells r).toList.drop (19+(Value.cells (.int .i64 x)).size)=(Rp.cells ⟨r.on,r.who,r.f,r.d,x,r.z,r.c⟩).toList:=rfl
theorem ax5 (r:Rp):(Rp.cells r)[20]? =some (.int .i64 r.z):=rfl
theorem aAp (r:Rp) (x:Int):(Rp.cells r).toList.take 20++(Value.cells (.int .i64 x)).toList++(Rp.cells r).toList.drop (20+(Value.cells (.int .i64 x)).size)=(Rp.cells ⟨r.on,r.who,r.f,r.d,r.n,x,r.c⟩).toList:=rfl
theorem ax6 (r:Rp):(Rp.cells r)[21]? =some (.int .i64 r.c):=rfl
theorem aAq (r:Rp) (x:Int):(Rp.cells r).toList.take 21++(Value.cells (.int .i64 x)).toList++(Rp.cells r).toList.drop (21+(Value.cells (.int .i64 x)).size)=(Rp.cells ⟨r.on,r.who,r.f,r.d,r.n,r.z,x⟩).toList:=rfl
theorem aCP (r x:Rp):(Rp.cells r).toList.take 0++(Value.cells (.agg (Rp.cells x))).toList++(Rp.cells r).toList.drop (0+(Value.cells (.agg (Rp.cells x))).size)=(Rp.cells x).toList:=rfl
def avM {L w0 w rows ops rest o a Q x y} ho hS hw {g} hx {v} hy {r T' rows'} hm h:=
 @bF L w0 w rows ops rest o a Q 3 x y ho hS hw g 0 hx _ hy _ _ T' rows' hm (by exact Nat.le_of_ble_eq_true rfl) (aBG r v) gI (by simp [Value.cells,Value.oneCell']) h
def akx {L w0 w rows ops rest o a Q x y} ho hS hw {g} hx {v} hy {r T' rows'} hm h:=
 @bF L w0 w rows ops rest o a Q 3 x y ho hS hw g 1 hx _ hy _ _ T' rows' hm (by exact Nat.le_of_ble_eq_true rfl) (aBH r v) gI (by simp [Value.cells,Value.oneCell']) h
def aq9 {L w0 w rows ops rest o a Q x y} ho hS hw {g} hx {v} hy {r T' rows'} hm h:=
 @bF L w0 w rows ops rest o a Q 25 x y ho hS hw g 2 hx _ hy _ _ T' rows' hm (by exact Nat.le_of_ble_eq_true rfl) (aBI r v) vM (Q9 v) h
def au0 {L w0 w rows ops rest o a Q x y} ho hS hw {g} hx {v} hy {r T' rows'} hm h:=
 @bF L w0 w rows ops rest o a Q 3 x y ho hS hw g 18 hx _ hy _ _ T' rows' hm (by exact Nat.le_of_ble_eq_true rfl) (aAn r v) gI (by simp [Value.cells,Value.oneCell']) h
def asG {L w0 w rows ops rest o a Q x y} ho hS hw {g} hx {v} hy {r T' rows'} hm h:=
 @bF L w0 w rows ops rest o a Q 3 x y ho hS hw g 19 hx _ hy _ _ T' rows' hm (by exact Nat.le_of_ble_eq_true rfl) (aAo r v) gI (by simp [Value.cells,Value.oneCell']) h
def asH {L w0 w rows ops rest o a Q x y} ho hS hw {g} hx {v} hy {r T' rows'} hm h:=
 @bF L w0 w rows ops rest o a Q 3 x y ho hS hw g 20 hx _ hy _ _ T' rows' hm (by exact Nat.le_of_ble_eq_true rfl) (aAp r v) gI (by simp [Value.cells,Value.oneCell']) h
def asI {L w0 w rows ops rest o a Q x y} ho hS hw {g} hx {v} hy {r T' rows'} hm h:=
 @bF L w0 w rows ops rest o a Q 3 x y ho hS hw g 21 hx _ hy _ _ T' rows' hm (by exact Nat.le_of_ble_eq_true rfl) (aAq r v) gI (by simp [Value.cells,Value.oneCell']) h
def aez {L w0 w rows ops rest o a Q x y} ho hS hw {g} hx {v} hy {r T' rows'} hm h:=
 @bF L w0 w rows ops rest o a Q 37 x y ho hS hw g 0 hx _ hy _ _ T' rows' hm (by exact Nat.le_of_ble_eq_true rfl) (aCP r v) arx (aCO v) h
theorem ax7 (r:Rp):(Rp.cells r)[2]? =some (.int .i64 r.f.zone):=rfl
def asD {L w0 w rows ops rest o a Q x} ho hS hw {g} hx {r T'} hm h:=
 @aQ L w0 w rows ops rest o a Q 3 x ho hS hw g 2 hx _ T' hm kJ _ (ax7 r) h
theorem ax8 (r:Rp):(Rp.cells r)[3]? =some (.int .i64 r.f.who):=rfl
def auK {L w0 w rows ops rest o a Q x} ho hS hw {g} hx {r T'} hm h:=
 @aQ L w0 w rows ops rest o a Q 3 x ho hS hw g 3 hx _ T' hm kJ _ (ax8 r) h
theorem ax9 (r:Rp):(Rp.cells r)[4]? =some (.int .i64 r.f.self):=rfl
def auL {L w0 w rows ops rest o a Q x} ho hS hw {g} hx {r T'} hm h:=
 @aQ L w0 w rows ops rest o a Q 3 x ho hS hw g 4 hx _ T' hm kJ _ (ax9 r) h
theorem aya (r:Rp):(Rp.cells r)[5]? =some (.int .i64 r.f.types):=rfl
def auM {L w0 w rows ops rest o a Q x} ho hS hw {g} hx {r T'} hm h:=
 @aQ L w0 w rows ops rest o a Q 3 x ho hS hw g 5 hx _ T' hm kJ _ (aya r) h
theorem ayb (r:Rp):(Rp.cells r)[6]? =some (.int .i64 r.f.aV):=rfl
def auN {L w0 w rows ops rest o a Q x} ho hS hw {g} hx {r T'} hm h:=
 @aQ L w0 w rows ops rest o a Q 3 x ho hS hw g 6 hx _ T' hm kJ _ (ayb r) h
theorem ayc (r:Rp):(Rp.cells r)[7]? =some (.int .i64 r.f.colors):=rfl
def auO {L w0 w rows ops rest o a Q x} ho hS hw {g} hx {r T'} hm h:=
 @aQ L w0 w rows ops rest o a Q 3 x ho hS hw g 7 hx _ T' hm kJ _ (ayc r) h
theorem ayd (r:Rp):(Rp.cells r)[8]? =some (.int .i64 r.f.aP):=rfl
def auP {L w0 w rows ops rest o a Q x} ho hS hw {g} hx {r T'} hm h:=
 @aQ L w0 w rows ops rest o a Q 3 x ho hS hw g 8 hx _ T' hm kJ _ (ayd r) h
theorem aye (r:Rp):(Rp.cells r)[9]? =some (.string r.f.sub):=rfl
def auQ {L w0 w rows ops rest o a Q x} ho hS hw {g} hx {r T'} hm h:=
 @aQ L w0 w rows ops rest o a Q 9 x ho hS hw g 9 hx _ T' hm GY _ (aye r) h
theorem aw5 (r:Rp):(Rp.cells r)[10]? =some (.int .i64 r.f.keys):=rfl
def asU {L w0 w rows ops rest o a Q x} ho hS hw {g} hx {r T'} hm h:=
 @aQ L w0 w rows ops rest o a Q 3 x ho hS hw g 10 hx _ T' hm kJ _ (aw5 r) h
theorem aw6 (r:Rp):(Rp.cells r)[11]? =some (.int .i64 r.f.dJ):=rfl
def asV {L w0 w rows ops rest o a Q x} ho hS hw {g} hx {r T'} hm h:=
 @aQ L w0 w rows ops rest o a Q 3 x ho hS hw g 11 hx _ T' hm kJ _ (aw6 r) h
theorem aw7 (r:Rp):(Rp.cells r)[12]? =some (.int .i64 r.f.pk):=rfl
def asW {L w0 w rows ops rest o a Q x} ho hS hw {g} hx {r T'} hm h:=
 @aQ L w0 w rows ops rest o a Q 3 x ho hS hw g 12 hx _ T' hm kJ _ (aw7 r) h
theorem aw8 (r:Rp):(Rp.cells r)[13]? =some (.int .i64 r.f.pn):=rfl
def asX {L w0 w rows ops rest o a Q x} ho hS hw {g} hx {r T'} hm h:=
 @aQ L w0 w rows ops rest o a Q 3 x ho hS hw g 13 hx _ T' hm kJ _ (aw8 r) h
theorem aw9 (r:Rp):(Rp.cells r)[14]? =some (.int .i64 r.f.tk):=rfl
def asY {L w0 w rows ops rest o a Q x} ho hS hw {g} hx {r T'} hm h:=
 @aQ L w0 w rows ops rest o a Q 3 x ho hS hw g 14 hx _ T' hm kJ _ (aw9 r) h
theorem axa (r:Rp):(Rp.cells r)[15]? =some (.int .i64 r.f.tn):=rfl
def asZ {L w0 w rows ops rest o a Q x} ho hS hw {g} hx {r T'} hm h:=
 @aQ L w0 w rows ops rest o a Q 3 x ho hS hw g 15 hx _ T' hm kJ _ (axa r) h
theorem axb (r:Rp):(Rp.cells r)[16]? =some (.int .i64 r.f.vk):=rfl
def as1 {L w0 w rows ops rest o a Q x} ho hS hw {g} hx {r T'} hm h:=
 @aQ L w0 w rows ops rest o a Q 3 x ho hS hw g 16 hx _ T' hm kJ _ (axb r) h
theorem axc (r:Rp):(Rp.cells r)[17]? =some (.int .i64 r.f.vn):=rfl
def as2 {L w0 w rows ops rest o a Q x} ho hS hw {g} hx {r T'} hm h:=
 @aQ L w0 w rows ops rest o a Q 3 x ho hS hw g 17 hx _ T' hm kJ _ (axc r) h
def aoh {L w0 w rows ops rest o a Q x} ho hS hw {g} hx {r T'} hm h:=
 @aQ L w0 w rows ops rest o a Q 3 x ho hS hw g 0 hx _ T' hm kJ _ (azx r) h
def anu {L w0 w rows ops rest o a Q x} ho hS hw {g} hx {r T'} hm h:=
 @aQ L w0 w rows ops rest o a Q 3 x ho hS hw g 1 hx _ T' hm kJ _ (azy r) h
def aqT {L w0 w rows ops rest o a Q x} ho hS hw {g} hx {r T'} hm h:=
 @ny L w0 w rows ops rest o a Q 25 x ho hS hw g 2 hx _ _ T' hm (axf r) _ Tryz.underlying25 rfl vM h
def ake {L w0 w rows ops rest o a Q x} ho hS hw {g} hx {r T'} hm h:=
 @aQ L w0 w rows ops rest o a Q 3 x ho hS hw g 18 hx _ T' hm kJ _ (ax3 r) h
def ank {L w0 w rows ops rest o a Q x} ho hS hw {g} hx {r T'} hm h:=
 @aQ L w0 w rows ops rest o a Q 3 x ho hS hw g 19 hx _ T' hm kJ _ (ax4 r) h
def anl {L w0 w rows ops rest o a Q x} ho hS hw {g} hx {r T'} hm h:=
 @aQ L w0 w rows ops rest o a Q 3 x ho hS hw g 20 hx _ T' hm kJ _ (ax5 r) h
def aqc {L w0 w rows ops rest o a Q x} ho hS hw {g} hx {r T'} hm h:=
 @aQ L w0 w rows ops rest o a Q 3 x ho hS hw g 21 hx _ T' hm kJ _ (ax6 r) h
def aeo {L w0 w rows ops rest o a Q x} ho hS hw {g} hx {r T'} hm h:=
 @mM L w0 w rows ops rest o a Q 37 x ho hS hw g hx (Rp.cells r) T' hm _ Tryz.underlying37 rfl arx h
theorem akh {L:World→Prop} {w0:World} {rows:List Row} {ops:Array Oper} {o o':Oper} {rest:List Oper} {a:Act} {Q:Exit→Act→World→Prop} {x:Operand} (ho:o.op= .load 37 x) (hw:Region.wanted o (yielded ops a.tmps)=true) {g:Nat} (hx:a.eval x= .pointer (some ⟨g,0,none⟩)) {r:Rp} {T':Nat} (hm:cZ g (Rp.cells r) T' rows) (hq:∀c a w,Q (.panic c) (a.put o.dst (.agg (Rp.cells r))) w→Q (.panic c) a w) (h:RunT Tryz.prog ops Q (St L w0 rows) (o'::rest) (a.put o.dst (.agg (Rp.cells r)))):RunT Tryz.prog ops Q (St L w0 rows) (o::o'::rest) a:=
 aeD hw hq (fun w hS=>kF hS ho hx hm (fun j v hj=>by simpa using hj) Tryz.underlying37 rfl arx) h
def auS {L w0 rows ops rest o a Q x} ho hw {g} hx {r:Rp} {T'} hm hq h:=
 @dn L w0 rows ops Q o rest a (.int .i64 r.f.zone) hw hq (fun w hS=> @gB L w0 w rows o a hS 3 x ho g 2 hx _ T' hm kJ _ (ax7 r)) h
def auT {L w0 rows ops rest o a Q x} ho hw {g} hx {r:Rp} {T'} hm hq h:=
 @dn L w0 rows ops Q o rest a (.int .i64 r.f.who) hw hq (fun w hS=> @gB L w0 w rows o a hS 3 x ho g 3 hx _ T' hm kJ _ (ax8 r)) h
def auU {L w0 rows ops rest o a Q x} ho hw {g} hx {r:Rp} {T'} hm hq h:=
 @dn L w0 rows ops Q o rest a (.int .i64 r.f.self) hw hq (fun w hS=> @gB L w0 w rows o a hS 3 x ho g 4 hx _ T' hm kJ _ (ax9 r)) h
def auV {L w0 rows ops rest o a Q x} ho hw {g} hx {r:Rp} {T'} hm hq h:=
 @dn L w0 rows ops Q o rest a (.int .i64 r.f.types) hw hq (fun w hS=> @gB L w0 w rows o a hS 3 x ho g 5 hx _ T' hm kJ _ (aya r)) h
def auW {L w0 rows ops rest o a Q x} ho hw {g} hx {r:Rp} {T'} hm hq h:=
 @dn L w0 rows ops Q o rest a (.int .i64 r.f.aV) hw hq (fun w hS=> @gB L w0 w rows o a hS 3 x ho g 6 hx _ T' hm kJ _ (ayb r)) h
def auX {L w0 rows ops rest o a Q x} ho hw {g} hx {r:Rp} {T'} hm hq h:=
 @dn L w0 rows ops Q o rest a (.int .i64 r.f.colors) hw hq (fun w hS=> @gB L w0 w rows o a hS 3 x ho g 7 hx _ T' hm kJ _ (ayc r)) h
def auY {L w0 rows ops rest o a Q x} ho hw {g} hx {r:Rp} {T'} hm hq h:=
 @dn L w0 rows ops Q o rest a (.int .i64 r.f.aP) hw hq (fun w hS=> @gB L w0 w rows o a hS 3 x ho g 8 hx _ T' hm kJ _ (ayd r)) h
def auZ {L w0 rows ops rest o a Q x} ho hw {g} hx {r:Rp} {T'} hm hq h:=
 @dn L w0 rows ops Q o rest a (.string r.f.sub) hw hq (fun w hS=> @gB L w0 w rows o a hS 9 x ho g 9 hx _ T' hm GY _ (aye r)) h
def as3 {L w0 rows ops rest o a Q x} ho hw {g} hx {r:Rp} {T'} hm hq h:=
 @dn L w0 rows ops Q o rest a (.int .i64 r.f.keys) hw hq (fun w hS=> @gB L w0 w rows o a hS 3 x ho g 10 hx _ T' hm kJ _ (aw5 r)) h
def as4 {L w0 rows ops rest o a Q x} ho hw {g} hx {r:Rp} {T'} hm hq h:=
 @dn L w0 rows ops Q o rest a (.int .i64 r.f.dJ) hw hq (fun w hS=> @gB L w0 w rows o a hS 3 x ho g 11 hx _ T' hm kJ _ (aw6 r)) h
def as5 {L w0 rows ops rest o a Q x} ho hw {g} hx {r:Rp} {T'} hm hq h:=
 @dn L w0 rows ops Q o rest a (.int .i64 r.f.pk) hw hq (fun w hS=> @gB L w0 w rows o a hS 3 x ho g 12 hx _ T' hm kJ _ (aw7 r)) h
def as6 {L w0 rows ops rest o a Q x} ho hw {g} hx {r:Rp} {T'} hm hq h:=
 @dn L w0 rows ops Q o rest a (.int .i64 r.f.pn) hw hq (fun w hS=> @gB L w0 w rows o a hS 3 x ho g 13 hx _ T' hm kJ _ (aw8 r)) h
def as7 {L w0 rows ops rest o a Q x} ho hw {g} hx {r:Rp} {T'} hm hq h:=
 @dn L w0 rows ops Q o rest a (.int .i64 r.f.tk) hw hq (fun w hS=> @gB L w0 w rows o a hS 3 x ho g 14 hx _ T' hm kJ _ (aw9 r)) h
def as8 {L w0 rows ops rest o a Q x} ho hw {g} hx {r:Rp} {T'} hm hq h:=
 @dn L w0 rows ops Q o rest a (.int .i64 r.f.tn) hw hq (fun w hS=> @gB L w0 w rows o a hS 3 x ho g 15 hx _ T' hm kJ _ (axa r)) h
def atj {L w0 rows ops rest o a Q x} ho hw {g} hx {r:Rp} {T'} hm hq h:=
 @dn L w0 rows ops Q o rest a (.int .i64 r.f.vk) hw hq (fun w hS=> @gB L w0 w rows o a hS 3 x ho g 16 hx _ T' hm kJ _ (axb r)) h
def atl {L w0 rows ops rest o a Q x} ho hw {g} hx {r:Rp} {T'} hm hq h:=
 @dn L w0 rows ops Q o rest a (.int .i64 r.f.vn) hw hq (fun w hS=> @gB L w0 w rows o a hS 3 x ho g 17 hx _ T' hm kJ _ (axc r)) h
def aut {L w0 rows ops rest o a Q x} ho hw {g} hx {r:Rp} {T'} hm hq h:=
 @dn L w0 rows ops Q o rest a (.int .i64 r.on) hw hq (fun w hS=> @gB L w0 w rows o a hS 3 x ho g 0 hx _ T' hm kJ _ (azx r)) h
def asE {L w0 rows ops rest o a Q x} ho hw {g} hx {r:Rp} {T'} hm hq h:=
 @dn L w0 rows ops Q o rest a (.int .i64 r.who) hw hq (fun w hS=> @gB L w0 w rows o a hS 3 x ho g 1 hx _ T' hm kJ _ (azy r)) h
def auu {L w0 rows ops rest o a Q x} ho hw {g} hx {r:Rp} {T'} hm hq h:=
 @dn L w0 rows ops Q o rest a (.agg (aH.cells r.f)) hw hq (fun w hS=> @kF L w0 w rows o a hS 25 x ho g 2 hx _ _ T' hm (axf r) _ Tryz.underlying25 rfl vM) h
def asF {L w0 rows ops rest o a Q x} ho hw {g} hx {r:Rp} {T'} hm hq h:=
 @dn L w0 rows ops Q o rest a (.int .i64 r.d) hw hq (fun w hS=> @gB L w0 w rows o a hS 3 x ho g 18 hx _ T' hm kJ _ (ax3 r)) h
def arz {L w0 rows ops rest o a Q x} ho hw {g} hx {r:Rp} {T'} hm hq h:=
 @dn L w0 rows ops Q o rest a (.int .i64 r.n) hw hq (fun w hS=> @gB L w0 w rows o a hS 3 x ho g 19 hx _ T' hm kJ _ (ax4 r)) h
def auR {L w0 rows ops rest o a Q x} ho hw {g} hx {r:Rp} {T'} hm hq h:=
 @dn L w0 rows ops Q o rest a (.int .i64 r.z) hw hq (fun w hS=> @gB L w0 w rows o a hS 3 x ho g 20 hx _ T' hm kJ _ (ax5 r)) h
def arA {L w0 rows ops rest o a Q x} ho hw {g} hx {r:Rp} {T'} hm hq h:=
 @dn L w0 rows ops Q o rest a (.int .i64 r.c) hw hq (fun w hS=> @gB L w0 w rows o a hS 3 x ho g 21 hx _ T' hm kJ _ (ax6 r)) h
def asc {L w0 rows ops rest o a Q x} ho hw {g} hx {r:Rp} {T'} hm hq h:=
 @dn L w0 rows ops Q o rest a (.agg (Rp.cells r)) hw hq (fun w hS=> @kF L w0 w rows o a hS 37 x ho g 0 hx _ _ T' hm (fun j v hj=>by simpa using hj) _ Tryz.underlying37 rfl arx) h
theorem afo {L:World→Prop} {w0 w:World} {rows:List Row} {a:Act} (hS:St L w0 rows w) {fn:Func} {p q:Tmp} (hf:fn.results= #[.cell p 37, .tmp q]) {g:Nat} (hp:a.tmps.getD p undef= .pointer (some ⟨g,0,none⟩)) {r:Rp} {T':Nat} (hm:cZ g (Rp.cells r) T' rows) {v:Value} (hq:a.tmps.getD q undef=v) (hdef:a.defers=[]) {R:Ending→World→Prop} (hR:Below w0.heap.size w0 w→R (.returned (.tuple #[.agg (Rp.cells r),v])) w):bodyPost Tryz.prog fn R .ret a w:=
 bodyPost_ret ((gV hf a.tmps w g T' (Rp.cells r) (0,0) _ hp (hS.row hm) Tryz.underlying37 rfl arx).trans (by rw [hq])) hdef (hR hS.below)
theorem aus {L:World→Prop} {w0 w:World} {rows:List Row} {a:Act} (hS:St L w0 rows w) {fn:Func} {p:Tmp} (hf:fn.results= #[.cell p 37]) {g:Nat} (hp:a.tmps.getD p undef= .pointer (some ⟨g,0,none⟩)) {r:Rp} {T':Nat} (hm:cZ g (Rp.cells r) T' rows) (hdef:a.defers=[]) {R:Ending→World→Prop} (hR:Below w0.heap.size w0 w→R (.returned (.agg (Rp.cells r))) w):bodyPost Tryz.prog fn R .ret a w:=
 St.result hS hf hp hm Tryz.underlying37 rfl arx hdef hR
theorem aAP (r q:Rp) (w:World):(binOp .eql 37 (.agg r.cells) (.agg q.cells)).run Tryz.prog w= .ok (.bool (arb r q)) w:=by
 rw [run_eql_struct,run_equalIn_agg w 9999 37 _ _ (by kernel_rfl) (by kernel_rfl)]
 simp [arb,fK,Rp.cells,go_sem,Tryz.underlying37,Tryz.fieldsF,Tryz.stoodF,Tryz.underlying25,Tryz.underlying23,Tryz.underlying3,Tryz.underlying9]
 simp only [Bool.and_assoc]
 iterate 21 (refine yX (by simp) ?_)
 split
 ·rename_i h;rw [h];simp
 ·rename_i h;rw [beq_eq_false_iff_ne.2 h]
theorem aCI (r q:Rp) (w:World):(binOp .neq 37 (.agg r.cells) (.agg q.cells)).run Tryz.prog w= .ok (.bool (!arb r q)) w:=by
 have h:=aAP r q w
 rw [run_eql_struct] at h
 rw [run_neq_struct]
 generalize (Op.equalIn 10000 37 (.agg r.cells) (.agg q.cells)).run Tryz.prog w=x at *
 cases x<;>simp_all [Result.andThen]
theorem Tf (c:UInt8) (r:Str):iK.isPrefixOf (c::r)=(c==44&&r.head?==some 32):=by
 cases r with
 |nil=>simp [iK,List.isPrefixOf]
 |cons d r=>
  rw [Bool.eq_iff_iff]
  simp [iK]
  constructor
  ·rintro ⟨h1,h2⟩;exact ⟨h1.symm,h2.symm⟩
  ·rintro ⟨h1,h2⟩;exact ⟨h1.symm,h2.symm⟩
theorem aeT:∀(s cur:Str),(Lib.index s iK= -1∧fQ false cur s=[cur++s])∨(∃i:Nat,Lib.index s iK=i∧i+2≤s.length∧fQ false cur s=(cur++s.take i)::fQ false [] (s.drop (i+2)))
 |[],cur=> .inl ⟨rfl,by rw [fQ,List.append_nil]⟩
 |c::r,cur=>by
  by_cases h:c=44∧r.head?=some 32
  ·obtain ⟨rfl,hr⟩:=h
   cases r with
   |nil=>cases hr
   |cons d r=>
    obtain rfl:d=32:=by simpa using hr
    refine .inr ⟨0,?_,by simp,?_⟩
    ·unfold Lib.index
     rw [Tf];rfl
    ·rw [Je];simp
  ·have hp:iK.isPrefixOf (c::r)=false:=by
    rw [Tf]
    cases hb:(c==44&&r.head?==some 32) with
    |false=>rfl
    |true=>simp only [Bool.and_eq_true,beq_iff_eq] at hb;exact absurd hb h
   rw [wW _ _ _ h]
   unfold Lib.index
   rw [hp,if_neg (by decide)]
   rcases aeT r (cur++[c]) with ⟨h1,h2⟩|⟨i,h1,h2,h3⟩
   ·left;rw [h1,h2];simp
   ·right
    refine ⟨i+1,?_,by simp;omega,?_⟩
    ·rw [h1,if_neg (by rw [beq_iff_eq];omega)];simp
    ·rw [h3];simp
theorem ab9 (s:Str):(Lib.index s iK= -1∧jV s=[s])∨(∃i:Nat,Lib.index s iK=i∧i+2≤s.length∧jV s=s.take i::jV (s.drop (i+2))):=by
 have:=aeT s []
 simpa [jV] using this
def DY (rest:Str) (i:Nat):Bool:=Lib.hasPrefix rest (wd bK i)&&(rest.length==(wd bK i).length || rest.getD (wd bK i).length 0==43)
def J5 (st:Nat × Str) (i:Nat):Nat × Str:=if DY st.2 i=true then (st.1+2 ^ i,(st.2.drop (wd bK i).length).drop 1) else st
def kQ (s:Str) (k:Nat):Nat × Str:=(List.range k).foldl J5 (0,s)
def CZ (s:Str):Option Nat:=if s=pJ then some 0 else if dA (kQ s 17).1=s then some (kQ s 17).1 else none
theorem ahj:∀i:Fin 17,wd bK i.val≠[]:=by decide +kernel
end Go.Proofs.YtdicgggkdmkklaaGreatDoor
