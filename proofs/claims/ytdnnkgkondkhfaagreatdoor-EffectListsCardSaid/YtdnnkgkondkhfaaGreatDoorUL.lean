/- Steps of a walk: lists that the call owns, at the end of the rows of St: append, what they hold. Conditions: none. -/
import Derived.Test.YtdnnkgkondkhfaaGreatDoorQ3
import Derived.Maps.AppendAt
set_option linter.all false
set_option maxRecDepth 100000
set_option maxHeartbeats 16000000
namespace Go.Proofs.YtdnnkgkondkhfaaGreatDoor
open Go.ChangeShapes Go.WideShapes Go.RowKit
class ElT {α:Type} (TL T n:Nat) (f:α→Array Value):Prop where
 ty:Tryz.prog.underlying TL=some (.slice T)
 info:∃z b,(Tryz.prog.info? T).map (fun i=>(i.zero,i.size,i.bytes))=some (some z,n,b)∧z.cells.size=n∧b≤10000
 pos:0<n
 size:∀x,(f x).size=n
 one:∀x,∀u∈(f x).toList,u.oneCell'=true
def xI {α:Type} (f:α→Array Value) (xs:List α):List Value:=xs.flatMap fun x=>(f x).toList
def Gj {α:Type} (T n:Nat) (f:α→Array Value) (xs:List α) (A:Option Addr) (c:Nat) (wr:List Row):Prop:=
 (A=none∧c=0∧xs=[]∧wr=[])∨∃g cur,A=some ⟨g,0,none⟩∧wr=[(g,cur,T)]∧xs.length≤c∧c≤maxLen∧cur.size=c * n∧cur.toList.take (xs.length * n)=xI f xs
theorem Gj.nil {α:Type} {T n:Nat} {f:α→Array Value} :Gj T n f [] none 0 []:= .inl ⟨rfl,rfl,rfl,rfl⟩
inductive Ends (wr:List Row):List Row→List Row→Prop
 |n:Ends wr [] wr
 |c {x p r} :Ends wr p r→Ends wr (x::p) (x::r)
theorem Ends.eq {wr p r:List Row} (h:Ends wr p r):r=p++wr:=by
 induction h with
 |n=>rfl
 |c _ ih=>rw [ih];rfl
section
variable {α:Type} {TL T n:Nat} {f:α→Array Value} {xs:List α} {A:Option Addr} {c:Nat} {wr p:List Row} {L:World→Prop} {w0 w:World}
theorem St.nm {rows:List Row} (hS:St L w0 rows w) (_:Gj T n f xs A c wr) (he:Ends wr p rows):∃q,Hid (q=p)∧St L w0 (q++wr) w:=⟨p,Lib.hid rfl,he.eq ▸ hS⟩
theorem UO (h:ElT TL T n f):∀xs:List α,(xI f xs).length=xs.length * n
 |[]=>by simp [xI]
 |x::xs=>by
  have ih:=UO h xs
  have hx:=h.size x
  unfold xI at *
  rw [List.flatMap_cons,List.length_append,ih,List.length_cons,Array.length_toList,hx,Nat.succ_mul];omega
theorem adM (x:α):xI f (xs++[x])=xI f xs++(f x).toList:=by simp [xI]
theorem Gj.owns (h:Gj T n f xs A c wr) (hT:ElT TL T n f) (hS:St L w0 (p++wr) w):w.ownsRow w0.heap.size T n (.slice A xs.length c) xs.length (xI f xs):=by
 refine ⟨UO hT xs,?_⟩
 rcases h with ⟨rfl,rfl,rfl,_⟩|⟨g,cur,rfl,rfl,h1,h2,h3,h4⟩
 ·exact .inl ⟨rfl,rfl⟩
 ·have:=hS.has (g,cur,T) (by simp)
  exact .inr ⟨g,c,cur,rfl,this.2,this.1,h1,h2,h3,h4⟩
theorem St.app {x:α} (hS:St L w0 (p++wr) w) (h:Gj T n f xs A c wr) {v':Value} {w':World} (hown:w'.ownsRow w0.heap.size T n v' (xs.length+1) (xI f xs++(f x).toList))
 (hg:w.grownBy w' (Value.slice A xs.length c).ownBlock) (hat:v'.ownBlock=(Value.slice A xs.length c).ownBlock∨v'.ownBlock=some w.heap.size):
 ∃A' c' wr',v'= .slice A' (xs.length+1) c'∧Gj T n f (xs++[x]) A' c' wr'∧St L w0 (p++wr') w':=by
 rcases hown.2 with ⟨_,h0⟩|⟨g',cap',cur',rfl,hb,hh,h1,h2,h3,h4⟩
 ·omega
 refine ⟨some ⟨g',0,none⟩,cap',[(g',cur',T)],rfl, .inr ⟨g',cur',rfl,rfl,by simpa using h1,h2,h3,by rw [adM,List.length_append];exact h4⟩,?_⟩
 have hwr:∀k,(Value.slice A xs.length c).ownBlock=some k→∃cur,wr=[(k,cur,T)]:=fun k hk=>by
  rcases h with ⟨rfl,_⟩|⟨g,cur,rfl,rfl,_⟩
  ·cases hk
  ·obtain rfl:g=k:=by simpa [Value.ownBlock] using hk
   exact ⟨cur,rfl⟩
 have hne:∀y∈p,some y.1≠(Value.slice A xs.length c).ownBlock:=fun y hy e=>by
  obtain ⟨cur,rfl⟩:=hwr y.1 e.symm
  have:=hS.apart
  rw [List.map_append,List.nodup_append] at this
  exact this.2.2 y.1 (List.mem_map.2 ⟨y,hy,rfl⟩) y.1 (by simp) rfl
 have hlt:∀y∈p,y.1<w.heap.size:=fun y hy=>(Array.getElem?_eq_some_iff.1 (hS.has y (by simp [hy])).1).1
 refine ⟨hS.base,hS.keeps,hS.below.grown hg hS.below.size (fun k hk=> ?_),fun y hy=> ?_,?_⟩
 ·obtain ⟨cur,rfl⟩:=hwr k hk
  exact (hS.has (k,cur,T) (by simp)).2
 ·rcases List.mem_append.1 hy with hy|hy
  ·have:=hS.has y (by simp [hy])
   exact ⟨(hg.block y.1 (hlt y hy) (hne y hy)).trans this.1,this.2⟩
  ·obtain rfl:y=(g',cur',T):=by simpa using hy
   exact ⟨hh,hb⟩
 ·rw [List.map_append,List.nodup_append]
  have hn:=hS.apart
  rw [List.map_append,List.nodup_append] at hn
  refine ⟨hn.1,by simp,fun a ha b hb' e=> ?_⟩
  obtain rfl:b=g':=by simpa using hb'
  subst e
  obtain ⟨y,hy,rfl⟩:=List.mem_map.1 ha
  rcases hat with e|e
  ·exact hne y hy (by rw [←e];rfl)
  ·have:=hlt y hy
   have e2:y.1=w.heap.size:=by simpa [Value.ownBlock] using e
   omega
variable {rows:List Row} {ops:Array Oper} {rest:List Oper} {o:Oper} {a:Act} {Q:Exit→Act→World→Prop}
class atZ (TL:Nat) (v:Value) (cs:outParam (Array Value)) (T:outParam Nat):Prop where
 l:∀w,(Instr.buildSlice TL 1 #[(0,v)]).run Tryz.prog w= .ok (.slice (some ⟨w.heap.size,0,none⟩) 1 1) (w.alloc (.cells cs T))
end
def ZV (s:Str):Array Value:=#[.string (B s)]
instance:ElT 74 9 1 ZV:=⟨Tryz.underlying74,⟨.string ⟨#[]⟩,16,by kernel_rfl,rfl,by decide⟩,by decide,fun _=>rfl,fun x u hu=>by simp [ZV] at hu;subst hu;rfl⟩
instance (s:Str):atZ 74 (.string (B s)) (ZV s) 9:=⟨fun w=>by kernel_rfl⟩
theorem ajw (l:List Str):xI ZV l=strCells l:=by
 induction l with
 |nil=>rfl
 |cons x l ih=>unfold xI at *;rw [List.flatMap_cons,ih];rfl
theorem Gj.texts {l:List Str} {A:Option Addr} {c:Nat} {wr p rows:List Row} {L:World→Prop} {w0 w:World} (h:Gj 9 1 ZV l A c wr) (hS:St L w0 rows w) (hen:Ends wr p rows):Texts w w0.heap.size l (.slice A l.length c):=by
 have:=h.owns (TL:=74) inferInstance (hen.eq ▸ hS)
 rwa [ajw] at this
end Go.Proofs.YtdnnkgkondkhfaaGreatDoor
