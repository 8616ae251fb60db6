/- Abilities in memory: their lists, handed in or made; what the functions of the parts say of them. Conditions: the lists lie in memory, each has fewer than a million elements. Steps of a walk: the r -/
import Derived.Test.YtdicgggkdmkklaaGreatDoorMVPrice
import Derived.Test.YtdicgggkdmkklaaGreatDoorQ16
import Derived.Test.YtdicgggkdmkklaaGreatDoorQ19
import Derived.Test.YtdicgggkdmkklaaGreatDoorQ13
import Derived.Test.YtdicgggkdmkklaaGreatDoorMVSp
import Derived.Test.YtdicgggkdmkklaaGreatDoorMTp
import Derived.Test.YtdicgggkdmkklaaGreatDoorMEParse
import Derived.Test.YtdicgggkdmkklaaGreatDoorQ3
import Derived.Test.YtdicgggkdmkklaaGreatDoorMVReg
set_option linter.all false
set_option maxRecDepth 100000
set_option maxHeartbeats 16000000
namespace Go.Proofs.YtdicgggkdmkklaaGreatDoor
open Go.ChangeShapes Go.WideShapes Go.RowKit
def aqh (A:Option Addr) (l:List Sp) (w:World):Prop:=l=[]∨∃b off,A=some ⟨b,off,none⟩∧∀(k:Nat) (s:Sp),l[k]? =some s→w.rangeAt b (off+k * 18) (Sp.cells s).toList
theorem aqh.keep {A:Option Addr} {l:List Sp} {w1 w2:World} (h:aqh A l w1) (hb:Below w1.heap.size w1 w2):aqh A l w2:=h.imp id fun ⟨b,off,e,hm⟩=>⟨b,off,e,fun k r hk j v hj=>cell_below hb (hm k r hk j v hj)⟩
theorem aqh.zB {A:Option Addr} {l:List Sp} {w:World} (h:aqh A l w) {k:Nat} (hk:k<l.length):∃b off,A=some ⟨b,off,none⟩:=by
 rcases h with rfl|⟨b,off,e,_⟩
 ·simp at hk
 ·exact ⟨b,off,e⟩
theorem aqh.row {b off:Nat} {l:List Sp} {w:World} (h:aqh (some ⟨b,off,none⟩) l w) {k:Nat} {s:Sp} (hk:Hid (l[k]? =some s)):w.rangeAt b (off+k * 18) (Sp.cells s).toList:=by
 rcases h with rfl|⟨b,off,e,hm⟩
 ·have:=hk.out;simp at this
 ·injection e with e
  injection e with e1 e2
  subst e1 e2
  exact hm k s hk.out
def Ax.ab (x:Ax) (mods:List Md) (specs:List Sp) (qE:List Ef):Ab:=⟨x.kind,x.f,mods,x.pr,x.slow,x.t,x.may,specs,qE,x.r⟩
structure anc (x:Ax) (mods:List Md) (specs:List Sp) (qE:List Ef) (es:List EV) (w:World):Prop where
 mn:x.mods.n=mods.length
 ml:mods.length<1000000
 ma:uj x.mods.a mods w
 sn:x.specs.n=specs.length
 sl:specs.length<100000000
 sa:aqh x.specs.a specs w
 en:x.qE.n=es.length
 el:es.length<1000000
 ea:qG x.qE.a es w
 ee:es.map Prod.fst=qE
theorem anc.keep {x:Ax} {mods:List Md} {specs:List Sp} {qE:List Ef} {es:List EV} {w1 w2:World} (h:anc x mods specs qE es w1) (hb:Below w1.heap.size w1 w2):anc x mods specs qE es w2:= { h with ma:=h.ma.keep hb,sa:=h.sa.keep hb,ea:=h.ea.keep hb }
theorem anc.aAb {x:Ax} {mods:List Md} {specs:List Sp} {qE:List Ef} {es:List EV} {w:World} (h:anc x mods specs qE es w):x.qE.n=qE.length:=by rw [←h.ee,List.length_map,h.en]
structure aq5 (x:Ax) (mods:List Md) (specs:List Sp) (qE:List Ef) (es:List EV) (w:World):Prop where
 v:aew w
 at_:anc x mods specs qE es w
theorem auq (x:Ax) (mods:List Md) (specs:List Sp) (qE:List Ef) (es:List EV):∀w1 w2:World,aq5 x mods specs qE es w1→Below w1.heap.size w1 w2→aq5 x mods specs qE es w2:=fun _ _ h hb=>⟨h.v.below hb,h.at_.keep hb⟩
class tX (L:World→Prop) (x:Ax) (mods:outParam (List Md)) (specs:outParam (List Sp)) (qE:outParam (List Ef)) (es:outParam (List EV)):Prop where
 h:∀w,L w→aq5 x mods specs qE es w
section
variable {L:World→Prop} {x:Ax} {mods:List Md} {specs:List Sp} {qE:List Ef} {es:List EV} {A:Option Addr} {n c:Nat}
theorem tX.aEp (k:tX L x mods specs qE es):Sub L aew:=⟨fun w h=>(k.h w h).v⟩
theorem tX.sM (k:tX L x mods specs qE es):Sub L bZ:=⟨fun w h=>(k.h w h).v.m⟩
theorem tX.sT (k:tX L x mods specs qE es):Sub L ahi:=⟨fun w h=>(k.h w h).v.t⟩
theorem tX.sL (k:tX L x mods specs qE es):Sub L Laid:=⟨fun w h=>(k.h w h).v.m.base⟩
theorem tX.aym (k:tX L x mods specs qE es):mG 27 #[.slice x.mods.a x.mods.n x.mods.c] L (.string (B (eH mods))):=⟨fun w h=>by
 have h:=k.h w h
 rw [h.at_.mn];exact Xr mods _ (Lib.hid rfl) x.mods.a x.mods.c w ⟨h.v.m.base,h.at_.ma⟩ h.at_.ml⟩
theorem tX.atW (k:tX L x mods specs qE es):mG 32 #[.slice x.mods.a x.mods.n x.mods.c] L (.string (B (eH mods))):=⟨fun w h=>by
 have h:=k.h w h
 rw [h.at_.mn];exact Qd mods _ (Lib.hid rfl) x.mods.a x.mods.c w ⟨h.v.m.base,h.at_.ma⟩ h.at_.ml⟩
theorem tX.aAN (k:tX L x mods specs qE es):mG 42 #[.slice x.qE.a x.qE.n x.qE.c] L (.string (B (jW qE))):=⟨fun w h=>by
 have h:=k.h w h
 rw [h.at_.en,←h.at_.ee];exact UY es x.qE.a x.qE.c _ (Lib.hid rfl) w ⟨h.v.m,h.at_.ea⟩ h.at_.el⟩
theorem tX.aDR (k:tX L x mods specs qE es):mG 46 #[.slice x.qE.a x.qE.n x.qE.c] L (.string (B (jW qE))):=⟨fun w h=>by
 have h:=k.h w h
 rw [h.at_.en,←h.at_.ee];exact xO es x.qE.a x.qE.c _ (Lib.hid rfl) w ⟨h.v.m,h.at_.ea⟩ (by have:=h.at_.el;omega)⟩
end
theorem aqP:∀l:List Str,(Lib.join l [32]).length≤l.length+(l.map List.length).sum
 |[]=>by simp [Lib.join_nil]
 |[x]=>by rw [Lib.join_one];simp
 |x::y::r=>by
  have ih:=aqP (y::r)
  rw [fA]
  simp only [List.length_append,List.length_cons,List.length_nil,List.map_cons,List.sum_cons] at ih ⊢
  omega
instance aCE {l:List Str} {n:Nat} [h:arB l n]:Len (Lib.join l [32]) n:=⟨Nat.le_trans (aqP l) h.le⟩
instance aEz {l:List Ef} :Len (jW l) 700000000:=⟨ayq l⟩
instance aEA {l:List Md} :Len (eH l) 7000000:=⟨Gt l⟩
instance axV {s:Sp} :Len (MI s) 1000020:=⟨by
 have h1:=oH (f:=s.f)
 have h2:aen.length=10:=rfl
 have h3:anz.length=8:=rfl
 unfold MI
 split
 ·split
  ·simp only [List.length_cons,List.length_append,List.length_nil];split<;>simp<;>omega
  ·omega
 ·simp⟩
instance axW {t:Tg} :Len (aei t) 1000040:=⟨by
 have h1:=oH (f:=t.f)
 have h2:=ano t.who
 have h3:=axl t.k.toNat
 unfold aei
 split
 ·unfold ajQ aqW aon
  simp only [List.length_append]
  split<;>split<;>simp<;>omega
 ·simp⟩
instance axU {p:Pr} :Len (LX p) 20200:=⟨by
 cases h:aeF p with
 |false=>rw [awd h];simp
 |true=>
  obtain ⟨m,dJ,fM,life⟩:=p
  have hv:=h
  simp only [aeF,Bool.and_eq_true,decide_eq_true_eq] at h
  have:SQ life:=⟨by omega,by omega⟩
  have h1:=(auC (m:=m) (dJ:=dJ) (fM:=fM) (life:=life) rfl).le
  have h2:=aq2 [44,32] (by decide) (akd ⟨m,dJ,fM,life⟩)
  rw [show LX ⟨m,dJ,fM,life⟩=_ from if_pos hv]
  unfold ajK
  simp only [List.length_cons,List.length_append,List.length_nil]
  split
  ·rw [Lib.join_one];simp
  ·have e:iK=[44,32]:=rfl
   rw [e];omega⟩
theorem ayA (r:Rp):(aeg r).length≤90000000:=by
 cases h:ael r with
 |false=>rw [asq h];simp
 |true=>
  obtain ⟨on,who,f,d,n,z,c⟩:=r
  obtain ⟨_,_,_,_,f1,f2,hac⟩:=aoZ h
  have h1:=oH (f:=f)
  have h2:=ari on who d
  have h3:=ano who
  have hn:0≤n∧n≤1000000:=by unfold ash at hac;simp only at hac;omega
  have h4:=asM d n z c hn
  rw [show aeg ⟨on,who,f,d,n,z,c⟩=anj ⟨on,who,f,d,n,z,c⟩ from if_pos h]
  unfold anj aru
  simp only [List.length_append,List.length_cons]
  split<;>simp<;>omega
instance aEB {r:Rp} :Len (aeg r) 90000000:=⟨ayA r⟩
section
variable {L':World→Prop} [Sub L' bZ]
instance aFE (r:Rp):mG 28 #[.agg (Rp.cells r)] L' (.bool (ael r)):=⟨fun w hl=>awP r w (Sub.sub w hl)⟩
instance aEu (r:Rp):mG 39 #[.agg (Rp.cells r)] L' (.string (B (aeg r))):=⟨fun w hl=>avx r w (Sub.sub w hl)⟩
instance aE5 (r:Rp):mG 35 #[.agg (Rp.cells r)] L' (.bool (ael r)):=⟨fun w hl=>avj r _ (Lib.hid rfl) w (Sub.sub w hl)⟩
instance aD7 (r:Rp):mG 44 #[.agg (Rp.cells r)] L' (.string (B (aeg r))):=⟨fun w hl=>axx r w (Sub.sub w hl)⟩
end
end Go.Proofs.YtdicgggkdmkklaaGreatDoor
namespace Go.Proofs.YtdicgggkdmkklaaGreatDoor
open Go.ChangeShapes Go.WideShapes Go.RowKit
def newRow (w:World) (g:Nat):Option Row:=match w.heap[g]? with
 |some (.cells cs T (0,0))=>some (g,cs,T)
 |_=>none
def ajJ (n:Nat) (w:World):List Row:=(List.range' n (w.heap.size - n)).filterMap (newRow w)
theorem avD {w:World} {g:Nat} {x:Row} (h:newRow w g=some x):x.1=g∧w.heap[g]? =some (.cells x.2.1 x.2.2 (0,0)):=by
 unfold newRow at h
 split at h
 ·rename_i hh
  obtain rfl:=Option.some.inj h
  exact ⟨rfl,hh⟩
 ·cases h
theorem avE {n:Nat} {w:World} {x:Row} (h:x∈ajJ n w):n≤x.1∧w.heap[x.1]? =some (.cells x.2.1 x.2.2 (0,0)):=by
 obtain ⟨g,hg,hx⟩:=List.mem_filterMap.1 h
 obtain ⟨h1,h2⟩:=avD hx
 subst h1
 exact ⟨(List.mem_range'_1.1 hg).1,h2⟩
theorem asP {n g T:Nat} {w:World} {cs:Array Value} (h1:n≤g) (h:w.heap[g]? =some (.cells cs T (0,0))):(g,cs,T)∈ajJ n w:=by
 have hlt:=(Array.getElem?_eq_some_iff.1 h).1
 exact List.mem_filterMap.2 ⟨g,List.mem_range'_1.2 ⟨h1,by omega⟩,by simp [newRow,h]⟩
theorem awj (n:Nat) (w:World):((ajJ n w).map (·.1)).Nodup:=by
 have key:∀l:List Nat,l.Nodup→((l.filterMap (newRow w)).map (·.1)).Nodup∧∀y∈(l.filterMap (newRow w)).map (·.1),y∈l:=by
  intro l
  induction l with
  |nil=>intro _;exact ⟨by simp,by simp⟩
  |cons a l ih=>
   intro h
   rw [List.nodup_cons] at h
   obtain ⟨i1,i2⟩:=ih h.2
   rw [List.filterMap_cons]
   split
   ·exact ⟨i1,fun y hy=> .tail _ (i2 y hy)⟩
   ·rename_i x hx
    obtain ⟨e,_⟩:=avD hx
    rw [List.map_cons,e]
    exact ⟨List.nodup_cons.2 ⟨fun hm=>h.1 (i2 a hm),i1⟩,fun y hy=>by
     rcases List.mem_cons.1 hy with rfl|hy
     ·exact .head _
     ·exact .tail _ (i2 y hy)⟩
 exact (key _ (List.nodup_range' ..)).1
section
variable {L:World→Prop} {w0 w:World} {rows:List Row}
theorem St.all (h:St L w0 rows w) {w':World} (hb:Below w.heap.size w w'):St L w0 (rows++ajJ w.heap.size w') w':=by
 have h':=h.mono hb
 refine ⟨h'.base,h'.keeps,h'.below,fun x hx=> ?_,?_⟩
 ·rcases List.mem_append.1 hx with hx|hx
  ·exact h'.has x hx
  ·obtain ⟨a,b⟩:=avE hx
   exact ⟨b,Nat.le_trans h.below.size a⟩
 ·rw [List.map_append,List.nodup_append]
  refine ⟨h.apart,awj _ _,fun a ha b hb' e=> ?_⟩
  obtain ⟨x,hx,rfl⟩:=List.mem_map.1 ha
  obtain ⟨y,hy,rfl⟩:=List.mem_map.1 hb'
  have h1:=(Array.getElem?_eq_some_iff.1 (h.has x hx).1).1
  have h2:=(avE hy).1
  omega
def aep (X:List Row) (w:World):Prop:=∀x∈X,w.heap[x.1]? =some (.cells x.2.1 x.2.2 (0,0))
theorem qH.kept {b:Nat} {es:List EV} {v:Value} {w2:World} (h:qH w b es v) (hk:aep (ajJ b w) w2):qH w2 b es v:=by
 have keep:∀g cs T,b≤g→w.heap[g]? =some (.cells cs T (0,0))→w2.heap[g]? =some (.cells cs T (0,0)):=fun g cs T h1 h2=>hk (g,cs,T) (asP h1 h2)
 obtain ⟨⟨o1,o2⟩,o3⟩:=h
 refine ⟨⟨o1,?_⟩,fun p hp=> ?_⟩
 ·rcases o2 with o2|⟨g,cap,cur,hv,hb,hh,hrest⟩
  ·exact .inl o2
  ·exact .inr ⟨g,cap,cur,hv,hb,keep _ _ _ hb hh,hrest⟩
 ·obtain ⟨m1,m2,m3⟩:=o3 p hp
  refine ⟨m1,m2,?_⟩
  rcases m3 with m3|⟨g,cur,ha,hb,hg,hm⟩
  ·exact .inl m3
  ·exact .inr ⟨g,cur,ha,hb,keep _ _ _ hb hg,hm⟩
theorem aCk (x:Str) (hx:x.length<100000000) (hS:St L w0 rows w) (hl:bZ w):Calls Tryz.prog 126 #[.string (B x)] w fun e w'=>∃A n c es X,e= .returned (.tuple #[.slice A n c, .int .i64 (BN (kH x).isSome)])∧Hid ((kH x).getD []=es.map Prod.fst∧n=es.length∧es.length<1000000)∧St L w0 (rows++X) w'∧Hid (∀w2,aep X w2→qG A es w2):=
 (EO x (by omega) (fun y hy=>by have:=QA x y hy;omega) w hl).mono fun e w' ⟨hb,hr⟩=>by
  rcases hr with ⟨h1,h2⟩|⟨es,v,h1,h2,own⟩
  ·exact ⟨none,0,0,[],[],by rw [h2,h1];rfl,Lib.hid (by rw [h1];exact ⟨rfl,rfl,by decide⟩),by rw [List.append_nil];exact hS.mono hb,Lib.hid fun w2 _=>⟨.inl rfl,by simp⟩⟩
  ·obtain ⟨A,c,hv⟩:=own.form
   have h8:=(Ji h1).2.1
   rw [List.length_map] at h8
   exact ⟨A,es.length,c,es,ajJ w.heap.size w',by rw [h2,h1,hv];rfl,Lib.hid (by rw [h1];exact ⟨rfl,rfl,by omega⟩),hS.all hb,Lib.hid fun w2 hk=>((hv ▸ own).kept hk).arg.2⟩
end
section
variable {L':World→Prop}
theorem aBF (o:Option Rp):aA9 o= .tuple #[.agg (Rp.cells (o.getD I5)), .int .i64 (BN o.isSome)]:=by cases o<;>rfl
instance aD5 [Sub L' bZ] (s:Str) [h:Fc (s.length<90000000)]:mG 121 #[.string (B s)] L' (.tuple #[.agg (Rp.cells ((am8 s).getD I5)), .int .i64 (BN (am8 s).isSome)]):=⟨fun w hl=>by rw [←aBF];exact axz s h.h w (Sub.sub w hl)⟩
end
theorem ayi:∀(s:Str) (d:Nat) (p:Str × Str),qy d s=some p→p.1.length+p.2.length≤s.length
 |[],d,p,h=>by rw [qy] at h;cases h
 |c::r,d,p,h=>by
  rw [qy] at h
  split at h
  ·obtain rfl:=Option.some.inj h
   simp;omega
  ·cases hq:qy (bP d c.toNat) r with
   |none=>rw [hq] at h;cases h
   |some q=>
    rw [hq] at h
    obtain rfl:=Option.some.inj h
    have:=ayi r _ q hq
    simp;omega
theorem aC1 (s:Str):(wc1 s).length≤s.length∧(wc2 s).length≤s.length:=by
 unfold wc1 wc2
 cases h:qy 0 s with
 |none=>simp
 |some p=>have:=ayi s 0 p h;simp;omega
end Go.Proofs.YtdicgggkdmkklaaGreatDoor
namespace Go.Proofs.YtdicgggkdmkklaaGreatDoor
open Go.ChangeShapes Go.WideShapes Go.RowKit
def AbR (a:Ab) (w0:World) (e:Ending) (w':World):Prop:=∃x es,e= .returned (.agg (Ax.cells x))∧x.ab a.mods a.specs a.qE=a∧(∀w2,aep (ajJ w0.heap.size w') w2→anc x a.mods a.specs a.qE es w2)∧Below w0.heap.size w0 w'
theorem aod (s:Str):ad6 s=if s≠[]∧aeh (aek s)=s then some (aek s) else none:=rfl
theorem av4 {x:Ax} {w:World} (h1:x.mods=⟨none,0,0⟩) (h2:x.specs=⟨none,0,0⟩) (h3:x.qE=⟨none,0,0⟩):anc x [] [] [] [] w:=⟨by rw [h1];rfl,by decide, .inl rfl,by rw [h2];rfl,by decide, .inl rfl,by rw [h3];rfl,by decide,⟨.inl rfl,by simp⟩,rfl⟩
theorem awG (s:Str):(Lib.cut s [41,32]).1=(aq0 s).1∧(Lib.cut s [41,32]).2.1=(aq0 s).2:=by
 have key:∀s:Str,(Lib.index s [41,32]= -1∧aq0 s=(s,[]))∨(∃i:Nat,Lib.index s [41,32]=i∧aq0 s=(s.take i,s.drop (i+2))):=by
  intro s
  induction s with
  |nil=>exact .inl ⟨rfl,rfl⟩
  |cons c r ih=>
   by_cases h:c=41∧r.head?=some 32
   ·obtain ⟨rfl,hr⟩:=h
    cases r with
    |nil=>cases hr
    |cons d r=>
     obtain rfl:d=32:=by simpa using hr
     refine .inr ⟨0,?_,?_⟩
     ·unfold Lib.index;simp [List.isPrefixOf]
     ·rw [aq0,if_pos ⟨rfl,rfl⟩];rfl
   ·have hp:([41,32]:Str).isPrefixOf (c::r)=false:=by
     cases r with
     |nil=>simp [List.isPrefixOf]
     |cons d r=>
      rw [←Bool.not_eq_true]
      simp [List.isPrefixOf]
      intro h1 h2
      exact h ⟨h1.symm,by rw [←h2];rfl⟩
    rw [aq0,if_neg h]
    unfold Lib.index
    rw [hp,if_neg (by decide)]
    rcases ih with ⟨h1,h2⟩|⟨i,h1,h2⟩
    ·left;rw [h1,h2];exact ⟨rfl,rfl⟩
    ·right
     refine ⟨i+1,?_,?_⟩
     ·rw [h1,if_neg (by rw [beq_iff_eq];omega)];simp
     ·rw [h2];simp
 unfold Lib.cut
 rcases key s with ⟨h1,h2⟩|⟨i,h1,h2⟩
 ·rw [h1,h2];exact ⟨rfl,rfl⟩
 ·rw [h1,h2]
  simp only [Int.toNat_natCast,List.length_cons,List.length_nil]
  rw [if_pos (by omega)]
  exact ⟨rfl,rfl⟩
attribute [local irreducible] wpList Code.wp Calls dh fK bW am8 fF kH am9 aoa asx
theorem ayv (s:Str) (hs:s.length<90000000) (hp:Lib.hasPrefix s aeH=true) (w0:World) (hl:aew w0):Calls Tryz.prog 47 #[.string (B s)] w0 (AbR (aek s) w0):=by
 obtain ⟨G,hG⟩:∃G,aek s=G:=⟨_,rfl⟩
 have hg:G=⟨5,aaB,[],RD,false,adY,false,[],[],(am8 (Lib.trimPrefix s aeH)).getD I5⟩:=by rw [←hG];unfold aek;rw [if_pos hp]
 rw [hG]
 have HG:=Lib.hid hg
 have hS:=St.start hl fun _ _ h hb=>h.below hb
 have:Fc ((Lib.trimPrefix s [114,101,112,108,97,99,101,32]).length<90000000):=⟨by unfold Lib.trimPrefix;split<;>(try simp)<;>omega⟩
 have hp1:Lib.hasPrefix s [114,101,112,108,97,99,101,32]=true:=hp
 clear hp hg hG
 go_in
 go_wp2_with (first|(have hq:=iE;subst hq)|(have hq:=sE;subst hq)|refine s0 ?_|(refine s1 ?_;clear hS;intro w hS)|(refine s2 ?_;clear hS;intro g w hS)|(refine s4 ?_;clear hS;intro g cur cw w hw hcw hS)|(refine s3 ?_ ?_<;>intro hb<;>(try subst hb)<;>(try (exfalso;first|omega|exact Bool.noConfusion hb))))
 all_goals first
  |(refine res1 hS ?_;refine ⟨_,[],rfl,by rw [HG.out];rfl,by rw [HG.out];exact fun _ _=>av4 rfl rfl rfl,hS.below⟩)
theorem awJ (s:Str) (hs:s.length<90000000) (hq:Lib.hasPrefix s aeH=false) (hp:Lib.hasPrefix s ajL=true) (w0:World) (hl:aew w0):Calls Tryz.prog 47 #[.string (B s)] w0 (AbR (aek s) w0):=by
 obtain ⟨t,ht⟩:∃t,Lib.trimPrefix s ajL=t:=⟨_,rfl⟩
 have htl:t.length<90000000:=by rw [←ht];unfold Lib.trimPrefix;split<;>(try simp)<;>omega
 have:jr t:=⟨by omega⟩
 have hml:(Lib.cut t [41,32]).2.1.length<100000000:=by have:=(asj t [41,32]).2;omega
 obtain ⟨G,hG⟩:∃G,aek s=G:=⟨_,rfl⟩
 have hg:G=⟨1,(bW (Lib.cut t [41,32]).1).getD aaB,(fF (Lib.cut t [41,32]).2.1).getD [],RD,false,adY,false,[],[],I5⟩:=by
  rw [←hG];unfold aek;rw [if_neg (by rw [hq];decide),if_pos hp,ht,(awG t).1,(awG t).2]
 rw [hG]
 have HG:=Lib.hid hg
 have hS:=St.start hl fun _ _ h hb=>h.below hb
 have hp1:Lib.hasPrefix s [115,116,97,116,105,99,32,40]=true:=hp
 have hq1:Lib.hasPrefix s [114,101,112,108,97,99,101,32]=false:=hq
 have ht1:Lib.trimPrefix s [115,116,97,116,105,99,32,40]=t:=ht
 clear hp hq ht hg hG
 go_in
 go_wp2_with (first|(have hq:=iE;subst hq)|(have hq:=sE;subst hq)|(go_at_call 124;refine (aoS (Lib.cut t [41,32]).2.1 hml hS hS.laid.m.base).mono ?_;clear hS;rintro e w (⟨h1,rfl,hS⟩|⟨ms,gm,cur,cm,h1,rfl,hS,HMS⟩)<;>have H1:=Lib.hid h1<;>clear h1)|refine s0 ?_|(refine s1 ?_;clear hS;intro w hS)|(refine s2 ?_;clear hS;intro g w hS)|(refine s4 ?_;clear hS;intro g cur cw w hw hcw hS)|(refine s3 ?_ ?_<;>intro hb<;>(try subst hb)<;>(try (exfalso;first|omega|exact Bool.noConfusion hb))))
 all_goals refine res1 hS ?_
 ·refine ⟨_,[],rfl,?_,?_,hS.below⟩
  ·rw [HG.out,H1.out];rfl
  ·rw [HG.out,H1.out];exact fun _ _=>av4 rfl rfl rfl
 ·obtain ⟨_,m6,_⟩:=tY H1.out
  refine ⟨_,[],rfl,?_,?_,hS.below⟩
  ·rw [HG.out,H1.out];rfl
  ·rw [HG.out,H1.out]
   refine fun w2 hk=>⟨rfl,by show ms.length<1000000;omega, .inr ⟨gm,0,rfl,HMS.out _ (hk (gm,cur,iw) (asP (hS.has (gm,cur,iw) (by simp)).2 (hS.has (gm,cur,iw) (by simp)).1))⟩,rfl,show (0:Nat)<100000000 by decide, .inl rfl,rfl,show (0:Nat)<1000000 by decide,⟨.inl rfl,by simp⟩,rfl⟩
end Go.Proofs.YtdicgggkdmkklaaGreatDoor
namespace Go.Proofs.YtdicgggkdmkklaaGreatDoor
attribute [local irreducible] wpList Code.wp Calls dh fK
open Go.ChangeShapes Go.WideShapes Go.RowKit
def aeu (x y:Ax):Bool:=fK x.f y.f&&(((x.mods.n:Int)==y.mods.n)&&(arE x.pr y.pr&&((x.slow==y.slow)&&(asz x.t y.t&&((x.may==y.may)&&(((x.specs.n:Int)==y.specs.n)&&(((x.qE.n:Int)==y.qE.n)&&arb x.r y.r)))))))
theorem aCQ (x y:Ax) (w0:World):Calls Tryz.prog 25 #[.agg (Ax.cells x), .agg (Ax.cells y)] w0 fun e w'=>e= .returned (.bool (aeu x y))∧Below w0.heap.size w0 w':=by
 have hS:=St.Dj w0
 go_in
 go_upto_region 1 with (first|(have hq:=iE;subst hq)|(have hq:=sE;subst hq)|refine s0 ?_|(refine s1 ?_;clear hS;intro w hS)|(refine s2 ?_;clear hS;intro g w hS)|(refine s4 ?_;clear hS;intro g cur cw w hw hcw hS)|(refine s3 ?_ ?_<;>intro hb<;>(try subst hb)<;>(try (exfalso;first|omega|exact Bool.noConfusion hb))))
 simp only [List.append_eq,List.cons_append,List.nil_append]
 go_wp2_with (first|(have hq:=iE;subst hq)|(have hq:=sE;subst hq)|refine s0 ?_|(refine s1 ?_;clear hS;intro w hS)|(refine s2 ?_;clear hS;intro g w hS)|(refine s4 ?_;clear hS;intro g cur cw w hw hcw hS)|(refine s3 ?_ ?_<;>intro hb<;>(try subst hb)<;>(try (exfalso;first|omega|exact Bool.noConfusion hb))))
 all_goals go_ret
 all_goals refine ⟨aX ?_,hS.below⟩
 all_goals (clear hS;simp_all [aeu]<;>exact fin)
instance aEr {L':World→Prop} (x y:Ax):mG 25 #[.agg (Ax.cells x), .agg (Ax.cells y)] L' (.bool (aeu x y)):=⟨fun w _=>aCQ x y w⟩
theorem arp (p:Pr):(LX p==[])= !aeF p:=by
 cases h:aeF p with
 |false=>rw [awd h];rfl
 |true=>simpa using azs h
theorem ayC (p:Sp):(MI p==[])= !afp p:=by
 cases h:afp p with
 |false=>rw [azL h];rfl
 |true=>simpa using azK h
theorem aj1 (p:Pr):(LX p).isEmpty= !aeF p:=by rw [←arp];cases LX p<;>rfl
theorem avP (p:Sp):(MI p).isEmpty= !afp p:=by rw [←ayC];cases MI p<;>rfl
theorem aBw (l:Str):(!l.isEmpty)=(true&&(true&&(true&& !(l==[])))):=by cases l<;>rfl
theorem asQ {b:Bool} (h:(!b)=true):b=false:=by cases b<;>first|rfl|cases h
theorem aro {b:Bool} (h:(!b)=false):b=true:=by cases b<;>first|rfl|cases h
section
variable {x:Ax} {mods:List Md} {specs:List Sp} {qE:List Ef}
theorem asC {n:Nat} :(((n:Nat):Int)==((0:Nat):Int))=decide (n=0):=by
 rw [Bool.eq_iff_iff];simp
theorem azN (hk:x.kind=1) (hs:x.specs.n=specs.length) (he:x.qE.n=qE.length):aej (x.ab mods specs qE)=(aeu x ⟨x.kind,x.f,⟨x.mods.a,x.mods.n,x.mods.c⟩,RD,false,adY,false,⟨none,0,0⟩,⟨none,0,0⟩,I5⟩&&(dh x.f&&((x.f.zone==0)&& !(eH mods==[])))):=by
 unfold aej
 rw [if_pos (show (x.ab mods specs qE).k=1 from hk)]
 unfold aeu axI axJ vR aBO Ax.ab
 simp only [hs,he,asC,(lI x.f x.f).2 rfl,beq_self_eq_true,Bool.true_and,beq_false]
 ac_rfl
theorem aBE (hk:x.kind=5) (hm:x.mods.n=mods.length) (hs:x.specs.n=specs.length) (he:x.qE.n=qE.length):aej (x.ab mods specs qE)=(aeu x ⟨x.kind,aaB,⟨none,0,0⟩,RD,false,adY,false,⟨none,0,0⟩,⟨none,0,0⟩,x.r⟩&&ael x.r):=by
 unfold aej
 rw [if_neg (show ¬(x.ab mods specs qE).k=1 by show ¬x.kind=1;omega),if_pos (show (x.ab mods specs qE).k=5 from hk)]
 unfold aeu axH axI axJ aBO Ax.ab
 simp only [hm,hs,he,asC,(arF x.r x.r).2 rfl,Bool.and_true,beq_false]
 ac_rfl
def AbK (x z:Ax):Prop:=
 (x.kind=2∧z=⟨x.kind,aaB,⟨none,0,0⟩,RD,false,adY,false,⟨none,0,0⟩,⟨none,0,0⟩,I5⟩)∨(x.kind=3∧z=⟨x.kind,aaB,⟨none,0,0⟩,x.pr,x.slow,adY,false,⟨none,0,0⟩,⟨none,0,0⟩,I5⟩)∨(x.kind=4∧z=⟨x.kind,aaB,⟨none,0,0⟩,RD,false,x.t,x.may,⟨none,0,0⟩,⟨none,0,0⟩,I5⟩)
theorem aBf {z:Ax} (hK:AbK x z) (hm:x.mods.n=mods.length):aej (x.ab mods specs qE)=(aeu x ⟨z.kind,z.f,z.mods,z.pr,z.slow,z.t,z.may,⟨x.specs.a,x.specs.n,x.specs.c⟩,⟨x.qE.a,x.qE.n,x.qE.c⟩,z.r⟩&&(vE (x.ab mods specs qE)&&((!(x.kind==3) || aeF x.pr)&&(!(x.kind==4) || ajU x.t)))):=by
 obtain ⟨V,hV⟩:∃V,vE (x.ab mods specs qE)=V:=⟨_,rfl⟩
 rw [hV]
 rcases hK with ⟨hk,rfl⟩|⟨hk,rfl⟩|⟨hk,rfl⟩
 ·unfold aej
  rw [if_neg (show ¬(x.ab mods specs qE).k=1 by show ¬x.kind=1;omega),if_neg (show ¬(x.ab mods specs qE).k=5 by show ¬x.kind=5;omega),if_pos (show (x.ab mods specs qE).k=2 from hk),hV]
  unfold aeu axH axI axJ vR Ax.ab
  simp only [hm,hk,asC,beq_self_eq_true,Bool.true_and,beq_false,show ((2:Int)==3)=false by decide,show ((2:Int)==4)=false by decide,Bool.not_false,Bool.true_or,Bool.and_true]
  ac_rfl
 ·unfold aej
  rw [if_neg (show ¬(x.ab mods specs qE).k=1 by show ¬x.kind=1;omega),if_neg (show ¬(x.ab mods specs qE).k=5 by show ¬x.kind=5;omega),if_neg (show ¬(x.ab mods specs qE).k=2 by show ¬x.kind=2;omega),if_pos (show (x.ab mods specs qE).k=3 from hk),hV]
  unfold aeu axH axJ vR Ax.ab
  simp only [hm,hk,asC,beq_self_eq_true,azr,Bool.true_and,beq_false,Bool.not_true,Bool.false_or,show ((3:Int)==4)=false by decide,Bool.not_false,Bool.true_or,Bool.and_true]
  ac_rfl
 ·unfold aej
  rw [if_neg (show ¬(x.ab mods specs qE).k=1 by show ¬x.kind=1;omega),if_neg (show ¬(x.ab mods specs qE).k=5 by show ¬x.kind=5;omega),if_neg (show ¬(x.ab mods specs qE).k=2 by show ¬x.kind=2;omega),if_neg (show ¬(x.ab mods specs qE).k=3 by show ¬x.kind=3;omega),if_pos (show (x.ab mods specs qE).k=4 from hk),hV]
  unfold aeu axH axI vR Ax.ab
  simp only [hm,hk,asC,beq_self_eq_true,(avq x.t x.t).2 rfl,Bool.true_and,beq_false,Bool.not_true,Bool.false_or,show ((4:Int)==3)=false by decide,Bool.not_false,Bool.true_or,Bool.and_true]
  ac_rfl
theorem axZ (h1:¬x.kind=1) (h2:¬x.kind=2) (h3:¬x.kind=3) (h4:¬x.kind=4) (h5:¬x.kind=5):aej (x.ab mods specs qE)=false:=by
 unfold aej
 rw [if_neg (show ¬(x.ab mods specs qE).k=1 from h1),if_neg (show ¬(x.ab mods specs qE).k=5 from h5),if_neg (show ¬(x.ab mods specs qE).k=2 from h2),if_neg (show ¬(x.ab mods specs qE).k=3 from h3),if_neg (show ¬(x.ab mods specs qE).k=4 from h4)]
end
theorem arf {α:Type} {P:α→Bool} {l:List α} {k:Nat} {x:α} (h:(l.take k).all P=true) (hx:l[k]? =some x) (hp:P x=true):(l.take (k+1)).all P=true:=by
 rw [List.take_succ,hx,List.all_append,h];simp [hp]
theorem awE {α:Type} {P:α→Bool} {l:List α} {k:Nat} {x:α} (hx:l[k]? =some x) (hp:P x=false):l.all P=false:=by
 rw [←Bool.not_eq_true,List.all_eq_true]
 intro h
 have:=h x (List.mem_of_getElem? hx)
 rw [hp] at this;cases this
theorem aCU {a:Ab} (h:¬a.specs.length≤4):vE a=false:=by unfold vE;rw [decide_eq_false h];simp
theorem aCV {a:Ab} (h:a.qE.length=0∨8<a.qE.length):vE a=false:=by
 unfold vE
 rcases h with h|h
 ·rw [decide_eq_false (p:=1≤a.qE.length) (by omega)];simp
 ·rw [decide_eq_false (p:=a.qE.length≤8) (by omega)];simp
theorem aCW {a:Ab} (h:a.specs.all afp=false):vE a=false:=by unfold vE;rw [h];rfl
theorem aCX {a:Ab} (h:(a.qE.all fun e=>jl e (a.specs.length:Int))=false):vE a=false:=by unfold vE;rw [h];simp
theorem aCY {a:Ab} (h1:a.specs.all afp=true) (h2:a.specs.length≤4) (h3:(a.qE.all fun e=>jl e (a.specs.length:Int))=true) (h4:¬a.qE.length=0) (h5:a.qE.length≤8):vE a=true:=by
 unfold vE
 rw [h1,h3,decide_eq_true h2,decide_eq_true h5,decide_eq_true (show 1≤a.qE.length by omega)];rfl
end Go.Proofs.YtdicgggkdmkklaaGreatDoor
