/- A trigger handed in: what its value looks like. Conditions: none. Abilities, specifications, prices handed in: what their values look like. Conditions: none. -/
import Derived.Test.YtdicgggkdmkklaaGreatDoorQ14
import Derived.Test.YtdicgggkdmkklaaGreatDoorMTg
import Derived.Test.YtdicgggkdmkklaaGreatDoorMVLen
import Derived.ChangeArms
set_option linter.all false
set_option maxRecDepth 100000
set_option maxHeartbeats 16000000
namespace Go.Proofs.YtdicgggkdmkklaaGreatDoor
open Go.ChangeShapes Go.WideShapes Go.RowKit Go.Joins
theorem aAe {W:World} (h:laidMetH Tryz.prog rM W) (hs:W.ShapedOpen Tryz.prog):ahi W:=by
 refine ⟨alE h hs,?_⟩
 rw [MakeChecks.laidMetH_plain _ _ _ (by kernel_rfl)] at h
 obtain ⟨g1,t1,c1,fu1,p1,n1,y1,v1,d1⟩:Lib.VarReads Tryz.prog W "cardgame/trigger.verbs" Rows.laid_cardgame_trigger_verbs:=Lib.laidMet.reads h (by simp [rM,Rows.abilityIsRow])
 obtain rfl:g1=0:=Option.some.inj (n1.symm.trans (by kernel_rfl))
 obtain rfl:t1=125:=Option.some.inj (y1.symm.trans (by kernel_rfl))
 have k1:=D7 (xs:=ajX) Tryz.underlying125 Tryz.underlying9 (by kernel_rfl) (by kernel_rfl) d1
 obtain ⟨ty1,fr1,hh1⟩:=LV n1 v1
 refine ⟨ty1,fr1,?_⟩
 rw [hh1]
 have:c1=av3:=by rw [←Array.toArray_toList (xs:=c1),k1];rfl
 rw [this]
theorem aq3 {H:Type} {enc:TypeId × Value→H} {W:World} {sp:Nat→Bool} {held:Bool} {n t:Nat} {c:Value} {y:DataW H × List MemPlace} (hc:Tryz.prog.underlying t=some .bool) (h:DataW.trod enc Tryz.prog W 0 sp held n t [c]=some y):∃k,c= .bool k∧y.2=[]:=by
 obtain ⟨k,e,hy⟩:=DataW.trod_bool hc h
 simp only [List.cons.injEq,and_true] at e
 exact ⟨k,e,by rw [hy]⟩
theorem axX {α:Type} :∀ {l:List α},l.length=10→∃c0 c1 c2 c3 c4 c5 c6 c7 c8 c9,l=c0::c1::c2::c3::c4::c5::c6::c7::c8::c9::[]
 |c0::c1::c2::c3::c4::c5::c6::c7::c8::c9::[],_=>⟨c0,c1,c2,c3,c4,c5,c6,c7,c8,c9,rfl⟩
theorem axY {α:Type} :∀ {l:List α},l.length=18→∃c0 c1 c2 c3 c4 c5 c6 c7 c8 c9 c10 c11 c12 c13 c14 c15 c16 c17,l=c0::c1::c2::c3::c4::c5::c6::c7::c8::c9::c10::c11::c12::c13::c14::c15::c16::c17::[]
 |c0::c1::c2::c3::c4::c5::c6::c7::c8::c9::c10::c11::c12::c13::c14::c15::c16::c17::[],_=>⟨c0,c1,c2,c3,c4,c5,c6,c7,c8,c9,c10,c11,c12,c13,c14,c15,c16,c17,rfl⟩
theorem aBu {α:Type} :∀ {l:List α},l.length=72→∃c0 c1 c2 c3 c4 c5 c6 c7 c8 c9 c10 c11 c12 c13 c14 c15 c16 c17 c18 c19 c20 c21 c22 c23 c24 c25 c26 c27 c28 c29 c30 c31 c32 c33 c34 c35 c36 c37 c38 c39 c40 c41 c42 c43 c44 c45 c46 c47 c48 c49 c50 c51 c52 c53 c54 c55 c56 c57 c58 c59 c60 c61 c62 c63 c64 c65 c66 c67 c68 c69 c70 c71,l=c0::c1::c2::c3::c4::c5::c6::c7::c8::c9::c10::c11::c12::c13::c14::c15::c16::c17::c18::c19::c20::c21::c22::c23::c24::c25::c26::c27::c28::c29::c30::c31::c32::c33::c34::c35::c36::c37::c38::c39::c40::c41::c42::c43::c44::c45::c46::c47::c48::c49::c50::c51::c52::c53::c54::c55::c56::c57::c58::c59::c60::c61::c62::c63::c64::c65::c66::c67::c68::c69::c70::c71::[]
 |c0::c1::c2::c3::c4::c5::c6::c7::c8::c9::c10::c11::c12::c13::c14::c15::c16::c17::c18::c19::c20::c21::c22::c23::c24::c25::c26::c27::c28::c29::c30::c31::c32::c33::c34::c35::c36::c37::c38::c39::c40::c41::c42::c43::c44::c45::c46::c47::c48::c49::c50::c51::c52::c53::c54::c55::c56::c57::c58::c59::c60::c61::c62::c63::c64::c65::c66::c67::c68::c69::c70::c71::[],_=>⟨c0,c1,c2,c3,c4,c5,c6,c7,c8,c9,c10,c11,c12,c13,c14,c15,c16,c17,c18,c19,c20,c21,c22,c23,c24,c25,c26,c27,c28,c29,c30,c31,c32,c33,c34,c35,c36,c37,c38,c39,c40,c41,c42,c43,c44,c45,c46,c47,c48,c49,c50,c51,c52,c53,c54,c55,c56,c57,c58,c59,c60,c61,c62,c63,c64,c65,c66,c67,c68,c69,c70,c71,rfl⟩
theorem aCF {α:Type} :∀ {l:List α},l.length=4→∃c0 c1 c2 c3,l=c0::c1::c2::c3::[]
 |c0::c1::c2::c3::[],_=>⟨c0,c1,c2,c3,rfl⟩
theorem az4 {H:Type} {enc:TypeId × Value→H} {W:World} {sp:Nat→Bool} {held:Bool} {n0:Nat} {c0 c1 c2 c3 c4 c5 c6:Value} {x:DataW H × List MemPlace} (hf:DataW.trod enc Tryz.prog W 0 sp held n0 29 [c0,c1,c2,c3,c4,c5,c6]=some x):∃f:Co,[c0,c1,c2,c3,c4,c5,c6]=f.cells.toList∧x.2=[]:=by
 obtain ⟨xs,n,_,hx,_,hlen,hh⟩:=DataW.trod_struct Tryz.underlying29 hf
 obtain ⟨y0,y1,y2,rfl⟩:=aqy (l:=xs) (by simpa using hlen)
 obtain ⟨k0,e0,z0⟩:=gK (c:=c0) Tryz.underlying3 (hh 0 _ rfl)
 obtain ⟨k1,e1,z1⟩:=gK (c:=c1) Tryz.underlying3 (hh 1 _ rfl)
 have h2:DataW.trod enc Tryz.prog W 0 sp held n 27 [c2,c3,c4,c5,c6]=some y2:=hh 2 _ rfl
 obtain ⟨ys,n',_,hy,_,hlen',hk⟩:=DataW.trod_array Tryz.underlying27 h2
 rw [show Tryz.prog.cellsOf 3=1 by kernel_rfl] at hk
 obtain ⟨q0,q1,q2,q3,q4,rfl⟩:=aCG (l:=ys) hlen'
 obtain ⟨m0,g0,v0⟩:=gK (c:=c2) (y:=q0) Tryz.underlying3 (hk 0 (by omega))
 obtain ⟨m1,g1,v1⟩:=gK (c:=c3) (y:=q1) Tryz.underlying3 (hk 1 (by omega))
 obtain ⟨m2,g2,v2⟩:=gK (c:=c4) (y:=q2) Tryz.underlying3 (hk 2 (by omega))
 obtain ⟨m3,g3,v3⟩:=gK (c:=c5) (y:=q3) Tryz.underlying3 (hk 3 (by omega))
 obtain ⟨m4,g4,v4⟩:=gK (c:=c6) (y:=q4) Tryz.underlying3 (hk 4 (by omega))
 subst e0 e1 g0 g1 g2 g3 g4
 refine ⟨⟨k0,k1,m0,m1,m2,m3,m4⟩,rfl,?_⟩
 have hz:y2.2=[]:=by
  have:=congrArg Prod.snd hy
  simpa [v0,v1,v2,v3,v4] using this
 have:=congrArg Prod.snd hx
 simpa [z0,z1,hz] using this
theorem aw1 {H:Type} {enc:TypeId × Value→H} {W:World} {sp:Nat→Bool} {held:Bool} {n0:Nat} {c0 c1 c2 c3 c4 c5 c6 c7 c8 c9:Value} {x:DataW H × List MemPlace} (hf:DataW.trod enc Tryz.prog W 0 sp held n0 31 [c0,c1,c2,c3,c4,c5,c6,c7,c8,c9]=some x):∃f:Pr,[c0,c1,c2,c3,c4,c5,c6,c7,c8,c9]=f.cells.toList∧x.2=[]:=by
 obtain ⟨xs,n,_,hx,_,hlen,hh⟩:=DataW.trod_struct Tryz.underlying31 hf
 obtain ⟨y0,y1,y2,y3,rfl⟩:=aCF (l:=xs) (by simpa using hlen)
 obtain ⟨f0,ef0,zf0⟩:=az4 (c0:=c0) (c1:=c1) (c2:=c2) (c3:=c3) (c4:=c4) (c5:=c5) (c6:=c6) (hh 0 _ rfl)
 obtain ⟨k1,e1,z1⟩:=aq3 (c:=c7) Tryz.underlying4 (hh 1 _ rfl)
 obtain ⟨k2,e2,z2⟩:=aq3 (c:=c8) Tryz.underlying4 (hh 2 _ rfl)
 obtain ⟨k3,e3,z3⟩:=gK (c:=c9) Tryz.underlying3 (hh 3 _ rfl)
 refine ⟨⟨f0,k1,k2,k3⟩,?_,?_⟩
 ·have e:(Pr.cells ⟨f0,k1,k2,k3⟩).toList=f0.cells.toList++[.bool k1]++[.bool k2]++[.int .i64 k3]:=rfl
  rw [e,←ef0,e1,e2,e3];rfl
 ·have:=congrArg Prod.snd hx
  simpa [zf0,z1,z2,z3] using this
theorem azS {H:Type} {enc:TypeId × Value→H} {W:World} {sp:Nat→Bool} {held:Bool} {n0:Nat} {c0 c1 c2 c3 c4 c5 c6 c7 c8 c9 c10 c11 c12 c13 c14 c15 c16 c17:Value} {x:DataW H × List MemPlace} (hf:DataW.trod enc Tryz.prog W 0 sp held n0 33 [c0,c1,c2,c3,c4,c5,c6,c7,c8,c9,c10,c11,c12,c13,c14,c15,c16,c17]=some x):∃f:Tg,[c0,c1,c2,c3,c4,c5,c6,c7,c8,c9,c10,c11,c12,c13,c14,c15,c16,c17]=f.cells.toList∧x.2=[]:=by
 obtain ⟨xs,n,_,hx,_,hlen,hh⟩:=DataW.trod_struct Tryz.underlying33 hf
 obtain ⟨y0,y1,y2,rfl⟩:=aqy (l:=xs) (by simpa using hlen)
 obtain ⟨k0,e0,z0⟩:=gK (c:=c0) Tryz.underlying3 (hh 0 _ rfl)
 obtain ⟨k1,e1,z1⟩:=gK (c:=c1) Tryz.underlying3 (hh 1 _ rfl)
 obtain ⟨f2,ef2,zf2⟩:=Au (c0:=c2) (c1:=c3) (c2:=c4) (c3:=c5) (c4:=c6) (c5:=c7) (c6:=c8) (c7:=c9) (c8:=c10) (c9:=c11) (c10:=c12) (c11:=c13) (c12:=c14) (c13:=c15) (c14:=c16) (c15:=c17) (hh 2 _ rfl)
 refine ⟨⟨k0,k1,f2⟩,?_,?_⟩
 ·have e:(Tg.cells ⟨k0,k1,f2⟩).toList=[.int .i64 k0]++[.int .i64 k1]++f2.cells.toList:=rfl
  rw [e,e0,e1,←ef2];rfl
 ·have:=congrArg Prod.snd hx
  simpa [z0,z1,zf2] using this
theorem azw {H:Type} {enc:TypeId × Value→H} {W:World} {sp:Nat→Bool} {held:Bool} {n0:Nat} {c0 c1 c2 c3 c4 c5 c6 c7 c8 c9 c10 c11 c12 c13 c14 c15 c16 c17 c18 c19 c20 c21:Value} {x:DataW H × List MemPlace} (hf:DataW.trod enc Tryz.prog W 0 sp held n0 37 [c0,c1,c2,c3,c4,c5,c6,c7,c8,c9,c10,c11,c12,c13,c14,c15,c16,c17,c18,c19,c20,c21]=some x):∃f:Rp,[c0,c1,c2,c3,c4,c5,c6,c7,c8,c9,c10,c11,c12,c13,c14,c15,c16,c17,c18,c19,c20,c21]=f.cells.toList∧x.2=[]:=by
 obtain ⟨xs,n,_,hx,_,hlen,hh⟩:=DataW.trod_struct Tryz.underlying37 hf
 obtain ⟨y0,y1,y2,y3,y4,y5,y6,rfl⟩:=aC8 (l:=xs) (by simpa using hlen)
 obtain ⟨k0,e0,z0⟩:=gK (c:=c0) Tryz.underlying3 (hh 0 _ rfl)
 obtain ⟨k1,e1,z1⟩:=gK (c:=c1) Tryz.underlying3 (hh 1 _ rfl)
 obtain ⟨f2,ef2,zf2⟩:=Au (c0:=c2) (c1:=c3) (c2:=c4) (c3:=c5) (c4:=c6) (c5:=c7) (c6:=c8) (c7:=c9) (c8:=c10) (c9:=c11) (c10:=c12) (c11:=c13) (c12:=c14) (c13:=c15) (c14:=c16) (c15:=c17) (hh 2 _ rfl)
 obtain ⟨k3,e3,z3⟩:=gK (c:=c18) Tryz.underlying3 (hh 3 _ rfl)
 obtain ⟨k4,e4,z4⟩:=gK (c:=c19) Tryz.underlying3 (hh 4 _ rfl)
 obtain ⟨k5,e5,z5⟩:=gK (c:=c20) Tryz.underlying3 (hh 5 _ rfl)
 obtain ⟨k6,e6,z6⟩:=gK (c:=c21) Tryz.underlying3 (hh 6 _ rfl)
 refine ⟨⟨k0,k1,f2,k3,k4,k5,k6⟩,?_,?_⟩
 ·have e:(Rp.cells ⟨k0,k1,f2,k3,k4,k5,k6⟩).toList=[.int .i64 k0]++[.int .i64 k1]++f2.cells.toList++[.int .i64 k3]++[.int .i64 k4]++[.int .i64 k5]++[.int .i64 k6]:=rfl
  rw [e,e0,e1,←ef2,e3,e4,e5,e6];rfl
 ·have:=congrArg Prod.snd hx
  simpa [z0,z1,zf2,z3,z4,z5,z6] using this
theorem awg {H:Type} {enc:TypeId × Value→H} {W:World} {sp:Nat→Bool} {held:Bool} {n0:Nat} {c0 c1 c2 c3 c4 c5 c6 c7 c8 c9 c10 c11 c12 c13 c14 c15 c16 c17:Value} {x:DataW H × List MemPlace} (hf:DataW.trod enc Tryz.prog W 0 sp held n0 49 [c0,c1,c2,c3,c4,c5,c6,c7,c8,c9,c10,c11,c12,c13,c14,c15,c16,c17]=some x):∃f:Sp,[c0,c1,c2,c3,c4,c5,c6,c7,c8,c9,c10,c11,c12,c13,c14,c15,c16,c17]=f.cells.toList∧x.2=[]:=by
 obtain ⟨xs,n,_,hx,_,hlen,hh⟩:=DataW.trod_struct Tryz.underlying49 hf
 obtain ⟨y0,y1,y2,rfl⟩:=aqy (l:=xs) (by simpa using hlen)
 obtain ⟨k0,e0,z0⟩:=aq3 (c:=c0) Tryz.underlying4 (hh 0 _ rfl)
 obtain ⟨k1,e1,z1⟩:=aq3 (c:=c1) Tryz.underlying4 (hh 1 _ rfl)
 obtain ⟨f2,ef2,zf2⟩:=Au (c0:=c2) (c1:=c3) (c2:=c4) (c3:=c5) (c4:=c6) (c5:=c7) (c6:=c8) (c7:=c9) (c8:=c10) (c9:=c11) (c10:=c12) (c11:=c13) (c12:=c14) (c13:=c15) (c14:=c16) (c15:=c17) (hh 2 _ rfl)
 refine ⟨⟨k0,k1,f2⟩,?_,?_⟩
 ·have e:(Sp.cells ⟨k0,k1,f2⟩).toList=[.bool k0]++[.bool k1]++f2.cells.toList:=rfl
  rw [e,e0,e1,←ef2];rfl
 ·have:=congrArg Prod.snd hx
  simpa [z0,z1,zf2] using this
theorem avN {H:Type} {enc:TypeId × Value→H} {W:World} {sp:Nat→Bool} {held:Bool} {n0:Nat} {α:Type} [Inhabited α] (cl:α→List Value) (n:Nat) (P:α→Prop) {T TL:Nat} (hu:Tryz.prog.underlying TL=some (.slice T)) (hc:Tryz.prog.cellsOf T=n) (hn:∀x,(cl x).length=n) (hn0:0<n)
 (hop:∀ {fuel:Nat} {cs:List Value} {y:DataW H × List MemPlace},cs.length=n→DataW.trod enc Tryz.prog W 0 sp held fuel T cs=some y→∃f:α,cs=cl f∧P f∧∀q∈y.2,q.block<W.heap.size)
 {v:Value} {x:DataW H × List MemPlace} (hf:DataW.trod enc Tryz.prog W 0 sp held n0 TL [v]=some x):∃(A:Option Addr) (l:List α) (c:Nat),v= .slice A l.length c∧l.length≤9223372036854775807∧(l=[]∨∃b off,A=some ⟨b,off,none⟩∧∀(k:Nat) (r:α),l[k]? =some r→W.rangeAt b (off+k * n) (cl r))∧(∀r∈l,P r)∧∀q∈x.2,q.block<W.heap.size:=by
 rcases Go.Deep.open_slice hu hf with ⟨h1,h2⟩|⟨a,len,cap,m,n1,D,Pl,h1,_,hlc,hmax,hm,hx,hel⟩
 ·have e1:v= .slice none 0 0:=by simpa using h1
  exact ⟨none,[],0,e1,by simp, .inl rfl,by simp,by rw [h2];simp⟩
 ·have e1:v= .slice (some a) len cap:=by simpa using h1
  rw [hc] at hel hx
  have hlm:len≤m:=by rw [hm];split<;>omega
  have each:∀i,i<m→∃f:α,W.cells? 0 (a.add (i * n)) n=some (cl f)∧P f∧∀y∈Pl i,y.block<W.heap.size:=fun i hi=>by
   obtain ⟨cs,g1,g2⟩:=hel i hi
   obtain ⟨f,e,z,zz⟩:=hop ((World.cells?_some g1).2.1) g2
   exact ⟨f,by rw [←e];exact g1,z,zz⟩
  obtain ⟨q,hq⟩:=Go.Deep.choose_lt each
  have cellAt:∀i,i<m→∀(j:Nat) (u:Value),(cl (q i))[j]? =some u→W.cell? (a.add (i * n+j))=some u:=fun i hi j u hj=>by
   have hjn:j<n:=by
    rcases Nat.lt_or_ge j (cl (q i)).length with h'|h'
    ·rw [hn] at h';exact h'
    ·rw [List.getElem?_eq_none h'] at hj;cases hj
   have:=(World.cells?_some (hq i hi).1).2.2 j hjn
   rw [Go.Deep.add_add] at this
   rw [this];exact hj
  have hp:x.2=MemPlace.row a (m * n)++(List.range m).flatMap Pl:=congrArg Prod.snd hx
  have hblk:0<m→a.spot=none∧a.block<W.heap.size:=fun h0=>by
   have hl0:0<(cl (q 0)).length:=by rw [hn];exact hn0
   have:=cellAt 0 h0 0 _ (List.getElem?_eq_getElem hl0)
   have e0:a.add (0 * n+0)=a:=by simp [Addr.add]
   rw [e0] at this
   exact ⟨World.cell?_spot this,World.block_lt_of_cell? W a this⟩
  have hold:∀y∈x.2,y.block<W.heap.size:=by
   rw [hp]
   intro y hy
   rcases List.mem_append.1 hy with hy|hy
   ·obtain ⟨i,hi,rfl⟩:=List.mem_map.1 hy
    have h1:=List.mem_range.1 hi
    have h2:0<m:=by
     rcases Nat.eq_zero_or_pos m with h|h
     ·rw [h,Nat.zero_mul] at h1;omega
     ·exact h
    exact (hblk h2).2
   ·obtain ⟨i,hi,hy⟩:=List.mem_flatMap.1 hy
    exact (hq i (List.mem_range.1 hi)).2.2 y hy
  have hP:∀r∈(List.range len).map q,P r:=fun r hr=>by
   obtain ⟨i,hi,rfl⟩:=List.mem_map.1 hr
   exact (hq i (by have:=List.mem_range.1 hi;omega)).2.1
  refine ⟨some a,(List.range len).map q,cap,by simpa using e1,by simp;exact Nat.le_trans hlc hmax,?_,hP,hold⟩
  by_cases h0:len=0
  ·left;rw [h0];rfl
  ·right
   obtain ⟨b,off,spot⟩:=a
   obtain rfl:spot=none:=(hblk (by omega)).1
   refine ⟨b,off,rfl,fun k r hk j u hj=> ?_⟩
   have hkl:k<len:=by
    rcases Nat.lt_or_ge k len with h'|h'
    ·exact h'
    ·rw [List.getElem?_eq_none (by simpa using h')] at hk;cases hk
   have er:q k=r:=by
    rw [List.getElem?_map,List.getElem?_range hkl] at hk
    exact Option.some.inj hk
   have:=cellAt k (by omega) j u (by rw [er];exact hj)
   have ea:(⟨b,off,none⟩:Addr).add (k * n+j)=⟨b,off+k * n+j,none⟩:=by
    unfold Addr.add
    split
    ·rename_i hz
     have h1:k * n=0∧j=0:=by omega
     rw [h1.1,h1.2];simp
    ·simp [Nat.add_assoc]
   rw [ea] at this
   exact this
theorem Tryz.cellsSp:Tryz.prog.cellsOf 49=18:=by kernel_rfl
instance:Inhabited Sp:=⟨auG⟩
theorem aAv {H:Type} {enc:TypeId × Value→H} {W:World} {sp:Nat→Bool} {held:Bool} {n0:Nat} {v:Value} {x:DataW H × List MemPlace} (hf:DataW.trod enc Tryz.prog W 0 sp held n0 34 [v]=some x):∃(A:Option Addr) (l:List Sp) (c:Nat),v= .slice A l.length c∧l.length≤9223372036854775807∧aqh A l W∧∀q∈x.2,q.block<W.heap.size:=by
 obtain ⟨A,l,c,h1,h2,h3,_,h4⟩:=avN (fun s:Sp=>(Sp.cells s).toList) 18 (fun _=>True) Tryz.underlying34 Tryz.cellsSp (fun _=>rfl) (by decide)
  (fun hlen h=>by
   obtain ⟨c0,c1,c2,c3,c4,c5,c6,c7,c8,c9,c10,c11,c12,c13,c14,c15,c16,c17,rfl⟩:=axY hlen
   obtain ⟨f,e,z⟩:=awg h
   exact ⟨f,e,trivial,by rw [z];simp⟩) hf
 exact ⟨A,l,c,h1,h2,h3,h4⟩
theorem aAa {H:Type} {enc:TypeId × Value→H} {W:World} {sp:Nat→Bool} {held:Bool} {n0:Nat} {v:Value} {x:DataW H × List MemPlace} (hf:DataW.trod enc Tryz.prog W 0 sp held n0 Ol [v]=some x):∃(A:Option Addr) (l:List EV) (c:Nat),v= .slice A l.length c∧og A l W∧∀q∈x.2,q.block<W.heap.size:=by
 obtain ⟨A,l,c,h1,h2,h3,h5,h4⟩:=avN (fun p:EV=>(EV.cells p).toList) 64 (fun p=>mg p.1 p.2 W) Tryz.underlying35 Tryz.cellsEm (fun _=>rfl) (by decide) (fun hlen h=>ae4 hlen h) hf
 exact ⟨A,l,c,h1,⟨h3,h2,h5⟩,h4⟩
theorem Tryz.cellsAb:Tryz.prog.cellsOf 39=72:=by kernel_rfl
theorem ayX {H:Type} {enc:TypeId × Value→H} {W:World} {sp:Nat→Bool} {held:Bool} {n0:Nat} {cs:List Value} {x:DataW H × List MemPlace} (hlen0:cs.length=72) (hf:DataW.trod enc Tryz.prog W 0 sp held n0 39 cs=some x):∃(p:Ax) (mods:List Md) (specs:List Sp) (es:List EV),cs=(Ax.cells p).toList∧asf p mods specs es W∧∀q∈x.2,q.block<W.heap.size:=by
 obtain ⟨c0,c1,c2,c3,c4,c5,c6,c7,c8,c9,c10,c11,c12,c13,c14,c15,c16,c17,c18,c19,c20,c21,c22,c23,c24,c25,c26,c27,c28,c29,c30,c31,c32,c33,c34,c35,c36,c37,c38,c39,c40,c41,c42,c43,c44,c45,c46,c47,c48,c49,c50,c51,c52,c53,c54,c55,c56,c57,c58,c59,c60,c61,c62,c63,c64,c65,c66,c67,c68,c69,c70,c71,rfl⟩:=aBu hlen0
 obtain ⟨xs,n,_,hx,_,hlen,hh⟩:=DataW.trod_struct Tryz.underlying39 hf
 obtain ⟨y0,y1,y2,y3,y4,y5,y6,y7,y8,y9,rfl⟩:=axX (l:=xs) (by simpa using hlen)
 obtain ⟨ki,e0,z0⟩:=gK (c:=c0) Tryz.underlying3 (hh 0 _ rfl)
 obtain ⟨f1,ef1,zf1⟩:=Au (c0:=c1) (c1:=c2) (c2:=c3) (c3:=c4) (c4:=c5) (c5:=c6) (c6:=c7) (c7:=c8) (c8:=c9) (c9:=c10) (c10:=c11) (c11:=c12) (c12:=c13) (c13:=c14) (c14:=c15) (c15:=c16) (hh 1 _ rfl)
 obtain ⟨mA,ml,mc,e2,hl2,aEa,hp2⟩:=aiB (v:=c17) (hh 2 _ rfl)
 obtain ⟨pr,e3,z3⟩:=aw1 (c0:=c18) (c1:=c19) (c2:=c20) (c3:=c21) (c4:=c22) (c5:=c23) (c6:=c24) (c7:=c25) (c8:=c26) (c9:=c27) (hh 3 _ rfl)
 obtain ⟨sl,e4,z4⟩:=aq3 (c:=c28) Tryz.underlying4 (hh 4 _ rfl)
 obtain ⟨tg,e5,z5⟩:=azS (c0:=c29) (c1:=c30) (c2:=c31) (c3:=c32) (c4:=c33) (c5:=c34) (c6:=c35) (c7:=c36) (c8:=c37) (c9:=c38) (c10:=c39) (c11:=c40) (c12:=c41) (c13:=c42) (c14:=c43) (c15:=c44) (c16:=c45) (c17:=c46) (hh 5 _ rfl)
 obtain ⟨my,e6,z6⟩:=aq3 (c:=c47) Tryz.underlying4 (hh 6 _ rfl)
 obtain ⟨sA,sl2,sc,e7,hl7,aEb,hp7⟩:=aAv (v:=c48) (hh 7 _ rfl)
 obtain ⟨eA,el,ec,e8,aEc,hp8⟩:=aAa (v:=c49) (hh 8 _ rfl)
 obtain ⟨rp,e9,z9⟩:=azw (c0:=c50) (c1:=c51) (c2:=c52) (c3:=c53) (c4:=c54) (c5:=c55) (c6:=c56) (c7:=c57) (c8:=c58) (c9:=c59) (c10:=c60) (c11:=c61) (c12:=c62) (c13:=c63) (c14:=c64) (c15:=c65) (c16:=c66) (c17:=c67) (c18:=c68) (c19:=c69) (c20:=c70) (c21:=c71) (hh 9 _ rfl)
 refine ⟨⟨ki,f1,⟨mA,ml.length,mc⟩,pr,sl,tg,my,⟨sA,sl2.length,sc⟩,⟨eA,el.length,ec⟩,rp⟩,ml,sl2,el,?_,⟨rfl,hl2,aEa,rfl,hl7,aEb,rfl,aEc⟩,?_⟩
 ·have e:(Ax.cells ⟨ki,f1,⟨mA,ml.length,mc⟩,pr,sl,tg,my,⟨sA,sl2.length,sc⟩,⟨eA,el.length,ec⟩,rp⟩).toList=[.int .i64 ki]++f1.cells.toList++[.slice mA ml.length mc]++pr.cells.toList++[.bool sl]++tg.cells.toList++[.bool my, .slice sA sl2.length sc, .slice eA el.length ec]++rp.cells.toList:=rfl
  rw [e,←ef1,←e3,←e5,←e9,e0,e2,e4,e6,e7,e8];rfl
 ·have:=congrArg Prod.snd hx
  simp only at this
  rw [this]
  intro q hq
  have hq:q∈y2.2∨q∈y7.2∨q∈y8.2:=by simpa [z0,zf1,z3,z4,z5,z6,z9] using hq
  rcases hq with hq|hq|hq
  ·exact hp2 q hq
  ·exact hp7 q hq
  ·exact hp8 q hq
theorem aBx {H:Type} {enc:TypeId × Value→H} {W:World} {r:Reach} {sp:Nat→Bool} {held:Bool} {b0:Nat} {v:Value} {dd:DataW H} {p:List MemPlace} (hv:Value.okWide Tryz.prog W r b0 39 v)
 (h:DataW.Trod enc Tryz.prog W 0 sp held 39 v dd p):∃(q:Ax) (mods:List Md) (specs:List Sp) (es:List EV),v= .agg (Ax.cells q)∧asf q mods specs es W∧∀x∈p,x.block<W.heap.size:=by
 obtain ⟨cs,rfl,hsz⟩:=okWide_struct Tryz.underlying39 hv
 obtain ⟨fuel,hf⟩:=h
 obtain ⟨l,rfl⟩:∃l:List Value,cs=l.toArray:=⟨cs.toList,by simp⟩
 obtain ⟨q,m,s,e,h1,h2,hp⟩:=ayX (cs:=l) (by simpa using hsz.trans Tryz.cellsAb) hf
 exact ⟨q,m,s,e,by rw [h1],h2,hp⟩
theorem avk {W:World} (h:laidMetH Tryz.prog rM W) (hs:W.ShapedOpen Tryz.prog):aew W:=⟨Xo h hs,aAe h hs⟩
end Go.Proofs.YtdicgggkdmkklaaGreatDoor
