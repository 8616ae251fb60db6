/- From a row's listed variables to what the walks are given of them; the witness world. Conditions: none. A filter handed in: what its value looks like. Conditions: none. Arguments that hold a filter -/
import Derived.Test.YtdicgggkdmkklaaGreatDoorRows
import Derived.Test.YtdicgggkdmkklaaGreatDoorQ2
import Derived.ProofKit
import Derived.LaidLaws
import Derived.LaidHandle
import Derived.Lib.LaidU8
import Derived.Lib.LaidTab
import Derived.OpenShut
import Derived.HandedShaped
import Derived.Lay
import Derived.LaidOnce
import Derived.SevenTiedAt
import Derived.Lib.SmallJoins
import Derived.Test.YtdicgggkdmkklaaGreatDoorQ5
import Derived.Test.YtdicgggkdmkklaaGreatDoorQ8
import Derived.Deep.Slices
import Derived.Test.YtdicgggkdmkklaaGreatDoorQ3
import Derived.Test.YtdicgggkdmkklaaGreatDoorQ7
import Derived.Test.YtdicgggkdmkklaaGreatDoorMEParse
set_option linter.all false
set_option maxRecDepth 100000
set_option maxHeartbeats 16000000
namespace Go.Proofs.YtdicgggkdmkklaaGreatDoor
open Go.ChangeShapes Go.WideShapes Go.RowKit
theorem Tryz.own:ownKnob Tryz.prog.godebug=none:=by kernel_rfl
theorem Af {H:Type} {enc:TypeId × Value→H} {a:Assume} {C:Checked} {os:Os} {f:FuncId} {fn:Func} {s:ChangeSpec} {conds:List PathCond} {apart fresh handsOn again:Bool} {X:World→Array Value→Prop}
 (hX:∀(w w':World) (args:Array Value),w.heap=w'.heap→X w args→X w' args)
 (own:ownKnob C.prog.godebug=none) (started:os.Started) (noInit:C.prog.inits.idxOf? f=none) (hfn:C.prog.funcs[f]? =some fn)
 (witness:∃(w:World) (tape:Tape) (i:Input),w.os=os∧(w.forCall tape i).Shaped C.prog∧i.vars=[]∧Input.okWide C.prog (w.forCall tape i) .any w.heap.size f i∧
  ((s.pre enc C.prog fn conds apart (w.forCall tape i).memory i.args∧X (w.forCall tape i).memory i.args)∧sizedMet enc C.prog fn (OpenSpec.ofChange s) apart (w.forCall tape i).memory i.args)∧a.holds C.prog (lone (Frame.enter C.prog f i.args .normal) [] (w.forCall tape i)))
 (contract:∀(W:World) (base:Nat) (args:Array Value) (ds gs:List (DataW H)) (before:List MemPlace),
  (∀(j:Nat) t v,fn.params[j]? =some t→args[j]? =some v→Value.okWide C.prog W .any base t v)→
  DataW.Whole enc C.prog fn.params.toList s.vars apart W args.toList ds gs before→
  (DataW.weightsEach C.prog (fn.params.toList++s.plain.varTypes C.prog) (ds++gs)).all (· ≤reachBytes)=true→X W args→W.ShapedOpen C.prog→
  Calls C.prog f args W fun e W'=>∃v,e= .returned v∧s.post enc C.prog fn apart fresh handsOn again W args v W'):
 ReturnsInHanded a C os f .any (fun w args=>(s.pre enc C.prog fn conds apart w args∧X w args)∧sizedMet enc C.prog fn (OpenSpec.ofChange s) apart w args) (s.post enc C.prog fn apart fresh handsOn again):=by
 refine returnsInHanded_of_calls own started noInit witness ?_
 intro w tape i _ hsh _ hok hpre hholds
 obtain ⟨_,_,_,fn',hfn',_,_,_,_,hval⟩:=hok
 have e:fn'=fn:=Option.some.inj (hfn'.symm.trans hfn)
 subst e
 obtain ⟨⟨⟨ds,gs,before,hw,hc⟩,hx⟩,hz⟩:=hpre
 have hw':=DataW.Whole.of_heap (w':=w.forCall tape i) (by rfl) hw
 refine (contract (w.forCall tape i) w.heap.size i.args ds gs before hval hw' (hz.weights hw) (hX _ _ _ (by rfl) hx) hsh).mono fun e W' ⟨v,he,hp⟩=> ?_
 subst he
 exact ChangeSpec.post_blind hp
theorem LV {P:Program} {w:World} {n:String} {g:Nat} {cs:Array Value} (hg:P.globalNamed n=some g) (h:w.var? P n=some cs):∃ty fr,w.heap[g]? =some (.cells cs ty fr):=by
 unfold World.var? at h
 rw [hg] at h
 simp only [Option.bind_some] at h
 split at h
 ·rename_i cs' ty fr hh
  obtain rfl:=Option.some.inj h
  exact ⟨ty,fr,hh⟩
 ·cases h
theorem D7 {P:Program} {w:World} {n:Nat} {t fuel:Nat} {cs:List Value} {xs:List Str} {p:List MemPlace} (ht:P.underlying t=some (.array n 9)) (h9:P.underlying 9=some .string) (hc9:P.cellsOf 9=1) (hct:P.cellsOf t=n)
 (h:DataW.trod (fun _=>()) P w 0 (fun _=>true) false fuel t cs=some (.agg (xs.map fun x=> .lit (.string x)),p)):cs=xs.map fun x=> .string (B x):=by
 obtain ⟨ys,m,rfl,hx,hl,hn,he⟩:=DataW.trod_array ht h
 have hys:ys.map (·.1)=xs.map fun x=>(DataW.lit (.string x):DataW Unit):=by
  have h1:=congrArg Prod.fst hx
  injection h1 with h1
  exact h1.symm
 rw [hct] at hl
 have hxl:xs.length=n:=by have:=congrArg List.length hys;simp at this;omega
 apply List.ext_getElem?
 intro i
 by_cases hi:i<n
 ·have h1:=he i hi
  rw [hc9,Nat.mul_one,List.getElem?_eq_getElem (by omega:i<ys.length)] at h1
  obtain ⟨s,hs,hy,_⟩:=DataW.trod_string h9 h1
  have hy1:ys[i].1=(DataW.lit (.string xs[i]):DataW Unit):=by
   have h2:=congrArg (fun l=>l[i]?) hys
   simp only [List.getElem?_map] at h2
   rw [List.getElem?_eq_getElem (by omega:i<ys.length),List.getElem?_eq_getElem (by omega:i<xs.length)] at h2
   simpa using h2
  rw [hy] at hy1
  injection hy1 with hy1
  injection hy1 with hy1
  have hc:cs[i]? =some (.string s):=by
   have h3:=congrArg (fun l=>l[0]?) hs
   simpa [List.getElem?_take,List.getElem?_drop] using h3
  rw [hc,List.getElem?_map,List.getElem?_eq_getElem (by omega:i<xs.length),←hy1]
  rfl
 ·rw [List.getElem?_eq_none (by omega),List.getElem?_eq_none (by simp;omega)]
def rM:List (String × DataW Unit):=Rows.abilityIsRow.laid
theorem alE {W:World} (h:laidMetH Tryz.prog rM W) (hs:W.ShapedOpen Tryz.prog):Laid W:=by
 rw [MakeChecks.laidMetH_plain _ _ _ (by kernel_rfl)] at h
 obtain ⟨g1,t1,c1,fu1,p1,n1,y1,v1,d1⟩:Lib.VarReads Tryz.prog W "cardgame/color.names" Rows.laid_cardgame_color_names:=Lib.laidMet.reads h (by simp [rM,Rows.abilityIsRow])
 obtain ⟨g2,t2,c2,fu2,p2,n2,y2,v2,d2⟩:Lib.VarReads Tryz.prog W "internal/strconv.uint64pow10" Rows.laid_internal_strconv_uint64pow10:=Lib.laidMet.reads h (by simp [rM,Rows.abilityIsRow])
 obtain ⟨g3,t3,c3,fu3,p3,n3,y3,v3,d3⟩:Lib.VarReads Tryz.prog W "strconv.ErrSyntax" Rows.laid_strconv_ErrSyntax:=Lib.laidMet.reads h (by simp [rM,Rows.abilityIsRow])
 obtain ⟨g4,t4,c4,fu4,p4,n4,y4,v4,d4⟩:Lib.VarReads Tryz.prog W "strconv.ErrRange" Rows.laid_strconv_ErrRange:=Lib.laidMet.reads h (by simp [rM,Rows.abilityIsRow])
 obtain rfl:g1=2:=Option.some.inj (n1.symm.trans (by kernel_rfl))
 obtain rfl:t1=163:=Option.some.inj (y1.symm.trans (by kernel_rfl))
 obtain rfl:g2=4:=Option.some.inj (n2.symm.trans (by kernel_rfl))
 obtain rfl:t2=268:=Option.some.inj (y2.symm.trans (by kernel_rfl))
 obtain rfl:g3=7:=Option.some.inj (n3.symm.trans (by kernel_rfl))
 obtain rfl:t3=172:=Option.some.inj (y3.symm.trans (by kernel_rfl))
 obtain rfl:g4=8:=Option.some.inj (n4.symm.trans (by kernel_rfl))
 obtain rfl:t4=172:=Option.some.inj (y4.symm.trans (by kernel_rfl))
 have k1:=D7 (xs:=aY) Tryz.underlying163 Tryz.underlying9 (by kernel_rfl) (by kernel_rfl) d1
 have k2:=Lib.cells_of_tab (zs:=Lib.pow10Tab) (k:= .u64) Tryz.underlying268 Tryz.underlying150 (by kernel_rfl) (by kernel_rfl) d2
 obtain ⟨_,u3,x3,e3,_,_⟩:=iface_of_trod Tryz.underlying172 d3
 obtain ⟨_,u4,x4,e4,_,_⟩:=iface_of_trod Tryz.underlying172 d4
 obtain ⟨ty1,fr1,hh1⟩:=LV n1 v1
 have hsz:=(Array.getElem?_eq_some_iff.1 hh1).1
 refine ⟨hs,?_,?_,?_,⟨ty1,fr1,?_⟩,hsz⟩
 ·unfold Lib.TabIs;rw [v2,←k2]
 ·obtain rfl:c3= #[.iface u3 x3]:=by rw [←Array.toArray_toList (xs:=c3),e3]
  exact ⟨u3,x3,by simpa using World.var?_cell n3 v3 0⟩
 ·obtain rfl:c4= #[.iface u4 x4]:=by rw [←Array.toArray_toList (xs:=c4),e4]
  exact ⟨u4,x4,by simpa using World.var?_cell n4 v4 0⟩
 ·rw [hh1]
  have:c1=BH:=by rw [←Array.toArray_toList (xs:=c1),k1];rfl
  rw [this]
end Go.Proofs.YtdicgggkdmkklaaGreatDoor
namespace Go.Proofs.YtdicgggkdmkklaaGreatDoor
open Go.ChangeShapes Go.WideShapes Go.RowKit Go.Joins
theorem aov {α:Type} :∀ {l:List α},l.length=13→∃c0 c1 c2 c3 c4 c5 c6 c7 c8 c9 c10 c11 c12,l=[c0,c1,c2,c3,c4,c5,c6,c7,c8,c9,c10,c11,c12]
 |[c0,c1,c2,c3,c4,c5,c6,c7,c8,c9,c10,c11,c12],_=>⟨c0,c1,c2,c3,c4,c5,c6,c7,c8,c9,c10,c11,c12,rfl⟩
theorem gK {H:Type} {enc:TypeId × Value→H} {W:World} {sp:Nat→Bool} {held:Bool} {n t:Nat} {c:Value} {y:DataW H × List MemPlace} (hc:Tryz.prog.underlying t=some (.int .i64)) (h:DataW.trod enc Tryz.prog W 0 sp held n t [c]=some y):∃k,c= .int .i64 k∧y.2=[]:=by
 obtain ⟨k,e,hy,_⟩:=DataW.trod_int hc h
 simp only [List.cons.injEq,and_true] at e
 exact ⟨k,e,by rw [hy]⟩
theorem Rz {H:Type} {enc:TypeId × Value→H} {W:World} {sp:Nat→Bool} {held:Bool} {n:Nat} {c:Value} {y:DataW H × List MemPlace} (h:DataW.trod enc Tryz.prog W 0 sp held n 9 [c]=some y):∃s,c= .string s∧y.2=[]:=by
 obtain ⟨s,e,hy,_⟩:=DataW.trod_string Tryz.underlying9 h
 simp only [List.cons.injEq,and_true] at e
 exact ⟨s,e,by rw [hy]⟩
theorem Gx {H:Type} {enc:TypeId × Value→H} {W:World} {sp:Nat→Bool} {held:Bool} {n:Nat} {c d:Value} {y:DataW H × List MemPlace} (h:DataW.trod enc Tryz.prog W 0 sp held n 23 [c,d]=some y):∃k m,c= .int .i64 k∧d= .int .i64 m∧y.2=[]:=by
 obtain ⟨y0,y1,n',rfl,_,h0,h1⟩:=trod_struct2 Tryz.underlying23 h
 obtain ⟨k,rfl,e0⟩:=gK Tryz.underlying3 h0
 obtain ⟨m,rfl,e1⟩:=gK Tryz.underlying3 h1
 exact ⟨k,m,rfl,rfl,by simp [e0,e1]⟩
end Go.Proofs.YtdicgggkdmkklaaGreatDoor
namespace Go.Proofs.YtdicgggkdmkklaaGreatDoor
open Go.ChangeShapes Go.WideShapes Go.RowKit
theorem aqy {α:Type} :∀ {l:List α},l.length=3→∃c0 c1 c2,l=[c0,c1,c2]
 |[c0,c1,c2],_=>⟨c0,c1,c2,rfl⟩
theorem Au {H:Type} {enc:TypeId × Value→H} {W:World} {sp:Nat→Bool} {held:Bool} {n:Nat} {c0 c1 c2 c3 c4 c5 c6 c7 c8 c9 c10 c11 c12 c13 c14 c15:Value} {y:DataW H × List MemPlace} (hf:DataW.trod enc Tryz.prog W 0 sp held n 25 [c0,c1,c2,c3,c4,c5,c6,c7,c8,c9,c10,c11,c12,c13,c14,c15]=some y):
 ∃f:aH,[c0,c1,c2,c3,c4,c5,c6,c7,c8,c9,c10,c11,c12,c13,c14,c15]=f.cells.toList∧y.2=[]:=by
 obtain ⟨xs,n,_,hx,_,hlen,hh⟩:=DataW.trod_struct Tryz.underlying25 hf
 obtain ⟨y0,y1,y2,y3,y4,y5,y6,y7,y8,y9,y10,y11,y12,rfl⟩:=aov (l:=xs) (by simpa using hlen)
 obtain ⟨k0,e0,z0⟩:=gK (c:=c0) Tryz.underlying3 (hh 0 _ rfl)
 obtain ⟨k1,e1,z1⟩:=gK (c:=c1) Tryz.underlying3 (hh 1 _ rfl)
 obtain ⟨k2,e2,z2⟩:=gK (c:=c2) Tryz.underlying3 (hh 2 _ rfl)
 obtain ⟨k3,e3,z3⟩:=gK (c:=c3) Tryz.underlying3 (hh 3 _ rfl)
 obtain ⟨k4,e4,z4⟩:=gK (c:=c4) Tryz.underlying3 (hh 4 _ rfl)
 obtain ⟨k5,e5,z5⟩:=gK (c:=c5) Tryz.underlying3 (hh 5 _ rfl)
 obtain ⟨k6,e6,z6⟩:=gK (c:=c6) Tryz.underlying3 (hh 6 _ rfl)
 obtain ⟨s,e7',z7'⟩:=Rz (c:=c7) (hh 7 _ rfl)
 obtain ⟨k8,e8,z8⟩:=gK (c:=c8) Tryz.underlying3 (hh 8 _ rfl)
 obtain ⟨k9,e9,z9⟩:=gK (c:=c9) Tryz.underlying3 (hh 9 _ rfl)
 obtain ⟨k10,m10,e10,f10,z10⟩:=Gx (c:=c10) (d:=c11) (hh 10 _ rfl)
 obtain ⟨k11,m11,e11,f11,z11⟩:=Gx (c:=c12) (d:=c13) (hh 11 _ rfl)
 obtain ⟨k12,m12,e12,f12,z12⟩:=Gx (c:=c14) (d:=c15) (hh 12 _ rfl)
 subst e0 e1 e2 e3 e4 e5 e6 e8 e9 e10 e11 e12 e7' f10 f11 f12
 refine ⟨⟨k0,k1,k2,k3,k4,k5,k6,s,k8,k9,k10,m10,k11,m11,k12,m12⟩,rfl,?_⟩
 have:=congrArg Prod.snd hx
 simpa [z0,z1,z2,z3,z4,z5,z6,z8,z9,z10,z11,z12,z7'] using this
end Go.Proofs.YtdicgggkdmkklaaGreatDoor
namespace Go.Proofs.YtdicgggkdmkklaaGreatDoor
open Go.ChangeShapes Go.WideShapes Go.RowKit Go.Joins
theorem aow {α:Type} :∀ {l:List α},l.length=20→∃a b d e c0 c1 c2 c3 c4 c5 c6 c7 c8 c9 c10 c11 c12 c13 c14 c15,l=[a,b,d,e,c0,c1,c2,c3,c4,c5,c6,c7,c8,c9,c10,c11,c12,c13,c14,c15]
 |[a,b,d,e,c0,c1,c2,c3,c4,c5,c6,c7,c8,c9,c10,c11,c12,c13,c14,c15],_=>⟨a,b,d,e,c0,c1,c2,c3,c4,c5,c6,c7,c8,c9,c10,c11,c12,c13,c14,c15,rfl⟩
theorem aqz {α:Type} :∀ {l:List α},l.length=5→∃c0 c1 c2 c3 c4,l=[c0,c1,c2,c3,c4]
 |[c0,c1,c2,c3,c4],_=>⟨c0,c1,c2,c3,c4,rfl⟩
theorem Tryz.cellsMd:Tryz.prog.cellsOf 56=20:=by kernel_rfl
theorem aiz {H:Type} {enc:TypeId × Value→H} {W:World} {sp:Nat→Bool} {held:Bool} {n0:Nat} {cs:List Value} {x:DataW H × List MemPlace} (hlen0:cs.length=20) (hf:DataW.trod enc Tryz.prog W 0 sp held n0 56 cs=some x):∃f:Md,cs=f.cells.toList∧x.2=[]:=by
 obtain ⟨a,b,d,e,c0,c1,c2,c3,c4,c5,c6,c7,c8,c9,c10,c11,c12,c13,c14,c15,rfl⟩:=aow hlen0
 obtain ⟨xs,n,_,hx,_,hlen,hh⟩:=DataW.trod_struct Tryz.underlying56 hf
 obtain ⟨y0,y1,y2,y3,y4,rfl⟩:=aqz (l:=xs) (by simpa using hlen)
 obtain ⟨ka,ea,za⟩:=gK (c:=a) Tryz.underlying3 (hh 0 _ rfl)
 obtain ⟨kb,eb,zb⟩:=gK (c:=b) Tryz.underlying3 (hh 1 _ rfl)
 obtain ⟨kd,ed,zd⟩:=gK (c:=d) Tryz.underlying3 (hh 2 _ rfl)
 obtain ⟨se,ee,ze⟩:=Rz (c:=e) (hh 3 _ rfl)
 obtain ⟨f,ef,zf⟩:=Au (c0:=c0) (c1:=c1) (c2:=c2) (c3:=c3) (c4:=c4) (c5:=c5) (c6:=c6) (c7:=c7) (c8:=c8) (c9:=c9) (c10:=c10) (c11:=c11) (c12:=c12) (c13:=c13) (c14:=c14) (c15:=c15) (hh 4 _ rfl)
 subst ea eb ed ee
 obtain ⟨q0,q1,q2,q3,q4,q5,q6,q7,q8,q9,q10,q11,q12,q13,XY,XZ⟩:=f
 simp only [aH.cells,List.cons.injEq,and_true] at ef
 obtain ⟨rfl,rfl,rfl,rfl,rfl,rfl,rfl,rfl,rfl,rfl,rfl,rfl,rfl,rfl,rfl,rfl⟩:=ef
 refine ⟨⟨ka,kb,kd,se,⟨q0,q1,q2,q3,q4,q5,q6,q7,q8,q9,q10,q11,q12,q13,XY,XZ⟩⟩,rfl,?_⟩
 have:=congrArg Prod.snd hx
 simpa [za,zb,zd,ze,zf] using this
instance:Inhabited Md:=⟨dO⟩
end Go.Proofs.YtdicgggkdmkklaaGreatDoor
namespace Go.Proofs.YtdicgggkdmkklaaGreatDoor
open Go.ChangeShapes Go.WideShapes Go.RowKit
theorem Xo {W:World} (h:laidMetH Tryz.prog rM W) (hs:W.ShapedOpen Tryz.prog):bZ W:=by
 refine ⟨alE h hs,?_⟩
 rw [MakeChecks.laidMetH_plain _ _ _ (by kernel_rfl)] at h
 obtain ⟨g1,t1,c1,fu1,p1,n1,y1,v1,d1⟩:Lib.VarReads Tryz.prog W "cardgame/counter.names" Rows.laid_cardgame_counter_names:=Lib.laidMet.reads h (by simp [rM,Rows.abilityIsRow])
 obtain rfl:g1=1:=Option.some.inj (n1.symm.trans (by kernel_rfl))
 obtain rfl:t1=122:=Option.some.inj (y1.symm.trans (by kernel_rfl))
 have k1:=D7 (xs:=uT) Tryz.underlying122 Tryz.underlying9 (by kernel_rfl) (by kernel_rfl) d1
 obtain ⟨ty1,fr1,hh1⟩:=LV n1 v1
 refine ⟨ty1,fr1,?_⟩
 rw [hh1]
 have:c1=Wq:=by rw [←Array.toArray_toList (xs:=c1),k1];rfl
 rw [this]
end Go.Proofs.YtdicgggkdmkklaaGreatDoor
namespace Go.Proofs.YtdicgggkdmkklaaGreatDoor
open Go.ChangeShapes Go.WideShapes Go.RowKit Go.Joins
theorem list4 {α:Type} :∀ {l:List α},l.length=4→∃c0 c1 c2 c3,l=[c0,c1,c2,c3]
 |[c0,c1,c2,c3],_=>⟨c0,c1,c2,c3,rfl⟩
theorem aox {α:Type} :∀ {l:List α},l.length=64→∃c0 c1 c2 c3 c4 c5 c6 c7 c8 c9 c10 c11 c12 c13 c14 c15 c16 c17 c18 c19 c20 c21 c22 c23 c24 c25 c26 c27 c28 c29 c30 c31 c32 c33 c34 c35 c36 c37 c38 c39 c40 c41 c42 c43 c44 c45 c46 c47 c48 c49 c50 c51 c52 c53 c54 c55 c56 c57 c58 c59 c60 c61 c62 c63,l=c0::c1::c2::c3::c4::c5::c6::c7::c8::c9::c10::c11::c12::c13::c14::c15::c16::c17::c18::c19::c20::c21::c22::c23::c24::c25::c26::c27::c28::c29::c30::c31::c32::c33::c34::c35::c36::c37::c38::c39::c40::c41::c42::c43::c44::c45::c46::c47::c48::c49::c50::c51::c52::c53::c54::c55::c56::c57::c58::c59::c60::c61::c62::c63::[]
 |c0::c1::c2::c3::c4::c5::c6::c7::c8::c9::c10::c11::c12::c13::c14::c15::c16::c17::c18::c19::c20::c21::c22::c23::c24::c25::c26::c27::c28::c29::c30::c31::c32::c33::c34::c35::c36::c37::c38::c39::c40::c41::c42::c43::c44::c45::c46::c47::c48::c49::c50::c51::c52::c53::c54::c55::c56::c57::c58::c59::c60::c61::c62::c63::[],_=>⟨c0,c1,c2,c3,c4,c5,c6,c7,c8,c9,c10,c11,c12,c13,c14,c15,c16,c17,c18,c19,c20,c21,c22,c23,c24,c25,c26,c27,c28,c29,c30,c31,c32,c33,c34,c35,c36,c37,c38,c39,c40,c41,c42,c43,c44,c45,c46,c47,c48,c49,c50,c51,c52,c53,c54,c55,c56,c57,c58,c59,c60,c61,c62,c63,rfl⟩
theorem aqB {α:Type} :∀ {l:List α},l.length=9→∃c0 c1 c2 c3 c4 c5 c6 c7 c8,l=[c0,c1,c2,c3,c4,c5,c6,c7,c8]
 |[c0,c1,c2,c3,c4,c5,c6,c7,c8],_=>⟨c0,c1,c2,c3,c4,c5,c6,c7,c8,rfl⟩
theorem aqA {α:Type} :∀ {l:List α},l.length=6→∃c0 c1 c2 c3 c4 c5,l=[c0,c1,c2,c3,c4,c5]
 |[c0,c1,c2,c3,c4,c5],_=>⟨c0,c1,c2,c3,c4,c5,rfl⟩
theorem aCG {α:Type} :∀ {l:List α},l.length=5→∃c0 c1 c2 c3 c4,l=[c0,c1,c2,c3,c4]
 |[c0,c1,c2,c3,c4],_=>⟨c0,c1,c2,c3,c4,rfl⟩
theorem aja {H:Type} {enc:TypeId × Value→H} {W:World} {sp:Nat→Bool} {held:Bool} {n0:Nat} {c0 c1 c2 c3 c4 c5 c6 c7 c8 c9 c10 c11 c12 c13 c14 c15 c16 c17:Value} {x:DataW H × List MemPlace} (hf:DataW.trod enc Tryz.prog W 0 sp held n0 61 [c0,c1,c2,c3,c4,c5,c6,c7,c8,c9,c10,c11,c12,c13,c14,c15,c16,c17]=some x):∃f:Rf,[c0,c1,c2,c3,c4,c5,c6,c7,c8,c9,c10,c11,c12,c13,c14,c15,c16,c17]=f.cells.toList∧x.2=[]:=by
 obtain ⟨xs,n,_,hx,_,hlen,hh⟩:=DataW.trod_struct Tryz.underlying61 hf
 obtain ⟨y0,y1,y2,rfl⟩:=aqy (l:=xs) (by simpa using hlen)
 obtain ⟨k0,e0,z0⟩:=gK (c:=c0) Tryz.underlying3 (hh 0 _ rfl)
 obtain ⟨k1,e1,z1⟩:=gK (c:=c1) Tryz.underlying3 (hh 1 _ rfl)
 obtain ⟨f,ef,zf⟩:=Au (c0:=c2) (c1:=c3) (c2:=c4) (c3:=c5) (c4:=c6) (c5:=c7) (c6:=c8) (c7:=c9) (c8:=c10) (c9:=c11) (c10:=c12) (c11:=c13) (c12:=c14) (c13:=c15) (c14:=c16) (c15:=c17) (hh 2 _ rfl)
 subst e0 e1
 obtain ⟨q0,q1,q2,q3,q4,q5,q6,q7,q8,q9,q10,q11,q12,q13,XY,XZ⟩:=f
 simp only [aH.cells,List.cons.injEq,and_true] at ef
 obtain ⟨rfl,rfl,rfl,rfl,rfl,rfl,rfl,rfl,rfl,rfl,rfl,rfl,rfl,rfl,rfl,rfl⟩:=ef
 refine ⟨⟨k0,k1,⟨q0,q1,q2,q3,q4,q5,q6,q7,q8,q9,q10,q11,q12,q13,XY,XZ⟩⟩,rfl,?_⟩
 have:=congrArg Prod.snd hx
 simpa [z0,z1,zf] using this
theorem ahx {H:Type} {enc:TypeId × Value→H} {W:World} {sp:Nat→Bool} {held:Bool} {n0:Nat} {c0 c1 c2 c3 c4 c5 c6 c7 c8 c9 c10 c11 c12 c13 c14 c15 c16 c17 c18:Value} {x:DataW H × List MemPlace} (hf:DataW.trod enc Tryz.prog W 0 sp held n0 63 [c0,c1,c2,c3,c4,c5,c6,c7,c8,c9,c10,c11,c12,c13,c14,c15,c16,c17,c18]=some x):∃f:Am,[c0,c1,c2,c3,c4,c5,c6,c7,c8,c9,c10,c11,c12,c13,c14,c15,c16,c17,c18]=f.cells.toList∧x.2=[]:=by
 obtain ⟨xs,n,_,hx,_,hlen,hh⟩:=DataW.trod_struct Tryz.underlying63 hf
 obtain ⟨y0,y1,y2,y3,rfl⟩:=list4 (l:=xs) (by simpa using hlen)
 obtain ⟨k0,e0,z0⟩:=gK (c:=c0) Tryz.underlying3 (hh 0 _ rfl)
 obtain ⟨k1,e1,z1⟩:=gK (c:=c1) Tryz.underlying3 (hh 1 _ rfl)
 obtain ⟨k2,e2,z2⟩:=gK (c:=c2) Tryz.underlying3 (hh 2 _ rfl)
 obtain ⟨f,ef,zf⟩:=Au (c0:=c3) (c1:=c4) (c2:=c5) (c3:=c6) (c4:=c7) (c5:=c8) (c6:=c9) (c7:=c10) (c8:=c11) (c9:=c12) (c10:=c13) (c11:=c14) (c12:=c15) (c13:=c16) (c14:=c17) (c15:=c18) (hh 3 _ rfl)
 subst e0 e1 e2
 obtain ⟨q0,q1,q2,q3,q4,q5,q6,q7,q8,q9,q10,q11,q12,q13,XY,XZ⟩:=f
 simp only [aH.cells,List.cons.injEq,and_true] at ef
 obtain ⟨rfl,rfl,rfl,rfl,rfl,rfl,rfl,rfl,rfl,rfl,rfl,rfl,rfl,rfl,rfl,rfl⟩:=ef
 refine ⟨⟨k0,k1,k2,⟨q0,q1,q2,q3,q4,q5,q6,q7,q8,q9,q10,q11,q12,q13,XY,XZ⟩⟩,rfl,?_⟩
 have:=congrArg Prod.snd hx
 simpa [z0,z1,z2,zf] using this
theorem aiB {H:Type} {enc:TypeId × Value→H} {W:World} {sp:Nat→Bool} {held:Bool} {n0:Nat} {v:Value} {x:DataW H × List MemPlace} (hf:DataW.trod enc Tryz.prog W 0 sp held n0 kT [v]=some x):∃(A:Option Addr) (l:List Md) (c:Nat),v= .slice A l.length c∧l.length≤9223372036854775807∧uj A l W∧∀q∈x.2,q.block<W.heap.size:=by
 rcases Go.Deep.open_slice Tryz.underlying26 hf with ⟨h1,h2⟩|⟨a,len,cap,m,n,D,Pl,h1,_,hlc,hmax,hm,hx,hel⟩
 ·have e1:v= .slice none 0 0:=by simpa using h1
  exact ⟨none,[],0,e1,by simp, .inl rfl,by rw [h2];simp⟩
 ·have e1:v= .slice (some a) len cap:=by simpa using h1
  rw [Tryz.cellsMd] at hel hx
  have hlm:len≤m:=by rw [hm];split<;>omega
  have each:∀i,i<m→∃f:Md,W.cells? 0 (a.add (i * 20)) 20=some f.cells.toList∧Pl i=[]:=fun i hi=>by
   obtain ⟨cs,g1,g2⟩:=hel i hi
   obtain ⟨f,e,z⟩:=aiz ((World.cells?_some g1).2.1) g2
   exact ⟨f,by rw [←e];exact g1,z⟩
  obtain ⟨q,hq⟩:=Go.Deep.choose_lt each
  have cellAt:∀i,i<m→∀(j:Nat) (u:Value),(q i).cells.toList[j]? =some u→W.cell? (a.add (i * 20+j))=some u:=fun i hi j u hj=>by
   have acF:j<20:=by
    rcases Nat.lt_or_ge j (q i).cells.toList.length with h'|h'
    ·exact h'
    ·rw [List.getElem?_eq_none h'] at hj;cases hj
   have:=(World.cells?_some (hq i hi).1).2.2 j acF
   rw [Go.Deep.add_add] at this
   rw [this];exact hj
  have hp:x.2=MemPlace.row a (m * 20)++(List.range m).flatMap Pl:=congrArg Prod.snd hx
  have hpl:(List.range m).flatMap Pl=[]:=by
   rw [List.flatMap_eq_nil_iff]
   intro i hi
   exact (hq i (List.mem_range.1 hi)).2
  rw [hpl,List.append_nil] at hp
  have hblk:0<m→a.spot=none∧a.block<W.heap.size:=fun h0=>by
   have:=cellAt 0 h0 0 (.int .i64 (q 0).kind) rfl
   have e0:a.add (0 * 20+0)=a:=by simp [Addr.add]
   rw [e0] at this
   exact ⟨World.cell?_spot this,World.block_lt_of_cell? W a this⟩
  have hold:∀y∈x.2,y.block<W.heap.size:=by
   rw [hp]
   intro y hy
   obtain ⟨i,hi,rfl⟩:=List.mem_map.1 hy
   have:=List.mem_range.1 hi
   exact (hblk (by omega)).2
  refine ⟨some a,(List.range len).map q,cap,by simpa using e1,by simp;exact Nat.le_trans hlc hmax,?_,hold⟩
  by_cases h0:len=0
  ·left;rw [h0];rfl
  ·right
   obtain ⟨b,off,spot⟩:=a
   obtain rfl:spot=none:=(hblk (by omega)).1
   refine ⟨b,off,rfl,fun k r hk j u hj=> ?_⟩
   have hkl:k<len:=by
    rcases Nat.lt_or_ge k len with h'|h'
    ·exact h'
    ·rw [List.getElem?_eq_none (by simpa using h')] at hk;cases hk
   have er:q k=r:=by
    rw [List.getElem?_map,List.getElem?_range hkl] at hk
    exact Option.some.inj hk
   have:=cellAt k (by omega) j u (by rw [er];exact hj)
   have ea:(⟨b,off,none⟩:Addr).add (k * 20+j)=⟨b,off+k * 20+j,none⟩:=by
    unfold Addr.add
    split
    ·rename_i hz
     have:k * 20=0∧j=0:=by omega
     rw [this.1,this.2];simp
    ·simp [Nat.add_assoc]
   rw [ea] at this
   exact this
theorem aiJ {H:Type} {enc:TypeId × Value→H} {W:World} {sp:Nat→Bool} {held:Bool} {n0:Nat} {c0 c1 c2 c3 c4 c5:Value} {x:DataW H × List MemPlace} (hf:DataW.trod enc Tryz.prog W 0 sp held n0 65 [c0,c1,c2,c3,c4,c5]=some x):∃f:Po,[c0,c1,c2,c3,c4,c5]=f.cells.toList∧x.2=[]:=by
 obtain ⟨xs,n,_,hx,_,hlen,hh⟩:=DataW.trod_array Tryz.underlying65 hf
 rw [show Tryz.prog.cellsOf 3=1 by kernel_rfl] at hh
 obtain ⟨y0,y1,y2,y3,y4,y5,rfl⟩:=aqA (l:=xs) hlen
 obtain ⟨k0,e0,z0⟩:=gK (c:=c0) (y:=y0) Tryz.underlying3 (hh 0 (by omega))
 obtain ⟨k1,e1,z1⟩:=gK (c:=c1) (y:=y1) Tryz.underlying3 (hh 1 (by omega))
 obtain ⟨k2,e2,z2⟩:=gK (c:=c2) (y:=y2) Tryz.underlying3 (hh 2 (by omega))
 obtain ⟨k3,e3,z3⟩:=gK (c:=c3) (y:=y3) Tryz.underlying3 (hh 3 (by omega))
 obtain ⟨k4,e4,z4⟩:=gK (c:=c4) (y:=y4) Tryz.underlying3 (hh 4 (by omega))
 obtain ⟨k5,e5,z5⟩:=gK (c:=c5) (y:=y5) Tryz.underlying3 (hh 5 (by omega))
 subst e0 e1 e2 e3 e4 e5
 refine ⟨⟨k0,k1,k2,k3,k4,k5⟩,rfl,?_⟩
 have:=congrArg Prod.snd hx
 simpa [z0,z1,z2,z3,z4,z5] using this
theorem Tryz.cellsEm:Tryz.prog.cellsOf 67=64:=by kernel_rfl
theorem ae4 {H:Type} {enc:TypeId × Value→H} {W:World} {sp:Nat→Bool} {held:Bool} {n0:Nat} {cs:List Value} {x:DataW H × List MemPlace} (hlen0:cs.length=64) (hf:DataW.trod enc Tryz.prog W 0 sp held n0 67 cs=some x):∃p:EV,cs=(EV.cells p).toList∧mg p.1 p.2 W∧∀q∈x.2,q.block<W.heap.size:=by
 obtain ⟨c0,c1,c2,c3,c4,c5,c6,c7,c8,c9,c10,c11,c12,c13,c14,c15,c16,c17,c18,c19,c20,c21,c22,c23,c24,c25,c26,c27,c28,c29,c30,c31,c32,c33,c34,c35,c36,c37,c38,c39,c40,c41,c42,c43,c44,c45,c46,c47,c48,c49,c50,c51,c52,c53,c54,c55,c56,c57,c58,c59,c60,c61,c62,c63,rfl⟩:=aox hlen0
 obtain ⟨xs,n,_,hx,_,hlen,hh⟩:=DataW.trod_struct Tryz.underlying67 hf
 obtain ⟨y0,y1,y2,y3,y4,y5,y6,y7,y8,rfl⟩:=aqB (l:=xs) (by simpa using hlen)
 obtain ⟨op,e0,z0⟩:=gK (c:=c0) Tryz.underlying3 (hh 0 _ rfl)
 obtain ⟨rf,e1,z1⟩:=aja (c0:=c1) (c1:=c2) (c2:=c3) (c3:=c4) (c4:=c5) (c5:=c6) (c6:=c7) (c7:=c8) (c8:=c9) (c9:=c10) (c10:=c11) (c11:=c12) (c12:=c13) (c13:=c14) (c14:=c15) (c15:=c16) (c16:=c17) (c17:=c18) (hh 1 _ rfl)
 obtain ⟨am,e2,z2⟩:=ahx (c0:=c19) (c1:=c20) (c2:=c21) (c3:=c22) (c4:=c23) (c5:=c24) (c6:=c25) (c7:=c26) (c8:=c27) (c9:=c28) (c10:=c29) (c11:=c30) (c12:=c31) (c13:=c32) (c14:=c33) (c15:=c34) (c16:=c35) (c17:=c36) (c18:=c37) (hh 2 _ rfl)
 obtain ⟨ct,e3,z3⟩:=gK (c:=c38) Tryz.underlying3 (hh 3 _ rfl)
 obtain ⟨zo,e4,z4⟩:=gK (c:=c39) Tryz.underlying3 (hh 4 _ rfl)
 obtain ⟨cd,e5,z5⟩:=Rz (c:=c40) (hh 5 _ rfl)
 obtain ⟨f6,ef6,zf6⟩:=Au (c0:=c41) (c1:=c42) (c2:=c43) (c3:=c44) (c4:=c45) (c5:=c46) (c6:=c47) (c7:=c48) (c8:=c49) (c9:=c50) (c10:=c51) (c11:=c52) (c12:=c53) (c13:=c54) (c14:=c55) (c15:=c56) (hh 6 _ rfl)
 obtain ⟨po,e7,z7⟩:=aiJ (c0:=c57) (c1:=c58) (c2:=c59) (c3:=c60) (c4:=c61) (c5:=c62) (hh 7 _ rfl)
 obtain ⟨A,l,cc,e8,hl8,hat,hp8⟩:=aiB (v:=c63) (hh 8 _ rfl)
 refine ⟨(⟨op,rf,am,ct,zo,cd,f6,po,l⟩,⟨A,l.length,cc⟩),?_,⟨rfl,hl8,hat⟩,?_⟩
 ·have e:(EV.cells (⟨op,rf,am,ct,zo,cd,f6,po,l⟩,⟨A,l.length,cc⟩)).toList=[.int .i64 op]++rf.cells.toList++am.cells.toList++[.int .i64 ct, .int .i64 zo, .string cd]++f6.cells.toList++po.cells.toList++[.slice A l.length cc]:=rfl
  rw [e,←e1,←e2,←ef6,←e7,e0,e3,e4,e5,e8];rfl
 ·have:=congrArg Prod.snd hx
  simp only at this
  rw [this]
  intro q hq
  refine hp8 q ?_
  simpa [z0,z1,z2,z3,z4,z5,zf6,z7] using hq
instance:Inhabited EV:=⟨(zeroE,⟨none,0,0⟩)⟩
theorem aC8 {α:Type} :∀ {l:List α},l.length=7→∃c0 c1 c2 c3 c4 c5 c6,l=[c0,c1,c2,c3,c4,c5,c6]
 |[c0,c1,c2,c3,c4,c5,c6],_=>⟨c0,c1,c2,c3,c4,c5,c6,rfl⟩
end Go.Proofs.YtdicgggkdmkklaaGreatDoor
