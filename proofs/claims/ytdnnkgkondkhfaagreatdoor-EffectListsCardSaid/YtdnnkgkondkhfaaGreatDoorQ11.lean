/- Walks: the reference of chapter 8: Is, cost, Text, PoolText. Conditions: Laid. Walks: the reference of chapter 8: Text, PoolText. Conditions: Laid. Walks: the reference of chapter 8: PoolText, coun -/
import Derived.Test.YtdnnkgkondkhfaaGreatDoorMEMem
import Derived.Test.YtdnnkgkondkhfaaGreatDoorQ7
import Derived.Test.YtdnnkgkondkhfaaGreatDoorQ4
import Derived.Test.YtdnnkgkondkhfaaGreatDoorQ5
import Derived.Test.YtdnnkgkondkhfaaGreatDoorMUE
import Derived.Test.YtdnnkgkondkhfaaGreatDoorQ9
import Derived.Test.YtdnnkgkondkhfaaGreatDoorQ3
set_option linter.all false
set_option maxRecDepth 100000
set_option maxHeartbeats 16000000
namespace Go.Proofs.YtdnnkgkondkhfaaGreatDoor
attribute [local irreducible] wpList Code.wp Calls
open Go.ChangeShapes Go.WideShapes Go.RowKit
theorem afZ (c:Co) (w:World) (hl:Laid w):Calls Tryz.prog 135 #[.agg c.cells] w fun e w'=>e= .returned (.bool (kU c))∧Below w.heap.size w w':=by
 obtain ⟨g,x,c0,c1,c2,c3,c4⟩:=c
 have hS:=St.start hl bJ
 go_enter Tryz.func135,Tryz.ntmps135
 go_wp2_with (first|((with_reducible refine lK ?_);refine wp_loop_rounds 6 ?_)|(with_reducible refine jG ?_)|((with_reducible refine bG ?_);(first|(refine aS rfl ?_)|((fail_if_success refine fJ rfl ?_);refine iZ _ _ rfl rfl (fun hb=> ?_) (fun hb=> ?_)<;>(first|(obtain rfl:=eq_of_beq hb)|(simp only [hb]))));(try simp only [ah,ak,au,ay,aA]))|((with_reducible refine bI ?_);(first|(refine aG rfl hS rfl rfl ?_;intro g w hS));(try simp only [ah,ak,au,ay,aA]))|((with_reducible refine aC ?_);(first|(refine uG rfl hS rfl rfl (by repeat constructor) ?_)|(refine AY rfl hS rfl rfl (by repeat constructor) ?_)|(refine QM rfl hS rfl rfl (by repeat constructor) ?_)|(refine QN rfl hS rfl rfl (by repeat constructor) ?_)|(refine QO rfl hS rfl rfl (by repeat constructor) ?_)|(refine QS rfl hS rfl rfl (by repeat constructor) ?_)|(refine QT rfl hS rfl rfl (by repeat constructor) ?_));(try simp only [ah,ak,au,ay,aA])))
 all_goals (try (exfalso;simp only [decide_eq_false_iff_not] at *;omega))
 all_goals go_ret
 all_goals exact ⟨aX (by rw [Bool.eq_iff_iff];simp_all [kU,rJ]<;>(intros;omega)),hS.below⟩
theorem Yb (c:Co) (R:Bool) (h:Hid (kU c=R)) (w:World) (hl:Laid w):Calls Tryz.prog 135 #[.agg c.cells] w fun e w'=>e= .returned (.bool R)∧Below w.heap.size w w':=
 (afZ c w hl).mono fun e w' h'=>⟨by rw [h'.1,h.out],h'.2⟩
theorem ZX (p:Po) (w:World) (hl:Laid w):Calls Tryz.prog 207 #[.agg p.cells] w fun e w'=>e= .returned (.agg (Ee p).cells)∧Below w.heap.size w w':=by
 obtain ⟨pg,c0,c1,c2,c3,c4⟩:=p
 have hS:=St.start hl bJ
 go_enter Tryz.func207,Tryz.ntmps207
 go_wp2_with (first|((with_reducible refine lK ?_);refine wp_loop_rounds 6 ?_)|(with_reducible refine jG ?_)|((with_reducible refine bI ?_);(first|(refine aG rfl hS rfl rfl ?_;intro g w hS));(try simp only [ah,ak,au,ay,aA]))|((with_reducible refine aW ?_);(first|(refine aJ 50 rfl hS rfl _ nM ?_;intro g w hS));(try simp only [ah,ak,au,ay,aA]))|((with_reducible refine LH ?_);refine Ti rfl rfl ?_;(try simp only [ah,ak,au,ay,aA]))|((with_reducible refine aC ?_);(first|(refine qK rfl hS rfl rfl (by repeat constructor) ?_)|(refine abt rfl hS rfl rfl (by repeat constructor) ?_)|(refine al8 rfl hS rfl rfl (by repeat constructor) ?_)|(refine al9 rfl hS rfl rfl (by repeat constructor) ?_)|(refine ama rfl hS rfl rfl (by repeat constructor) ?_)|(refine amb rfl hS rfl rfl (by repeat constructor) ?_)|(refine amc rfl hS rfl rfl (by repeat constructor) ?_));(try simp only [ah,ak,au,ay,aA]))|((with_reducible refine aN ?_);(first|(refine kG rfl hS rfl rfl rfl (by repeat constructor) ?_;intro w hS)|(refine akU rfl hS rfl rfl rfl (by repeat constructor) ?_;intro w hS)|(refine akV rfl hS rfl rfl rfl (by repeat constructor) ?_;intro w hS)|(refine akW rfl hS rfl rfl rfl (by repeat constructor) ?_;intro w hS)|(refine akX rfl hS rfl rfl rfl (by repeat constructor) ?_;intro w hS)|(refine akY rfl hS rfl rfl rfl (by repeat constructor) ?_;intro w hS));(try simp only [ah,ak,au,ay,aA])))
 all_goals (refine aaL hS rfl rfl (by repeat constructor) rfl (fun hb=>⟨rfl,hb⟩))
end Go.Proofs.YtdnnkgkondkhfaaGreatDoor
namespace Go.Proofs.YtdnnkgkondkhfaaGreatDoor
attribute [local go_sem] Dq
open Go.ChangeShapes Go.WideShapes Go.RowKit
attribute [local irreducible] wpList Code.wp Calls
def JI (n0 n1 n2 n3 n4:Nat):Nat→Nat|0=>n0|1=>n1|2=>n2|3=>n3|_=>n4
def acR:Nat→UInt8|0=>65|1=>67|2=>74|3=>82|_=>69
def AQ (f:Nat→Nat):Nat→Str|0=>[]|i+1=>AQ f i++List.replicate (f i) (acR i)
theorem Yc (c:Co) (h:kU c=true) (T:Str) (HT:Hid (iy c=T)) (w0:World) (hl:Laid w0):Calls Tryz.prog 82 #[.agg c.cells] w0 fun e w'=>e= .returned (.string (B T))∧Below w0.heap.size w0 w':=by
 have HV:=Lib.hid h
 have hT:=HT.out
 simp only [kU,rJ,Bool.and_eq_true,decide_eq_true_eq] at h
 obtain ⟨cg,cx,c0,c1,c2,c3,c4⟩:=c
 simp only at h
 obtain ⟨⟨a0,b0⟩,⟨a1,b1⟩,⟨a2,b2⟩,⟨a3,b3⟩,⟨a4,b4⟩,ag,bg,ax,bx⟩:=h
 obtain ⟨n0,rfl⟩:=Int.eq_ofNat_of_zero_le a0
 obtain ⟨n1,rfl⟩:=Int.eq_ofNat_of_zero_le a1
 obtain ⟨n2,rfl⟩:=Int.eq_ofNat_of_zero_le a2
 obtain ⟨n3,rfl⟩:=Int.eq_ofNat_of_zero_le a3
 obtain ⟨n4,rfl⟩:=Int.eq_ofNat_of_zero_le a4
 obtain ⟨nx,rfl⟩:=Int.eq_ofNat_of_zero_le ax
 have lg:=kV cg (by omega) bg
 have hfin:AQ (JI n0 n1 n2 n3 n4) 5=mW ⟨cg,nx,n0,n1,n2,n3,n4⟩:=by simp [AQ,JI,acR,mW,rep]
 have hbody:iy ⟨cg,nx,n0,n1,n2,n3,n4⟩=if lH ⟨cg,nx,n0,n1,n2,n3,n4⟩=[] then [48] else lH ⟨cg,nx,n0,n1,n2,n3,n4⟩:=by
  unfold iy
  rw [if_pos HV.out]
  by_cases hz:uU ⟨cg,nx,n0,n1,n2,n3,n4⟩ dQ=true
  ·rw [if_pos hz,(yh _ _).1 hz,if_pos (by decide +kernel)]
  ·rw [if_neg hz,if_neg (QJ HV.out (by simpa using hz))]
 have HB:=Lib.hid hbody
 have HF:=Lib.hid hfin
 have lgn:(pY cg).length≤1000:=by unfold pY;split<;>first|omega|simp
 have e0:(⟨#[65,67,74,82,69]⟩:ByteArray).extract 0 1=B [65]:=by decide +kernel
 have e1:(⟨#[65,67,74,82,69]⟩:ByteArray).extract 1 2=B [67]:=by decide +kernel
 have e2:(⟨#[65,67,74,82,69]⟩:ByteArray).extract 2 3=B [74]:=by decide +kernel
 have e3:(⟨#[65,67,74,82,69]⟩:ByteArray).extract 3 4=B [82]:=by decide +kernel
 have e4:(⟨#[65,67,74,82,69]⟩:ByteArray).extract 4 5=B [69]:=by decide +kernel
 have ati:SQ cg:=⟨by omega,by omega⟩
 clear hbody hfin hT
 have hS:=St.start hl bJ
 go_in
 go_wp2_with (first|(go_at_call 135;refine c_call (fun hl=>Yb _ _ HV _ hl) hS ?_;clear hS;intro w hS)|refine s0 ?_|(refine s2 ?_;clear hS;intro g w hS))
 go_loopw [3,4] (fun sv iv wr=>∃i:Nat,i≤nx∧iv= .int .i64 i∧sv= .string (B (List.replicate i 88))∧Hid (St Laid w0 [(g,Co.cells ⟨cg,nx,n0,n1,n2,n3,n4⟩,50)] wr)) (fun _ iv _=>nx - (intOf iv).toNat)
 case atStart=>exact ⟨0,by omega,rfl,rfl,Lib.hid hS⟩
 case round=>
  clear hS
  obtain ⟨i,hi,rfl,rfl,HS⟩:=hrel
  have hS:=HS.out
  clear HS
  have hL:Len (List.replicate i (88:UInt8)) 10:=⟨by simp;omega⟩
  by_cases hlt:i<nx
  ·have hl2:(i:Int)<nx:=by omega
   go_wp2_with (first|refine s0 ?_)
   go_roundw
   case rel=>exact ⟨i+1,by omega,by go_num,by rw [List.replicate_succ'],Lib.hid hS⟩
   case measure=>simp [intOf];omega
  ·have hl2:¬(i:Int)<nx:=by omega
   have hX:Hid (List.replicate i 88=rep 88 (nx:Int)):=Lib.hid (by rw [show i=nx by omega];simp [rep])
   go_wp2_with (first|refine s0 ?_|(refine s1 ?_;clear hS;intro w hS))
   all_goals
    go_loopw [3,5] (fun sv jv wr=>∃j:Nat,∃Z:Str,j≤5∧jv= .int .i64 j∧sv= .string (B Z)∧Hid (Z=rep 88 (nx:Int)++pY cg++AQ (JI n0 n1 n2 n3 n4) j)∧Z.length≤1002+9 * j∧Hid (St Laid w0 [(g,Co.cells ⟨cg,nx,n0,n1,n2,n3,n4⟩,50)] wr)) (fun _ jv _=>5 - (intOf jv).toNat)
    case atStart=>
     have hz:∀Z:Str,Z=rep 88 (nx:Int)++pY cg++AQ (JI n0 n1 n2 n3 n4) 0→Z.length≤1002:=fun Z h=>by rw [h];simp [rep,AQ];omega
     refine ⟨0,_,by omega,rfl,rfl,Lib.hid ?_,hz _ ?_,Lib.hid hS⟩
     all_goals (rw [hX.out];simp [AQ,pY];try first|(intro h0;exfalso;have hne:= ‹(cg != 0)=true›;simp at hne;omega)|simp_all)
    case round=>
     clear hS
     obtain ⟨j,Z,hj,rfl,rfl,HZ,hZl,HS⟩:=hrel
     have hS:=HS.out
     clear HS
     have hLZ:Len Z 2000:=⟨by omega⟩
     by_cases hj5:j<5
     ·obtain ⟨m,hm⟩:∃m,JI n0 n1 n2 n3 n4 j=m:=⟨_,rfl⟩
      obtain ⟨c,hc⟩:∃c,acR j=c:=⟨_,rfl⟩
      obtain ⟨J,hJ⟩:∃J,J=j+1:=⟨_,rfl⟩
      have HJ:Hid (AQ (JI n0 n1 n2 n3 n4) J=AQ (JI n0 n1 n2 n3 n4) j++List.replicate m c):=Lib.hid (by rw [hJ,←hm,←hc];rfl)
      rcases (by omega:j=0∨j=1∨j=2∨j=3∨j=4) with rfl|rfl|rfl|rfl|rfl
      all_goals
       simp only [JI,acR] at hm hc
       have hm9:m≤9:=by omega
       have HC:=Lib.hid hc
       have HM:=Lib.hid hm
       clear hc hm
       go_wp2_with (first|fail)
       go_loopw [3,6] (fun sv kv wr=>∃k:Nat,∃Y:Str,k≤m∧kv= .int .i64 k∧sv= .string (B Y)∧Hid (Y=Z++List.replicate k c)∧Y.length≤Z.length+k∧Hid (St Laid w0 [(g,Co.cells ⟨cg,nx,n0,n1,n2,n3,n4⟩,50)] wr)) (fun _ kv _=>m - (intOf kv).toNat)
       case atStart=>exact ⟨0,Z,by omega,rfl,rfl,Lib.hid (by simp),by omega,Lib.hid hS⟩
       case round=>
        clear hS
        obtain ⟨k,Y,hk,rfl,rfl,HY,hYl,HS⟩:=hrel
        have hS:=HS.out
        have hm:=HM.out
        clear HS
        have hLY:Len Y 3000:=⟨by omega⟩
        by_cases hkn:k<m
        ·subst hm
         have hk2:=Int.ofNat_lt.2 hkn
         go_wp2_with (first|refine s0 ?_)
         go_roundw
         case rel=>exact ⟨k+1,_,by omega,by go_num,rfl,Lib.hid (by rw [HY.out,List.replicate_succ',←List.append_assoc,←HC.out]),by simp;omega,Lib.hid hS⟩
         case measure=>simp [intOf];omega
        ·subst hm
         have hk2:=mt Int.ofNat_lt.1 hkn
         have hke:=Nat.le_antisymm hk (Nat.not_lt.1 hkn)
         go_wp2_with (first|refine s0 ?_)
         go_roundw
         case rel=>exact ⟨J,Y,by omega,congrArg (Value.int _) (by omega),rfl,Lib.hid (by rw [HY.out,HZ.out,HJ.out,hke,List.append_assoc]),by omega,Lib.hid hS⟩
         case measure=>simp [intOf]
     ·have hj6:¬(j:Int)<5:=by omega
      have hZ:Z=lH ⟨cg,nx,n0,n1,n2,n3,n4⟩:=by
       rw [HZ.out,show j=5 by omega,HF.out];unfold lH;rw [List.append_assoc]
      have hT:=HT.out
      rw [HB.out,←hZ] at hT
      have HT2:=Lib.hid hT
      clear hZ hT
      cases h1:(Z==[])
      all_goals
       go_wp2_with (first|(have hq:=sE;subst hq))
       all_goals go_ret
       all_goals refine ⟨dL ?_,hS.below⟩
       all_goals (rw [←HT2.out];simp_all)
theorem GH (c:Co) (T:Str) (HT:Hid (iy c=T)) (w:World) (hl:Laid w):Calls Tryz.prog 82 #[.agg c.cells] w fun e w'=>e= .returned (.string (B T))∧Below w.heap.size w w':=by
 cases hv:kU c with
 |true=>exact Yc c hv T HT w hl
 |false=>
  have HV:=Lib.hid hv
  obtain rfl:T=[]:=by rw [←HT.out,Jb hv]
  clear HT hv
  have hS:=St.start hl bJ
  go_enter Tryz.func82,Tryz.ntmps82
  go_wp2_with (first|(go_at_call 135;refine c_call (fun hl=>Yb _ _ HV _ hl) hS ?_;clear hS;intro w hS)|refine s0 ?_|(refine s2 ?_;clear hS;intro g w hS))
  all_goals go_ret
  all_goals exact ⟨rfl,hS.below⟩
end Go.Proofs.YtdnnkgkondkhfaaGreatDoor
namespace Go.Proofs.YtdnnkgkondkhfaaGreatDoor
attribute [local irreducible] wpList Code.wp Calls
open Go.ChangeShapes Go.WideShapes Go.RowKit
theorem E8 (p:Po) (T:Str) (HT:Hid (jY p=T)) (w:World) (hl:Laid w):Calls Tryz.prog 116 #[.agg p.cells] w fun e w'=>e= .returned (.string (B T))∧Below w.heap.size w w':=by
 have HT:Hid (iy (Ee p)=T):=HT
 have hS:=St.start hl bJ
 go_enter Tryz.func116,Tryz.ntmps116
 go_wp2_with (first|(go_at_call 207;refine c_call (fun hl=>ZX _ _ hl) hS ?_;clear hS;intro w hS)|(go_at_call 82;refine c_call (fun hl=>GH _ _ HT _ hl) hS ?_;clear hS;intro w hS)|refine s0 ?_|(refine s2 ?_;clear hS;intro g w hS))
 all_goals go_ret
 all_goals exact ⟨rfl,hS.below⟩
def aeK (c:Co) (o:Option Co):Value:=match o with|some d=> .tuple #[.agg d.cells, .bool true]|none=> .tuple #[.agg c.cells, .bool false]
theorem aqe:∀n:Fin 256,48≤n.val→IntKind.u8.wrap ((n.val:Int) - 48)=(n.val:Int) - 48:=by decide +kernel
theorem aqL (b:UInt8) (h:48≤b.toNat):IntKind.u8.wrap ((b.toNat:Int) - 48)=(b.toNat:Int) - 48:=aqe ⟨b.toNat,b.toNat_lt⟩ h
theorem EJ {b:UInt8} {k:UInt8} (h:b≠k):((k.toNat:Int)==(b.toNat:Int))=false:=by
 rw [beq_eq_false_iff_ne];intro e;exact h (UInt8.toNat_inj.1 (by omega))
theorem Ya (c:Co) (b:UInt8) (hx:0≤c.x∧c.x≤1000) (h0:0≤c.c0∧c.c0≤1000) (h1:0≤c.c1∧c.c1≤1000) (h2:0≤c.c2∧c.c2≤1000) (h3:0≤c.c3∧c.c3≤1000) (h4:0≤c.c4∧c.c4≤1000) (hg:0≤c.g∧c.g≤1000) (w:World) (hl:Laid w):Calls Tryz.prog 266 #[.agg c.cells, .int .u8 (b.toNat:Int)] w fun e w'=>e= .returned (aeK c (mY c b))∧Below w.heap.size w w':=by
 have hb:=b.toNat_lt
 obtain ⟨g,x,c0,c1,c2,c3,c4⟩:=c
 simp only at hx h0 h1 h2 h3 h4 hg
 have hS:=St.start hl bJ
 obtain ⟨_,_⟩:=h0
 obtain ⟨_,_⟩:=h1
 obtain ⟨_,_⟩:=h2
 obtain ⟨_,_⟩:=h3
 obtain ⟨_,_⟩:=h4
 obtain ⟨_,_⟩:=hx
 have y0:((((⟨#[65,67,74,82,69]⟩:ByteArray)[0]).toNat:Int))=65:=by decide
 have y1:((((⟨#[65,67,74,82,69]⟩:ByteArray)[1]).toNat:Int))=67:=by decide
 have y2:((((⟨#[65,67,74,82,69]⟩:ByteArray)[2]).toNat:Int))=74:=by decide
 have y3:((((⟨#[65,67,74,82,69]⟩:ByteArray)[3]).toNat:Int))=82:=by decide
 have y4:((((⟨#[65,67,74,82,69]⟩:ByteArray)[4]).toNat:Int))=69:=by decide
 by_cases hl5:b=88∨b=65∨b=67∨b=74∨b=82∨b=69
 ·rcases hl5 with rfl|rfl|rfl|rfl|rfl|rfl
  all_goals
   go_in
   go_wp2_with (first|((with_reducible refine lK ?_);refine wp_loop_rounds 6 ?_)|(with_reducible refine jG ?_)|refine s0 ?_|(refine s1 ?_;clear hS;intro w hS)|(refine s2 ?_;clear hS;intro g w hS))
   all_goals (refine res2 hS ?_;exact ⟨rfl,hS.below⟩)
 simp only [not_or] at hl5
 obtain ⟨hX,e0,e1,e2,e3,e4⟩:=hl5
 have tX:((b.toNat:Int)==88)=false:=by
  rw [beq_eq_false_iff_ne];intro e;exact hX (UInt8.toNat_inj.1 (by have:(88:UInt8).toNat=88:=rfl;omega))
 by_cases hD:48≤b.toNat∧b.toNat≤57
 ·have tw:=aqL b hD.1
  rw [show mY ⟨g,x,c0,c1,c2,c3,c4⟩ b=some ⟨10 * g+((b.toNat:Int) - 48),x,c0,c1,c2,c3,c4⟩ by unfold mY;rw [if_neg hX,if_pos hD]]
  have t1:decide ((b.toNat:Int)≥48)=true:=by simp;omega
  have t1':decide (48≤(b.toNat:Int))=true:=by simp;omega
  have t2:decide ((b.toNat:Int)≤57)=true:=by simp;omega
  obtain ⟨d1,d2⟩:48≤(b.toNat:Int)∧(b.toNat:Int)≤57:=by omega
  obtain ⟨hg0,hg1⟩:=hg
  clear hD
  generalize (b.toNat:Int)=n at *
  go_in
  go_wp2_with (first|refine s0 ?_|(refine s1 ?_;clear hS;intro w hS)|(refine s2 ?_;clear hS;intro g w hS))
  all_goals (refine res2 hS ?_;exact ⟨rfl,hS.below⟩)
 ·rw [show mY ⟨g,x,c0,c1,c2,c3,c4⟩ b=none by unfold mY;rw [if_neg hX,if_neg hD,if_neg e0,if_neg e1,if_neg e2,if_neg e3,if_neg e4]]
  have x0:((65:Int)==(b.toNat:Int))=false:=EJ e0
  have x1:((67:Int)==(b.toNat:Int))=false:=EJ e1
  have x2:((74:Int)==(b.toNat:Int))=false:=EJ e2
  have x3:((82:Int)==(b.toNat:Int))=false:=EJ e3
  have x4:((69:Int)==(b.toNat:Int))=false:=EJ e4
  clear e0 e1 e2 e3 e4
  by_cases d1:48≤b.toNat
  ·have t1:decide ((b.toNat:Int)≥48)=true:=by simp;omega
   have t1':decide (48≤(b.toNat:Int))=true:=by simp;omega
   have t2:decide ((b.toNat:Int)≤57)=false:=by simp;omega
   generalize (b.toNat:Int)=n at *
   go_in
   go_wp2_with (first|((with_reducible refine lK ?_);refine wp_loop_rounds 6 ?_)|(with_reducible refine jG ?_)|refine s0 ?_|(refine s1 ?_;clear hS;intro w hS)|(refine s2 ?_;clear hS;intro g w hS))
   all_goals (refine res2 hS ?_;exact ⟨rfl,hS.below⟩)
  ·have t1:decide ((b.toNat:Int)≥48)=false:=by simp;omega
   have t1':decide (48≤(b.toNat:Int))=false:=by simp;omega
   generalize (b.toNat:Int)=n at *
   go_in
   go_wp2_with (first|((with_reducible refine lK ?_);refine wp_loop_rounds 6 ?_)|(with_reducible refine jG ?_)|refine s0 ?_|(refine s1 ?_;clear hS;intro w hS)|(refine s2 ?_;clear hS;intro g w hS))
   all_goals (refine res2 hS ?_;exact ⟨rfl,hS.below⟩)
structure Small (c:Co) (n:Int):Prop where
 x:0≤c.x∧c.x≤n
 c0:0≤c.c0∧c.c0≤n
 c1:0≤c.c1∧c.c1≤n
 c2:0≤c.c2∧c.c2≤n
 c3:0≤c.c3∧c.c3≤n
 c4:0≤c.c4∧c.c4≤n
 g:0≤c.g∧c.g≤99
theorem Small.step {c d:Co} {b:UInt8} {n:Int} (h:Small c n) (hc:mY c b=some d) (hg:d.g≤99):Small d (n+1):=by
 obtain ⟨a1,a2,a3,a4,a5,a6,a7⟩:=abZ hc h.x h.c0 h.c1 h.c2 h.c3 h.c4 h.g.1
 exact ⟨a1,a2,a3,a4,a5,a6,a7,hg⟩
theorem MN (c:Co) (b:UInt8) (R:Option Co) (h:Hid (mY c b=R)) (hc:Small c 60) (w:World) (hl:Laid w):Calls Tryz.prog 266 #[.agg c.cells, .int .u8 (b.toNat:Int)] w fun e w'=>e= .returned (aeK c R)∧Below w.heap.size w w':=
 (Ya c b (by have:=hc.x;omega) (by have:=hc.c0;omega) (by have:=hc.c1;omega) (by have:=hc.c2;omega) (by have:=hc.c3;omega) (by have:=hc.c4;omega) (by have:=hc.g;omega) w hl).mono fun e w' h'=>⟨by rw [h'.1,h.out],h'.2⟩
theorem Iq (c d:Co) (b:UInt8) (h:Hid (mY c b=some d)) (hc:Small c 60) (w:World) (hl:Laid w):Calls Tryz.prog 266 #[.agg c.cells, .int .u8 (b.toNat:Int)] w fun e w'=>e= .returned (.tuple #[.agg d.cells, .bool true])∧Below w.heap.size w w':=MN c b _ h hc w hl
theorem Vo (c:Co) (b:UInt8) (h:Hid (mY c b=none)) (hc:Small c 60) (w:World) (hl:Laid w):Calls Tryz.prog 266 #[.agg c.cells, .int .u8 (b.toNat:Int)] w fun e w'=>e= .returned (.tuple #[.agg c.cells, .bool false])∧Below w.heap.size w w':=MN c b _ h hc w hl
theorem amK {s:Str} {i:Nat} {b:UInt8} (hb:s[i]? =some b) {c:Co} (h:jZ dQ (s.take i)=some c):jZ dQ s=(match mY c b with|some d=>if 99<d.g then none else jZ d (s.drop (i+1))|none=>none)∧jZ dQ (s.take (i+1))=match mY c b with|some d=>if 99<d.g then none else some d|none=>none:=by
 have hlt:i<s.length:=by
  rcases Nat.lt_or_ge i s.length with h'|h'
  ·exact h'
  ·rw [List.getElem?_eq_none h'] at hb;cases hb
 have e1:s=s.take i++b::s.drop (i+1):=by
  have e2:s.drop i=b::s.drop (i+1):=by
   rw [List.drop_eq_getElem_cons hlt]
   rw [List.getElem?_eq_getElem hlt] at hb
   rw [Option.some.inj hb]
  rw [←e2,List.take_append_drop]
 constructor
 ·conv=>lhs;rw [e1]
  rw [rP,h]
  simp only
  rw [oN]
  cases mY c b<;>rfl
 ·rw [List.take_succ,hb,Option.toList_some,rP,h]
  simp only
  rw [oN]
  cases mY c b<;>rfl
theorem Iu (s:Str) (w0:World) (hl:Laid w0) (hs:s.length<100000000) (R:Option Co) (HR:Hid (kX s=R)):Calls Tryz.prog 204 #[.string (B s)] w0 fun e w'=>e= .returned (ajT R)∧Below w0.heap.size w0 w':=by
 have hR:=HR.out
 rw [←aoX] at hR
 unfold qCo at hR
 have hS:=St.start hl bJ
 by_cases h60:60<s.length
 ·rw [if_pos h60] at hR
  subst hR
  have t1:decide ((s.length:Int) > 60)=true:=by simp;omega
  have t2:decide (60<(s.length:Int))=true:=by simp;omega
  go_enter Tryz.func204,Tryz.ntmps204
  go_wp2_with (first|((with_reducible refine aW ?_);(first|(refine aJ 50 rfl hS rfl _ nM ?_;intro g w hS));(try simp only [ah,ak,au,ay,aA]))|((with_reducible refine aC ?_);(first|(refine qK rfl hS rfl rfl (by repeat constructor) ?_));(try simp only [ah,ak,au,ay,aA]))|((with_reducible refine aN ?_);(first|(refine kG rfl hS rfl rfl rfl (by repeat constructor) ?_;intro w hS));(try simp only [ah,ak,au,ay,aA])))
  all_goals (refine qB hS rfl rfl (by repeat constructor) rfl rfl (fun hb=>⟨rfl,hb⟩))
 ·rw [if_neg h60] at hR
  have t1:decide ((s.length:Int) > 60)=false:=by simp;omega
  have t2:decide (60<(s.length:Int))=false:=by simp;omega
  have HR:=Lib.hid hR
  clear hR
  go_enter Tryz.func204,Tryz.ntmps204
  go_wp2_with (first|((with_reducible refine aW ?_);(first|(refine aJ 50 rfl hS rfl _ nM ?_;intro g w hS));(try simp only [ah,ak,au,ay,aA])))
  rename_i g2 wq hSq K1 hK1
  clear hSq
  generalize g=g4 at *
  go_loopw [5] (fun iv wr=>∃(i:Nat) (c:Co),i≤s.length∧iv= .int .i64 i∧Hid (jZ dQ (s.take i)=some c)∧Hid (Small c i)∧Hid (St Laid w0 [(g4,Co.cells c,50),(g2,dQ.cells,50)] wr)) (fun iv _=>s.length - (intOf iv).toNat)
  case atStart=>exact ⟨0,dQ,by omega,rfl,Lib.hid rfl,Lib.hid ⟨by decide,by decide,by decide,by decide,by decide,by decide,by decide⟩,Lib.hid hS⟩
  case round=>
   clear hS
   obtain ⟨i,c,hi,rfl,HC,HM,HS⟩:=hrel
   have hS:=HS.out
   clear HS
   by_cases hlt:i<s.length
   ·obtain ⟨b,hb⟩:∃b,s[i]? =some b:=⟨s[i],List.getElem?_eq_getElem hlt⟩
    have hsm:Small c 60:=by
     have:=HM.out
     exact ⟨by have:=this.x;omega,by have:=this.c0;omega,by have:=this.c1;omega,by have:=this.c2;omega,by have:=this.c3;omega,by have:=this.c4;omega,this.g⟩
    obtain ⟨r1,r2⟩:=amK hb HC.out
    have hgt:=jm (B s)
    have hbt:aI s i=b.toNat:=by
     unfold aI;rw [List.getD_eq_getElem?_getD,hb];rfl
    clear hb
    cases hcn:mY c b with
    |none=>
     rw [hcn] at r1
     simp only at r1
     have HR2:=HR.out
     rw [r1] at HR2
     simp only at HR2
     subst HR2
     have HN:=Lib.hid hcn
     clear hcn r1 r2 HR
     go_wp2_with (first|((with_reducible refine bG ?_);(first|(refine aS rfl ?_));(try simp only [ah,ak,au,ay,aA]))|((with_reducible refine oq ?_);refine rF rfl ?_;(try simp only [ah,ak,au,ay,aA]))|((with_reducible refine aN ?_);(first|(refine kG rfl hS rfl rfl rfl (by repeat constructor) ?_;intro w hS));(try simp only [ah,ak,au,ay,aA]))|((with_reducible refine aT ?_);refine Dn 8 _ _ _ nM hS (by kernel_rfl) rfl rfl rfl rfl (by kernel_rfl) (by kernel_rfl) (by kernel_rfl) (by decide +kernel) (by decide +kernel) (by kernel_rfl) (by kernel_rfl) (by kernel_rfl) ?_;(simp only [List.take_succ_cons,List.take_zero,List.drop_succ_cons,List.drop_zero]))|((with_reducible refine sS ?_);refine pF ⟨Nat.le_of_ble_eq_true rfl,?_⟩;intro g w hS;(try simp only [ah,ak,au,ay,aA]))|((with_reducible refine yR ?_);(first|(refine QU rfl rfl (by decide +kernel) rfl (by repeat constructor) (fun _ _ _ h=>h) ?_));(try simp only [ah,ak,au,ay,aA]))|((with_reducible refine Ia ?_);(first|(refine oO (v:= ?_) (args:= ?_) 266 rfl (fun _ _ _ h=>h) (by decide +kernel) ?_ ?_ ?_;rotate_left 2;(focus ((intro w;go_simp)<;>with_reducible rfl));(focus (intro X w hS;refine St.jE hS (fun hl=>Vo _ _ HN hsm _ hl) ?_;with_reducible rfl))));(try simp only [ah,ak,au,ay,aA]))|((with_reducible refine pX ?_);(refine lQ (v:= ?_) rfl (fun _ _ _ h=>h) ?_ ?_;rotate_left;(focus ((intro w;go_simp)<;>with_reducible rfl)));(try simp only [ah,ak,au,ay,aA])))
     all_goals (refine qB hS rfl rfl (by repeat constructor) rfl rfl (fun hb=>⟨rfl,hb⟩))
    |some d=>
     rw [hcn] at r1 r2
     simp only at r1 r2
     by_cases TU:99<d.g
     ·rw [if_pos TU] at r1
      have HR2:=HR.out
      rw [r1] at HR2
      simp only at HR2
      subst HR2
      have HN:=Lib.hid hcn
      have t3:decide (d.g > 99)=true:=by simpa using TU
      have t4:decide (99<d.g)=true:=by simpa using TU
      clear hcn r1 r2 HR
      go_wp2_with (first|((with_reducible refine oq ?_);refine rF rfl ?_;(try simp only [ah,ak,au,ay,aA]))|((with_reducible refine aC ?_);(first|(refine uG rfl hS rfl rfl (by repeat constructor) ?_));(try simp only [ah,ak,au,ay,aA]))|((with_reducible refine aN ?_);(first|(refine kG rfl hS rfl rfl rfl (by repeat constructor) ?_;intro w hS));(try simp only [ah,ak,au,ay,aA]))|((with_reducible refine aT ?_);refine Dn 8 _ _ _ nM hS (by kernel_rfl) rfl rfl rfl rfl (by kernel_rfl) (by kernel_rfl) (by kernel_rfl) (by decide +kernel) (by decide +kernel) (by kernel_rfl) (by kernel_rfl) (by kernel_rfl) ?_;(simp only [List.take_succ_cons,List.take_zero,List.drop_succ_cons,List.drop_zero]))|((with_reducible refine sS ?_);refine pF ⟨Nat.le_of_ble_eq_true rfl,?_⟩;intro g w hS;(try simp only [ah,ak,au,ay,aA]))|((with_reducible refine yR ?_);(first|(refine QU rfl rfl (by decide +kernel) rfl (by repeat constructor) (fun _ _ _ h=>h) ?_));(try simp only [ah,ak,au,ay,aA]))|((with_reducible refine Ia ?_);(first|(refine oO (v:= ?_) (args:= ?_) 266 rfl (fun _ _ _ h=>h) (by decide +kernel) ?_ ?_ ?_;rotate_left 2;(focus ((intro w;go_simp)<;>with_reducible rfl));(focus (intro X w hS;refine St.jE hS (fun hl=>Iq _ _ _ HN hsm _ hl) ?_;with_reducible rfl))));(try simp only [ah,ak,au,ay,aA]))|((with_reducible refine pX ?_);(refine lQ (v:= ?_) rfl (fun _ _ _ h=>h) ?_ ?_;rotate_left;(focus ((intro w;go_simp)<;>with_reducible rfl)));(try simp only [ah,ak,au,ay,aA])))
      all_goals (refine qB hS rfl rfl (by repeat constructor) rfl rfl (fun hb=>⟨rfl,hb⟩))
     ·rw [if_neg TU] at r2
      have HN:=Lib.hid hcn
      have EI:=Lib.hid (HM.out.step hcn (by omega))
      have t3:decide (d.g > 99)=false:=by simpa using TU
      have t4:decide (99<d.g)=false:=by simpa using TU
      have HC2:=Lib.hid r2
      clear hcn r1 r2
      go_wp2_with (first|((with_reducible refine aC ?_);(first|(refine qK rfl hS rfl rfl (by repeat constructor) ?_)|(refine uG rfl hS rfl rfl (by repeat constructor) ?_));(try simp only [ah,ak,au,ay,aA]))|((with_reducible refine aN ?_);(first|(refine kG rfl hS rfl rfl rfl (by repeat constructor) ?_;intro w hS));(try simp only [ah,ak,au,ay,aA]))|((with_reducible refine aT ?_);refine Dn 8 _ _ _ nM hS (by kernel_rfl) rfl rfl rfl rfl (by kernel_rfl) (by kernel_rfl) (by kernel_rfl) (by decide +kernel) (by decide +kernel) (by kernel_rfl) (by kernel_rfl) (by kernel_rfl) ?_;(simp only [List.take_succ_cons,List.take_zero,List.drop_succ_cons,List.drop_zero]))|((with_reducible refine sS ?_);refine pF ⟨Nat.le_of_ble_eq_true rfl,?_⟩;intro g w hS;(try simp only [ah,ak,au,ay,aA]))|((with_reducible refine yR ?_);(first|(refine QU rfl rfl (by decide +kernel) rfl (by repeat constructor) (fun _ _ _ h=>h) ?_));(try simp only [ah,ak,au,ay,aA]))|((with_reducible refine Ia ?_);(first|(refine oO (v:= ?_) (args:= ?_) 266 rfl (fun _ _ _ h=>h) (by decide +kernel) ?_ ?_ ?_;rotate_left 2;(focus ((intro w;go_simp)<;>with_reducible rfl));(focus (intro X w hS;refine St.jE hS (fun hl=>Iq _ _ _ HN hsm _ hl) ?_;with_reducible rfl))));(try simp only [ah,ak,au,ay,aA]))|((with_reducible refine pX ?_);(refine lQ (v:= ?_) rfl (fun _ _ _ h=>h) ?_ ?_;rotate_left;(focus ((intro w;go_simp)<;>with_reducible rfl)));(try simp only [ah,ak,au,ay,aA])))
      go_roundw
      case rel=>exact ⟨i+1,d,by omega,by go_num,HC2,EI,Lib.hid hS.tail⟩
      case measure=>simp [intOf];omega
   ·obtain rfl:i=s.length:=by omega
    have hc:=HC.out
    rw [List.take_length] at hc
    have HR2:=HR.out
    rw [hc] at HR2
    simp only at HR2
    obtain ⟨T,hT⟩:∃T,iy c=T:=⟨_,rfl⟩
    rw [hT] at HR2
    have HT:=Lib.hid hT
    clear hT hc HC HM HR
    by_cases h0:s=[]
    ·rw [if_neg (fun h=>h.1 h0)] at HR2
     subst HR2 h0
     go_wp2_with (first|((with_reducible refine bG ?_);(first|(refine aS rfl ?_));(try simp only [ah,ak,au,ay,aA]))|((with_reducible refine oq ?_);refine rF rfl ?_;(try simp only [ah,ak,au,ay,aA]))|((with_reducible refine aN ?_);(first|(refine kG rfl hS rfl rfl rfl (by repeat constructor) ?_;intro w hS));(try simp only [ah,ak,au,ay,aA])))
     all_goals (refine qB hS rfl rfl (by repeat constructor) rfl rfl (fun hb=>⟨rfl,hb⟩))
    ·have h1:(s==[])=false:=by simpa using h0
     by_cases hx:T=s
     ·rw [if_pos ⟨h0,hx⟩] at HR2
      subst HR2 hx
      have ht:(T==T)=true:=by simp
      go_wp2_with (first|(go_at_call 82;(with_reducible refine (St.call hS fun hl=>GH _ _ HT _ hl).mono ?_);rintro e w ⟨rfl,hS⟩)|((with_reducible refine aC ?_);(first|(refine qK rfl hS rfl rfl (by repeat constructor) ?_));(try simp only [ah,ak,au,ay,aA]))|((with_reducible refine aN ?_);(first|(refine kG rfl hS rfl rfl rfl (by repeat constructor) ?_;intro w hS));(try simp only [ah,ak,au,ay,aA])))
      all_goals (refine qB hS rfl rfl (by repeat constructor) rfl rfl (fun hb=>⟨rfl,hb⟩))
     ·rw [if_neg (fun h=>hx h.2)] at HR2
      subst HR2
      have hx':(T==s)=false:=by simpa using hx
      go_wp2_with (first|(go_at_call 82;(with_reducible refine (St.call hS fun hl=>GH _ _ HT _ hl).mono ?_);rintro e w ⟨rfl,hS⟩)|((with_reducible refine oq ?_);refine rF rfl ?_;(try simp only [ah,ak,au,ay,aA]))|((with_reducible refine aC ?_);(first|(refine qK rfl hS rfl rfl (by repeat constructor) ?_));(try simp only [ah,ak,au,ay,aA]))|((with_reducible refine aN ?_);(first|(refine kG rfl hS rfl rfl rfl (by repeat constructor) ?_;intro w hS));(try simp only [ah,ak,au,ay,aA])))
      all_goals (refine qB hS rfl rfl (by repeat constructor) rfl rfl (fun hb=>⟨rfl,hb⟩))
theorem Ir (s:Str) (hs:s.length<100000000) (c:Co) (h:Hid (kX s=some c)) (w:World) (hl:Laid w):Calls Tryz.prog 204 #[.string (B s)] w fun e w'=>e= .returned (.tuple #[.agg c.cells, .int .i64 0])∧Below w.heap.size w w':=Iu s w hl hs (some c) h
theorem Vp (s:Str) (hs:s.length<100000000) (h:Hid (kX s=none)) (w:World) (hl:Laid w):Calls Tryz.prog 204 #[.string (B s)] w fun e w'=>e= .returned (.tuple #[.agg dQ.cells, .int .i64 3])∧Below w.heap.size w w':=Iu s w hl hs none h
theorem NT (s:Str) (hs:s.length<100000000) (w0:World) (hl:Laid w0):Calls Tryz.prog 109 #[.string (B s)] w0 fun e w'=>e= .returned (ac7 (dU s))∧Below w0.heap.size w0 w':=by
 cases hc:kX s with
 |none=>
  rw [show dU s=none by unfold dU;rw [hc]]
  have HC:=Lib.hid hc
  clear hc
  have hS:=St.start hl bJ
  go_enter Tryz.func109,Tryz.ntmps109
  go_wp2_with (first|(go_at_call 204;(with_reducible refine (St.call hS fun hl=>Vp s hs HC _ hl).mono ?_);rintro e w ⟨rfl,hS⟩)|((with_reducible refine bG ?_);(first|(refine aS rfl ?_));(try simp only [ah,ak,au,ay,aA]))|((with_reducible refine aW ?_);(first|(refine aJ 50 rfl hS rfl _ nM ?_;intro g w hS)|(refine aJ 32 rfl hS rfl _ yI ?_;intro g w hS));(try simp only [ah,ak,au,ay,aA]))|((with_reducible refine rO ?_);refine vS rfl ?_;(try simp only [ah,ak,au,ay,aA]))|((with_reducible refine aN ?_);(first|(refine kG rfl hS rfl rfl rfl (by repeat constructor) ?_;intro w hS)|(refine yK rfl hS rfl rfl rfl (by repeat constructor) ?_;intro w hS));(try simp only [ah,ak,au,ay,aA])))
  all_goals (refine yJ hS rfl rfl (by repeat constructor) rfl rfl (fun hb=>⟨rfl,hb⟩))
 |some c=>
  have hv:=(BG hc).1
  simp only [kU,rJ,Bool.and_eq_true,decide_eq_true_eq] at hv
  obtain ⟨cg,cx,c0,c1,c2,c3,c4⟩:=c
  simp only at hv
  have HC:=Lib.hid hc
  by_cases hx:cx=0
  ·rw [show dU s=some ⟨cg,c0,c1,c2,c3,c4⟩ by unfold dU;rw [hc];exact if_pos hx]
   subst hx
   clear hc hv
   have hS:=St.start hl bJ
   go_enter Tryz.func109,Tryz.ntmps109
   go_wp2_with (first|(go_at_call 204;(with_reducible refine (St.call hS fun hl=>Ir s hs _ HC _ hl).mono ?_);rintro e w ⟨rfl,hS⟩)|((with_reducible refine lK ?_);refine wp_loop_rounds 6 ?_)|(with_reducible refine jG ?_)|((with_reducible refine aW ?_);(first|(refine aJ 50 rfl hS rfl _ nM ?_;intro g w hS)|(refine aJ 32 rfl hS rfl _ yI ?_;intro g w hS));(try simp only [ah,ak,au,ay,aA]))|((with_reducible refine zi ?_);refine DV rfl rfl ?_;(try simp only [ah,ak,au,ay,aA]))|((with_reducible refine aC ?_);(first|(refine uG rfl hS rfl rfl (by repeat constructor) ?_)|(refine AY rfl hS rfl rfl (by repeat constructor) ?_)|(refine QM rfl hS rfl rfl (by repeat constructor) ?_)|(refine QN rfl hS rfl rfl (by repeat constructor) ?_)|(refine QO rfl hS rfl rfl (by repeat constructor) ?_)|(refine QS rfl hS rfl rfl (by repeat constructor) ?_)|(refine QT rfl hS rfl rfl (by repeat constructor) ?_)|(refine Lc rfl hS rfl rfl (by repeat constructor) ?_));(try simp only [ah,ak,au,ay,aA]))|((with_reducible refine aN ?_);(first|(refine kG rfl hS rfl rfl rfl (by repeat constructor) ?_;intro w hS)|(refine yK rfl hS rfl rfl rfl (by repeat constructor) ?_;intro w hS)|(refine ame rfl hS rfl rfl rfl (by repeat constructor) ?_;intro w hS)|(refine amf rfl hS rfl rfl rfl (by repeat constructor) ?_;intro w hS)|(refine amg rfl hS rfl rfl rfl (by repeat constructor) ?_;intro w hS)|(refine amh rfl hS rfl rfl rfl (by repeat constructor) ?_;intro w hS)|(refine ami rfl hS rfl rfl rfl (by repeat constructor) ?_;intro w hS));(try simp only [ah,ak,au,ay,aA])))
   all_goals (refine yJ hS rfl rfl (by repeat constructor) rfl rfl (fun hb=>⟨rfl,hb⟩))
  ·rw [show dU s=none by unfold dU;rw [hc];exact if_neg hx]
   have t1:decide (cx > 0)=true:=by simp;omega
   have t2:decide (0<cx)=true:=by simp;omega
   clear hc hv
   have hS:=St.start hl bJ
   go_enter Tryz.func109,Tryz.ntmps109
   go_wp2_with (first|(go_at_call 204;(with_reducible refine (St.call hS fun hl=>Ir s hs _ HC _ hl).mono ?_);rintro e w ⟨rfl,hS⟩)|((with_reducible refine aW ?_);(first|(refine aJ 50 rfl hS rfl _ nM ?_;intro g w hS)|(refine aJ 32 rfl hS rfl _ yI ?_;intro g w hS));(try simp only [ah,ak,au,ay,aA]))|((with_reducible refine rO ?_);refine vS rfl ?_;(try simp only [ah,ak,au,ay,aA]))|((with_reducible refine aC ?_);(first|(refine AY rfl hS rfl rfl (by repeat constructor) ?_));(try simp only [ah,ak,au,ay,aA]))|((with_reducible refine aN ?_);(first|(refine kG rfl hS rfl rfl rfl (by repeat constructor) ?_;intro w hS)|(refine yK rfl hS rfl rfl rfl (by repeat constructor) ?_;intro w hS));(try simp only [ah,ak,au,ay,aA])))
   all_goals (refine yJ hS rfl rfl (by repeat constructor) rfl rfl (fun hb=>⟨rfl,hb⟩))
end Go.Proofs.YtdnnkgkondkhfaaGreatDoor
