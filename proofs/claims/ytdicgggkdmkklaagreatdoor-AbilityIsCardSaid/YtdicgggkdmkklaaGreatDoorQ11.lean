/- Walks: the reference of chapter 8: Is, cost, Text, PoolText. Conditions: Laid. Walks: the reference of chapter 8: Text, PoolText. Conditions: Laid. Walks: the reference of chapter 8: PoolText, coun -/
import Derived.Test.YtdicgggkdmkklaaGreatDoorMEMem
import Derived.Test.YtdicgggkdmkklaaGreatDoorQ7
import Derived.Test.YtdicgggkdmkklaaGreatDoorQ4
import Derived.Test.YtdicgggkdmkklaaGreatDoorQ5
import Derived.Test.YtdicgggkdmkklaaGreatDoorQ17
import Derived.Test.YtdicgggkdmkklaaGreatDoorQ9
import Derived.Test.YtdicgggkdmkklaaGreatDoorQ3
set_option linter.all false
set_option maxRecDepth 100000
set_option maxHeartbeats 16000000
namespace Go.Proofs.YtdicgggkdmkklaaGreatDoor
attribute [local irreducible] wpList Code.wp Calls
open Go.ChangeShapes Go.WideShapes Go.RowKit
theorem afZ (c:Co) (w:World) (hl:Laid w):Calls Tryz.prog 86 #[.agg c.cells] w fun e w'=>e= .returned (.bool (kU c))∧Below w.heap.size w w':=by
 obtain ⟨g,x,c0,c1,c2,c3,c4⟩:=c
 have hS:=St.start hl bJ
 go_enter Tryz.func86,Tryz.ntmps86
 go_wp2_with (first|((with_reducible refine lK ?_);refine wp_loop_rounds 6 ?_)|(with_reducible refine jG ?_)|((with_reducible refine bG ?_);(first|(refine aS rfl ?_)|((fail_if_success refine fJ rfl ?_);refine iZ _ _ rfl rfl (fun hb=> ?_) (fun hb=> ?_)<;>(first|(obtain rfl:=eq_of_beq hb)|(simp only [hb]))));(try simp only [ah,ak,au,ay,aA]))|((with_reducible refine bI ?_);(first|(refine aG rfl hS rfl rfl ?_;intro g w hS));(try simp only [ah,ak,au,ay,aA]))|((with_reducible refine aC ?_);(first|(refine uG rfl hS rfl rfl (by repeat constructor) ?_)|(refine AY rfl hS rfl rfl (by repeat constructor) ?_)|(refine QM rfl hS rfl rfl (by repeat constructor) ?_)|(refine QN rfl hS rfl rfl (by repeat constructor) ?_)|(refine QO rfl hS rfl rfl (by repeat constructor) ?_)|(refine QS rfl hS rfl rfl (by repeat constructor) ?_)|(refine QT rfl hS rfl rfl (by repeat constructor) ?_));(try simp only [ah,ak,au,ay,aA])))
 all_goals (try (exfalso;simp only [decide_eq_false_iff_not] at *;omega))
 all_goals go_ret
 all_goals exact ⟨aX (by rw [Bool.eq_iff_iff];simp_all [kU,rJ]<;>(intros;omega)),hS.below⟩
theorem Yb (c:Co) (R:Bool) (h:Hid (kU c=R)) (w:World) (hl:Laid w):Calls Tryz.prog 86 #[.agg c.cells] w fun e w'=>e= .returned (.bool R)∧Below w.heap.size w w':=
 (afZ c w hl).mono fun e w' h'=>⟨by rw [h'.1,h.out],h'.2⟩
theorem ZX (p:Po) (w:World) (hl:Laid w):Calls Tryz.prog 233 #[.agg p.cells] w fun e w'=>e= .returned (.agg (Ee p).cells)∧Below w.heap.size w w':=by
 obtain ⟨pg,c0,c1,c2,c3,c4⟩:=p
 have hS:=St.start hl bJ
 go_enter Tryz.func233,Tryz.ntmps233
 go_wp2_with (first|((with_reducible refine lK ?_);refine wp_loop_rounds 6 ?_)|(with_reducible refine jG ?_)|((with_reducible refine bI ?_);(first|(refine aG rfl hS rfl rfl ?_;intro g w hS));(try simp only [ah,ak,au,ay,aA]))|((with_reducible refine aW ?_);(first|(refine aJ 29 rfl hS rfl _ nM ?_;intro g w hS));(try simp only [ah,ak,au,ay,aA]))|((with_reducible refine LH ?_);refine Ti rfl rfl ?_;(try simp only [ah,ak,au,ay,aA]))|((with_reducible refine aC ?_);(first|(refine qK rfl hS rfl rfl (by repeat constructor) ?_)|(refine abt rfl hS rfl rfl (by repeat constructor) ?_)|(refine al8 rfl hS rfl rfl (by repeat constructor) ?_)|(refine al9 rfl hS rfl rfl (by repeat constructor) ?_)|(refine ama rfl hS rfl rfl (by repeat constructor) ?_)|(refine amb rfl hS rfl rfl (by repeat constructor) ?_)|(refine amc rfl hS rfl rfl (by repeat constructor) ?_));(try simp only [ah,ak,au,ay,aA]))|((with_reducible refine aN ?_);(first|(refine kG rfl hS rfl rfl rfl (by repeat constructor) ?_;intro w hS)|(refine akU rfl hS rfl rfl rfl (by repeat constructor) ?_;intro w hS)|(refine akV rfl hS rfl rfl rfl (by repeat constructor) ?_;intro w hS)|(refine akW rfl hS rfl rfl rfl (by repeat constructor) ?_;intro w hS)|(refine akX rfl hS rfl rfl rfl (by repeat constructor) ?_;intro w hS)|(refine akY rfl hS rfl rfl rfl (by repeat constructor) ?_;intro w hS));(try simp only [ah,ak,au,ay,aA])))
 all_goals (refine aaL hS rfl rfl (by repeat constructor) rfl (fun hb=>⟨rfl,hb⟩))
end Go.Proofs.YtdicgggkdmkklaaGreatDoor
namespace Go.Proofs.YtdicgggkdmkklaaGreatDoor
attribute [local go_sem] Dq
open Go.ChangeShapes Go.WideShapes Go.RowKit
attribute [local irreducible] wpList Code.wp Calls
def JI (n0 n1 n2 n3 n4:Nat):Nat→Nat|0=>n0|1=>n1|2=>n2|3=>n3|_=>n4
def acR:Nat→UInt8|0=>65|1=>67|2=>74|3=>82|_=>69
def AQ (f:Nat→Nat):Nat→Str|0=>[]|i+1=>AQ f i++List.replicate (f i) (acR i)
theorem Yc (c:Co) (h:kU c=true) (T:Str) (HT:Hid (iy c=T)) (w0:World) (hl:Laid w0):Calls Tryz.prog 64 #[.agg c.cells] w0 fun e w'=>e= .returned (.string (B T))∧Below w0.heap.size w0 w':=by
 have HV:=Lib.hid h
 have hT:=HT.out
 simp only [kU,rJ,Bool.and_eq_true,decide_eq_true_eq] at h
 obtain ⟨cg,cx,c0,c1,c2,c3,c4⟩:=c
 simp only at h
 obtain ⟨⟨a0,b0⟩,⟨a1,b1⟩,⟨a2,b2⟩,⟨a3,b3⟩,⟨a4,b4⟩,ag,bg,ax,bx⟩:=h
 obtain ⟨n0,rfl⟩:=Int.eq_ofNat_of_zero_le a0
 obtain ⟨n1,rfl⟩:=Int.eq_ofNat_of_zero_le a1
 obtain ⟨n2,rfl⟩:=Int.eq_ofNat_of_zero_le a2
 obtain ⟨n3,rfl⟩:=Int.eq_ofNat_of_zero_le a3
 obtain ⟨n4,rfl⟩:=Int.eq_ofNat_of_zero_le a4
 obtain ⟨nx,rfl⟩:=Int.eq_ofNat_of_zero_le ax
 have lg:=kV cg (by omega) bg
 have hfin:AQ (JI n0 n1 n2 n3 n4) 5=mW ⟨cg,nx,n0,n1,n2,n3,n4⟩:=by simp [AQ,JI,acR,mW,rep]
 have hbody:iy ⟨cg,nx,n0,n1,n2,n3,n4⟩=if lH ⟨cg,nx,n0,n1,n2,n3,n4⟩=[] then [48] else lH ⟨cg,nx,n0,n1,n2,n3,n4⟩:=by
  unfold iy
  rw [if_pos HV.out]
  by_cases hz:uU ⟨cg,nx,n0,n1,n2,n3,n4⟩ dQ=true
  ·rw [if_pos hz,(yh _ _).1 hz,if_pos (by decide +kernel)]
  ·rw [if_neg hz,if_neg (QJ HV.out (by simpa using hz))]
 have HB:=Lib.hid hbody
 have HF:=Lib.hid hfin
 have lgn:(pY cg).length≤1000:=by unfold pY;split<;>first|omega|simp
 have e0:(⟨#[65,67,74,82,69]⟩:ByteArray).extract 0 1=B [65]:=by decide +kernel
 have e1:(⟨#[65,67,74,82,69]⟩:ByteArray).extract 1 2=B [67]:=by decide +kernel
 have e2:(⟨#[65,67,74,82,69]⟩:ByteArray).extract 2 3=B [74]:=by decide +kernel
 have e3:(⟨#[65,67,74,82,69]⟩:ByteArray).extract 3 4=B [82]:=by decide +kernel
 have e4:(⟨#[65,67,74,82,69]⟩:ByteArray).extract 4 5=B [69]:=by decide +kernel
 have ati:SQ cg:=⟨by omega,by omega⟩
 clear hbody hfin hT
 have hS:=St.start hl bJ
 go_in
 go_wp2_with (first|(go_at_call 86;refine c_call (fun hl=>Yb _ _ HV _ hl) hS ?_;clear hS;intro w hS)|refine s0 ?_|(refine s2 ?_;clear hS;intro g w hS))
 go_loopw [3,4] (fun sv iv wr=>∃i:Nat,i≤nx∧iv= .int .i64 i∧sv= .string (B (List.replicate i 88))∧Hid (St Laid w0 [(g,Co.cells ⟨cg,nx,n0,n1,n2,n3,n4⟩,29)] wr)) (fun _ iv _=>nx - (intOf iv).toNat)
 case atStart=>exact ⟨0,by omega,rfl,rfl,Lib.hid hS⟩
 case round=>
  clear hS
  obtain ⟨i,hi,rfl,rfl,HS⟩:=hrel
  have hS:=HS.out
  clear HS
  have hL:Len (List.replicate i (88:UInt8)) 10:=⟨by simp;omega⟩
  by_cases hlt:i<nx
  ·have hl2:(i:Int)<nx:=by omega
   go_wp2_with (first|refine s0 ?_)
   go_roundw
   case rel=>exact ⟨i+1,by omega,by go_num,by rw [List.replicate_succ'],Lib.hid hS⟩
   case measure=>simp [intOf];omega
  ·have hl2:¬(i:Int)<nx:=by omega
   have hX:Hid (List.replicate i 88=rep 88 (nx:Int)):=Lib.hid (by rw [show i=nx by omega];simp [rep])
   go_wp2_with (first|refine s0 ?_|(refine s1 ?_;clear hS;intro w hS))
   all_goals
    go_loopw [3,5] (fun sv jv wr=>∃j:Nat,∃Z:Str,j≤5∧jv= .int .i64 j∧sv= .string (B Z)∧Hid (Z=rep 88 (nx:Int)++pY cg++AQ (JI n0 n1 n2 n3 n4) j)∧Z.length≤1002+9 * j∧Hid (St Laid w0 [(g,Co.cells ⟨cg,nx,n0,n1,n2,n3,n4⟩,29)] wr)) (fun _ jv _=>5 - (intOf jv).toNat)
    case atStart=>
     have hz:∀Z:Str,Z=rep 88 (nx:Int)++pY cg++AQ (JI n0 n1 n2 n3 n4) 0→Z.length≤1002:=fun Z h=>by rw [h];simp [rep,AQ];omega
     refine ⟨0,_,by omega,rfl,rfl,Lib.hid ?_,hz _ ?_,Lib.hid hS⟩
     all_goals (rw [hX.out];simp [AQ,pY];try first|(intro h0;exfalso;have hne:= ‹(cg != 0)=true›;simp at hne;omega)|simp_all)
    case round=>
     clear hS
     obtain ⟨j,Z,hj,rfl,rfl,HZ,hZl,HS⟩:=hrel
     have hS:=HS.out
     clear HS
     have hLZ:Len Z 2000:=⟨by omega⟩
     by_cases hj5:j<5
     ·obtain ⟨m,hm⟩:∃m,JI n0 n1 n2 n3 n4 j=m:=⟨_,rfl⟩
      obtain ⟨c,hc⟩:∃c,acR j=c:=⟨_,rfl⟩
      obtain ⟨J,hJ⟩:∃J,J=j+1:=⟨_,rfl⟩
      have HJ:Hid (AQ (JI n0 n1 n2 n3 n4) J=AQ (JI n0 n1 n2 n3 n4) j++List.replicate m c):=Lib.hid (by rw [hJ,←hm,←hc];rfl)
      rcases (by omega:j=0∨j=1∨j=2∨j=3∨j=4) with rfl|rfl|rfl|rfl|rfl
      all_goals
       simp only [JI,acR] at hm hc
       have hm9:m≤9:=by omega
       have HC:=Lib.hid hc
       have HM:=Lib.hid hm
       clear hc hm
       go_wp2_with (first|fail)
       go_loopw [3,6] (fun sv kv wr=>∃k:Nat,∃Y:Str,k≤m∧kv= .int .i64 k∧sv= .string (B Y)∧Hid (Y=Z++List.replicate k c)∧Y.length≤Z.length+k∧Hid (St Laid w0 [(g,Co.cells ⟨cg,nx,n0,n1,n2,n3,n4⟩,29)] wr)) (fun _ kv _=>m - (intOf kv).toNat)
       case atStart=>exact ⟨0,Z,by omega,rfl,rfl,Lib.hid (by simp),by omega,Lib.hid hS⟩
       case round=>
        clear hS
        obtain ⟨k,Y,hk,rfl,rfl,HY,hYl,HS⟩:=hrel
        have hS:=HS.out
        have hm:=HM.out
        clear HS
        have hLY:Len Y 3000:=⟨by omega⟩
        by_cases hkn:k<m
        ·subst hm
         have hk2:=Int.ofNat_lt.2 hkn
         go_wp2_with (first|refine s0 ?_)
         go_roundw
         case rel=>exact ⟨k+1,_,by omega,by go_num,rfl,Lib.hid (by rw [HY.out,List.replicate_succ',←List.append_assoc,←HC.out]),by simp;omega,Lib.hid hS⟩
         case measure=>simp [intOf];omega
        ·subst hm
         have hk2:=mt Int.ofNat_lt.1 hkn
         have hke:=Nat.le_antisymm hk (Nat.not_lt.1 hkn)
         go_wp2_with (first|refine s0 ?_)
         go_roundw
         case rel=>exact ⟨J,Y,by omega,congrArg (Value.int _) (by omega),rfl,Lib.hid (by rw [HY.out,HZ.out,HJ.out,hke,List.append_assoc]),by omega,Lib.hid hS⟩
         case measure=>simp [intOf]
     ·have hj6:¬(j:Int)<5:=by omega
      have hZ:Z=lH ⟨cg,nx,n0,n1,n2,n3,n4⟩:=by
       rw [HZ.out,show j=5 by omega,HF.out];unfold lH;rw [List.append_assoc]
      have hT:=HT.out
      rw [HB.out,←hZ] at hT
      have HT2:=Lib.hid hT
      clear hZ hT
      cases h1:(Z==[])
      all_goals
       go_wp2_with (first|(have hq:=sE;subst hq))
       all_goals go_ret
       all_goals refine ⟨dL ?_,hS.below⟩
       all_goals (rw [←HT2.out];simp_all)
theorem GH (c:Co) (T:Str) (HT:Hid (iy c=T)) (w:World) (hl:Laid w):Calls Tryz.prog 64 #[.agg c.cells] w fun e w'=>e= .returned (.string (B T))∧Below w.heap.size w w':=by
 cases hv:kU c with
 |true=>exact Yc c hv T HT w hl
 |false=>
  have HV:=Lib.hid hv
  obtain rfl:T=[]:=by rw [←HT.out,Jb hv]
  clear HT hv
  have hS:=St.start hl bJ
  go_enter Tryz.func64,Tryz.ntmps64
  go_wp2_with (first|(go_at_call 86;refine c_call (fun hl=>Yb _ _ HV _ hl) hS ?_;clear hS;intro w hS)|refine s0 ?_|(refine s2 ?_;clear hS;intro g w hS))
  all_goals go_ret
  all_goals exact ⟨rfl,hS.below⟩
end Go.Proofs.YtdicgggkdmkklaaGreatDoor
namespace Go.Proofs.YtdicgggkdmkklaaGreatDoor
attribute [local irreducible] wpList Code.wp Calls
open Go.ChangeShapes Go.WideShapes Go.RowKit
theorem E8 (p:Po) (T:Str) (HT:Hid (jY p=T)) (w:World) (hl:Laid w):Calls Tryz.prog 176 #[.agg p.cells] w fun e w'=>e= .returned (.string (B T))∧Below w.heap.size w w':=by
 have HT:Hid (iy (Ee p)=T):=HT
 have hS:=St.start hl bJ
 go_enter Tryz.func176,Tryz.ntmps176
 go_wp2_with (first|(go_at_call 233;refine c_call (fun hl=>ZX _ _ hl) hS ?_;clear hS;intro w hS)|(go_at_call 64;refine c_call (fun hl=>GH _ _ HT _ hl) hS ?_;clear hS;intro w hS)|refine s0 ?_|(refine s2 ?_;clear hS;intro g w hS))
 all_goals go_ret
 all_goals exact ⟨rfl,hS.below⟩
structure Small (c:Co) (n:Int):Prop where
 x:0≤c.x∧c.x≤n
 c0:0≤c.c0∧c.c0≤n
 c1:0≤c.c1∧c.c1≤n
 c2:0≤c.c2∧c.c2≤n
 c3:0≤c.c3∧c.c3≤n
 c4:0≤c.c4∧c.c4≤n
 g:0≤c.g∧c.g≤99
theorem Small.step {c d:Co} {b:UInt8} {n:Int} (h:Small c n) (hc:mY c b=some d) (hg:d.g≤99):Small d (n+1):=by
 obtain ⟨a1,a2,a3,a4,a5,a6,a7⟩:=abZ hc h.x h.c0 h.c1 h.c2 h.c3 h.c4 h.g.1
 exact ⟨a1,a2,a3,a4,a5,a6,a7,hg⟩
end Go.Proofs.YtdicgggkdmkklaaGreatDoor
