/- Walks of the reference: package cardgameref02: low, Is, Depth. Conditions: none. Plain words: a text cut at a byte outside brackets. No program in sight. Walks of the reference: package cardgameref -/
import Derived.Test.YtdnnkgkondkhfaaGreatDoorQ1
import Derived.Test.YtdnnkgkondkhfaaGreatDoorQ2
import Derived.Lib.SmallJoins
import Derived.Lib.SlBytesRow
import Derived.Deep.RegionHeld3
import Derived.Deep.DeepCutAuto
import Derived.Test.YtdnnkgkondkhfaaGreatDoorQ3
import Derived.StillTailTactics
set_option linter.all false
set_option maxRecDepth 100000
set_option maxHeartbeats 16000000
namespace Go.Proofs.YtdnnkgkondkhfaaGreatDoor
open Go.ChangeShapes Go.WideShapes Go.RowKit
def vO (n:Nat):Bool:=decide (97≤n)&&decide (n≤122)
theorem KY (n:Nat) (h:vO n=true) (w:World):Calls Tryz.prog 206 #[.int .u8 n] w fun e w'=>e= .returned (.bool true)∧w=w':=by
 unfold vO at h;simp only [Bool.and_eq_true,decide_eq_true_eq] at h
 obtain ⟨h1,h2⟩:(97:Int)≤n∧(n:Int)≤122:=by omega
 go_enter Tryz.func206,Tryz.ntmps206
 go_wp2
 go_ret
 exact ⟨rfl,rfl⟩
theorem Jv (n:Nat) (h:vO n=false) (w:World):Calls Tryz.prog 206 #[.int .u8 n] w fun e w'=>e= .returned (.bool false)∧w=w':=by
 unfold vO at h;simp only [Bool.and_eq_false_iff,decide_eq_false_iff_not] at h
 by_cases h1:(97:Int)≤n
 ·have h2:¬(n:Int)≤122:=by omega
  go_enter Tryz.func206,Tryz.ntmps206
  go_wp2
  go_ret
  exact ⟨rfl,rfl⟩
 ·go_enter Tryz.func206,Tryz.ntmps206
  go_wp2
  go_ret
  exact ⟨rfl,rfl⟩
def J4 (l:Str) (k:Nat):Bool:=okb (aI l k)&& !(decide (0<k)&&(aI l k==45&&aI l (k - 1)==45))
def GI (l:Str):Bool:=decide (0<l.length)&&(decide (l.length≤32)&&(vO (aI l 0)&& !(aI l (l.length - 1)==45)))
def rName (l:Str):Bool:=GI l&&(List.range l.length).all (J4 l)
def LK:Str→Bool
 |a::b::r=>(a==45&&b==45) || LK (b::r)
 |_=>false
theorem contains_cons (a:UInt8) (r:Str):Lib.contains (a::r) [45,45]=(([45,45]:Str).isPrefixOf (a::r) || Lib.contains r [45,45]):=by
 have hge:=Lib.index_ge r [45,45]
 unfold Lib.contains
 rw [Lib.index]
 cases hp:([45,45]:Str).isPrefixOf (a::r) with
 |true=>simp
 |false=>
  simp only [Bool.false_eq_true,if_false,Bool.false_or]
  by_cases h:Lib.index r [45,45]= -1
  ·rw [h];rfl
  ·have hb:(Lib.index r [45,45]== -1)=false:=by rw [beq_eq_false_iff_ne];exact h
   rw [hb,Bool.eq_iff_iff];simp;omega
theorem Jd:∀l:Str,Lib.contains l [45,45]=LK l
 |[]=>rfl
 |[a]=>by rw [contains_cons];simp [List.isPrefixOf,LK,Lib.contains,Lib.index]
 |a::b::r=>by
  rw [contains_cons,Jd (b::r)]
  have e:([45,45]:Str).isPrefixOf (a::b::r)=(a==45&&b==45):=by
   rw [Bool.eq_iff_iff];simp [List.isPrefixOf];exact ⟨fun h=>⟨h.1.symm,h.2.symm⟩,fun h=>⟨h.1.symm,h.2.symm⟩⟩
  rw [e];rfl
theorem FM (a:UInt8) (r:Str) (k:Nat):aI (a::r) (k+1)=aI r k:=rfl
theorem WH:∀l:Str,LK l=true↔ ∃k,k+1<l.length∧aI l k=45∧aI l (k+1)=45
 |[]=>by simp [LK]
 |[a]=>by simp [LK]
 |a::b::r=>by
  have ih:=WH (b::r)
  have ha:∀c:UInt8,(c==45)=true↔c.toNat=45:=fun c=>by
   rw [beq_iff_eq];exact ⟨fun h=>by rw [h];rfl,fun h=>by apply UInt8.toNat_inj.1;exact h⟩
  unfold LK;rw [Bool.or_eq_true,Bool.and_eq_true,ih]
  constructor
  ·rintro (⟨h1,h2⟩|⟨k,h1,h2,h3⟩)
   ·exact ⟨0,by simp,(ha a).1 h1,(ha b).1 h2⟩
   ·exact ⟨k+1,by simp at h1 ⊢;omega,by rw [FM];exact h2,by rw [FM];exact h3⟩
  ·rintro ⟨k,h1,h2,h3⟩
   cases k with
   |zero=>exact .inl ⟨(ha a).2 h2,(ha b).2 h3⟩
   |succ k=>exact .inr ⟨k,by simp at h1 ⊢;omega,by rw [FM] at h2;exact h2,by rw [FM] at h3;exact h3⟩
theorem anM (l:Str):wR l=(List.range l.length).all (fun k=>okb (aI l k)):=by
 unfold wR;rw [Bool.eq_iff_iff,List.all_eq_true,List.all_eq_true]
 constructor
 ·intro h k hk
  have hk':k<l.length:=by simpa using hk
  have:=h l[k] (List.getElem_mem hk')
  simpa [XI,aI,List.getD,hk'] using this
 ·intro h x hx
  obtain ⟨k,hk,rfl⟩:=List.mem_iff_getElem.1 hx
  have:=h k (by simpa using hk)
  simpa [XI,aI,List.getD,hk] using this
theorem ai0 (l:Str):rName l=isName l:=by
 unfold rName isName tZ GI
 rw [Jd,anM]
 have e:(List.range l.length).all (J4 l)=(((List.range l.length).all fun k=>okb (aI l k))&& !LK l):=by
  rw [Bool.eq_iff_iff,Bool.and_eq_true,List.all_eq_true,List.all_eq_true]
  constructor
  ·intro h
   refine ⟨fun k hk=> ?_,?_⟩
   ·have:=h k hk;unfold J4 at this;rw [Bool.and_eq_true] at this;exact this.1
   ·rw [Bool.not_eq_true']
    cases hd:LK l with
    |false=>rfl
    |true=>
     obtain ⟨k,h1,h2,h3⟩:=(WH l).1 hd
     have:=h (k+1) (by simpa using h1)
     unfold J4 at this;rw [Nat.add_sub_cancel,h2,h3] at this;simp at this
  ·rintro ⟨h1,h2⟩ k hk
   unfold J4;rw [h1 k hk,Bool.true_and,Bool.not_eq_true']
   rw [Bool.not_eq_true'] at h2
   cases hb:(decide (0<k)&&(aI l k==45&&aI l (k - 1)==45)) with
   |false=>rfl
   |true=>
    simp only [Bool.and_eq_true,decide_eq_true_eq,beq_iff_eq] at hb
    have hkl:k<l.length:=by simpa using hk
    have:=(WH l).2 ⟨k - 1,by omega,hb.2.2,by rw [show k - 1+1=k by omega];exact hb.2.1⟩
    rw [this] at h2;cases h2
 rw [e]
 unfold vO
 generalize (List.range l.length).all (fun k=>okb (aI l k))=A
 generalize LK l=D
 cases A<;>cases D<;>simp [Bool.and_assoc]
theorem agz {s:ByteArray} (h:GI (L s)=true):0<s.size∧(s.size:Int)≤32∧vO (aI (L s) 0)=true∧(((aI (L s) (s.size - 1):Nat):Int)==45)=false:=by
 rw [GI,dN] at h
 simp only [Bool.and_eq_true,decide_eq_true_eq,Bool.not_eq_true',beq_eq_false_iff_ne] at h ⊢
 exact ⟨h.1,by omega,h.2.2.1,by simp;omega⟩
theorem Yu (s:ByteArray) (w:World) (hn:GI (L s)=false):
 Calls Tryz.prog 113 #[.string s] w fun e w'=>e= .returned (.bool false)∧w=w':=by
 rw [GI,dN] at hn
 by_cases h0:0<s.size
 ·have hg:=jm s
  by_cases h1:(s.size:Int)≤32
  ·cases hlo:vO (aI (L s) 0)
   ·have H:=Lib.hid hlo;clear hlo hn
    go_enter Tryz.func113,Tryz.ntmps113
    go_wp2_with (go_at_call 206;(with_reducible refine (Jv _ H.out _).mono ?_);rintro e w1 ⟨rfl,rfl⟩)
    go_ret
    exact ⟨rfl,rfl⟩
   ·have t:(((aI (L s) (s.size - 1):Nat):Int)==45)=true:=by
     rw [hlo,decide_eq_true h0,decide_eq_true (by omega:s.size≤32)] at hn
     have hb:aI (L s) (s.size - 1)=45:=by simpa using hn
     rw [hb];rfl
    have H:=Lib.hid hlo;clear hlo hn
    go_enter Tryz.func113,Tryz.ntmps113
    go_wp2_with (go_at_call 206;(with_reducible refine (KY _ H.out _).mono ?_);rintro e w1 ⟨rfl,rfl⟩)
    go_ret
    exact ⟨rfl,rfl⟩
  ·clear hn
   go_enter Tryz.func113,Tryz.ntmps113
   go_wp2
   go_ret
   exact ⟨rfl,rfl⟩
 ·obtain rfl:s=ByteArray.empty:=ByteArray.size_eq_zero_iff.1 (by omega)
  clear hn
  go_enter Tryz.func113,Tryz.ntmps113
  go_wp2
  go_ret
  exact ⟨rfl,rfl⟩
theorem QI {f:Nat→Bool} {k:Nat} (h:(List.range k).all f=true) (hk:f k=true):(List.range (k+1)).all f=true:=by
 rw [List.range_succ,List.all_append,h];simp [hk]
theorem V4 {f:Nat→Bool} {k n:Nat} (hk:k<n) (h:f k=false):(List.range n).all f=false:=by
 cases hh:(List.range n).all f with
 |false=>rfl
 |true=>rw [List.all_eq_true.1 hh k (by simpa using hk)] at h;cases h
theorem afA {n:Nat} (h:okb n=true):vO n=true∨(vO n=false∧(48:Int)≤n∧(n:Int)≤57)∨(vO n=false∧(n:Int)<48∧((n:Int) != 45)=false):=by
 unfold vO
 simp only [okb,Bool.or_eq_true,Bool.and_eq_true,decide_eq_true_eq,beq_iff_eq,bne_eq_false_iff_eq,Bool.and_eq_false_iff,decide_eq_false_iff_not] at h ⊢;omega
theorem afz {n:Nat} (h:okb n=false):vO n=false∧((n:Int)<48∨57<(n:Int))∧((n:Int) != 45)=true:=by
 obtain ⟨h1,h2,h3⟩:=afQ h
 refine ⟨?_,h2,h3⟩
 unfold vO;simp only [Bool.and_eq_false_iff,decide_eq_false_iff_not];omega
theorem MR (s:ByteArray) (w:World):
 Calls Tryz.prog 113 #[.string s] w fun e w'=>e= .returned (.bool (isName (L s)))∧w=w':=by
 rw [←ai0];unfold rName
 cases hh:GI (L s)
 ·exact Yu s w hh
 obtain ⟨h0,h1,h2,t1⟩:=agz hh
 rw [Bool.true_and,dN]
 obtain ⟨R,hR⟩:∃R,(List.range s.size).all (J4 (L s))=R:=⟨_,rfl⟩
 rw [hR]
 have HR:=Lib.hid hR;clear hR hh
 have H2:=Lib.hid h2;clear h2
 have hg:=jm s
 go_enter Tryz.func113,Tryz.ntmps113
 go_wp2_with (go_at_call 206;(with_reducible refine (KY _ H2.out _).mono ?_);rintro e w1 ⟨rfl,rfl⟩)
 go_loop [3] (fun i=>∃k:Nat,k≤s.size∧i= .int .i64 k∧Hid ((List.range k).all (J4 (L s))=true)) (fun i=>s.size - (intOf i).toNat)
 case atStart=>exact ⟨0,by omega,rfl,rfl⟩
 case round=>
  obtain ⟨k,hk,rfl,hal⟩:=hrel
  by_cases hlt:k<s.size
  ·have HN:J4 (L s) k=false→Hid (R=false):=fun h=>Lib.hid (by rw [←HR.out];exact V4 hlt h)
   have HY:J4 (L s) k=true→Hid ((List.range (k+1)).all (J4 (L s))=true):=fun h=>Lib.hid (QI hal.out h)
   unfold J4 at HN HY
   cases hok:okb (aI (L s) k)
   ·have VQ:=HN (by rw [hok];rfl)
    obtain ⟨x1,x2,x3⟩:=afz hok
    have X1:=Lib.hid x1
    clear hok HN HY x1
    rcases x2 with x2|x2
    all_goals
     go_wp2_with (go_at_call 206;(with_reducible refine (Jv _ X1.out _).mono ?_);rintro e w1 ⟨rfl,rfl⟩)
     go_ret
     exact ⟨aX VQ.out.symm,rfl⟩
   ·by_cases hd:0<k∧aI (L s) k=45∧aI (L s) (k - 1)=45
    ·have VQ:=HN (by rw [hok,decide_eq_true hd.1,hd.2.1,hd.2.2];rfl)
     obtain ⟨d1,d2,d3⟩:=hd
     have lo:vO (aI (L s) k)=false:=by rw [d2];rfl
     have y1:(((aI (L s) k:Nat):Int)==45)=true:=by simp only [beq_iff_eq];omega
     have y3:(((aI (L s) k:Nat):Int) != 45)=false:=by rw [bne,y1];rfl
     have y2:(((aI (L s) (k - 1):Nat):Int)==45)=true:=by simp only [beq_iff_eq];omega
     have y4:((aI (L s) k:Nat):Int)<48:=by omega
     have d1':(0:Int)<k:=by omega
     have ek:((k:Int) - 1).toNat=k - 1:=by omega
     have X1:=Lib.hid lo
     clear hok HN HY lo d2 d3
     go_wp2_with (go_at_call 206;(with_reducible refine (Jv _ X1.out _).mono ?_);rintro e w1 ⟨rfl,rfl⟩)
     go_ret
     exact ⟨aX VQ.out.symm,rfl⟩
    ·have HNX:=HY (by
      rw [hok,Bool.true_and,Bool.not_eq_true',Bool.and_eq_false_iff,Bool.and_eq_false_iff,decide_eq_false_iff_not,beq_eq_false_iff_ne,beq_eq_false_iff_ne]
      omega)
     have hd2:¬0<k∨(0<k∧(((aI (L s) k:Nat):Int)==45)=false)∨(0<k∧(((aI (L s) k:Nat):Int)==45)=true∧(((aI (L s) (k - 1):Nat):Int)==45)=false):=by
      simp only [beq_eq_false_iff_ne,beq_iff_eq,ne_eq];omega
     have hlo:=afA hok
     have ek:0<k→((k:Int) - 1).toNat=k - 1:=by omega
     clear hok HN HY hd
     rcases hd2 with d1|⟨d1,d2⟩|⟨d1,d2,d3⟩
     ·obtain rfl:k=0:=by omega
      rcases hlo with lo|⟨lo,l1,l2⟩|⟨lo,l1,l2⟩
      all_goals
       have X1:=Lib.hid lo
       clear lo
       go_wp2_with (go_at_call 206;(with_reducible first|refine (KY _ X1.out _).mono ?_|refine (Jv _ X1.out _).mono ?_);rintro e w1 ⟨rfl,rfl⟩)
       go_round
       case rel=>exact ⟨1,by omega,by go_num,HNX⟩
       case measure=>simp [intOf];omega
     all_goals
      have d1':(0:Int)<k:=by omega
      have ek:=ek d1
      rcases hlo with lo|⟨lo,l1,l2⟩|⟨lo,l1,l2⟩
      all_goals
       have X1:=Lib.hid lo
       clear lo
       go_wp2_with (go_at_call 206;(with_reducible first|refine (KY _ X1.out _).mono ?_|refine (Jv _ X1.out _).mono ?_);rintro e w1 ⟨rfl,rfl⟩)
       go_round
       case rel=>exact ⟨k+1,by omega,by go_num,HNX⟩
       case measure=>simp [intOf];omega
  ·go_wp2
   go_ret
   obtain rfl:k=s.size:=by omega
   exact ⟨aX (by rw [←HR.out,hal.out]),rfl⟩
end Go.Proofs.YtdnnkgkondkhfaaGreatDoor
namespace Go.Proofs.YtdnnkgkondkhfaaGreatDoor
def pU (n:Nat) (c:UInt8):Nat:=if c==40 || c==91 then n+1 else if (c==41 || c==93)&&0<n then n - 1 else n
def mO (l:Str):Nat:=l.foldl pU 0
theorem Tn (l:Str) (c:UInt8):mO (l++[c])=pU (mO l) c:=by unfold mO;rw [List.foldl_append];rfl
def dst (c:UInt8) (s:Str):Nat→List Str × Nat
 |0=>([],0)
 |i+1=>if s.getD i 0==c&&mO (s.take i)==0 then ((dst c s i).1++[(s.take i).drop (dst c s i).2],i+1) else dst c s i
def gu (c:UInt8) (s:Str):List Str:=(dst c s s.length).1++[s.drop (dst c s s.length).2]
def Flat (s:Str):Prop:=s.all (fun c=> !(c==40 || (c==41 || (c==91 || c==93))))=true
theorem WI:∀(l:Str),Flat l→∀n,l.foldl pU n=n
 |[],_,n=>rfl
 |x::r,h,n=>by
  unfold Flat at h;rw [List.all_cons,Bool.and_eq_true] at h
  have hx:pU n x=n:=by
   have:=h.1
   simp only [Bool.not_eq_true',Bool.or_eq_false_iff,beq_eq_false_iff_ne] at this
   unfold pU;simp [this]
  rw [List.foldl_cons,hx];exact WI r h.2 n
theorem Flat.take {s:Str} (h:Flat s) (i:Nat):Flat (s.take i):=List.all_eq_true.2 fun c hc=>List.all_eq_true.1 h c (List.mem_of_mem_take hc)
theorem aaP (c:UInt8) (s:Str) (h:Flat s):∀i,i≤s.length→(dst c s i).2≤i∧c∉(s.take i).drop (dst c s i).2∧(dst c s i).1++splitOn c (s.drop (dst c s i).2)=splitOn c s
 |0,_=>by simp [dst]
 |i+1,hi=>by
  obtain ⟨h1,h2,h3⟩:=aaP c s h i (by omega)
  have hd:mO (s.take i)=0:=WI _ (h.take i) 0
  have hsi:s.getD i 0=s[i]:=by simp [List.getD,List.getElem?_eq_getElem (show i<s.length by omega)]
  have ht:s.take (i+1)=s.take i++[s[i]]:=List.take_succ_eq_append_getElem (by omega)
  rw [dst,hd,hsi]
  by_cases hc:s[i]=c
  ·rw [if_pos (by simp [hc])]
   refine ⟨Nat.le_refl _,?_,?_⟩
   ·rw [List.drop_eq_nil_of_le (by simp;omega)];simp
   ·rw [←h3]
    have e:∀q,q≤i→s.drop q=(s.take i).drop q++c::s.drop (i+1):=by
     intro q hq
     have e1:s=s.take i++s[i]::s.drop (i+1):=by rw [←List.drop_eq_getElem_cons (by omega),List.take_append_drop]
     have e2:=congrArg (List.drop q) e1
     rw [List.drop_append_of_le_length (by simp;omega),hc] at e2
     exact e2
    rw [e _ h1,Di c _ _ h2,List.append_assoc];rfl
  ·rw [if_neg (by simp [hc])]
   refine ⟨by omega,?_,h3⟩
   rw [ht,List.drop_append_of_le_length (by simp;omega)]
   intro hm;rcases List.mem_append.1 hm with hm|hm
   ·exact h2 hm
   ·rw [List.mem_singleton] at hm;exact hc hm.symm
theorem Zn (c:UInt8) (s:Str) (h:Flat s):gu c s=splitOn c s:=by
 obtain ⟨h1,h2,h3⟩:=aaP c s h s.length (Nat.le_refl _)
 rw [List.take_length] at h2
 rw [←h3,Dh c _ h2];rfl
end Go.Proofs.YtdnnkgkondkhfaaGreatDoor
namespace Go.Proofs.YtdnnkgkondkhfaaGreatDoor
open Go.ChangeShapes Go.WideShapes Go.RowKit
theorem ak3 (l:Str):mO l≤l.length:=by
 have:∀(l:Str) (n:Nat),l.foldl pU n≤n+l.length:=by
  intro l
  induction l with
  |nil=>intro n;simp
  |cons x r ih=>
   intro n
   have h1:=ih (pU n x)
   have h2:pU n x≤n+1:=by unfold pU;split; · omega
                          ·split<;>omega
   simp only [List.foldl_cons,List.length_cons];omega
 have:=this l 0;unfold mO;omega
theorem Hq {s:Str} {k:Nat} (h:k<s.length):s.take (k+1)=s.take k++[s.getD k 0]:=by
 rw [List.take_succ_eq_append_getElem h];simp [List.getD,h]
theorem KQ (c:UInt8) (n:Nat) (hn:n<256):(c==UInt8.ofNat n)=(c.toNat==n):=by
 rw [Bool.eq_iff_iff,beq_iff_eq,beq_iff_eq]
 constructor
 ·intro h;rw [h,UInt8.toNat_ofNat'];omega
 ·intro h;apply UInt8.toNat_inj.1;rw [h,UInt8.toNat_ofNat'];omega
theorem Tq (n:Nat) (c:UInt8):pU n c=if c.toNat=40∨c.toNat=91 then n+1 else if (c.toNat=41∨c.toNat=93)∧0<n then n - 1 else n:=by
 unfold pU
 have h1:=KQ c 40 (by omega);have h2:=KQ c 91 (by omega);have h3:=KQ c 41 (by omega);have h4:=KQ c 93 (by omega)
 rw [show (40:UInt8)=UInt8.ofNat 40 from rfl,show (91:UInt8)=UInt8.ofNat 91 from rfl,show (41:UInt8)=UInt8.ofNat 41 from rfl,show (93:UInt8)=UInt8.ofNat 93 from rfl,h1,h2,h3,h4]
 simp only [Bool.or_eq_true,Bool.and_eq_true,beq_iff_eq,decide_eq_true_eq]
theorem eqn (a:Nat) (b:Int) (h:(a:Int)=b):((a:Int)==b)=true:=by rw [h];simp
theorem pK (a:Nat) (b:Int) (h:(a:Int)≠b):((a:Int)==b)=false:=by rw [beq_eq_false_iff_ne];exact h
theorem aeW (s:ByteArray) (m:Nat) (w:World) (hm:m≤s.size) (hs:s.size<1000000000):
 Calls Tryz.prog 103 #[.string s, .int .i64 m] w fun e w'=>e= .returned (.int .i64 (mO ((L s).take m):Nat))∧w=w':=by
 have hg:=jm s
 have hsl:=dN s
 obtain ⟨R,hR⟩:∃R,mO ((L s).take m)=R:=⟨_,rfl⟩
 rw [hR]
 have HR:=Lib.hid hR;clear hR
 have HL:=Lib.hid hsl;clear hsl
 go_enter Tryz.func103,Tryz.ntmps103
 go_wp2
 go_loop [5,6] (fun n i=>∃k d:Nat,k≤m∧d≤k∧i= .int .i64 k∧n= .int .i64 d∧Hid (mO ((L s).take k)=d)) (fun _ i=>m - (intOf i).toNat)
 case atStart=>exact ⟨0,0,by omega,by omega,rfl,rfl,rfl⟩
 case round=>
  obtain ⟨k,d,hk,hdk,rfl,rfl,HD⟩:=hrel
  by_cases hlt:k<m
  ·have hks:k<s.size:=by omega
   have hst:Hid (mO ((L s).take (k+1))=if aI (L s) k=40∨aI (L s) k=91 then d+1 else if (aI (L s) k=41∨aI (L s) k=93)∧0<d then d - 1 else d):=
    Lib.hid (by rw [Hq (by rw [HL.out];exact hks),Tn,HD.out];exact Tq d _)
   have hle:=ak3 ((L s).take (k+1))
   have hc:aI (L s) k=40∨aI (L s) k=91∨(aI (L s) k=41∧0<d)∨(aI (L s) k=93∧0<d)∨(aI (L s) k=41∧¬0<d)∨(aI (L s) k=93∧¬0<d)∨(aI (L s) k≠40∧aI (L s) k≠91∧aI (L s) k≠41∧aI (L s) k≠93):=by omega
   clear hle
   rcases hc with h|h|⟨h,hd⟩|⟨h,hd⟩|⟨h,hd⟩|⟨h,hd⟩|⟨h1,h2,h3,h4⟩
   ·have t1:=eqn (aI (L s) k) 40 (by omega);have t3:=pK (aI (L s) k) 41 (by omega);have t4:=pK (aI (L s) k) 93 (by omega)
    have HN:Hid (mO ((L s).take (k+1))=d+1):=Lib.hid (by rw [hst.out,if_pos (by omega)])
    clear h hst
    go_wp2
    go_round
    case rel=>exact ⟨k+1,d+1,by omega,by omega,by go_num,by go_num,HN⟩
    case measure=>simp [intOf];omega
   ·have t1:=pK (aI (L s) k) 40 (by omega);have t2:=eqn (aI (L s) k) 91 (by omega);have t3:=pK (aI (L s) k) 41 (by omega);have t4:=pK (aI (L s) k) 93 (by omega)
    have HN:Hid (mO ((L s).take (k+1))=d+1):=Lib.hid (by rw [hst.out,if_pos (by omega)])
    clear h hst
    go_wp2
    go_round
    case rel=>exact ⟨k+1,d+1,by omega,by omega,by go_num,by go_num,HN⟩
    case measure=>simp [intOf];omega
   ·have t1:=pK (aI (L s) k) 40 (by omega);have t2:=pK (aI (L s) k) 91 (by omega);have t3:=eqn (aI (L s) k) 41 (by omega)
    have HN:Hid (mO ((L s).take (k+1))=d - 1):=Lib.hid (by rw [hst.out,if_neg (by omega),if_pos (by omega)])
    have hd':(0:Int)<d:=by omega
    clear h hst
    go_wp2
    go_round
    case rel=>exact ⟨k+1,d - 1,by omega,by omega,by go_num,by rw [show ((d - 1:Nat):Int)=(d:Int) - 1 by omega],HN⟩
    case measure=>simp [intOf];omega
   ·have t1:=pK (aI (L s) k) 40 (by omega);have t2:=pK (aI (L s) k) 91 (by omega);have t3:=pK (aI (L s) k) 41 (by omega);have t4:=eqn (aI (L s) k) 93 (by omega)
    have HN:Hid (mO ((L s).take (k+1))=d - 1):=Lib.hid (by rw [hst.out,if_neg (by omega),if_pos (by omega)])
    have hd':(0:Int)<d:=by omega
    clear h hst
    go_wp2
    go_round
    case rel=>exact ⟨k+1,d - 1,by omega,by omega,by go_num,by rw [show ((d - 1:Nat):Int)=(d:Int) - 1 by omega],HN⟩
    case measure=>simp [intOf];omega
   ·have t1:=pK (aI (L s) k) 40 (by omega);have t2:=pK (aI (L s) k) 91 (by omega);have t3:=eqn (aI (L s) k) 41 (by omega)
    have HN:Hid (mO ((L s).take (k+1))=d):=Lib.hid (by rw [hst.out,if_neg (by omega),if_neg (by omega)])
    have hd':¬(0:Int)<d:=by omega
    clear h hst
    go_wp2
    go_round
    case rel=>exact ⟨k+1,d,by omega,by omega,by go_num,rfl,HN⟩
    case measure=>simp [intOf];omega
   ·have t1:=pK (aI (L s) k) 40 (by omega);have t2:=pK (aI (L s) k) 91 (by omega);have t3:=pK (aI (L s) k) 41 (by omega);have t4:=eqn (aI (L s) k) 93 (by omega)
    have HN:Hid (mO ((L s).take (k+1))=d):=Lib.hid (by rw [hst.out,if_neg (by omega),if_neg (by omega)])
    have hd':¬(0:Int)<d:=by omega
    clear h hst
    go_wp2
    go_round
    case rel=>exact ⟨k+1,d,by omega,by omega,by go_num,rfl,HN⟩
    case measure=>simp [intOf];omega
   ·have t1:=pK (aI (L s) k) 40 (by omega);have t2:=pK (aI (L s) k) 91 (by omega);have t3:=pK (aI (L s) k) 41 (by omega);have t4:=pK (aI (L s) k) 93 (by omega)
    have HN:Hid (mO ((L s).take (k+1))=d):=Lib.hid (by rw [hst.out,if_neg (by omega),if_neg (by omega)])
    clear h1 h2 h3 h4 hst
    go_wp2
    go_round
    case rel=>exact ⟨k+1,d,by omega,by omega,by go_num,rfl,HN⟩
    case measure=>simp [intOf];omega
  ·obtain rfl:k=m:=by omega
   have HE:Hid (d=R):=Lib.hid (by rw [←HD.out,HR.out])
   go_wp2
   go_ret
   exact ⟨jg (by rw [HE.out]),rfl⟩
theorem WM (s:ByteArray) (m:Nat) (w:World) (hm:m≤s.size) (hs:s.size<1000000000) (d:Nat) (hd:Hid (mO ((L s).take m)=d)):
 Calls Tryz.prog 103 #[.string s, .int .i64 m] w fun e w'=>e= .returned (.int .i64 (d:Nat))∧w=w':=
 (aeW s m w hm hs).mono fun _ _ h=>⟨by rw [h.1,hd.out],h.2⟩
theorem WQ (c:UInt8) (s:Str):∀i,(dst c s i).2≤i∧(dst c s i).1.length≤i
 |0=>by simp [dst]
 |i+1=>by
  obtain ⟨h1,h2⟩:=WQ c s i
  rw [dst];split
  ·simp;omega
  ·omega
theorem aef (c:UInt8) (n:Nat):(((n:Nat):Int)==((c.toNat:Nat):Int))=(n==c.toNat):=by
 rw [Bool.eq_iff_iff];simp;omega
theorem Ql (s:ByteArray) (c:UInt8) (w:World) (hs:s.size<100000000) (hc:c.toNat≠40∧c.toNat≠41∧c.toNat≠91∧c.toNat≠93):
 Calls Tryz.prog 41 #[.string s, .int .u8 c.toNat] w (kR w (gu c (L s))):=by
 have hg:=jm s
 obtain ⟨h1,h2,h3,h4⟩:=hc
 have u1:=pK c.toNat 40 (by omega);have u2:=pK c.toNat 41 (by omega);have u3:=pK c.toNat 91 (by omega);have u4:=pK c.toNat 93 (by omega)
 have HL:=Lib.hid (dN s)
 obtain ⟨R,hR⟩:∃R,gu c (L s)=R:=⟨_,rfl⟩
 rw [hR]
 have HR:=Lib.hid hR;clear hR h1 h2 h3 h4
 go_enter Tryz.func41,Tryz.ntmps41
 go_wp2
 go_loopw [5,6,7] (fun v f i wr=>∃k:Nat,∃q:Nat,∃l:List Str,k≤s.size∧q≤k∧l.length≤k∧i= .int .i64 k∧f= .int .i64 q∧Hid (dst c (L s) k=(l,q))∧Texts wr w.heap.size l v∧Below w.heap.size w wr) (fun _ _ i _=>s.size - (intOf i).toNat)
 case atStart=>exact ⟨0,0,[],by omega,by omega,by simp,rfl,rfl,rfl,Texts.nil _ _,Below.refl _ _⟩
 case round=>
  obtain ⟨k,q,l,hk,hq,hl,rfl,rfl,HD,hown,hb⟩:=hrel
  have hsz:=hb.size
  by_cases hlt:k<s.size
  ·have hst:dst c (L s) (k+1)=if (L s).getD k 0==c&&mO ((L s).take k)==0 then (l++[((L s).take k).drop q],k+1) else (l,q):=by rw [dst,HD.out]
   obtain ⟨d,hd⟩:∃d,mO ((L s).take k)=d:=⟨_,rfl⟩
   rw [hd] at hst
   have Hd:=Lib.hid hd;clear hd
   have hcb:((L s).getD k 0==c)=(aI (L s) k==c.toNat):=by
    rw [Bool.eq_iff_iff,beq_iff_eq,beq_iff_eq];exact ⟨fun h=>by unfold aI;rw [h],fun h=>UInt8.toNat_inj.1 h⟩
   rw [hcb] at hst;clear hcb
   have htc:=aef c (aI (L s) k)
   cases hcc:(aI (L s) k==c.toNat)
   ·rw [hcc] at hst htc
    have HN:Hid (dst c (L s) (k+1)=(l,q)):=Lib.hid (by rw [hst];rfl)
    clear hst hcc
    go_wp2
    go_roundw
    case rel=>exact ⟨k+1,q,l,by omega,by omega,by omega,by go_num,rfl,HN,hown,hb⟩
    case measure=>simp [intOf];omega
   ·rw [hcc] at hst htc
    by_cases h0:d=0
    ·have HN:Hid (dst c (L s) (k+1)=(l++[((L s).take k).drop q],k+1)):=Lib.hid (by rw [hst,h0];rfl)
     have t0:=eqn d 0 (by omega)
     have hex:=Lib.hid (dM s q k)
     have hln:l.length<1000000000:=by omega
     clear hst hcc h0
     go_wp2_with (first|(go_at_call 103;(with_reducible refine (WM s k _ (by omega) (by omega) d Hd).mono ?_);rintro e w2 ⟨rfl,rfl⟩)|(at_builtin;refine dH rfl (.tmp 41) (.tmp 46) 74 rfl Tryz.underlying74 jB rfl rfl hown hln hsz ?_;intro v' w2 hown2 hb2))
     rw [hex.out] at hown2
     have hb3:=hb.trans hb2
     go_roundw
     case rel=>exact ⟨k+1,k+1,_,by omega,by omega,by simp;omega,by go_num,by go_num,HN,hown2,hb3⟩
     case measure=>simp [intOf];omega
    ·have HN:Hid (dst c (L s) (k+1)=(l,q)):=Lib.hid (by rw [hst,Bool.true_and,if_neg (by simpa using h0)])
     have t0:=pK d 0 (by omega)
     clear hst hcc h0
     go_wp2_with (go_at_call 103;(with_reducible refine (WM s k _ (by omega) (by omega) d Hd).mono ?_);rintro e w2 ⟨rfl,rfl⟩)
     go_roundw
     case rel=>exact ⟨k+1,q,l,by omega,by omega,by omega,by go_num,rfl,HN,hown,hb⟩
     case measure=>simp [intOf];omega
  ·obtain rfl:k=s.size:=by omega
   have hex:Hid (L (s.extract q s.size)=(L s).drop q):=Lib.hid (by rw [dM,List.take_of_length_le (by rw [dN];exact Nat.le_refl _)])
   have HE:Hid (l++[(L s).drop q]=R):=Lib.hid (by rw [←HR.out,gu,HL.out,HD.out])
   have hln:l.length<1000000000:=by omega
   go_wp2_with (at_builtin;refine dH rfl (.tmp 50) (.tmp 54) 74 rfl Tryz.underlying74 jB rfl rfl hown hln hsz ?_;intro v' w2 hown2 hb2)
   rw [hex.out,HE.out] at hown2
   go_ret
   obtain ⟨A,cc,rfl,_⟩:=hown2.form
   exact ⟨A,cc,rfl,hown2,hb.trans hb2⟩
theorem wG (sep x:Str):∀(l:List Str),Lib.join (l++[x]) sep=if l=[] then x else Lib.join l sep++sep++x
 |[]=>by simp [Lib.join_one]
 |[a]=>by simp [fA,Lib.join_one]
 |a::b::r=>by
  have ih:=wG sep x (b::r)
  rw [if_neg (by simp)] at ih
  rw [if_neg (by simp),List.cons_append,List.cons_append,fA,fA,←List.cons_append,ih];simp
theorem Js (sep:Str):∀(l:List Str) (k:Nat),(Lib.join (l.take k) sep).length≤(Lib.join l sep).length
 |[],k=>by simp
 |[a],k=>by
  cases k with
  |zero=>simp [Lib.join_nil]
  |succ k=>simp
 |a::b::r,k=>by
  cases k with
  |zero=>simp [Lib.join_nil]
  |succ k=>
   cases k with
   |zero=>simp only [List.take_succ_cons,List.take_zero];rw [Lib.join_one,fA];simp
   |succ k=>
    have ih:=Js sep (b::r) (k+1)
    simp only [List.take_succ_cons] at ih ⊢
    rw [fA,fA];simp only [List.length_append];omega
theorem Ut (l:List Str) (A:Option Addr) (c base:Nat) (sep:ByteArray) (w:World) (h:Texts w base l (.slice A l.length c)) (sl:Str) (hsl:L sep=sl) (hlen:(Lib.join l sl).length≤140737488355328) (hN:l.length≤100000000):
 Calls Tryz.prog 84 #[.slice A l.length c, .string sep] w fun e w'=>e= .returned (.string (B (Lib.join l sl)))∧w=w':=by
 have HS:=Lib.hid hsl
 obtain ⟨R,hR⟩:∃R,Lib.join l sl=R:=⟨_,rfl⟩
 have hss:sep.size=sl.length:=by rw [←hsl,dN]
 have htl:=Js sl l
 rw [hR] at htl hlen ⊢
 have HR:=Lib.hid hR;clear hR hsl
 have HSS:=Lib.hid hss;clear hss
 have HT:=Lib.hid htl;clear htl
 go_enter Tryz.func84,Tryz.ntmps84
 go_wp2
 go_loop [5,6] (fun v i=>∃k:Nat,∃p:Str,k≤l.length∧i= .int .i64 k∧v= .string (B p)∧Hid (Lib.join (l.take k) sl=p)) (fun _ i=>l.length - (intOf i).toNat)
 case atStart=>exact ⟨0,[],by omega,rfl,rfl,by rw [List.take_zero];exact Lib.join_nil _⟩
 case round=>
  obtain ⟨k,p,hk,rfl,rfl,HP⟩:=hrel
  by_cases hlt:k<l.length
  ·obtain ⟨g,rfl,hg,hcl⟩:=h.at_ hlt
   have hjs:=wG sl l[k] (l.take k)
   have ht:l.take (k+1)=l.take k++[l[k]]:=List.take_succ_eq_append_getElem hlt
   rw [←ht,HP.out] at hjs
   have hle:=HT.out (k+1)
   rw [hjs] at hle
   by_cases h0:k=0
   ·subst h0
    have hp:p=[]:=by rw [←HP.out,List.take_zero];exact Lib.join_nil _
    subst hp
    rw [if_pos (by simp)] at hjs hle
    have HN:=Lib.hid hjs;clear hjs ht
    generalize l[0]=x at *
    have hxl:x.length≤140737488355328:=by omega
    clear HP
    go_wp2
    go_round
    case rel=>exact ⟨1,x,by omega,by go_num,rfl,HN⟩
    case measure=>simp [intOf];omega
   ·rw [if_neg (by rw [List.take_eq_nil_iff];rintro (h|h); · exact h0 h
                   ·rw [h] at hlt;simp at hlt)] at hjs hle
    have HN:=Lib.hid hjs;clear hjs ht
    generalize l[k]=x at *
    simp only [List.length_append] at hle
    have hk0:(0:Int)<k:=by omega
    have b1:(B p).size+sep.size≤9223372036854775807:=by rw [bC,HSS.out];omega
    have b2:p.length+sep.size≤9223372036854775807:=by rw [HSS.out];omega
    have b3:p.length+sep.size+x.length≤9223372036854775807:=by rw [HSS.out];omega
    have b4:(B p++sep).size+(B x).size≤9223372036854775807:=by rw [ByteArray.size_append,bC,bC];omega
    clear HP hle
    go_wp2
    go_round
    case rel=>exact ⟨k+1,p++sl++x,by omega,by go_num,by rw [show B p++sep++B x=B (p++sl++x) from by rw [←ru,←ru,←HS.out,qV]],HN⟩
    case measure=>simp [intOf];omega
  ·obtain rfl:k=l.length:=by omega
   have HE:Hid (p=R):=Lib.hid (by rw [←HP.out,List.take_length,HR.out])
   go_wp2
   go_ret
   exact ⟨dV (by rw [HE.out]),rfl⟩
theorem qw (l:List Str) (n:Nat) (hn:l.length=n) (hm:n<1000000) (w:World) (cs:Array Value) (hc:cs=(strCells l).toArray):Texts (w.alloc (.cells cs 9)) w.heap.size l (.slice (some ⟨w.heap.size,0,none⟩) n n):=by
 subst hc;subst hn
 refine ⟨by rw [strCells_length];omega, .inr ⟨w.heap.size,l.length,_,rfl,Nat.le_refl _,heap_alloc_new w _,Nat.le_refl _,by unfold maxLen;omega,?_,?_⟩⟩
 ·simp [strCells]
 ·simp only [List.toList_toArray,Nat.mul_one]
  rw [List.take_of_length_le (by simp [strCells])]
def idxFrom:List Str→Nat→Str→Int
 |[],_,_=> -1
 |x::r,k,s=>if x==s then (k:Int) else idxFrom r (k+1) s
theorem ais {T:List Str} {k:Nat} {s:Str} (hk:k<T.length):idxFrom (T.drop k) k s=if T[k]==s then (k:Int) else idxFrom (T.drop (k+1)) (k+1) s:=by
 rw [List.drop_eq_getElem_cons hk,idxFrom]
theorem aa7 (T:List Str) (s:Str):∀k,(gq T k s==0)=decide (idxFrom T k s<0):=by
 induction T with
 |nil=>intro k;rfl
 |cons x r ih=>
  intro k
  unfold gq idxFrom
  split
  ·have:2 ^ k≠0:=Nat.pos_iff_ne_zero.1 (Nat.pow_pos (by omega))
   rw [Bool.eq_iff_iff];simp [this]
  ·exact ih (k+1)
theorem beq_toList (x:Str) (s:ByteArray):((B x).toList==s.toList)=(x==L s):=by rw [Fz,dZ]
theorem Qj (T:List Str) (A:Option Addr) (c base:Nat) (s:ByteArray) (w:World) (h:Texts w base T (.slice A T.length c)) (hT:T.length<1000000):
 Calls Tryz.prog 222 #[.slice A T.length c, .string s] w fun e w'=>e= .returned (.int .i64 (idxFrom T 0 (L s)))∧w=w':=by
 obtain ⟨R,hR⟩:∃R,idxFrom T 0 (L s)=R:=⟨_,rfl⟩
 rw [hR]
 have HR:=Lib.hid hR;clear hR
 go_enter Tryz.func222,Tryz.ntmps222
 go_wp2
 go_loop [5] (fun i=>∃k:Nat,k≤T.length∧i= .int .i64 k∧Hid (idxFrom (T.drop k) k (L s)=R)) (fun i=>T.length - (intOf i).toNat)
 case atStart=>exact ⟨0,by omega,rfl,by rw [List.drop_zero];exact HR⟩
 case round=>
  obtain ⟨k,hk,rfl,HD⟩:=hrel
  by_cases hlt:k<T.length
  ·obtain ⟨g,rfl,hg,hcl⟩:=h.at_ hlt
   have hst:=ais (s:=L s) hlt
   rw [HD.out] at hst
   have hbe:=beq_toList T[k] s
   cases hc:(T[k]==L s)
   ·rw [hc] at hst hbe
    rw [Fz] at hbe
    have HN:Hid (idxFrom (T.drop (k+1)) (k+1) (L s)=R):=Lib.hid (by rw [hst];rfl)
    clear hst hc
    generalize T[k]=x at *
    go_wp2
    go_round
    case rel=>exact ⟨k+1,by omega,by go_num,HN⟩
    case measure=>simp [intOf];omega
   ·rw [hc] at hst hbe
    rw [Fz] at hbe
    have HN:Hid (R=k):=Lib.hid (by rw [hst];rfl)
    clear hst hc
    generalize T[k]=x at *
    go_wp2
    go_ret
    exact ⟨jg HN.out.symm,rfl⟩
  ·obtain rfl:k=T.length:=by omega
   have HE:Hid (R= -1):=Lib.hid (by rw [←HD.out,List.drop_length];rfl)
   go_wp2
   go_ret
   exact ⟨jg HE.out.symm,rfl⟩
theorem adn (w:World):Calls Tryz.prog 223 #[] w (kR w pG):=by
 go_enter Tryz.func223,Tryz.ntmps223
 go_wp2
 go_ret
 exact ⟨_,_,rfl,qw pG _ rfl (by decide) w _ rfl,(Below.refl _ _).alloc (Nat.le_refl _) _⟩
theorem Uu (w:World):Calls Tryz.prog 224 #[] w (kR w aO):=by
 go_enter Tryz.func224,Tryz.ntmps224
 go_wp2
 go_ret
 exact ⟨_,_,rfl,qw aO _ rfl (by decide) w _ rfl,(Below.refl _ _).alloc (Nat.le_refl _) _⟩
theorem Qk (s:ByteArray) (w:World):
 Calls Tryz.prog 131 #[.string s] w fun e w'=>e= .returned (.bool (nG (L s)))∧Below w.heap.size w w':=by
 have HD:Hid (nG (L s)=(isName (L s)&&(decide (idxFrom pG 0 (L s)<0)&&decide (idxFrom aO 0 (L s)<0)))):=Lib.hid (by unfold nG;rw [aa7,aa7])
 generalize nG (L s)=R at *
 generalize hi:idxFrom pG 0 (L s)=i1 at *
 generalize hj:idxFrom aO 0 (L s)=i2 at *
 have Hi:=Lib.hid hi;have Hj:=Lib.hid hj;clear hi hj
 go_enter Tryz.func131,Tryz.ntmps131
 go_wp2_with (first|(go_at_call 113;(with_reducible refine (MR _ _).mono ?_);rintro e w1 ⟨rfl,rfl⟩)|(go_at_call 223;(with_reducible refine (adn _).mono ?_);rintro e w2 ⟨A,c,rfl,ht,hb1⟩)|(go_at_call 224;(with_reducible refine (Uu _).mono ?_);rintro e w3 ⟨A2,c2,rfl,ht2,hb2⟩)|(go_at_call 222;(with_reducible refine (Qj pG _ _ _ _ _ ht (by decide)).mono ?_);rw [Hi.out];rintro e w4 ⟨rfl,rfl⟩)|(go_at_call 222;(with_reducible refine (Qj aO _ _ _ _ _ ht2 (by decide)).mono ?_);rw [Hj.out];rintro e w5 ⟨rfl,rfl⟩))
 all_goals
  go_ret
  refine ⟨aX ?_,?_⟩
  ·rw [HD.out];simp [*]<;>omega
  ·first|exact Below.refl _ _|exact aaC hb1 hb2|exact hb1
theorem NV (m i:Nat) (w:World) (hm:m<2 ^ 31) (hi:i<100):
 Calls Tryz.prog 313 #[.int .i64 m, .int .i64 i] w fun e w'=>e= .returned (.bool (m.testBit i))∧w=w':=by
 have HB:Hid (m.testBit i=decide (m / 2 ^ i % 2=1)):=Lib.hid Nat.testBit_eq_decide_div_mod_eq
 generalize m.testBit i=R at *
 go_enter Tryz.func313,Tryz.ntmps313
 go_wp2
 go_loop [0,5] (fun v k=>∃j n:Nat,j≤i∧n<2 ^ 31∧k= .int .i64 j∧v= .int .i64 n∧Hid (m / 2 ^ j=n)) (fun _ k=>i - (intOf k).toNat)
 case atStart=>exact ⟨0,m,by omega,hm,rfl,rfl,by simp [Hid]⟩
 case round=>
  obtain ⟨j,n,hj,hn,rfl,rfl,HN⟩:=hrel
  by_cases hlt:j<i
  ·have HX:Hid (m / 2 ^ (j+1)=n / 2):=Lib.hid (by rw [Nat.pow_succ,←Nat.div_div_eq_div_mul,HN.out])
   go_wp2
   go_round
   case rel=>exact ⟨j+1,n / 2,by omega,by omega,by go_num,by go_num,HX⟩
   case measure=>simp [intOf];omega
  ·obtain rfl:j=i:=by omega
   have HE:Hid (R=decide (n % 2=1)):=Lib.hid (by rw [HB.out,HN.out])
   go_wp2
   go_ret
   exact ⟨aX (by rw [HE.out,Bool.eq_iff_iff];simp;omega),rfl⟩
def jR (T:List Str) (m:Nat) (sep:Str):Nat→Str
 |0=>[]
 |k+1=>if m.testBit k then (if jR T m sep k=[] then T.getD k [] else jR T m sep k++sep++T.getD k []) else jR T m sep k
theorem Ud (T:List Str) (m:Nat) (sep:Str) (hT:∀x∈T,x.length≤100) (hs:sep.length≤100):∀k,(jR T m sep k).length≤200 * k
 |0=>by simp [jR]
 |k+1=>by
  have ih:=Ud T m sep hT hs k
  have hw:=l7 hT k
  unfold wd at hw
  rw [jR];split
  ·split
   ·omega
   ·simp only [List.length_append];omega
  ·omega
theorem aae (T:List Str) (A:Option Addr) (c base m:Nat) (sep:ByteArray) (sl:Str) (hsl:L sep=sl) (w:World) (h:Texts w base T (.slice A T.length c)) (hm:m<2 ^ 31) (hT:T.length≤31) (hw:∀x∈T,x.length≤100) (hss:sl.length≤100):
 Calls Tryz.prog 276 #[.slice A T.length c, .int .i64 m, .string sep] w fun e w'=>e= .returned (.string (B (jR T m sl T.length)))∧w=w':=by
 subst hsl
 have hsz:sep.size≤100:=by rw [dN] at hss;exact hss
 have HJ:=Lib.hid (Ud T m (L sep) hw hss)
 obtain ⟨R,hR⟩:∃R,jR T m (L sep) T.length=R:=⟨_,rfl⟩
 rw [hR]
 have HR:=Lib.hid hR
 have HW:=Lib.hid hw
 clear hR hw hss
 go_enter Tryz.func276,Tryz.ntmps276
 go_wp2
 go_loop [7,8] (fun v i=>∃k:Nat,∃p:Str,k≤T.length∧i= .int .i64 k∧v= .string (B p)∧Hid (jR T m (L sep) k=p)) (fun _ i=>T.length - (intOf i).toNat)
 case atStart=>exact ⟨0,[],by omega,rfl,rfl,rfl⟩
 case round=>
  obtain ⟨k,p,hk,rfl,rfl,HP⟩:=hrel
  by_cases hlt:k<T.length
  ·obtain ⟨g,rfl,hg,hcl⟩:=h.at_ hlt
   have hst:jR T m (L sep) (k+1)=if m.testBit k then (if p=[] then T[k] else p++L sep++T[k]) else p:=by
    rw [jR,HP.out];simp [List.getD,hlt]
   have hpl:p.length≤10000:=by have:=HJ.out k;rw [HP.out] at this;omega
   have hxl:T[k].length≤100:=HW.out _ (List.getElem_mem hlt)
   cases hb:m.testBit k
   ·rw [hb] at hst
    have HN:Hid (jR T m (L sep) (k+1)=p):=Lib.hid (by rw [hst];rfl)
    have HB:=Lib.hid hb
    clear hst hb hcl
    go_wp2_with (go_at_call 313;(with_reducible refine (NV _ _ _ hm (by omega)).mono ?_);rw [HB.out];rintro e w1 ⟨rfl,rfl⟩)
    go_round
    case rel=>exact ⟨k+1,p,by omega,by go_num,rfl,HN⟩
    case measure=>simp [intOf];omega
   ·rw [hb] at hst
    have HB:=Lib.hid hb
    clear hb
    generalize T[k]=x at *
    by_cases hp:p=[]
    ·subst hp
     have HN:Hid (jR T m (L sep) (k+1)=x):=Lib.hid (by rw [hst];rfl)
     clear hst
     go_wp2_with (go_at_call 313;(with_reducible refine (NV _ _ _ hm (by omega)).mono ?_);rw [HB.out];rintro e w1 ⟨rfl,rfl⟩)
     go_round
     case rel=>exact ⟨k+1,x,by omega,by go_num,rfl,HN⟩
     case measure=>simp [intOf];omega
    ·have HN:Hid (jR T m (L sep) (k+1)=p++L sep++x):=Lib.hid (by rw [hst,if_pos rfl,if_neg hp])
     have e1:p.isEmpty=false:=by simpa using hp
     have b1:(B p).size+sep.size≤9223372036854775807:=by rw [bC];omega
     have b2:(B p++sep).size+(B x).size≤9223372036854775807:=by rw [ByteArray.size_append,bC,bC];omega
     clear hst
     go_wp2_with (go_at_call 313;(with_reducible refine (NV _ _ _ hm (by omega)).mono ?_);rw [HB.out];rintro e w1 ⟨rfl,rfl⟩)
     go_round
     case rel=>exact ⟨k+1,p++L sep++x,by omega,by go_num,by rw [show B p++sep++B x=B (p++L sep++x) from by rw [←ru,←ru,qV]],HN⟩
     case measure=>simp [intOf];omega
  ·obtain rfl:k=T.length:=by omega
   have HE:Hid (p=R):=Lib.hid (by rw [←HP.out,HR.out])
   go_wp2
   go_ret
   exact ⟨dV (by rw [HE.out]),rfl⟩
theorem ZG (m:Nat) (h:1≤m) (h2:m≤63):jR aO m [43] 6=bD m:=by
 have key:∀m:Fin 64,1≤m.val→jR aO m.val [43] 6=bD m.val:=by decide +kernel
 exact key ⟨m,by omega⟩ h
theorem yM (m:Nat) (h1:1≤m) (h2:m≤63) (w:World):
 Calls Tryz.prog 227 #[.int .i64 m] w fun e w'=>e= .returned (.string (B (bD m)))∧Below w.heap.size w w':=by
 have HJ:=Lib.hid (ZG m h1 h2)
 go_enter Tryz.func227,Tryz.ntmps227
 go_wp2_with (first|(go_at_call 224;(with_reducible refine (Uu _).mono ?_);rintro e w3 ⟨A2,c2,rfl,ht2,hb2⟩)|(go_at_call 276;(with_reducible refine (aae aO _ _ _ m _ [43] rfl _ ht2 (by omega) (by decide) (by decide) (by decide)).mono ?_);rintro e w4 ⟨rfl,rfl⟩))
 go_ret
 exact ⟨dV (by rw [←HJ.out];rfl),hb2⟩
theorem uN (n:Int) (w:World):
 Calls Tryz.prog 265 #[.int .i64 n] w fun e w'=>e= .returned (.int .i64 (jU n))∧w=w':=by
 have HD:Hid (jU n=if n< -1000000 then -1000000 else if 1000000<n then 1000000 else n):=rfl
 generalize jU n=R at *
 by_cases h1:n< -1000000
 ·have h2:¬1000000<n:=by omega
  go_enter Tryz.func265,Tryz.ntmps265
  go_wp2
  go_ret
  exact ⟨jg (by rw [HD.out];omega),rfl⟩
 ·by_cases h2:1000000<n
  ·go_enter Tryz.func265,Tryz.ntmps265
   go_wp2
   go_ret
   exact ⟨jg (by rw [HD.out];omega),rfl⟩
  ·go_enter Tryz.func265,Tryz.ntmps265
   go_wp2
   go_ret
   exact ⟨jg (by rw [HD.out];omega),rfl⟩
def LM (n:Nat):UInt8:=UInt8.ofNat (48+n % 10)
def dgS (n:Nat):ByteArray:=B [LM n]
theorem ab6 (wx:World) (n:Nat):(convert 198 9 (.slice (some ⟨wx.heap.size,0,none⟩) 1 1)).run Tryz.prog (wx.alloc (.cells #[.int .u8 (48+(n:Int) % 10)] 5))= .ok (.string (dgS n)) (wx.alloc (.cells #[.int .u8 (48+(n:Int) % 10)] 5)):=by
 have hb:Lib.Bytes (wx.alloc (.cells #[.int .u8 (48+(n:Int) % 10)] 5)) wx.heap.size 0 (B [LM n]):=by
  intro i hi
  obtain rfl:i=0:=by rw [bC] at hi;simpa using hi
  rw [Nat.add_zero,cell_of_row _ _ 0 _ _ _ (heap_alloc_new wx _)]
  have:((B [LM n])[0]'hi).toNat=48+n % 10:=by
   rw [jm,cO];show (LM n).toNat=_
   unfold LM
   rw [UInt8.toNat_ofNat'];omega
  rw [this];simp
 exact Lib.run_convert_whole _ 198 5 9 Tryz.underlying198 Tryz.underlying5 Tryz.underlying9 _ 0 _ hb 1
def BJ (u:Nat):Str:=if u=0 then [] else Lib.decDigits u
theorem Jf (u:Nat):Lib.decDigits u=BJ (u / 10)++[LM u]:=by
 unfold BJ;rw [Lib.decDigits];split
 ·rw [if_pos (by omega)];unfold LM;rw [Nat.mod_eq_of_lt (by omega)];rfl
 ·rw [if_neg (by omega)];rfl
theorem Zk {u:Nat} (h:u≠0):BJ u=BJ (u / 10)++[LM u]:=by
 rw [←Jf];unfold BJ;rw [if_neg h]
theorem MQ (u:Nat) (w:World) (hu:u<100000000):
 Calls Tryz.prog 186 #[.int .u64 u] w fun e w'=>e= .returned (.string (B (Lib.decDigits u)))∧Below w.heap.size w w':=by
 have h1:(0:Int)≤u:=by omega
 have h2:(u:Int)<100000000:=by omega
 have hcv:=fun wx=>ab6 wx
 have HR:=Lib.hid (Jf u)
 generalize Lib.decDigits u=R at *
 go_enter Tryz.func186,Tryz.ntmps186
 go_wp2
 go_loopw [0,3] (fun v t wr=>∃k:Nat,∃p:Str,k<100000000∧p.length+k≤100000100∧v= .int .u64 k∧t= .string (B p)∧Below w.heap.size w wr∧Hid (R=BJ k++p)) (fun v _ _=>(intOf v).toNat)
 case atStart=>exact ⟨u / 10,_,by omega,by simp;omega,by go_num,rfl,(Below.refl _ _).alloc (Nat.le_refl _) _,HR⟩
 case round=>
  obtain ⟨k,p,hk,hp,rfl,rfl,hb,HP⟩:=hrel
  have hsz:=hb.size
  by_cases hlt:0<k
  ·have HX:Hid (R=BJ (k / 10)++([LM k]++p)):=Lib.hid (by rw [HP.out,Zk (by omega),List.append_assoc])
   have b0:(dgS k).size=1:=by unfold dgS;rw [bC];rfl
   have b1:(dgS k).size+(B p).size≤9223372036854775807:=by rw [b0,bC];omega
   clear b0
   go_wp2
   go_roundw
   case rel=>exact ⟨k / 10,[LM k]++p,by omega,by simp;omega,by go_num,by rw [←ru];rfl,hb.alloc hsz _,HX⟩
   case measure=>simp [intOf];omega
  ·obtain rfl:k=0:=by omega
   have HE:Hid (p=R):=Lib.hid (by rw [HP.out];rfl)
   go_wp2
   go_ret
   exact ⟨dV (by rw [HE.out]),hb⟩
theorem qo (n:Int) (w:World) (h0: -10000000<n) (h1:n<10000000):
 Calls Tryz.prog 83 #[.int .i64 n] w fun e w'=>e= .returned (.string (B (Lib.itoa n)))∧Below w.heap.size w w':=by
 by_cases hn:n<0
 ·obtain ⟨m,rfl⟩:∃m:Nat,n= -(m:Int):=⟨n.natAbs,by omega⟩
  have HI:=Lib.hid (Lib.itoa_neg m (by omega))
  have hcv:IntKind.u64.wrap (-(IntKind.u64.wrap (-(m:Int))))=(m:Int):=by simp [IntKind.wrap,IntKind.signed,IntKind.bits];omega
  have hl:=QW 7 m (by omega)
  generalize Lib.itoa (-(m:Int))=R at *
  go_enter Tryz.func83,Tryz.ntmps83
  go_wp2_with (go_at_call 186;(with_reducible refine (MQ m _ (by omega)).mono ?_);rintro e w1 ⟨rfl,hb⟩)
  go_ret
  exact ⟨dV (by rw [HI.out];exact ru [45] _),hb⟩
 ·obtain ⟨m,rfl⟩:∃m:Nat,n=(m:Int):=⟨n.toNat,by omega⟩
  have HI:=Lib.hid (Lib.itoa_nonneg m)
  generalize Lib.itoa (m:Int)=R at *
  go_enter Tryz.func83,Tryz.ntmps83
  go_wp2_with (go_at_call 186;(with_reducible refine (MQ m _ (by omega)).mono ?_);rintro e w1 ⟨rfl,hb⟩)
  go_ret
  exact ⟨dV (by rw [HI.out]),hb⟩
theorem DC {s:Str} {a k:Nat} (ha:a≤k) (h:k<s.length):(s.take (k+1)).drop a=(s.take k).drop a++[s.getD k 0]:=by
 rw [Hq h,List.drop_append_of_le_length (by rw [List.length_take];omega)]
theorem abl {l:Str} {a k:Nat} (ha:a≤k) (hk:k<l.length) (h:oD (l.getD k 0)=false):(l.drop a).all oD=false:=by
 cases hh:(l.drop a).all oD with
 |false=>rfl
 |true=>
  have hm:l.getD k 0∈l.drop a:=by
   rw [List.mem_iff_getElem]
   refine ⟨k - a,by rw [List.length_drop];omega,?_⟩
   rw [List.getElem_drop];simp [List.getD,show a+(k - a)=k by omega,hk]
  rw [List.all_eq_true.1 hh _ hm] at h;cases h
def yN (r s:Str) (v:Int):Option Int:=if r=[]∨7<r.length∨r.all oD=false then none else if jU v=v∧Lib.itoa v=s then some v else none
theorem apk {s:Str} (h:(aI s 0==45)=true):rdNum s=yN (s.drop 1) s (-((jK (s.drop 1):Nat):Int)):=by
 unfold rdNum yN;rw [h];rfl
theorem apl {s:Str} (h:(aI s 0==45)=false):rdNum s=yN (s.drop 0) s ((jK (s.drop 0):Nat):Int):=by
 unfold rdNum yN;rw [h,List.drop_zero];rfl
theorem Bl {r s:Str} {v:Int} (h:r=[]∨7<r.length∨r.all oD=false):yN r s v=none:=if_pos h
theorem rd_some {r s:Str} {v:Int} (h:¬(r=[]∨7<r.length∨r.all oD=false)) (h2:jU v=v∧Lib.itoa v=s):yN r s v=some v:=by unfold yN;rw [if_neg h,if_pos h2]
theorem Qo {r s:Str} {v:Int} (h2:¬(jU v=v∧Lib.itoa v=s)):yN r s v=none:=by
 unfold yN;split
 ·rfl
 ·first|rfl|rw [if_neg h2]
theorem S9 {v:Int} (h:jU v=v): -1000000≤v∧v≤1000000:=by
 unfold jU at h;split at h
 ·omega
 ·split at h<;>omega
theorem XR {j:Nat} (h:j≤7):10 ^ j≤10000000:=Nat.le_trans (Nat.pow_le_pow_right (by omega) h) (by decide)
theorem adl (s:ByteArray) (w:World) (hs:s.size<100000000) (h0:0<s.size) (hb:(((aI (L s) 0:Nat):Int)==45)=false) (R:Option Int) (HD:Hid (R=yN ((L s).drop 0) (L s) ((jK ((L s).drop 0):Nat):Int))):
 Calls Tryz.prog 202 #[.string s] w fun e w'=>e= .returned (lM R)∧Below w.heap.size w w':=by
 have hg:=jm s
 have HL:=Lib.hid (dN s)
 by_cases h1:s.size=0
 ·have HN:Hid (R=none):=Lib.hid (by rw [HD.out];exact Bl (.inl (List.drop_eq_nil_of_le (by rw [HL.out];omega))))
  have t1:=eqn s.size 0 (by omega)
  clear h1
  go_enter Tryz.func202,Tryz.ntmps202
  go_wp2
  all_goals
   go_ret2
   exact ⟨ret_val (by rw [HN.out];rfl),Below.refl _ _⟩
 have t1:=pK s.size 0 (by omega)
 by_cases h2:7<s.size
 ·have HN:Hid (R=none):=Lib.hid (by rw [HD.out];exact Bl (.inr (.inl (by rw [List.length_drop,HL.out];omega))))
  have t2:(7:Int)<s.size:=by omega
  clear h1
  go_enter Tryz.func202,Tryz.ntmps202
  go_wp2
  go_ret2
  exact ⟨ret_val (by rw [HN.out];rfl),Below.refl _ _⟩
 have t2:¬(7:Int)<s.size:=by omega
 have h1':0<s.size:=by omega
 clear h1
 go_enter Tryz.func202,Tryz.ntmps202
 go_wp2
 go_loop [5,6] (fun v i=>∃k n:Nat,0≤k∧k≤s.size∧n<10 ^ (k - 0)∧i= .int .i64 k∧v= .int .i64 n∧Hid ((((L s).take k).drop 0).all oD=true∧jK (((L s).take k).drop 0)=n)) (fun _ i=>s.size - (intOf i).toNat)
 case atStart=>exact ⟨0,0,by omega,by omega,by decide,rfl,rfl,Lib.hid ⟨by rw [List.drop_eq_nil_of_le (by rw [List.length_take];omega)];rfl,by rw [List.drop_eq_nil_of_le (by rw [List.length_take];omega)];rfl⟩⟩
 case round=>
  obtain ⟨k,n,hak,hk,hn,rfl,rfl,HK⟩:=hrel
  have hp:=XR (show k - 0≤7 by omega)
  by_cases hlt:k<s.size
  ·by_cases hd:(48:Int)≤(aI (L s) k:Nat)∧((aI (L s) k:Nat):Int)≤57
   ·obtain ⟨d1,d2⟩:=hd
    have hdig:oD ((L s).getD k 0)=true:=by
     show (decide (48≤aI (L s) k)&&decide (aI (L s) k≤57))=true
     rw [decide_eq_true (by omega),decide_eq_true (by omega)];rfl
    have HX:Hid ((((L s).take (k+1)).drop 0).all oD=true∧jK (((L s).take (k+1)).drop 0)=n * 10+(aI (L s) k - 48)):=Lib.hid ⟨by
     rw [DC hak (by rw [HL.out];exact hlt),List.all_append,HK.out.1,List.all_cons,hdig];rfl,by
     rw [DC hak (by rw [HL.out];exact hlt),Eh,HK.out.2];rfl⟩
    have hpw:10 ^ (k+1 - 0)=10 ^ (k - 0) * 10:=by rw [show k+1 - 0=k - 0+1 by omega,Nat.pow_succ]
    have hn2:n * 10+(aI (L s) k - 48)<10 ^ (k+1 - 0):=by rw [hpw];omega
    have hlim:n≤9999999:=by omega
    have II:=Lib.hid hn2
    clear hdig hpw hn hp hn2
    go_wp2
    go_round
    case rel=>exact ⟨k+1,n * 10+(aI (L s) k - 48),by omega,by omega,II.out,by go_num,by rw [show ((n * 10+(aI (L s) k - 48):Nat):Int)=(n:Int) * 10+(((aI (L s) k:Nat):Int) - 48) by omega],HX⟩
    case measure=>simp [intOf];omega
   ·have HN:Hid (R=none):=Lib.hid (by
     rw [HD.out];refine Bl (.inr (.inr (abl hak (by rw [HL.out];exact hlt) ?_)))
     show (decide (48≤aI (L s) k)&&decide (aI (L s) k≤57))=false
     rw [Bool.and_eq_false_iff,decide_eq_false_iff_not,decide_eq_false_iff_not];omega)
    have hd2:((aI (L s) k:Nat):Int)<48∨57<((aI (L s) k:Nat):Int):=by omega
    clear hd hn hp
    rcases hd2 with hd|hd
    all_goals
     go_wp2
     go_ret2
     exact ⟨ret_val (by rw [HN.out];rfl),Below.refl _ _⟩
  ·obtain rfl:k=s.size:=by omega
   have hT:(L s).take s.size=L s:=List.take_of_length_le (by rw [HL.out];exact Nat.le_refl _)
   have VO:Hid (((L s).drop 0).all oD=true∧jK ((L s).drop 0)=n):=Lib.hid (by have:=HK.out;rwa [hT] at this)
   have hgood:Hid (¬((L s).drop 0=[]∨7<((L s).drop 0).length∨((L s).drop 0).all oD=false)):=Lib.hid (by
    rw [VO.out.1,List.drop_eq_nil_iff,List.length_drop,HL.out];intro h;rcases h with h|h|h
    ·omega
    ·omega
    ·cases h)
   have hlim:n≤10000000:=by omega
   clear hT hn hp
   have HV:Hid (R=yN ((L s).drop 0) (L s) ((n:Nat):Int)):=Lib.hid (by rw [HD.out,VO.out.2])
   by_cases hc:jU ((n:Nat):Int)=((n:Nat):Int)
   ·have hin:=S9 hc
    have HC:=Lib.hid hc
    by_cases hi:Lib.itoa ((n:Nat):Int)=L s
    ·have HN:Hid (R=some ((n:Nat):Int)):=Lib.hid (by rw [HV.out];exact rd_some hgood.out ⟨hc,hi⟩)
     have t3:=iO hi
     clear hc hi
     obtain ⟨i1,i2⟩:=hin
     go_wp2_with (first|(go_at_call 265;(with_reducible refine (uN _ _).mono ?_);rw [HC.out];rintro e w1 ⟨rfl,rfl⟩)|(go_at_call 83;(with_reducible refine (qo _ _ (by omega) (by omega)).mono ?_);rintro e w2 ⟨rfl,hb2⟩))
     go_ret2
     exact ⟨ret_val (by rw [HN.out];rfl),hb2⟩
    ·have HN:Hid (R=none):=Lib.hid (by rw [HV.out];exact Qo fun h=>hi h.2)
     have t3:=jH hi
     clear hc hi
     obtain ⟨i1,i2⟩:=hin
     go_wp2_with (first|(go_at_call 265;(with_reducible refine (uN _ _).mono ?_);rw [HC.out];rintro e w1 ⟨rfl,rfl⟩)|(go_at_call 83;(with_reducible refine (qo _ _ (by omega) (by omega)).mono ?_);rintro e w2 ⟨rfl,hb2⟩))
     go_ret2
     exact ⟨ret_val (by rw [HN.out];rfl),hb2⟩
   ·have HN:Hid (R=none):=Lib.hid (by rw [HV.out];exact Qo fun h=>hc h.1)
    obtain ⟨c,hcc⟩:∃c,jU ((n:Nat):Int)=c:=⟨_,rfl⟩
    rw [hcc] at hc
    have HC:=Lib.hid hcc
    have t3:(c != ((n:Nat):Int))=true:=by rw [bne_iff_ne];exact hc
    clear hc hcc
    go_wp2_with (go_at_call 265;(with_reducible refine (uN _ _).mono ?_);rw [HC.out];rintro e w1 ⟨rfl,rfl⟩)
    go_ret2
    exact ⟨ret_val (by rw [HN.out];rfl),Below.refl _ _⟩
theorem aaf (s:ByteArray) (w:World) (hs:s.size<100000000) (h0:0<s.size) (hb:(((aI (L s) 0:Nat):Int)==45)=true) (R:Option Int) (HD:Hid (R=yN ((L s).drop 1) (L s) (-((jK ((L s).drop 1):Nat):Int)))):
 Calls Tryz.prog 202 #[.string s] w fun e w'=>e= .returned (lM R)∧Below w.heap.size w w':=by
 have hg:=jm s
 have HL:=Lib.hid (dN s)
 by_cases h1:s.size=1
 ·have HN:Hid (R=none):=Lib.hid (by rw [HD.out];exact Bl (.inl (List.drop_eq_nil_of_le (by rw [HL.out];omega))))
  have t1:=eqn s.size 1 (by omega)
  clear h1
  go_enter Tryz.func202,Tryz.ntmps202
  go_wp2
  all_goals
   go_ret2
   exact ⟨ret_val (by rw [HN.out];rfl),Below.refl _ _⟩
 have t1:=pK s.size 1 (by omega)
 by_cases h2:8<s.size
 ·have HN:Hid (R=none):=Lib.hid (by rw [HD.out];exact Bl (.inr (.inl (by rw [List.length_drop,HL.out];omega))))
  have t2:(8:Int)<s.size:=by omega
  clear h1
  go_enter Tryz.func202,Tryz.ntmps202
  go_wp2
  go_ret2
  exact ⟨ret_val (by rw [HN.out];rfl),Below.refl _ _⟩
 have t2:¬(8:Int)<s.size:=by omega
 have h1':1<s.size:=by omega
 clear h1
 go_enter Tryz.func202,Tryz.ntmps202
 go_wp2
 go_loop [5,6] (fun v i=>∃k n:Nat,1≤k∧k≤s.size∧n<10 ^ (k - 1)∧i= .int .i64 k∧v= .int .i64 n∧Hid ((((L s).take k).drop 1).all oD=true∧jK (((L s).take k).drop 1)=n)) (fun _ i=>s.size - (intOf i).toNat)
 case atStart=>exact ⟨1,0,by omega,by omega,by decide,rfl,rfl,Lib.hid ⟨by rw [List.drop_eq_nil_of_le (by rw [List.length_take];omega)];rfl,by rw [List.drop_eq_nil_of_le (by rw [List.length_take];omega)];rfl⟩⟩
 case round=>
  obtain ⟨k,n,hak,hk,hn,rfl,rfl,HK⟩:=hrel
  have hp:=XR (show k - 1≤7 by omega)
  by_cases hlt:k<s.size
  ·by_cases hd:(48:Int)≤(aI (L s) k:Nat)∧((aI (L s) k:Nat):Int)≤57
   ·obtain ⟨d1,d2⟩:=hd
    have hdig:oD ((L s).getD k 0)=true:=by
     show (decide (48≤aI (L s) k)&&decide (aI (L s) k≤57))=true
     rw [decide_eq_true (by omega),decide_eq_true (by omega)];rfl
    have HX:Hid ((((L s).take (k+1)).drop 1).all oD=true∧jK (((L s).take (k+1)).drop 1)=n * 10+(aI (L s) k - 48)):=Lib.hid ⟨by
     rw [DC hak (by rw [HL.out];exact hlt),List.all_append,HK.out.1,List.all_cons,hdig];rfl,by
     rw [DC hak (by rw [HL.out];exact hlt),Eh,HK.out.2];rfl⟩
    have hpw:10 ^ (k+1 - 1)=10 ^ (k - 1) * 10:=by rw [show k+1 - 1=k - 1+1 by omega,Nat.pow_succ]
    have hn2:n * 10+(aI (L s) k - 48)<10 ^ (k+1 - 1):=by rw [hpw];omega
    have hlim:n≤9999999:=by omega
    have II:=Lib.hid hn2
    clear hdig hpw hn hp hn2
    go_wp2
    go_round
    case rel=>exact ⟨k+1,n * 10+(aI (L s) k - 48),by omega,by omega,II.out,by go_num,by rw [show ((n * 10+(aI (L s) k - 48):Nat):Int)=(n:Int) * 10+(((aI (L s) k:Nat):Int) - 48) by omega],HX⟩
    case measure=>simp [intOf];omega
   ·have HN:Hid (R=none):=Lib.hid (by
     rw [HD.out];refine Bl (.inr (.inr (abl hak (by rw [HL.out];exact hlt) ?_)))
     show (decide (48≤aI (L s) k)&&decide (aI (L s) k≤57))=false
     rw [Bool.and_eq_false_iff,decide_eq_false_iff_not,decide_eq_false_iff_not];omega)
    have hd2:((aI (L s) k:Nat):Int)<48∨57<((aI (L s) k:Nat):Int):=by omega
    clear hd hn hp
    rcases hd2 with hd|hd
    all_goals
     go_wp2
     go_ret2
     exact ⟨ret_val (by rw [HN.out];rfl),Below.refl _ _⟩
  ·obtain rfl:k=s.size:=by omega
   have hT:(L s).take s.size=L s:=List.take_of_length_le (by rw [HL.out];exact Nat.le_refl _)
   have VO:Hid (((L s).drop 1).all oD=true∧jK ((L s).drop 1)=n):=Lib.hid (by have:=HK.out;rwa [hT] at this)
   have hgood:Hid (¬((L s).drop 1=[]∨7<((L s).drop 1).length∨((L s).drop 1).all oD=false)):=Lib.hid (by
    rw [VO.out.1,List.drop_eq_nil_iff,List.length_drop,HL.out];intro h;rcases h with h|h|h
    ·omega
    ·omega
    ·cases h)
   have hlim:n≤10000000:=by omega
   clear hT hn hp
   have HV:Hid (R=yN ((L s).drop 1) (L s) (-((n:Nat):Int))):=Lib.hid (by rw [HD.out,VO.out.2])
   by_cases hc:jU (-((n:Nat):Int))=(-((n:Nat):Int))
   ·have hin:=S9 hc
    have HC:=Lib.hid hc
    by_cases hi:Lib.itoa (-((n:Nat):Int))=L s
    ·have HN:Hid (R=some (-((n:Nat):Int))):=Lib.hid (by rw [HV.out];exact rd_some hgood.out ⟨hc,hi⟩)
     have t3:=iO hi
     clear hc hi
     obtain ⟨i1,i2⟩:=hin
     go_wp2_with (first|(go_at_call 265;(with_reducible refine (uN _ _).mono ?_);rw [HC.out];rintro e w1 ⟨rfl,rfl⟩)|(go_at_call 83;(with_reducible refine (qo _ _ (by omega) (by omega)).mono ?_);rintro e w2 ⟨rfl,hb2⟩))
     go_ret2
     exact ⟨ret_val (by rw [HN.out];rfl),hb2⟩
    ·have HN:Hid (R=none):=Lib.hid (by rw [HV.out];exact Qo fun h=>hi h.2)
     have t3:=jH hi
     clear hc hi
     obtain ⟨i1,i2⟩:=hin
     go_wp2_with (first|(go_at_call 265;(with_reducible refine (uN _ _).mono ?_);rw [HC.out];rintro e w1 ⟨rfl,rfl⟩)|(go_at_call 83;(with_reducible refine (qo _ _ (by omega) (by omega)).mono ?_);rintro e w2 ⟨rfl,hb2⟩))
     go_ret2
     exact ⟨ret_val (by rw [HN.out];rfl),hb2⟩
   ·have HN:Hid (R=none):=Lib.hid (by rw [HV.out];exact Qo fun h=>hc h.1)
    obtain ⟨c,hcc⟩:∃c,jU (-((n:Nat):Int))=c:=⟨_,rfl⟩
    rw [hcc] at hc
    have HC:=Lib.hid hcc
    have t3:(c != (-((n:Nat):Int)))=true:=by rw [bne_iff_ne];exact hc
    clear hc hcc
    go_wp2_with (go_at_call 265;(with_reducible refine (uN _ _).mono ?_);rw [HC.out];rintro e w1 ⟨rfl,rfl⟩)
    go_ret2
    exact ⟨ret_val (by rw [HN.out];rfl),Below.refl _ _⟩
theorem zl (s:ByteArray) (w:World) (hs:s.size<100000000):
 Calls Tryz.prog 202 #[.string s] w fun e w'=>e= .returned (lM (rdNum (L s)))∧Below w.heap.size w w':=by
 by_cases h0:0<s.size
 ·cases hb:(aI (L s) 0==45)
  ·exact adl s w hs h0 (pK _ 45 (by rw [beq_eq_false_iff_ne] at hb;omega)) _ (Lib.hid (apl hb))
  ·exact aaf s w hs h0 (eqn _ 45 (by rw [beq_iff_eq] at hb;omega)) _ (Lib.hid (apk hb))
 ·obtain rfl:s=ByteArray.empty:=ByteArray.size_eq_zero_iff.1 (by omega)
  have HN:Hid (rdNum (L ByteArray.empty)=none):=Lib.hid rfl
  generalize rdNum (L ByteArray.empty)=R at *
  go_enter Tryz.func202,Tryz.ntmps202
  go_wp2
  go_ret2
  exact ⟨ret_val (by rw [HN.out];rfl),Below.refl _ _⟩
end Go.Proofs.YtdnnkgkondkhfaaGreatDoor
namespace Go.Proofs.YtdnnkgkondkhfaaGreatDoor
def dK (m i:Nat):Nat:=if m.testBit i then m else m+2 ^ i
theorem yL {x i:Nat} (hx:x<2 ^ 31) (hi:i<31):dK x i=x |||2 ^ i:=by
 unfold dK;split
 ·rename_i h
  apply Nat.eq_of_testBit_eq;intro j
  rw [Nat.testBit_or,Nat.testBit_two_pow]
  by_cases e:i=j
  ·subst e;simp [h]
  ·simp [e]
 ·rename_i h
  have hp:2 ^ i<2 ^ 31:=Nat.pow_lt_pow_right (by omega) hi
  have hand:BitVec.ofNat 32 x&&& BitVec.ofNat 32 (2 ^ i)=0#32:=by
   apply BitVec.eq_of_toNat_eq
   rw [BitVec.toNat_and,BitVec.toNat_ofNat,BitVec.toNat_ofNat,Nat.mod_eq_of_lt (by omega),Nat.mod_eq_of_lt (by omega)]
   show x&&& 2 ^ i=0
   apply Nat.eq_of_testBit_eq;intro j
   rw [Nat.testBit_and,Nat.testBit_two_pow,Nat.zero_testBit]
   by_cases e:i=j
   ·subst e;simp [h]
   ·simp [e]
  have:=congrArg BitVec.toNat (BitVec.add_eq_or_of_and_eq_zero _ _ hand)
  rw [BitVec.toNat_add,BitVec.toNat_or,BitVec.toNat_ofNat,BitVec.toNat_ofNat,Nat.mod_eq_of_lt (a:=x) (by omega),Nat.mod_eq_of_lt (a:=2 ^ i) (by omega),Nat.mod_eq_of_lt (by omega)] at this
  exact this
theorem akF (a b:Nat) (ha:a<64):a&&& b=0↔ ∀j,j<6→¬(a.testBit j=true∧b.testBit j=true):=by
 constructor
 ·intro h j _ ⟨h1,h2⟩
  have:=congrArg (fun n=>n.testBit j) h
  simp [h1,h2] at this
 ·intro h
  apply Nat.eq_of_testBit_eq;intro j
  rw [Nat.testBit_and,Nat.zero_testBit]
  by_cases hj:j<6
  ·have:=h j hj
   cases h1:a.testBit j<;>cases h2:b.testBit j<;>simp_all
  ·rw [Nat.testBit_lt_two_pow (Nat.lt_of_lt_of_le ha (show 2 ^ 6≤2 ^ j from Nat.pow_le_pow_right (by omega) (by omega)))];rfl
theorem xX (a k:Nat):a.testBit k=decide (a / 2 ^ k % 2=1):=Nat.testBit_eq_decide_div_mod_eq
end Go.Proofs.YtdnnkgkondkhfaaGreatDoor
namespace Go.Proofs.YtdnnkgkondkhfaaGreatDoor
open Go.ChangeShapes Go.WideShapes Go.RowKit
theorem lV (m i:Nat) (w:World) (hm:m<2 ^ 31) (hi:i<100):
 Calls Tryz.prog 156 #[.int .i64 m, .int .i64 i] w fun e w'=>e= .returned (.bool (m.testBit i))∧w=w':=by
 have HB:Hid (m.testBit i=decide (m / 2 ^ i % 2=1)):=Lib.hid Nat.testBit_eq_decide_div_mod_eq
 generalize m.testBit i=R at *
 go_enter Tryz.func156,Tryz.ntmps156
 go_wp2
 go_loop [0,5] (fun v k=>∃j n:Nat,j≤i∧n<2 ^ 31∧k= .int .i64 j∧v= .int .i64 n∧Hid (m / 2 ^ j=n)) (fun _ k=>i - (intOf k).toNat)
 case atStart=>exact ⟨0,m,by omega,hm,rfl,rfl,by simp [Hid]⟩
 case round=>
  obtain ⟨j,n,hj,hn,rfl,rfl,HN⟩:=hrel
  by_cases hlt:j<i
  ·have HX:Hid (m / 2 ^ (j+1)=n / 2):=Lib.hid (by rw [Nat.pow_succ,←Nat.div_div_eq_div_mul,HN.out])
   go_wp2
   go_round
   case rel=>exact ⟨j+1,n / 2,by omega,by omega,by go_num,by go_num,HX⟩
   case measure=>simp [intOf];omega
  ·obtain rfl:j=i:=by omega
   have HE:Hid (R=decide (n % 2=1)):=Lib.hid (by rw [HB.out,HN.out])
   go_wp2
   go_ret
   exact ⟨aX (by rw [HE.out,Bool.eq_iff_iff];simp;omega),rfl⟩
theorem Gf (w:World):Calls Tryz.prog 151 #[] w (kR w bU):=by
 go_enter Tryz.func151,Tryz.ntmps151
 go_wp2
 go_ret
 exact ⟨_,_,rfl,qw bU _ rfl (by decide) w _ rfl,(Below.refl _ _).alloc (Nat.le_refl _) _⟩
theorem Jl (w:World):Calls Tryz.prog 152 #[] w (kR w iQ):=by
 go_enter Tryz.func152,Tryz.ntmps152
 go_wp2
 go_ret
 exact ⟨_,_,rfl,qw iQ _ rfl (by decide) w _ rfl,(Below.refl _ _).alloc (Nat.le_refl _) _⟩
theorem Ep (w:World):Calls Tryz.prog 153 #[] w (kR w fU):=by
 go_enter Tryz.func153,Tryz.ntmps153
 go_wp2
 go_ret
 exact ⟨_,_,rfl,qw fU _ rfl (by decide) w _ rfl,(Below.refl _ _).alloc (Nat.le_refl _) _⟩
theorem Jk (w:World):Calls Tryz.prog 154 #[] w (kR w iP):=by
 go_enter Tryz.func154,Tryz.ntmps154
 go_wp2
 go_ret
 exact ⟨_,_,rfl,qw iP _ rfl (by decide) w _ rfl,(Below.refl _ _).alloc (Nat.le_refl _) _⟩
theorem OX (w:World):Calls Tryz.prog 233 #[] w (kR w fV):=by
 go_enter Tryz.func233,Tryz.ntmps233
 go_wp2
 go_ret
 exact ⟨_,_,rfl,qw fV _ rfl (by decide) w _ rfl,(Below.refl _ _).alloc (Nat.le_refl _) _⟩
theorem Vy (i:Nat) (hi:i<6):bD (2 ^ i)=wd aO i:=by
 have:∀i,i<6→bD (2 ^ i)=wd aO i:=by decide +kernel
 exact this i hi
theorem kE (i:Nat) (hi:i<6) (w:World):
 Calls Tryz.prog 157 #[.int .i64 i] w fun e w'=>e= .returned (.string (B (wd aO i)))∧Below w.heap.size w w':=by
 have HT:=Lib.hid (Vy i hi)
 generalize wd aO i=R at *
 go_enter Tryz.func157,Tryz.ntmps157
 go_wp2
 go_loop [3,4] (fun v k=>∃j n:Nat,j≤i∧n≤63∧k= .int .i64 j∧v= .int .i64 n∧Hid (2 ^ j=n)) (fun _ k=>i - (intOf k).toNat)
 case atStart=>exact ⟨0,1,by omega,by omega,rfl,rfl,rfl⟩
 case round=>
  obtain ⟨j,n,hj,hn,rfl,rfl,HN⟩:=hrel
  by_cases hlt:j<i
  ·have HX:Hid (2 ^ (j+1)=n * 2):=Lib.hid (by rw [Nat.pow_succ,HN.out])
   have hn2:n * 2≤63:=by
    have h1:=HX.out
    have h2:2 ^ (j+1)≤2 ^ 5:=Nat.pow_le_pow_right (by omega) (by omega)
    omega
   go_wp2
   go_round
   case rel=>exact ⟨j+1,n * 2,by omega,hn2,by go_num,by go_num,HX⟩
   case measure=>simp [intOf];omega
  ·obtain rfl:j=i:=by omega
   have HE:Hid (bD n=R):=Lib.hid (by rw [←HN.out,HT.out])
   have hpos:1≤n:=by have:=HN.out;have h2:0<2 ^ j:=Nat.pow_pos (by omega);omega
   go_wp2_with (go_at_call 227;(with_reducible refine (yM _ hpos hn _).mono ?_);rintro e w2 ⟨rfl,hb⟩)
   go_ret
   exact ⟨dV (by rw [HE.out]),hb⟩
theorem iU (m i:Nat) (w:World) (hm:m<2 ^ 31) (hi:i<31):
 Calls Tryz.prog 290 #[.int .i64 m, .int .i64 i] w fun e w'=>e= .returned (.int .i64 (dK m i:Nat))∧w=w':=by
 obtain ⟨R,hR⟩:∃R,dK m i=R:=⟨_,rfl⟩
 rw [hR]
 unfold dK at hR
 cases hb:m.testBit i
 ·rw [hb] at hR
  have HB:=Lib.hid hb
  have HR:Hid (m+2 ^ i=R):=Lib.hid hR
  clear hb hR
  go_enter Tryz.func290,Tryz.ntmps290
  go_wp2_with (go_at_call 156;(with_reducible refine (lV _ _ _ hm (by omega)).mono ?_);rw [HB.out];rintro e w1 ⟨rfl,rfl⟩)
  go_loop [5,6] (fun v k=>∃j n:Nat,j≤i∧n≤2147483648∧k= .int .i64 j∧v= .int .i64 n∧Hid (2 ^ j=n)) (fun _ k=>i - (intOf k).toNat)
  case atStart=>exact ⟨0,1,by omega,by omega,rfl,rfl,rfl⟩
  case round=>
   obtain ⟨j,n,hj,hn,rfl,rfl,HN⟩:=hrel
   by_cases hlt:j<i
   ·have HX:Hid (2 ^ (j+1)=n * 2):=Lib.hid (by rw [Nat.pow_succ,HN.out])
    have hn2:n * 2≤2147483648:=by
     have h1:=HX.out
     have h2:2 ^ (j+1)≤2 ^ 31:=Nat.pow_le_pow_right (by omega) (by omega)
     omega
    go_wp2
    go_round
    case rel=>exact ⟨j+1,n * 2,by omega,hn2,by go_num,by go_num,HX⟩
    case measure=>simp [intOf];omega
   ·obtain rfl:j=i:=by omega
    have HE:Hid (m+n=R):=Lib.hid (by rw [←HN.out,HR.out])
    go_wp2
    go_ret
    exact ⟨jg (by rw [←HE.out];omega),rfl⟩
 ·rw [hb] at hR
  have HB:=Lib.hid hb
  have HR:Hid (m=R):=Lib.hid hR
  clear hb hR
  go_enter Tryz.func290,Tryz.ntmps290
  go_wp2_with (go_at_call 156;(with_reducible refine (lV _ _ _ hm (by omega)).mono ?_);rw [HB.out];rintro e w1 ⟨rfl,rfl⟩)
  go_ret
  exact ⟨jg (by rw [HR.out]),rfl⟩
theorem acv (k n:Int) (w:World):
 Calls Tryz.prog 132 #[.agg #[.int .i64 k, .int .i64 n]] w fun e w'=>e= .returned (.bool (bnd k n))∧Below w.heap.size w w':=by
 go_enter Tryz.func132,Tryz.ntmps132
 go_wp2
 all_goals
  go_ret
  exact ⟨aX (by simp [bnd,jJ, *]<;>omega),(Below.refl _ _).alloc (Nat.le_refl _) _⟩
theorem acu (a b:Nat) (m:Int) (w:World) (h1:(a:Int)≤m) (h2:(b:Int)≤m) (h3:m≤63) (R:Bool) (HR:Hid (R=(a&&& b==0))):
 Calls Tryz.prog 130 #[.int .i64 a, .int .i64 b, .int .i64 m] w fun e w'=>e= .returned (.bool R)∧w=w':=by
 have g1:a<64:=by omega
 have g2:b<64:=by omega
 have HZ:Hid (a&&& b=0↔ ∀j,j<6→¬(a.testBit j=true∧b.testBit j=true)):=Lib.hid (akF a b g1)
 go_enter Tryz.func130,Tryz.ntmps130
 go_wp2
 go_loop [0,1,7] (fun u v k=>∃j n p:Nat,j≤6∧n<64∧p<64∧k= .int .i64 j∧u= .int .i64 n∧v= .int .i64 p∧Hid (a / 2 ^ j=n∧b / 2 ^ j=p∧∀i,i<j→¬(a.testBit i=true∧b.testBit i=true))) (fun _ _ k=>6 - (intOf k).toNat)
 case atStart=>exact ⟨0,a,b,by omega,g1,g2,rfl,rfl,rfl,Lib.hid ⟨by simp,by simp,fun i hi=>by omega⟩⟩
 case round=>
  obtain ⟨j,n,p,hj,hn,hp,rfl,rfl,rfl,HN⟩:=hrel
  by_cases hlt:j<6
  ·have hstep:¬(n % 2=1∧p % 2=1)→Hid (a / 2 ^ (j+1)=n / 2∧b / 2 ^ (j+1)=p / 2∧∀i,i<j+1→¬(a.testBit i=true∧b.testBit i=true)):=fun hh=>Lib.hid ⟨by rw [Nat.pow_succ,←Nat.div_div_eq_div_mul,HN.out.1],by rw [Nat.pow_succ,←Nat.div_div_eq_div_mul,HN.out.2.1],fun i hi=>by
    rcases Nat.lt_or_ge i j with h|h
    ·exact HN.out.2.2 i h
    ·obtain rfl:i=j:=by omega
     rw [xX,xX,HN.out.1,HN.out.2.1];simpa using hh⟩
   by_cases o1:n % 2=1
   ·have t1:((n:Int) % 2==1)=true:=by simp;omega
    by_cases o2:p % 2=1
    ·have t2:((p:Int) % 2==1)=true:=by simp;omega
     have HF:Hid (R=false):=Lib.hid (by
      rw [HR.out,beq_eq_false_iff_ne];intro h
      refine (HZ.out.1 h) j hlt ?_
      rw [xX,xX,HN.out.1,HN.out.2.1];simp [o1,o2])
     clear hstep o1 o2
     go_wp2
     go_ret
     exact ⟨aX HF.out.symm,rfl⟩
    ·have t2:((p:Int) % 2==1)=false:=by simp;omega
     have HX:=hstep (by omega)
     clear hstep o1 o2
     go_wp2
     go_round
     case rel=>exact ⟨j+1,n / 2,p / 2,by omega,by omega,by omega,by go_num,by go_num,by go_num,HX⟩
     case measure=>simp [intOf];omega
   ·have t1:((n:Int) % 2==1)=false:=by simp;omega
    have HX:=hstep (by omega)
    clear hstep o1
    go_wp2
    go_round
    case rel=>exact ⟨j+1,n / 2,p / 2,by omega,by omega,by omega,by go_num,by go_num,by go_num,HX⟩
    case measure=>simp [intOf];omega
  ·obtain rfl:j=6:=by omega
   have HT:Hid (R=true):=Lib.hid (by rw [HR.out,beq_iff_eq];exact HZ.out.2 HN.out.2.2)
   go_wp2
   go_ret
   exact ⟨aX HT.out.symm,rfl⟩
theorem OW (a b m:Int) (w:World) (h3:m≤63):
 Calls Tryz.prog 130 #[.int .i64 a, .int .i64 b, .int .i64 m] w fun e w'=>e= .returned (.bool (mF a b m))∧w=w':=by
 by_cases h:0≤a∧a≤m∧0≤b∧b≤m
 ·obtain ⟨x,rfl⟩:∃x:Nat,a=(x:Int):=⟨a.toNat,by omega⟩
  obtain ⟨y,rfl⟩:∃y:Nat,b=(y:Int):=⟨b.toNat,by omega⟩
  refine acu x y m w h.2.1 h.2.2.2 h3 _ (Lib.hid ?_)
  unfold mF jJ
  rw [LW x y (by omega) (by omega),decide_eq_true h.1,decide_eq_true h.2.1,decide_eq_true h.2.2.1,decide_eq_true h.2.2.2,Bool.eq_iff_iff]
  simp
 ·have hF:mF a b m=false:=by
   cases hh:mF a b m with
   |false=>rfl
   |true=>
    simp only [mF,jJ,Bool.and_eq_true,decide_eq_true_eq] at hh
    exact absurd ⟨hh.1.1,hh.1.2,hh.2.1.1,hh.2.1.2⟩ h
  rw [hF]
  have hc:a<0∨(0≤a∧m<a)∨(0≤a∧a≤m∧b<0)∨(0≤a∧a≤m∧0≤b∧m<b):=by omega
  clear h hF
  rcases hc with h|⟨h,h1⟩|⟨h,h1,h2⟩|⟨h,h1,h2,h4⟩
  all_goals
   go_enter Tryz.func130,Tryz.ntmps130
   go_wp2
   go_ret
   exact ⟨rfl,rfl⟩
end Go.Proofs.YtdnnkgkondkhfaaGreatDoor
namespace Go.Proofs.YtdnnkgkondkhfaaGreatDoor
def kP (T:List Str) (s:Str):Nat:=((List.range' 1 (T.length - 1)).find? fun i=>wd T i==s).getD 0
def iD (s b:Str):Option Str:=if Lib.hasPrefix s b then some (s.drop b.length) else none
def qr (w name:Str) (k:Nat):Option (Nat × Int):=((iD w (name++wd fV k)).bind rdNum).map fun n=>(k,n)
def lG (w name:Str):Nat × Int:=((List.range' 1 3).findSome? (qr w name)).getD (0,0)
def IL (m:Int) (i:Nat):Int:=((dK m.toNat i:Nat):Int)
def qR (w:Str) (f:aH) (i:Nat):aH:=
 let f:=if w=wd aO i then { f with types:=IL f.types i } else f
 if w=dD++wd aO i then { f with aV:=IL f.aV i } else f
def oW (w:Str) (f:aH) (i:Nat):aH:=
 let f:=if w=wd aY i then { f with colors:=IL f.colors i } else f
 if w=dD++wd aY i then { f with aP:=IL f.aP i } else f
def AP (w:Str) (f:aH) (i:Nat):aH:=if w=fZ++wd bK i then { f with keys:=IL f.keys i } else f
def CJ (f:aH) (w:Str):aH:=(List.range 17).foldl (AP w) ((List.range 5).foldl (oW w) ((List.range 6).foldl (qR w) f))
def ade (f:aH) (zo wh se ta:Nat) (su:Option Str) (p t v:Nat × Int):aH:=
 let f:=if 0<zo then { f with zone:=(zo:Int) } else f
 let f:=if 0<wh then { f with who:=(wh:Int) } else f
 let f:=if 0<se then { f with self:=(se:Int) } else f
 let f:=if 0<ta then { f with dJ:=(ta:Int) } else f
 let f:=match su with|some t=> { f with sub:=B t } |none=>f
 let f:=if 0<p.1 then { f with pk:=(p.1:Int),pn:=p.2 } else f
 let f:=if 0<t.1 then { f with tk:=(t.1:Int),tn:=t.2 } else f
 if 0<v.1 then { f with vk:=(v.1:Int),vn:=v.2 } else f
def iW (f:aH) (w:Str):aH:=CJ (ade f (kP bU w) (kP iQ w) (kP fU w) (kP iP w) (iD w iM) (lG w eP) (lG w fE) (lG w fH)) w
end Go.Proofs.YtdnnkgkondkhfaaGreatDoor
namespace Go.Proofs.YtdnnkgkondkhfaaGreatDoor
open Go.ChangeShapes Go.WideShapes Go.RowKit
theorem jA (i:Nat) (hi:i<5) (w:World):
 Calls Tryz.prog 158 #[.int .i64 i] w fun e w'=>e= .returned (.string (B (wd aY i)))∧w=w':=by
 rcases i with _|_|_|_|_|i
 ·go_enter Tryz.func158,Tryz.ntmps158
  go_wp2
  go_ret
  exact ⟨rfl,rfl⟩
 ·go_enter Tryz.func158,Tryz.ntmps158
  go_wp2
  go_ret
  exact ⟨rfl,rfl⟩
 ·go_enter Tryz.func158,Tryz.ntmps158
  go_wp2
  go_ret
  exact ⟨rfl,rfl⟩
 ·go_enter Tryz.func158,Tryz.ntmps158
  go_wp2
  go_ret
  exact ⟨rfl,rfl⟩
 ·go_enter Tryz.func158,Tryz.ntmps158
  go_wp2
  go_ret
  exact ⟨rfl,rfl⟩
 ·omega
theorem afa (w:World):Calls Tryz.prog 232 #[] w (kR w bK):=by
 go_enter Tryz.func232,Tryz.ntmps232
 go_wp2
 go_ret
 exact ⟨_,_,rfl,qw bK _ rfl (by decide) w _ rfl,(Below.refl _ _).alloc (Nat.le_refl _) _⟩
theorem zy {T:List Str} {i:Nat} (h:i<T.length):T[i]=wd T i:=by simp [wd,List.getD,h]
theorem BO (i:Nat) (hi:i<17) (w:World):
 Calls Tryz.prog 159 #[.int .i64 i] w fun e w'=>e= .returned (.string (B (wd bK i)))∧Below w.heap.size w w':=by
 have hi2:i<bK.length:=hi
 have HW:=Lib.hid (zy hi2)
 go_enter Tryz.func159,Tryz.ntmps159
 go_wp2_with (go_at_call 232;(with_reducible refine (afa _).mono ?_);rintro e w1 ⟨A,c,rfl,ht,hb⟩;obtain ⟨g,rfl,hg,hcl⟩:=ht.at_ hi2)
 go_ret
 exact ⟨dV (by rw [HW.out]),hb⟩
def anE (w:World) (base:Nat) (l:List Str) (e:Ending) (w':World):Prop:=∃A c,e= .returned (.slice A l.length c)∧Texts w' base l (.slice A l.length c)∧Below base w w'
theorem o7 (l:List Str) (A:Option Addr) (c base:Nat) (s:ByteArray) (sl:Str) (hs:L s=sl) (w:World) (h:Texts w base l (.slice A l.length c)) (hb:base≤w.heap.size) (hlen:l.length<1000000):
 Calls Tryz.prog 155 #[.slice A l.length c, .string s] w (anE w base (bf l sl)):=by
 subst hs
 by_cases h0:L s=[]
 ·have t0:s.toList=[]:=by rw [dZ];exact h0
  have HX:Hid (bf l (L s)=l):=Lib.hid (if_pos h0)
  clear h0
  generalize bf l (L s)=R at *
  go_enter Tryz.func155,Tryz.ntmps155
  go_wp2
  go_ret
  have e:=HX.out
  subst e
  exact ⟨A,c,rfl,h,Below.refl _ _⟩
 ·have t0:s.toList.isEmpty=false:=by rw [dZ];simpa using h0
  have t1:¬s.toList=[]:=by rw [dZ];exact h0
  have HX:Hid (bf l (L s)=l++[L s]):=Lib.hid (if_neg h0)
  have hln:l.length<1000000000:=by omega
  clear h0
  generalize bf l (L s)=R at *
  go_enter Tryz.func155,Tryz.ntmps155
  go_wp2_with (at_builtin;refine dH rfl (.tmp 8) (.tmp 10) 74 rfl Tryz.underlying74 jB rfl rfl h hln hb ?_;intro v' w2 hown2 hb2)
  go_ret
  rw [←HX.out] at hown2
  obtain ⟨A2,c2,rfl,_⟩:=hown2.form
  exact ⟨A2,c2,rfl,hown2,hb2⟩
def Ib (w w1:World) (k n g:Nat) (x:Str) (w':World):Prop:=w'.cell? ⟨g,k,none⟩=some (.string (B x))∧w'.cell? ⟨w.heap.size,0,none⟩=some (.int .i64 k)∧w'.cell? ⟨w.heap.size,1,none⟩=some (.int .i64 n)∧Below w1.heap.size w1 w'
theorem Ib.out {w w1 w':World} {k n g:Nat} {x:Str} (h:Ib w w1 k n g x w'):w'.cell? ⟨g,k,none⟩=some (.string (B x))∧w'.cell? ⟨w.heap.size,0,none⟩=some (.int .i64 k)∧w'.cell? ⟨w.heap.size,1,none⟩=some (.int .i64 n)∧Below w1.heap.size w1 w':=h
theorem Ib.below {w w1 w2 w3:World} {k n g:Nat} {x:Str} (h:Ib w w1 k n g x w2) (hb:Below w2.heap.size w2 w3):Ib w w1 k n g x w3:=⟨cell_below hb h.1,cell_below hb h.2.1,cell_below hb h.2.2.1,aaC h.2.2.2 hb⟩
theorem Ib.drew {w w1 w2:World} {k n g:Nat} {x:Str} (h:Ib w w1 k n g x w2):Ib w w1 k n g x w2.drew:=h.below (Below.refl _ _).drew
theorem sJ (name:ByteArray) (nl:Str) (hnl:L name=nl) (k n:Nat) (hk:k<4) (hn:n≤1000000) (hs:name.size≤100) (w:World):
 Calls Tryz.prog 160 #[.string name, .agg #[.int .i64 k, .int .i64 n]] w fun e w'=>e= .returned (.string (B (bH nl k n)))∧Below w.heap.size w w':=by
 subst hnl
 rcases Nat.eq_zero_or_pos k with h0|h0
 ·have HD:Hid (bH (L name) k n=[]):=if_pos h0
  have t0:=eqn k 0 (by omega)
  generalize bH (L name) k n=R at *
  clear h0
  go_enter Tryz.func160,Tryz.ntmps160
  go_wp2
  go_ret
  exact ⟨dV (by rw [HD.out];rfl),(Below.refl _ _).alloc (Nat.le_refl _) _⟩
 ·have t0:=pK k 0 (by omega)
  have hk2:k<fV.length:=hk
  have HD:Hid (bH (L name) k n=L name++fV[k]++Lib.itoa n):=Lib.hid (by rw [bH,if_neg (by omega),zy hk2])
  have hwl:(fV[k]).length≤2:=by rw [zy hk2];exact l7 (by decide) k
  have hil:=Lib.itoa_length_le n (by omega) (by omega)
  generalize bH (L name) k n=R at *
  clear h0
  go_enter Tryz.func160,Tryz.ntmps160
  go_wp2_with (go_at_call 233;(with_reducible refine (OX _).mono ?_);rintro e w1 ⟨A,c,rfl,ht,hb⟩;obtain ⟨g,rfl,hg,hcl⟩:=ht.at_ hk2;generalize fV[k]=x at *)
  have a1:∀wx:World,(Op.stringOp .add name (B x)).run Tryz.prog wx= .ok (.string (name++B x)) wx:=fun wx=>run_string_add_sum (P:=Tryz.prog) (w:=wx) _ _ (by rw [bC];omega)
  have a2:∀wx:World,(Op.stringOp .add (name++B x) (B (Lib.itoa n))).run Tryz.prog wx= .ok (.string (name++B x++B (Lib.itoa n))) wx:=fun wx=>run_string_add_sum (P:=Tryz.prog) (w:=wx) _ _ (by rw [ByteArray.size_append,bC,bC];omega)
  have hB:Ib w w1 k n g x w1:=⟨hcl,(qm hb 0).trans (by simp),(qm hb 1).trans (by simp),Below.refl _ _⟩
  go_region_held3 (fun w'=>w'.cell? ⟨g,k,none⟩=some (.string (B x))∧w'.cell? ⟨w.heap.size,0,none⟩=some (.int .i64 k)∧w'.cell? ⟨w.heap.size,1,none⟩=some (.int .i64 n)∧Below w1.heap.size w1 w') (exact Ib.out (by first|assumption|exact Ib.drew hB)) (first|(go_at_call 83;(with_reducible refine ((qo n _ (by omega) (by omega)).mono fun e w' h=>⟨h.1,hB.drew.below h.2⟩:Calls _ _ _ _ fun e w'=>e= .returned (.string (B (Lib.itoa n)))∧Ib w w1 k n g x w').mono ?_);rintro e w2 ⟨rfl,hB2⟩))
  go_wp2
  go_ret
  exact ⟨dV (lC (by simp [nO,HD.out])),aaC (aaC ((Below.refl _ _).alloc (Nat.le_refl _) _) hb) hB2.2.2.2⟩
theorem qg (T:List Str) (A:Option Addr) (c base:Nat) (s:ByteArray) (w:World) (h:Texts w base T (.slice A T.length c)) (hT:T.length<1000000) (h1:1≤T.length):
 Calls Tryz.prog 244 #[.slice A T.length c, .string s] w fun e w'=>e= .returned (.int .i64 (kP T (L s):Nat))∧w=w':=by
 obtain ⟨R,hR⟩:∃R,kP T (L s)=R:=⟨_,rfl⟩
 rw [hR]
 have HR:Hid (((List.range' 1 (T.length - 1)).find? fun i=>wd T i==L s).getD 0=R):=Lib.hid hR
 clear hR
 go_enter Tryz.func244,Tryz.ntmps244
 go_wp2
 go_loop [5] (fun i=>∃k:Nat,1≤k∧k≤T.length∧i= .int .i64 k∧Hid (((List.range' k (T.length - k)).find? fun i=>wd T i==L s).getD 0=R)) (fun i=>T.length - (intOf i).toNat)
 case atStart=>exact ⟨1,by omega,by omega,rfl,HR⟩
 case round=>
  obtain ⟨k,hk1,hk,rfl,HD⟩:=hrel
  by_cases hlt:k<T.length
  ·obtain ⟨g,rfl,hg,hcl⟩:=h.at_ hlt
   have hst:=HD.out
   rw [show T.length - k=(T.length - (k+1))+1 by omega,List.range'_succ,List.find?_cons,←zy hlt] at hst
   have hbe:=beq_toList T[k] s
   rw [Fz] at hbe
   cases hc:(T[k]==L s)
   ·rw [hc] at hst hbe
    have HN:Hid (((List.range' (k+1) (T.length - (k+1))).find? fun i=>wd T i==L s).getD 0=R):=Lib.hid hst
    clear hst hc
    generalize T[k]=x at *
    go_wp2
    go_round
    case rel=>exact ⟨k+1,by omega,by omega,by go_num,HN⟩
    case measure=>simp [intOf];omega
   ·rw [hc] at hst hbe
    have HN:Hid (k=R):=Lib.hid hst
    clear hst hc
    generalize T[k]=x at *
    go_wp2
    go_ret
    exact ⟨jg (by rw [HN.out]),rfl⟩
  ·obtain rfl:k=T.length:=by omega
   have HE:Hid (0=R):=Lib.hid (by rw [←HD.out,Nat.sub_self];rfl)
   go_wp2
   go_ret
   exact ⟨jg (by rw [←HE.out];rfl),rfl⟩
def ad2 (o:Option Str):Value:=match o with|some r=> .tuple #[.string (B r), .bool true]|none=> .tuple #[.string ⟨#[]⟩, .bool false]
theorem Ur (s b:ByteArray):iD (L s) (L b)=if (decide (b.size≤s.size)&&((s.extract 0 b.size).toList==b.toList))=true then some ((L s).drop b.size) else none:=by
 unfold iD;rw [Lib.hasPrefix_raw,dN];rfl
theorem F9 (s b:ByteArray) (w:World) (hs:s.size<1000000000) (hb:b.size<1000000000):
 Calls Tryz.prog 245 #[.string s, .string b] w fun e w'=>e= .returned (ad2 (iD (L s) (L b)))∧w=w':=by
 have hq:=Ur s b
 generalize iD (L s) (L b)=R at *
 by_cases h1:b.size≤s.size
 ·rw [decide_eq_true h1,Bool.true_and] at hq
  have h1':¬s.size<b.size:=by omega
  cases h2:((s.extract 0 b.size).toList==b.toList)
  ·rw [h2] at hq
   have HQ:Hid (R=none):=Lib.hid hq
   have t2:(!(s.extract 0 b.size).toList==b.toList)=true:=by rw [h2];rfl
   clear hq
   go_enter Tryz.func245,Tryz.ntmps245
   go_wp2
   go_ret2
   exact ⟨ret_val (by rw [HQ.out];rfl),rfl⟩
  ·rw [h2] at hq
   have HQ:Hid (R=some ((L s).drop b.size)):=Lib.hid hq
   have t2:(!(s.extract 0 b.size).toList==b.toList)=false:=by rw [h2];rfl
   have HX:Hid (s.extract b.size s.size=B ((L s).drop b.size)):=Lib.hid (lC (by rw [dM,cO,List.take_of_length_le (by rw [dN];exact Nat.le_refl _)]))
   clear hq
   go_enter Tryz.func245,Tryz.ntmps245
   go_wp2
   go_ret2
   exact ⟨ret_val (by rw [HQ.out,HX.out];rfl),rfl⟩
 ·have HQ:Hid (R=none):=Lib.hid (by rw [hq,decide_eq_false h1];rfl)
  have h1':s.size<b.size:=by omega
  clear hq
  go_enter Tryz.func245,Tryz.ntmps245
  go_wp2
  go_ret2
  exact ⟨ret_val (by rw [HQ.out];rfl),rfl⟩
abbrev TB:Nat:=24
theorem Pg:(Tryz.prog.info? TB).map (·.size)=some 2:=by kernel_rfl
theorem Zr (s b:ByteArray) (w:World) (hs:s.size<1000000000) (hb:b.size<1000000000) (h:iD (L s) (L b)=none):
 Calls Tryz.prog 245 #[.string s, .string b] w fun e w'=>e= .returned (.tuple #[.string ⟨#[]⟩, .bool false])∧w=w':=
 (F9 s b w hs hb).mono fun e w' h'=>⟨by rw [h'.1,h];rfl,h'.2⟩
theorem LP (s b:ByteArray) (r:Str) (w:World) (hs:s.size<1000000000) (hb:b.size<1000000000) (h:iD (L s) (L b)=some r):
 Calls Tryz.prog 245 #[.string s, .string b] w fun e w'=>e= .returned (.tuple #[.string (B r), .bool true])∧w=w':=
 (F9 s b w hs hb).mono fun e w' h'=>⟨by rw [h'.1,h];rfl,h'.2⟩
theorem J3 (s:ByteArray) (w:World) (hs:s.size<100000000) (h:rdNum (L s)=none):
 Calls Tryz.prog 202 #[.string s] w fun e w'=>e= .returned (.tuple #[.int .i64 0, .bool false])∧Below w.heap.size w w':=
 (zl s w hs).mono fun e w' h'=>⟨by rw [h'.1,h];rfl,h'.2⟩
theorem Yt (s:ByteArray) (n:Int) (w:World) (hs:s.size<100000000) (h:rdNum (L s)=some n):
 Calls Tryz.prog 202 #[.string s] w fun e w'=>e= .returned (.tuple #[.int .i64 n, .bool true])∧Below w.heap.size w w':=
 (zl s w hs).mono fun e w' h'=>⟨by rw [h'.1,h];rfl,h'.2⟩
def Bz (k n:Int):Array Value:=#[.int .i64 k, .int .i64 n]
def anF (w:World) (x:Nat × Int) (e:Ending) (w':World):Prop:=e= .returned (.agg (Bz (x.1:Nat) x.2))∧Below w.heap.size w w'
theorem Ov (k n:Int):(Bz k n).all (·.oneCell')=true:=by simp [Bz,Value.oneCell']
theorem ada {s b r:Str} (h:iD s b=some r):r.length≤s.length:=by
 unfold iD at h;split at h
 ·injection h with h;rw [←h];simp
 ·cases h
theorem aiD {w w2:World} {o:Obj} (hb:Below (w.alloc o).heap.size (w.alloc o) w2):w2.heap[w.heap.size]? =some o:=(hb.block _ (by simp)).trans (heap_alloc_new w o)
theorem afb (s name:ByteArray) (nl:Str) (hnl:L name=nl) (hs:s.size<100000000) (hn:name.size≤100) (w:World):
 Calls Tryz.prog 246 #[.string s, .string name] w (anF w (lG (L s) nl)):=by
 subst hnl
 obtain ⟨R,hR⟩:∃R,lG (L s) (L name)=R:=⟨_,rfl⟩
 rw [hR]
 have HR:Hid (((List.range' 1 (4 - 1)).findSome? (qr (L s) (L name))).getD (0,0)=R):=Lib.hid hR
 clear hR
 go_enter Tryz.func246,Tryz.ntmps246
 go_wp2_with (go_at_call 233;(with_reducible refine (OX _).mono ?_);rintro e w1 ⟨A,c,rfl,ht,hb1⟩)
 obtain ⟨g,rfl,_,hg,hc⟩:=JM ht (k:=0) (by decide)
 have HC:=Lib.hid hc
 have hr1:=Lib.hid (aiD hb1)
 have hB1:Hid (Below w.heap.size w w1):=Lib.hid (aaC ((Below.refl _ _).alloc (Nat.le_refl _) _) hb1)
 have hlt1:w.heap.size<w1.heap.size:=by have:=hb1.size;simp at this;omega
 clear hc hb1 ht
 have hsl:fV.length=4:=rfl
 have hs4:fV.length≤4:=by decide
 have HSL:=Lib.hid hsl;clear hsl
 go_loopw [6] (fun i wr=>∃k:Nat,1≤k∧k≤fV.length∧i= .int .i64 k∧Below w1.heap.size w1 wr∧Hid (((List.range' k (4 - k)).findSome? (qr (L s) (L name))).getD (0,0)=R)) (fun i _=>fV.length - (intOf i).toNat)
 case atStart=>exact ⟨1,by omega,by decide,rfl,Below.refl _ _,HR⟩
 case round=>
  obtain ⟨k,hk1,hk,rfl,hq,HK⟩:=hrel
  have hrr:Hid (wr.heap[w.heap.size]? =some (.cells #[.int .i64 0, .int .i64 0] TB (0,0))):=Lib.hid ((hq.block _ hlt1).trans hr1.out)
  have hBr:Hid (Below w.heap.size w wr):=Lib.hid (hB1.out.trans (hq.mono (by omega)))
  have hwr:=Nat.lt_of_lt_of_le hlt1 hq.size
  by_cases hlt:k<fV.length
  ·have hcl:wr.cell? ⟨g,k,none⟩=some (.string (B fV[k])):=(hq.cell (p:=⟨g,k,none⟩) hg).trans ((HC.out k hlt).trans (sO hlt))
   have hst:((qr (L s) (L name) k).orElse fun _=>(List.range' (k+1) (4 - (k+1))).findSome? (qr (L s) (L name))).getD (0,0)=R:=by
    have:=HK.out
    rw [show 4 - k=(4 - (k+1))+1 by rw [HSL.out] at hlt;omega,List.range'_succ,List.findSome?_cons] at this
    cases hq:qr (L s) (L name) k with
    |none=>rw [hq] at this;exact this
    |some x=>rw [hq] at this;exact this
   have hqr:qr (L s) (L name) k=((iD (L s) (L (name++B fV[k]))).bind rdNum).map fun n=>(k,n):=by
    unfold qr;rw [nO,cO,zy hlt]
   have hxl:fV[k].length≤2:=by rw [zy hlt];exact l7 (by decide) k
   generalize fV[k]=x at *
   have b1:name.size+(B x).size≤9223372036854775807:=by rw [bC];omega
   have hbn:(name++B x).size<1000000000:=by rw [ByteArray.size_append,bC];omega
   have HBN:=Lib.hid hbn
   clear hbn
   cases ha:iD (L s) (L (name++B x)) with
   |none=>
    rw [ha] at hqr
    rw [hqr] at hst
    have HA:=Lib.hid ha
    have HN:Hid (((List.range' (k+1) (4 - (k+1))).findSome? (qr (L s) (L name))).getD (0,0)=R):=Lib.hid hst
    clear ha hqr hst
    go_wp2_with (first|(go_at_call 245;(with_reducible refine (Zr _ _ _ (by omega) HBN.out HA.out).mono ?_);rintro e w2 ⟨rfl,rfl⟩)|(go_at_call 202;(with_reducible refine (J3 _ _ (by decide) rfl).mono ?_);rintro e w3 ⟨rfl,hb3⟩))
    have hq3:=aaC hq hb3
    go_roundw
    case rel=>exact ⟨k+1,by omega,by omega,by go_num,hq3,HN⟩
    case measure=>simp [intOf];omega
   |some r=>
    have hrl:r.length<100000000:=by have:=ada ha;rw [dN] at this;omega
    rw [ha] at hqr
    have HA:=Lib.hid ha
    cases hm:rdNum r with
    |none=>
     have Xb:qr (L s) (L name) k=none:=by rw [hqr];simp [hm]
     rw [Xb] at hst
     have HM:Hid (rdNum (L (B r))=none):=Lib.hid hm
     have HN:Hid (((List.range' (k+1) (4 - (k+1))).findSome? (qr (L s) (L name))).getD (0,0)=R):=Lib.hid hst
     have HRL:Hid ((B r).size<100000000):=Lib.hid (by rw [bC];exact hrl)
     clear ha hqr hst Xb hm
     go_wp2_with (first|(go_at_call 245;(with_reducible refine (LP _ _ r _ (by omega) HBN.out HA.out).mono ?_);rintro e w2 ⟨rfl,rfl⟩)|(go_at_call 202;(with_reducible refine (J3 _ _ HRL.out HM.out).mono ?_);rintro e w3 ⟨rfl,hb3⟩))
     have hq3:=aaC hq hb3
     go_roundw
     case rel=>exact ⟨k+1,by omega,by omega,by go_num,hq3,HN⟩
     case measure=>simp [intOf];omega
    |some n=>
     have Xb:qr (L s) (L name) k=some (k,n):=by rw [hqr];simp [hm]
     rw [Xb] at hst
     have HM:Hid (rdNum (L (B r))=some n):=Lib.hid hm
     have HN:Hid ((k,n)=R):=Lib.hid hst
     have HRL:Hid ((B r).size<100000000):=Lib.hid (by rw [bC];exact hrl)
     clear ha hqr hst Xb hm
     go_wp2_with (first|(go_at_call 245;(with_reducible refine (LP _ _ r _ (by omega) HBN.out HA.out).mono ?_);rintro e w2 ⟨rfl,rfl⟩)|(go_at_call 202;(with_reducible refine (Yt _ n _ HRL.out HM.out).mono ?_);rintro e w3 ⟨rfl,hb3⟩;have hr3:=Lib.hid ((hb3.block _ hwr).trans hrr.out))|refine wpList_store_row rfl TB (.tmp 4) (.tmp 40) rfl w.heap.size (Bz k n) rfl rfl TB #[.int .i64 0, .int .i64 0] hr3 Pg rfl (Ov _ _) ?_)
     refine bodyPost_ret (results_cell_row rfl _ _ w.heap.size TB (Bz k n) (0,0) _ rfl (oV hr3) Tryz.underlying24 rfl Pg) rfl ⟨?_,below_setRow (aaC hBr.out hb3) (Nat.le_refl _) _⟩
     rw [←HN.out]
  ·have hk4:k=4:=by have:=HSL.out;omega
   have HE:Hid ((0,0)=R):=Lib.hid (by rw [←HK.out,hk4];rfl)
   clear hk4
   go_wp2_with (refine wpList_store_row rfl TB (.tmp 4) (.tmp 41) rfl w.heap.size (Bz 0 0) rfl rfl TB #[.int .i64 0, .int .i64 0] hrr Pg rfl (Ov _ _) ?_)
   refine bodyPost_ret (results_cell_row rfl _ _ w.heap.size TB (Bz 0 0) (0,0) _ rfl (oV hrr) Tryz.underlying24 rfl Pg) rfl ⟨?_,below_setRow hBr.out (Nat.le_refl _) _⟩
   rw [←HE.out];rfl
def RB (w:World) (g:Nat) (f:aH):Prop:=w.heap[g]? =some (.cells f.cells TF (0,0))
theorem RB.lt {w:World} {g:Nat} {f:aH} (h:RB w g f):g<w.heap.size:=(Array.getElem?_eq_some_iff.1 h).1
theorem RB.cell {w:World} {g:Nat} {f:aH} (h:RB w g f) (j:Nat):w.cell? ⟨g,j,none⟩=f.cells[j]? :=cell_of_row w g j f.cells TF (0,0) h
theorem RB.free {w:World} {g:Nat} {f:aH} (h:RB w g f) (j:Nat):w.frozen? ⟨g,j,none⟩=false:=by unfold RB at h;simp [World.frozen?,h]
theorem RB.fO {w:World} {g:Nat} {f f':aH} (h:RB w g f) (j:Nat) (u:Value) (hf:f.cells.setIfInBounds j u=f'.cells):RB (w.setCell ⟨g,j,none⟩ u) g f':=by
 unfold RB at *
 rw [←hf];simp [World.setCell,Array.getElem?_modify,h]
theorem RB.below {w w':World} {g:Nat} {f:aH} (h:RB w g f) (hb:Below w.heap.size w w'):RB w' g f:=(hb.block g h.lt).trans h
def fM (f:aH) (a b c d e:Nat):aH:= { f with types:=(a:Int),aV:=(b:Int),colors:=(c:Int),aP:=(d:Int),keys:=(e:Int) }
theorem CG {m i:Nat} (hm:m<2 ^ 17) (hi:i<17):dK m i<2 ^ 17:=by
 rw [yL (Nat.lt_of_lt_of_le hm (by decide)) (by omega)]
 exact Nat.or_lt_two_pow hm (Nat.pow_lt_pow_right (by omega) hi)
theorem vN {α:Type} (st:α→Nat→α) (f:α) (k:Nat):(List.range (k+1)).foldl st f=st ((List.range k).foldl st f) k:=by
 rw [List.range_succ,List.foldl_append];rfl
theorem sF (s:ByteArray) (p:ByteArray) (pl x:Str) (hp:L p=pl):(s.toList==(p++B x).toList)=decide (L s=pl++x):=by
 subst hp;rw [dZ,dZ,nO,cO,Bool.eq_iff_iff];simp
theorem VD (s:ByteArray) (x:Str):(s.toList==x)=decide (L s=x):=by rw [dZ,Bool.eq_iff_iff];simp
def VU (f:aH) (w:World) (Q:aH) (e:Ending) (w':World):Prop:=e= .returned (.agg Q.cells)∧Below w.heap.size w w'∧∃a2 b2 c2 d2 e2,Q=fM f a2 b2 c2 d2 e2∧a2<2 ^ 17∧b2<2 ^ 17∧c2<2 ^ 17∧d2<2 ^ 17∧e2<2 ^ 17
theorem acw (s:ByteArray) (f:aH) (a b c d e:Nat) (ha:a<2 ^ 17) (hb:b<2 ^ 17) (hc:c<2 ^ 17) (hd:d<2 ^ 17) (he:e<2 ^ 17) (hs:s.size<100000000) (w:World):
 Calls Tryz.prog 247 #[.agg (fM f a b c d e).cells, .string s] w (VU f w (CJ (fM f a b c d e) (L s))):=by
 have W0:RB ((w.alloc (.cells (fM f a b c d e).cells TF)).alloc (.cells aaB.cells TF)) w.heap.size (fM f a b c d e):=by
  unfold RB;rw [Below.heap_alloc _ _ _ (by simp)];exact heap_alloc_new w _
 have HZ:Hid (((w.alloc (.cells (fM f a b c d e).cells TF)).alloc (.cells aaB.cells TF)).heap[w.heap.size+1]? =some (.cells aaB.cells TF (0,0))∧w.heap.size+1<((w.alloc (.cells (fM f a b c d e).cells TF)).alloc (.cells aaB.cells TF)).heap.size):=Lib.hid ⟨by have:=heap_alloc_new (w.alloc (.cells (fM f a b c d e).cells TF)) (.cells aaB.cells TF);simpa using this,by simp⟩
 have HB1:Hid (Below w.heap.size w ((w.alloc (.cells (fM f a b c d e).cells TF)).alloc (.cells aaB.cells TF))):=Lib.hid (((Below.refl _ _).alloc (Nat.le_refl _) _).alloc (by simp) _)
 have HW:=Lib.hid W0
 clear W0
 obtain ⟨Q,hQ⟩:∃q,CJ (fM f a b c d e) (L s)=q:=⟨_,rfl⟩
 rw [hQ]
 have HQ:=Lib.hid hQ
 clear hQ
 go_enter Tryz.func247,Tryz.ntmps247
 go_wp2_with fail
 have R0:=HW.out
 obtain ⟨W1,hW1⟩:∃W,(w.alloc (.cells (fM f a b c d e).cells TF)).alloc (.cells aaB.cells TF)=W:=⟨_,rfl⟩
 rw [hW1] at R0 HZ HB1
 change Code.wp _ _ _ _ ((w.alloc (.cells (fM f a b c d e).cells TF)).alloc (.cells aaB.cells TF))
 rw [hW1]
 have F0:Fr w.heap.size w.heap.size W1 W1:=Fr.refl _ _ _
 clear hW1 HW
 go_loopw [5] (fun i wr=>∃k x y:Nat,k≤6∧x<2 ^ 17∧y<2 ^ 17∧i= .int .i64 k∧RB wr w.heap.size (fM f x y c d e)∧Fr w.heap.size w.heap.size W1 wr∧Hid ((List.range k).foldl (qR (L s)) (fM f a b c d e)=fM f x y c d e)) (fun i _=>6 - (intOf i).toNat)
 case atStart=>exact ⟨0,a,b,by omega,ha,hb,rfl,R0,F0,rfl⟩
 case round=>
  clear R0 F0
  obtain ⟨k,x,y,hk,hx,hy,rfl,R1,F1,HK⟩:=hrel
  have hgw:=R1.lt
  have hgl:=Nat.le_of_lt hgw
  by_cases hlt:k<6
  ·have hst:(List.range (k+1)).foldl (qR (L s)) (fM f a b c d e)=qR (L s) (fM f x y c d e) k:=by rw [vN,HK.out]
   have hxl:=l7 (T:=aO) (K:=20) (by decide) k
   have qx:=CG (i:=k) hx (by omega)
   have hx31:x<2 ^ 31:=Nat.lt_of_lt_of_le hx (by decide)
   have qy:=CG (i:=k) hy (by omega)
   have hy31:y<2 ^ 31:=Nat.lt_of_lt_of_le hy (by decide)
   have hpx:(⟨#[110,111,110,45]⟩:ByteArray).size+(B (wd aO k)).size≤9223372036854775807:=by rw [bC];show 4+_≤_;omega
   by_cases hX:L s=wd aO k
   ·have t1:(s.toList==wd aO k)=true:=by rw [VD];exact decide_eq_true hX
    have HX:=Lib.hid hX;clear hX
    by_cases hY:L s=dD++wd aO k
    ·have t2:(s.toList==(⟨#[110,111,110,45]⟩++B (wd aO k)).toList)=true:=by rw [sF s _ dD _ rfl];exact decide_eq_true hY
     have HN:Hid ((List.range (k+1)).foldl (qR (L s)) (fM f a b c d e)=fM f (dK x k) (dK y k) c d e):=Lib.hid (by rw [hst];simp only [qR,if_pos HX.out,if_pos hY];try rfl)
     clear hst hY
     go_wp2_with fail
     refine (kE k hlt _).mono ?_
     rintro e0 w2 ⟨rfl,hb2⟩
     have R2:=R1.below hb2
     have F2:=F1.trans (Fr.of hb2 hgl)
     have cA:World.cell? _ ⟨w.heap.size,3,none⟩=some (.int .i64 ((x:Nat):Int)):=R2.cell 3
     have zA:=R2.free 3
     dsimp only
     go_wp2_with (go_at_call 290;(with_reducible refine (iU x k _ hx31 (by omega)).mono ?_);rintro e0 wm ⟨rfl,rfl⟩)
     have R3:=R2.fO 3 (.int .i64 ((dK x k:Nat):Int)) (f':=fM f (dK x k) y c d e) rfl
     have F3:=F2.setCell (o:=3) (Nat.le_refl _) (.int .i64 ((dK x k:Nat):Int))
     have hg3:=Nat.le_of_lt R3.lt
     refine (kE k hlt _).mono ?_
     rintro e0 w4 ⟨rfl,hb4⟩
     have R4:=R3.below hb4
     have F4:=F3.trans (Fr.of hb4 hg3)
     clear cA zA
     have cB:World.cell? _ ⟨w.heap.size,4,none⟩=some (.int .i64 ((y:Nat):Int)):=R4.cell 4
     have zB:=R4.free 4
     dsimp only
     go_wp2_with (go_at_call 290;(with_reducible refine (iU y k _ hy31 (by omega)).mono ?_);rintro e0 wm ⟨rfl,rfl⟩)
     have R5:=R4.fO 4 (.int .i64 ((dK y k:Nat):Int)) (f':=fM f (dK x k) (dK y k) c d e) rfl
     have F5:=F4.setCell (o:=4) (Nat.le_refl _) (.int .i64 ((dK y k:Nat):Int))
     clear cB zB R4 F4
     go_roundw
     case rel=>exact ⟨k+1,dK x k,dK y k,by omega,qx,qy,by go_num,R5,F5,HN⟩
     case measure=>simp [intOf];omega
    ·have t2:(s.toList==(⟨#[110,111,110,45]⟩++B (wd aO k)).toList)=false:=by rw [sF s _ dD _ rfl];exact decide_eq_false hY
     have HN:Hid ((List.range (k+1)).foldl (qR (L s)) (fM f a b c d e)=fM f (dK x k) y c d e):=Lib.hid (by rw [hst];simp only [qR,if_pos HX.out,if_neg hY];try rfl)
     clear hst hY
     go_wp2_with fail
     refine (kE k hlt _).mono ?_
     rintro e0 w2 ⟨rfl,hb2⟩
     have R2:=R1.below hb2
     have F2:=F1.trans (Fr.of hb2 hgl)
     have cA:World.cell? _ ⟨w.heap.size,3,none⟩=some (.int .i64 ((x:Nat):Int)):=R2.cell 3
     have zA:=R2.free 3
     dsimp only
     go_wp2_with (go_at_call 290;(with_reducible refine (iU x k _ hx31 (by omega)).mono ?_);rintro e0 wm ⟨rfl,rfl⟩)
     have R3:=R2.fO 3 (.int .i64 ((dK x k:Nat):Int)) (f':=fM f (dK x k) y c d e) rfl
     have F3:=F2.setCell (o:=3) (Nat.le_refl _) (.int .i64 ((dK x k:Nat):Int))
     have hg3:=Nat.le_of_lt R3.lt
     refine (kE k hlt _).mono ?_
     rintro e0 w4 ⟨rfl,hb4⟩
     have R4:=R3.below hb4
     have F4:=F3.trans (Fr.of hb4 hg3)
     clear cA zA
     have cB:World.cell? _ ⟨w.heap.size,4,none⟩=some (.int .i64 ((y:Nat):Int)):=R4.cell 4
     have zB:=R4.free 4
     dsimp only
     go_wp2_with (go_at_call 290;(with_reducible refine (iU y k _ hy31 (by omega)).mono ?_);rintro e0 wm ⟨rfl,rfl⟩)
     have R5:=R4
     have F5:=F4
     clear cB zB R4 F4
     go_roundw
     case rel=>exact ⟨k+1,dK x k,y,by omega,qx,hy,by go_num,R5,F5,HN⟩
     case measure=>simp [intOf];omega
   ·have t1:(s.toList==wd aO k)=false:=by rw [VD];exact decide_eq_false hX
    have HX:=Lib.hid hX;clear hX
    by_cases hY:L s=dD++wd aO k
    ·have t2:(s.toList==(⟨#[110,111,110,45]⟩++B (wd aO k)).toList)=true:=by rw [sF s _ dD _ rfl];exact decide_eq_true hY
     have HN:Hid ((List.range (k+1)).foldl (qR (L s)) (fM f a b c d e)=fM f x (dK y k) c d e):=Lib.hid (by rw [hst];simp only [qR,if_neg HX.out,if_pos hY];try rfl)
     clear hst hY
     go_wp2_with fail
     refine (kE k hlt _).mono ?_
     rintro e0 w2 ⟨rfl,hb2⟩
     have R2:=R1.below hb2
     have F2:=F1.trans (Fr.of hb2 hgl)
     have cA:World.cell? _ ⟨w.heap.size,3,none⟩=some (.int .i64 ((x:Nat):Int)):=R2.cell 3
     have zA:=R2.free 3
     dsimp only
     go_wp2_with (go_at_call 290;(with_reducible refine (iU x k _ hx31 (by omega)).mono ?_);rintro e0 wm ⟨rfl,rfl⟩)
     have hg3:=Nat.le_of_lt R2.lt
     refine (kE k hlt _).mono ?_
     rintro e0 w4 ⟨rfl,hb4⟩
     have R4:=R2.below hb4
     have F4:=F2.trans (Fr.of hb4 hg3)
     clear cA zA
     have cB:World.cell? _ ⟨w.heap.size,4,none⟩=some (.int .i64 ((y:Nat):Int)):=R4.cell 4
     have zB:=R4.free 4
     dsimp only
     go_wp2_with (go_at_call 290;(with_reducible refine (iU y k _ hy31 (by omega)).mono ?_);rintro e0 wm ⟨rfl,rfl⟩)
     have R5:=R4.fO 4 (.int .i64 ((dK y k:Nat):Int)) (f':=fM f x (dK y k) c d e) rfl
     have F5:=F4.setCell (o:=4) (Nat.le_refl _) (.int .i64 ((dK y k:Nat):Int))
     clear cB zB R4 F4
     go_roundw
     case rel=>exact ⟨k+1,x,dK y k,by omega,hx,qy,by go_num,R5,F5,HN⟩
     case measure=>simp [intOf];omega
    ·have t2:(s.toList==(⟨#[110,111,110,45]⟩++B (wd aO k)).toList)=false:=by rw [sF s _ dD _ rfl];exact decide_eq_false hY
     have HN:Hid ((List.range (k+1)).foldl (qR (L s)) (fM f a b c d e)=fM f x y c d e):=Lib.hid (by rw [hst];simp only [qR,if_neg HX.out,if_neg hY];try rfl)
     clear hst hY
     go_wp2_with fail
     refine (kE k hlt _).mono ?_
     rintro e0 w2 ⟨rfl,hb2⟩
     have R2:=R1.below hb2
     have F2:=F1.trans (Fr.of hb2 hgl)
     have cA:World.cell? _ ⟨w.heap.size,3,none⟩=some (.int .i64 ((x:Nat):Int)):=R2.cell 3
     have zA:=R2.free 3
     dsimp only
     go_wp2_with (go_at_call 290;(with_reducible refine (iU x k _ hx31 (by omega)).mono ?_);rintro e0 wm ⟨rfl,rfl⟩)
     have hg3:=Nat.le_of_lt R2.lt
     refine (kE k hlt _).mono ?_
     rintro e0 w4 ⟨rfl,hb4⟩
     have R4:=R2.below hb4
     have F4:=F2.trans (Fr.of hb4 hg3)
     clear cA zA
     have cB:World.cell? _ ⟨w.heap.size,4,none⟩=some (.int .i64 ((y:Nat):Int)):=R4.cell 4
     have zB:=R4.free 4
     dsimp only
     go_wp2_with (go_at_call 290;(with_reducible refine (iU y k _ hy31 (by omega)).mono ?_);rintro e0 wm ⟨rfl,rfl⟩)
     have R5:=R4
     have F5:=F4
     clear cB zB R4 F4
     go_roundw
     case rel=>exact ⟨k+1,x,y,by omega,hx,hy,by go_num,R5,F5,HN⟩
     case measure=>simp [intOf];omega
  ·have VP:Hid (k=6):=Lib.hid (by omega)
   have VO:Hid ((List.range 6).foldl (qR (L s)) (fM f a b c d e)=fM f x y c d e):=Lib.hid (by rw [←VP.out];exact HK.out)
   have R0:=R1;have F0:=F1
   have ha2:=hx;have hb2:=hy
   clear R1 F1 HK VP hx hy hgl hgw ha hb
   obtain ⟨a1,ea⟩:∃z,x=z:=⟨_,rfl⟩
   obtain ⟨b1,eb⟩:∃z,y=z:=⟨_,rfl⟩
   subst ea;subst eb
   go_wp2_with fail
   go_loopw [6] (fun i wr=>∃k u v:Nat,k≤5∧u<2 ^ 17∧v<2 ^ 17∧i= .int .i64 k∧RB wr w.heap.size (fM f x y u v e)∧Fr w.heap.size w.heap.size W1 wr∧Hid ((List.range k).foldl (oW (L s)) (fM f x y c d e)=fM f x y u v e)) (fun i _=>5 - (intOf i).toNat)
   case atStart=>exact ⟨0,c,d,by omega,hc,hd,rfl,R0,F0,rfl⟩
   case round=>
    clear R0 F0
    obtain ⟨k,u,v,hk,hx,hy,rfl,R1,F1,HK⟩:=hrel
    have hgw:=R1.lt
    have hgl:=Nat.le_of_lt hgw
    by_cases hlt:k<5
    ·have hst:(List.range (k+1)).foldl (oW (L s)) (fM f x y c d e)=oW (L s) (fM f x y u v e) k:=by rw [vN,HK.out]
     have hxl:=l7 (T:=aY) (K:=20) (by decide) k
     have qx:=CG (i:=k) hx (by omega)
     have hx31:u<2 ^ 31:=Nat.lt_of_lt_of_le hx (by decide)
     have qy:=CG (i:=k) hy (by omega)
     have hy31:v<2 ^ 31:=Nat.lt_of_lt_of_le hy (by decide)
     have hpx:(⟨#[110,111,110,45]⟩:ByteArray).size+(B (wd aY k)).size≤9223372036854775807:=by rw [bC];show 4+_≤_;omega
     by_cases hX:L s=wd aY k
     ·have t1:(s.toList==wd aY k)=true:=by rw [VD];exact decide_eq_true hX
      have HX:=Lib.hid hX;clear hX
      by_cases hY:L s=dD++wd aY k
      ·have t2:(s.toList==(⟨#[110,111,110,45]⟩++B (wd aY k)).toList)=true:=by rw [sF s _ dD _ rfl];exact decide_eq_true hY
       have HN:Hid ((List.range (k+1)).foldl (oW (L s)) (fM f x y c d e)=fM f x y (dK u k) (dK v k) e):=Lib.hid (by rw [hst];simp only [oW,if_pos HX.out,if_pos hY];try rfl)
       clear hst hY
       go_wp2_with fail
       refine (jA k hlt _).mono ?_
       rintro e0 w2 ⟨rfl,rfl⟩
       have R2:=R1
       have F2:=F1
       have cA:World.cell? _ ⟨w.heap.size,5,none⟩=some (.int .i64 ((u:Nat):Int)):=R2.cell 5
       have zA:=R2.free 5
       dsimp only
       go_wp2_with (go_at_call 290;(with_reducible refine (iU u k _ hx31 (by omega)).mono ?_);rintro e0 wm ⟨rfl,rfl⟩)
       have R3:=R2.fO 5 (.int .i64 ((dK u k:Nat):Int)) (f':=fM f x y (dK u k) v e) rfl
       have F3:=F2.setCell (o:=5) (Nat.le_refl _) (.int .i64 ((dK u k:Nat):Int))
       have hg3:=Nat.le_of_lt R3.lt
       refine (jA k hlt _).mono ?_
       rintro e0 w4 ⟨rfl,rfl⟩
       have R4:=R3
       have F4:=F3
       clear cA zA
       have cB:World.cell? _ ⟨w.heap.size,6,none⟩=some (.int .i64 ((v:Nat):Int)):=R4.cell 6
       have zB:=R4.free 6
       dsimp only
       go_wp2_with (go_at_call 290;(with_reducible refine (iU v k _ hy31 (by omega)).mono ?_);rintro e0 wm ⟨rfl,rfl⟩)
       have R5:=R4.fO 6 (.int .i64 ((dK v k:Nat):Int)) (f':=fM f x y (dK u k) (dK v k) e) rfl
       have F5:=F4.setCell (o:=6) (Nat.le_refl _) (.int .i64 ((dK v k:Nat):Int))
       clear cB zB R4 F4
       go_roundw
       case rel=>exact ⟨k+1,dK u k,dK v k,by omega,qx,qy,by go_num,R5,F5,HN⟩
       case measure=>simp [intOf];omega
      ·have t2:(s.toList==(⟨#[110,111,110,45]⟩++B (wd aY k)).toList)=false:=by rw [sF s _ dD _ rfl];exact decide_eq_false hY
       have HN:Hid ((List.range (k+1)).foldl (oW (L s)) (fM f x y c d e)=fM f x y (dK u k) v e):=Lib.hid (by rw [hst];simp only [oW,if_pos HX.out,if_neg hY];try rfl)
       clear hst hY
       go_wp2_with fail
       refine (jA k hlt _).mono ?_
       rintro e0 w2 ⟨rfl,rfl⟩
       have R2:=R1
       have F2:=F1
       have cA:World.cell? _ ⟨w.heap.size,5,none⟩=some (.int .i64 ((u:Nat):Int)):=R2.cell 5
       have zA:=R2.free 5
       dsimp only
       go_wp2_with (go_at_call 290;(with_reducible refine (iU u k _ hx31 (by omega)).mono ?_);rintro e0 wm ⟨rfl,rfl⟩)
       have R3:=R2.fO 5 (.int .i64 ((dK u k:Nat):Int)) (f':=fM f x y (dK u k) v e) rfl
       have F3:=F2.setCell (o:=5) (Nat.le_refl _) (.int .i64 ((dK u k:Nat):Int))
       have hg3:=Nat.le_of_lt R3.lt
       refine (jA k hlt _).mono ?_
       rintro e0 w4 ⟨rfl,rfl⟩
       have R4:=R3
       have F4:=F3
       clear cA zA
       have cB:World.cell? _ ⟨w.heap.size,6,none⟩=some (.int .i64 ((v:Nat):Int)):=R4.cell 6
       have zB:=R4.free 6
       dsimp only
       go_wp2_with (go_at_call 290;(with_reducible refine (iU v k _ hy31 (by omega)).mono ?_);rintro e0 wm ⟨rfl,rfl⟩)
       have R5:=R4
       have F5:=F4
       clear cB zB R4 F4
       go_roundw
       case rel=>exact ⟨k+1,dK u k,v,by omega,qx,hy,by go_num,R5,F5,HN⟩
       case measure=>simp [intOf];omega
     ·have t1:(s.toList==wd aY k)=false:=by rw [VD];exact decide_eq_false hX
      have HX:=Lib.hid hX;clear hX
      by_cases hY:L s=dD++wd aY k
      ·have t2:(s.toList==(⟨#[110,111,110,45]⟩++B (wd aY k)).toList)=true:=by rw [sF s _ dD _ rfl];exact decide_eq_true hY
       have HN:Hid ((List.range (k+1)).foldl (oW (L s)) (fM f x y c d e)=fM f x y u (dK v k) e):=Lib.hid (by rw [hst];simp only [oW,if_neg HX.out,if_pos hY];try rfl)
       clear hst hY
       go_wp2_with fail
       refine (jA k hlt _).mono ?_
       rintro e0 w2 ⟨rfl,rfl⟩
       have R2:=R1
       have F2:=F1
       have cA:World.cell? _ ⟨w.heap.size,5,none⟩=some (.int .i64 ((u:Nat):Int)):=R2.cell 5
       have zA:=R2.free 5
       dsimp only
       go_wp2_with (go_at_call 290;(with_reducible refine (iU u k _ hx31 (by omega)).mono ?_);rintro e0 wm ⟨rfl,rfl⟩)
       have hg3:=Nat.le_of_lt R2.lt
       refine (jA k hlt _).mono ?_
       rintro e0 w4 ⟨rfl,rfl⟩
       have R4:=R2
       have F4:=F2
       clear cA zA
       have cB:World.cell? _ ⟨w.heap.size,6,none⟩=some (.int .i64 ((v:Nat):Int)):=R4.cell 6
       have zB:=R4.free 6
       dsimp only
       go_wp2_with (go_at_call 290;(with_reducible refine (iU v k _ hy31 (by omega)).mono ?_);rintro e0 wm ⟨rfl,rfl⟩)
       have R5:=R4.fO 6 (.int .i64 ((dK v k:Nat):Int)) (f':=fM f x y u (dK v k) e) rfl
       have F5:=F4.setCell (o:=6) (Nat.le_refl _) (.int .i64 ((dK v k:Nat):Int))
       clear cB zB R4 F4
       go_roundw
       case rel=>exact ⟨k+1,u,dK v k,by omega,hx,qy,by go_num,R5,F5,HN⟩
       case measure=>simp [intOf];omega
      ·have t2:(s.toList==(⟨#[110,111,110,45]⟩++B (wd aY k)).toList)=false:=by rw [sF s _ dD _ rfl];exact decide_eq_false hY
       have HN:Hid ((List.range (k+1)).foldl (oW (L s)) (fM f x y c d e)=fM f x y u v e):=Lib.hid (by rw [hst];simp only [oW,if_neg HX.out,if_neg hY];try rfl)
       clear hst hY
       go_wp2_with fail
       refine (jA k hlt _).mono ?_
       rintro e0 w2 ⟨rfl,rfl⟩
       have R2:=R1
       have F2:=F1
       have cA:World.cell? _ ⟨w.heap.size,5,none⟩=some (.int .i64 ((u:Nat):Int)):=R2.cell 5
       have zA:=R2.free 5
       dsimp only
       go_wp2_with (go_at_call 290;(with_reducible refine (iU u k _ hx31 (by omega)).mono ?_);rintro e0 wm ⟨rfl,rfl⟩)
       have hg3:=Nat.le_of_lt R2.lt
       refine (jA k hlt _).mono ?_
       rintro e0 w4 ⟨rfl,rfl⟩
       have R4:=R2
       have F4:=F2
       clear cA zA
       have cB:World.cell? _ ⟨w.heap.size,6,none⟩=some (.int .i64 ((v:Nat):Int)):=R4.cell 6
       have zB:=R4.free 6
       dsimp only
       go_wp2_with (go_at_call 290;(with_reducible refine (iU v k _ hy31 (by omega)).mono ?_);rintro e0 wm ⟨rfl,rfl⟩)
       have R5:=R4
       have F5:=F4
       clear cB zB R4 F4
       go_roundw
       case rel=>exact ⟨k+1,u,v,by omega,hx,hy,by go_num,R5,F5,HN⟩
       case measure=>simp [intOf];omega
    ·have VP:Hid (k=5):=Lib.hid (by omega)
     have HK3:Hid ((List.range 5).foldl (oW (L s)) (fM f x y c d e)=fM f x y u v e):=Lib.hid (by rw [←VP.out];exact HK.out)
     have R0:=R1;have F0:=F1
     have hc2:=hx;have hd2:=hy
     clear R1 F1 HK VP hx hy hgl hgw hc hd
     go_wp2_with fail
     go_loopw [7] (fun i wr=>∃k t:Nat,k≤17∧t<2 ^ 17∧i= .int .i64 k∧RB wr w.heap.size (fM f x y u v t)∧Fr w.heap.size w.heap.size W1 wr∧Hid ((List.range k).foldl (AP (L s)) (fM f x y u v e)=fM f x y u v t)) (fun i _=>17 - (intOf i).toNat)
     case atStart=>exact ⟨0,e,by omega,he,rfl,R0,F0,rfl⟩
     case round=>
      clear R0 F0
      obtain ⟨k,t,hk,hx,rfl,R1,F1,HK⟩:=hrel
      have hgw:=R1.lt
      have hgl:=Nat.le_of_lt hgw
      by_cases hlt:k<17
      ·have hst:(List.range (k+1)).foldl (AP (L s)) (fM f x y u v e)=AP (L s) (fM f x y u v t) k:=by rw [vN,HK.out]
       have hxl:=l7 (T:=bK) (K:=20) (by decide) k
       have qx:=CG (i:=k) hx (by omega)
       have hx31:t<2 ^ 31:=Nat.lt_of_lt_of_le hx (by decide)
       have hpx:(⟨#[119,105,116,104,58]⟩:ByteArray).size+(B (wd bK k)).size≤9223372036854775807:=by rw [bC];show 5+_≤_;omega
       by_cases hY:L s=fZ++wd bK k
       ·have t2:(s.toList==(⟨#[119,105,116,104,58]⟩++B (wd bK k)).toList)=true:=by rw [sF s _ fZ _ rfl];exact decide_eq_true hY
        have HN:Hid ((List.range (k+1)).foldl (AP (L s)) (fM f x y u v e)=fM f x y u v (dK t k)):=Lib.hid (by rw [hst];simp only [AP,if_pos hY];try rfl)
        clear hst hY
        go_wp2_with fail
        refine (BO k hlt _).mono ?_
        rintro e0 w4 ⟨rfl,hb4⟩
        have R4:=R1.below hb4
        have F4:=F1.trans (Fr.of hb4 hgl)
        have cB:World.cell? _ ⟨w.heap.size,8,none⟩=some (.int .i64 ((t:Nat):Int)):=R4.cell 8
        have zB:=R4.free 8
        dsimp only
        go_wp2_with (go_at_call 290;(with_reducible refine (iU t k _ hx31 (by omega)).mono ?_);rintro e0 wm ⟨rfl,rfl⟩)
        have R5:=R4.fO 8 (.int .i64 ((dK t k:Nat):Int)) (f':=fM f x y u v (dK t k)) rfl
        have F5:=F4.setCell (o:=8) (Nat.le_refl _) (.int .i64 ((dK t k:Nat):Int))
        clear cB zB R4 F4
        go_roundw
        case rel=>exact ⟨k+1,dK t k,by omega,qx,by go_num,R5,F5,HN⟩
        case measure=>simp [intOf];omega
       ·have t2:(s.toList==(⟨#[119,105,116,104,58]⟩++B (wd bK k)).toList)=false:=by rw [sF s _ fZ _ rfl];exact decide_eq_false hY
        have HN:Hid ((List.range (k+1)).foldl (AP (L s)) (fM f x y u v e)=fM f x y u v t):=Lib.hid (by rw [hst];simp only [AP,if_neg hY];try rfl)
        clear hst hY
        go_wp2_with fail
        refine (BO k hlt _).mono ?_
        rintro e0 w4 ⟨rfl,hb4⟩
        have R4:=R1.below hb4
        have F4:=F1.trans (Fr.of hb4 hgl)
        have cB:World.cell? _ ⟨w.heap.size,8,none⟩=some (.int .i64 ((t:Nat):Int)):=R4.cell 8
        have zB:=R4.free 8
        dsimp only
        go_wp2_with (go_at_call 290;(with_reducible refine (iU t k _ hx31 (by omega)).mono ?_);rintro e0 wm ⟨rfl,rfl⟩)
        have R5:=R4
        have F5:=F4
        clear cB zB R4 F4
        go_roundw
        case rel=>exact ⟨k+1,t,by omega,hx,by go_num,R5,F5,HN⟩
        case measure=>simp [intOf];omega
      ·have VP:Hid (k=17):=Lib.hid (by omega)
       have HK4:Hid ((List.range 17).foldl (AP (L s)) (fM f x y u v e)=fM f x y u v t):=Lib.hid (by rw [←VP.out];exact HK.out)
       have HQQ:Hid (Q=fM f x y u v t):=Lib.hid (by rw [←HQ.out];unfold CJ;rw [VO.out,HK3.out,HK4.out])
       have hrr:Hid (wr.heap[w.heap.size+1]? =some (.cells aaB.cells TF (0,0))):=Lib.hid ((F1.keep _ HZ.out.2 (by omega)).trans HZ.out.1)
       have R1h:=Lib.hid R1
       have hbW:Below w.heap.size w wr:=HB1.out.trans F1.bel
       clear HQ HK hgl
       go_wp2_with (first|refine wpList_load_row rfl TF (.tmp 2) rfl w.heap.size rfl TF (fM f x y u v t).cells (0,0) _ R1h.out Tryz.underlying26 rfl gX ?_|refine wpList_store_row rfl TF (.tmp 4) (.tmp 68) rfl (w.heap.size+1) (fM f x y u v t).cells rfl rfl TF aaB.cells hrr.out gX rfl (cells_one _) ?_)
       exact bodyPost_ret (results_cell_row rfl _ _ (w.heap.size+1) TF (fM f x y u v t).cells (0,0) _ rfl (oV hrr.out) Tryz.underlying26 rfl gX) rfl (by rw [HQQ.out];exact ⟨rfl,below_setRow hbW (by omega) _,x,y,u,v,t,rfl,ha2,hb2,hc2,hd2,hx⟩)
theorem wE (s name:ByteArray) (nl:Str) (hnl:L name=nl) (hs:s.size<100000000) (hn:name.size≤100) (w:World) (k:Nat) (n:Int) (h:lG (L s) nl=(k,n)):
 Calls Tryz.prog 246 #[.string s, .string name] w fun e w'=>e= .returned (.agg #[.int .i64 k, .int .i64 n])∧Below w.heap.size w w':=
 (afb s name nl hnl hs hn w).mono fun e w' ⟨he,hb⟩=>⟨by rw [he,h];rfl,hb⟩
theorem adu (k n:Int) (wx:World):(Instr.field TB (.agg #[.int .i64 k, .int .i64 n]) 0).run Tryz.prog wx= .ok (.int .i64 k) wx:=by kernel_rfl
def Sm (z:Nat) (f:aH):aH:=if 0<z then { f with zone:=(z:Int) } else f
def Sj (z:Nat) (f:aH):aH:=if 0<z then { f with who:=(z:Int) } else f
def RY (z:Nat) (f:aH):aH:=if 0<z then { f with self:=(z:Int) } else f
def RZ (z:Nat) (f:aH):aH:=if 0<z then { f with dJ:=(z:Int) } else f
def Df (b:Bool) (t:Str) (f:aH):aH:=if b=true then { f with sub:=B t } else f
theorem acs (s b:ByteArray) (pl:Str) (hpl:L b=pl) (o:Option Str) (w:World) (hs:s.size<1000000000) (hb:b.size<1000000000) (t:Str) (p:Bool) (h:Hid (iD (L s) pl=o∧o.getD []=t∧o.isSome=p)):
 Calls Tryz.prog 245 #[.string s, .string b] w fun e w'=>e= .returned (.tuple #[.string (B t), .bool p])∧w=w':=
 (F9 s b w hs hb).mono fun e w' h'=>⟨by
  obtain ⟨h1,h2,h3⟩:=h.out
  rw [h'.1,hpl,h1,←h2,←h3];cases o<;>rfl,h'.2⟩
def RX (k:Nat) (n:Int) (f:aH):aH:=if 0<k then { f with pk:=(k:Int),pn:=n } else f
def Lh (k:Nat) (n:Int) (f:aH):aH:=if 0<k then { f with tk:=(k:Int),tn:=n } else f
def Si (k:Nat) (n:Int) (f:aH):aH:=if 0<k then { f with vk:=(k:Int),vn:=n } else f
theorem aiR (f:aH) (a b c d e zo wh se ta:Nat) (su:Option Str) (p t v:Nat × Int):ade (fM f a b c d e) zo wh se ta su p t v=fM (Si v.1 v.2 (Lh t.1 t.2 (RX p.1 p.2 (Df su.isSome (su.getD []) (RZ ta (RY se (Sj wh (Sm zo f)))))))) a b c d e:=by
 unfold ade Si Lh RX RZ RY Sj Sm
 cases su<;>by_cases h1:0<zo<;>by_cases h2:0<wh<;>by_cases h3:0<se<;>by_cases h4:0<ta<;>by_cases h5:0<p.1<;>by_cases h6:0<t.1<;>by_cases h7:0<v.1<;>simp only [h1,h2,h3,h4,h5,h6,h7,if_true,if_false,Df,fM,Option.isSome_none,Option.isSome_some,Option.getD_some,Bool.false_eq_true]
theorem aic (s:ByteArray) (f0:aH) (a b c d e:Nat) (ha:a<2 ^ 17) (hb:b<2 ^ 17) (hc:c<2 ^ 17) (hd:d<2 ^ 17) (he:e<2 ^ 17) (hs:s.size<100000000) (w:World)
 (zo wh se ta:Nat) (so:Option Str) (st:Str) (sb:Bool) (pk:Nat) (pn:Int) (tk:Nat) (tn:Int) (vk:Nat) (vn:Int)
 (Hzo:Hid (kP bU (L s)=zo)) (Hwh:Hid (kP iQ (L s)=wh)) (Hse:Hid (kP fU (L s)=se)) (Hta:Hid (kP iP (L s)=ta)) (Hsu:Hid (iD (L s) iM=so∧so.getD []=st∧so.isSome=sb))
 (Hp:Hid (lG (L s) eP=(pk,pn))) (Ht:Hid (lG (L s) fE=(tk,tn))) (Hv:Hid (lG (L s) fH=(vk,vn)))
 (Q:aH) (HQ:Hid (CJ (fM (Si vk vn (Lh tk tn (RX pk pn (Df sb st (RZ ta (RY se (Sj wh (Sm zo f0)))))))) a b c d e) (L s)=Q)):
 Calls Tryz.prog 177 #[.agg (fM f0 a b c d e).cells, .string s] w (VU (Si vk vn (Lh tk tn (RX pk pn (Df sb st (RZ ta (RY se (Sj wh (Sm zo f0)))))))) w Q):=by
 have W0:RB ((w.alloc (.cells (fM f0 a b c d e).cells TF)).alloc (.cells aaB.cells TF)) w.heap.size (fM f0 a b c d e):=by
  unfold RB;rw [Below.heap_alloc _ _ _ (by simp)];exact heap_alloc_new w _
 have HZ:Hid (((w.alloc (.cells (fM f0 a b c d e).cells TF)).alloc (.cells aaB.cells TF)).heap[w.heap.size+1]? =some (.cells aaB.cells TF (0,0))∧w.heap.size+1<((w.alloc (.cells (fM f0 a b c d e).cells TF)).alloc (.cells aaB.cells TF)).heap.size):=Lib.hid ⟨by have:=heap_alloc_new (w.alloc (.cells (fM f0 a b c d e).cells TF)) (.cells aaB.cells TF);simpa using this,by simp⟩
 have HB1:Hid (Below w.heap.size w ((w.alloc (.cells (fM f0 a b c d e).cells TF)).alloc (.cells aaB.cells TF))):=Lib.hid (((Below.refl _ _).alloc (Nat.le_refl _) _).alloc (by simp) _)
 have HW:=Lib.hid W0
 clear W0
 go_enter Tryz.func177,Tryz.ntmps177
 go_upto_region 1 with fail
 have R1:=HW.out
 obtain ⟨W1,hW1⟩:∃W,(w.alloc (.cells (fM f0 a b c d e).cells TF)).alloc (.cells aaB.cells TF)=W:=⟨_,rfl⟩
 rw [hW1] at R1 HZ HB1
 change Code.wp _ _ _ _ ((w.alloc (.cells (fM f0 a b c d e).cells TF)).alloc (.cells aaB.cells TF))
 rw [hW1]
 have F1:Fr w.heap.size w.heap.size W1 W1:=Fr.refl _ _ _
 clear hW1 HW
 have hfb:=fun (k n:Int) (wx:World)=>adu k n wx
 go_upto_if 10 with (first|(go_at_call 151;(with_reducible refine (Gf _).mono ?_);rintro e0 wa ⟨A,cc,rfl,ht,hba⟩)|(go_at_call 244;(with_reducible refine (qg bU _ _ _ s _ ht (by decide) (by decide)).mono ?_);rw [Hzo.out];rintro e0 wb ⟨rfl,rfl⟩))
 have R2:=R1.below hba
 have F2:=F1.trans (Fr.of hba (Nat.le_of_lt R1.lt))
 clear R1 F1 hba ht
 go_cut [] (fun wc=>∃F,RB wc w.heap.size (fM F a b c d e)∧Fr w.heap.size w.heap.size W1 wc∧Hid (F=Sm zo f0))
 case first=>
  go_wp2_with (first|(go_at_call 151;(with_reducible refine (Gf _).mono ?_);rintro e0 wa2 ⟨A,cc,rfl,ht2,qN⟩)|(go_at_call 244;(with_reducible refine (qg bU _ _ _ s _ ht2 (by decide) (by decide)).mono ?_);rw [Hzo.out];rintro e0 wb ⟨rfl,rfl⟩;have R3:=R2.below qN;have c3:World.cell? _ ⟨w.heap.size,0,none⟩=some (.int .i64 f0.zone):=R3.cell 0;have z3:=R3.free 0))
  all_goals go_meet
  all_goals first
   |exact ⟨_,RB.fO (f':=fM ({ f0 with zone:=(zo:Int) }) a b c d e) R3 0 _ rfl,(F2.trans (Fr.of qN (Nat.le_of_lt R2.lt))).setCell (Nat.le_refl _) _,Lib.hid (if_pos (by omega)).symm⟩
   |exact ⟨f0,R2,F2,Lib.hid (if_neg (by omega)).symm⟩
 case rest=>
  clear R2 F2
  obtain ⟨f1,R1,F1,HF1⟩:=hcut
  go_upto_if 18 with (first|(go_at_call 152;(with_reducible refine (Jl _).mono ?_);rintro e0 wa ⟨A,cc,rfl,ht,hba⟩)|(go_at_call 244;(with_reducible refine (qg iQ _ _ _ s _ ht (by decide) (by decide)).mono ?_);rw [Hwh.out];rintro e0 wb ⟨rfl,rfl⟩))
  have R2:=R1.below hba
  have F2:=F1.trans (Fr.of hba (Nat.le_of_lt R1.lt))
  clear R1 F1 hba ht
  go_cut [] (fun wc=>∃F,RB wc w.heap.size (fM F a b c d e)∧Fr w.heap.size w.heap.size W1 wc∧Hid (F=Sj wh f1))
  case first=>
   go_wp2_with (first|(go_at_call 152;(with_reducible refine (Jl _).mono ?_);rintro e0 wa2 ⟨A,cc,rfl,ht2,qN⟩)|(go_at_call 244;(with_reducible refine (qg iQ _ _ _ s _ ht2 (by decide) (by decide)).mono ?_);rw [Hwh.out];rintro e0 wb ⟨rfl,rfl⟩;have R3:=R2.below qN;have c3:World.cell? _ ⟨w.heap.size,1,none⟩=some (.int .i64 f1.who):=R3.cell 1;have z3:=R3.free 1))
   all_goals go_meet
   all_goals first
    |exact ⟨_,RB.fO (f':=fM ({ f1 with who:=(wh:Int) }) a b c d e) R3 1 _ rfl,(F2.trans (Fr.of qN (Nat.le_of_lt R2.lt))).setCell (Nat.le_refl _) _,Lib.hid (if_pos (by omega)).symm⟩
    |exact ⟨f1,R2,F2,Lib.hid (if_neg (by omega)).symm⟩
  case rest=>
   clear R2 F2
   obtain ⟨f2,R1,F1,HF2⟩:=hcut
   go_upto_if 26 with (first|(go_at_call 153;(with_reducible refine (Ep _).mono ?_);rintro e0 wa ⟨A,cc,rfl,ht,hba⟩)|(go_at_call 244;(with_reducible refine (qg fU _ _ _ s _ ht (by decide) (by decide)).mono ?_);rw [Hse.out];rintro e0 wb ⟨rfl,rfl⟩))
   have R2:=R1.below hba
   have F2:=F1.trans (Fr.of hba (Nat.le_of_lt R1.lt))
   clear R1 F1 hba ht
   go_cut [] (fun wc=>∃F,RB wc w.heap.size (fM F a b c d e)∧Fr w.heap.size w.heap.size W1 wc∧Hid (F=RY se f2))
   case first=>
    go_wp2_with (first|(go_at_call 153;(with_reducible refine (Ep _).mono ?_);rintro e0 wa2 ⟨A,cc,rfl,ht2,qN⟩)|(go_at_call 244;(with_reducible refine (qg fU _ _ _ s _ ht2 (by decide) (by decide)).mono ?_);rw [Hse.out];rintro e0 wb ⟨rfl,rfl⟩;have R3:=R2.below qN;have c3:World.cell? _ ⟨w.heap.size,2,none⟩=some (.int .i64 f2.self):=R3.cell 2;have z3:=R3.free 2))
    all_goals go_meet
    all_goals first
     |exact ⟨_,RB.fO (f':=fM ({ f2 with self:=(se:Int) }) a b c d e) R3 2 _ rfl,(F2.trans (Fr.of qN (Nat.le_of_lt R2.lt))).setCell (Nat.le_refl _) _,Lib.hid (if_pos (by omega)).symm⟩
     |exact ⟨f2,R2,F2,Lib.hid (if_neg (by omega)).symm⟩
   case rest=>
    clear R2 F2
    obtain ⟨f3,R1,F1,HF3⟩:=hcut
    go_upto_if 34 with (first|(go_at_call 154;(with_reducible refine (Jk _).mono ?_);rintro e0 wa ⟨A,cc,rfl,ht,hba⟩)|(go_at_call 244;(with_reducible refine (qg iP _ _ _ s _ ht (by decide) (by decide)).mono ?_);rw [Hta.out];rintro e0 wb ⟨rfl,rfl⟩))
    have R2:=R1.below hba
    have F2:=F1.trans (Fr.of hba (Nat.le_of_lt R1.lt))
    clear R1 F1 hba ht
    go_cut [] (fun wc=>∃F,RB wc w.heap.size (fM F a b c d e)∧Fr w.heap.size w.heap.size W1 wc∧Hid (F=RZ ta f3))
    case first=>
     go_wp2_with (first|(go_at_call 154;(with_reducible refine (Jk _).mono ?_);rintro e0 wa2 ⟨A,cc,rfl,ht2,qN⟩)|(go_at_call 244;(with_reducible refine (qg iP _ _ _ s _ ht2 (by decide) (by decide)).mono ?_);rw [Hta.out];rintro e0 wb ⟨rfl,rfl⟩;have R3:=R2.below qN;have c3:World.cell? _ ⟨w.heap.size,9,none⟩=some (.int .i64 f3.dJ):=R3.cell 9;have z3:=R3.free 9))
     all_goals go_meet
     all_goals first
      |exact ⟨_,RB.fO (f':=fM ({ f3 with dJ:=(ta:Int) }) a b c d e) R3 9 _ rfl,(F2.trans (Fr.of qN (Nat.le_of_lt R2.lt))).setCell (Nat.le_refl _) _,Lib.hid (if_pos (by omega)).symm⟩
      |exact ⟨f3,R2,F2,Lib.hid (if_neg (by omega)).symm⟩
    case rest=>
     clear R2 F2
     obtain ⟨f4,R1,F1,HF4⟩:=hcut
     go_upto_if 44 with (go_at_call 245;(with_reducible refine (acs s ⟨#[115,117,98,58]⟩ iM rfl so _ (by omega) (by decide) st sb Hsu).mono ?_);rintro e0 wb ⟨rfl,rfl⟩)
     go_cut [] (fun wc=>∃F,RB wc w.heap.size (fM F a b c d e)∧Fr w.heap.size w.heap.size W1 wc∧Hid (F=Df sb st f4))
     case first=>
      have c3:World.cell? _ ⟨w.heap.size,7,none⟩=some (.string f4.sub):=R1.cell 7
      have z3:=R1.free 7
      go_wp2_with fail
      all_goals go_meet
      all_goals first
       |exact ⟨_,RB.fO (f':=fM { f4 with sub:=B st } a b c d e) R1 7 _ rfl,F1.setCell (Nat.le_refl _) _,Lib.hid (if_pos (by assumption)).symm⟩
       |exact ⟨f4,R1,F1,Lib.hid (by rw [Df,if_neg];simp [*])⟩
     case rest=>
      clear R1 F1
      obtain ⟨f5,R1,F1,HF5⟩:=hcut
      go_upto_if 50 with (go_at_call 246;(with_reducible refine (wE s ⟨#[112,111,119,101,114]⟩ eP rfl hs (by decide) _ pk pn Hp.out).mono ?_);rintro e0 wa ⟨rfl,hba⟩)
      have R2:=R1.below hba
      have F2:=F1.trans (Fr.of hba (Nat.le_of_lt R1.lt))
      clear R1 F1 hba
      go_cut [] (fun wc=>∃F,RB wc w.heap.size (fM F a b c d e)∧Fr w.heap.size w.heap.size W1 wc∧Hid (F=RX pk pn f5))
      case first=>
       go_wp2_with (go_at_call 246;(with_reducible refine (wE s ⟨#[112,111,119,101,114]⟩ eP rfl hs (by decide) _ pk pn Hp.out).mono ?_);rintro e0 wa2 ⟨rfl,qN⟩;have R3:=R2.below qN;have c3:World.cell? _ ⟨w.heap.size,10,none⟩=some (.int .i64 f5.pk):=R3.cell 10;have z3:=R3.free 10;have c4:World.cell? _ ⟨w.heap.size,11,none⟩=some (.int .i64 f5.pn):=R3.cell 11;have z4:=R3.free 11)
       all_goals go_meet
       all_goals first
        |exact ⟨_,RB.fO (f':=fM { f5 with pk:=(pk:Int),pn:=pn } a b c d e) (RB.fO (f':=fM { f5 with pk:=(pk:Int) } a b c d e) R3 10 _ rfl) 11 _ rfl,((F2.trans (Fr.of qN (Nat.le_of_lt R2.lt))).setCell (Nat.le_refl _) _).setCell (Nat.le_refl _) _,Lib.hid (if_pos (by omega)).symm⟩
        |exact ⟨f5,R2,F2,Lib.hid (if_neg (by omega)).symm⟩
      case rest=>
       clear R2 F2
       obtain ⟨f6,R1,F1,HF6⟩:=hcut
       go_upto_if 57 with (go_at_call 246;(with_reducible refine (wE s ⟨#[116,111,117,103,104]⟩ fE rfl hs (by decide) _ tk tn Ht.out).mono ?_);rintro e0 wa ⟨rfl,hba⟩)
       have R2:=R1.below hba
       have F2:=F1.trans (Fr.of hba (Nat.le_of_lt R1.lt))
       clear R1 F1 hba
       go_cut [] (fun wc=>∃F,RB wc w.heap.size (fM F a b c d e)∧Fr w.heap.size w.heap.size W1 wc∧Hid (F=Lh tk tn f6))
       case first=>
        go_wp2_with (go_at_call 246;(with_reducible refine (wE s ⟨#[116,111,117,103,104]⟩ fE rfl hs (by decide) _ tk tn Ht.out).mono ?_);rintro e0 wa2 ⟨rfl,qN⟩;have R3:=R2.below qN;have c3:World.cell? _ ⟨w.heap.size,12,none⟩=some (.int .i64 f6.tk):=R3.cell 12;have z3:=R3.free 12;have c4:World.cell? _ ⟨w.heap.size,13,none⟩=some (.int .i64 f6.tn):=R3.cell 13;have z4:=R3.free 13)
        all_goals go_meet
        all_goals first
         |exact ⟨_,RB.fO (f':=fM { f6 with tk:=(tk:Int),tn:=tn } a b c d e) (RB.fO (f':=fM { f6 with tk:=(tk:Int) } a b c d e) R3 12 _ rfl) 13 _ rfl,((F2.trans (Fr.of qN (Nat.le_of_lt R2.lt))).setCell (Nat.le_refl _) _).setCell (Nat.le_refl _) _,Lib.hid (if_pos (by omega)).symm⟩
         |exact ⟨f6,R2,F2,Lib.hid (if_neg (by omega)).symm⟩
       case rest=>
        clear R2 F2
        obtain ⟨f7,R1,F1,HF7⟩:=hcut
        go_upto_if 64 with (go_at_call 246;(with_reducible refine (wE s ⟨#[118,97,108,117,101]⟩ fH rfl hs (by decide) _ vk vn Hv.out).mono ?_);rintro e0 wa ⟨rfl,hba⟩)
        have R2:=R1.below hba
        have F2:=F1.trans (Fr.of hba (Nat.le_of_lt R1.lt))
        clear R1 F1 hba
        go_cut [] (fun wc=>∃F,RB wc w.heap.size (fM F a b c d e)∧Fr w.heap.size w.heap.size W1 wc∧Hid (F=Si vk vn f7))
        case first=>
         go_wp2_with (go_at_call 246;(with_reducible refine (wE s ⟨#[118,97,108,117,101]⟩ fH rfl hs (by decide) _ vk vn Hv.out).mono ?_);rintro e0 wa2 ⟨rfl,qN⟩;have R3:=R2.below qN;have c3:World.cell? _ ⟨w.heap.size,14,none⟩=some (.int .i64 f7.vk):=R3.cell 14;have z3:=R3.free 14;have c4:World.cell? _ ⟨w.heap.size,15,none⟩=some (.int .i64 f7.vn):=R3.cell 15;have z4:=R3.free 15)
         all_goals go_meet
         all_goals first
          |exact ⟨_,RB.fO (f':=fM { f7 with vk:=(vk:Int),vn:=vn } a b c d e) (RB.fO (f':=fM { f7 with vk:=(vk:Int) } a b c d e) R3 14 _ rfl) 15 _ rfl,((F2.trans (Fr.of qN (Nat.le_of_lt R2.lt))).setCell (Nat.le_refl _) _).setCell (Nat.le_refl _) _,Lib.hid (if_pos (by omega)).symm⟩
          |exact ⟨f7,R2,F2,Lib.hid (if_neg (by omega)).symm⟩
        case rest=>
         clear R2 F2
         obtain ⟨f8,R1,F1,HF8⟩:=hcut
         have HA:f8=Si vk vn (Lh tk tn (RX pk pn (Df sb st (RZ ta (RY se (Sj wh (Sm zo f0))))))):=by rw [HF8.out,HF7.out,HF6.out,HF5.out,HF4.out,HF3.out,HF2.out,HF1.out]
         rw [←HA] at HQ
         have HAA:=Lib.hid HA
         have R1h:=Lib.hid R1
         have hg8:=R1.lt
         have hrr:Hid (wc.heap[w.heap.size+1]? =some (.cells aaB.cells TF (0,0))):=Lib.hid ((F1.keep _ HZ.out.2 (by omega)).trans HZ.out.1)
         have hlt2:w.heap.size+1<wc.heap.size:=Nat.lt_of_lt_of_le HZ.out.2 F1.bel.size
         have hbW:=Lib.hid (HB1.out.trans F1.bel)
         clear HA R1 F1
         go_wp2_with (first|refine wpList_load_row rfl TF (.tmp 2) rfl w.heap.size rfl TF (fM f8 a b c d e).cells (0,0) _ R1h.out Tryz.underlying26 rfl gX ?_|(go_at_call 247;(with_reducible refine (acw s f8 a b c d e ha hb hc hd he hs _).mono ?_);rw [HQ.out];rintro e0 wz ⟨rfl,hbz,hform⟩;have hrz:=Lib.hid ((hbz.block _ hlt2).trans hrr.out);have HFO:=Lib.hid hform;clear hform)|refine wpList_store_row rfl TF (.tmp 4) (.tmp 70) rfl (w.heap.size+1) Q.cells rfl rfl TF aaB.cells hrz.out gX rfl (cells_one _) ?_)
         exact bodyPost_ret (results_cell_row rfl _ _ (w.heap.size+1) TF Q.cells (0,0) _ rfl (oV hrz.out) Tryz.underlying26 rfl gX) rfl (by rw [←HAA.out];exact ⟨rfl,below_setRow (aaC hbW.out hbz) (by omega) _,HFO.out⟩)
theorem afc (s:ByteArray) (f0:aH) (a b c d e:Nat) (ha:a<2 ^ 17) (hb:b<2 ^ 17) (hc:c<2 ^ 17) (hd:d<2 ^ 17) (he:e<2 ^ 17) (hs:s.size<100000000) (w:World):
 ∃F,Calls Tryz.prog 177 #[.agg (fM f0 a b c d e).cells, .string s] w (VU F w (iW (fM f0 a b c d e) (L s))):=
 ⟨_,aic s f0 a b c d e ha hb hc hd he hs w (kP bU (L s)) (kP iQ (L s)) (kP fU (L s)) (kP iP (L s)) (iD (L s) iM) ((iD (L s) iM).getD []) (iD (L s) iM).isSome (lG (L s) eP).1 (lG (L s) eP).2 (lG (L s) fE).1 (lG (L s) fE).2 (lG (L s) fH).1 (lG (L s) fH).2 (Lib.hid rfl) (Lib.hid rfl) (Lib.hid rfl) (Lib.hid rfl) (Lib.hid ⟨rfl,rfl,rfl⟩) (Lib.hid rfl) (Lib.hid rfl) (Lib.hid rfl) _ (Lib.hid (by unfold iW;rw [aiR]))⟩
theorem afe (f:aH):dh f=(jJ f.zone 5&&(jJ f.who 2&&(jJ f.self 2&&(jJ f.dJ 2&&(mF f.types f.aV 63&&(mF f.colors f.aP 31&&((decide (f.sub.toList=[]) || nG (L f.sub))&&(jJ f.keys 131071&&(bnd f.pk f.pn&&(bnd f.tk f.tn&&bnd f.vk f.vn)))))))))):=by
 have e:decide (f.sub.toList=[])=(L f.sub==[]):=by rw [dZ,Bool.eq_iff_iff];simp
 unfold dh
 rw [e]
 cases jJ f.zone 5<;>cases jJ f.who 2<;>cases jJ f.self 2<;>cases jJ f.dJ 2<;>cases jJ f.keys 131071<;>simp
theorem RN (zone who self types aV colors aP:Int) (sub:ByteArray) (keys dJ pk pn tk tn vk vn:Int) (w:World) (R:Bool) (HR:Hid (dh ⟨zone,who,self,types,aV,colors,aP,sub,keys,dJ,pk,pn,tk,tn,vk,vn⟩=R)):
 Calls Tryz.prog 56 #[.agg #[.int .i64 zone, .int .i64 who, .int .i64 self, .int .i64 types, .int .i64 aV, .int .i64 colors, .int .i64 aP, .string sub, .int .i64 keys, .int .i64 dJ, .int .i64 pk, .int .i64 pn, .int .i64 tk, .int .i64 tn, .int .i64 vk, .int .i64 vn]] w fun e w'=>e= .returned (.bool R)∧Below w.heap.size w w':=by
 obtain ⟨b1,H1⟩:∃b,Hid (mF types aV 63=b):=⟨_,rfl⟩
 obtain ⟨b2,H2⟩:∃b,Hid (mF colors aP 31=b):=⟨_,rfl⟩
 obtain ⟨b3,H3⟩:∃b,Hid (nG (L sub)=b):=⟨_,rfl⟩
 obtain ⟨b5,H5⟩:∃b,Hid (bnd pk pn=b):=⟨_,rfl⟩
 obtain ⟨b6,H6⟩:∃b,Hid (bnd tk tn=b):=⟨_,rfl⟩
 obtain ⟨b7,H7⟩:∃b,Hid (bnd vk vn=b):=⟨_,rfl⟩
 have HD:Hid (R=(jJ zone 5&&(jJ who 2&&(jJ self 2&&(jJ dJ 2&&(b1&&(b2&&((decide (sub.toList=[]) || b3)&&(jJ keys 131071&&(b5&&(b6&&b7))))))))))):=Lib.hid (by rw [←HR.out,afe,←H1.out,←H2.out,←H3.out,←H5.out,←H6.out,←H7.out])
 clear HR
 have hb:Hid (Below w.heap.size w (w.alloc (.cells #[.int .i64 zone, .int .i64 who, .int .i64 self, .int .i64 types, .int .i64 aV, .int .i64 colors, .int .i64 aP, .string sub, .int .i64 keys, .int .i64 dJ, .int .i64 pk, .int .i64 pn, .int .i64 tk, .int .i64 tn, .int .i64 vk, .int .i64 vn] 26))):=Lib.hid ((Below.refl _ _).alloc (Nat.le_refl _) _)
 go_enter Tryz.func56,Tryz.ntmps56
 go_wp2_with (first|(go_at_call 130;(with_reducible refine (OW types aV 63 _ (by decide)).mono ?_);rw [H1.out];rintro e w1 ⟨rfl,rfl⟩)|(go_at_call 130;(with_reducible refine (OW colors aP 31 _ (by decide)).mono ?_);rw [H2.out];rintro e w1 ⟨rfl,rfl⟩)|(go_at_call 131;(with_reducible refine (carry (Qk sub _) (Below.refl _ _)).mono ?_);rw [H3.out];rintro e w2 ⟨rfl,hb2⟩;have hc2:=qm hb2)|(go_at_call 132;(with_reducible refine (carry (acv _ _ _) (by first|assumption|exact Below.refl _ _)).mono ?_);(first|rw [H5.out]|rw [H6.out]|rw [H7.out]);rintro e w2 ⟨rfl,hb2⟩;have hc2:=qm hb2))
 all_goals
  go_ret
  refine ⟨aX ?_,?_⟩
  ·rw [HD.out];first|(simp [jJ, *];done)|(simp [jJ, *];omega)|(simp_all [jJ];done)|(simp_all [jJ];omega)
  ·first|exact hb.out|exact aaC hb.out (by assumption)
theorem Wj {m N:Nat} (h:m<2 ^ N):∀k,N≤k→aK m k=aK m N
 |0,hk=>by
  obtain rfl:N=0:=by omega
  rfl
 |k+1,hk=>by
  by_cases e:N=k+1
  ·rw [e]
  ·have hb:m.testBit k=false:=Nat.testBit_lt_two_pow (Nat.lt_of_lt_of_le h (Nat.pow_le_pow_right (by omega) (by omega)))
   rw [oL hb];exact Wj h k (by omega)
theorem Ri (l m:List Str) (h:∀x∈m,x≠[]):m.foldl bf l=l++m:=by
 induction m generalizing l with
 |nil=>simp
 |cons x r ih=>
  rw [List.foldl_cons,ih _ (fun y hy=>h y (List.mem_cons_of_mem _ hy)),bf,if_neg (h x (by simp))];simp
theorem uo (l:List Str) (p:Str) (T:List Str) {m N:Nat} (hm:m<2 ^ N) (hN:N≤31) (hne:∀i,i<N→p++wd T i≠[]):aZ l p T m=l++(aK m N).map fun i=>p++wd T i:=by
 unfold aZ
 rw [Wj hm 31 hN,Ri]
 intro x hx
 obtain ⟨i,hi,rfl⟩:=List.mem_map.1 hx
 exact hne i (Zd hi)
theorem Bg {l L0:List Str} {p:Str} {T:List Str} {m k:Nat} (h:l=L0++(aK m k).map fun i=>p++wd T i) (hb:m.testBit k=false):l=L0++(aK m (k+1)).map fun i=>p++wd T i:=by rw [oL hb];exact h
theorem yC {l L0:List Str} {p:Str} {T:List Str} {m k:Nat} (h:l=L0++(aK m k).map fun i=>p++wd T i) (hb:m.testBit k=true):l++[p++wd T k]=L0++(aK m (k+1)).map fun i=>p++wd T i:=by rw [qI hb,List.map_append,h];simp
theorem ajA:∀i,i<6→[]++wd aO i≠[]:=by decide
theorem afO:∀i,i<6→dD++wd aO i≠[]:=by decide
theorem aeS:∀i,i<5→[]++wd aY i≠[]:=by decide
theorem acZ:∀i,i<5→dD++wd aY i≠[]:=by decide
theorem abe:∀i,i<17→fZ++wd bK i≠[]:=by decide
def At (b:Nat) (W:World) (g j:Nat) (v:Value):Prop:=g<b∧W.cell? ⟨g,j,none⟩=some v
theorem At.of {W:World} {g j:Nat} {v:Value} (h:W.cell? ⟨g,j,none⟩=some v):At W.heap.size W g j v:=⟨World.block_lt_of_cell? W _ h,h⟩
theorem At.get {b:Nat} {W w':World} {g j:Nat} {v:Value} (h:At b W g j v) (hb:Below b W w'):w'.cell? ⟨g,j,none⟩=some v:=yT hb h.1 h.2
theorem anS {w w1 w2:World} {cs:Array Value} {t:Nat} (h:Below (w.alloc (.cells cs t)).heap.size (w.alloc (.cells cs t)) w1) (hb:Below w1.heap.size w1 w2) (j:Nat):w2.cell? ⟨w.heap.size,j,none⟩=cs[j]? :=by
 have hs:=h.size;simp at hs
 rw [hb.cell (p:=⟨w.heap.size,j,none⟩) (by show w.heap.size<_;omega),qm h j,cell_of_row _ _ j cs t (0,0) (heap_alloc_new w _)]
theorem agC (z wh se ty nt co nc:Nat) (sub:ByteArray) (ke ta pk pn tk tn vk vn:Nat) (w:World) (HV:Hid (dh ⟨z,wh,se,ty,nt,co,nc,sub,ke,ta,pk,pn,tk,tn,vk,vn⟩=true))
 (hz:z≤5) (hwh:wh<3) (hse:se<3) (hty:ty<2 ^ 6) (hnt:nt<2 ^ 6) (hco:co<2 ^ 5) (hnc:nc<2 ^ 5) (hsub:sub.size≤32) (hke:ke<2 ^ 17) (hta:ta<3)
 (hpk:pk<4) (hpn:pn≤1000000) (htk:tk<4) (htn:tn≤1000000) (hvk:vk<4) (hvn:vn≤1000000)
 (hjl:Hid ((Lib.join (gG (lu z wh se ty nt co nc sub ke ta pk pn tk tn vk vn)) [32]).length≤140737488355328)):
 Calls Tryz.prog 66 #[.agg #[.int .i64 z, .int .i64 wh, .int .i64 se, .int .i64 ty, .int .i64 nt, .int .i64 co, .int .i64 nc, .string sub, .int .i64 ke, .int .i64 ta, .int .i64 pk, .int .i64 pn, .int .i64 tk, .int .i64 tn, .int .i64 vk, .int .i64 vn]] w fun e w'=>e= .returned (.string (B (iI (lu z wh se ty nt co nc sub ke ta pk pn tk tn vk vn))))∧Below w.heap.size w w':=by
 have hz':z<bU.length:=by show z<6;omega
 have hw':wh<iQ.length:=hwh
 have hs':se<fU.length:=hse
 have ht':ta<iP.length:=hta
 have HZ:=Lib.hid (zy hz');have HW:=Lib.hid (zy hw');have HS:=Lib.hid (zy hs');have HT:=Lib.hid (zy ht')
 have HFT:Hid (iI (lu z wh se ty nt co nc sub ke ta pk pn tk tn vk vn)=if gG (lu z wh se ty nt co nc sub ke ta pk pn tk tn vk vn)=[] then nP else Lib.join (gG (lu z wh se ty nt co nc sub ke ta pk pn tk tn vk vn)) [32]):=rfl
 have HFW:Hid (gG (lu z wh se ty nt co nc sub ke ta pk pn tk tn vk vn)=bf (bf (bf (bf (aZ (bif L sub==[] then aZ (aZ (aZ (aZ (bf (bf (bf [] (wd bU z)) (wd iQ wh)) (wd fU se)) [] aO ty) dD aO nt) [] aY co) dD aY nc else bf (aZ (aZ (aZ (aZ (bf (bf (bf [] (wd bU z)) (wd iQ wh)) (wd fU se)) [] aO ty) dD aO nt) [] aY co) dD aY nc) (iM++L sub)) fZ bK ke) (wd iP ta)) (bH eP pk pn)) (bH fE tk tn)) (bH fH vk vn)):=rfl
 generalize iI (lu z wh se ty nt co nc sub ke ta pk pn tk tn vk vn)=R at *
 generalize gG (lu z wh se ty nt co nc sub ke ta pk pn tk tn vk vn)=FW at *
 go_enter Tryz.func66,Tryz.ntmps66
 go_wp2_with (first|(go_at_call 56;(with_reducible refine (RN _ _ _ _ _ _ _ _ _ _ _ _ _ _ _ _ _ true HV).mono ?_);rintro e w1 ⟨rfl,hb1⟩)|(go_at_call 151;(with_reducible refine (Gf _).mono ?_);rintro e w2 ⟨A1,c1,rfl,ht1,hb2⟩;obtain ⟨g1,rfl,_,cz⟩:=ht1.at_ hz';rw [HZ.out] at cz)|(go_at_call 152;(with_reducible refine (Jl _).mono ?_);rintro e w3 ⟨A2,c2,rfl,ht2,hb3⟩;obtain ⟨g2,rfl,_,cw⟩:=ht2.at_ hw';rw [HW.out] at cw;have cz:=cell_below hb3 cz)|(go_at_call 153;(with_reducible refine (Ep _).mono ?_);rintro e w4 ⟨A3,c3,rfl,ht3,hb4⟩;obtain ⟨g3,rfl,_,cs⟩:=ht3.at_ hs';rw [HS.out] at cs;have cz:=cell_below hb4 cz;have cw:=cell_below hb4 cw)|(go_at_call 154;(with_reducible refine (Jk _).mono ?_);rintro e w5 ⟨A4,c4,rfl,ht4,hb5⟩;obtain ⟨g4,rfl,_,ct⟩:=ht4.at_ ht';rw [HT.out] at ct;have AT:=At.of ct;have AZ:=At.of (cell_below hb5 cz);have AW:=At.of (cell_below hb5 cw);have AS:=At.of (cell_below hb5 cs);have hb6:=aaC (aaC (aaC hb2 hb3) hb4) hb5;have BX:=anS hb1 hb6;have AB:Hid (∀j v,(#[.int .i64 z, .int .i64 wh, .int .i64 se, .int .i64 ty, .int .i64 nt, .int .i64 co, .int .i64 nc, .string sub, .int .i64 ke, .int .i64 ta, .int .i64 pk, .int .i64 pn, .int .i64 tk, .int .i64 tn, .int .i64 vk, .int .i64 vn]:Array Value)[j]? =some v→At w5.heap.size w5 w.heap.size j v):=Lib.hid (fun j v h=>At.of ((BX j).trans h));have HB5:Hid (Below w.heap.size w w5):=Lib.hid (aaC (aaC ((Below.refl _ _).alloc (Nat.le_refl _) _) hb1) hb6);have x0:=(AB.out 0 _ rfl).get (Below.refl _ _);have cz:=AZ.get (Below.refl _ _);clear BX hb2 hb3 hb4 hb5 hb6 hb1 ht1 ht2 ht3 ht4 ct cw cs))
 clear cz x0
 obtain ⟨b,hb⟩:∃b,w5.heap.size=b:=⟨_,rfl⟩
 rw [hb] at AT AZ AW AS AB
 have hbl:b≤w5.heap.size:=Nat.le_of_eq hb.symm
 have Ic:=Lib.hid hb
 clear hb
 refine (o7 [] none 0 b (B (wd bU z)) (wd bU z) rfl w5 (Texts.nil _ _) hbl (by simp)).mono ?_
 rintro e w6 ⟨A5,c5,rfl,HO,HQ⟩
 obtain ⟨la,hla⟩:∃l,bf [] (wd bU z)=l:=⟨_,rfl⟩
 have hll:=iG [] (wd bU z)
 rw [hla] at HO hll
 rw [hla]
 have HLA:=Lib.hid hla;clear hla
 simp only [List.length_nil,Nat.zero_add] at hll
 have cw:=AW.get HQ
 have x1:=(AB.out 1 (.int .i64 wh) rfl).get HQ
 dsimp only
 go_wp2_with fail
 refine (o7 la A5 c5 b (B (wd iQ wh)) (wd iQ wh) rfl w6 HO (Nat.le_trans hbl HQ.size) (by omega)).mono ?_
 rintro e w7 ⟨A6,c6,rfl,nV,nX⟩
 have hlm:=iG la (wd iQ wh)
 obtain ⟨lb,hlb⟩:∃l,bf la (wd iQ wh)=l:=⟨_,rfl⟩
 rw [hlb] at nV hlm
 rw [hlb]
 have HLB:=Lib.hid hlb
 have HQ:=HQ.trans nX
 clear hlb cw x1 HO nX
 have cs:=AS.get HQ
 have x2:=(AB.out 2 (.int .i64 se) rfl).get HQ
 dsimp only
 go_wp2_with fail
 refine (o7 lb A6 c6 b (B (wd fU se)) (wd fU se) rfl w7 nV (Nat.le_trans hbl HQ.size) (by omega)).mono ?_
 rintro e w8 ⟨A7,c7,rfl,HO,nX⟩
 have hln:=iG lb (wd fU se)
 obtain ⟨l0,hl0⟩:∃l,bf lb (wd fU se)=l:=⟨_,rfl⟩
 rw [hl0] at HO hln
 rw [hl0]
 have HL0:=Lib.hid hl0
 have HQ:=HQ.trans nX
 have hlen0:l0.length≤3:=by omega
 clear hl0 cs x2 nV nX hll hlm hln HZ HW HS hz' hw' hs'
 dsimp only
 go_wp2_with fail
 go_loopw [7,8] (fun v i wr=>∃k:Nat,∃l:List Str,k≤6∧l.length≤3+k∧i= .int .i64 k∧Texts wr b l v∧Below b w5 wr∧Hid (l=l0++(aK ty k).map fun i=>[]++wd aO i)) (fun _ i _=>6 - (intOf i).toNat)
 case atStart=>exact ⟨0,l0,by omega,by omega,rfl,HO,HQ,by simp [aK,Hid]⟩
 case round=>
  clear HQ HO
  obtain ⟨k,l1,hk,hlen,rfl,hown,hq,HL⟩:=hrel
  have hbs:=Nat.le_trans hbl hq.size
  have xm:=(AB.out 3 (.int .i64 ty) rfl).get hq
  by_cases hlt:k<6
  ·cases hbit:ty.testBit k
   ·have HN:=Lib.hid (Bg HL.out hbit)
    have HB:=Lib.hid hbit;clear hbit
    go_wp2_with (go_at_call 156;(with_reducible refine (lV ty k _ (by omega) (by omega)).mono ?_);rw [HB.out];rintro e wn ⟨rfl,rfl⟩)
    go_roundw
    case rel=>exact ⟨k+1,l1,by omega,by omega,by go_num,hown,hq,HN⟩
    case measure=>simp [intOf];omega
   ·have HN:=Lib.hid (yC HL.out hbit)
    have HB:=Lib.hid hbit;clear hbit
    have hwl:(wd aO k).length≤20:=l7 (by decide) k
    have hln:l1.length<1000000000:=by omega
    go_wp2_with (first|(go_at_call 156;(with_reducible refine (lV ty k _ (by omega) (by omega)).mono ?_);rw [HB.out];rintro e wn ⟨rfl,rfl⟩)|(go_at_call 157;(with_reducible refine (kE k hlt _).mono ?_);rintro e wn ⟨rfl,hbn⟩;have hown2:=hown.below hbn;have hq2:=hq.trans (hbn.mono hbs);have BR:=Nat.le_trans hbl hq2.size;clear hown hbs xm)|(at_builtin;refine dH rfl (.tmp 49) (.tmp 52) 74 rfl Tryz.underlying74 jB rfl rfl hown2 hln BR ?_;intro v' w8 hown3 hb3))
    have hq3:=hq2.trans hb3
    rw [cO] at hown3
    go_roundw
    case rel=>exact ⟨k+1,_,by omega,by simp;omega,by go_num,hown3,hq3,HN⟩
    case measure=>simp [intOf];omega
  ·have HK:Hid (k=6):=Lib.hid (by omega)
   have HA1:Hid (aZ l0 [] aO ty=l1):=Lib.hid ((uo l0 [] aO hty (by decide) ajA).trans (by rw [HL.out,HK.out]))
   have hlen1:l1.length≤9:=by omega
   clear HL xm hk hlen hbs HK
   have HO:=hown;have HQ:=hq;clear hown hq
   go_wp2_with fail
   go_loopw [7,9] (fun v i wr=>∃k:Nat,∃l:List Str,k≤6∧l.length≤9+k∧i= .int .i64 k∧Texts wr b l v∧Below b w5 wr∧Hid (l=l1++(aK nt k).map fun i=>dD++wd aO i)) (fun _ i _=>6 - (intOf i).toNat)
   case atStart=>exact ⟨0,l1,by omega,by omega,rfl,HO,HQ,by simp [aK,Hid]⟩
   case round=>
    clear HQ HO
    obtain ⟨k,l2,hk,hlen,rfl,hown,hq,HL⟩:=hrel
    have hbs:=Nat.le_trans hbl hq.size
    have xm:=(AB.out 4 (.int .i64 nt) rfl).get hq
    by_cases hlt:k<6
    ·cases hbit:nt.testBit k
     ·have HN:=Lib.hid (Bg HL.out hbit)
      have HB:=Lib.hid hbit;clear hbit
      go_wp2_with (go_at_call 156;(with_reducible refine (lV nt k _ (by omega) (by omega)).mono ?_);rw [HB.out];rintro e wn ⟨rfl,rfl⟩)
      go_roundw
      case rel=>exact ⟨k+1,l2,by omega,by omega,by go_num,hown,hq,HN⟩
      case measure=>simp [intOf];omega
     ·have HN:=Lib.hid (yC HL.out hbit)
      have HB:=Lib.hid hbit;clear hbit
      have hwl:(wd aO k).length≤20:=l7 (by decide) k
      have hln:l2.length<1000000000:=by omega
      have HP:Hid (L (⟨#[110,111,110,45]⟩++B (wd aO k))=dD++wd aO k):=Lib.hid (nO _ _)
      go_wp2_with (first|(go_at_call 156;(with_reducible refine (lV nt k _ (by omega) (by omega)).mono ?_);rw [HB.out];rintro e wn ⟨rfl,rfl⟩)|(go_at_call 157;(with_reducible refine (kE k hlt _).mono ?_);rintro e wn ⟨rfl,hbn⟩;have hown2:=hown.below hbn;have hq2:=hq.trans (hbn.mono hbs);have BR:=Nat.le_trans hbl hq2.size;clear hown hbs xm)|(at_builtin;refine dH rfl (.tmp 62) (.tmp 66) 74 rfl Tryz.underlying74 jB rfl rfl hown2 hln BR ?_;intro v' w8 hown3 hb3))
      have hq3:=hq2.trans hb3
      rw [HP.out] at hown3
      go_roundw
      case rel=>exact ⟨k+1,_,by omega,by simp;omega,by go_num,hown3,hq3,HN⟩
      case measure=>simp [intOf];omega
    ·have HK:Hid (k=6):=Lib.hid (by omega)
     have HA2:Hid (aZ l1 dD aO nt=l2):=Lib.hid ((uo l1 dD aO hnt (by decide) afO).trans (by rw [HL.out,HK.out]))
     have hlen2:l2.length≤15:=by omega
     clear HL xm hk hlen hbs HK
     have HO:=hown;have HQ:=hq;clear hown hq
     go_wp2_with fail
     go_loopw [7,10] (fun v i wr=>∃k:Nat,∃l:List Str,k≤5∧l.length≤15+k∧i= .int .i64 k∧Texts wr b l v∧Below b w5 wr∧Hid (l=l2++(aK co k).map fun i=>[]++wd aY i)) (fun _ i _=>5 - (intOf i).toNat)
     case atStart=>exact ⟨0,l2,by omega,by omega,rfl,HO,HQ,by simp [aK,Hid]⟩
     case round=>
      clear HQ HO
      obtain ⟨k,l3,hk,hlen,rfl,hown,hq,HL⟩:=hrel
      have hbs:=Nat.le_trans hbl hq.size
      have xm:=(AB.out 5 (.int .i64 co) rfl).get hq
      by_cases hlt:k<5
      ·cases hbit:co.testBit k
       ·have HN:=Lib.hid (Bg HL.out hbit)
        have HB:=Lib.hid hbit;clear hbit
        go_wp2_with (go_at_call 156;(with_reducible refine (lV co k _ (by omega) (by omega)).mono ?_);rw [HB.out];rintro e wn ⟨rfl,rfl⟩)
        go_roundw
        case rel=>exact ⟨k+1,l3,by omega,by omega,by go_num,hown,hq,HN⟩
        case measure=>simp [intOf];omega
       ·have HN:=Lib.hid (yC HL.out hbit)
        have HB:=Lib.hid hbit;clear hbit
        have hwl:(wd aY k).length≤20:=l7 (by decide) k
        have hln:l3.length<1000000000:=by omega
        go_wp2_with (first|(go_at_call 156;(with_reducible refine (lV co k _ (by omega) (by omega)).mono ?_);rw [HB.out];rintro e wn ⟨rfl,rfl⟩)|(go_at_call 158;(with_reducible refine (jA k hlt _).mono ?_);rintro e wn ⟨rfl,rfl⟩;have hown2:=hown;have hq2:=hq;have BR:=hbs;clear hown hbs xm)|(at_builtin;refine dH rfl (.tmp 76) (.tmp 79) 74 rfl Tryz.underlying74 jB rfl rfl hown2 hln BR ?_;intro v' w8 hown3 hb3))
        have hq3:=hq2.trans hb3
        rw [cO] at hown3
        go_roundw
        case rel=>exact ⟨k+1,_,by omega,by simp;omega,by go_num,hown3,hq3,HN⟩
        case measure=>simp [intOf];omega
      ·have HK:Hid (k=5):=Lib.hid (by omega)
       have HA3:Hid (aZ l2 [] aY co=l3):=Lib.hid ((uo l2 [] aY hco (by decide) aeS).trans (by rw [HL.out,HK.out]))
       have hlen3:l3.length≤20:=by omega
       clear HL xm hk hlen hbs HK
       have HO:=hown;have HQ:=hq;clear hown hq
       go_wp2_with fail
       go_loopw [7,11] (fun v i wr=>∃k:Nat,∃l:List Str,k≤5∧l.length≤20+k∧i= .int .i64 k∧Texts wr b l v∧Below b w5 wr∧Hid (l=l3++(aK nc k).map fun i=>dD++wd aY i)) (fun _ i _=>5 - (intOf i).toNat)
       case atStart=>exact ⟨0,l3,by omega,by omega,rfl,HO,HQ,by simp [aK,Hid]⟩
       case round=>
        clear HQ HO
        obtain ⟨k,l4,hk,hlen,rfl,hown,hq,HL⟩:=hrel
        have hbs:=Nat.le_trans hbl hq.size
        have xm:=(AB.out 6 (.int .i64 nc) rfl).get hq
        by_cases hlt:k<5
        ·cases hbit:nc.testBit k
         ·have HN:=Lib.hid (Bg HL.out hbit)
          have HB:=Lib.hid hbit;clear hbit
          go_wp2_with (go_at_call 156;(with_reducible refine (lV nc k _ (by omega) (by omega)).mono ?_);rw [HB.out];rintro e wn ⟨rfl,rfl⟩)
          go_roundw
          case rel=>exact ⟨k+1,l4,by omega,by omega,by go_num,hown,hq,HN⟩
          case measure=>simp [intOf];omega
         ·have HN:=Lib.hid (yC HL.out hbit)
          have HB:=Lib.hid hbit;clear hbit
          have hwl:(wd aY k).length≤20:=l7 (by decide) k
          have hln:l4.length<1000000000:=by omega
          have HP:Hid (L (⟨#[110,111,110,45]⟩++B (wd aY k))=dD++wd aY k):=Lib.hid (nO _ _)
          go_wp2_with (first|(go_at_call 156;(with_reducible refine (lV nc k _ (by omega) (by omega)).mono ?_);rw [HB.out];rintro e wn ⟨rfl,rfl⟩)|(go_at_call 158;(with_reducible refine (jA k hlt _).mono ?_);rintro e wn ⟨rfl,rfl⟩;have hown2:=hown;have hq2:=hq;have BR:=hbs;clear hown hbs xm)|(at_builtin;refine dH rfl (.tmp 89) (.tmp 93) 74 rfl Tryz.underlying74 jB rfl rfl hown2 hln BR ?_;intro v' w8 hown3 hb3))
          have hq3:=hq2.trans hb3
          rw [HP.out] at hown3
          go_roundw
          case rel=>exact ⟨k+1,_,by omega,by simp;omega,by go_num,hown3,hq3,HN⟩
          case measure=>simp [intOf];omega
        ·have HK:Hid (k=5):=Lib.hid (by omega)
         have HA4:Hid (aZ l3 dD aY nc=l4):=Lib.hid ((uo l3 dD aY hnc (by decide) acZ).trans (by rw [HL.out,HK.out]))
         have as9:l4.length≤25:=by omega
         clear HL xm hk hlen hbs HK
         have HO:=hown;have HQ:=hq;clear hown hq
         have xs:=(AB.out 7 (.string sub) rfl).get HQ
         have hln:l4.length<1000000000:=by omega
         have hbs:=Nat.le_trans hbl HQ.size
         by_cases hs:L sub=[]
         ·have s0:sub.toList=[]:=by rw [dZ];exact hs
          obtain ⟨l5,hl5⟩:∃l,l4=l:=⟨_,rfl⟩
          have HSB:Hid (l5=bif L sub==[] then l4 else bf l4 (iM++L sub)):=Lib.hid (by rw [hs,←hl5];rfl)
          rw [hl5] at HO
          have hlen:l5.length≤26:=by rw [←hl5];omega
          clear hs hl5
          go_wp2_with fail
          go_loopw [7,12] (fun v i wr=>∃k:Nat,∃l:List Str,k≤17∧l.length≤26+k∧i= .int .i64 k∧Texts wr b l v∧Below b w5 wr∧Hid (l=l5++(aK ke k).map fun i=>fZ++wd bK i)) (fun _ i _=>17 - (intOf i).toNat)
          case atStart=>exact ⟨0,l5,by omega,by omega,rfl,HO,HQ,by simp [aK,Hid]⟩
          case round=>
           clear HQ HO
           obtain ⟨k,l6,hk,hlen,rfl,hown,hq,HL⟩:=hrel
           have hbs:=Nat.le_trans hbl hq.size
           have xm:=(AB.out 8 (.int .i64 ke) rfl).get hq
           by_cases hlt:k<17
           ·cases hbit:ke.testBit k
            ·have HN:=Lib.hid (Bg HL.out hbit)
             have HB:=Lib.hid hbit;clear hbit
             go_wp2_with (go_at_call 156;(with_reducible refine (lV ke k _ (by omega) (by omega)).mono ?_);rw [HB.out];rintro e wn ⟨rfl,rfl⟩)
             go_roundw
             case rel=>exact ⟨k+1,l6,by omega,by omega,by go_num,hown,hq,HN⟩
             case measure=>simp [intOf];omega
            ·have HN:=Lib.hid (yC HL.out hbit)
             have HB:=Lib.hid hbit;clear hbit
             have hwl:(wd bK k).length≤20:=l7 (by decide) k
             have hln:l6.length<1000000000:=by omega
             have HP:Hid (L (⟨#[119,105,116,104,58]⟩++B (wd bK k))=fZ++wd bK k):=Lib.hid (nO _ _)
             go_wp2_with (first|(go_at_call 156;(with_reducible refine (lV ke k _ (by omega) (by omega)).mono ?_);rw [HB.out];rintro e wn ⟨rfl,rfl⟩)|(go_at_call 159;(with_reducible refine (BO k hlt _).mono ?_);rintro e wn ⟨rfl,hbn⟩;have hown2:=hown.below hbn;have hq2:=hq.trans (hbn.mono hbs);have BR:=Nat.le_trans hbl hq2.size;clear hown hbs xm)|(at_builtin;refine dH rfl (.tmp 112) (.tmp 116) 74 rfl Tryz.underlying74 jB rfl rfl hown2 hln BR ?_;intro v' w8 hown3 hb3))
             have hq3:=hq2.trans hb3
             rw [HP.out] at hown3
             go_roundw
             case rel=>exact ⟨k+1,_,by omega,by simp;omega,by go_num,hown3,hq3,HN⟩
             case measure=>simp [intOf];omega
           ·have HK:Hid (k=17):=Lib.hid (by omega)
            have HA5:Hid (aZ l5 fZ bK ke=l6):=Lib.hid ((uo l5 fZ bK hke (by decide) abe).trans (by rw [HL.out,HK.out]))
            have hlen5:l6.length≤43:=by omega
            clear HL xm hk hlen hbs HK
            have HO:=hown;have HQ:=hq;clear hown hq
            have ct:=AT.get HQ
            have x9:=(AB.out 9 (.int .i64 ta) rfl).get HQ
            obtain ⟨A8,c8,rfl,_⟩:=HO.form
            go_wp2_with fail
            refine (o7 l6 A8 c8 b (B (wd iP ta)) (wd iP ta) rfl _ HO (Nat.le_trans hbl HQ.size) (by omega)).mono ?_
            rintro e wa ⟨A9,c9,rfl,nV,nX⟩
            have hlm:=iG l6 (wd iP ta)
            obtain ⟨m0,hm0⟩:∃l,bf l6 (wd iP ta)=l:=⟨_,rfl⟩
            rw [hm0] at nV hlm
            rw [hm0]
            have HM0:=Lib.hid hm0
            have HQ:=HQ.trans nX
            have arR:m0.length≤44:=by omega
            clear hm0 ct x9 HO nX hlm HT ht'
            dsimp only
            have x10:=(AB.out 10 (.int .i64 pk) rfl).get HQ
            have x11:=(AB.out 11 (.int .i64 pn) rfl).get HQ
            go_wp2_with fail
            refine (sJ ⟨#[112,111,119,101,114]⟩ eP rfl pk pn hpk hpn (by decide) _).mono ?_
            rintro e wb0 ⟨rfl,hbb⟩
            have zD:=nV.below hbb
            have HQ:=HQ.trans (hbb.mono (Nat.le_trans hbl HQ.size))
            clear x10 x11 nV hbb
            dsimp only
            go_wp2_with fail
            refine (o7 m0 A9 c9 b (B (bH eP pk pn)) (bH eP pk pn) rfl _ zD (Nat.le_trans hbl HQ.size) (by omega)).mono ?_
            rintro e wd0 ⟨A10,c10,rfl,nV,nX⟩
            have hlm:=iG m0 (bH eP pk pn)
            obtain ⟨m1,hm1⟩:∃l,bf m0 (bH eP pk pn)=l:=⟨_,rfl⟩
            rw [hm1] at nV hlm
            rw [hm1]
            have SL:=Lib.hid hm1
            have HQ:=HQ.trans nX
            have arS:m1.length≤45:=by omega
            clear hm1 zD nX hlm
            dsimp only
            have x12:=(AB.out 12 (.int .i64 tk) rfl).get HQ
            have x13:=(AB.out 13 (.int .i64 tn) rfl).get HQ
            go_wp2_with fail
            refine (sJ ⟨#[116,111,117,103,104]⟩ fE rfl tk tn htk htn (by decide) _).mono ?_
            rintro e wb1 ⟨rfl,hbb⟩
            have zD:=nV.below hbb
            have HQ:=HQ.trans (hbb.mono (Nat.le_trans hbl HQ.size))
            clear x12 x13 nV hbb
            dsimp only
            go_wp2_with fail
            refine (o7 m1 A10 c10 b (B (bH fE tk tn)) (bH fE tk tn) rfl _ zD (Nat.le_trans hbl HQ.size) (by omega)).mono ?_
            rintro e wd1 ⟨A11,c11,rfl,nV,nX⟩
            have hlm:=iG m1 (bH fE tk tn)
            obtain ⟨m2,hm2⟩:∃l,bf m1 (bH fE tk tn)=l:=⟨_,rfl⟩
            rw [hm2] at nV hlm
            rw [hm2]
            have EI:=Lib.hid hm2
            have HQ:=HQ.trans nX
            have arT:m2.length≤46:=by omega
            clear hm2 zD nX hlm
            dsimp only
            have x14:=(AB.out 14 (.int .i64 vk) rfl).get HQ
            have x15:=(AB.out 15 (.int .i64 vn) rfl).get HQ
            go_wp2_with fail
            refine (sJ ⟨#[118,97,108,117,101]⟩ fH rfl vk vn hvk hvn (by decide) _).mono ?_
            rintro e wb2 ⟨rfl,hbb⟩
            have zD:=nV.below hbb
            have HQ:=HQ.trans (hbb.mono (Nat.le_trans hbl HQ.size))
            clear x14 x15 nV hbb
            dsimp only
            go_wp2_with fail
            refine (o7 m2 A11 c11 b (B (bH fH vk vn)) (bH fH vk vn) rfl _ zD (Nat.le_trans hbl HQ.size) (by omega)).mono ?_
            rintro e wd2 ⟨A12,c12,rfl,nV,nX⟩
            have hlm:=iG m2 (bH fH vk vn)
            obtain ⟨m3,O6⟩:∃l,bf m2 (bH fH vk vn)=l:=⟨_,rfl⟩
            rw [O6] at nV hlm
            rw [O6]
            have HM3:=Lib.hid O6
            have HQ:=HQ.trans nX
            have arV:m3.length≤47:=by omega
            clear O6 zD nX hlm
            dsimp only
            have Oe:Hid (FW=m3):=Lib.hid (by rw [HFW.out,HLA.out,HLB.out,HL0.out,HA1.out,HA2.out,HA3.out,HA4.out,←HSB.out,HA5.out,HM0.out,SL.out,EI.out,HM3.out])
            have HFI:=HB5.out.trans (HQ.mono (by have h1:=HB5.out.size;have h2:=Ic.out;omega))
            by_cases hm:m3=[]
            ·have HR:Hid (R=nP):=Lib.hid (by rw [HFT.out,Oe.out,if_pos hm])
             have t0:=eqn m3.length 0 (by rw [hm];rfl)
             clear hm
             go_wp2
             go_ret
             exact ⟨dV (by rw [HR.out];rfl),HFI⟩
            ·have HR:Hid (R=Lib.join m3 [32]):=Lib.hid (by rw [HFT.out,Oe.out,if_neg hm])
             have t0:=pK m3.length 0 (by intro h;exact hm (List.eq_nil_of_length_eq_zero (by omega)))
             have hj:(Lib.join m3 [32]).length≤140737488355328:=by rw [←Oe.out];exact hjl.out
             have HJ:=Lib.hid hj
             clear hm hj
             go_wp2_with (go_at_call 84;(with_reducible refine (Ut m3 A12 c12 b _ _ nV [32] rfl HJ.out (by omega)).mono ?_);rintro e wz ⟨rfl,rfl⟩)
             go_ret
             exact ⟨dV (by rw [HR.out]),HFI⟩
         ·have s0:sub.toList.isEmpty=false:=by rw [dZ];simpa using hs
          have s1:¬sub.toList=[]:=by rw [dZ];exact hs
          obtain ⟨l5,hl5⟩:∃l,l4++[iM++L sub]=l:=⟨_,rfl⟩
          have HSB:Hid (l5=bif L sub==[] then l4 else bf l4 (iM++L sub)):=Lib.hid (by rw [beq_eq_false_iff_ne.2 hs,←hl5];show _=bf l4 _;rw [bf,if_neg (by simp [iM])])
          have HP:Hid (L (⟨#[115,117,98,58]⟩++sub)=iM++L sub):=Lib.hid (nO _ _)
          have hlen:l5.length≤26:=by rw [←hl5,List.length_append];simp;omega
          have HL5:=Lib.hid hl5
          clear hs hl5
          go_wp2_with (at_builtin;refine dH rfl (.tmp 98) (.tmp 102) 74 rfl Tryz.underlying74 jB rfl rfl HO hln hbs ?_;intro v' w8 hown3 hb3)
          rw [HP.out,HL5.out] at hown3
          have hq3:=HQ.trans hb3
          clear HO HQ HL5
          have HO:=hown3;have HQ:=hq3;clear hown3 hq3
          go_loopw [7,12] (fun v i wr=>∃k:Nat,∃l:List Str,k≤17∧l.length≤26+k∧i= .int .i64 k∧Texts wr b l v∧Below b w5 wr∧Hid (l=l5++(aK ke k).map fun i=>fZ++wd bK i)) (fun _ i _=>17 - (intOf i).toNat)
          case atStart=>exact ⟨0,l5,by omega,by omega,rfl,HO,HQ,by simp [aK,Hid]⟩
          case round=>
           clear HQ HO
           obtain ⟨k,l6,hk,hlen,rfl,hown,hq,HL⟩:=hrel
           have hbs:=Nat.le_trans hbl hq.size
           have xm:=(AB.out 8 (.int .i64 ke) rfl).get hq
           by_cases hlt:k<17
           ·cases hbit:ke.testBit k
            ·have HN:=Lib.hid (Bg HL.out hbit)
             have HB:=Lib.hid hbit;clear hbit
             go_wp2_with (go_at_call 156;(with_reducible refine (lV ke k _ (by omega) (by omega)).mono ?_);rw [HB.out];rintro e wn ⟨rfl,rfl⟩)
             go_roundw
             case rel=>exact ⟨k+1,l6,by omega,by omega,by go_num,hown,hq,HN⟩
             case measure=>simp [intOf];omega
            ·have HN:=Lib.hid (yC HL.out hbit)
             have HB:=Lib.hid hbit;clear hbit
             have hwl:(wd bK k).length≤20:=l7 (by decide) k
             have hln:l6.length<1000000000:=by omega
             have HP:Hid (L (⟨#[119,105,116,104,58]⟩++B (wd bK k))=fZ++wd bK k):=Lib.hid (nO _ _)
             go_wp2_with (first|(go_at_call 156;(with_reducible refine (lV ke k _ (by omega) (by omega)).mono ?_);rw [HB.out];rintro e wn ⟨rfl,rfl⟩)|(go_at_call 159;(with_reducible refine (BO k hlt _).mono ?_);rintro e wn ⟨rfl,hbn⟩;have hown2:=hown.below hbn;have hq2:=hq.trans (hbn.mono hbs);have BR:=Nat.le_trans hbl hq2.size;clear hown hbs xm)|(at_builtin;refine dH rfl (.tmp 112) (.tmp 116) 74 rfl Tryz.underlying74 jB rfl rfl hown2 hln BR ?_;intro v' w8 hown3 hb3))
             have hq3:=hq2.trans hb3
             rw [HP.out] at hown3
             go_roundw
             case rel=>exact ⟨k+1,_,by omega,by simp;omega,by go_num,hown3,hq3,HN⟩
             case measure=>simp [intOf];omega
           ·have HK:Hid (k=17):=Lib.hid (by omega)
            have HA5:Hid (aZ l5 fZ bK ke=l6):=Lib.hid ((uo l5 fZ bK hke (by decide) abe).trans (by rw [HL.out,HK.out]))
            have hlen5:l6.length≤43:=by omega
            clear HL xm hk hlen hbs HK
            have HO:=hown;have HQ:=hq;clear hown hq
            have ct:=AT.get HQ
            have x9:=(AB.out 9 (.int .i64 ta) rfl).get HQ
            obtain ⟨A8,c8,rfl,_⟩:=HO.form
            go_wp2_with fail
            refine (o7 l6 A8 c8 b (B (wd iP ta)) (wd iP ta) rfl _ HO (Nat.le_trans hbl HQ.size) (by omega)).mono ?_
            rintro e wa ⟨A9,c9,rfl,nV,nX⟩
            have hlm:=iG l6 (wd iP ta)
            obtain ⟨m0,hm0⟩:∃l,bf l6 (wd iP ta)=l:=⟨_,rfl⟩
            rw [hm0] at nV hlm
            rw [hm0]
            have HM0:=Lib.hid hm0
            have HQ:=HQ.trans nX
            have arR:m0.length≤44:=by omega
            clear hm0 ct x9 HO nX hlm HT ht'
            dsimp only
            have x10:=(AB.out 10 (.int .i64 pk) rfl).get HQ
            have x11:=(AB.out 11 (.int .i64 pn) rfl).get HQ
            go_wp2_with fail
            refine (sJ ⟨#[112,111,119,101,114]⟩ eP rfl pk pn hpk hpn (by decide) _).mono ?_
            rintro e wb0 ⟨rfl,hbb⟩
            have zD:=nV.below hbb
            have HQ:=HQ.trans (hbb.mono (Nat.le_trans hbl HQ.size))
            clear x10 x11 nV hbb
            dsimp only
            go_wp2_with fail
            refine (o7 m0 A9 c9 b (B (bH eP pk pn)) (bH eP pk pn) rfl _ zD (Nat.le_trans hbl HQ.size) (by omega)).mono ?_
            rintro e wd0 ⟨A10,c10,rfl,nV,nX⟩
            have hlm:=iG m0 (bH eP pk pn)
            obtain ⟨m1,hm1⟩:∃l,bf m0 (bH eP pk pn)=l:=⟨_,rfl⟩
            rw [hm1] at nV hlm
            rw [hm1]
            have SL:=Lib.hid hm1
            have HQ:=HQ.trans nX
            have arS:m1.length≤45:=by omega
            clear hm1 zD nX hlm
            dsimp only
            have x12:=(AB.out 12 (.int .i64 tk) rfl).get HQ
            have x13:=(AB.out 13 (.int .i64 tn) rfl).get HQ
            go_wp2_with fail
            refine (sJ ⟨#[116,111,117,103,104]⟩ fE rfl tk tn htk htn (by decide) _).mono ?_
            rintro e wb1 ⟨rfl,hbb⟩
            have zD:=nV.below hbb
            have HQ:=HQ.trans (hbb.mono (Nat.le_trans hbl HQ.size))
            clear x12 x13 nV hbb
            dsimp only
            go_wp2_with fail
            refine (o7 m1 A10 c10 b (B (bH fE tk tn)) (bH fE tk tn) rfl _ zD (Nat.le_trans hbl HQ.size) (by omega)).mono ?_
            rintro e wd1 ⟨A11,c11,rfl,nV,nX⟩
            have hlm:=iG m1 (bH fE tk tn)
            obtain ⟨m2,hm2⟩:∃l,bf m1 (bH fE tk tn)=l:=⟨_,rfl⟩
            rw [hm2] at nV hlm
            rw [hm2]
            have EI:=Lib.hid hm2
            have HQ:=HQ.trans nX
            have arT:m2.length≤46:=by omega
            clear hm2 zD nX hlm
            dsimp only
            have x14:=(AB.out 14 (.int .i64 vk) rfl).get HQ
            have x15:=(AB.out 15 (.int .i64 vn) rfl).get HQ
            go_wp2_with fail
            refine (sJ ⟨#[118,97,108,117,101]⟩ fH rfl vk vn hvk hvn (by decide) _).mono ?_
            rintro e wb2 ⟨rfl,hbb⟩
            have zD:=nV.below hbb
            have HQ:=HQ.trans (hbb.mono (Nat.le_trans hbl HQ.size))
            clear x14 x15 nV hbb
            dsimp only
            go_wp2_with fail
            refine (o7 m2 A11 c11 b (B (bH fH vk vn)) (bH fH vk vn) rfl _ zD (Nat.le_trans hbl HQ.size) (by omega)).mono ?_
            rintro e wd2 ⟨A12,c12,rfl,nV,nX⟩
            have hlm:=iG m2 (bH fH vk vn)
            obtain ⟨m3,O6⟩:∃l,bf m2 (bH fH vk vn)=l:=⟨_,rfl⟩
            rw [O6] at nV hlm
            rw [O6]
            have HM3:=Lib.hid O6
            have HQ:=HQ.trans nX
            have arV:m3.length≤47:=by omega
            clear O6 zD nX hlm
            dsimp only
            have Oe:Hid (FW=m3):=Lib.hid (by rw [HFW.out,HLA.out,HLB.out,HL0.out,HA1.out,HA2.out,HA3.out,HA4.out,←HSB.out,HA5.out,HM0.out,SL.out,EI.out,HM3.out])
            have HFI:=HB5.out.trans (HQ.mono (by have h1:=HB5.out.size;have h2:=Ic.out;omega))
            by_cases hm:m3=[]
            ·have HR:Hid (R=nP):=Lib.hid (by rw [HFT.out,Oe.out,if_pos hm])
             have t0:=eqn m3.length 0 (by rw [hm];rfl)
             clear hm
             go_wp2
             go_ret
             exact ⟨dV (by rw [HR.out];rfl),HFI⟩
            ·have HR:Hid (R=Lib.join m3 [32]):=Lib.hid (by rw [HFT.out,Oe.out,if_neg hm])
             have t0:=pK m3.length 0 (by intro h;exact hm (List.eq_nil_of_length_eq_zero (by omega)))
             have hj:(Lib.join m3 [32]).length≤140737488355328:=by rw [←Oe.out];exact hjl.out
             have HJ:=Lib.hid hj
             clear hm hj
             go_wp2_with (go_at_call 84;(with_reducible refine (Ut m3 A12 c12 b _ _ nV [32] rfl HJ.out (by omega)).mono ?_);rintro e wz ⟨rfl,rfl⟩)
             go_ret
             exact ⟨dV (by rw [HR.out]),HFI⟩
theorem ai2 (zone who self types aV colors aP:Int) (sub:ByteArray) (keys dJ pk pn tk tn vk vn:Int) (w:World) (HV:Hid (dh ⟨zone,who,self,types,aV,colors,aP,sub,keys,dJ,pk,pn,tk,tn,vk,vn⟩=false)):
 Calls Tryz.prog 66 #[.agg #[.int .i64 zone, .int .i64 who, .int .i64 self, .int .i64 types, .int .i64 aV, .int .i64 colors, .int .i64 aP, .string sub, .int .i64 keys, .int .i64 dJ, .int .i64 pk, .int .i64 pn, .int .i64 tk, .int .i64 tn, .int .i64 vk, .int .i64 vn]] w fun e w'=>e= .returned (.string ⟨#[]⟩)∧Below w.heap.size w w':=by
 go_enter Tryz.func66,Tryz.ntmps66
 go_wp2_with (go_at_call 56;(with_reducible refine (RN _ _ _ _ _ _ _ _ _ _ _ _ _ _ _ _ _ false HV).mono ?_);rintro e w1 ⟨rfl,hb1⟩)
 go_ret
 exact ⟨rfl,aaC ((Below.refl _ _).alloc (Nat.le_refl _) _) hb1⟩
theorem ug (f:aH) (w:World):
 Calls Tryz.prog 66 #[.agg f.cells] w fun e w'=>e= .returned (.string (B (textOf f)))∧Below w.heap.size w w':=by
 obtain ⟨zone,who,self,types,aV,colors,aP,sub,keys,dJ,pk,pn,tk,tn,vk,vn⟩:=f
 cases hv:dh ⟨zone,who,self,types,aV,colors,aP,sub,keys,dJ,pk,pn,tk,tn,vk,vn⟩ with
 |false=>
  refine (ai2 _ _ _ _ _ _ _ _ _ _ _ _ _ _ _ _ w (Lib.hid hv)).mono fun e w' ⟨he,hb⟩=>⟨?_,hb⟩
  rw [he,textOf,hv];rfl
 |true=>
  have hv2:=hv
  simp only [dh,mF,Bool.and_eq_true,Bool.or_eq_true,beq_iff_eq] at hv2
  obtain ⟨⟨g1,g2,g3,g4,g5⟩,⟨g6,g7,g8⟩,⟨g9,g10,g11⟩,g12,g13,g14,g15⟩:=hv2
  obtain ⟨z,rfl,hz⟩:=jO g1
  obtain ⟨wh,rfl,hwh⟩:=jO g2
  obtain ⟨se,rfl,hse⟩:=jO g3
  obtain ⟨ta,rfl,hta⟩:=jO g4
  obtain ⟨ke,rfl,hke⟩:=jO g5
  obtain ⟨ty,rfl,hty⟩:=jO g6
  obtain ⟨nt,rfl,hnt⟩:=jO g7
  obtain ⟨co,rfl,hco⟩:=jO g9
  obtain ⟨nc,rfl,hnc⟩:=jO g10
  obtain ⟨pk,pn,rfl,rfl,hpk,hpn⟩:=AX g13
  obtain ⟨tk,tn,rfl,rfl,htk,htn⟩:=AX g14
  obtain ⟨vk,vn,rfl,rfl,hvk,hvn⟩:=AX g15
  have hsub:sub.size≤32:=by
   rw [←dN]
   rcases g12 with h|h
   ·rw [h];simp
   ·exact tu h
  have hj:=Et (lu z wh se ty nt co nc sub ke ta pk pn tk tn vk vn) (by show (L sub).length≤32;rw [dN];exact hsub) hpn htn hvn
  refine (agC z wh se ty nt co nc sub ke ta pk pn tk tn vk vn w (Lib.hid hv) (by omega) (by omega) (by omega) (by omega) (by omega) (by omega) (by omega) hsub (by omega) (by omega) hpk hpn htk htn hvk hvn (Lib.hid (by omega))).mono fun e w' ⟨he,hb⟩=>⟨?_,hb⟩
  rw [he,textOf,hv];rfl
section words
variable (a b c d e f g:Int) (s:ByteArray) (k t p q u v y z:Int)
theorem amn (i x:Nat) (hi:i<6) (hx:x<2 ^ 31):some (iW ⟨a,b,c,(x:Int),e,f,g,s,k,t,p,q,u,v,y,z⟩ ([]++wd aO i))=some ⟨a,b,c,((x |||2 ^ i:Nat):Int),e,f,g,s,k,t,p,q,u,v,y,z⟩:=by
 rw [←yL hx (by omega:i<31)]
 rcases i with _|_|_|_|_|_|i
 all_goals first|omega|kernel_rfl
theorem aiU (i x:Nat) (hi:i<6) (hx:x<2 ^ 31):some (iW ⟨a,b,c,d,(x:Int),f,g,s,k,t,p,q,u,v,y,z⟩ (dD++wd aO i))=some ⟨a,b,c,d,((x |||2 ^ i:Nat):Int),f,g,s,k,t,p,q,u,v,y,z⟩:=by
 rw [←yL hx (by omega:i<31)]
 rcases i with _|_|_|_|_|_|i
 all_goals first|omega|kernel_rfl
theorem aiT (i x:Nat) (hi:i<5) (hx:x<2 ^ 31):some (iW ⟨a,b,c,d,e,(x:Int),g,s,k,t,p,q,u,v,y,z⟩ ([]++wd aY i))=some ⟨a,b,c,d,e,((x |||2 ^ i:Nat):Int),g,s,k,t,p,q,u,v,y,z⟩:=by
 rw [←yL hx (by omega:i<31)]
 rcases i with _|_|_|_|_|i
 all_goals first|omega|kernel_rfl
theorem afY (i x:Nat) (hi:i<5) (hx:x<2 ^ 31):some (iW ⟨a,b,c,d,e,f,(x:Int),s,k,t,p,q,u,v,y,z⟩ (dD++wd aY i))=some ⟨a,b,c,d,e,f,((x |||2 ^ i:Nat):Int),s,k,t,p,q,u,v,y,z⟩:=by
 rw [←yL hx (by omega:i<31)]
 rcases i with _|_|_|_|_|i
 all_goals first|omega|kernel_rfl
theorem ao1 (i x:Nat) (hi:i<17) (hx:x<2 ^ 31):some (iW ⟨a,b,c,d,e,f,g,s,(x:Int),t,p,q,u,v,y,z⟩ (fZ++wd bK i))=some ⟨a,b,c,d,e,f,g,s,((x |||2 ^ i:Nat):Int),t,p,q,u,v,y,z⟩:=by
 rw [←yL hx (by omega:i<31)]
 rcases i with _|_|_|_|_|_|_|_|_|_|_|_|_|_|_|_|_|i
 all_goals first|omega|kernel_rfl
theorem amo (i:Nat) (hi:i<6) (h0:wd bU i≠[]):some (iW ⟨a,b,c,d,e,f,g,s,k,t,p,q,u,v,y,z⟩ (wd bU i))=some ⟨(i:Nat),b,c,d,e,f,g,s,k,t,p,q,u,v,y,z⟩:=by
 rcases i with _|_|_|_|_|_|i
 ·exact absurd rfl h0
 all_goals first|omega|kernel_rfl
theorem ao4 (i:Nat) (hi:i<3) (h0:wd iQ i≠[]):some (iW ⟨a,b,c,d,e,f,g,s,k,t,p,q,u,v,y,z⟩ (wd iQ i))=some ⟨a,(i:Nat),c,d,e,f,g,s,k,t,p,q,u,v,y,z⟩:=by
 rcases i with _|_|_|i
 ·exact absurd rfl h0
 all_goals first|omega|kernel_rfl
theorem amm (i:Nat) (hi:i<3) (h0:wd fU i≠[]):some (iW ⟨a,b,c,d,e,f,g,s,k,t,p,q,u,v,y,z⟩ (wd fU i))=some ⟨a,b,(i:Nat),d,e,f,g,s,k,t,p,q,u,v,y,z⟩:=by
 rcases i with _|_|_|i
 ·exact absurd rfl h0
 all_goals first|omega|kernel_rfl
theorem ao3 (i:Nat) (hi:i<3) (h0:wd iP i≠[]):some (iW ⟨a,b,c,d,e,f,g,s,k,t,p,q,u,v,y,z⟩ (wd iP i))=some ⟨a,b,c,d,e,f,g,s,k,(i:Nat),p,q,u,v,y,z⟩:=by
 rcases i with _|_|_|i
 ·exact absurd rfl h0
 all_goals first|omega|kernel_rfl
theorem RJ {w name r:Str} {n:Int} {k:Nat} (h:iD w (name++wd fV k)=some r) (hn:rdNum r=some n):qr w name k=some (k,n):=by unfold qr;rw [h];simp [hn]
theorem RI {w name:Str} {k:Nat} (h:iD w (name++wd fV k)=none):qr w name k=none:=by unfold qr;rw [h];rfl
theorem NR (w name:Str):lG w name=(match qr w name 1 with|some x=>x|none=>match qr w name 2 with|some x=>x|none=>match qr w name 3 with|some x=>x|none=>(0,0)):=by
 show ((([1,2,3]:List Nat)).findSome? (qr w name)).getD (0,0)=_
 simp only [List.findSome?]
 cases qr w name 1 with
 |some x=>rfl
 |none=>cases qr w name 2 with
  |some x=>rfl
  |none=>cases qr w name 3 with
   |some x=>rfl
   |none=>rfl
theorem X0 {w name r:Str} {n:Int} (h:iD w (name++wd fV 1)=some r) (hn:rdNum r=some n):lG w name=(1,n):=by rw [NR,RJ h hn]
theorem X4 {w name r:Str} {n:Int} (h1:iD w (name++wd fV 1)=none) (h:iD w (name++wd fV 2)=some r) (hn:rdNum r=some n):lG w name=(2,n):=by rw [NR,RI h1,RJ h hn]
theorem X5 {w name r:Str} {n:Int} (h1:iD w (name++wd fV 1)=none) (h2:iD w (name++wd fV 2)=none) (h:iD w (name++wd fV 3)=some r) (hn:rdNum r=some n):lG w name=(3,n):=by rw [NR,RI h1,RI h2,RJ h hn]
theorem Qb {F G:aH} {w:Str} {p t v:Nat × Int} (h0:kP bU w=0) (h1:kP iQ w=0) (h2:kP fU w=0) (h3:kP iP w=0) (h4:iD w iM=none) (hp:lG w eP=p) (ht:lG w fE=t) (hv:lG w fH=v)
 (hn:∀F,CJ F w=F) (hG:ade F 0 0 0 0 none p t v=G):iW F w=G:=by unfold iW;rw [h0,h1,h2,h3,h4,hp,ht,hv,hn,hG]
theorem aiV (i n:Nat) (hi:i<4) (h0:i≠0) (hn:n≤1000000):some (iW ⟨a,b,c,d,e,f,g,s,k,t,p,q,u,v,y,z⟩ (eP++wd fV i++Lib.itoa n))=some ⟨a,b,c,d,e,f,g,s,k,t,(i:Nat),(n:Nat),u,v,y,z⟩:=by
 have hno:=xP n hn
 generalize Lib.itoa (n:Nat)=r at *
 rcases i with _|_|_|_|i
 ·exact absurd rfl h0
 ·exact congrArg some (Qb rfl rfl rfl rfl rfl (X0 (r:=r) rfl hno) rfl rfl (fun _=>rfl) rfl)
 ·exact congrArg some (Qb rfl rfl rfl rfl rfl (X4 (r:=r) rfl rfl hno) rfl rfl (fun _=>rfl) rfl)
 ·exact congrArg some (Qb rfl rfl rfl rfl rfl (X5 (r:=r) rfl rfl rfl hno) rfl rfl (fun _=>rfl) rfl)
 ·omega
theorem aiW (i n:Nat) (hi:i<4) (h0:i≠0) (hn:n≤1000000):some (iW ⟨a,b,c,d,e,f,g,s,k,t,p,q,u,v,y,z⟩ (fE++wd fV i++Lib.itoa n))=some ⟨a,b,c,d,e,f,g,s,k,t,p,q,(i:Nat),(n:Nat),y,z⟩:=by
 have hno:=xP n hn
 generalize Lib.itoa (n:Nat)=r at *
 rcases i with _|_|_|_|i
 ·exact absurd rfl h0
 ·exact congrArg some (Qb rfl rfl rfl rfl rfl rfl (X0 (r:=r) rfl hno) rfl (fun _=>rfl) rfl)
 ·exact congrArg some (Qb rfl rfl rfl rfl rfl rfl (X4 (r:=r) rfl rfl hno) rfl (fun _=>rfl) rfl)
 ·exact congrArg some (Qb rfl rfl rfl rfl rfl rfl (X5 (r:=r) rfl rfl rfl hno) rfl (fun _=>rfl) rfl)
 ·omega
theorem aiX (i n:Nat) (hi:i<4) (h0:i≠0) (hn:n≤1000000):some (iW ⟨a,b,c,d,e,f,g,s,k,t,p,q,u,v,y,z⟩ (fH++wd fV i++Lib.itoa n))=some ⟨a,b,c,d,e,f,g,s,k,t,p,q,u,v,(i:Nat),(n:Nat)⟩:=by
 have hno:=xP n hn
 generalize Lib.itoa (n:Nat)=r at *
 rcases i with _|_|_|_|i
 ·exact absurd rfl h0
 ·exact congrArg some (Qb rfl rfl rfl rfl rfl rfl rfl (X0 (r:=r) rfl hno) (fun _=>rfl) rfl)
 ·exact congrArg some (Qb rfl rfl rfl rfl rfl rfl rfl (X4 (r:=r) rfl rfl hno) (fun _=>rfl) rfl)
 ·exact congrArg some (Qb rfl rfl rfl rfl rfl rfl rfl (X5 (r:=r) rfl rfl rfl hno) (fun _=>rfl) rfl)
 ·omega
end words
theorem ao2 (F:aH) (r:Str):some (iW F (iM++r))=some { F with sub:=B r } :=by
 refine congrArg some ?_
 unfold iW
 rw [show kP bU (iM++r)=0 from rfl,show kP iQ (iM++r)=0 from rfl,show kP fU (iM++r)=0 from rfl,show kP iP (iM++r)=0 from rfl,show iD (iM++r) iM=some r from rfl,
  show lG (iM++r) eP=(0,0) from rfl,show lG (iM++r) fE=(0,0) from rfl,show lG (iM++r) fH=(0,0) from rfl,show ∀F,CJ F (iM++r)=F from fun _=>rfl]
 rfl
theorem aiS:VW (fun f w=>some (iW f w)):=⟨amn,aiU,aiT,afY,ao1,amo,ao4,amm,ao3,ao2,aiV,aiW,aiX⟩
theorem Zu (st:aH→Str→aH) (l:List Str):∀f,mP (fun f w=>some (st f w)) f l=some (l.foldl st f):=by
 induction l with
 |nil=>intro f;rfl
 |cons x r ih=>intro f;exact ih _
def CO (s:Str):Option aH:=if textOf ((gu 32 s).foldl iW aaB)=s∧dh ((gu 32 s).foldl iW aaB)=true then some ((gu 32 s).foldl iW aaB) else none
theorem afd {w:Str} (h:oI w):Flat w:=List.all_eq_true.2 fun c hc=>by
 have h1:=List.all_eq_true.1 h c hc
 have key:∀n:Fin 256,okB (UInt8.ofNat n.val)=true→(!(UInt8.ofNat n.val==40 || (UInt8.ofNat n.val==41 || (UInt8.ofNat n.val==91 || UInt8.ofNat n.val==93))))=true:=by decide +kernel
 have:=key ⟨c.toNat,c.toNat_lt⟩
 rw [UInt8.ofNat_toNat] at this
 exact this h1
theorem Flat.app {a b:Str} (ha:Flat a) (hb:Flat b):Flat (a++b):=by
 unfold Flat at *;rw [List.all_append,ha,hb];rfl
theorem TS:∀(l:List Str),(∀x∈l,Flat x)→Flat (Lib.join l [32])
 |[],_=>by rw [Lib.join_nil];rfl
 |[x],h=>by rw [Lib.join_one];exact h x (by simp)
 |x::y::r,h=>by
  rw [fA]
  exact ((h x (by simp)).app (by rfl)).app (TS (y::r) (fun z hz=>h z (List.mem_cons_of_mem _ hz)))
theorem ZW {f:aH} (h:dh f=true):CO (textOf f)=some f:=by
 obtain ⟨hf,hok⟩:=BP h
 have ht:textOf f=iI (qC f):=by unfold textOf;rw [if_pos h]
 have hfold:=aa1 _ aiS _ hok
 rw [hf,Zu] at hfold
 injection hfold with hfold
 have hF:Flat (iI (qC f)):=by
  unfold iI;split
  ·rfl
  ·exact TS _ fun x hx=>afd (KJ _ hok x hx)
 have hE:(gu 32 (textOf f)).foldl iW aaB=f:=by
  rw [ht,Zn _ _ hF]
  by_cases hw:gG (qC f)=[]
  ·rw [hw] at hfold
   have:iI (qC f)=nP:=by unfold iI;rw [if_pos hw]
   rw [this,show splitOn 32 nP=[nP] from by decide]
   exact (show [nP].foldl iW aaB=aaB from by kernel_rfl).trans hfold
  ·rw [zx _ hok hw];exact hfold
 unfold CO;rw [hE,if_pos ⟨rfl,h⟩]
theorem JU (s:Str):CO s=bW s:=by
 cases hp:bW s with
 |some h=>
  obtain ⟨h1,h2⟩:=Qa hp
  rw [←h2];exact ZW h1
 |none=>
  cases hq:CO s with
  |none=>rfl
  |some g=>
   unfold CO at hq;split at hq
   ·rename_i hh
    injection hq with hq
    rw [hq] at hh
    have:=nI hh.2
    rw [hh.1,hp] at this;cases this
   ·cases hq
end Go.Proofs.YtdnnkgkondkhfaaGreatDoor
namespace Go.Proofs.YtdnnkgkondkhfaaGreatDoor
open Go.ChangeShapes Go.WideShapes Go.RowKit
theorem ai1 (s:ByteArray) (w:World) (hs:s.size<100000000):Calls Tryz.prog 41 #[.string s, .int .u8 32] w (kR w (gu 32 (L s))):=
 Ql s 32 w hs (by decide)
theorem GK (f:aH) (R:Bool) (HR:Hid (dh f=R)) (w:World):Calls Tryz.prog 56 #[.agg f.cells] w fun e w'=>e= .returned (.bool R)∧Below w.heap.size w w':=
 RN f.zone f.who f.self f.types f.aV f.colors f.aP f.sub f.keys f.dJ f.pk f.pn f.tk f.tn f.vk f.vn w R HR
theorem Fr.setRow {g b:Nat} {w w':World} (h:Fr g b w w') (cs:Array Value) (hg:b≤g:=by exact Nat.le_refl _):Fr g b w (w'.setRow g cs):=⟨below_setRow h.bel hg cs,fun k hk hkg=>(setRow_other w' g k cs (by omega)).trans (h.keep k hk hkg)⟩
theorem QY (c:UInt8) (s:Str):∀i,∀x∈(dst c s i).1,x.length≤s.length
 |0,x,h=>by simp [dst] at h
 |i+1,x,h=>by
  rw [dst] at h;split at h
  ·rcases List.mem_append.1 h with h|h
   ·exact QY c s i x h
   ·rw [List.mem_singleton.1 h];simp;omega
  ·exact QY c s i x h
theorem aci (c:UInt8) (s:Str):∀x∈gu c s,x.length≤s.length:=by
 intro x h
 unfold gu at h
 rcases List.mem_append.1 h with h|h
 ·exact QY c s _ x h
 ·rw [List.mem_singleton.1 h];simp
theorem ach (c:UInt8) (s:Str):(gu c s).length≤s.length+1:=by
 unfold gu;have:=(WQ c s s.length).2;simp;omega
theorem acg {α β:Type} (st:α→β→α) (f:α) (l:List β) (k:Nat) (h:k<l.length):(l.drop k).foldl st f=(l.drop (k+1)).foldl st (st f l[k]):=by
 rw [List.drop_eq_getElem_cons h];rfl
theorem GL (s:ByteArray) (w:World) (hs:s.size<100000000):
 Calls Tryz.prog 72 #[.string s] w fun e w'=>e= .returned (ER (CO (L s)))∧Below w.heap.size w w':=by
 obtain ⟨R,hR⟩:∃R,CO (L s)=R:=⟨_,rfl⟩
 rw [hR]
 have HR:Hid ((if textOf ((gu 32 (L s)).foldl iW aaB)=L s∧dh ((gu 32 (L s)).foldl iW aaB)=true then some ((gu 32 (L s)).foldl iW aaB) else none)=R):=Lib.hid hR
 clear hR
 have hlen:=ach 32 (L s)
 have hmem:Hid (∀x∈gu 32 (L s),x.length<100000000):=fun x hx=>by have:=aci 32 (L s) x hx;rw [dN] at this;omega
 rw [dN] at hlen
 have HB0:Hid (Below w.heap.size w ((w.alloc (.cells aaB.cells TF)).alloc (.cells aaB.cells TF))):=Lib.hid (((Below.refl _ _).alloc (Nat.le_refl _) _).alloc (by simp) _)
 go_enter Tryz.func72,Tryz.ntmps72
 go_wp2_with (go_at_call 41;refine (ai1 _ ((w.alloc (.cells aaB.cells TF)).alloc (.cells aaB.cells TF)) hs).mono ?_;rintro e w3 ⟨A,c,rfl,ht,hb3⟩)
 have hr3:=Lib.hid (Es hb3)
 have R1:RB w3 (w.heap.size+1) (fM aaB 0 0 0 0 0):=Dc hb3
 have HB3:Hid (Below w.heap.size w w3):=Lib.hid (Hu hb3)
 generalize gu 32 (L s)=ws at *
 have hbase:Hid (w.heap.size+2=((w.alloc (.cells aaB.cells TF)).alloc (.cells aaB.cells TF)).heap.size):=by show _=_;simp
 have F1:=Fr.refl (w.heap.size+1) (w.heap.size+1) w3
 clear hb3
 go_loopw [6] (fun i wr=>∃k:Nat,∃f:aH,∃a b c d e:Nat,k≤ws.length∧i= .int .i64 k∧RB wr (w.heap.size+1) (fM f a b c d e)∧Fr (w.heap.size+1) (w.heap.size+1) w3 wr∧Hid ((a<2 ^ 17∧b<2 ^ 17∧c<2 ^ 17∧d<2 ^ 17∧e<2 ^ 17)∧ws.foldl iW aaB=(ws.drop k).foldl iW (fM f a b c d e))) (fun i _=>ws.length - (intOf i).toNat)
 case atStart=>exact ⟨0,aaB,0,0,0,0,0,by omega,rfl,R1,F1,Lib.hid ⟨by decide,rfl⟩⟩
 case round=>
  clear R1 F1
  obtain ⟨k,f,a,b,c2,d,e,hk,rfl,R1,F1,HK⟩:=hrel
  have hsz:=F1.bel.size
  by_cases hlt:k<ws.length
  ·obtain ⟨g3,rfl,hge,aio,hcl⟩:=ht.at3 hlt
   have hcell:wr.cell? ⟨g3,k,none⟩=some (.string (B ws[k])):=(World.cell?_of_block (w:=w3) (a:=⟨g3,k,none⟩) (F1.keep g3 aio (by have:=hbase.out;omega))).trans hcl
   have hxs:(B ws[k]).size<100000000:=by rw [bC];exact hmem.out _ (List.getElem_mem hlt)
   have HST:=Lib.hid (acg iW (fM f a b c2 d e) ws k hlt)
   clear hcl ht
   generalize ws[k]=x at *
   have hgw:=R1.lt
   have q0:wr.cell? ⟨w.heap.size+1,0,none⟩=some (.int .i64 f.zone):=R1.cell 0
   have q1:wr.cell? ⟨w.heap.size+1,1,none⟩=some (.int .i64 f.who):=R1.cell 1
   have q2:wr.cell? ⟨w.heap.size+1,2,none⟩=some (.int .i64 f.self):=R1.cell 2
   have q3:wr.cell? ⟨w.heap.size+1,3,none⟩=some (.int .i64 ((a:Nat):Int)):=R1.cell 3
   have q4:wr.cell? ⟨w.heap.size+1,4,none⟩=some (.int .i64 ((b:Nat):Int)):=R1.cell 4
   have q5:wr.cell? ⟨w.heap.size+1,5,none⟩=some (.int .i64 ((c2:Nat):Int)):=R1.cell 5
   have q6:wr.cell? ⟨w.heap.size+1,6,none⟩=some (.int .i64 ((d:Nat):Int)):=R1.cell 6
   have q7:wr.cell? ⟨w.heap.size+1,7,none⟩=some (.string f.sub):=R1.cell 7
   have q8:wr.cell? ⟨w.heap.size+1,8,none⟩=some (.int .i64 ((e:Nat):Int)):=R1.cell 8
   have q9:wr.cell? ⟨w.heap.size+1,9,none⟩=some (.int .i64 f.dJ):=R1.cell 9
   have q10:wr.cell? ⟨w.heap.size+1,10,none⟩=some (.int .i64 f.pk):=R1.cell 10
   have q11:wr.cell? ⟨w.heap.size+1,11,none⟩=some (.int .i64 f.pn):=R1.cell 11
   have q12:wr.cell? ⟨w.heap.size+1,12,none⟩=some (.int .i64 f.tk):=R1.cell 12
   have q13:wr.cell? ⟨w.heap.size+1,13,none⟩=some (.int .i64 f.tn):=R1.cell 13
   have XY:wr.cell? ⟨w.heap.size+1,14,none⟩=some (.int .i64 f.vk):=R1.cell 14
   have XZ:wr.cell? ⟨w.heap.size+1,15,none⟩=some (.int .i64 f.vn):=R1.cell 15
   go_upto_region 6 with fail
   go_still_tail 5,(by kernel_rfl)
   clear q0 q1 q2 q3 q4 q5 q6 q7 q8 q9 q10 q11 q12 q13 XY XZ
   change wpList _ _ _ _ _ wr.drew
   have R2:RB wr.drew (w.heap.size+1) (fM f a b c2 d e):=R1
   have F2:=F1.drew
   have hgl:w.heap.size+1≤wr.drew.heap.size:=Nat.le_of_lt hgw
   obtain ⟨b1,b2,b3,b4,b5⟩:=HK.out.1
   obtain ⟨FF,hF⟩:=afc (B x) f a b c2 d e b1 b2 b3 b4 b5 hxs wr.drew
   have HF:=Lib.hid hF
   clear hF R1 F1 hgw hsz b1 b2 b3 b4 b5
   generalize wr.drew=w4 at *
   go_wp2_with fail
   refine HF.out.mono ?_
   rw [cO]
   rintro e0 w5 ⟨rfl,hb5,a2,bb2,Wn,d2,e2,hform,an9⟩
   have HN:Hid ((a2<2 ^ 17∧bb2<2 ^ 17∧Wn<2 ^ 17∧d2<2 ^ 17∧e2<2 ^ 17)∧ws.foldl iW aaB=(ws.drop (k+1)).foldl iW (fM FF a2 bb2 Wn d2 e2)):=Lib.hid ⟨an9,by rw [HK.out.2,HST.out,hform]⟩
   rw [hform]
   have R3:=Lib.hid (R2.below hb5)
   have F3:=F2.trans (Fr.of hb5 hgl)
   clear hform an9 HST HK HF R2 F2 hb5
   dsimp only
   go_wp2_with (refine wpList_store_row rfl TF (.tmp 4) (.tmp 20) rfl (w.heap.size+1) (fM FF a2 bb2 Wn d2 e2).cells rfl rfl TF (fM f a b c2 d e).cells R3.out gX rfl (cells_one _) ?_)
   have R4:RB (w5.setRow (w.heap.size+1) (fM FF a2 bb2 Wn d2 e2).cells) (w.heap.size+1) (fM FF a2 bb2 Wn d2 e2):=oV R3.out
   have F4:=F3.setRow (fM FF a2 bb2 Wn d2 e2).cells
   clear F3 R3
   go_roundw
   case rel=>exact ⟨k+1,FF,a2,bb2,Wn,d2,e2,by omega,by go_num,R4,F4,HN⟩
   case measure=>simp [intOf];omega
  ·obtain rfl:k=ws.length:=by omega
   have HE:Hid (ws.foldl iW aaB=fM f a b c2 d e):=Lib.hid (by rw [HK.out.2,List.drop_length];rfl)
   have HR2:Hid ((if textOf (fM f a b c2 d e)=L s∧dh (fM f a b c2 d e)=true then some (fM f a b c2 d e) else none)=R):=Lib.hid (by rw [←HR.out,HE.out])
   have hBr:=Lib.hid (HB3.out.trans (F1.bel.mono (Nat.le_succ _)))
   have hrr:Hid (wr.heap[w.heap.size]? =some (.cells aaB.cells TF (0,0))):=Lib.hid ((F1.bel.block _ (Nat.lt_succ_self _)).trans hr3.out)
   have hg:=Lib.hid R1
   have hgl:=R1.lt
   have hwl:w.heap.size<wr.heap.size:=by omega
   clear HK HR HE R1 F1
   generalize fM f a b c2 d e=G at *
   cases hv:dh G with
   |false=>
    have HV:=Lib.hid hv
    have HN:Hid (none=R):=Lib.hid (by rw [←HR2.out,if_neg (by rw [hv];simp)])
    clear hv
    go_wp2_with (first|refine wpList_load_row rfl TF (.tmp 4) rfl (w.heap.size+1) rfl TF G.cells (0,0) _ hg.out Tryz.underlying26 rfl gX ?_|(go_at_call 56;(with_reducible refine (GK G false HV _).mono ?_);rintro e0 w4 ⟨rfl,hb4⟩;have hr4:=Lib.hid ((hb4.block _ hwl).trans hrr.out))|refine wpList_store_row rfl TF (.tmp 2) (.tmp 30) rfl w.heap.size aaB.cells rfl rfl TF aaB.cells hr4.out gX rfl (cells_one _) ?_)
    refine bodyPost_ret (gV rfl _ _ w.heap.size TF aaB.cells (0,0) _ rfl (oV hr4.out) Tryz.underlying26 rfl gX) rfl ⟨?_,below_setRow (aaC hBr.out hb4) (Nat.le_refl _) _⟩
    exact ret_val (by rw [←HN.out];rfl)
   |true=>
    have HV:=Lib.hid hv
    by_cases hT:textOf G=L s
    ·have t3:=iO hT
     have HN:Hid (some G=R):=Lib.hid (by rw [←HR2.out,if_pos ⟨hT,hv⟩])
     clear hT hv
     go_wp2_with (first|refine wpList_load_row rfl TF (.tmp 4) rfl (w.heap.size+1) rfl TF G.cells (0,0) _ hg5.out Tryz.underlying26 rfl gX ?_|refine Ah rfl TF (.tmp 4) rfl (w.heap.size+1) rfl TF G.cells (0,0) _ hg4.out Tryz.underlying26 rfl gX ?_|refine wpList_load_row rfl TF (.tmp 4) rfl (w.heap.size+1) rfl TF G.cells (0,0) _ hg.out Tryz.underlying26 rfl gX ?_|(go_at_call 56;(with_reducible refine (GK G true HV _).mono ?_);rintro e0 w4 ⟨rfl,hb4⟩;have hr4:=Lib.hid ((hb4.block _ hwl).trans hrr.out);have hg4:=Lib.hid ((hb4.block _ hgl).trans hg.out))|(go_at_call 66;(with_reducible refine (ug G _).mono ?_);rintro e0 w5 ⟨rfl,hb5⟩;have hr5:=Lib.hid (aaD hb5 hr4.out);have hg5:=Lib.hid (aaD hb5 hg4.out))|refine wpList_store_row rfl TF (.tmp 2) (.tmp 31) rfl w.heap.size G.cells rfl rfl TF aaB.cells hr5.out gX rfl (cells_one _) ?_)
     refine bodyPost_ret (gV rfl _ _ w.heap.size TF G.cells (0,0) _ rfl (oV hr5.out) Tryz.underlying26 rfl gX) rfl ⟨?_,below_setRow (aaC (aaC hBr.out hb4) hb5) (Nat.le_refl _) _⟩
     exact ret_val (by rw [←HN.out];rfl)
    ·have t3:=jH hT
     have t4:(!textOf G==s.toList)=true:=by rw [t3];rfl
     have HN:Hid (none=R):=Lib.hid (by rw [←HR2.out,if_neg (fun h=>hT h.1)])
     clear hT hv
     go_wp2_with (first|refine Ah rfl TF (.tmp 4) rfl (w.heap.size+1) rfl TF G.cells (0,0) _ hg4.out Tryz.underlying26 rfl gX ?_|refine wpList_load_row rfl TF (.tmp 4) rfl (w.heap.size+1) rfl TF G.cells (0,0) _ hg.out Tryz.underlying26 rfl gX ?_|(go_at_call 56;(with_reducible refine (GK G true HV _).mono ?_);rintro e0 w4 ⟨rfl,hb4⟩;have hr4:=Lib.hid ((hb4.block _ hwl).trans hrr.out);have hg4:=Lib.hid ((hb4.block _ hgl).trans hg.out))|(go_at_call 66;(with_reducible refine (ug G _).mono ?_);rintro e0 w5 ⟨rfl,hb5⟩;have hr5:=Lib.hid (aaD hb5 hr4.out))|refine wpList_store_row rfl TF (.tmp 2) (.tmp 30) rfl w.heap.size aaB.cells rfl rfl TF aaB.cells hr5.out gX rfl (cells_one _) ?_)
     refine bodyPost_ret (gV rfl _ _ w.heap.size TF aaB.cells (0,0) _ rfl (oV hr5.out) Tryz.underlying26 rfl gX) rfl ⟨?_,below_setRow (aaC (aaC hBr.out hb4) hb5) (Nat.le_refl _) _⟩
     exact ret_val (by rw [←HN.out];rfl)
theorem Yq (c:Int) (w:World):Calls Tryz.prog 112 #[.int .i64 c] w fun e w'=>e= .returned (.string (B (dw c)))∧w=w':=by
 by_cases h0:c=0
 ·subst h0
  go_enter Tryz.func112,Tryz.ntmps112
  go_wp2
  go_ret
  exact ⟨rfl,rfl⟩
 by_cases h1:c=1
 ·subst h1
  go_enter Tryz.func112,Tryz.ntmps112
  go_wp2
  go_ret
  exact ⟨rfl,rfl⟩
 by_cases h2:c=2
 ·subst h2
  go_enter Tryz.func112,Tryz.ntmps112
  go_wp2
  go_ret
  exact ⟨rfl,rfl⟩
 ·have HR:Hid (dw c=[]):=Lib.hid (by unfold dw;rw [if_neg h0,if_neg h1,if_neg h2])
  have t0:(c==0)=false:=by simpa using h0
  have t1:(c==1)=false:=by simpa using h1
  have t2:(c==2)=false:=by simpa using h2
  generalize dw c=R at *
  clear h0 h1 h2
  go_enter Tryz.func112,Tryz.ntmps112
  go_wp2
  go_ret
  exact ⟨dV (by rw [HR.out];rfl),rfl⟩
end Go.Proofs.YtdnnkgkondkhfaaGreatDoor
