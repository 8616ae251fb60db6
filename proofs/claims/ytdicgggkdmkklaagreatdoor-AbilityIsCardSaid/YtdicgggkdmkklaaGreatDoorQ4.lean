/- Walks of the reference: package cardgameref02: low, Is, Depth. Conditions: none. Plain words: a text cut at a byte outside brackets. No program in sight. Walks of the reference: package cardgameref -/
import Derived.Test.YtdicgggkdmkklaaGreatDoorQ1
import Derived.Test.YtdicgggkdmkklaaGreatDoorQ3
import Derived.Test.YtdicgggkdmkklaaGreatDoorQ2
import Derived.Lib.SmallJoins
import Derived.Lib.SlBytesRow
import Derived.Deep.RegionHeld3
import Derived.Deep.DeepCutAuto
import Derived.StillTailTactics
set_option linter.all false
set_option maxRecDepth 100000
set_option maxHeartbeats 16000000
namespace Go.Proofs.YtdicgggkdmkklaaGreatDoor
open Go.ChangeShapes Go.WideShapes Go.RowKit
def vO (n:Nat):Bool:=decide (97≤n)&&decide (n≤122)
theorem KY (n:Nat) (h:vO n=true) (w:World):Calls Tryz.prog 228 #[.int .u8 n] w fun e w'=>e= .returned (.bool true)∧w=w':=by
 unfold vO at h;simp only [Bool.and_eq_true,decide_eq_true_eq] at h
 obtain ⟨h1,h2⟩:(97:Int)≤n∧(n:Int)≤122:=by omega
 go_enter Tryz.func228,Tryz.ntmps228
 go_wp2
 go_ret
 exact ⟨rfl,rfl⟩
theorem Jv (n:Nat) (h:vO n=false) (w:World):Calls Tryz.prog 228 #[.int .u8 n] w fun e w'=>e= .returned (.bool false)∧w=w':=by
 unfold vO at h;simp only [Bool.and_eq_false_iff,decide_eq_false_iff_not] at h
 by_cases h1:(97:Int)≤n
 ·have h2:¬(n:Int)≤122:=by omega
  go_enter Tryz.func228,Tryz.ntmps228
  go_wp2
  go_ret
  exact ⟨rfl,rfl⟩
 ·go_enter Tryz.func228,Tryz.ntmps228
  go_wp2
  go_ret
  exact ⟨rfl,rfl⟩
def J4 (l:Str) (k:Nat):Bool:=okb (aI l k)&& !(decide (0<k)&&(aI l k==45&&aI l (k - 1)==45))
def GI (l:Str):Bool:=decide (0<l.length)&&(decide (l.length≤32)&&(vO (aI l 0)&& !(aI l (l.length - 1)==45)))
def rName (l:Str):Bool:=GI l&&(List.range l.length).all (J4 l)
def LK:Str→Bool
 |a::b::r=>(a==45&&b==45) || LK (b::r)
 |_=>false
theorem contains_cons (a:UInt8) (r:Str):Lib.contains (a::r) [45,45]=(([45,45]:Str).isPrefixOf (a::r) || Lib.contains r [45,45]):=by
 have hge:=Lib.index_ge r [45,45]
 unfold Lib.contains
 rw [Lib.index]
 cases hp:([45,45]:Str).isPrefixOf (a::r) with
 |true=>simp
 |false=>
  simp only [Bool.false_eq_true,if_false,Bool.false_or]
  by_cases h:Lib.index r [45,45]= -1
  ·rw [h];rfl
  ·have hb:(Lib.index r [45,45]== -1)=false:=by rw [beq_eq_false_iff_ne];exact h
   rw [hb,Bool.eq_iff_iff];simp;omega
theorem Jd:∀l:Str,Lib.contains l [45,45]=LK l
 |[]=>rfl
 |[a]=>by rw [contains_cons];simp [List.isPrefixOf,LK,Lib.contains,Lib.index]
 |a::b::r=>by
  rw [contains_cons,Jd (b::r)]
  have e:([45,45]:Str).isPrefixOf (a::b::r)=(a==45&&b==45):=by
   rw [Bool.eq_iff_iff];simp [List.isPrefixOf];exact ⟨fun h=>⟨h.1.symm,h.2.symm⟩,fun h=>⟨h.1.symm,h.2.symm⟩⟩
  rw [e];rfl
theorem FM (a:UInt8) (r:Str) (k:Nat):aI (a::r) (k+1)=aI r k:=rfl
theorem WH:∀l:Str,LK l=true↔ ∃k,k+1<l.length∧aI l k=45∧aI l (k+1)=45
 |[]=>by simp [LK]
 |[a]=>by simp [LK]
 |a::b::r=>by
  have ih:=WH (b::r)
  have ha:∀c:UInt8,(c==45)=true↔c.toNat=45:=fun c=>by
   rw [beq_iff_eq];exact ⟨fun h=>by rw [h];rfl,fun h=>by apply UInt8.toNat_inj.1;exact h⟩
  unfold LK;rw [Bool.or_eq_true,Bool.and_eq_true,ih]
  constructor
  ·rintro (⟨h1,h2⟩|⟨k,h1,h2,h3⟩)
   ·exact ⟨0,by simp,(ha a).1 h1,(ha b).1 h2⟩
   ·exact ⟨k+1,by simp at h1 ⊢;omega,by rw [FM];exact h2,by rw [FM];exact h3⟩
  ·rintro ⟨k,h1,h2,h3⟩
   cases k with
   |zero=>exact .inl ⟨(ha a).2 h2,(ha b).2 h3⟩
   |succ k=>exact .inr ⟨k,by simp at h1 ⊢;omega,by rw [FM] at h2;exact h2,by rw [FM] at h3;exact h3⟩
theorem anM (l:Str):wR l=(List.range l.length).all (fun k=>okb (aI l k)):=by
 unfold wR;rw [Bool.eq_iff_iff,List.all_eq_true,List.all_eq_true]
 constructor
 ·intro h k hk
  have hk':k<l.length:=by simpa using hk
  have:=h l[k] (List.getElem_mem hk')
  simpa [XI,aI,List.getD,hk'] using this
 ·intro h x hx
  obtain ⟨k,hk,rfl⟩:=List.mem_iff_getElem.1 hx
  have:=h k (by simpa using hk)
  simpa [XI,aI,List.getD,hk] using this
theorem ai0 (l:Str):rName l=isName l:=by
 unfold rName isName tZ GI
 rw [Jd,anM]
 have e:(List.range l.length).all (J4 l)=(((List.range l.length).all fun k=>okb (aI l k))&& !LK l):=by
  rw [Bool.eq_iff_iff,Bool.and_eq_true,List.all_eq_true,List.all_eq_true]
  constructor
  ·intro h
   refine ⟨fun k hk=> ?_,?_⟩
   ·have:=h k hk;unfold J4 at this;rw [Bool.and_eq_true] at this;exact this.1
   ·rw [Bool.not_eq_true']
    cases hd:LK l with
    |false=>rfl
    |true=>
     obtain ⟨k,h1,h2,h3⟩:=(WH l).1 hd
     have:=h (k+1) (by simpa using h1)
     unfold J4 at this;rw [Nat.add_sub_cancel,h2,h3] at this;simp at this
  ·rintro ⟨h1,h2⟩ k hk
   unfold J4;rw [h1 k hk,Bool.true_and,Bool.not_eq_true']
   rw [Bool.not_eq_true'] at h2
   cases hb:(decide (0<k)&&(aI l k==45&&aI l (k - 1)==45)) with
   |false=>rfl
   |true=>
    simp only [Bool.and_eq_true,decide_eq_true_eq,beq_iff_eq] at hb
    have hkl:k<l.length:=by simpa using hk
    have:=(WH l).2 ⟨k - 1,by omega,hb.2.2,by rw [show k - 1+1=k by omega];exact hb.2.1⟩
    rw [this] at h2;cases h2
 rw [e]
 unfold vO
 generalize (List.range l.length).all (fun k=>okb (aI l k))=A
 generalize LK l=D
 cases A<;>cases D<;>simp [Bool.and_assoc]
theorem agz {s:ByteArray} (h:GI (L s)=true):0<s.size∧(s.size:Int)≤32∧vO (aI (L s) 0)=true∧(((aI (L s) (s.size - 1):Nat):Int)==45)=false:=by
 rw [GI,dN] at h
 simp only [Bool.and_eq_true,decide_eq_true_eq,Bool.not_eq_true',beq_eq_false_iff_ne] at h ⊢
 exact ⟨h.1,by omega,h.2.2.1,by simp;omega⟩
theorem Yu (s:ByteArray) (w:World) (hn:GI (L s)=false):
 Calls Tryz.prog 161 #[.string s] w fun e w'=>e= .returned (.bool false)∧w=w':=by
 rw [GI,dN] at hn
 by_cases h0:0<s.size
 ·have hg:=jm s
  by_cases h1:(s.size:Int)≤32
  ·cases hlo:vO (aI (L s) 0)
   ·have H:=Lib.hid hlo;clear hlo hn
    go_enter Tryz.func161,Tryz.ntmps161
    go_wp2_with (go_at_call 228;(with_reducible refine (Jv _ H.out _).mono ?_);rintro e w1 ⟨rfl,rfl⟩)
    go_ret
    exact ⟨rfl,rfl⟩
   ·have t:(((aI (L s) (s.size - 1):Nat):Int)==45)=true:=by
     rw [hlo,decide_eq_true h0,decide_eq_true (by omega:s.size≤32)] at hn
     have hb:aI (L s) (s.size - 1)=45:=by simpa using hn
     rw [hb];rfl
    have H:=Lib.hid hlo;clear hlo hn
    go_enter Tryz.func161,Tryz.ntmps161
    go_wp2_with (go_at_call 228;(with_reducible refine (KY _ H.out _).mono ?_);rintro e w1 ⟨rfl,rfl⟩)
    go_ret
    exact ⟨rfl,rfl⟩
  ·clear hn
   go_enter Tryz.func161,Tryz.ntmps161
   go_wp2
   go_ret
   exact ⟨rfl,rfl⟩
 ·obtain rfl:s=ByteArray.empty:=ByteArray.size_eq_zero_iff.1 (by omega)
  clear hn
  go_enter Tryz.func161,Tryz.ntmps161
  go_wp2
  go_ret
  exact ⟨rfl,rfl⟩
theorem QI {f:Nat→Bool} {k:Nat} (h:(List.range k).all f=true) (hk:f k=true):(List.range (k+1)).all f=true:=by
 rw [List.range_succ,List.all_append,h];simp [hk]
theorem V4 {f:Nat→Bool} {k n:Nat} (hk:k<n) (h:f k=false):(List.range n).all f=false:=by
 cases hh:(List.range n).all f with
 |false=>rfl
 |true=>rw [List.all_eq_true.1 hh k (by simpa using hk)] at h;cases h
theorem afA {n:Nat} (h:okb n=true):vO n=true∨(vO n=false∧(48:Int)≤n∧(n:Int)≤57)∨(vO n=false∧(n:Int)<48∧((n:Int) != 45)=false):=by
 unfold vO
 simp only [okb,Bool.or_eq_true,Bool.and_eq_true,decide_eq_true_eq,beq_iff_eq,bne_eq_false_iff_eq,Bool.and_eq_false_iff,decide_eq_false_iff_not] at h ⊢;omega
theorem afz {n:Nat} (h:okb n=false):vO n=false∧((n:Int)<48∨57<(n:Int))∧((n:Int) != 45)=true:=by
 obtain ⟨h1,h2,h3⟩:=afQ h
 refine ⟨?_,h2,h3⟩
 unfold vO;simp only [Bool.and_eq_false_iff,decide_eq_false_iff_not];omega
theorem MR (s:ByteArray) (w:World):
 Calls Tryz.prog 161 #[.string s] w fun e w'=>e= .returned (.bool (isName (L s)))∧w=w':=by
 rw [←ai0];unfold rName
 cases hh:GI (L s)
 ·exact Yu s w hh
 obtain ⟨h0,h1,h2,t1⟩:=agz hh
 rw [Bool.true_and,dN]
 obtain ⟨R,hR⟩:∃R,(List.range s.size).all (J4 (L s))=R:=⟨_,rfl⟩
 rw [hR]
 have HR:=Lib.hid hR;clear hR hh
 have H2:=Lib.hid h2;clear h2
 have hg:=jm s
 go_enter Tryz.func161,Tryz.ntmps161
 go_wp2_with (go_at_call 228;(with_reducible refine (KY _ H2.out _).mono ?_);rintro e w1 ⟨rfl,rfl⟩)
 go_loop [3] (fun i=>∃k:Nat,k≤s.size∧i= .int .i64 k∧Hid ((List.range k).all (J4 (L s))=true)) (fun i=>s.size - (intOf i).toNat)
 case atStart=>exact ⟨0,by omega,rfl,rfl⟩
 case round=>
  obtain ⟨k,hk,rfl,hal⟩:=hrel
  by_cases hlt:k<s.size
  ·have HN:J4 (L s) k=false→Hid (R=false):=fun h=>Lib.hid (by rw [←HR.out];exact V4 hlt h)
   have HY:J4 (L s) k=true→Hid ((List.range (k+1)).all (J4 (L s))=true):=fun h=>Lib.hid (QI hal.out h)
   unfold J4 at HN HY
   cases hok:okb (aI (L s) k)
   ·have VQ:=HN (by rw [hok];rfl)
    obtain ⟨x1,x2,x3⟩:=afz hok
    have X1:=Lib.hid x1
    clear hok HN HY x1
    rcases x2 with x2|x2
    all_goals
     go_wp2_with (go_at_call 228;(with_reducible refine (Jv _ X1.out _).mono ?_);rintro e w1 ⟨rfl,rfl⟩)
     go_ret
     exact ⟨aX VQ.out.symm,rfl⟩
   ·by_cases hd:0<k∧aI (L s) k=45∧aI (L s) (k - 1)=45
    ·have VQ:=HN (by rw [hok,decide_eq_true hd.1,hd.2.1,hd.2.2];rfl)
     obtain ⟨d1,d2,d3⟩:=hd
     have lo:vO (aI (L s) k)=false:=by rw [d2];rfl
     have y1:(((aI (L s) k:Nat):Int)==45)=true:=by simp only [beq_iff_eq];omega
     have y3:(((aI (L s) k:Nat):Int) != 45)=false:=by rw [bne,y1];rfl
     have y2:(((aI (L s) (k - 1):Nat):Int)==45)=true:=by simp only [beq_iff_eq];omega
     have y4:((aI (L s) k:Nat):Int)<48:=by omega
     have d1':(0:Int)<k:=by omega
     have ek:((k:Int) - 1).toNat=k - 1:=by omega
     have X1:=Lib.hid lo
     clear hok HN HY lo d2 d3
     go_wp2_with (go_at_call 228;(with_reducible refine (Jv _ X1.out _).mono ?_);rintro e w1 ⟨rfl,rfl⟩)
     go_ret
     exact ⟨aX VQ.out.symm,rfl⟩
    ·have HNX:=HY (by
      rw [hok,Bool.true_and,Bool.not_eq_true',Bool.and_eq_false_iff,Bool.and_eq_false_iff,decide_eq_false_iff_not,beq_eq_false_iff_ne,beq_eq_false_iff_ne]
      omega)
     have hd2:¬0<k∨(0<k∧(((aI (L s) k:Nat):Int)==45)=false)∨(0<k∧(((aI (L s) k:Nat):Int)==45)=true∧(((aI (L s) (k - 1):Nat):Int)==45)=false):=by
      simp only [beq_eq_false_iff_ne,beq_iff_eq,ne_eq];omega
     have hlo:=afA hok
     have ek:0<k→((k:Int) - 1).toNat=k - 1:=by omega
     clear hok HN HY hd
     rcases hd2 with d1|⟨d1,d2⟩|⟨d1,d2,d3⟩
     ·obtain rfl:k=0:=by omega
      rcases hlo with lo|⟨lo,l1,l2⟩|⟨lo,l1,l2⟩
      all_goals
       have X1:=Lib.hid lo
       clear lo
       go_wp2_with (go_at_call 228;(with_reducible first|refine (KY _ X1.out _).mono ?_|refine (Jv _ X1.out _).mono ?_);rintro e w1 ⟨rfl,rfl⟩)
       go_round
       case rel=>exact ⟨1,by omega,by go_num,HNX⟩
       case measure=>simp [intOf];omega
     all_goals
      have d1':(0:Int)<k:=by omega
      have ek:=ek d1
      rcases hlo with lo|⟨lo,l1,l2⟩|⟨lo,l1,l2⟩
      all_goals
       have X1:=Lib.hid lo
       clear lo
       go_wp2_with (go_at_call 228;(with_reducible first|refine (KY _ X1.out _).mono ?_|refine (Jv _ X1.out _).mono ?_);rintro e w1 ⟨rfl,rfl⟩)
       go_round
       case rel=>exact ⟨k+1,by omega,by go_num,HNX⟩
       case measure=>simp [intOf];omega
  ·go_wp2
   go_ret
   obtain rfl:k=s.size:=by omega
   exact ⟨aX (by rw [←HR.out,hal.out]),rfl⟩
end Go.Proofs.YtdicgggkdmkklaaGreatDoor
namespace Go.Proofs.YtdicgggkdmkklaaGreatDoor
def pU (n:Nat) (c:UInt8):Nat:=if c==40 || c==91 then n+1 else if (c==41 || c==93)&&0<n then n - 1 else n
def mO (l:Str):Nat:=l.foldl pU 0
def dst (c:UInt8) (s:Str):Nat→List Str × Nat
 |0=>([],0)
 |i+1=>if s.getD i 0==c&&mO (s.take i)==0 then ((dst c s i).1++[(s.take i).drop (dst c s i).2],i+1) else dst c s i
def Flat (s:Str):Prop:=s.all (fun c=> !(c==40 || (c==41 || (c==91 || c==93))))=true
theorem Flat.take {s:Str} (h:Flat s) (i:Nat):Flat (s.take i):=List.all_eq_true.2 fun c hc=>List.all_eq_true.1 h c (List.mem_of_mem_take hc)
end Go.Proofs.YtdicgggkdmkklaaGreatDoor
namespace Go.Proofs.YtdicgggkdmkklaaGreatDoor
open Go.ChangeShapes Go.WideShapes Go.RowKit
theorem eqn (a:Nat) (b:Int) (h:(a:Int)=b):((a:Int)==b)=true:=by rw [h];simp
theorem pK (a:Nat) (b:Int) (h:(a:Int)≠b):((a:Int)==b)=false:=by rw [beq_eq_false_iff_ne];exact h
theorem Yq (c:Int) (w:World):Calls Tryz.prog 173 #[.int .i64 c] w fun e w'=>e= .returned (.string (B (dw c)))∧w=w':=by
 by_cases h0:c=0
 ·subst h0
  go_enter Tryz.func173,Tryz.ntmps173
  go_wp2
  go_ret
  exact ⟨rfl,rfl⟩
 by_cases h1:c=1
 ·subst h1
  go_enter Tryz.func173,Tryz.ntmps173
  go_wp2
  go_ret
  exact ⟨rfl,rfl⟩
 by_cases h2:c=2
 ·subst h2
  go_enter Tryz.func173,Tryz.ntmps173
  go_wp2
  go_ret
  exact ⟨rfl,rfl⟩
 ·have HR:Hid (dw c=[]):=Lib.hid (by unfold dw;rw [if_neg h0,if_neg h1,if_neg h2])
  have t0:(c==0)=false:=by simpa using h0
  have t1:(c==1)=false:=by simpa using h1
  have t2:(c==2)=false:=by simpa using h2
  generalize dw c=R at *
  clear h0 h1 h2
  go_enter Tryz.func173,Tryz.ntmps173
  go_wp2
  go_ret
  exact ⟨dV (by rw [HR.out];rfl),rfl⟩
theorem wG (sep x:Str):∀(l:List Str),Lib.join (l++[x]) sep=if l=[] then x else Lib.join l sep++sep++x
 |[]=>by simp [Lib.join_one]
 |[a]=>by simp [fA,Lib.join_one]
 |a::b::r=>by
  have ih:=wG sep x (b::r)
  rw [if_neg (by simp)] at ih
  rw [if_neg (by simp),List.cons_append,List.cons_append,fA,fA,←List.cons_append,ih];simp
theorem Js (sep:Str):∀(l:List Str) (k:Nat),(Lib.join (l.take k) sep).length≤(Lib.join l sep).length
 |[],k=>by simp
 |[a],k=>by
  cases k with
  |zero=>simp [Lib.join_nil]
  |succ k=>simp
 |a::b::r,k=>by
  cases k with
  |zero=>simp [Lib.join_nil]
  |succ k=>
   cases k with
   |zero=>simp only [List.take_succ_cons,List.take_zero];rw [Lib.join_one,fA];simp
   |succ k=>
    have ih:=Js sep (b::r) (k+1)
    simp only [List.take_succ_cons] at ih ⊢
    rw [fA,fA];simp only [List.length_append];omega
theorem Ut (l:List Str) (A:Option Addr) (c base:Nat) (sep:ByteArray) (w:World) (h:Texts w base l (.slice A l.length c)) (sl:Str) (hsl:L sep=sl) (hlen:(Lib.join l sl).length≤140737488355328) (hN:l.length≤100000000):
 Calls Tryz.prog 66 #[.slice A l.length c, .string sep] w fun e w'=>e= .returned (.string (B (Lib.join l sl)))∧w=w':=by
 have HS:=Lib.hid hsl
 obtain ⟨R,hR⟩:∃R,Lib.join l sl=R:=⟨_,rfl⟩
 have hss:sep.size=sl.length:=by rw [←hsl,dN]
 have htl:=Js sl l
 rw [hR] at htl hlen ⊢
 have HR:=Lib.hid hR;clear hR hsl
 have HSS:=Lib.hid hss;clear hss
 have HT:=Lib.hid htl;clear htl
 go_enter Tryz.func66,Tryz.ntmps66
 go_wp2
 go_loop [5,6] (fun v i=>∃k:Nat,∃p:Str,k≤l.length∧i= .int .i64 k∧v= .string (B p)∧Hid (Lib.join (l.take k) sl=p)) (fun _ i=>l.length - (intOf i).toNat)
 case atStart=>exact ⟨0,[],by omega,rfl,rfl,by rw [List.take_zero];exact Lib.join_nil _⟩
 case round=>
  obtain ⟨k,p,hk,rfl,rfl,HP⟩:=hrel
  by_cases hlt:k<l.length
  ·obtain ⟨g,rfl,hg,hcl⟩:=h.at_ hlt
   have hjs:=wG sl l[k] (l.take k)
   have ht:l.take (k+1)=l.take k++[l[k]]:=List.take_succ_eq_append_getElem hlt
   rw [←ht,HP.out] at hjs
   have hle:=HT.out (k+1)
   rw [hjs] at hle
   by_cases h0:k=0
   ·subst h0
    have hp:p=[]:=by rw [←HP.out,List.take_zero];exact Lib.join_nil _
    subst hp
    rw [if_pos (by simp)] at hjs hle
    have HN:=Lib.hid hjs;clear hjs ht
    generalize l[0]=x at *
    have hxl:x.length≤140737488355328:=by omega
    clear HP
    go_wp2
    go_round
    case rel=>exact ⟨1,x,by omega,by go_num,rfl,HN⟩
    case measure=>simp [intOf];omega
   ·rw [if_neg (by rw [List.take_eq_nil_iff];rintro (h|h); · exact h0 h
                   ·rw [h] at hlt;simp at hlt)] at hjs hle
    have HN:=Lib.hid hjs;clear hjs ht
    generalize l[k]=x at *
    simp only [List.length_append] at hle
    have hk0:(0:Int)<k:=by omega
    have b1:(B p).size+sep.size≤9223372036854775807:=by rw [bC,HSS.out];omega
    have b2:p.length+sep.size≤9223372036854775807:=by rw [HSS.out];omega
    have b3:p.length+sep.size+x.length≤9223372036854775807:=by rw [HSS.out];omega
    have b4:(B p++sep).size+(B x).size≤9223372036854775807:=by rw [ByteArray.size_append,bC,bC];omega
    clear HP hle
    go_wp2
    go_round
    case rel=>exact ⟨k+1,p++sl++x,by omega,by go_num,by rw [show B p++sep++B x=B (p++sl++x) from by rw [←ru,←ru,←HS.out,qV]],HN⟩
    case measure=>simp [intOf];omega
  ·obtain rfl:k=l.length:=by omega
   have HE:Hid (p=R):=Lib.hid (by rw [←HP.out,List.take_length,HR.out])
   go_wp2
   go_ret
   exact ⟨dV (by rw [HE.out]),rfl⟩
theorem qw (l:List Str) (n:Nat) (hn:l.length=n) (hm:n<1000000) (w:World) (cs:Array Value) (hc:cs=(strCells l).toArray):Texts (w.alloc (.cells cs 9)) w.heap.size l (.slice (some ⟨w.heap.size,0,none⟩) n n):=by
 subst hc;subst hn
 refine ⟨by rw [strCells_length];omega, .inr ⟨w.heap.size,l.length,_,rfl,Nat.le_refl _,heap_alloc_new w _,Nat.le_refl _,by unfold maxLen;omega,?_,?_⟩⟩
 ·simp [strCells]
 ·simp only [List.toList_toArray,Nat.mul_one]
  rw [List.take_of_length_le (by simp [strCells])]
def idxFrom:List Str→Nat→Str→Int
 |[],_,_=> -1
 |x::r,k,s=>if x==s then (k:Int) else idxFrom r (k+1) s
theorem ais {T:List Str} {k:Nat} {s:Str} (hk:k<T.length):idxFrom (T.drop k) k s=if T[k]==s then (k:Int) else idxFrom (T.drop (k+1)) (k+1) s:=by
 rw [List.drop_eq_getElem_cons hk,idxFrom]
theorem aa7 (T:List Str) (s:Str):∀k,(gq T k s==0)=decide (idxFrom T k s<0):=by
 induction T with
 |nil=>intro k;rfl
 |cons x r ih=>
  intro k
  unfold gq idxFrom
  split
  ·have:2 ^ k≠0:=Nat.pos_iff_ne_zero.1 (Nat.pow_pos (by omega))
   rw [Bool.eq_iff_iff];simp [this]
  ·exact ih (k+1)
theorem beq_toList (x:Str) (s:ByteArray):((B x).toList==s.toList)=(x==L s):=by rw [Fz,dZ]
theorem Qj (T:List Str) (A:Option Addr) (c base:Nat) (s:ByteArray) (w:World) (h:Texts w base T (.slice A T.length c)) (hT:T.length<1000000):
 Calls Tryz.prog 162 #[.slice A T.length c, .string s] w fun e w'=>e= .returned (.int .i64 (idxFrom T 0 (L s)))∧w=w':=by
 obtain ⟨R,hR⟩:∃R,idxFrom T 0 (L s)=R:=⟨_,rfl⟩
 rw [hR]
 have HR:=Lib.hid hR;clear hR
 go_enter Tryz.func162,Tryz.ntmps162
 go_wp2
 go_loop [5] (fun i=>∃k:Nat,k≤T.length∧i= .int .i64 k∧Hid (idxFrom (T.drop k) k (L s)=R)) (fun i=>T.length - (intOf i).toNat)
 case atStart=>exact ⟨0,by omega,rfl,by rw [List.drop_zero];exact HR⟩
 case round=>
  obtain ⟨k,hk,rfl,HD⟩:=hrel
  by_cases hlt:k<T.length
  ·obtain ⟨g,rfl,hg,hcl⟩:=h.at_ hlt
   have hst:=ais (s:=L s) hlt
   rw [HD.out] at hst
   have hbe:=beq_toList T[k] s
   cases hc:(T[k]==L s)
   ·rw [hc] at hst hbe
    rw [Fz] at hbe
    have HN:Hid (idxFrom (T.drop (k+1)) (k+1) (L s)=R):=Lib.hid (by rw [hst];rfl)
    clear hst hc
    generalize T[k]=x at *
    go_wp2
    go_round
    case rel=>exact ⟨k+1,by omega,by go_num,HN⟩
    case measure=>simp [intOf];omega
   ·rw [hc] at hst hbe
    rw [Fz] at hbe
    have HN:Hid (R=k):=Lib.hid (by rw [hst];rfl)
    clear hst hc
    generalize T[k]=x at *
    go_wp2
    go_ret
    exact ⟨jg HN.out.symm,rfl⟩
  ·obtain rfl:k=T.length:=by omega
   have HE:Hid (R= -1):=Lib.hid (by rw [←HD.out,List.drop_length];rfl)
   go_wp2
   go_ret
   exact ⟨jg HE.out.symm,rfl⟩
theorem adn (w:World):Calls Tryz.prog 163 #[] w (kR w pG):=by
 go_enter Tryz.func163,Tryz.ntmps163
 go_wp2
 go_ret
 exact ⟨_,_,rfl,qw pG _ rfl (by decide) w _ rfl,(Below.refl _ _).alloc (Nat.le_refl _) _⟩
theorem Uu (w:World):Calls Tryz.prog 164 #[] w (kR w aO):=by
 go_enter Tryz.func164,Tryz.ntmps164
 go_wp2
 go_ret
 exact ⟨_,_,rfl,qw aO _ rfl (by decide) w _ rfl,(Below.refl _ _).alloc (Nat.le_refl _) _⟩
theorem Qk (s:ByteArray) (w:World):
 Calls Tryz.prog 82 #[.string s] w fun e w'=>e= .returned (.bool (nG (L s)))∧Below w.heap.size w w':=by
 have HD:Hid (nG (L s)=(isName (L s)&&(decide (idxFrom pG 0 (L s)<0)&&decide (idxFrom aO 0 (L s)<0)))):=Lib.hid (by unfold nG;rw [aa7,aa7])
 generalize nG (L s)=R at *
 generalize hi:idxFrom pG 0 (L s)=i1 at *
 generalize hj:idxFrom aO 0 (L s)=i2 at *
 have Hi:=Lib.hid hi;have Hj:=Lib.hid hj;clear hi hj
 go_enter Tryz.func82,Tryz.ntmps82
 go_wp2_with (first|(go_at_call 161;(with_reducible refine (MR _ _).mono ?_);rintro e w1 ⟨rfl,rfl⟩)|(go_at_call 163;(with_reducible refine (adn _).mono ?_);rintro e w2 ⟨A,c,rfl,ht,hb1⟩)|(go_at_call 164;(with_reducible refine (Uu _).mono ?_);rintro e w3 ⟨A2,c2,rfl,ht2,hb2⟩)|(go_at_call 162;(with_reducible refine (Qj pG _ _ _ _ _ ht (by decide)).mono ?_);rw [Hi.out];rintro e w4 ⟨rfl,rfl⟩)|(go_at_call 162;(with_reducible refine (Qj aO _ _ _ _ _ ht2 (by decide)).mono ?_);rw [Hj.out];rintro e w5 ⟨rfl,rfl⟩))
 all_goals
  go_ret
  refine ⟨aX ?_,?_⟩
  ·rw [HD.out];simp [*]<;>omega
  ·first|exact Below.refl _ _|exact aaC hb1 hb2|exact hb1
theorem NV (m i:Nat) (w:World) (hm:m<2 ^ 31) (hi:i<100):
 Calls Tryz.prog 279 #[.int .i64 m, .int .i64 i] w fun e w'=>e= .returned (.bool (m.testBit i))∧w=w':=by
 have HB:Hid (m.testBit i=decide (m / 2 ^ i % 2=1)):=Lib.hid Nat.testBit_eq_decide_div_mod_eq
 generalize m.testBit i=R at *
 go_enter Tryz.func279,Tryz.ntmps279
 go_wp2
 go_loop [0,5] (fun v k=>∃j n:Nat,j≤i∧n<2 ^ 31∧k= .int .i64 j∧v= .int .i64 n∧Hid (m / 2 ^ j=n)) (fun _ k=>i - (intOf k).toNat)
 case atStart=>exact ⟨0,m,by omega,hm,rfl,rfl,by simp [Hid]⟩
 case round=>
  obtain ⟨j,n,hj,hn,rfl,rfl,HN⟩:=hrel
  by_cases hlt:j<i
  ·have HX:Hid (m / 2 ^ (j+1)=n / 2):=Lib.hid (by rw [Nat.pow_succ,←Nat.div_div_eq_div_mul,HN.out])
   go_wp2
   go_round
   case rel=>exact ⟨j+1,n / 2,by omega,by omega,by go_num,by go_num,HX⟩
   case measure=>simp [intOf];omega
  ·obtain rfl:j=i:=by omega
   have HE:Hid (R=decide (n % 2=1)):=Lib.hid (by rw [HB.out,HN.out])
   go_wp2
   go_ret
   exact ⟨aX (by rw [HE.out,Bool.eq_iff_iff];simp;omega),rfl⟩
def jR (T:List Str) (m:Nat) (sep:Str):Nat→Str
 |0=>[]
 |k+1=>if m.testBit k then (if jR T m sep k=[] then T.getD k [] else jR T m sep k++sep++T.getD k []) else jR T m sep k
theorem Ud (T:List Str) (m:Nat) (sep:Str) (hT:∀x∈T,x.length≤100) (hs:sep.length≤100):∀k,(jR T m sep k).length≤200 * k
 |0=>by simp [jR]
 |k+1=>by
  have ih:=Ud T m sep hT hs k
  have hw:=l7 hT k
  unfold wd at hw
  rw [jR];split
  ·split
   ·omega
   ·simp only [List.length_append];omega
  ·omega
theorem aae (T:List Str) (A:Option Addr) (c base m:Nat) (sep:ByteArray) (sl:Str) (hsl:L sep=sl) (w:World) (h:Texts w base T (.slice A T.length c)) (hm:m<2 ^ 31) (hT:T.length≤31) (hw:∀x∈T,x.length≤100) (hss:sl.length≤100):
 Calls Tryz.prog 229 #[.slice A T.length c, .int .i64 m, .string sep] w fun e w'=>e= .returned (.string (B (jR T m sl T.length)))∧w=w':=by
 subst hsl
 have hsz:sep.size≤100:=by rw [dN] at hss;exact hss
 have HJ:=Lib.hid (Ud T m (L sep) hw hss)
 obtain ⟨R,hR⟩:∃R,jR T m (L sep) T.length=R:=⟨_,rfl⟩
 rw [hR]
 have HR:=Lib.hid hR
 have HW:=Lib.hid hw
 clear hR hw hss
 go_enter Tryz.func229,Tryz.ntmps229
 go_wp2
 go_loop [7,8] (fun v i=>∃k:Nat,∃p:Str,k≤T.length∧i= .int .i64 k∧v= .string (B p)∧Hid (jR T m (L sep) k=p)) (fun _ i=>T.length - (intOf i).toNat)
 case atStart=>exact ⟨0,[],by omega,rfl,rfl,rfl⟩
 case round=>
  obtain ⟨k,p,hk,rfl,rfl,HP⟩:=hrel
  by_cases hlt:k<T.length
  ·obtain ⟨g,rfl,hg,hcl⟩:=h.at_ hlt
   have hst:jR T m (L sep) (k+1)=if m.testBit k then (if p=[] then T[k] else p++L sep++T[k]) else p:=by
    rw [jR,HP.out];simp [List.getD,hlt]
   have hpl:p.length≤10000:=by have:=HJ.out k;rw [HP.out] at this;omega
   have hxl:T[k].length≤100:=HW.out _ (List.getElem_mem hlt)
   cases hb:m.testBit k
   ·rw [hb] at hst
    have HN:Hid (jR T m (L sep) (k+1)=p):=Lib.hid (by rw [hst];rfl)
    have HB:=Lib.hid hb
    clear hst hb hcl
    go_wp2_with (go_at_call 279;(with_reducible refine (NV _ _ _ hm (by omega)).mono ?_);rw [HB.out];rintro e w1 ⟨rfl,rfl⟩)
    go_round
    case rel=>exact ⟨k+1,p,by omega,by go_num,rfl,HN⟩
    case measure=>simp [intOf];omega
   ·rw [hb] at hst
    have HB:=Lib.hid hb
    clear hb
    generalize T[k]=x at *
    by_cases hp:p=[]
    ·subst hp
     have HN:Hid (jR T m (L sep) (k+1)=x):=Lib.hid (by rw [hst];rfl)
     clear hst
     go_wp2_with (go_at_call 279;(with_reducible refine (NV _ _ _ hm (by omega)).mono ?_);rw [HB.out];rintro e w1 ⟨rfl,rfl⟩)
     go_round
     case rel=>exact ⟨k+1,x,by omega,by go_num,rfl,HN⟩
     case measure=>simp [intOf];omega
    ·have HN:Hid (jR T m (L sep) (k+1)=p++L sep++x):=Lib.hid (by rw [hst,if_pos rfl,if_neg hp])
     have e1:p.isEmpty=false:=by simpa using hp
     have b1:(B p).size+sep.size≤9223372036854775807:=by rw [bC];omega
     have b2:(B p++sep).size+(B x).size≤9223372036854775807:=by rw [ByteArray.size_append,bC,bC];omega
     clear hst
     go_wp2_with (go_at_call 279;(with_reducible refine (NV _ _ _ hm (by omega)).mono ?_);rw [HB.out];rintro e w1 ⟨rfl,rfl⟩)
     go_round
     case rel=>exact ⟨k+1,p++L sep++x,by omega,by go_num,by rw [show B p++sep++B x=B (p++L sep++x) from by rw [←ru,←ru,qV]],HN⟩
     case measure=>simp [intOf];omega
  ·obtain rfl:k=T.length:=by omega
   have HE:Hid (p=R):=Lib.hid (by rw [←HP.out,HR.out])
   go_wp2
   go_ret
   exact ⟨dV (by rw [HE.out]),rfl⟩
theorem ZG (m:Nat) (h:1≤m) (h2:m≤63):jR aO m [43] 6=bD m:=by
 have key:∀m:Fin 64,1≤m.val→jR aO m.val [43] 6=bD m.val:=by decide +kernel
 exact key ⟨m,by omega⟩ h
theorem yM (m:Nat) (h1:1≤m) (h2:m≤63) (w:World):
 Calls Tryz.prog 167 #[.int .i64 m] w fun e w'=>e= .returned (.string (B (bD m)))∧Below w.heap.size w w':=by
 have HJ:=Lib.hid (ZG m h1 h2)
 go_enter Tryz.func167,Tryz.ntmps167
 go_wp2_with (first|(go_at_call 164;(with_reducible refine (Uu _).mono ?_);rintro e w3 ⟨A2,c2,rfl,ht2,hb2⟩)|(go_at_call 229;(with_reducible refine (aae aO _ _ _ m _ [43] rfl _ ht2 (by omega) (by decide) (by decide) (by decide)).mono ?_);rintro e w4 ⟨rfl,rfl⟩))
 go_ret
 exact ⟨dV (by rw [←HJ.out];rfl),hb2⟩
def LM (n:Nat):UInt8:=UInt8.ofNat (48+n % 10)
def dgS (n:Nat):ByteArray:=B [LM n]
theorem ab6 (wx:World) (n:Nat):(convert 167 9 (.slice (some ⟨wx.heap.size,0,none⟩) 1 1)).run Tryz.prog (wx.alloc (.cells #[.int .u8 (48+(n:Int) % 10)] 5))= .ok (.string (dgS n)) (wx.alloc (.cells #[.int .u8 (48+(n:Int) % 10)] 5)):=by
 have hb:Lib.Bytes (wx.alloc (.cells #[.int .u8 (48+(n:Int) % 10)] 5)) wx.heap.size 0 (B [LM n]):=by
  intro i hi
  obtain rfl:i=0:=by rw [bC] at hi;simpa using hi
  rw [Nat.add_zero,cell_of_row _ _ 0 _ _ _ (heap_alloc_new wx _)]
  have:((B [LM n])[0]'hi).toNat=48+n % 10:=by
   rw [jm,cO];show (LM n).toNat=_
   unfold LM
   rw [UInt8.toNat_ofNat'];omega
  rw [this];simp
 exact Lib.run_convert_whole _ 167 5 9 Tryz.underlying167 Tryz.underlying5 Tryz.underlying9 _ 0 _ hb 1
def BJ (u:Nat):Str:=if u=0 then [] else Lib.decDigits u
theorem Jf (u:Nat):Lib.decDigits u=BJ (u / 10)++[LM u]:=by
 unfold BJ;rw [Lib.decDigits];split
 ·rw [if_pos (by omega)];unfold LM;rw [Nat.mod_eq_of_lt (by omega)];rfl
 ·rw [if_neg (by omega)];rfl
theorem Zk {u:Nat} (h:u≠0):BJ u=BJ (u / 10)++[LM u]:=by
 rw [←Jf];unfold BJ;rw [if_neg h]
theorem MQ (u:Nat) (w:World) (hu:u<100000000):
 Calls Tryz.prog 148 #[.int .u64 u] w fun e w'=>e= .returned (.string (B (Lib.decDigits u)))∧Below w.heap.size w w':=by
 have h1:(0:Int)≤u:=by omega
 have h2:(u:Int)<100000000:=by omega
 have hcv:=fun wx=>ab6 wx
 have HR:=Lib.hid (Jf u)
 generalize Lib.decDigits u=R at *
 go_enter Tryz.func148,Tryz.ntmps148
 go_wp2
 go_loopw [0,3] (fun v t wr=>∃k:Nat,∃p:Str,k<100000000∧p.length+k≤100000100∧v= .int .u64 k∧t= .string (B p)∧Below w.heap.size w wr∧Hid (R=BJ k++p)) (fun v _ _=>(intOf v).toNat)
 case atStart=>exact ⟨u / 10,_,by omega,by simp;omega,by go_num,rfl,(Below.refl _ _).alloc (Nat.le_refl _) _,HR⟩
 case round=>
  obtain ⟨k,p,hk,hp,rfl,rfl,hb,HP⟩:=hrel
  have hsz:=hb.size
  by_cases hlt:0<k
  ·have HX:Hid (R=BJ (k / 10)++([LM k]++p)):=Lib.hid (by rw [HP.out,Zk (by omega),List.append_assoc])
   have b0:(dgS k).size=1:=by unfold dgS;rw [bC];rfl
   have b1:(dgS k).size+(B p).size≤9223372036854775807:=by rw [b0,bC];omega
   clear b0
   go_wp2
   go_roundw
   case rel=>exact ⟨k / 10,[LM k]++p,by omega,by simp;omega,by go_num,by rw [←ru];rfl,hb.alloc hsz _,HX⟩
   case measure=>simp [intOf];omega
  ·obtain rfl:k=0:=by omega
   have HE:Hid (p=R):=Lib.hid (by rw [HP.out];rfl)
   go_wp2
   go_ret
   exact ⟨dV (by rw [HE.out]),hb⟩
theorem qo (n:Int) (w:World) (h0: -10000000<n) (h1:n<10000000):
 Calls Tryz.prog 65 #[.int .i64 n] w fun e w'=>e= .returned (.string (B (Lib.itoa n)))∧Below w.heap.size w w':=by
 by_cases hn:n<0
 ·obtain ⟨m,rfl⟩:∃m:Nat,n= -(m:Int):=⟨n.natAbs,by omega⟩
  have HI:=Lib.hid (Lib.itoa_neg m (by omega))
  have hcv:IntKind.u64.wrap (-(IntKind.u64.wrap (-(m:Int))))=(m:Int):=by simp [IntKind.wrap,IntKind.signed,IntKind.bits];omega
  have hl:=QW 7 m (by omega)
  generalize Lib.itoa (-(m:Int))=R at *
  go_enter Tryz.func65,Tryz.ntmps65
  go_wp2_with (go_at_call 148;(with_reducible refine (MQ m _ (by omega)).mono ?_);rintro e w1 ⟨rfl,hb⟩)
  go_ret
  exact ⟨dV (by rw [HI.out];exact ru [45] _),hb⟩
 ·obtain ⟨m,rfl⟩:∃m:Nat,n=(m:Int):=⟨n.toNat,by omega⟩
  have HI:=Lib.hid (Lib.itoa_nonneg m)
  generalize Lib.itoa (m:Int)=R at *
  go_enter Tryz.func65,Tryz.ntmps65
  go_wp2_with (go_at_call 148;(with_reducible refine (MQ m _ (by omega)).mono ?_);rintro e w1 ⟨rfl,hb⟩)
  go_ret
  exact ⟨dV (by rw [HI.out]),hb⟩
end Go.Proofs.YtdicgggkdmkklaaGreatDoor
namespace Go.Proofs.YtdicgggkdmkklaaGreatDoor
theorem akF (a b:Nat) (ha:a<64):a&&& b=0↔ ∀j,j<6→¬(a.testBit j=true∧b.testBit j=true):=by
 constructor
 ·intro h j _ ⟨h1,h2⟩
  have:=congrArg (fun n=>n.testBit j) h
  simp [h1,h2] at this
 ·intro h
  apply Nat.eq_of_testBit_eq;intro j
  rw [Nat.testBit_and,Nat.zero_testBit]
  by_cases hj:j<6
  ·have:=h j hj
   cases h1:a.testBit j<;>cases h2:b.testBit j<;>simp_all
  ·rw [Nat.testBit_lt_two_pow (Nat.lt_of_lt_of_le ha (show 2 ^ 6≤2 ^ j from Nat.pow_le_pow_right (by omega) (by omega)))];rfl
theorem xX (a k:Nat):a.testBit k=decide (a / 2 ^ k % 2=1):=Nat.testBit_eq_decide_div_mod_eq
end Go.Proofs.YtdicgggkdmkklaaGreatDoor
namespace Go.Proofs.YtdicgggkdmkklaaGreatDoor
open Go.ChangeShapes Go.WideShapes Go.RowKit
theorem lV (m i:Nat) (w:World) (hm:m<2 ^ 31) (hi:i<100):
 Calls Tryz.prog 110 #[.int .i64 m, .int .i64 i] w fun e w'=>e= .returned (.bool (m.testBit i))∧w=w':=by
 have HB:Hid (m.testBit i=decide (m / 2 ^ i % 2=1)):=Lib.hid Nat.testBit_eq_decide_div_mod_eq
 generalize m.testBit i=R at *
 go_enter Tryz.func110,Tryz.ntmps110
 go_wp2
 go_loop [0,5] (fun v k=>∃j n:Nat,j≤i∧n<2 ^ 31∧k= .int .i64 j∧v= .int .i64 n∧Hid (m / 2 ^ j=n)) (fun _ k=>i - (intOf k).toNat)
 case atStart=>exact ⟨0,m,by omega,hm,rfl,rfl,by simp [Hid]⟩
 case round=>
  obtain ⟨j,n,hj,hn,rfl,rfl,HN⟩:=hrel
  by_cases hlt:j<i
  ·have HX:Hid (m / 2 ^ (j+1)=n / 2):=Lib.hid (by rw [Nat.pow_succ,←Nat.div_div_eq_div_mul,HN.out])
   go_wp2
   go_round
   case rel=>exact ⟨j+1,n / 2,by omega,by omega,by go_num,by go_num,HX⟩
   case measure=>simp [intOf];omega
  ·obtain rfl:j=i:=by omega
   have HE:Hid (R=decide (n % 2=1)):=Lib.hid (by rw [HB.out,HN.out])
   go_wp2
   go_ret
   exact ⟨aX (by rw [HE.out,Bool.eq_iff_iff];simp;omega),rfl⟩
theorem Gf (w:World):Calls Tryz.prog 105 #[] w (kR w bU):=by
 go_enter Tryz.func105,Tryz.ntmps105
 go_wp2
 go_ret
 exact ⟨_,_,rfl,qw bU _ rfl (by decide) w _ rfl,(Below.refl _ _).alloc (Nat.le_refl _) _⟩
theorem Jl (w:World):Calls Tryz.prog 106 #[] w (kR w iQ):=by
 go_enter Tryz.func106,Tryz.ntmps106
 go_wp2
 go_ret
 exact ⟨_,_,rfl,qw iQ _ rfl (by decide) w _ rfl,(Below.refl _ _).alloc (Nat.le_refl _) _⟩
theorem Ep (w:World):Calls Tryz.prog 107 #[] w (kR w fU):=by
 go_enter Tryz.func107,Tryz.ntmps107
 go_wp2
 go_ret
 exact ⟨_,_,rfl,qw fU _ rfl (by decide) w _ rfl,(Below.refl _ _).alloc (Nat.le_refl _) _⟩
theorem Jk (w:World):Calls Tryz.prog 108 #[] w (kR w iP):=by
 go_enter Tryz.func108,Tryz.ntmps108
 go_wp2
 go_ret
 exact ⟨_,_,rfl,qw iP _ rfl (by decide) w _ rfl,(Below.refl _ _).alloc (Nat.le_refl _) _⟩
theorem OX (w:World):Calls Tryz.prog 188 #[] w (kR w fV):=by
 go_enter Tryz.func188,Tryz.ntmps188
 go_wp2
 go_ret
 exact ⟨_,_,rfl,qw fV _ rfl (by decide) w _ rfl,(Below.refl _ _).alloc (Nat.le_refl _) _⟩
theorem Vy (i:Nat) (hi:i<6):bD (2 ^ i)=wd aO i:=by
 have:∀i,i<6→bD (2 ^ i)=wd aO i:=by decide +kernel
 exact this i hi
theorem kE (i:Nat) (hi:i<6) (w:World):
 Calls Tryz.prog 111 #[.int .i64 i] w fun e w'=>e= .returned (.string (B (wd aO i)))∧Below w.heap.size w w':=by
 have HT:=Lib.hid (Vy i hi)
 generalize wd aO i=R at *
 go_enter Tryz.func111,Tryz.ntmps111
 go_wp2
 go_loop [3,4] (fun v k=>∃j n:Nat,j≤i∧n≤63∧k= .int .i64 j∧v= .int .i64 n∧Hid (2 ^ j=n)) (fun _ k=>i - (intOf k).toNat)
 case atStart=>exact ⟨0,1,by omega,by omega,rfl,rfl,rfl⟩
 case round=>
  obtain ⟨j,n,hj,hn,rfl,rfl,HN⟩:=hrel
  by_cases hlt:j<i
  ·have HX:Hid (2 ^ (j+1)=n * 2):=Lib.hid (by rw [Nat.pow_succ,HN.out])
   have hn2:n * 2≤63:=by
    have h1:=HX.out
    have h2:2 ^ (j+1)≤2 ^ 5:=Nat.pow_le_pow_right (by omega) (by omega)
    omega
   go_wp2
   go_round
   case rel=>exact ⟨j+1,n * 2,by omega,hn2,by go_num,by go_num,HX⟩
   case measure=>simp [intOf];omega
  ·obtain rfl:j=i:=by omega
   have HE:Hid (bD n=R):=Lib.hid (by rw [←HN.out,HT.out])
   have hpos:1≤n:=by have:=HN.out;have h2:0<2 ^ j:=Nat.pow_pos (by omega);omega
   go_wp2_with (go_at_call 167;(with_reducible refine (yM _ hpos hn _).mono ?_);rintro e w2 ⟨rfl,hb⟩)
   go_ret
   exact ⟨dV (by rw [HE.out]),hb⟩
theorem acv (k n:Int) (w:World):
 Calls Tryz.prog 83 #[.agg #[.int .i64 k, .int .i64 n]] w fun e w'=>e= .returned (.bool (bnd k n))∧Below w.heap.size w w':=by
 go_enter Tryz.func83,Tryz.ntmps83
 go_wp2
 all_goals
  go_ret
  exact ⟨aX (by simp [bnd,jJ, *]<;>omega),(Below.refl _ _).alloc (Nat.le_refl _) _⟩
theorem acu (a b:Nat) (m:Int) (w:World) (h1:(a:Int)≤m) (h2:(b:Int)≤m) (h3:m≤63) (R:Bool) (HR:Hid (R=(a&&& b==0))):
 Calls Tryz.prog 81 #[.int .i64 a, .int .i64 b, .int .i64 m] w fun e w'=>e= .returned (.bool R)∧w=w':=by
 have g1:a<64:=by omega
 have g2:b<64:=by omega
 have HZ:Hid (a&&& b=0↔ ∀j,j<6→¬(a.testBit j=true∧b.testBit j=true)):=Lib.hid (akF a b g1)
 go_enter Tryz.func81,Tryz.ntmps81
 go_wp2
 go_loop [0,1,7] (fun u v k=>∃j n p:Nat,j≤6∧n<64∧p<64∧k= .int .i64 j∧u= .int .i64 n∧v= .int .i64 p∧Hid (a / 2 ^ j=n∧b / 2 ^ j=p∧∀i,i<j→¬(a.testBit i=true∧b.testBit i=true))) (fun _ _ k=>6 - (intOf k).toNat)
 case atStart=>exact ⟨0,a,b,by omega,g1,g2,rfl,rfl,rfl,Lib.hid ⟨by simp,by simp,fun i hi=>by omega⟩⟩
 case round=>
  obtain ⟨j,n,p,hj,hn,hp,rfl,rfl,rfl,HN⟩:=hrel
  by_cases hlt:j<6
  ·have hstep:¬(n % 2=1∧p % 2=1)→Hid (a / 2 ^ (j+1)=n / 2∧b / 2 ^ (j+1)=p / 2∧∀i,i<j+1→¬(a.testBit i=true∧b.testBit i=true)):=fun hh=>Lib.hid ⟨by rw [Nat.pow_succ,←Nat.div_div_eq_div_mul,HN.out.1],by rw [Nat.pow_succ,←Nat.div_div_eq_div_mul,HN.out.2.1],fun i hi=>by
    rcases Nat.lt_or_ge i j with h|h
    ·exact HN.out.2.2 i h
    ·obtain rfl:i=j:=by omega
     rw [xX,xX,HN.out.1,HN.out.2.1];simpa using hh⟩
   by_cases o1:n % 2=1
   ·have t1:((n:Int) % 2==1)=true:=by simp;omega
    by_cases o2:p % 2=1
    ·have t2:((p:Int) % 2==1)=true:=by simp;omega
     have HF:Hid (R=false):=Lib.hid (by
      rw [HR.out,beq_eq_false_iff_ne];intro h
      refine (HZ.out.1 h) j hlt ?_
      rw [xX,xX,HN.out.1,HN.out.2.1];simp [o1,o2])
     clear hstep o1 o2
     go_wp2
     go_ret
     exact ⟨aX HF.out.symm,rfl⟩
    ·have t2:((p:Int) % 2==1)=false:=by simp;omega
     have HX:=hstep (by omega)
     clear hstep o1 o2
     go_wp2
     go_round
     case rel=>exact ⟨j+1,n / 2,p / 2,by omega,by omega,by omega,by go_num,by go_num,by go_num,HX⟩
     case measure=>simp [intOf];omega
   ·have t1:((n:Int) % 2==1)=false:=by simp;omega
    have HX:=hstep (by omega)
    clear hstep o1
    go_wp2
    go_round
    case rel=>exact ⟨j+1,n / 2,p / 2,by omega,by omega,by omega,by go_num,by go_num,by go_num,HX⟩
    case measure=>simp [intOf];omega
  ·obtain rfl:j=6:=by omega
   have HT:Hid (R=true):=Lib.hid (by rw [HR.out,beq_iff_eq];exact HZ.out.2 HN.out.2.2)
   go_wp2
   go_ret
   exact ⟨aX HT.out.symm,rfl⟩
theorem OW (a b m:Int) (w:World) (h3:m≤63):
 Calls Tryz.prog 81 #[.int .i64 a, .int .i64 b, .int .i64 m] w fun e w'=>e= .returned (.bool (mF a b m))∧w=w':=by
 by_cases h:0≤a∧a≤m∧0≤b∧b≤m
 ·obtain ⟨x,rfl⟩:∃x:Nat,a=(x:Int):=⟨a.toNat,by omega⟩
  obtain ⟨y,rfl⟩:∃y:Nat,b=(y:Int):=⟨b.toNat,by omega⟩
  refine acu x y m w h.2.1 h.2.2.2 h3 _ (Lib.hid ?_)
  unfold mF jJ
  rw [LW x y (by omega) (by omega),decide_eq_true h.1,decide_eq_true h.2.1,decide_eq_true h.2.2.1,decide_eq_true h.2.2.2,Bool.eq_iff_iff]
  simp
 ·have hF:mF a b m=false:=by
   cases hh:mF a b m with
   |false=>rfl
   |true=>
    simp only [mF,jJ,Bool.and_eq_true,decide_eq_true_eq] at hh
    exact absurd ⟨hh.1.1,hh.1.2,hh.2.1.1,hh.2.1.2⟩ h
  rw [hF]
  have hc:a<0∨(0≤a∧m<a)∨(0≤a∧a≤m∧b<0)∨(0≤a∧a≤m∧0≤b∧m<b):=by omega
  clear h hF
  rcases hc with h|⟨h,h1⟩|⟨h,h1,h2⟩|⟨h,h1,h2,h4⟩
  all_goals
   go_enter Tryz.func81,Tryz.ntmps81
   go_wp2
   go_ret
   exact ⟨rfl,rfl⟩
end Go.Proofs.YtdicgggkdmkklaaGreatDoor
namespace Go.Proofs.YtdicgggkdmkklaaGreatDoor
end Go.Proofs.YtdicgggkdmkklaaGreatDoor
namespace Go.Proofs.YtdicgggkdmkklaaGreatDoor
open Go.ChangeShapes Go.WideShapes Go.RowKit
theorem jA (i:Nat) (hi:i<5) (w:World):
 Calls Tryz.prog 112 #[.int .i64 i] w fun e w'=>e= .returned (.string (B (wd aY i)))∧w=w':=by
 rcases i with _|_|_|_|_|i
 ·go_enter Tryz.func112,Tryz.ntmps112
  go_wp2
  go_ret
  exact ⟨rfl,rfl⟩
 ·go_enter Tryz.func112,Tryz.ntmps112
  go_wp2
  go_ret
  exact ⟨rfl,rfl⟩
 ·go_enter Tryz.func112,Tryz.ntmps112
  go_wp2
  go_ret
  exact ⟨rfl,rfl⟩
 ·go_enter Tryz.func112,Tryz.ntmps112
  go_wp2
  go_ret
  exact ⟨rfl,rfl⟩
 ·go_enter Tryz.func112,Tryz.ntmps112
  go_wp2
  go_ret
  exact ⟨rfl,rfl⟩
 ·omega
theorem afa (w:World):Calls Tryz.prog 187 #[] w (kR w bK):=by
 go_enter Tryz.func187,Tryz.ntmps187
 go_wp2
 go_ret
 exact ⟨_,_,rfl,qw bK _ rfl (by decide) w _ rfl,(Below.refl _ _).alloc (Nat.le_refl _) _⟩
theorem zy {T:List Str} {i:Nat} (h:i<T.length):T[i]=wd T i:=by simp [wd,List.getD,h]
theorem BO (i:Nat) (hi:i<17) (w:World):
 Calls Tryz.prog 113 #[.int .i64 i] w fun e w'=>e= .returned (.string (B (wd bK i)))∧Below w.heap.size w w':=by
 have hi2:i<bK.length:=hi
 have HW:=Lib.hid (zy hi2)
 go_enter Tryz.func113,Tryz.ntmps113
 go_wp2_with (go_at_call 187;(with_reducible refine (afa _).mono ?_);rintro e w1 ⟨A,c,rfl,ht,hb⟩;obtain ⟨g,rfl,hg,hcl⟩:=ht.at_ hi2)
 go_ret
 exact ⟨dV (by rw [HW.out]),hb⟩
def anE (w:World) (base:Nat) (l:List Str) (e:Ending) (w':World):Prop:=∃A c,e= .returned (.slice A l.length c)∧Texts w' base l (.slice A l.length c)∧Below base w w'
theorem o7 (l:List Str) (A:Option Addr) (c base:Nat) (s:ByteArray) (sl:Str) (hs:L s=sl) (w:World) (h:Texts w base l (.slice A l.length c)) (hb:base≤w.heap.size) (hlen:l.length<1000000):
 Calls Tryz.prog 109 #[.slice A l.length c, .string s] w (anE w base (bf l sl)):=by
 subst hs
 by_cases h0:L s=[]
 ·have t0:s.toList=[]:=by rw [dZ];exact h0
  have HX:Hid (bf l (L s)=l):=Lib.hid (if_pos h0)
  clear h0
  generalize bf l (L s)=R at *
  go_enter Tryz.func109,Tryz.ntmps109
  go_wp2
  go_ret
  have e:=HX.out
  subst e
  exact ⟨A,c,rfl,h,Below.refl _ _⟩
 ·have t0:s.toList.isEmpty=false:=by rw [dZ];simpa using h0
  have t1:¬s.toList=[]:=by rw [dZ];exact h0
  have HX:Hid (bf l (L s)=l++[L s]):=Lib.hid (if_neg h0)
  have hln:l.length<1000000000:=by omega
  clear h0
  generalize bf l (L s)=R at *
  go_enter Tryz.func109,Tryz.ntmps109
  go_wp2_with (at_builtin;refine dH rfl (.tmp 8) (.tmp 10) 73 rfl Tryz.underlying73 jB rfl rfl h hln hb ?_;intro v' w2 hown2 hb2)
  go_ret
  rw [←HX.out] at hown2
  obtain ⟨A2,c2,rfl,_⟩:=hown2.form
  exact ⟨A2,c2,rfl,hown2,hb2⟩
def Ib (w w1:World) (k n g:Nat) (x:Str) (w':World):Prop:=w'.cell? ⟨g,k,none⟩=some (.string (B x))∧w'.cell? ⟨w.heap.size,0,none⟩=some (.int .i64 k)∧w'.cell? ⟨w.heap.size,1,none⟩=some (.int .i64 n)∧Below w1.heap.size w1 w'
theorem Ib.out {w w1 w':World} {k n g:Nat} {x:Str} (h:Ib w w1 k n g x w'):w'.cell? ⟨g,k,none⟩=some (.string (B x))∧w'.cell? ⟨w.heap.size,0,none⟩=some (.int .i64 k)∧w'.cell? ⟨w.heap.size,1,none⟩=some (.int .i64 n)∧Below w1.heap.size w1 w':=h
theorem Ib.below {w w1 w2 w3:World} {k n g:Nat} {x:Str} (h:Ib w w1 k n g x w2) (hb:Below w2.heap.size w2 w3):Ib w w1 k n g x w3:=⟨cell_below hb h.1,cell_below hb h.2.1,cell_below hb h.2.2.1,aaC h.2.2.2 hb⟩
theorem Ib.drew {w w1 w2:World} {k n g:Nat} {x:Str} (h:Ib w w1 k n g x w2):Ib w w1 k n g x w2.drew:=h.below (Below.refl _ _).drew
theorem sJ (name:ByteArray) (nl:Str) (hnl:L name=nl) (k n:Nat) (hk:k<4) (hn:n≤1000000) (hs:name.size≤100) (w:World):
 Calls Tryz.prog 114 #[.string name, .agg #[.int .i64 k, .int .i64 n]] w fun e w'=>e= .returned (.string (B (bH nl k n)))∧Below w.heap.size w w':=by
 subst hnl
 rcases Nat.eq_zero_or_pos k with h0|h0
 ·have HD:Hid (bH (L name) k n=[]):=if_pos h0
  have t0:=eqn k 0 (by omega)
  generalize bH (L name) k n=R at *
  clear h0
  go_enter Tryz.func114,Tryz.ntmps114
  go_wp2
  go_ret
  exact ⟨dV (by rw [HD.out];rfl),(Below.refl _ _).alloc (Nat.le_refl _) _⟩
 ·have t0:=pK k 0 (by omega)
  have hk2:k<fV.length:=hk
  have HD:Hid (bH (L name) k n=L name++fV[k]++Lib.itoa n):=Lib.hid (by rw [bH,if_neg (by omega),zy hk2])
  have hwl:(fV[k]).length≤2:=by rw [zy hk2];exact l7 (by decide) k
  have hil:=Lib.itoa_length_le n (by omega) (by omega)
  generalize bH (L name) k n=R at *
  clear h0
  go_enter Tryz.func114,Tryz.ntmps114
  go_wp2_with (go_at_call 188;(with_reducible refine (OX _).mono ?_);rintro e w1 ⟨A,c,rfl,ht,hb⟩;obtain ⟨g,rfl,hg,hcl⟩:=ht.at_ hk2;generalize fV[k]=x at *)
  have a1:∀wx:World,(Op.stringOp .add name (B x)).run Tryz.prog wx= .ok (.string (name++B x)) wx:=fun wx=>run_string_add_sum (P:=Tryz.prog) (w:=wx) _ _ (by rw [bC];omega)
  have a2:∀wx:World,(Op.stringOp .add (name++B x) (B (Lib.itoa n))).run Tryz.prog wx= .ok (.string (name++B x++B (Lib.itoa n))) wx:=fun wx=>run_string_add_sum (P:=Tryz.prog) (w:=wx) _ _ (by rw [ByteArray.size_append,bC,bC];omega)
  have hB:Ib w w1 k n g x w1:=⟨hcl,(qm hb 0).trans (by simp),(qm hb 1).trans (by simp),Below.refl _ _⟩
  go_region_held3 (fun w'=>w'.cell? ⟨g,k,none⟩=some (.string (B x))∧w'.cell? ⟨w.heap.size,0,none⟩=some (.int .i64 k)∧w'.cell? ⟨w.heap.size,1,none⟩=some (.int .i64 n)∧Below w1.heap.size w1 w') (exact Ib.out (by first|assumption|exact Ib.drew hB)) (first|(go_at_call 65;(with_reducible refine ((qo n _ (by omega) (by omega)).mono fun e w' h=>⟨h.1,hB.drew.below h.2⟩:Calls _ _ _ _ fun e w'=>e= .returned (.string (B (Lib.itoa n)))∧Ib w w1 k n g x w').mono ?_);rintro e w2 ⟨rfl,hB2⟩))
  go_wp2
  go_ret
  exact ⟨dV (lC (by simp [nO,HD.out])),aaC (aaC ((Below.refl _ _).alloc (Nat.le_refl _) _) hb) hB2.2.2.2⟩
theorem afe (f:aH):dh f=(jJ f.zone 5&&(jJ f.who 2&&(jJ f.self 2&&(jJ f.dJ 2&&(mF f.types f.aV 63&&(mF f.colors f.aP 31&&((decide (f.sub.toList=[]) || nG (L f.sub))&&(jJ f.keys 131071&&(bnd f.pk f.pn&&(bnd f.tk f.tn&&bnd f.vk f.vn)))))))))):=by
 have e:decide (f.sub.toList=[])=(L f.sub==[]):=by rw [dZ,Bool.eq_iff_iff];simp
 unfold dh
 rw [e]
 cases jJ f.zone 5<;>cases jJ f.who 2<;>cases jJ f.self 2<;>cases jJ f.dJ 2<;>cases jJ f.keys 131071<;>simp
theorem RN (zone who self types aV colors aP:Int) (sub:ByteArray) (keys dJ pk pn tk tn vk vn:Int) (w:World) (R:Bool) (HR:Hid (dh ⟨zone,who,self,types,aV,colors,aP,sub,keys,dJ,pk,pn,tk,tn,vk,vn⟩=R)):
 Calls Tryz.prog 31 #[.agg #[.int .i64 zone, .int .i64 who, .int .i64 self, .int .i64 types, .int .i64 aV, .int .i64 colors, .int .i64 aP, .string sub, .int .i64 keys, .int .i64 dJ, .int .i64 pk, .int .i64 pn, .int .i64 tk, .int .i64 tn, .int .i64 vk, .int .i64 vn]] w fun e w'=>e= .returned (.bool R)∧Below w.heap.size w w':=by
 obtain ⟨b1,H1⟩:∃b,Hid (mF types aV 63=b):=⟨_,rfl⟩
 obtain ⟨b2,H2⟩:∃b,Hid (mF colors aP 31=b):=⟨_,rfl⟩
 obtain ⟨b3,H3⟩:∃b,Hid (nG (L sub)=b):=⟨_,rfl⟩
 obtain ⟨b5,H5⟩:∃b,Hid (bnd pk pn=b):=⟨_,rfl⟩
 obtain ⟨b6,H6⟩:∃b,Hid (bnd tk tn=b):=⟨_,rfl⟩
 obtain ⟨b7,H7⟩:∃b,Hid (bnd vk vn=b):=⟨_,rfl⟩
 have HD:Hid (R=(jJ zone 5&&(jJ who 2&&(jJ self 2&&(jJ dJ 2&&(b1&&(b2&&((decide (sub.toList=[]) || b3)&&(jJ keys 131071&&(b5&&(b6&&b7))))))))))):=Lib.hid (by rw [←HR.out,afe,←H1.out,←H2.out,←H3.out,←H5.out,←H6.out,←H7.out])
 clear HR
 have hb:Hid (Below w.heap.size w (w.alloc (.cells #[.int .i64 zone, .int .i64 who, .int .i64 self, .int .i64 types, .int .i64 aV, .int .i64 colors, .int .i64 aP, .string sub, .int .i64 keys, .int .i64 dJ, .int .i64 pk, .int .i64 pn, .int .i64 tk, .int .i64 tn, .int .i64 vk, .int .i64 vn] 25))):=Lib.hid ((Below.refl _ _).alloc (Nat.le_refl _) _)
 go_enter Tryz.func31,Tryz.ntmps31
 go_wp2_with (first|(go_at_call 81;(with_reducible refine (OW types aV 63 _ (by decide)).mono ?_);rw [H1.out];rintro e w1 ⟨rfl,rfl⟩)|(go_at_call 81;(with_reducible refine (OW colors aP 31 _ (by decide)).mono ?_);rw [H2.out];rintro e w1 ⟨rfl,rfl⟩)|(go_at_call 82;(with_reducible refine (carry (Qk sub _) (Below.refl _ _)).mono ?_);rw [H3.out];rintro e w2 ⟨rfl,hb2⟩;have hc2:=qm hb2)|(go_at_call 83;(with_reducible refine (carry (acv _ _ _) (by first|assumption|exact Below.refl _ _)).mono ?_);(first|rw [H5.out]|rw [H6.out]|rw [H7.out]);rintro e w2 ⟨rfl,hb2⟩;have hc2:=qm hb2))
 all_goals
  go_ret
  refine ⟨aX ?_,?_⟩
  ·rw [HD.out];first|(simp [jJ, *];done)|(simp [jJ, *];omega)|(simp_all [jJ];done)|(simp_all [jJ];omega)
  ·first|exact hb.out|exact aaC hb.out (by assumption)
theorem Wj {m N:Nat} (h:m<2 ^ N):∀k,N≤k→aK m k=aK m N
 |0,hk=>by
  obtain rfl:N=0:=by omega
  rfl
 |k+1,hk=>by
  by_cases e:N=k+1
  ·rw [e]
  ·have hb:m.testBit k=false:=Nat.testBit_lt_two_pow (Nat.lt_of_lt_of_le h (Nat.pow_le_pow_right (by omega) (by omega)))
   rw [oL hb];exact Wj h k (by omega)
theorem Ri (l m:List Str) (h:∀x∈m,x≠[]):m.foldl bf l=l++m:=by
 induction m generalizing l with
 |nil=>simp
 |cons x r ih=>
  rw [List.foldl_cons,ih _ (fun y hy=>h y (List.mem_cons_of_mem _ hy)),bf,if_neg (h x (by simp))];simp
theorem uo (l:List Str) (p:Str) (T:List Str) {m N:Nat} (hm:m<2 ^ N) (hN:N≤31) (hne:∀i,i<N→p++wd T i≠[]):aZ l p T m=l++(aK m N).map fun i=>p++wd T i:=by
 unfold aZ
 rw [Wj hm 31 hN,Ri]
 intro x hx
 obtain ⟨i,hi,rfl⟩:=List.mem_map.1 hx
 exact hne i (Zd hi)
theorem Bg {l L0:List Str} {p:Str} {T:List Str} {m k:Nat} (h:l=L0++(aK m k).map fun i=>p++wd T i) (hb:m.testBit k=false):l=L0++(aK m (k+1)).map fun i=>p++wd T i:=by rw [oL hb];exact h
theorem yC {l L0:List Str} {p:Str} {T:List Str} {m k:Nat} (h:l=L0++(aK m k).map fun i=>p++wd T i) (hb:m.testBit k=true):l++[p++wd T k]=L0++(aK m (k+1)).map fun i=>p++wd T i:=by rw [qI hb,List.map_append,h];simp
theorem ajA:∀i,i<6→[]++wd aO i≠[]:=by decide
theorem afO:∀i,i<6→dD++wd aO i≠[]:=by decide
theorem aeS:∀i,i<5→[]++wd aY i≠[]:=by decide
theorem acZ:∀i,i<5→dD++wd aY i≠[]:=by decide
theorem abe:∀i,i<17→fZ++wd bK i≠[]:=by decide
def At (b:Nat) (W:World) (g j:Nat) (v:Value):Prop:=g<b∧W.cell? ⟨g,j,none⟩=some v
theorem At.of {W:World} {g j:Nat} {v:Value} (h:W.cell? ⟨g,j,none⟩=some v):At W.heap.size W g j v:=⟨World.block_lt_of_cell? W _ h,h⟩
theorem At.get {b:Nat} {W w':World} {g j:Nat} {v:Value} (h:At b W g j v) (hb:Below b W w'):w'.cell? ⟨g,j,none⟩=some v:=yT hb h.1 h.2
theorem anS {w w1 w2:World} {cs:Array Value} {t:Nat} (h:Below (w.alloc (.cells cs t)).heap.size (w.alloc (.cells cs t)) w1) (hb:Below w1.heap.size w1 w2) (j:Nat):w2.cell? ⟨w.heap.size,j,none⟩=cs[j]? :=by
 have hs:=h.size;simp at hs
 rw [hb.cell (p:=⟨w.heap.size,j,none⟩) (by show w.heap.size<_;omega),qm h j,cell_of_row _ _ j cs t (0,0) (heap_alloc_new w _)]
theorem agC (z wh se ty nt co nc:Nat) (sub:ByteArray) (ke ta pk pn tk tn vk vn:Nat) (w:World) (HV:Hid (dh ⟨z,wh,se,ty,nt,co,nc,sub,ke,ta,pk,pn,tk,tn,vk,vn⟩=true))
 (hz:z≤5) (hwh:wh<3) (hse:se<3) (hty:ty<2 ^ 6) (hnt:nt<2 ^ 6) (hco:co<2 ^ 5) (hnc:nc<2 ^ 5) (hsub:sub.size≤32) (hke:ke<2 ^ 17) (hta:ta<3)
 (hpk:pk<4) (hpn:pn≤1000000) (htk:tk<4) (htn:tn≤1000000) (hvk:vk<4) (hvn:vn≤1000000)
 (hjl:Hid ((Lib.join (gG (lu z wh se ty nt co nc sub ke ta pk pn tk tn vk vn)) [32]).length≤140737488355328)):
 Calls Tryz.prog 43 #[.agg #[.int .i64 z, .int .i64 wh, .int .i64 se, .int .i64 ty, .int .i64 nt, .int .i64 co, .int .i64 nc, .string sub, .int .i64 ke, .int .i64 ta, .int .i64 pk, .int .i64 pn, .int .i64 tk, .int .i64 tn, .int .i64 vk, .int .i64 vn]] w fun e w'=>e= .returned (.string (B (iI (lu z wh se ty nt co nc sub ke ta pk pn tk tn vk vn))))∧Below w.heap.size w w':=by
 have hz':z<bU.length:=by show z<6;omega
 have hw':wh<iQ.length:=hwh
 have hs':se<fU.length:=hse
 have ht':ta<iP.length:=hta
 have HZ:=Lib.hid (zy hz');have HW:=Lib.hid (zy hw');have HS:=Lib.hid (zy hs');have HT:=Lib.hid (zy ht')
 have HFT:Hid (iI (lu z wh se ty nt co nc sub ke ta pk pn tk tn vk vn)=if gG (lu z wh se ty nt co nc sub ke ta pk pn tk tn vk vn)=[] then nP else Lib.join (gG (lu z wh se ty nt co nc sub ke ta pk pn tk tn vk vn)) [32]):=rfl
 have HFW:Hid (gG (lu z wh se ty nt co nc sub ke ta pk pn tk tn vk vn)=bf (bf (bf (bf (aZ (bif L sub==[] then aZ (aZ (aZ (aZ (bf (bf (bf [] (wd bU z)) (wd iQ wh)) (wd fU se)) [] aO ty) dD aO nt) [] aY co) dD aY nc else bf (aZ (aZ (aZ (aZ (bf (bf (bf [] (wd bU z)) (wd iQ wh)) (wd fU se)) [] aO ty) dD aO nt) [] aY co) dD aY nc) (iM++L sub)) fZ bK ke) (wd iP ta)) (bH eP pk pn)) (bH fE tk tn)) (bH fH vk vn)):=rfl
 generalize iI (lu z wh se ty nt co nc sub ke ta pk pn tk tn vk vn)=R at *
 generalize gG (lu z wh se ty nt co nc sub ke ta pk pn tk tn vk vn)=FW at *
 go_enter Tryz.func43,Tryz.ntmps43
 go_wp2_with (first|(go_at_call 31;(with_reducible refine (RN _ _ _ _ _ _ _ _ _ _ _ _ _ _ _ _ _ true HV).mono ?_);rintro e w1 ⟨rfl,hb1⟩)|(go_at_call 105;(with_reducible refine (Gf _).mono ?_);rintro e w2 ⟨A1,c1,rfl,ht1,hb2⟩;obtain ⟨g1,rfl,_,cz⟩:=ht1.at_ hz';rw [HZ.out] at cz)|(go_at_call 106;(with_reducible refine (Jl _).mono ?_);rintro e w3 ⟨A2,c2,rfl,ht2,hb3⟩;obtain ⟨g2,rfl,_,cw⟩:=ht2.at_ hw';rw [HW.out] at cw;have cz:=cell_below hb3 cz)|(go_at_call 107;(with_reducible refine (Ep _).mono ?_);rintro e w4 ⟨A3,c3,rfl,ht3,hb4⟩;obtain ⟨g3,rfl,_,cs⟩:=ht3.at_ hs';rw [HS.out] at cs;have cz:=cell_below hb4 cz;have cw:=cell_below hb4 cw)|(go_at_call 108;(with_reducible refine (Jk _).mono ?_);rintro e w5 ⟨A4,c4,rfl,ht4,hb5⟩;obtain ⟨g4,rfl,_,ct⟩:=ht4.at_ ht';rw [HT.out] at ct;have AT:=At.of ct;have AZ:=At.of (cell_below hb5 cz);have AW:=At.of (cell_below hb5 cw);have AS:=At.of (cell_below hb5 cs);have hb6:=aaC (aaC (aaC hb2 hb3) hb4) hb5;have BX:=anS hb1 hb6;have AB:Hid (∀j v,(#[.int .i64 z, .int .i64 wh, .int .i64 se, .int .i64 ty, .int .i64 nt, .int .i64 co, .int .i64 nc, .string sub, .int .i64 ke, .int .i64 ta, .int .i64 pk, .int .i64 pn, .int .i64 tk, .int .i64 tn, .int .i64 vk, .int .i64 vn]:Array Value)[j]? =some v→At w5.heap.size w5 w.heap.size j v):=Lib.hid (fun j v h=>At.of ((BX j).trans h));have HB5:Hid (Below w.heap.size w w5):=Lib.hid (aaC (aaC ((Below.refl _ _).alloc (Nat.le_refl _) _) hb1) hb6);have x0:=(AB.out 0 _ rfl).get (Below.refl _ _);have cz:=AZ.get (Below.refl _ _);clear BX hb2 hb3 hb4 hb5 hb6 hb1 ht1 ht2 ht3 ht4 ct cw cs))
 clear cz x0
 obtain ⟨b,hb⟩:∃b,w5.heap.size=b:=⟨_,rfl⟩
 rw [hb] at AT AZ AW AS AB
 have hbl:b≤w5.heap.size:=Nat.le_of_eq hb.symm
 have Ic:=Lib.hid hb
 clear hb
 refine (o7 [] none 0 b (B (wd bU z)) (wd bU z) rfl w5 (Texts.nil _ _) hbl (by simp)).mono ?_
 rintro e w6 ⟨A5,c5,rfl,HO,HQ⟩
 obtain ⟨la,hla⟩:∃l,bf [] (wd bU z)=l:=⟨_,rfl⟩
 have hll:=iG [] (wd bU z)
 rw [hla] at HO hll
 rw [hla]
 have HLA:=Lib.hid hla;clear hla
 simp only [List.length_nil,Nat.zero_add] at hll
 have cw:=AW.get HQ
 have x1:=(AB.out 1 (.int .i64 wh) rfl).get HQ
 dsimp only
 go_wp2_with fail
 refine (o7 la A5 c5 b (B (wd iQ wh)) (wd iQ wh) rfl w6 HO (Nat.le_trans hbl HQ.size) (by omega)).mono ?_
 rintro e w7 ⟨A6,c6,rfl,nV,nX⟩
 have hlm:=iG la (wd iQ wh)
 obtain ⟨lb,hlb⟩:∃l,bf la (wd iQ wh)=l:=⟨_,rfl⟩
 rw [hlb] at nV hlm
 rw [hlb]
 have HLB:=Lib.hid hlb
 have HQ:=HQ.trans nX
 clear hlb cw x1 HO nX
 have cs:=AS.get HQ
 have x2:=(AB.out 2 (.int .i64 se) rfl).get HQ
 dsimp only
 go_wp2_with fail
 refine (o7 lb A6 c6 b (B (wd fU se)) (wd fU se) rfl w7 nV (Nat.le_trans hbl HQ.size) (by omega)).mono ?_
 rintro e w8 ⟨A7,c7,rfl,HO,nX⟩
 have hln:=iG lb (wd fU se)
 obtain ⟨l0,hl0⟩:∃l,bf lb (wd fU se)=l:=⟨_,rfl⟩
 rw [hl0] at HO hln
 rw [hl0]
 have HL0:=Lib.hid hl0
 have HQ:=HQ.trans nX
 have hlen0:l0.length≤3:=by omega
 clear hl0 cs x2 nV nX hll hlm hln HZ HW HS hz' hw' hs'
 dsimp only
 go_wp2_with fail
 go_loopw [7,8] (fun v i wr=>∃k:Nat,∃l:List Str,k≤6∧l.length≤3+k∧i= .int .i64 k∧Texts wr b l v∧Below b w5 wr∧Hid (l=l0++(aK ty k).map fun i=>[]++wd aO i)) (fun _ i _=>6 - (intOf i).toNat)
 case atStart=>exact ⟨0,l0,by omega,by omega,rfl,HO,HQ,by simp [aK,Hid]⟩
 case round=>
  clear HQ HO
  obtain ⟨k,l1,hk,hlen,rfl,hown,hq,HL⟩:=hrel
  have hbs:=Nat.le_trans hbl hq.size
  have xm:=(AB.out 3 (.int .i64 ty) rfl).get hq
  by_cases hlt:k<6
  ·cases hbit:ty.testBit k
   ·have HN:=Lib.hid (Bg HL.out hbit)
    have HB:=Lib.hid hbit;clear hbit
    go_wp2_with (go_at_call 110;(with_reducible refine (lV ty k _ (by omega) (by omega)).mono ?_);rw [HB.out];rintro e wn ⟨rfl,rfl⟩)
    go_roundw
    case rel=>exact ⟨k+1,l1,by omega,by omega,by go_num,hown,hq,HN⟩
    case measure=>simp [intOf];omega
   ·have HN:=Lib.hid (yC HL.out hbit)
    have HB:=Lib.hid hbit;clear hbit
    have hwl:(wd aO k).length≤20:=l7 (by decide) k
    have hln:l1.length<1000000000:=by omega
    go_wp2_with (first|(go_at_call 110;(with_reducible refine (lV ty k _ (by omega) (by omega)).mono ?_);rw [HB.out];rintro e wn ⟨rfl,rfl⟩)|(go_at_call 111;(with_reducible refine (kE k hlt _).mono ?_);rintro e wn ⟨rfl,hbn⟩;have hown2:=hown.below hbn;have hq2:=hq.trans (hbn.mono hbs);have BR:=Nat.le_trans hbl hq2.size;clear hown hbs xm)|(at_builtin;refine dH rfl (.tmp 49) (.tmp 52) 73 rfl Tryz.underlying73 jB rfl rfl hown2 hln BR ?_;intro v' w8 hown3 hb3))
    have hq3:=hq2.trans hb3
    rw [cO] at hown3
    go_roundw
    case rel=>exact ⟨k+1,_,by omega,by simp;omega,by go_num,hown3,hq3,HN⟩
    case measure=>simp [intOf];omega
  ·have HK:Hid (k=6):=Lib.hid (by omega)
   have HA1:Hid (aZ l0 [] aO ty=l1):=Lib.hid ((uo l0 [] aO hty (by decide) ajA).trans (by rw [HL.out,HK.out]))
   have hlen1:l1.length≤9:=by omega
   clear HL xm hk hlen hbs HK
   have HO:=hown;have HQ:=hq;clear hown hq
   go_wp2_with fail
   go_loopw [7,9] (fun v i wr=>∃k:Nat,∃l:List Str,k≤6∧l.length≤9+k∧i= .int .i64 k∧Texts wr b l v∧Below b w5 wr∧Hid (l=l1++(aK nt k).map fun i=>dD++wd aO i)) (fun _ i _=>6 - (intOf i).toNat)
   case atStart=>exact ⟨0,l1,by omega,by omega,rfl,HO,HQ,by simp [aK,Hid]⟩
   case round=>
    clear HQ HO
    obtain ⟨k,l2,hk,hlen,rfl,hown,hq,HL⟩:=hrel
    have hbs:=Nat.le_trans hbl hq.size
    have xm:=(AB.out 4 (.int .i64 nt) rfl).get hq
    by_cases hlt:k<6
    ·cases hbit:nt.testBit k
     ·have HN:=Lib.hid (Bg HL.out hbit)
      have HB:=Lib.hid hbit;clear hbit
      go_wp2_with (go_at_call 110;(with_reducible refine (lV nt k _ (by omega) (by omega)).mono ?_);rw [HB.out];rintro e wn ⟨rfl,rfl⟩)
      go_roundw
      case rel=>exact ⟨k+1,l2,by omega,by omega,by go_num,hown,hq,HN⟩
      case measure=>simp [intOf];omega
     ·have HN:=Lib.hid (yC HL.out hbit)
      have HB:=Lib.hid hbit;clear hbit
      have hwl:(wd aO k).length≤20:=l7 (by decide) k
      have hln:l2.length<1000000000:=by omega
      have HP:Hid (L (⟨#[110,111,110,45]⟩++B (wd aO k))=dD++wd aO k):=Lib.hid (nO _ _)
      go_wp2_with (first|(go_at_call 110;(with_reducible refine (lV nt k _ (by omega) (by omega)).mono ?_);rw [HB.out];rintro e wn ⟨rfl,rfl⟩)|(go_at_call 111;(with_reducible refine (kE k hlt _).mono ?_);rintro e wn ⟨rfl,hbn⟩;have hown2:=hown.below hbn;have hq2:=hq.trans (hbn.mono hbs);have BR:=Nat.le_trans hbl hq2.size;clear hown hbs xm)|(at_builtin;refine dH rfl (.tmp 62) (.tmp 66) 73 rfl Tryz.underlying73 jB rfl rfl hown2 hln BR ?_;intro v' w8 hown3 hb3))
      have hq3:=hq2.trans hb3
      rw [HP.out] at hown3
      go_roundw
      case rel=>exact ⟨k+1,_,by omega,by simp;omega,by go_num,hown3,hq3,HN⟩
      case measure=>simp [intOf];omega
    ·have HK:Hid (k=6):=Lib.hid (by omega)
     have HA2:Hid (aZ l1 dD aO nt=l2):=Lib.hid ((uo l1 dD aO hnt (by decide) afO).trans (by rw [HL.out,HK.out]))
     have hlen2:l2.length≤15:=by omega
     clear HL xm hk hlen hbs HK
     have HO:=hown;have HQ:=hq;clear hown hq
     go_wp2_with fail
     go_loopw [7,10] (fun v i wr=>∃k:Nat,∃l:List Str,k≤5∧l.length≤15+k∧i= .int .i64 k∧Texts wr b l v∧Below b w5 wr∧Hid (l=l2++(aK co k).map fun i=>[]++wd aY i)) (fun _ i _=>5 - (intOf i).toNat)
     case atStart=>exact ⟨0,l2,by omega,by omega,rfl,HO,HQ,by simp [aK,Hid]⟩
     case round=>
      clear HQ HO
      obtain ⟨k,l3,hk,hlen,rfl,hown,hq,HL⟩:=hrel
      have hbs:=Nat.le_trans hbl hq.size
      have xm:=(AB.out 5 (.int .i64 co) rfl).get hq
      by_cases hlt:k<5
      ·cases hbit:co.testBit k
       ·have HN:=Lib.hid (Bg HL.out hbit)
        have HB:=Lib.hid hbit;clear hbit
        go_wp2_with (go_at_call 110;(with_reducible refine (lV co k _ (by omega) (by omega)).mono ?_);rw [HB.out];rintro e wn ⟨rfl,rfl⟩)
        go_roundw
        case rel=>exact ⟨k+1,l3,by omega,by omega,by go_num,hown,hq,HN⟩
        case measure=>simp [intOf];omega
       ·have HN:=Lib.hid (yC HL.out hbit)
        have HB:=Lib.hid hbit;clear hbit
        have hwl:(wd aY k).length≤20:=l7 (by decide) k
        have hln:l3.length<1000000000:=by omega
        go_wp2_with (first|(go_at_call 110;(with_reducible refine (lV co k _ (by omega) (by omega)).mono ?_);rw [HB.out];rintro e wn ⟨rfl,rfl⟩)|(go_at_call 112;(with_reducible refine (jA k hlt _).mono ?_);rintro e wn ⟨rfl,rfl⟩;have hown2:=hown;have hq2:=hq;have BR:=hbs;clear hown hbs xm)|(at_builtin;refine dH rfl (.tmp 76) (.tmp 79) 73 rfl Tryz.underlying73 jB rfl rfl hown2 hln BR ?_;intro v' w8 hown3 hb3))
        have hq3:=hq2.trans hb3
        rw [cO] at hown3
        go_roundw
        case rel=>exact ⟨k+1,_,by omega,by simp;omega,by go_num,hown3,hq3,HN⟩
        case measure=>simp [intOf];omega
      ·have HK:Hid (k=5):=Lib.hid (by omega)
       have HA3:Hid (aZ l2 [] aY co=l3):=Lib.hid ((uo l2 [] aY hco (by decide) aeS).trans (by rw [HL.out,HK.out]))
       have hlen3:l3.length≤20:=by omega
       clear HL xm hk hlen hbs HK
       have HO:=hown;have HQ:=hq;clear hown hq
       go_wp2_with fail
       go_loopw [7,11] (fun v i wr=>∃k:Nat,∃l:List Str,k≤5∧l.length≤20+k∧i= .int .i64 k∧Texts wr b l v∧Below b w5 wr∧Hid (l=l3++(aK nc k).map fun i=>dD++wd aY i)) (fun _ i _=>5 - (intOf i).toNat)
       case atStart=>exact ⟨0,l3,by omega,by omega,rfl,HO,HQ,by simp [aK,Hid]⟩
       case round=>
        clear HQ HO
        obtain ⟨k,l4,hk,hlen,rfl,hown,hq,HL⟩:=hrel
        have hbs:=Nat.le_trans hbl hq.size
        have xm:=(AB.out 6 (.int .i64 nc) rfl).get hq
        by_cases hlt:k<5
        ·cases hbit:nc.testBit k
         ·have HN:=Lib.hid (Bg HL.out hbit)
          have HB:=Lib.hid hbit;clear hbit
          go_wp2_with (go_at_call 110;(with_reducible refine (lV nc k _ (by omega) (by omega)).mono ?_);rw [HB.out];rintro e wn ⟨rfl,rfl⟩)
          go_roundw
          case rel=>exact ⟨k+1,l4,by omega,by omega,by go_num,hown,hq,HN⟩
          case measure=>simp [intOf];omega
         ·have HN:=Lib.hid (yC HL.out hbit)
          have HB:=Lib.hid hbit;clear hbit
          have hwl:(wd aY k).length≤20:=l7 (by decide) k
          have hln:l4.length<1000000000:=by omega
          have HP:Hid (L (⟨#[110,111,110,45]⟩++B (wd aY k))=dD++wd aY k):=Lib.hid (nO _ _)
          go_wp2_with (first|(go_at_call 110;(with_reducible refine (lV nc k _ (by omega) (by omega)).mono ?_);rw [HB.out];rintro e wn ⟨rfl,rfl⟩)|(go_at_call 112;(with_reducible refine (jA k hlt _).mono ?_);rintro e wn ⟨rfl,rfl⟩;have hown2:=hown;have hq2:=hq;have BR:=hbs;clear hown hbs xm)|(at_builtin;refine dH rfl (.tmp 89) (.tmp 93) 73 rfl Tryz.underlying73 jB rfl rfl hown2 hln BR ?_;intro v' w8 hown3 hb3))
          have hq3:=hq2.trans hb3
          rw [HP.out] at hown3
          go_roundw
          case rel=>exact ⟨k+1,_,by omega,by simp;omega,by go_num,hown3,hq3,HN⟩
          case measure=>simp [intOf];omega
        ·have HK:Hid (k=5):=Lib.hid (by omega)
         have HA4:Hid (aZ l3 dD aY nc=l4):=Lib.hid ((uo l3 dD aY hnc (by decide) acZ).trans (by rw [HL.out,HK.out]))
         have as9:l4.length≤25:=by omega
         clear HL xm hk hlen hbs HK
         have HO:=hown;have HQ:=hq;clear hown hq
         have xs:=(AB.out 7 (.string sub) rfl).get HQ
         have hln:l4.length<1000000000:=by omega
         have hbs:=Nat.le_trans hbl HQ.size
         by_cases hs:L sub=[]
         ·have s0:sub.toList=[]:=by rw [dZ];exact hs
          obtain ⟨l5,hl5⟩:∃l,l4=l:=⟨_,rfl⟩
          have HSB:Hid (l5=bif L sub==[] then l4 else bf l4 (iM++L sub)):=Lib.hid (by rw [hs,←hl5];rfl)
          rw [hl5] at HO
          have hlen:l5.length≤26:=by rw [←hl5];omega
          clear hs hl5
          go_wp2_with fail
          go_loopw [7,12] (fun v i wr=>∃k:Nat,∃l:List Str,k≤17∧l.length≤26+k∧i= .int .i64 k∧Texts wr b l v∧Below b w5 wr∧Hid (l=l5++(aK ke k).map fun i=>fZ++wd bK i)) (fun _ i _=>17 - (intOf i).toNat)
          case atStart=>exact ⟨0,l5,by omega,by omega,rfl,HO,HQ,by simp [aK,Hid]⟩
          case round=>
           clear HQ HO
           obtain ⟨k,l6,hk,hlen,rfl,hown,hq,HL⟩:=hrel
           have hbs:=Nat.le_trans hbl hq.size
           have xm:=(AB.out 8 (.int .i64 ke) rfl).get hq
           by_cases hlt:k<17
           ·cases hbit:ke.testBit k
            ·have HN:=Lib.hid (Bg HL.out hbit)
             have HB:=Lib.hid hbit;clear hbit
             go_wp2_with (go_at_call 110;(with_reducible refine (lV ke k _ (by omega) (by omega)).mono ?_);rw [HB.out];rintro e wn ⟨rfl,rfl⟩)
             go_roundw
             case rel=>exact ⟨k+1,l6,by omega,by omega,by go_num,hown,hq,HN⟩
             case measure=>simp [intOf];omega
            ·have HN:=Lib.hid (yC HL.out hbit)
             have HB:=Lib.hid hbit;clear hbit
             have hwl:(wd bK k).length≤20:=l7 (by decide) k
             have hln:l6.length<1000000000:=by omega
             have HP:Hid (L (⟨#[119,105,116,104,58]⟩++B (wd bK k))=fZ++wd bK k):=Lib.hid (nO _ _)
             go_wp2_with (first|(go_at_call 110;(with_reducible refine (lV ke k _ (by omega) (by omega)).mono ?_);rw [HB.out];rintro e wn ⟨rfl,rfl⟩)|(go_at_call 113;(with_reducible refine (BO k hlt _).mono ?_);rintro e wn ⟨rfl,hbn⟩;have hown2:=hown.below hbn;have hq2:=hq.trans (hbn.mono hbs);have BR:=Nat.le_trans hbl hq2.size;clear hown hbs xm)|(at_builtin;refine dH rfl (.tmp 112) (.tmp 116) 73 rfl Tryz.underlying73 jB rfl rfl hown2 hln BR ?_;intro v' w8 hown3 hb3))
             have hq3:=hq2.trans hb3
             rw [HP.out] at hown3
             go_roundw
             case rel=>exact ⟨k+1,_,by omega,by simp;omega,by go_num,hown3,hq3,HN⟩
             case measure=>simp [intOf];omega
           ·have HK:Hid (k=17):=Lib.hid (by omega)
            have HA5:Hid (aZ l5 fZ bK ke=l6):=Lib.hid ((uo l5 fZ bK hke (by decide) abe).trans (by rw [HL.out,HK.out]))
            have hlen5:l6.length≤43:=by omega
            clear HL xm hk hlen hbs HK
            have HO:=hown;have HQ:=hq;clear hown hq
            have ct:=AT.get HQ
            have x9:=(AB.out 9 (.int .i64 ta) rfl).get HQ
            obtain ⟨A8,c8,rfl,_⟩:=HO.form
            go_wp2_with fail
            refine (o7 l6 A8 c8 b (B (wd iP ta)) (wd iP ta) rfl _ HO (Nat.le_trans hbl HQ.size) (by omega)).mono ?_
            rintro e wa ⟨A9,c9,rfl,nV,nX⟩
            have hlm:=iG l6 (wd iP ta)
            obtain ⟨m0,hm0⟩:∃l,bf l6 (wd iP ta)=l:=⟨_,rfl⟩
            rw [hm0] at nV hlm
            rw [hm0]
            have HM0:=Lib.hid hm0
            have HQ:=HQ.trans nX
            have arR:m0.length≤44:=by omega
            clear hm0 ct x9 HO nX hlm HT ht'
            dsimp only
            have x10:=(AB.out 10 (.int .i64 pk) rfl).get HQ
            have x11:=(AB.out 11 (.int .i64 pn) rfl).get HQ
            go_wp2_with fail
            refine (sJ ⟨#[112,111,119,101,114]⟩ eP rfl pk pn hpk hpn (by decide) _).mono ?_
            rintro e wb0 ⟨rfl,hbb⟩
            have zD:=nV.below hbb
            have HQ:=HQ.trans (hbb.mono (Nat.le_trans hbl HQ.size))
            clear x10 x11 nV hbb
            dsimp only
            go_wp2_with fail
            refine (o7 m0 A9 c9 b (B (bH eP pk pn)) (bH eP pk pn) rfl _ zD (Nat.le_trans hbl HQ.size) (by omega)).mono ?_
            rintro e wd0 ⟨A10,c10,rfl,nV,nX⟩
            have hlm:=iG m0 (bH eP pk pn)
            obtain ⟨m1,hm1⟩:∃l,bf m0 (bH eP pk pn)=l:=⟨_,rfl⟩
            rw [hm1] at nV hlm
            rw [hm1]
            have SL:=Lib.hid hm1
            have HQ:=HQ.trans nX
            have arS:m1.length≤45:=by omega
            clear hm1 zD nX hlm
            dsimp only
            have x12:=(AB.out 12 (.int .i64 tk) rfl).get HQ
            have x13:=(AB.out 13 (.int .i64 tn) rfl).get HQ
            go_wp2_with fail
            refine (sJ ⟨#[116,111,117,103,104]⟩ fE rfl tk tn htk htn (by decide) _).mono ?_
            rintro e wb1 ⟨rfl,hbb⟩
            have zD:=nV.below hbb
            have HQ:=HQ.trans (hbb.mono (Nat.le_trans hbl HQ.size))
            clear x12 x13 nV hbb
            dsimp only
            go_wp2_with fail
            refine (o7 m1 A10 c10 b (B (bH fE tk tn)) (bH fE tk tn) rfl _ zD (Nat.le_trans hbl HQ.size) (by omega)).mono ?_
            rintro e wd1 ⟨A11,c11,rfl,nV,nX⟩
            have hlm:=iG m1 (bH fE tk tn)
            obtain ⟨m2,hm2⟩:∃l,bf m1 (bH fE tk tn)=l:=⟨_,rfl⟩
            rw [hm2] at nV hlm
            rw [hm2]
            have EI:=Lib.hid hm2
            have HQ:=HQ.trans nX
            have arT:m2.length≤46:=by omega
            clear hm2 zD nX hlm
            dsimp only
            have x14:=(AB.out 14 (.int .i64 vk) rfl).get HQ
            have x15:=(AB.out 15 (.int .i64 vn) rfl).get HQ
            go_wp2_with fail
            refine (sJ ⟨#[118,97,108,117,101]⟩ fH rfl vk vn hvk hvn (by decide) _).mono ?_
            rintro e wb2 ⟨rfl,hbb⟩
            have zD:=nV.below hbb
            have HQ:=HQ.trans (hbb.mono (Nat.le_trans hbl HQ.size))
            clear x14 x15 nV hbb
            dsimp only
            go_wp2_with fail
            refine (o7 m2 A11 c11 b (B (bH fH vk vn)) (bH fH vk vn) rfl _ zD (Nat.le_trans hbl HQ.size) (by omega)).mono ?_
            rintro e wd2 ⟨A12,c12,rfl,nV,nX⟩
            have hlm:=iG m2 (bH fH vk vn)
            obtain ⟨m3,O6⟩:∃l,bf m2 (bH fH vk vn)=l:=⟨_,rfl⟩
            rw [O6] at nV hlm
            rw [O6]
            have HM3:=Lib.hid O6
            have HQ:=HQ.trans nX
            have arV:m3.length≤47:=by omega
            clear O6 zD nX hlm
            dsimp only
            have Oe:Hid (FW=m3):=Lib.hid (by rw [HFW.out,HLA.out,HLB.out,HL0.out,HA1.out,HA2.out,HA3.out,HA4.out,←HSB.out,HA5.out,HM0.out,SL.out,EI.out,HM3.out])
            have HFI:=HB5.out.trans (HQ.mono (by have h1:=HB5.out.size;have h2:=Ic.out;omega))
            by_cases hm:m3=[]
            ·have HR:Hid (R=nP):=Lib.hid (by rw [HFT.out,Oe.out,if_pos hm])
             have t0:=eqn m3.length 0 (by rw [hm];rfl)
             clear hm
             go_wp2
             go_ret
             exact ⟨dV (by rw [HR.out];rfl),HFI⟩
            ·have HR:Hid (R=Lib.join m3 [32]):=Lib.hid (by rw [HFT.out,Oe.out,if_neg hm])
             have t0:=pK m3.length 0 (by intro h;exact hm (List.eq_nil_of_length_eq_zero (by omega)))
             have hj:(Lib.join m3 [32]).length≤140737488355328:=by rw [←Oe.out];exact hjl.out
             have HJ:=Lib.hid hj
             clear hm hj
             go_wp2_with (go_at_call 66;(with_reducible refine (Ut m3 A12 c12 b _ _ nV [32] rfl HJ.out (by omega)).mono ?_);rintro e wz ⟨rfl,rfl⟩)
             go_ret
             exact ⟨dV (by rw [HR.out]),HFI⟩
         ·have s0:sub.toList.isEmpty=false:=by rw [dZ];simpa using hs
          have s1:¬sub.toList=[]:=by rw [dZ];exact hs
          obtain ⟨l5,hl5⟩:∃l,l4++[iM++L sub]=l:=⟨_,rfl⟩
          have HSB:Hid (l5=bif L sub==[] then l4 else bf l4 (iM++L sub)):=Lib.hid (by rw [beq_eq_false_iff_ne.2 hs,←hl5];show _=bf l4 _;rw [bf,if_neg (by simp [iM])])
          have HP:Hid (L (⟨#[115,117,98,58]⟩++sub)=iM++L sub):=Lib.hid (nO _ _)
          have hlen:l5.length≤26:=by rw [←hl5,List.length_append];simp;omega
          have HL5:=Lib.hid hl5
          clear hs hl5
          go_wp2_with (at_builtin;refine dH rfl (.tmp 98) (.tmp 102) 73 rfl Tryz.underlying73 jB rfl rfl HO hln hbs ?_;intro v' w8 hown3 hb3)
          rw [HP.out,HL5.out] at hown3
          have hq3:=HQ.trans hb3
          clear HO HQ HL5
          have HO:=hown3;have HQ:=hq3;clear hown3 hq3
          go_loopw [7,12] (fun v i wr=>∃k:Nat,∃l:List Str,k≤17∧l.length≤26+k∧i= .int .i64 k∧Texts wr b l v∧Below b w5 wr∧Hid (l=l5++(aK ke k).map fun i=>fZ++wd bK i)) (fun _ i _=>17 - (intOf i).toNat)
          case atStart=>exact ⟨0,l5,by omega,by omega,rfl,HO,HQ,by simp [aK,Hid]⟩
          case round=>
           clear HQ HO
           obtain ⟨k,l6,hk,hlen,rfl,hown,hq,HL⟩:=hrel
           have hbs:=Nat.le_trans hbl hq.size
           have xm:=(AB.out 8 (.int .i64 ke) rfl).get hq
           by_cases hlt:k<17
           ·cases hbit:ke.testBit k
            ·have HN:=Lib.hid (Bg HL.out hbit)
             have HB:=Lib.hid hbit;clear hbit
             go_wp2_with (go_at_call 110;(with_reducible refine (lV ke k _ (by omega) (by omega)).mono ?_);rw [HB.out];rintro e wn ⟨rfl,rfl⟩)
             go_roundw
             case rel=>exact ⟨k+1,l6,by omega,by omega,by go_num,hown,hq,HN⟩
             case measure=>simp [intOf];omega
            ·have HN:=Lib.hid (yC HL.out hbit)
             have HB:=Lib.hid hbit;clear hbit
             have hwl:(wd bK k).length≤20:=l7 (by decide) k
             have hln:l6.length<1000000000:=by omega
             have HP:Hid (L (⟨#[119,105,116,104,58]⟩++B (wd bK k))=fZ++wd bK k):=Lib.hid (nO _ _)
             go_wp2_with (first|(go_at_call 110;(with_reducible refine (lV ke k _ (by omega) (by omega)).mono ?_);rw [HB.out];rintro e wn ⟨rfl,rfl⟩)|(go_at_call 113;(with_reducible refine (BO k hlt _).mono ?_);rintro e wn ⟨rfl,hbn⟩;have hown2:=hown.below hbn;have hq2:=hq.trans (hbn.mono hbs);have BR:=Nat.le_trans hbl hq2.size;clear hown hbs xm)|(at_builtin;refine dH rfl (.tmp 112) (.tmp 116) 73 rfl Tryz.underlying73 jB rfl rfl hown2 hln BR ?_;intro v' w8 hown3 hb3))
             have hq3:=hq2.trans hb3
             rw [HP.out] at hown3
             go_roundw
             case rel=>exact ⟨k+1,_,by omega,by simp;omega,by go_num,hown3,hq3,HN⟩
             case measure=>simp [intOf];omega
           ·have HK:Hid (k=17):=Lib.hid (by omega)
            have HA5:Hid (aZ l5 fZ bK ke=l6):=Lib.hid ((uo l5 fZ bK hke (by decide) abe).trans (by rw [HL.out,HK.out]))
            have hlen5:l6.length≤43:=by omega
            clear HL xm hk hlen hbs HK
            have HO:=hown;have HQ:=hq;clear hown hq
            have ct:=AT.get HQ
            have x9:=(AB.out 9 (.int .i64 ta) rfl).get HQ
            obtain ⟨A8,c8,rfl,_⟩:=HO.form
            go_wp2_with fail
            refine (o7 l6 A8 c8 b (B (wd iP ta)) (wd iP ta) rfl _ HO (Nat.le_trans hbl HQ.size) (by omega)).mono ?_
            rintro e wa ⟨A9,c9,rfl,nV,nX⟩
            have hlm:=iG l6 (wd iP ta)
            obtain ⟨m0,hm0⟩:∃l,bf l6 (wd iP ta)=l:=⟨_,rfl⟩
            rw [hm0] at nV hlm
            rw [hm0]
            have HM0:=Lib.hid hm0
            have HQ:=HQ.trans nX
            have arR:m0.length≤44:=by omega
            clear hm0 ct x9 HO nX hlm HT ht'
            dsimp only
            have x10:=(AB.out 10 (.int .i64 pk) rfl).get HQ
            have x11:=(AB.out 11 (.int .i64 pn) rfl).get HQ
            go_wp2_with fail
            refine (sJ ⟨#[112,111,119,101,114]⟩ eP rfl pk pn hpk hpn (by decide) _).mono ?_
            rintro e wb0 ⟨rfl,hbb⟩
            have zD:=nV.below hbb
            have HQ:=HQ.trans (hbb.mono (Nat.le_trans hbl HQ.size))
            clear x10 x11 nV hbb
            dsimp only
            go_wp2_with fail
            refine (o7 m0 A9 c9 b (B (bH eP pk pn)) (bH eP pk pn) rfl _ zD (Nat.le_trans hbl HQ.size) (by omega)).mono ?_
            rintro e wd0 ⟨A10,c10,rfl,nV,nX⟩
            have hlm:=iG m0 (bH eP pk pn)
            obtain ⟨m1,hm1⟩:∃l,bf m0 (bH eP pk pn)=l:=⟨_,rfl⟩
            rw [hm1] at nV hlm
            rw [hm1]
            have SL:=Lib.hid hm1
            have HQ:=HQ.trans nX
            have arS:m1.length≤45:=by omega
            clear hm1 zD nX hlm
            dsimp only
            have x12:=(AB.out 12 (.int .i64 tk) rfl).get HQ
            have x13:=(AB.out 13 (.int .i64 tn) rfl).get HQ
            go_wp2_with fail
            refine (sJ ⟨#[116,111,117,103,104]⟩ fE rfl tk tn htk htn (by decide) _).mono ?_
            rintro e wb1 ⟨rfl,hbb⟩
            have zD:=nV.below hbb
            have HQ:=HQ.trans (hbb.mono (Nat.le_trans hbl HQ.size))
            clear x12 x13 nV hbb
            dsimp only
            go_wp2_with fail
            refine (o7 m1 A10 c10 b (B (bH fE tk tn)) (bH fE tk tn) rfl _ zD (Nat.le_trans hbl HQ.size) (by omega)).mono ?_
            rintro e wd1 ⟨A11,c11,rfl,nV,nX⟩
            have hlm:=iG m1 (bH fE tk tn)
            obtain ⟨m2,hm2⟩:∃l,bf m1 (bH fE tk tn)=l:=⟨_,rfl⟩
            rw [hm2] at nV hlm
            rw [hm2]
            have EI:=Lib.hid hm2
            have HQ:=HQ.trans nX
            have arT:m2.length≤46:=by omega
            clear hm2 zD nX hlm
            dsimp only
            have x14:=(AB.out 14 (.int .i64 vk) rfl).get HQ
            have x15:=(AB.out 15 (.int .i64 vn) rfl).get HQ
            go_wp2_with fail
            refine (sJ ⟨#[118,97,108,117,101]⟩ fH rfl vk vn hvk hvn (by decide) _).mono ?_
            rintro e wb2 ⟨rfl,hbb⟩
            have zD:=nV.below hbb
            have HQ:=HQ.trans (hbb.mono (Nat.le_trans hbl HQ.size))
            clear x14 x15 nV hbb
            dsimp only
            go_wp2_with fail
            refine (o7 m2 A11 c11 b (B (bH fH vk vn)) (bH fH vk vn) rfl _ zD (Nat.le_trans hbl HQ.size) (by omega)).mono ?_
            rintro e wd2 ⟨A12,c12,rfl,nV,nX⟩
            have hlm:=iG m2 (bH fH vk vn)
            obtain ⟨m3,O6⟩:∃l,bf m2 (bH fH vk vn)=l:=⟨_,rfl⟩
            rw [O6] at nV hlm
            rw [O6]
            have HM3:=Lib.hid O6
            have HQ:=HQ.trans nX
            have arV:m3.length≤47:=by omega
            clear O6 zD nX hlm
            dsimp only
            have Oe:Hid (FW=m3):=Lib.hid (by rw [HFW.out,HLA.out,HLB.out,HL0.out,HA1.out,HA2.out,HA3.out,HA4.out,←HSB.out,HA5.out,HM0.out,SL.out,EI.out,HM3.out])
            have HFI:=HB5.out.trans (HQ.mono (by have h1:=HB5.out.size;have h2:=Ic.out;omega))
            by_cases hm:m3=[]
            ·have HR:Hid (R=nP):=Lib.hid (by rw [HFT.out,Oe.out,if_pos hm])
             have t0:=eqn m3.length 0 (by rw [hm];rfl)
             clear hm
             go_wp2
             go_ret
             exact ⟨dV (by rw [HR.out];rfl),HFI⟩
            ·have HR:Hid (R=Lib.join m3 [32]):=Lib.hid (by rw [HFT.out,Oe.out,if_neg hm])
             have t0:=pK m3.length 0 (by intro h;exact hm (List.eq_nil_of_length_eq_zero (by omega)))
             have hj:(Lib.join m3 [32]).length≤140737488355328:=by rw [←Oe.out];exact hjl.out
             have HJ:=Lib.hid hj
             clear hm hj
             go_wp2_with (go_at_call 66;(with_reducible refine (Ut m3 A12 c12 b _ _ nV [32] rfl HJ.out (by omega)).mono ?_);rintro e wz ⟨rfl,rfl⟩)
             go_ret
             exact ⟨dV (by rw [HR.out]),HFI⟩
theorem ai2 (zone who self types aV colors aP:Int) (sub:ByteArray) (keys dJ pk pn tk tn vk vn:Int) (w:World) (HV:Hid (dh ⟨zone,who,self,types,aV,colors,aP,sub,keys,dJ,pk,pn,tk,tn,vk,vn⟩=false)):
 Calls Tryz.prog 43 #[.agg #[.int .i64 zone, .int .i64 who, .int .i64 self, .int .i64 types, .int .i64 aV, .int .i64 colors, .int .i64 aP, .string sub, .int .i64 keys, .int .i64 dJ, .int .i64 pk, .int .i64 pn, .int .i64 tk, .int .i64 tn, .int .i64 vk, .int .i64 vn]] w fun e w'=>e= .returned (.string ⟨#[]⟩)∧Below w.heap.size w w':=by
 go_enter Tryz.func43,Tryz.ntmps43
 go_wp2_with (go_at_call 31;(with_reducible refine (RN _ _ _ _ _ _ _ _ _ _ _ _ _ _ _ _ _ false HV).mono ?_);rintro e w1 ⟨rfl,hb1⟩)
 go_ret
 exact ⟨rfl,aaC ((Below.refl _ _).alloc (Nat.le_refl _) _) hb1⟩
theorem ug (f:aH) (w:World):
 Calls Tryz.prog 43 #[.agg f.cells] w fun e w'=>e= .returned (.string (B (textOf f)))∧Below w.heap.size w w':=by
 obtain ⟨zone,who,self,types,aV,colors,aP,sub,keys,dJ,pk,pn,tk,tn,vk,vn⟩:=f
 cases hv:dh ⟨zone,who,self,types,aV,colors,aP,sub,keys,dJ,pk,pn,tk,tn,vk,vn⟩ with
 |false=>
  refine (ai2 _ _ _ _ _ _ _ _ _ _ _ _ _ _ _ _ w (Lib.hid hv)).mono fun e w' ⟨he,hb⟩=>⟨?_,hb⟩
  rw [he,textOf,hv];rfl
 |true=>
  have hv2:=hv
  simp only [dh,mF,Bool.and_eq_true,Bool.or_eq_true,beq_iff_eq] at hv2
  obtain ⟨⟨g1,g2,g3,g4,g5⟩,⟨g6,g7,g8⟩,⟨g9,g10,g11⟩,g12,g13,g14,g15⟩:=hv2
  obtain ⟨z,rfl,hz⟩:=jO g1
  obtain ⟨wh,rfl,hwh⟩:=jO g2
  obtain ⟨se,rfl,hse⟩:=jO g3
  obtain ⟨ta,rfl,hta⟩:=jO g4
  obtain ⟨ke,rfl,hke⟩:=jO g5
  obtain ⟨ty,rfl,hty⟩:=jO g6
  obtain ⟨nt,rfl,hnt⟩:=jO g7
  obtain ⟨co,rfl,hco⟩:=jO g9
  obtain ⟨nc,rfl,hnc⟩:=jO g10
  obtain ⟨pk,pn,rfl,rfl,hpk,hpn⟩:=AX g13
  obtain ⟨tk,tn,rfl,rfl,htk,htn⟩:=AX g14
  obtain ⟨vk,vn,rfl,rfl,hvk,hvn⟩:=AX g15
  have hsub:sub.size≤32:=by
   rw [←dN]
   rcases g12 with h|h
   ·rw [h];simp
   ·exact tu h
  have hj:=Et (lu z wh se ty nt co nc sub ke ta pk pn tk tn vk vn) (by show (L sub).length≤32;rw [dN];exact hsub) hpn htn hvn
  refine (agC z wh se ty nt co nc sub ke ta pk pn tk tn vk vn w (Lib.hid hv) (by omega) (by omega) (by omega) (by omega) (by omega) (by omega) (by omega) hsub (by omega) (by omega) hpk hpn htk htn hvk hvn (Lib.hid (by omega))).mono fun e w' ⟨he,hb⟩=>⟨?_,hb⟩
  rw [he,textOf,hv];rfl
abbrev TB:Nat:=23
def RB (w:World) (g:Nat) (f:aH):Prop:=w.heap[g]? =some (.cells f.cells TF (0,0))
theorem RB.lt {w:World} {g:Nat} {f:aH} (h:RB w g f):g<w.heap.size:=(Array.getElem?_eq_some_iff.1 h).1
theorem RB.cell {w:World} {g:Nat} {f:aH} (h:RB w g f) (j:Nat):w.cell? ⟨g,j,none⟩=f.cells[j]? :=cell_of_row w g j f.cells TF (0,0) h
theorem RB.free {w:World} {g:Nat} {f:aH} (h:RB w g f) (j:Nat):w.frozen? ⟨g,j,none⟩=false:=by unfold RB at h;simp [World.frozen?,h]
theorem RB.fO {w:World} {g:Nat} {f f':aH} (h:RB w g f) (j:Nat) (u:Value) (hf:f.cells.setIfInBounds j u=f'.cells):RB (w.setCell ⟨g,j,none⟩ u) g f':=by
 unfold RB at *
 rw [←hf];simp [World.setCell,Array.getElem?_modify,h]
theorem RB.below {w w':World} {g:Nat} {f:aH} (h:RB w g f) (hb:Below w.heap.size w w'):RB w' g f:=(hb.block g h.lt).trans h
section words
variable (a b c d e f g:Int) (s:ByteArray) (k t p q u v y z:Int)
end words
theorem Flat.app {a b:Str} (ha:Flat a) (hb:Flat b):Flat (a++b):=by
 unfold Flat at *;rw [List.all_append,ha,hb];rfl
end Go.Proofs.YtdicgggkdmkklaaGreatDoor
namespace Go.Proofs.YtdicgggkdmkklaaGreatDoor
open Go.ChangeShapes Go.WideShapes Go.RowKit
theorem GK (f:aH) (R:Bool) (HR:Hid (dh f=R)) (w:World):Calls Tryz.prog 31 #[.agg f.cells] w fun e w'=>e= .returned (.bool R)∧Below w.heap.size w w':=
 RN f.zone f.who f.self f.types f.aV f.colors f.aP f.sub f.keys f.dJ f.pk f.pn f.tk f.tn f.vk f.vn w R HR
theorem Fr.setRow {g b:Nat} {w w':World} (h:Fr g b w w') (cs:Array Value) (hg:b≤g:=by exact Nat.le_refl _):Fr g b w (w'.setRow g cs):=⟨below_setRow h.bel hg cs,fun k hk hkg=>(setRow_other w' g k cs (by omega)).trans (h.keep k hk hkg)⟩
end Go.Proofs.YtdicgggkdmkklaaGreatDoor
namespace Go.Proofs.YtdicgggkdmkklaaGreatDoor
attribute [local irreducible] wpList Code.wp Calls
open Go.ChangeShapes Go.WideShapes Go.RowKit
theorem awe (who:Int) (w:World):Calls Tryz.prog 118 #[.int .i64 who] w fun e w'=>e= .returned (.string (B (X9 who)))∧w=w':=by
 go_in
 go_wp2_with (have hq:=iE;subst hq)
 all_goals go_ret
 all_goals refine ⟨dL ?_,rfl⟩
 all_goals first|rfl|(simp_all [X9];done)
instance aFG {L:World→Prop} (who:Int):mG 118 #[.int .i64 who] L (.string (B (X9 who))):=⟨fun w _=>(awe who w).mono fun _ _ h=>⟨h.1,h.2 ▸ Below.refl _ _⟩⟩
end Go.Proofs.YtdicgggkdmkklaaGreatDoor
