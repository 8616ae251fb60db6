/- Walks: chapter 17's reference: ZoneName. Conditions: none. Walks: chapter 17's reference: Word. Conditions: none. Walks: the reference of chapter 17: Uses, uses, mods, filter, inner. Conditions: La -/
import Derived.Test.YtdicgggkdmkklaaGreatDoorQ3
import Derived.Test.YtdicgggkdmkklaaGreatDoorQ7
import Derived.Test.YtdicgggkdmkklaaGreatDoorMEParse
import Derived.Test.YtdicgggkdmkklaaGreatDoorQ4
import Derived.Test.YtdicgggkdmkklaaGreatDoorQ10
import Derived.Test.YtdicgggkdmkklaaGreatDoorQ11
import Derived.Deep.DeepCutAuto
import Derived.Test.YtdicgggkdmkklaaGreatDoorQ8
set_option linter.all false
set_option maxRecDepth 100000
set_option maxHeartbeats 16000000
namespace Go.Proofs.YtdicgggkdmkklaaGreatDoor
attribute [local irreducible] wpList Code.wp
open Go.ChangeShapes Go.WideShapes Go.RowKit
theorem aac (z:Int) (w:World):Calls Tryz.prog 189 #[.int .i64 z] w fun e w'=>e= .returned (.string (B (dR z)))∧Below w.heap.size w w':=by
 by_cases h0:z=0
 ·subst h0
  have k0:=Lib.hid (Below.refl w.heap.size w)
  go_enter Tryz.func189,Tryz.ntmps189
  go_wp2
  go_ret
  exact ⟨rfl,(k0.out.alloc (Nat.le_refl _) _)⟩
 by_cases h1:z=1
 ·subst h1
  have k0:=Lib.hid (Below.refl w.heap.size w)
  go_enter Tryz.func189,Tryz.ntmps189
  go_wp2
  go_ret
  exact ⟨rfl,(k0.out.alloc (Nat.le_refl _) _)⟩
 by_cases h2:z=2
 ·subst h2
  have k0:=Lib.hid (Below.refl w.heap.size w)
  go_enter Tryz.func189,Tryz.ntmps189
  go_wp2
  go_ret
  exact ⟨rfl,(k0.out.alloc (Nat.le_refl _) _)⟩
 by_cases h3:z=3
 ·subst h3
  have k0:=Lib.hid (Below.refl w.heap.size w)
  go_enter Tryz.func189,Tryz.ntmps189
  go_wp2
  go_ret
  exact ⟨rfl,(k0.out.alloc (Nat.le_refl _) _)⟩
 by_cases h4:z=4
 ·subst h4
  have k0:=Lib.hid (Below.refl w.heap.size w)
  go_enter Tryz.func189,Tryz.ntmps189
  go_wp2
  go_ret
  exact ⟨rfl,(k0.out.alloc (Nat.le_refl _) _)⟩
 by_cases h5:z=5
 ·subst h5
  have k0:=Lib.hid (Below.refl w.heap.size w)
  go_enter Tryz.func189,Tryz.ntmps189
  go_wp2
  go_ret
  exact ⟨rfl,(k0.out.alloc (Nat.le_refl _) _)⟩
 ·have HR:Hid (dR z=[]):=Lib.hid (by unfold dR;rw [if_neg h0,if_neg h1,if_neg h2,if_neg h3,if_neg h4,if_neg h5])
  have hc:z<0∨(0≤z∧5<z):=by omega
  clear h0 h1 h2 h3 h4 h5
  generalize dR z=R at *
  rcases hc with hc|⟨hc,hd⟩
  all_goals
   go_enter Tryz.func189,Tryz.ntmps189
   go_wp2
   go_ret
   exact ⟨dV (by rw [HR.out];rfl),Below.refl _ _⟩
end Go.Proofs.YtdicgggkdmkklaaGreatDoor
namespace Go.Proofs.YtdicgggkdmkklaaGreatDoor
attribute [local irreducible] wpList Code.wp Calls
open Go.ChangeShapes Go.WideShapes Go.RowKit
theorem Z9 (op:Int) (w:World):Calls Tryz.prog 170 #[.int .i64 op] w fun e w'=>e= .returned (.string (B (opName op)))∧Below w.heap.size w w':=by
 by_cases h:1≤op∧op≤26
 ·obtain ⟨k,hk⟩:∃k:Nat,op=k:=⟨op.toNat,by omega⟩
  subst hk
  have hc:k=1∨k=2∨k=3∨k=4∨k=5∨k=6∨k=7∨k=8∨k=9∨k=10∨k=11∨k=12∨k=13∨k=14∨k=15∨k=16∨k=17∨k=18∨k=19∨k=20∨k=21∨k=22∨k=23∨k=24∨k=25∨k=26:=by omega
  clear h
  rcases hc with rfl|rfl|rfl|rfl|rfl|rfl|rfl|rfl|rfl|rfl|rfl|rfl|rfl|rfl|rfl|rfl|rfl|rfl|rfl|rfl|rfl|rfl|rfl|rfl|rfl|rfl
  all_goals
   have k0:=Lib.hid (Below.refl w.heap.size w)
   go_enter Tryz.func170,Tryz.ntmps170
   go_wp2
   go_ret
   first|exact ⟨rfl,(k0.out.alloc (Nat.le_refl _) _)⟩|exact ⟨rfl,k0.out⟩
 ·have HR:Hid (opName op=[]):=Lib.hid (by
   unfold opName
   by_cases h2:0≤op∧op≤26
   ·obtain rfl:op=0:=by omega
    rfl
   ·rw [if_neg h2])
  have hc:op<0∨(0≤op∧op=0)∨(0≤op∧26<op):=by omega
  clear h
  generalize opName op=R at *
  rcases hc with hc|⟨hc,rfl⟩|⟨hc,hd⟩
  all_goals
   go_enter Tryz.func170,Tryz.ntmps170
   go_wp2
   go_ret
   first|exact ⟨dV (by rw [HR.out];rfl),(Below.refl _ _).alloc (Nat.le_refl _) _⟩|exact ⟨dV (by rw [HR.out];rfl),Below.refl _ _⟩
theorem CB {op:Int} (h:1≤op∧op≤26):∃k:Nat,op=k∧(k=1∨k=2∨k=3∨k=4∨k=5∨k=6∨k=7∨k=8∨k=9∨k=10∨k=11∨k=12∨k=13∨k=14∨k=15∨k=16∨k=17∨k=18∨k=19∨k=20∨k=21∨k=22∨k=23∨k=24∨k=25∨k=26):=⟨op.toNat,by omega,by omega⟩
theorem Z8 (op:Int) (h:1≤op∧op≤26) (w:World):Calls Tryz.prog 190 #[.int .i64 op] w fun e w'=>e= .returned (.string (B (dF op)))∧w=w':=by
 obtain ⟨k,rfl,hc⟩:=CB h
 clear h
 rcases hc with rfl|rfl|rfl|rfl|rfl|rfl|rfl|rfl|rfl|rfl|rfl|rfl|rfl|rfl|rfl|rfl|rfl|rfl|rfl|rfl|rfl|rfl|rfl|rfl|rfl|rfl
 all_goals
  go_enter Tryz.func190,Tryz.ntmps190
  go_wp2
  go_ret
  exact ⟨rfl,rfl⟩
theorem AA (op:Int) (h:1≤op∧op≤26) (U:Str) (HU:Hid (dF op=U)) (w:World):Calls Tryz.prog 190 #[.int .i64 op] w fun e w'=>e= .returned (.string (B U))∧w=w':=
 (Z8 op h w).mono fun e w' h'=>⟨h'.1.trans (by rw [HU.out]),h'.2⟩
theorem N8 {op:Int} (h:1≤op∧op≤26):(dF op).length≤3:=by
 obtain ⟨k,rfl,hc⟩:=CB h
 rcases hc with rfl|rfl|rfl|rfl|rfl|rfl|rfl|rfl|rfl|rfl|rfl|rfl|rfl|rfl|rfl|rfl|rfl|rfl|rfl|rfl|rfl|rfl|rfl|rfl|rfl|rfl<;>decide
theorem ag3 {U:Str} {k:Nat} (hk:k<U.length) (p:UInt8→Bool):(U.take (k+1)).any p=((U.take k).any p || p U[k]):=by
 rw [List.take_succ,List.getElem?_eq_getElem hk,List.any_append];simp
theorem anR {U:Str} {k:Nat} (hk:k<U.length) (p:UInt8→Bool) (h:p U[k]=true):U.any p=true:=List.any_eq_true.2 ⟨_,List.getElem_mem hk,h⟩
theorem oM (op:Int) (hop:1≤op∧op≤26) (n:Nat) (hn:n<256) (b:Bool) (HB:Hid (((dF op).any fun c=>c.toNat==n)=b)) (w0:World) (hl:Laid w0):Calls Tryz.prog 171 #[.int .i64 op, .int .u8 (n:Int)] w0 fun e w'=>e= .returned (.bool b)∧Below w0.heap.size w0 w':=by
 have hlen:=N8 hop
 have vV:=Lib.hid hop
 obtain ⟨U,hU⟩:∃U,dF op=U:=⟨_,rfl⟩
 rw [hU] at hlen HB
 have HU:=Lib.hid hU
 clear hU hop
 have hsz:(B U).size=U.length:=bC U
 have hgt:=jm (B U)
 rw [cO] at hgt
 have hS:=St.start hl bJ
 go_enter Tryz.func171,Tryz.ntmps171
 go_wp2_with (first|(go_at_call 190;(with_reducible refine (St.still hS fun hl=>AA _ vV.out _ HU _).mono ?_);rintro e w ⟨rfl,hS⟩))
 go_loopw [6] (fun iv wr=>∃k:Nat,k≤U.length∧iv= .int .i64 k∧Hid (((U.take k).any fun c=>c.toNat==n)=false)∧Hid (St Laid w0 [] wr)) (fun iv _=>U.length - (intOf iv).toNat)
 case atStart=>exact ⟨0,by omega,rfl,Lib.hid rfl,Lib.hid hS⟩
 case round=>
  clear hS
  obtain ⟨k,hk,rfl,HK,HS⟩:=hrel
  have hS:=HS.out
  clear HS
  by_cases hlt:k<U.length
  ·have hbt:=yg hlt
   cases hq:((U[k]).toNat==n) with
   |true=>
    obtain rfl:b=true:=by rw [←HB.out];exact anR hlt (fun c=>c.toNat==n) hq
    have ht:(((aI U k:Nat):Int)==(n:Int))=true:=by rw [hbt];rw [beq_iff_eq] at hq ⊢;omega
    clear hq hbt
    go_wp2_with (first|fail)
    all_goals go_ret
    all_goals exact ⟨rfl,hS.below⟩
   |false=>
    have HN:Hid (((U.take (k+1)).any fun c=>c.toNat==n)=false):=Lib.hid (by rw [ag3 hlt,HK.out,hq];rfl)
    have ht:(((aI U k:Nat):Int)==(n:Int))=false:=by rw [hbt];rw [beq_eq_false_iff_ne] at hq ⊢;omega
    clear hq hbt
    go_wp2_with (first|fail)
    go_roundw
    case rel=>exact ⟨k+1,by omega,by go_num,HN,Lib.hid hS⟩
    case measure=>simp [intOf];omega
  ·obtain rfl:k=U.length:=by omega
   obtain rfl:b=false:=by rw [←HB.out,←HK.out,List.take_length]
   go_wp2_with (first|fail)
   all_goals go_ret
   all_goals exact ⟨rfl,hS.below⟩
theorem am4:∀k:Fin 27,1≤k.val→((dF (k.val:Int)).any (fun c=>c.toNat==114))=uR (k.val:Int)∧((dF (k.val:Int)).any (fun c=>c.toNat==122))=uZ (k.val:Int)∧((dF (k.val:Int)).any (fun c=>c.toNat==107))=uK (k.val:Int)∧((dF (k.val:Int)).any (fun c=>c.toNat==99))=uC (k.val:Int)∧((dF (k.val:Int)).any (fun c=>c.toNat==97))=uA (k.val:Int)∧((dF (k.val:Int)).any (fun c=>c.toNat==109))=uM (k.val:Int)∧((dF (k.val:Int)).any (fun c=>c.toNat==112))=uP (k.val:Int)∧((dF (k.val:Int)).any (fun c=>c.toNat==102))=uF (k.val:Int):=by decide +kernel
theorem wP {op:Int} (h:1≤op∧op≤26):((dF op).any (fun c=>c.toNat==114))=uR op∧((dF op).any (fun c=>c.toNat==122))=uZ op∧((dF op).any (fun c=>c.toNat==107))=uK op∧((dF op).any (fun c=>c.toNat==99))=uC op∧((dF op).any (fun c=>c.toNat==97))=uA op∧((dF op).any (fun c=>c.toNat==109))=uM op∧((dF op).any (fun c=>c.toNat==112))=uP op∧((dF op).any (fun c=>c.toNat==102))=uF op:=by
 obtain ⟨k,rfl,hc⟩:=CB h
 exact am4 ⟨k,by omega⟩ (by simp only;omega)
theorem apa (op:Int) (hop:1≤op∧op≤26) (b:Bool) (HB:Hid (uR op=b)) (w:World) (hl:Laid w):Calls Tryz.prog 171 #[.int .i64 op, .int .u8 114] w fun e w'=>e= .returned (.bool b)∧Below w.heap.size w w':=oM op hop 114 (by decide) b (Lib.hid ((wP hop).1.trans HB.out)) w hl
theorem Yo (op:Int) (hop:1≤op∧op≤26) (b:Bool) (HB:Hid (uZ op=b)) (w:World) (hl:Laid w):Calls Tryz.prog 171 #[.int .i64 op, .int .u8 122] w fun e w'=>e= .returned (.bool b)∧Below w.heap.size w w':=oM op hop 122 (by decide) b (Lib.hid ((wP hop).2.1.trans HB.out)) w hl
theorem agt (op:Int) (hop:1≤op∧op≤26) (b:Bool) (HB:Hid (uK op=b)) (w:World) (hl:Laid w):Calls Tryz.prog 171 #[.int .i64 op, .int .u8 107] w fun e w'=>e= .returned (.bool b)∧Below w.heap.size w w':=oM op hop 107 (by decide) b (Lib.hid ((wP hop).2.2.1.trans HB.out)) w hl
theorem ao6 (op:Int) (hop:1≤op∧op≤26) (b:Bool) (HB:Hid (uC op=b)) (w:World) (hl:Laid w):Calls Tryz.prog 171 #[.int .i64 op, .int .u8 99] w fun e w'=>e= .returned (.bool b)∧Below w.heap.size w w':=oM op hop 99 (by decide) b (Lib.hid ((wP hop).2.2.2.1.trans HB.out)) w hl
theorem ao5 (op:Int) (hop:1≤op∧op≤26) (b:Bool) (HB:Hid (uA op=b)) (w:World) (hl:Laid w):Calls Tryz.prog 171 #[.int .i64 op, .int .u8 97] w fun e w'=>e= .returned (.bool b)∧Below w.heap.size w w':=oM op hop 97 (by decide) b (Lib.hid ((wP hop).2.2.2.2.1.trans HB.out)) w hl
theorem ao8 (op:Int) (hop:1≤op∧op≤26) (b:Bool) (HB:Hid (uM op=b)) (w:World) (hl:Laid w):Calls Tryz.prog 171 #[.int .i64 op, .int .u8 109] w fun e w'=>e= .returned (.bool b)∧Below w.heap.size w w':=oM op hop 109 (by decide) b (Lib.hid ((wP hop).2.2.2.2.2.1.trans HB.out)) w hl
theorem ao9 (op:Int) (hop:1≤op∧op≤26) (b:Bool) (HB:Hid (uP op=b)) (w:World) (hl:Laid w):Calls Tryz.prog 171 #[.int .i64 op, .int .u8 112] w fun e w'=>e= .returned (.bool b)∧Below w.heap.size w w':=oM op hop 112 (by decide) b (Lib.hid ((wP hop).2.2.2.2.2.2.1.trans HB.out)) w hl
theorem ao7 (op:Int) (hop:1≤op∧op≤26) (b:Bool) (HB:Hid (uF op=b)) (w:World) (hl:Laid w):Calls Tryz.prog 171 #[.int .i64 op, .int .u8 102] w fun e w'=>e= .returned (.bool b)∧Below w.heap.size w w':=oM op hop 102 (by decide) b (Lib.hid ((wP hop).2.2.2.2.2.2.2.trans HB.out)) w hl
theorem af8 (e:Ef) (v:Sl) (b:Bool) (HB:Hid ((!(eH e.mods==[]))=b)) (w:World) (hl:bQ e v w):Calls Tryz.prog 175 #[.slice v.a v.n v.c] w fun x w'=>x= .returned (.bool b)∧Below w.heap.size w w':=by
 obtain ⟨T,hT⟩:∃T,eH e.mods=T:=⟨_,rfl⟩
 have HT:=Lib.hid hT
 rw [hT] at HB
 have hq:(T != [])=b:=HB.out
 clear hT
 have hS:=St.start hl (jL e v)
 go_enter Tryz.func175,Tryz.ntmps175
 go_wp2_with (first|(go_at_call 32;(with_reducible refine (St.call hS fun hl=>Iw e v T HT _ hl).mono ?_);rintro e w ⟨rfl,hS⟩))
 all_goals go_ret
 all_goals exact ⟨aX (by rw [←hq];cases T<;>rfl),hS.below⟩
theorem Yn (op:Int) (f:aH) (b:Bool) (HB:Hid ((dh f&&f.zone==Hz op)=b)) (w:World) (hl:Laid w):Calls Tryz.prog 177 #[.int .i64 op, .agg f.cells] w fun x w'=>x= .returned (.bool b)∧Below w.heap.size w w':=by
 rw [←HB.out]
 clear HB
 obtain ⟨R,hR⟩:∃R,dh f=R:=⟨_,rfl⟩
 have HR:=Lib.hid hR
 rw [hR]
 clear hR
 have hS:=St.start hl bJ
 by_cases h:op=21
 ·subst h
  rw [show Hz 21=2 from rfl]
  go_enter Tryz.func177,Tryz.ntmps177
  go_wp2_with (first|(go_at_call 31;(with_reducible refine (St.call hS fun hl=>GK _ _ HR _).mono ?_);rintro e w ⟨rfl,hS⟩)|((with_reducible refine bG ?_);(first|(refine aS rfl ?_)|((fail_if_success refine fJ rfl ?_);refine iZ _ _ rfl rfl (fun hb=> ?_) (fun hb=> ?_)<;>(first|(obtain rfl:=eq_of_beq hb)|(simp only [hb]))));(try simp only [ah,ak,au,ay,aA]))|((with_reducible refine bI ?_);(first|(refine aG rfl hS rfl rfl ?_;intro g w hS));(try simp only [ah,ak,au,ay,aA]))|((with_reducible refine aC ?_);(first|(refine ES rfl hS rfl rfl (by repeat constructor) ?_)|(refine aa0 rfl hS rfl rfl (by repeat constructor) ?_));(try simp only [ah,ak,au,ay,aA])))
  all_goals go_ret
  all_goals exact ⟨aX (by simp_all),hS.below⟩
 ·rw [show Hz op=0 from if_neg h]
  have hz:(op==21)=false:=by simpa using h
  clear h
  go_enter Tryz.func177,Tryz.ntmps177
  go_wp2_with (first|(go_at_call 31;(with_reducible refine (St.call hS fun hl=>GK _ _ HR _).mono ?_);rintro e w ⟨rfl,hS⟩)|((with_reducible refine bG ?_);(first|(refine aS rfl ?_)|((fail_if_success refine fJ rfl ?_);refine iZ _ _ rfl rfl (fun hb=> ?_) (fun hb=> ?_)<;>(first|(obtain rfl:=eq_of_beq hb)|(simp only [hb]))));(try simp only [ah,ak,au,ay,aA]))|((with_reducible refine bI ?_);(first|(refine aG rfl hS rfl rfl ?_;intro g w hS));(try simp only [ah,ak,au,ay,aA]))|((with_reducible refine aC ?_);(first|(refine ES rfl hS rfl rfl (by repeat constructor) ?_)|(refine aa0 rfl hS rfl rfl (by repeat constructor) ?_));(try simp only [ah,ak,au,ay,aA])))
  all_goals go_ret
  all_goals exact ⟨aX (by simp_all),hS.below⟩
theorem af7 (r:Rf) (T:Str) (h:Hid (dI r=T)) (w:World):Calls Tryz.prog 237 #[.agg r.cells] w fun e w'=>e= .returned (.string (B T))∧Below w.heap.size w w':=(YD r w).mono fun e w' h'=>⟨by rw [h'.1,h.out],h'.2⟩
theorem af5 (a:Am) (T:Str) (h:Hid (dW a=T)) (w:World):Calls Tryz.prog 238 #[.agg a.cells] w fun e w'=>e= .returned (.string (B T))∧Below w.heap.size w w':=(Yp a w).mono fun e w' h'=>⟨by rw [h'.1,h.out],h'.2⟩
theorem af4 (f:aH) (T:Str) (h:Hid (textOf f=T)) (w:World):Calls Tryz.prog 43 #[.agg f.cells] w fun e w'=>e= .returned (.string (B T))∧Below w.heap.size w w':=(ug f w).mono fun e w' h'=>⟨by rw [h'.1,h.out],h'.2⟩
theorem DX (c:Int) (T:Str) (h:Hid (dw c=T)) (w:World):Calls Tryz.prog 173 #[.int .i64 c] w fun e w'=>e= .returned (.string (B T))∧w=w':=(Yq c w).mono fun e w' h'=>⟨by rw [h'.1,h.out],h'.2⟩
theorem JY (z:Int) (T:Str) (h:Hid (dR z=T)) (w:World):Calls Tryz.prog 189 #[.int .i64 z] w fun e w'=>e= .returned (.string (B T))∧Below w.heap.size w w':=(aac z w).mono fun e w' h'=>⟨by rw [h'.1,h.out],h'.2⟩
theorem agi (e:Ef) (v:Sl) (T:Str) (HT:Hid (dI e.ref=T)) (w:World) (hl:bQ e v w):Calls Tryz.prog 191 #[.agg (e.at v).cells, .int .u8 114] w fun x w'=>x= .returned (.string (B (T)))∧Below w.heap.size w w':=by
 obtain ⟨op,ref,amt,ctr,zone,card,flt,pool,mods⟩:=e
 obtain ⟨va,vn,vc⟩:=v
 change Calls Tryz.prog _ #[.agg (Em.cells ⟨op,ref,amt,ctr,zone,card,flt,pool,⟨va,vn,vc⟩⟩),_] _ _
 have hS:=St.start hl (jL _ _)
 go_enter Tryz.func191,Tryz.ntmps191
 go_wp2_with (first|fail|((refine aF rfl ?_);(first|((with_reducible refine aC (T:=61) ?_);(first|(refine EP rfl hS rfl rfl (by repeat constructor) ?_));(try simp only [ah,ak,au,ay,aA]))|((with_reducible refine bI ?_);(first|(refine aG rfl hS rfl rfl ?_;intro g w hS));(try simp only [ah,ak,au,ay,aA]))))|((fail_if_success (with_reducible refine aB ?_));(first|(go_at_call 237;(with_reducible refine (St.call hS fun hl=>af7 _ _ HT _).mono ?_);rintro e w ⟨rfl,hS⟩))))
 all_goals go_ret
 all_goals exact ⟨dL (by simp),hS.below⟩
theorem agj (e:Ef) (v:Sl) (T:Str) (HT:Hid (dR e.zone=T)) (w:World) (hl:bQ e v w):Calls Tryz.prog 191 #[.agg (e.at v).cells, .int .u8 122] w fun x w'=>x= .returned (.string (B (T)))∧Below w.heap.size w w':=by
 obtain ⟨op,ref,amt,ctr,zone,card,flt,pool,mods⟩:=e
 obtain ⟨va,vn,vc⟩:=v
 change Calls Tryz.prog _ #[.agg (Em.cells ⟨op,ref,amt,ctr,zone,card,flt,pool,⟨va,vn,vc⟩⟩),_] _ _
 have hS:=St.start hl (jL _ _)
 go_enter Tryz.func191,Tryz.ntmps191
 go_wp2_with (first|fail|((refine aF rfl ?_);(first|((with_reducible refine aC (T:=3) ?_);(first|(refine wB rfl hS rfl rfl (by repeat constructor) ?_));(try simp only [ah,ak,au,ay,aA]))|((with_reducible refine bI ?_);(first|(refine aG rfl hS rfl rfl ?_;intro g w hS));(try simp only [ah,ak,au,ay,aA]))))|((fail_if_success (with_reducible refine aB ?_));(first|(go_at_call 189;(with_reducible refine (St.call hS fun hl=>JY _ _ HT _).mono ?_);rintro e w ⟨rfl,hS⟩))))
 all_goals go_ret
 all_goals exact ⟨dL (by simp),hS.below⟩
theorem agc (e:Ef) (v:Sl) (T:Str) (HT:Hid (dw e.ctr=T)) (w:World) (hl:bQ e v w):Calls Tryz.prog 191 #[.agg (e.at v).cells, .int .u8 107] w fun x w'=>x= .returned (.string (B (T)))∧Below w.heap.size w w':=by
 obtain ⟨op,ref,amt,ctr,zone,card,flt,pool,mods⟩:=e
 obtain ⟨va,vn,vc⟩:=v
 change Calls Tryz.prog _ #[.agg (Em.cells ⟨op,ref,amt,ctr,zone,card,flt,pool,⟨va,vn,vc⟩⟩),_] _ _
 have hS:=St.start hl (jL _ _)
 go_enter Tryz.func191,Tryz.ntmps191
 go_wp2_with (first|fail|((refine aF rfl ?_);(first|((with_reducible refine aC (T:=3) ?_);(first|(refine yu rfl hS rfl rfl (by repeat constructor) ?_));(try simp only [ah,ak,au,ay,aA]))|((with_reducible refine bI ?_);(first|(refine aG rfl hS rfl rfl ?_;intro g w hS));(try simp only [ah,ak,au,ay,aA]))))|((fail_if_success (with_reducible refine aB ?_));(first|(go_at_call 173;(with_reducible refine (St.still hS fun hl=>DX _ _ HT _).mono ?_);rintro e w ⟨rfl,hS⟩))))
 all_goals go_ret
 all_goals exact ⟨dL (by simp),hS.below⟩
theorem af9 (e:Ef) (v:Sl) (T:Str) (HT:Hid (dW e.amt=T)) (w:World) (hl:bQ e v w):Calls Tryz.prog 191 #[.agg (e.at v).cells, .int .u8 97] w fun x w'=>x= .returned (.string (B (T)))∧Below w.heap.size w w':=by
 obtain ⟨op,ref,amt,ctr,zone,card,flt,pool,mods⟩:=e
 obtain ⟨va,vn,vc⟩:=v
 change Calls Tryz.prog _ #[.agg (Em.cells ⟨op,ref,amt,ctr,zone,card,flt,pool,⟨va,vn,vc⟩⟩),_] _ _
 have hS:=St.start hl (jL _ _)
 go_enter Tryz.func191,Tryz.ntmps191
 go_wp2_with (first|fail|((refine aF rfl ?_);(first|((with_reducible refine aC (T:=63) ?_);(first|(refine Bc rfl hS rfl rfl (by repeat constructor) ?_));(try simp only [ah,ak,au,ay,aA]))|((with_reducible refine bI ?_);(first|(refine aG rfl hS rfl rfl ?_;intro g w hS));(try simp only [ah,ak,au,ay,aA]))))|((fail_if_success (with_reducible refine aB ?_));(first|(go_at_call 238;(with_reducible refine (St.call hS fun hl=>af5 _ _ HT _).mono ?_);rintro e w ⟨rfl,hS⟩))))
 all_goals go_ret
 all_goals exact ⟨dL (by simp),hS.below⟩
theorem agh (e:Ef) (v:Sl) (T:Str) (HT:Hid (jY e.pool=T)) (w:World) (hl:bQ e v w):Calls Tryz.prog 191 #[.agg (e.at v).cells, .int .u8 112] w fun x w'=>x= .returned (.string (B (T)))∧Below w.heap.size w w':=by
 obtain ⟨op,ref,amt,ctr,zone,card,flt,pool,mods⟩:=e
 obtain ⟨va,vn,vc⟩:=v
 change Calls Tryz.prog _ #[.agg (Em.cells ⟨op,ref,amt,ctr,zone,card,flt,pool,⟨va,vn,vc⟩⟩),_] _ _
 have hS:=St.start hl (jL _ _)
 go_enter Tryz.func191,Tryz.ntmps191
 go_wp2_with (first|fail|((refine aF rfl ?_);(first|((with_reducible refine aC (T:=65) ?_);(first|(refine Bf rfl hS rfl rfl (by repeat constructor) ?_));(try simp only [ah,ak,au,ay,aA]))|((with_reducible refine bI ?_);(first|(refine aG rfl hS rfl rfl ?_;intro g w hS));(try simp only [ah,ak,au,ay,aA]))))|((fail_if_success (with_reducible refine aB ?_));(first|(go_at_call 176;(with_reducible refine (St.call hS fun hl=>E8 _ _ HT _ hl.1.base).mono ?_);rintro e w ⟨rfl,hS⟩))))
 all_goals go_ret
 all_goals exact ⟨dL (by simp),hS.below⟩
theorem agd (e:Ef) (v:Sl) (T:Str) (HT:Hid (eH e.mods=T)) (w:World) (hl:bQ e v w):Calls Tryz.prog 191 #[.agg (e.at v).cells, .int .u8 109] w fun x w'=>x= .returned (.string (B (91::(T++[93]))))∧Below w.heap.size w w':=by
 have hlen:=Gt e.mods
 rw [HT.out] at hlen
 obtain ⟨op,ref,amt,ctr,zone,card,flt,pool,mods⟩:=e
 obtain ⟨va,vn,vc⟩:=v
 change Calls Tryz.prog _ #[.agg (Em.cells ⟨op,ref,amt,ctr,zone,card,flt,pool,⟨va,vn,vc⟩⟩),_] _ _
 have hS:=St.start hl (jL _ _)
 go_enter Tryz.func191,Tryz.ntmps191
 go_wp2_with (first|fail|((refine aF rfl ?_);(first|((with_reducible refine aC (T:=26) ?_);(first|(refine sH rfl hS rfl rfl (by repeat constructor) ?_));(try simp only [ah,ak,au,ay,aA]))|((with_reducible refine jT ?_);(first|(refine eG rfl rfl rfl rfl (by first|(simp only [List.length_append,List.length_cons,List.length_nil];omega)|fail) ?_));(try simp only [ah,ak,au,ay,aA]))|((with_reducible refine bI ?_);(first|(refine aG rfl hS rfl rfl ?_;intro g w hS));(try simp only [ah,ak,au,ay,aA]))))|((fail_if_success (with_reducible refine aB ?_));(first|(go_at_call 32;(with_reducible refine (St.call hS fun hl=>Iw ⟨op,ref,amt,ctr,zone,card,flt,pool,mods⟩ ⟨va,vn,vc⟩ T HT _ hl).mono ?_);rintro e w ⟨rfl,hS⟩))))
 all_goals go_ret
 all_goals exact ⟨dL (by simp),hS.below⟩
theorem agb (e:Ef) (v:Sl) (T:Str) (HT:Hid (textOf e.flt=T)) (w:World) (hl:bQ e v w):Calls Tryz.prog 191 #[.agg (e.at v).cells, .int .u8 102] w fun x w'=>x= .returned (.string (B (40::(T++[41]))))∧Below w.heap.size w w':=by
 have hlen:=oH (f:=e.flt)
 rw [HT.out] at hlen
 obtain ⟨op,ref,amt,ctr,zone,card,flt,pool,mods⟩:=e
 obtain ⟨va,vn,vc⟩:=v
 change Calls Tryz.prog _ #[.agg (Em.cells ⟨op,ref,amt,ctr,zone,card,flt,pool,⟨va,vn,vc⟩⟩),_] _ _
 have hS:=St.start hl (jL _ _)
 go_enter Tryz.func191,Tryz.ntmps191
 go_wp2_with (first|fail|((refine aF rfl ?_);(first|((with_reducible refine aC (T:=25) ?_);(first|(refine Bd rfl hS rfl rfl (by repeat constructor) ?_));(try simp only [ah,ak,au,ay,aA]))|((with_reducible refine jT ?_);(first|(refine eG rfl rfl rfl rfl (by first|(simp only [List.length_append,List.length_cons,List.length_nil];omega)|fail) ?_));(try simp only [ah,ak,au,ay,aA]))|((with_reducible refine bI ?_);(first|(refine aG rfl hS rfl rfl ?_;intro g w hS));(try simp only [ah,ak,au,ay,aA]))))|((fail_if_success (with_reducible refine aB ?_));(first|(go_at_call 43;(with_reducible refine (St.call hS fun hl=>af4 _ _ HT _).mono ?_);rintro e w ⟨rfl,hS⟩))))
 all_goals go_ret
 all_goals exact ⟨dL (by simp),hS.below⟩
theorem aga (e:Ef) (v:Sl) (T:Str) (HT:Hid (e.card=B T)) (w:World) (hl:bQ e v w):Calls Tryz.prog 191 #[.agg (e.at v).cells, .int .u8 99] w fun x w'=>x= .returned (.string (B T))∧Below w.heap.size w w':=by
 obtain ⟨op,ref,amt,ctr,zone,card,flt,pool,mods⟩:=e
 obtain ⟨va,vn,vc⟩:=v
 obtain rfl:card=B T:=HT.out
 change Calls Tryz.prog _ #[.agg (Em.cells ⟨op,ref,amt,ctr,zone,B T,flt,pool,⟨va,vn,vc⟩⟩),_] _ _
 have hS:=St.start hl (jL _ _)
 go_enter Tryz.func191,Tryz.ntmps191
 go_wp2_with (first|fail|((refine aF rfl ?_);(first|((with_reducible refine aC (T:=9) ?_);(first|(refine wC rfl hS rfl rfl (by repeat constructor) ?_));(try simp only [ah,ak,au,ay,aA]))|((with_reducible refine bI ?_);(first|(refine aG rfl hS rfl rfl ?_;intro g w hS));(try simp only [ah,ak,au,ay,aA]))))|((fail_if_success (with_reducible refine aB ?_));(first|fail)))
 all_goals go_ret
 all_goals exact ⟨rfl,hS.below⟩
theorem adk (e:Ef) (v:Sl) (f:UInt8) (hf:f=114∨f=122∨f=107∨f=99∨f=97∨f=109∨f=112∨f=102) (T:Str) (HT:Hid (mQ e f=T)) (w:World) (hl:bQ e v w):Calls Tryz.prog 191 #[.agg (e.at v).cells, .int .u8 (f.toNat:Int)] w fun x w'=>x= .returned (.string (B T))∧Below w.heap.size w w':=by
 rw [←HT.out]
 rcases hf with rfl|rfl|rfl|rfl|rfl|rfl|rfl|rfl
 ·exact agi e v _ (Lib.hid rfl) w hl
 ·exact agj e v _ (Lib.hid rfl) w hl
 ·exact agc e v _ (Lib.hid rfl) w hl
 ·exact aga e v _ (Lib.hid (qV e.card).symm) w hl
 ·exact af9 e v _ (Lib.hid rfl) w hl
 ·exact agd e v _ (Lib.hid rfl) w hl
 ·exact agh e v _ (Lib.hid rfl) w hl
 ·exact agb e v _ (Lib.hid rfl) w hl
theorem KH {op:Int} (h:1≤op∧op≤26):∀f∈dF op,f=114∨f=122∨f=107∨f=99∨f=97∨f=109∨f=112∨f=102:=by
 obtain ⟨k,rfl,hc⟩:=CB h
 rcases hc with rfl|rfl|rfl|rfl|rfl|rfl|rfl|rfl|rfl|rfl|rfl|rfl|rfl|rfl|rfl|rfl|rfl|rfl|rfl|rfl|rfl|rfl|rfl|rfl|rfl|rfl<;>decide
end Go.Proofs.YtdicgggkdmkklaaGreatDoor
namespace Go.Proofs.YtdicgggkdmkklaaGreatDoor
attribute [local irreducible] wpList Code.wp Calls iY iT dh eH jY dw isName fRef rG rH oC fCard qL oz ou vU sV fK uV textOf
open Go.ChangeShapes Go.WideShapes Go.RowKit
theorem an3 (f g:aH) (w:World):(binOp .eql 25 (.agg f.cells) (.agg g.cells)).run Tryz.prog w= .ok (.bool (fK f g)) w:=by
 obtain ⟨a,b,c,d,e,f,g,h,i,j,k,l,m,n,o,p⟩:=f
 rename_i G
 obtain ⟨a,b,c,d,e,f,g,h,i,j,k,l,m,n,o,p⟩:=G
 exact WW _ _ _ _ _ _ _ _ _ _ _ _ _ _ _ _ _ _ _ _ _ _ _ _ _ _ _ _ _ _ _ _ w
theorem amr (a:Am) (R:Bool) (h:Hid (iT a=R)) (w:World):Calls Tryz.prog 174 #[.agg a.cells] w fun e w'=>e= .returned (.bool R)∧Below w.heap.size w w':=apb a R h w
theorem amq (s:ByteArray) (R:Bool) (h:Hid (isName (L s)=R)) (w:World):Calls Tryz.prog 161 #[.string s] w fun e w'=>e= .returned (.bool R)∧w=w':=(MR s w).mono fun e w' h'=>⟨by rw [h'.1,h.out],h'.2⟩
theorem zU (op:Int) (T:Str) (h:Hid (opName op=T)) (w:World):Calls Tryz.prog 170 #[.int .i64 op] w fun e w'=>e= .returned (.string (B T))∧Below w.heap.size w w':=(Z9 op w).mono fun e w' h'=>⟨by rw [h'.1,h.out],h'.2⟩
theorem alj (op:Int) (ref:Rf) (amt:Am) (ctr zone:Int) (card:ByteArray) (flt:aH) (pool:Po) (mods:List Md) (h:uF op=true):qL ⟨op,ref,amt,ctr,zone,card,flt,pool,mods⟩=(dh flt&&flt.zone==Hz op):=by unfold qL;rw [if_pos h]
theorem alk (op:Int) (ref:Rf) (amt:Am) (ctr zone:Int) (card:ByteArray) (flt:aH) (pool:Po) (mods:List Md) (h:uF op=false):qL ⟨op,ref,amt,ctr,zone,card,flt,pool,mods⟩=fK flt aaB:=by unfold qL;rw [if_neg (by rw [h];decide)]
theorem ahQ:dw 0≠[]:=by decide +kernel
theorem adh (op:Int) (ref:Rf) (amt:Am) (ctr zone:Int) (card:Str) (flt:aH) (pool:Po) (mods:List Md) (va:Option Addr) (vn vc:Nat) (specs:Int) (hop:1≤op∧op≤26) (w0:World) (hl:bQ ⟨op,ref,amt,ctr,zone,B card,flt,pool,mods⟩ ⟨va,vn,vc⟩ w0):
 Calls Tryz.prog 93 #[.agg (Em.cells ⟨op,ref,amt,ctr,zone,B card,flt,pool,⟨va,vn,vc⟩⟩), .int .i64 specs] w0 fun e w'=>e= .returned (.bool (jw ⟨op,ref,amt,ctr,zone,B card,flt,pool,mods⟩ specs))∧Below w0.heap.size w0 w':=by
 have vV:=Lib.hid hop
 obtain ⟨N0,hN⟩:∃T,opName op=T:=⟨_,rfl⟩
 have hN0:(N0==[])=false:=by
  rw [←hN]
  obtain ⟨k,rfl,hc⟩:=CB hop
  have:=Uk ⟨k,by omega⟩ (by simp only;omega)
  simpa using this
 have GN:=Lib.hid hN
 obtain ⟨u1,hu1⟩:∃u,uR op=u:=⟨_,rfl⟩
 obtain ⟨u2,hu2⟩:∃u,uA op=u:=⟨_,rfl⟩
 obtain ⟨u3,hu3⟩:∃u,uK op=u:=⟨_,rfl⟩
 obtain ⟨u4,hu4⟩:∃u,uZ op=u:=⟨_,rfl⟩
 obtain ⟨u5,hu5⟩:∃u,uC op=u:=⟨_,rfl⟩
 obtain ⟨u6,hu6⟩:∃u,uF op=u:=⟨_,rfl⟩
 obtain ⟨u7,hu7⟩:∃u,uP op=u:=⟨_,rfl⟩
 obtain ⟨u8,hu8⟩:∃u,uM op=u:=⟨_,rfl⟩
 have U1:=Lib.hid hu1
 have U2:=Lib.hid hu2
 have U3:=Lib.hid hu3
 have U4:=Lib.hid hu4
 have U5:=Lib.hid hu5
 have U6:=Lib.hid hu6
 have U7:=Lib.hid hu7
 have U8:=Lib.hid hu8
 obtain ⟨c1,hc1⟩:∃c,vU ref dY=c:=⟨_,rfl⟩
 obtain ⟨c2,hc2⟩:∃c,sV amt dG=c:=⟨_,rfl⟩
 obtain ⟨c6,hc6⟩:∃c,fK flt aaB=c:=⟨_,rfl⟩
 obtain ⟨c7,hc7⟩:∃c,uV pool bn=c:=⟨_,rfl⟩
 have e1:=fun wx=>(VG ref ⟨dY.kind,dY.n,dY.f⟩ wx).trans (by rw [show (⟨dY.kind,dY.n,dY.f⟩:Rf)=dY from rfl,hc1])
 have e2:=fun wx=>(VE amt ⟨dG.k,dG.n,dG.c,dG.f⟩ wx).trans (by rw [show (⟨dG.k,dG.n,dG.c,dG.f⟩:Am)=dG from rfl,hc2])
 have e6:=fun wx=>(an3 flt ⟨aaB.zone,aaB.who,aaB.self,aaB.types,aaB.aV,aaB.colors,aaB.aP,aaB.sub,aaB.keys,aaB.dJ,aaB.pk,aaB.pn,aaB.tk,aaB.tn,aaB.vk,aaB.vn⟩ wx).trans (by rw [show (⟨aaB.zone,aaB.who,aaB.self,aaB.types,aaB.aV,aaB.colors,aaB.aP,aaB.sub,aaB.keys,aaB.dJ,aaB.pk,aaB.pn,aaB.tk,aaB.tn,aaB.vk,aaB.vn⟩:aH)=aaB from rfl,hc6])
 have e7:=fun wx=>(OV pool ⟨bn.g,bn.c0,bn.c1,bn.c2,bn.c3,bn.c4⟩ wx).trans (by rw [show (⟨bn.g,bn.c0,bn.c1,bn.c2,bn.c3,bn.c4⟩:Po)=bn from rfl,hc7])
 obtain ⟨c5,hc5⟩:∃c,(card==[])=c:=⟨_,rfl⟩
 obtain ⟨c8,hc8⟩:∃c,((vn:Int)==0)=c:=⟨_,rfl⟩
 have C1:=Lib.hid hc1
 have C2:=Lib.hid hc2
 have C6:=Lib.hid hc6
 have C7:=Lib.hid hc7
 have C5:=Lib.hid hc5
 have C8:Hid (decide (mods.length=0)=c8):=Lib.hid (by
  rw [←hc8]
  have:=hl.2.1
  simp only at this
  rw [this,Bool.eq_iff_iff,decide_eq_true_eq,beq_iff_eq];omega)
 obtain ⟨I1,hI1⟩:∃T,iY ref specs=T:=⟨_,rfl⟩
 obtain ⟨I2,hI2⟩:∃T,iT amt=T:=⟨_,rfl⟩
 obtain ⟨aIc,hI5⟩:∃T,isName (L (B card))=T:=⟨_,rfl⟩
 obtain ⟨I6,hI6⟩:∃T,(dh flt&&flt.zone==Hz op)=T:=⟨_,rfl⟩
 obtain ⟨T3,hT3⟩:∃T,dw ctr=T:=⟨_,rfl⟩
 obtain ⟨T7,hT7⟩:∃T,jY pool=T:=⟨_,rfl⟩
 obtain ⟨I8,hI8⟩:∃T,(!(eH mods==[]))=T:=⟨_,rfl⟩
 have G1:=Lib.hid hI1
 have G2:=Lib.hid hI2
 have G3:=Lib.hid hT3
 have G5:=Lib.hid hI5
 have G6:=Lib.hid hI6
 have G7:=Lib.hid hT7
 have G8:=Lib.hid hI8
 clear hop hN hu1 hu2 hu3 hu4 hu5 hu6 hu7 hu8 hc1 hc2 hc6 hc7 hI1 hI2 hI5 hI6 hT3 hT7 hI8
 unfold jw
 have hS:=St.start hl (jL _ _)
 go_enter Tryz.func93,Tryz.ntmps93
 go_upto_if 23 with (first|fail|((refine aF rfl ?_);(first|((with_reducible refine aC (T:=3) ?_);(first|(refine lq rfl hS rfl rfl (by repeat constructor) ?_));(try simp only [ah,ak,au,ay,aA]))|((with_reducible refine aC (T:=61) ?_);(first|(refine EP rfl hS rfl rfl (by repeat constructor) ?_));(try simp only [ah,ak,au,ay,aA]))|((with_reducible refine bI ?_);(first|(refine aG rfl hS rfl rfl ?_;intro g w hS));(try simp only [ah,ak,au,ay,aA]))|((with_reducible refine Qr ?_);refine YA rfl ?_;(try simp only [ah,ak,au,ay,aA]))))|((fail_if_success (with_reducible refine aB ?_));(first|(go_at_call 170;(with_reducible refine (St.call hS fun hl=>zU _ _ GN _).mono ?_);rintro e w ⟨rfl,hS⟩)|(go_at_call 171;(with_reducible refine (St.call hS fun hl=>apa _ vV.out _ U1 _ hl.1.base).mono ?_);rintro e w ⟨rfl,hS⟩)|((with_reducible refine l9 ?_);refine wp_cond_split rfl (fun hb=> ?_) (fun hb=> ?_)<;>(first|(exfalso;exact Bool.noConfusion hb)|(obtain rfl:=eq_of_beq hb)|skip)<;>(try simp only [decide_eq_true_eq,decide_eq_false_iff_not,Bool.and_eq_true,Bool.or_eq_true,Bool.and_eq_false_iff,Bool.or_eq_false_iff] at hb)<;>go_prune))))
 go_cut [5] (fun rv wc=>∃b:Bool,rv= .bool b∧Hid (fRef ⟨op,ref,amt,ctr,zone,B card,flt,pool,mods⟩ specs=b)∧Hid (St (bQ ⟨op,ref,amt,ctr,zone,B card,flt,pool,mods⟩ ⟨va,vn,vc⟩) w0 [(g,Em.cells ⟨op,ref,amt,ctr,zone,B card,flt,pool,⟨va,vn,vc⟩⟩,67)] wc))
 case first=>
  cases u1
  ·skip
   go_wp2_with (first|fail|((refine aF rfl ?_);(first|fail))|((fail_if_success (with_reducible refine aB ?_));(first|fail)))
   all_goals go_meet
   all_goals exact ⟨c1,rfl,Lib.hid (by unfold fRef;rw [if_neg (by rw [U1.out];decide)];exact C1.out),Lib.hid hS⟩
  ·skip
   go_wp2_with (first|fail|((refine aF rfl ?_);(first|((with_reducible refine aC (T:=61) ?_);(first|(refine EP rfl hS rfl rfl (by repeat constructor) ?_));(try simp only [ah,ak,au,ay,aA]))))|((fail_if_success (with_reducible refine aB ?_));(first|(go_at_call 172;(with_reducible refine (St.call hS fun hl=>apw _ _ _ G1 _).mono ?_);rintro e w ⟨rfl,hS⟩))))
   all_goals go_meet
   all_goals exact ⟨I1,rfl,Lib.hid (by unfold fRef;rw [if_pos U1.out];exact G1.out),Lib.hid hS⟩
 case rest=>
  clear hS
  obtain ⟨b1,rfl,Hb1,HS⟩:=hcut
  have hS:=HS.out
  clear HS
  go_upto_region 6 with (first|fail|((refine aF rfl ?_);(first|fail))|((fail_if_success (with_reducible refine aB ?_));(first|fail)))
  go_cut [6] (fun rv wc=>∃b:Bool,rv= .bool b∧Hid (oC ⟨op,ref,amt,ctr,zone,B card,flt,pool,mods⟩=b)∧Hid (St (bQ ⟨op,ref,amt,ctr,zone,B card,flt,pool,mods⟩ ⟨va,vn,vc⟩) w0 [(g,Em.cells ⟨op,ref,amt,ctr,zone,B card,flt,pool,⟨va,vn,vc⟩⟩,67)] wc))
  case first=>
   have hf:oC ⟨op,ref,amt,ctr,zone,B card,flt,pool,mods⟩=if u4=true then decide (0≤zone)&&decide (zone≤4) else zone==0:=by unfold oC;rw [←U4.out]
   have HF:=Lib.hid hf
   clear hf
   by_cases hz:zone=0
   ·subst hz
    go_wp2_with (first|fail|((refine aF rfl ?_);(first|((with_reducible refine bG ?_);(first|(refine aS rfl ?_));(try simp only [ah,ak,au,ay,aA]))|((with_reducible refine aC (T:=3) ?_);(first|(refine wB rfl hS rfl rfl (by repeat constructor) ?_));(try simp only [ah,ak,au,ay,aA]))))|((fail_if_success (with_reducible refine aB ?_));(first|fail)))
    all_goals go_meet
    all_goals exact ⟨true,rfl,Lib.hid (by rw [HF.out];cases u4<;>rfl),Lib.hid hS⟩
   ·have hz':(zone==0)=false:=by simpa using hz
    clear hz
    cases u4
    ·skip
     go_wp2_with (first|fail|((refine aF rfl ?_);(first|((with_reducible refine bG ?_);(first|(refine aS rfl ?_));(try simp only [ah,ak,au,ay,aA]))|((with_reducible refine aC (T:=3) ?_);(first|(refine lq rfl hS rfl rfl (by repeat constructor) ?_)|(refine wB rfl hS rfl rfl (by repeat constructor) ?_));(try simp only [ah,ak,au,ay,aA]))))|((fail_if_success (with_reducible refine aB ?_));(first|(go_at_call 171;(with_reducible refine (St.call hS fun hl=>Yo _ vV.out _ U4 _ hl.1.base).mono ?_);rintro e w ⟨rfl,hS⟩))))
     all_goals go_meet
     all_goals exact ⟨false,rfl,Lib.hid (by rw [HF.out];simpa using hz'),Lib.hid hS⟩
    ·by_cases h0:0<zone
     ·have t1:decide (zone > 0)=true:=by simpa using h0
      have t1':decide (0<zone)=true:=by simpa using h0
      have h00:0≤zone:=by omega
      go_wp2_with (first|fail|((refine aF rfl ?_);(first|((with_reducible refine aC (T:=3) ?_);(first|(refine lq rfl hS rfl rfl (by repeat constructor) ?_)|(refine wB rfl hS rfl rfl (by repeat constructor) ?_));(try simp only [ah,ak,au,ay,aA]))))|((fail_if_success (with_reducible refine aB ?_));(first|(go_at_call 171;(with_reducible refine (St.call hS fun hl=>Yo _ vV.out _ U4 _ hl.1.base).mono ?_);rintro e w ⟨rfl,hS⟩))))
      all_goals go_meet
      all_goals exact ⟨_,rfl,Lib.hid (by rw [HF.out];simp_all),Lib.hid hS⟩
     ·have t1:decide (zone > 0)=false:=by simpa using h0
      have t1':decide (0<zone)=false:=by simpa using h0
      have h00:¬0≤zone:=by rw [beq_eq_false_iff_ne] at hz';omega
      go_wp2_with (first|fail|((refine aF rfl ?_);(first|((with_reducible refine bG ?_);(first|(refine aS rfl ?_));(try simp only [ah,ak,au,ay,aA]))|((with_reducible refine aC (T:=3) ?_);(first|(refine lq rfl hS rfl rfl (by repeat constructor) ?_)|(refine wB rfl hS rfl rfl (by repeat constructor) ?_));(try simp only [ah,ak,au,ay,aA]))))|((fail_if_success (with_reducible refine aB ?_));(first|(go_at_call 171;(with_reducible refine (St.call hS fun hl=>Yo _ vV.out _ U4 _ hl.1.base).mono ?_);rintro e w ⟨rfl,hS⟩))))
      all_goals go_meet
      all_goals exact ⟨false,rfl,Lib.hid (by rw [HF.out,decide_eq_false (show ¬0≤zone by omega)];rfl),Lib.hid hS⟩
  case rest=>
   clear hS
   obtain ⟨b4,rfl,Hb4,HS⟩:=hcut
   have hS:=HS.out
   clear HS
   go_upto_region 7 with (first|fail|((refine aF rfl ?_);(first|fail))|((fail_if_success (with_reducible refine aB ?_));(first|fail)))
   go_cut [7] (fun rv wc=>∃b:Bool,rv= .bool b∧Hid (rH ⟨op,ref,amt,ctr,zone,B card,flt,pool,mods⟩=b)∧Hid (St (bQ ⟨op,ref,amt,ctr,zone,B card,flt,pool,mods⟩ ⟨va,vn,vc⟩) w0 [(g,Em.cells ⟨op,ref,amt,ctr,zone,B card,flt,pool,⟨va,vn,vc⟩⟩,67)] wc))
   case first=>
    have hf:rH ⟨op,ref,amt,ctr,zone,B card,flt,pool,mods⟩=if u3=true then !(T3==[]) else ctr==0:=by unfold rH;simp only;rw [←U3.out,←G3.out]
    have h03:ctr=0→(T3==[])=false:=fun e=>by have:=ahQ;rw [←e,G3.out] at this;simpa using this
    have HF:=Lib.hid hf
    have H03:=Lib.hid h03
    clear hf h03
    by_cases hz:ctr=0
    ·have h3:=H03.out hz
     subst hz
     go_wp2_with (first|fail|((refine aF rfl ?_);(first|((with_reducible refine bG ?_);(first|(refine aS rfl ?_));(try simp only [ah,ak,au,ay,aA]))|((with_reducible refine aC (T:=3) ?_);(first|(refine yu rfl hS rfl rfl (by repeat constructor) ?_));(try simp only [ah,ak,au,ay,aA]))))|((fail_if_success (with_reducible refine aB ?_));(first|fail)))
     all_goals go_meet
     all_goals exact ⟨true,rfl,Lib.hid (by rw [HF.out,h3];cases u3<;>rfl),Lib.hid hS⟩
    ·have hz':(ctr==0)=false:=by simpa using hz
     clear hz
     obtain ⟨q3,hq3⟩:∃q,(T3==[])=q:=⟨_,rfl⟩
     have ate:(T3 != [])= !q3:=by rw [←hq3];rfl
     cases u3
     ·skip
      go_wp2_with (first|fail|((refine aF rfl ?_);(first|((with_reducible refine bG ?_);(first|(refine aS rfl ?_));(try simp only [ah,ak,au,ay,aA]))|((with_reducible refine aC (T:=3) ?_);(first|(refine lq rfl hS rfl rfl (by repeat constructor) ?_)|(refine yu rfl hS rfl rfl (by repeat constructor) ?_));(try simp only [ah,ak,au,ay,aA]))))|((fail_if_success (with_reducible refine aB ?_));(first|(go_at_call 171;(with_reducible refine (St.call hS fun hl=>agt _ vV.out _ U3 _ hl.1.base).mono ?_);rintro e w ⟨rfl,hS⟩))))
      all_goals go_meet
      all_goals exact ⟨false,rfl,Lib.hid (by rw [HF.out];simpa using hz'),Lib.hid hS⟩
     ·skip
      go_wp2_with (first|fail|((refine aF rfl ?_);(first|((with_reducible refine aC (T:=3) ?_);(first|(refine lq rfl hS rfl rfl (by repeat constructor) ?_)|(refine yu rfl hS rfl rfl (by repeat constructor) ?_));(try simp only [ah,ak,au,ay,aA]))))|((fail_if_success (with_reducible refine aB ?_));(first|(go_at_call 171;(with_reducible refine (St.call hS fun hl=>agt _ vV.out _ U3 _ hl.1.base).mono ?_);rintro e w ⟨rfl,hS⟩)|(go_at_call 173;(with_reducible refine (St.still hS fun hl=>DX _ _ G3 _).mono ?_);rintro e w ⟨rfl,hS⟩))))
      all_goals go_meet
      all_goals exact ⟨!q3,rfl,Lib.hid (by rw [HF.out,hq3];rfl),Lib.hid hS⟩
   case rest=>
    clear hS
    obtain ⟨b3,rfl,Hb3,HS⟩:=hcut
    have hS:=HS.out
    clear HS
    go_upto_if 65 with (first|fail|((refine aF rfl ?_);(first|((with_reducible refine aC (T:=3) ?_);(first|(refine lq rfl hS rfl rfl (by repeat constructor) ?_));(try simp only [ah,ak,au,ay,aA]))|((with_reducible refine aC (T:=9) ?_);(first|(refine wC rfl hS rfl rfl (by repeat constructor) ?_));(try simp only [ah,ak,au,ay,aA]))))|((fail_if_success (with_reducible refine aB ?_));(first|(go_at_call 171;(with_reducible refine (St.call hS fun hl=>ao6 _ vV.out _ U5 _ hl.1.base).mono ?_);rintro e w ⟨rfl,hS⟩))))
    go_cut [8] (fun rv wc=>∃b:Bool,rv= .bool b∧Hid (fCard ⟨op,ref,amt,ctr,zone,B card,flt,pool,mods⟩=b)∧Hid (St (bQ ⟨op,ref,amt,ctr,zone,B card,flt,pool,mods⟩ ⟨va,vn,vc⟩) w0 [(g,Em.cells ⟨op,ref,amt,ctr,zone,B card,flt,pool,⟨va,vn,vc⟩⟩,67)] wc))
    case first=>
     cases u5
     ·skip
      go_wp2_with (first|fail|((refine aF rfl ?_);(first|fail))|((fail_if_success (with_reducible refine aB ?_));(first|fail)))
      all_goals go_meet
      all_goals exact ⟨c5,rfl,Lib.hid (by unfold fCard;rw [if_neg (by rw [U5.out];decide)];simp only;rw [cO];exact C5.out),Lib.hid hS⟩
     ·skip
      go_wp2_with (first|fail|((refine aF rfl ?_);(first|((with_reducible refine aC (T:=9) ?_);(first|(refine wC rfl hS rfl rfl (by repeat constructor) ?_));(try simp only [ah,ak,au,ay,aA]))))|((fail_if_success (with_reducible refine aB ?_));(first|(go_at_call 161;(with_reducible refine (St.still hS fun hl=>amq _ _ G5 _).mono ?_);rintro e w ⟨rfl,hS⟩))))
      all_goals go_meet
      all_goals exact ⟨aIc,rfl,Lib.hid (by unfold fCard;rw [if_pos U5.out];exact G5.out),Lib.hid hS⟩
    case rest=>
     clear hS
     obtain ⟨b5,rfl,Hb5,HS⟩:=hcut
     have hS:=HS.out
     clear HS
     go_upto_if 75 with (first|fail|((refine aF rfl ?_);(first|((with_reducible refine aC (T:=3) ?_);(first|(refine lq rfl hS rfl rfl (by repeat constructor) ?_));(try simp only [ah,ak,au,ay,aA]))|((with_reducible refine aC (T:=63) ?_);(first|(refine Bc rfl hS rfl rfl (by repeat constructor) ?_));(try simp only [ah,ak,au,ay,aA]))|((with_reducible refine Oq ?_);refine V8 rfl ?_;(try simp only [ah,ak,au,ay,aA]))))|((fail_if_success (with_reducible refine aB ?_));(first|(go_at_call 171;(with_reducible refine (St.call hS fun hl=>ao5 _ vV.out _ U2 _ hl.1.base).mono ?_);rintro e w ⟨rfl,hS⟩))))
     go_cut [9] (fun rv wc=>∃b:Bool,rv= .bool b∧Hid (rG ⟨op,ref,amt,ctr,zone,B card,flt,pool,mods⟩=b)∧Hid (St (bQ ⟨op,ref,amt,ctr,zone,B card,flt,pool,mods⟩ ⟨va,vn,vc⟩) w0 [(g,Em.cells ⟨op,ref,amt,ctr,zone,B card,flt,pool,⟨va,vn,vc⟩⟩,67)] wc))
     case first=>
      cases u2
      ·skip
       go_wp2_with (first|fail|((refine aF rfl ?_);(first|fail))|((fail_if_success (with_reducible refine aB ?_));(first|fail)))
       all_goals go_meet
       all_goals exact ⟨c2,rfl,Lib.hid (by unfold rG;rw [if_neg (by rw [U2.out];decide)];exact C2.out),Lib.hid hS⟩
      ·skip
       go_wp2_with (first|fail|((refine aF rfl ?_);(first|((with_reducible refine aC (T:=63) ?_);(first|(refine Bc rfl hS rfl rfl (by repeat constructor) ?_));(try simp only [ah,ak,au,ay,aA]))))|((fail_if_success (with_reducible refine aB ?_));(first|(go_at_call 174;(with_reducible refine (St.call hS fun hl=>amr _ _ G2 _).mono ?_);rintro e w ⟨rfl,hS⟩))))
       all_goals go_meet
       all_goals exact ⟨I2,rfl,Lib.hid (by unfold rG;rw [if_pos U2.out];exact G2.out),Lib.hid hS⟩
     case rest=>
      clear hS
      obtain ⟨b2,rfl,Hb2,HS⟩:=hcut
      have hS:=HS.out
      clear HS
      go_upto_if 85 with (first|fail|((refine aF rfl ?_);(first|((with_reducible refine aC (T:=3) ?_);(first|(refine lq rfl hS rfl rfl (by repeat constructor) ?_));(try simp only [ah,ak,au,ay,aA]))|((with_reducible refine aC (T:=26) ?_);(first|(refine sH rfl hS rfl rfl (by repeat constructor) ?_));(try simp only [ah,ak,au,ay,aA]))))|((fail_if_success (with_reducible refine aB ?_));(first|(go_at_call 171;(with_reducible refine (St.call hS fun hl=>ao8 _ vV.out _ U8 _ hl.1.base).mono ?_);rintro e w ⟨rfl,hS⟩))))
      go_cut [10] (fun rv wc=>∃b:Bool,rv= .bool b∧Hid (ou ⟨op,ref,amt,ctr,zone,B card,flt,pool,mods⟩=b)∧Hid (St (bQ ⟨op,ref,amt,ctr,zone,B card,flt,pool,mods⟩ ⟨va,vn,vc⟩) w0 [(g,Em.cells ⟨op,ref,amt,ctr,zone,B card,flt,pool,⟨va,vn,vc⟩⟩,67)] wc))
      case first=>
       cases u8
       ·skip
        go_wp2_with (first|fail|((refine aF rfl ?_);(first|fail))|((fail_if_success (with_reducible refine aB ?_));(first|fail)))
        all_goals go_meet
        all_goals exact ⟨c8,rfl,Lib.hid (by unfold ou;rw [if_neg (by rw [U8.out];decide)];exact C8.out),Lib.hid hS⟩
       ·skip
        go_wp2_with (first|fail|((refine aF rfl ?_);(first|((with_reducible refine aC (T:=26) ?_);(first|(refine sH rfl hS rfl rfl (by repeat constructor) ?_));(try simp only [ah,ak,au,ay,aA]))))|((fail_if_success (with_reducible refine aB ?_));(first|(go_at_call 175;(with_reducible refine (St.call hS fun hl=>af8 ⟨op,ref,amt,ctr,zone,B card,flt,pool,mods⟩ ⟨va,vn,vc⟩ _ G8 _ hl).mono ?_);rintro e w ⟨rfl,hS⟩))))
        all_goals go_meet
        all_goals exact ⟨I8,rfl,Lib.hid (by unfold ou;rw [if_pos U8.out];exact G8.out),Lib.hid hS⟩
      case rest=>
       clear hS
       obtain ⟨b8,rfl,Hb8,HS⟩:=hcut
       have hS:=HS.out
       clear HS
       go_upto_if 95 with (first|fail|((refine aF rfl ?_);(first|((with_reducible refine aC (T:=3) ?_);(first|(refine lq rfl hS rfl rfl (by repeat constructor) ?_));(try simp only [ah,ak,au,ay,aA]))|((with_reducible refine aC (T:=65) ?_);(first|(refine Bf rfl hS rfl rfl (by repeat constructor) ?_));(try simp only [ah,ak,au,ay,aA]))|((with_reducible refine rO ?_);refine vS rfl ?_;(try simp only [ah,ak,au,ay,aA]))))|((fail_if_success (with_reducible refine aB ?_));(first|(go_at_call 171;(with_reducible refine (St.call hS fun hl=>ao9 _ vV.out _ U7 _ hl.1.base).mono ?_);rintro e w ⟨rfl,hS⟩))))
       go_cut [11] (fun rv wc=>∃b:Bool,rv= .bool b∧Hid (oz ⟨op,ref,amt,ctr,zone,B card,flt,pool,mods⟩=b)∧Hid (St (bQ ⟨op,ref,amt,ctr,zone,B card,flt,pool,mods⟩ ⟨va,vn,vc⟩) w0 [(g,Em.cells ⟨op,ref,amt,ctr,zone,B card,flt,pool,⟨va,vn,vc⟩⟩,67)] wc))
       case first=>
        have hf:oz ⟨op,ref,amt,ctr,zone,B card,flt,pool,mods⟩=if u7=true then !c7&& !(T7==[]) else c7:=by unfold oz;simp only;rw [←U7.out,C7.out,G7.out]
        have HF:=Lib.hid hf
        clear hf
        obtain ⟨q7,hq7⟩:∃q,(T7==[])=q:=⟨_,rfl⟩
        have atf:(T7 != [])= !q7:=by rw [←hq7];rfl
        cases u7
        ·skip
         go_wp2_with (first|fail|((refine aF rfl ?_);(first|fail))|((fail_if_success (with_reducible refine aB ?_));(first|fail)))
         all_goals go_meet
         all_goals exact ⟨c7,rfl,Lib.hid (by rw [HF.out];rfl),Lib.hid hS⟩
        ·cases c7
         ·skip
          go_wp2_with (first|fail|((refine aF rfl ?_);(first|((with_reducible refine aC (T:=65) ?_);(first|(refine Bf rfl hS rfl rfl (by repeat constructor) ?_));(try simp only [ah,ak,au,ay,aA]))))|((fail_if_success (with_reducible refine aB ?_));(first|(go_at_call 176;(with_reducible refine (St.call hS fun hl=>E8 _ _ G7 _ hl.1.base).mono ?_);rintro e w ⟨rfl,hS⟩))))
          all_goals go_meet
          all_goals exact ⟨!q7,rfl,Lib.hid (by rw [HF.out,hq7];rfl),Lib.hid hS⟩
         ·skip
          go_wp2_with (first|fail|((refine aF rfl ?_);(first|((with_reducible refine bG ?_);(first|(refine aS rfl ?_));(try simp only [ah,ak,au,ay,aA]))))|((fail_if_success (with_reducible refine aB ?_));(first|fail)))
          all_goals go_meet
          all_goals exact ⟨false,rfl,Lib.hid (by rw [HF.out];rfl),Lib.hid hS⟩
       case rest=>
        clear hS
        obtain ⟨b7,rfl,Hb7,HS⟩:=hcut
        have hS:=HS.out
        clear HS
        go_upto_if 110 with (first|fail|((refine aF rfl ?_);(first|((with_reducible refine aC (T:=3) ?_);(first|(refine lq rfl hS rfl rfl (by repeat constructor) ?_));(try simp only [ah,ak,au,ay,aA]))|((with_reducible refine aC (T:=25) ?_);(first|(refine Bd rfl hS rfl rfl (by repeat constructor) ?_));(try simp only [ah,ak,au,ay,aA]))|((with_reducible refine Gh ?_);refine NG rfl ?_;(try simp only [ah,ak,au,ay,aA]))))|((fail_if_success (with_reducible refine aB ?_));(first|(go_at_call 171;(with_reducible refine (St.call hS fun hl=>ao7 _ vV.out _ U6 _ hl.1.base).mono ?_);rintro e w ⟨rfl,hS⟩))))
        go_cut [12] (fun rv wc=>∃b:Bool,rv= .bool b∧Hid (qL ⟨op,ref,amt,ctr,zone,B card,flt,pool,mods⟩=b)∧Hid (St (bQ ⟨op,ref,amt,ctr,zone,B card,flt,pool,mods⟩ ⟨va,vn,vc⟩) w0 [(g,Em.cells ⟨op,ref,amt,ctr,zone,B card,flt,pool,⟨va,vn,vc⟩⟩,67)] wc))
        case first=>
         cases u6
         ·skip
          go_wp2_with (first|fail|((refine aF rfl ?_);(first|fail))|((fail_if_success (with_reducible refine aB ?_));(first|fail)))
          all_goals go_meet
          all_goals exact ⟨c6,rfl,Lib.hid (by rw [alk _ _ _ _ _ _ _ _ _ U6.out];exact C6.out),Lib.hid hS⟩
         ·skip
          go_wp2_with (first|fail|((refine aF rfl ?_);(first|((with_reducible refine aC (T:=3) ?_);(first|(refine lq rfl hS rfl rfl (by repeat constructor) ?_));(try simp only [ah,ak,au,ay,aA]))|((with_reducible refine aC (T:=25) ?_);(first|(refine Bd rfl hS rfl rfl (by repeat constructor) ?_));(try simp only [ah,ak,au,ay,aA]))))|((fail_if_success (with_reducible refine aB ?_));(first|(go_at_call 177;(with_reducible refine (St.call hS fun hl=>Yn _ _ _ G6 _ hl.1.base).mono ?_);rintro e w ⟨rfl,hS⟩))))
          all_goals go_meet
          all_goals exact ⟨I6,rfl,Lib.hid (by rw [alj _ _ _ _ _ _ _ _ _ U6.out];exact G6.out),Lib.hid hS⟩
        case rest=>
         clear hS
         obtain ⟨b6,rfl,Hb6,HS⟩:=hcut
         have hS:=HS.out
         clear HS
         go_wp2_with (first|fail|((refine aF rfl ?_);(first|fail))|((fail_if_success (with_reducible refine aB ?_));(first|fail)))
         all_goals go_ret
         all_goals exact ⟨aX (by rw [Hb1.out,Hb2.out,Hb3.out,Hb4.out,Hb5.out,Hb6.out,Hb7.out,Hb8.out];first|rfl|(simp;done)|(clear Hb1 Hb2 Hb3 Hb4 Hb5 Hb6 Hb7 Hb8 hS;simp_all;done)),hS.below⟩
theorem adg (e:Ef) (v:Sl) (specs:Int) (h:Hid (opName e.op=[])) (w:World) (hl:bQ e v w):Calls Tryz.prog 93 #[.agg (e.at v).cells, .int .i64 specs] w fun x w'=>x= .returned (.bool false)∧Below w.heap.size w w':=by
 obtain ⟨op,ref,amt,ctr,zone,card,flt,pool,mods⟩:=e
 obtain ⟨va,vn,vc⟩:=v
 change Calls Tryz.prog _ #[.agg (Em.cells ⟨op,ref,amt,ctr,zone,card,flt,pool,⟨va,vn,vc⟩⟩),_] _ _
 have h2:Hid (opName op=[]):=h
 clear h
 have hS:=St.start hl (jL _ _)
 go_enter Tryz.func93,Tryz.ntmps93
 go_wp2_with (first|fail|((refine aF rfl ?_);(first|((with_reducible refine aC (T:=3) ?_);(first|(refine lq rfl hS rfl rfl (by repeat constructor) ?_));(try simp only [ah,ak,au,ay,aA]))|((with_reducible refine bI ?_);(first|(refine aG rfl hS rfl rfl ?_;intro g w hS));(try simp only [ah,ak,au,ay,aA]))))|((fail_if_success (with_reducible refine aB ?_));(first|(go_at_call 170;(with_reducible refine (St.call hS fun hl=>zU _ _ h2 _).mono ?_);rintro e w ⟨rfl,hS⟩))))
 all_goals go_ret
 all_goals exact ⟨rfl,hS.below⟩
theorem zT (e:Ef) (v:Sl) (specs:Int) (R:Bool) (HR:Hid (jl e specs=R)) (w:World) (hl:bQ e v w):Calls Tryz.prog 93 #[.agg (e.at v).cells, .int .i64 specs] w fun x w'=>x= .returned (.bool R)∧Below w.heap.size w w':=by
 rw [←HR.out]
 by_cases h:opName e.op=[]
 ·refine (adg e v specs (Lib.hid h) w hl).mono fun x w' h'=>⟨h'.1.trans (aX ?_),h'.2⟩
  unfold jl;rw [h];rfl
 ·obtain ⟨k,hk,h1⟩:=MC h
  have hE:jl e specs=jw e specs:=by
   unfold jl
   rw [show (opName e.op==[])=false by simpa using h];rfl
  rw [hE]
  have hop:1≤e.op∧e.op≤26:=by rw [hk];have:=k.isLt;omega
  obtain ⟨op,ref,amt,ctr,zone,card,flt,pool,mods⟩:=e
  obtain ⟨va,vn,vc⟩:=v
  obtain ⟨p,rfl⟩:∃p,card=B p:=⟨L card,(qV card).symm⟩
  exact adh op ref amt ctr zone p flt pool mods va vn vc specs hop w hl
end Go.Proofs.YtdicgggkdmkklaaGreatDoor
namespace Go.Proofs.YtdicgggkdmkklaaGreatDoor
attribute [local irreducible] wpList Code.wp Calls
open Go.ChangeShapes Go.WideShapes Go.RowKit
theorem afV {e:Ef} (h:jl e 4=true) {f:UInt8} (hf:f∈dF e.op):(mQ e f).length≤8000000:=
 OM h _ (by rw [H8 e (Eo h).PX];exact .tail _ (List.mem_map.2 ⟨f,hf,rfl⟩))
theorem arK {e:Ef} (h:jl e 4=true):1≤e.op∧e.op≤26:=by
 obtain ⟨k,hk,h1⟩:=(Eo h).PX
 rw [hk];have:=k.isLt;omega
theorem agf (e:Ef) (v:Sl) (f:UInt8) (n:Nat) (hn:Hid (n=f.toNat)) (hf:Hid (f=114∨f=122∨f=107∨f=99∨f=97∨f=109∨f=112∨f=102)) (T:Str) (HT:Hid (mQ e f=T)) (w:World) (hl:bQ e v w):Calls Tryz.prog 191 #[.agg (e.at v).cells, .int .u8 (n:Int)] w fun x w'=>x= .returned (.string (B T))∧Below w.heap.size w w':=by
 rw [hn.out]
 exact adk e v f hf.out T HT w hl
theorem Z7 (e:Ef) (v:Sl) (hv:jl e 4=true) (w0:World) (hl:bQ e v w0):Calls Tryz.prog 119 #[.agg (e.at v).cells] w0 fun x w'=>x= .returned (.string (B (dB e)))∧Below w0.heap.size w0 w':=by
 have hE:dB e=Lib.join (opName e.op::(dF e.op).map (mQ e)) [32]:=by rw [vZ hv,H8 e (Eo hv).PX]
 rw [hE]
 clear hE
 have hop:=arK hv
 have vV:=Lib.hid hop
 have hul:=N8 hop
 have hlet:=KH hop
 have hpl:=fun f hf=>afV hv (f:=f) hf
 have hnl:=PW e.op
 have HV:=Lib.hid hv
 obtain ⟨U,hU⟩:∃U,dF e.op=U:=⟨_,rfl⟩
 obtain ⟨N0,hN⟩:∃T,opName e.op=T:=⟨_,rfl⟩
 rw [hU] at hul hlet hpl ⊢
 rw [hN] at hnl ⊢
 have HU:=Lib.hid hU
 have GN:=Lib.hid hN
 have abI:=Lib.hid hlet
 have HPL:=Lib.hid hpl
 clear hU hN hv hop hlet hpl
 have hsz:(B U).size=U.length:=bC U
 have hgt:=jm (B U)
 rw [cO] at hgt
 obtain ⟨op,ref,amt,ctr,zone,card,flt,pool,mods⟩:=e
 obtain ⟨va,vn,vc⟩:=v
 change Calls Tryz.prog _ #[.agg (Em.cells ⟨op,ref,amt,ctr,zone,card,flt,pool,⟨va,vn,vc⟩⟩)] _ _
 have HIS:Hid (∀w,bQ ⟨op,ref,amt,ctr,zone,card,flt,pool,mods⟩ ⟨va,vn,vc⟩ w→Calls Tryz.prog 93 #[.agg (Em.cells ⟨op,ref,amt,ctr,zone,card,flt,pool,⟨va,vn,vc⟩⟩), .int .i64 4] w fun x w'=>x= .returned (.bool true)∧Below w.heap.size w w'):=Lib.hid fun w hl=>zT ⟨op,ref,amt,ctr,zone,card,flt,pool,mods⟩ ⟨va,vn,vc⟩ 4 true HV w hl
 have HPA:Hid (∀(f:UInt8) (n:Nat),Hid (n=f.toNat)→Hid (f=114∨f=122∨f=107∨f=99∨f=97∨f=109∨f=112∨f=102)→∀T:Str,Hid (mQ ⟨op,ref,amt,ctr,zone,card,flt,pool,mods⟩ f=T)→∀w,bQ ⟨op,ref,amt,ctr,zone,card,flt,pool,mods⟩ ⟨va,vn,vc⟩ w→Calls Tryz.prog 191 #[.agg (Em.cells ⟨op,ref,amt,ctr,zone,card,flt,pool,⟨va,vn,vc⟩⟩), .int .u8 (n:Int)] w fun x w'=>x= .returned (.string (B T))∧Below w.heap.size w w'):=Lib.hid fun f n hn hf T HT w hl=>agf ⟨op,ref,amt,ctr,zone,card,flt,pool,mods⟩ ⟨va,vn,vc⟩ f n hn hf T HT w hl
 have hS:=St.start hl (jL _ _)
 go_enter Tryz.func119,Tryz.ntmps119
 go_wp2_with (first|fail|((refine aF rfl ?_);(first|((with_reducible refine aC (T:=67) ?_);(first|(refine iC rfl hS rfl rfl (by repeat constructor) ?_));(try simp only [ah,ak,au,ay,aA]))|((with_reducible refine aC (T:=3) ?_);(first|(refine lq rfl hS rfl rfl (by repeat constructor) ?_));(try simp only [ah,ak,au,ay,aA]))|((with_reducible refine bI ?_);(first|(refine aG rfl hS rfl rfl ?_;intro g w hS));(try simp only [ah,ak,au,ay,aA]))))|((fail_if_success (with_reducible refine aB ?_));(first|(go_at_call 93;(with_reducible refine (St.call hS fun hl=>HIS.out _ hl).mono ?_);rintro e w ⟨rfl,hS⟩)|(go_at_call 170;(with_reducible refine (St.call hS fun hl=>zU _ _ GN _).mono ?_);rintro e w ⟨rfl,hS⟩)|(go_at_call 190;(with_reducible refine (St.still hS fun hl=>AA _ vV.out _ HU _).mono ?_);rintro e w ⟨rfl,hS⟩))))
 go_loopw [3,5] (fun sv iv wr=>∃(k:Nat) (p:Str),k≤U.length∧p.length≤100+9000000 * k∧sv= .string (B p)∧iv= .int .i64 k∧Hid (Lib.join (N0::(U.take k).map (mQ ⟨op,ref,amt,ctr,zone,card,flt,pool,mods⟩)) [32]=p)∧Hid (St (bQ ⟨op,ref,amt,ctr,zone,card,flt,pool,mods⟩ ⟨va,vn,vc⟩) w0 [(g,Em.cells ⟨op,ref,amt,ctr,zone,card,flt,pool,⟨va,vn,vc⟩⟩,67)] wr)) (fun _ iv _=>U.length - (intOf iv).toNat)
 case atStart=>exact ⟨0,N0,by omega,by omega,rfl,rfl,Lib.hid (by rw [List.take_zero,List.map_nil,Lib.join_one]),Lib.hid hS⟩
 case round=>
  clear hS
  obtain ⟨k,p,hk,hp,rfl,rfl,HP,HS⟩:=hrel
  have hS:=HS.out
  clear HS
  by_cases hlt:k<U.length
  ·have hbt:=Lib.hid (yg hlt)
   have HLE:=Lib.hid (abI.out U[k] (List.getElem_mem hlt))
   have hTl:=HPL.out U[k] (List.getElem_mem hlt)
   obtain ⟨T,hT⟩:∃T,mQ ⟨op,ref,amt,ctr,zone,card,flt,pool,mods⟩ U[k]=T:=⟨_,rfl⟩
   rw [hT] at hTl
   have HN:Hid (Lib.join (N0::(U.take (k+1)).map (mQ ⟨op,ref,amt,ctr,zone,card,flt,pool,mods⟩)) [32]=p++[32]++T):=Lib.hid (by
    rw [List.take_succ,List.getElem?_eq_getElem hlt,Option.toList_some,List.map_append,List.map_cons,List.map_nil,←List.cons_append,wG,if_neg (by simp),HP.out,hT])
   have HT:=Lib.hid hT
   clear hT
   go_wp2_with (first|fail|((refine aF rfl ?_);(first|fail))|((fail_if_success (with_reducible refine aB ?_));(first|((with_reducible refine aT ?_);refine bY hS (by kernel_rfl) (by kernel_rfl) ?_)|((with_reducible refine fG ?_);intro w hS)|((with_reducible refine Fb ?_);(first|(refine C9 rfl rfl rfl rfl (by first|(simp only [List.length_append,List.length_cons,List.length_nil];omega)|fail) (fun _ _ _ h=>h) ?_));(try simp only [ah,ak,au,ay,aA]))|((with_reducible refine gY ?_);(first|(refine ae7 rfl rfl rfl (by repeat constructor) (fun _ _ _ h=>h) ?_));(try simp only [ah,ak,au,ay,aA]))|((with_reducible refine iH ?_);(first|(refine eu (v:= ?_) (args:= ?_) 191 rfl (fun _ _ _ h=>h) ?_ ?_ ?_;rotate_left 2;(focus ((intro w;go_simp)<;>with_reducible rfl));(focus (intro w hS;refine St.jE hS (fun hl=>HPA.out U[k] (aI U k) hbt HLE T HT _ hl) ?_;with_reducible rfl))));(try simp only [ah,ak,au,ay,aA]))|((with_reducible refine dS ?_);(refine dn (v:= ?_) rfl (fun _ _ _ h=>h) ?_ ?_;rotate_left;(focus ((intro w hS;go_simp)<;>with_reducible rfl)));(try simp only [ah,ak,au,ay,aA])))))
   go_roundw
   case rel=>exact ⟨k+1,p++[32]++T,by omega,by simp;omega,by first|rfl|simp,by go_num,HN,Lib.hid hS⟩
   case measure=>simp [intOf];omega
  ·obtain rfl:k=U.length:=by omega
   go_wp2_with (first|fail|((refine aF rfl ?_);(first|fail))|((fail_if_success (with_reducible refine aB ?_));(first|fail)))
   all_goals go_ret
   all_goals exact ⟨dL (by rw [←HP.out,List.take_length]),hS.below⟩
theorem Ym (e:Ef) (v:Sl) (HV:Hid (jl e 4=false)) (w:World) (hl:bQ e v w):Calls Tryz.prog 119 #[.agg (e.at v).cells] w fun x w'=>x= .returned (.string (B []))∧Below w.heap.size w w':=by
 have hS:=St.start hl (jL e v)
 go_enter Tryz.func119,Tryz.ntmps119
 go_wp2_with (first|fail|((refine aF rfl ?_);(first|((with_reducible refine aC (T:=67) ?_);(first|(refine iC rfl hS rfl rfl (by repeat constructor) ?_));(try simp only [ah,ak,au,ay,aA]))|((with_reducible refine bI ?_);(first|(refine aG rfl hS rfl rfl ?_;intro g w hS));(try simp only [ah,ak,au,ay,aA]))))|((fail_if_success (with_reducible refine aB ?_));(first|(go_at_call 93;(with_reducible refine (St.call hS fun hl=>zT e v 4 _ HV _ hl).mono ?_);rintro e w ⟨rfl,hS⟩))))
 all_goals go_ret
 all_goals exact ⟨rfl,hS.below⟩
theorem EC (e:Ef) (v:Sl) (T:Str) (HT:Hid (dB e=T)) (w:World) (hl:bQ e v w):Calls Tryz.prog 119 #[.agg (e.at v).cells] w fun x w'=>x= .returned (.string (B T))∧Below w.heap.size w w':=by
 rw [←HT.out]
 cases hv:jl e 4 with
 |false=>rw [BL hv];exact Ym e v (Lib.hid hv) w hl
 |true=>exact Z7 e v hv w hl
end Go.Proofs.YtdicgggkdmkklaaGreatDoor
