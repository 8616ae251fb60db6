/- Steps of a walk: filters in rows; lists of texts, their lengths; facts of the context for instances. Conditions: none. Steps of a walk: filters and amounts, the program's and the reference's contra -/
import Derived.Test.YtdicgggkdmkklaaGreatDoorQ3
import Derived.Test.YtdicgggkdmkklaaGreatDoorQ2
import Derived.Test.YtdicgggkdmkklaaGreatDoorQ7
import Derived.Test.YtdicgggkdmkklaaGreatDoorQ4
import Derived.Test.YtdicgggkdmkklaaGreatDoorQ8
import Derived.Deep.RegionHeld3
import Derived.OwnWalk
import Derived.Test.YtdicgggkdmkklaaGreatDoorQ5
set_option linter.all false
set_option maxRecDepth 100000
set_option maxHeartbeats 16000000
namespace Go.Proofs.YtdicgggkdmkklaaGreatDoor
open Go.ChangeShapes Go.WideShapes Go.RowKit
instance (r:aH):Part (aH.cells r) 0 25 (aH.cells r):= .of (n:=16) rfl Tryz.underlying25 rfl (by kernel_rfl)
instance (r v:aH):Put (aH.cells r) 0 25 (.agg (aH.cells v)) (aH.cells v):= .of rfl rfl (by kernel_rfl) rfl
instance:VX 25 (aH.cells aaB):=⟨fun _=>by kernel_rfl⟩
instance:Ae 25 [] (.agg (aH.cells aaB)):=⟨fun _=>by kernel_rfl⟩
instance (f g:aH):Ob TF (aH.cells f) (aH.cells g) (fK f g):=⟨an4 f g⟩
class Fc (P:Prop):Prop where
 h:P
class VT (l:List Str) (n:outParam Nat):Prop where
 le:l.length≤n
instance:VT [] 0:=⟨Nat.le_refl _⟩
instance {l:List Str} {s:Str} {n:Nat} [h:VT l n]:VT (bf l s) (n+1):=⟨by have:=iG l s;have:=h.le;omega⟩
theorem VT.small {l:List Str} {n:Nat} [h:VT l n] (hn:Nat.ble n 1000000=true):l.length≤1000000:=Nat.le_trans h.le (Nat.le_of_ble_eq_true hn)
instance {l:List Str} {n k:Nat} [h:ahu l n]:Len (wd l k) n:=inferInstanceAs (Len (l.getD k []) n)
class aht (b:ByteArray) (l:outParam Str):Prop where
 eq:L b=l
 sz:b.size≤100
instance:aht ⟨#[112,111,119,101,114]⟩ eP:=⟨rfl,by decide⟩
instance:aht ⟨#[116,111,117,103,104]⟩ fE:=⟨rfl,by decide⟩
instance:aht ⟨#[118,97,108,117,101]⟩ fH:=⟨rfl,by decide⟩
instance (r:Am):Part (Am.cells r) 0 63 (Am.cells r):= .of (n:=19) rfl Tryz.underlying63 rfl (by kernel_rfl)
instance (r v:Am):Put (Am.cells r) 0 63 (.agg (Am.cells v)) (Am.cells v):= .of rfl rfl (by kernel_rfl) rfl
instance:VX 63 (Am.cells dG):=⟨fun _=>by kernel_rfl⟩
instance (r:Am) (x:Int):Put (Am.cells r) 0 3 (.int .i64 x) (Am.cells ⟨x,r.n,r.c,r.f⟩):= .of rfl rfl (by kernel_rfl) rfl
instance (r:Am) (x:Int):Put (Am.cells r) 1 3 (.int .i64 x) (Am.cells ⟨r.k,x,r.c,r.f⟩):= .of rfl rfl (by kernel_rfl) rfl
instance (r:Am) (x:Int):Put (Am.cells r) 2 3 (.int .i64 x) (Am.cells ⟨r.k,r.n,x,r.f⟩):= .of rfl rfl (by kernel_rfl) rfl
instance (r:Am):Part (Am.cells r) 3 25 (aH.cells r.f):= .of (n:=16) rfl Tryz.underlying25 rfl (by kernel_rfl)
instance (r:Am) (x:aH):Put (Am.cells r) 3 25 (.agg (aH.cells x)) (Am.cells ⟨r.k,r.n,r.c,x⟩):= .of rfl rfl (by kernel_rfl) rfl
instance:Ae 63 [] (.agg (Am.cells dG)):=⟨fun _=>by kernel_rfl⟩
instance (x0:Int):Ae 63 [(0, .int .i64 x0)] (.agg (Am.cells ⟨x0,0,0,aaB⟩)):=⟨fun _=>by kernel_rfl⟩
instance (x1:Int):Ae 63 [(1, .int .i64 x1)] (.agg (Am.cells ⟨0,x1,0,aaB⟩)):=⟨fun _=>by kernel_rfl⟩
instance (x0:Int) (x2:Int):Ae 63 [(0, .int .i64 x0),(2, .int .i64 x2)] (.agg (Am.cells ⟨x0,0,x2,aaB⟩)):=⟨fun _=>by kernel_rfl⟩
instance (x0:Int) (x1:Int):Ae 63 [(0, .int .i64 x0),(1, .int .i64 x1)] (.agg (Am.cells ⟨x0,x1,0,aaB⟩)):=⟨fun _=>by kernel_rfl⟩
instance (r q:Am):Ob 63 (Am.cells r) (Am.cells q) (sV r q):=⟨VE r q⟩
instance {f:aH} :Len (textOf f) 1000000:=⟨oH⟩
theorem Nu {c:Int} :dw c=[]↔ ¬(c=0∨c=1∨c=2):=by
 unfold dw
 repeat' split
 all_goals simp_all [wd,uT]
instance {c:Int} :Len (dw c) 6:=⟨Zf c⟩
class SQ (n:Int):Prop where
 lo: -1000000≤n
 hi:n≤1000000
instance {n:Int} [h:SQ n]:Len (Lib.itoa n) 21:=⟨Lib.itoa_length_le n (by have:=h.lo;omega) (by have:=h.hi;omega)⟩
instance:Sub bZ Laid:=⟨fun _ h=>h.base⟩
section
variable {L:World→Prop}
instance (f:aH):mG 31 #[.agg (aH.cells f)] L (.bool (dh f)):=⟨fun w _=>GK f _ (Lib.hid rfl) w⟩
instance (f:aH):mG 43 #[.agg (aH.cells f)] L (.string (B (textOf f))):=⟨fun w _=>ug f w⟩
instance (c:Int):mG 173 #[.int .i64 c] L (.string (B (dw c))):=⟨fun w _=>(Yq c w).mono fun e w' h=>⟨h.1,h.2 ▸ Below.refl _ _⟩⟩
instance (n:Int) [h:SQ n]:mG 65 #[.int .i64 n] L (.string (B (Lib.itoa n))):=⟨fun w _=>qo n w (by have:=h.lo;omega) (by have:=h.hi;omega)⟩
variable [Sub L Laid]
instance (n:Int) [h:SQ n]:mG 63 #[.int .i64 n] L (.string (B (Lib.itoa n))):=⟨fun w hl=>nH n (by have:=h.lo;omega) (by have:=h.hi;omega) w (Sub.sub w hl)⟩
instance (f:aH):mG 26 #[.agg (aH.cells f)] L (.bool (dh f)):=⟨fun w hl=>wF f.zone f.who f.self f.types f.aV f.colors f.aP f.sub f.keys f.dJ f.pk f.pn f.tk f.tn f.vk f.vn w (Sub.sub w hl) _ (Lib.hid rfl)⟩
instance (f:aH):mG 38 #[.agg (aH.cells f)] L (.string (B (textOf f))):=⟨fun w hl=>LQ f.zone f.who f.self f.types f.aV f.colors f.aP f.sub f.keys f.dJ f.pk f.pn f.tk f.tn f.vk f.vn w (Sub.sub w hl)⟩
end
section
variable {L:World→Prop} [Sub L bZ]
instance (c:Int):mG 75 #[.int .i64 c] L (.string (B (dw c))):=⟨fun w hl=>(LG c w (Sub.sub w hl)).mono fun e w' h=>⟨h.1,h.2 ▸ Below.refl _ _⟩⟩
end
end Go.Proofs.YtdicgggkdmkklaaGreatDoor
namespace Go.Proofs.YtdicgggkdmkklaaGreatDoor
open Go.ChangeShapes Go.WideShapes Go.RowKit
class Lit (b:ByteArray) (l:outParam Str):Prop where
 eq:b=B l
instance (l:Str):Lit ⟨l.toArray⟩ l:=⟨rfl⟩
instance (l:Str):Lit (B l) l:=⟨rfl⟩
class jr (s:Str):Prop where
 lt:s.length<100000000
instance {s:Str} {k:Nat} [h:jr s]:jr (s.drop k):=⟨by have:=h.lt;rw [List.length_drop];omega⟩
instance {s:Str} {k:Nat} [h:jr s]:jr (s.take k):=⟨by have:=h.lt;rw [List.length_take];omega⟩
instance {s l:Str} [h:jr s]:jr (Lib.trimPrefix s l):=⟨by unfold Lib.trimPrefix;have:=h.lt;split<;>simp<;>omega⟩
instance {s l:Str} [h:jr s]:jr (Lib.trimSuffix s l):=⟨by unfold Lib.trimSuffix;have:=h.lt;split<;>simp<;>omega⟩
theorem jr.sz (s:Str) [h:jr s]:(B s).size<100000000:=by rw [bC];exact h.lt
def BN (b:Bool):Int:=cond b 0 3
theorem KX (b:Bool):(BN b != 0)= !b:=by cases b<;>rfl
theorem KW (b:Bool):(BN b==0)=b:=by cases b<;>rfl
theorem Dq (s:Str) (a b:Nat):(B s).extract a b=B ((s.take b).drop a):=lC (by rw [dM,cO,cO])
theorem XH (o:Option Int):lM o= .tuple #[.int .i64 (o.getD 0), .bool o.isSome]:=by cases o<;>rfl
theorem WY (o:Option aH):ER o= .tuple #[.agg (aH.cells (o.getD aaB)), .int .i64 (BN o.isSome)]:=by cases o<;>rfl
theorem Q5 {P:Nat→Bool} {k m:Nat} {o:Option Nat} (h:k<m) (hq:P k=false) (ho:o=(List.range' k (m - k)).find? P):o=(List.range' (k+1) (m - (k+1))).find? P:=by
 rw [ho,show m - k=(m - (k+1))+1 by omega,List.range'_succ,List.find?_cons,hq]
theorem NC {P:Nat→Bool} {k m:Nat} {o:Option Nat} (h:k<m) (hq:P k=true) (ho:o=(List.range' k (m - k)).find? P):o=some k:=by
 rw [ho,show m - k=(m - (k+1))+1 by omega,List.range'_succ,List.find?_cons,hq]
theorem BA {w w':World} (h:w=w'):Below w.heap.size w w':=h ▸ Below.refl _ _
section
variable {L':World→Prop}
instance {p:ByteArray} {l:Str} [h:Lit p l] (s:Str):mG 120 #[.string (B s), .string p] L' (.tuple #[.string (B (Lib.trimPrefix s l)), .bool (Lib.hasPrefix s l)]):=⟨fun w _=>(rW (B s) p w l (by rw [h.eq,cO])).mono fun e w' h=>⟨by rw [h.1,cO],BA h.2⟩⟩
instance {p:ByteArray} {l:Str} [h:Lit p l] (s:Str):mG 129 #[.string (B s), .string p] L' (.string (B (Lib.trimPrefix s l))):=⟨fun w _=>(aat (B s) p w l (by rw [h.eq,cO]) _ (Lib.hid rfl)).mono fun e w' h=>⟨by rw [h.1,cO],BA h.2⟩⟩
instance {p:ByteArray} {l:Str} [h:Lit p l] (s:Str) [jr s]:mG 128 #[.string (B s), .string p] L' (.tuple #[.string (B (Lib.trimSuffix s l)), .bool (Lib.hasSuffix s l)]):=⟨fun w _=>(Tryz.strings_CutSuffix (B s) p w (by have:=jr.sz s;omega)).mono fun e w' h'=>⟨by rw [h'.1,show p=B l from h.eq];simp [cO];rfl,BA h'.2.symm⟩⟩
instance {p:ByteArray} {l:Str} [h:Lit p l] (s:Str) [jr s]:mG 194 #[.string (B s), .string p] L' (.string (B (Lib.trimSuffix s l))):=⟨fun w _=>(Tryz.strings_TrimSuffix (B s) p w (by have:=jr.sz s;omega)).mono fun e w' h'=>⟨by rw [h'.1,show p=B l from h.eq];simp [cO];rfl,BA h'.2.symm⟩⟩
variable [Sub L' Laid]
instance (s:Str) [jr s]:mG 208 #[.string (B s)] L' (.tuple #[.int .i64 ((numOf s).getD 0), .bool (numOf s).isSome]):=⟨fun w hl=>(Gv (B s) w (Sub.sub w hl) (by have:=jr.sz s;omega)).mono fun e w' h=>⟨by rw [h.1,cO,XH],h.2⟩⟩
instance (s:Str) [jr s]:mG 123 #[.string (B s)] L' (.tuple #[.agg (aH.cells ((bW s).getD aaB)), .int .i64 (BN (bW s).isSome)]):=⟨fun w hl=>(Jo (B s) w (Sub.sub w hl) (jr.sz s)).mono fun e w' h=>⟨by rw [h.1,cO,WY],h.2⟩⟩
end
end Go.Proofs.YtdicgggkdmkklaaGreatDoor
namespace Go.Proofs.YtdicgggkdmkklaaGreatDoor
open Go.ChangeShapes Go.WideShapes Go.RowKit
def WG (s:ByteArray) (o:Option (Str × Str)):Value:=match o with|some p=> .tuple #[.string (B p.1), .string (B p.2), .bool true]|none=> .tuple #[.string s, .string ⟨#[]⟩, .bool false]
theorem Jp (s p:ByteArray) (w:World) (pl:Str) (hp:L p=pl) (b:Bool) (h:Hid (Lib.hasPrefix (L s) pl=b)):
 Calls Tryz.prog 131 #[.string s, .string p] w fun e w'=>e= .returned (.bool b)∧w=w':=by
 subst hp
 exact (Tryz.strings_HasPrefix s p w).mono fun _ _ h'=>⟨h'.1.trans (by rw [←h.out];rfl),h'.2.symm⟩
theorem ak2 {s:Str} {k d:Nat} (h:k<s.length):nR 42 d (s.drop k)=if d=0∧aI s k=42 then some ([],s.drop (k+1)) else (nR 42 (bP d (aI s k)) (s.drop (k+1))).map fun p=>(s.getD k 0::p.1,p.2):=by
 rw [List.drop_eq_getElem_cons h,nR]
 have e:s[k]=s.getD k 0:=by simp [List.getD,h]
 rw [e];rfl
theorem XV {s:Str} {k:Nat} (h:k<s.length):Lib.hasPrefix (s.drop k) [42]=(aI s k==42):=by
 rw [List.drop_eq_getElem_cons h]
 have e:s[k]=s.getD k 0:=by simp [List.getD,h]
 rw [e]
 unfold Lib.hasPrefix aI
 rw [Bool.eq_iff_iff]
 simp [List.isPrefixOf]
 exact ⟨fun e=>by rw [←e];rfl,fun e=>(UInt8.toNat_inj.1 e).symm⟩
theorem take_one {s:Str} {k:Nat} (h:k<s.length) (l:Str):s.take k++(s.getD k 0::l)=s.take (k+1)++l:=by
 rw [List.take_succ_eq_append_getElem h,List.append_assoc]
 simp [List.getD,h]
theorem map_take {s:Str} {k:Nat} (h:k<s.length) (o:Option (Str × Str)):((o.map fun p=>(s.getD k 0::p.1,p.2)).map fun p=>(s.take k++p.1,p.2))=o.map fun p=>(s.take (k+1)++p.1,p.2):=by
 cases o with
 |none=>rfl
 |some p=>simp only [Option.map_some];rw [take_one h]
theorem ajB (s:ByteArray) (w:World) (hs:s.size<100000000):
 Calls Tryz.prog 125 #[.string s, .string ⟨#[42]⟩] w fun e w'=>e= .returned (WG s (nR 42 0 (L s)))∧Below w.heap.size w w':=by
 have hg:=jm s
 have HL:=Lib.hid (dN s)
 obtain ⟨R,hR⟩:∃R,nR 42 0 (L s)=R:=⟨_,rfl⟩
 rw [hR]
 have HR:=Lib.hid hR
 clear hR
 go_enter Tryz.func125,Tryz.ntmps125
 go_wp2
 go_loop [7,8] (fun dv kv=>∃k d:Nat,k≤s.size∧d≤k∧kv= .int .i64 k∧dv= .int .i64 d∧Hid (R=(nR 42 d ((L s).drop k)).map fun p=>((L s).take k++p.1,p.2))) (fun _ kv=>s.size - (intOf kv).toNat)
 case atStart=>exact ⟨0,0,by omega,by omega,rfl,rfl,Lib.hid (by rw [←HR.out];simp)⟩
 case round=>
  obtain ⟨k,d,hk,hd,rfl,rfl,HD⟩:=hrel
  by_cases hlt:k<s.size
  ·have hkl:k<(L s).length:=by rw [HL.out];exact hlt
   have hst:=HD.out
   rw [ak2 hkl] at hst
   have hX:L (s.extract k s.size)=(L s).drop k:=by rw [dM,List.take_of_length_le (by rw [HL.out];exact Nat.le_refl _)]
   by_cases h0:d=0
   ·subst h0
    by_cases h42:aI (L s) k=42
    ·rw [if_pos ⟨rfl,h42⟩] at hst
     have HP:Hid (Lib.hasPrefix (L (s.extract k s.size)) [42]=true):=Lib.hid (by rw [hX,XV hkl,h42];rfl)
     have HN:Hid (R=some ((L s).take k,(L s).drop (k+1))):=Lib.hid (by rw [hst];simp)
     have E1:Hid (s.extract 0 k=B ((L s).take k)):=Lib.hid (lC (by rw [dM,cO];rfl))
     have E2:Hid (s.extract (k+1) s.size=B ((L s).drop (k+1))):=Lib.hid (lC (by rw [dM,cO,List.take_of_length_le (by rw [HL.out];exact Nat.le_refl _)]))
     have EV:Hid (WG s R= .tuple #[.string (s.extract 0 k), .string (s.extract (k+1) s.size), .bool true]):=Lib.hid (by rw [HN.out,E1.out,E2.out];rfl)
     have hkI:(0:Int)≤(k:Int):=by omega
     have hkS:(k:Int)≤(s.size:Int):=by omega
     have hk1:(k:Int)+1≤(s.size:Int):=by omega
     have hkw:IntKind.i64.wrap ((k:Int)+1)=(k:Int)+1:=BZ _ (by omega) (by omega)
     have hk0:(0:Int)≤(k:Int)+1:=by omega
     clear hst hX h42
     go_wp2_with (go_at_call 131;(with_reducible refine (Jp _ _ _ [42] rfl true HP).mono ?_);rintro e w1 ⟨rfl,rfl⟩)
     go_region_held3 (fun w'=>Below w.heap.size w w') (first|exact (Below.refl _ _).drew|assumption) (fail)
     all_goals
      go_wp2
      go_ret3
      exact ⟨by rw [EV.out];rfl,(Below.refl _ _).drew⟩
    ·rw [if_neg (fun h=>h42 h.2)] at hst
     have HP:Hid (Lib.hasPrefix (L (s.extract k s.size)) [42]=false):=Lib.hid (by rw [hX,XV hkl,beq_eq_false_iff_ne];exact h42)
     have HN:Hid (R=(nR 42 (bP 0 (aI (L s) k)) ((L s).drop (k+1))).map fun p=>((L s).take (k+1)++p.1,p.2)):=Lib.hid (by rw [hst,map_take hkl])
     have hdn:bP 0 (aI (L s) k)≤k+1:=Nat.le_trans (FU _ _) (by omega)
     clear hst hX h42
     generalize hdd:bP 0 (aI (L s) k)=dd at *
     have HDD:=Lib.hid hdd
     clear hdd
     go_wp2_with (first|(go_at_call 131;(with_reducible refine (Jp _ _ _ [42] rfl false HP).mono ?_);rintro e w1 ⟨rfl,rfl⟩)|(go_at_call 201;(refine (Ai 0 _ (by omega) _).mono ?_);rw [HDD.out];rintro e w1 ⟨rfl,rfl⟩))
     go_round
     case rel=>exact ⟨k+1,dd,by omega,hdn,by go_num,rfl,HN⟩
     case measure=>simp [intOf];omega
   ·have t0:((d:Int)==0)=false:=by rw [beq_eq_false_iff_ne];omega
    rw [if_neg (fun h=>h0 h.1)] at hst
    have HN:Hid (R=(nR 42 (bP d (aI (L s) k)) ((L s).drop (k+1))).map fun p=>((L s).take (k+1)++p.1,p.2)):=Lib.hid (by rw [hst,map_take hkl])
    have hdn:bP d (aI (L s) k)≤k+1:=Nat.le_trans (FU _ _) (by omega)
    clear hst hX h0
    generalize hdd:bP d (aI (L s) k)=dd at *
    have HDD:=Lib.hid hdd
    clear hdd
    go_wp2_with (first|(go_at_call 201;(with_reducible refine (Ai d _ (by omega) _).mono ?_);rw [HDD.out];rintro e w1 ⟨rfl,rfl⟩))
    go_round
    case rel=>exact ⟨k+1,dd,by omega,hdn,by go_num,rfl,HN⟩
    case measure=>simp [intOf];omega
  ·obtain rfl:k=s.size:=by omega
   have HN:Hid (none=R):=Lib.hid (by rw [HD.out,List.drop_of_length_le (by rw [HL.out];exact Nat.le_refl _)];rfl)
   go_wp2
   go_ret3
   exact ⟨ret_val (by rw [←HN.out];rfl),Below.refl _ _⟩
end Go.Proofs.YtdicgggkdmkklaaGreatDoor
namespace Go.Proofs.YtdicgggkdmkklaaGreatDoor
attribute [local irreducible] wpList Code.wp Calls
open Go.ChangeShapes Go.WideShapes Go.RowKit
section
variable {L:World→Prop} {w0 w:World} {rows:List Row} {ops:Array Oper} {rest:List Oper} {o:Oper} {a:Act} {Q:Exit→Act→World→Prop}
theorem xZ {T:Nat} {x y:Operand} (ho:o.op= .store T x y) (hS:St L w0 rows w) (hw:Region.wanted o (yielded ops a.tmps)=true) {g off:Nat} (hx:a.eval x= .pointer (some ⟨g,off,none⟩)) {v:Value} (hy:a.eval y=v)
 {cs new:Array Value} {T':Nat} {rows'} (hm:jq g cs new T' rows rows') (hfit:off+v.cells.size≤cs.size)
 (hnew:cs.toList.take off++v.cells.toList++cs.toList.drop (off+v.cells.size)=new.toList) (hi:(Tryz.prog.info? T).map (·.size)=some v.cells.size) (h1:v.cells.all (·.oneCell')=true)
 (h:St L w0 rows' (w.setRow g new)→wpList Tryz.prog ops Q rest (a.put o.dst undef) (w.setRow g new)):wpList Tryz.prog ops Q (o::rest) a w:=
 jc hw fun K hK=>by
  have hst:=run_storeCells_at Tryz.prog g off T' v.cells.toList 0 cs w (hS.has _ hm.mem).1 (by simpa using hfit) (fun u hu=>(Array.all_eq_true_iff_forall_mem.1 h1) u (by simpa using hu))
  have e:(cs.toList.take (off+0)++v.cells.toList++cs.toList.drop (off+0+v.cells.toList.length)).toArray=new:=by
   rw [Nat.add_zero,Array.length_toList,hnew]
  rw [e] at hst
  have hs:(storeVar T ⟨g,off,none⟩ v).run Tryz.prog w= .ok () (w.setRow g new):=by
   cases hq:Tryz.prog.info? T with
   |none=>simp [hq] at hi
   |some i=>
    have hs:v.cells.size=i.size:=by simp [hq] at hi;omega
    simp [storeVar,sizeOf,typeInfo,hq,hs,hst]
  unfold Oper.wp execOp
  simp only [ho,hx,hy,Instr.storeAt,Instr.sureAddr,Sem.run_bind,Sem.run_pure,Result.andThen_ok,hs]
  exact hK _ _ (h (hS.set hm))
theorem nN {T:Nat} {x:Operand} (ho:o.op= .load T x) (hw:Region.wanted o (yielded ops a.tmps)=true) {p:Addr} (hx:a.eval x= .pointer (some p)) (hT:∃d,Tryz.prog.underlying T=some d∧d.isRow=false) {v:Value} (hc:w.cell? p=some v)
 (h:wpList Tryz.prog ops Q rest (a.put o.dst v) w):wpList Tryz.prog ops Q (o::rest) a w:=
 jc hw fun K hK=>by
  obtain ⟨d,hu,hd⟩:=hT
  have hagg:(isAgg T).run Tryz.prog w= .ok false w:=by
   unfold isAgg
   rw [Sem.run_bind,run_underlying hu w]
   cases d<;>simp_all
  have hl:(loadVar T p).run Tryz.prog w= .ok v w:=by simp [loadVar,Sem.run_bind,hagg,hc]
  unfold Oper.wp execOp
  simp only [ho,hx,Instr.loadAt,Instr.sureAddr,Sem.run_bind,Sem.run_pure,Result.andThen_ok,hl]
  exact hK _ _ h
end
section
variable {L:World→Prop} {w0 w:World} {rows:List Row} {ops:Array Oper} {rest:List Oper} {o:Oper} {a:Act} {Q:Exit→Act→World→Prop}
theorem ahI {x y:Operand} (ho:o.op= .store 3 x y) (hS:St L w0 rows w) (hw:Region.wanted o (yielded ops a.tmps)=true) {g:Nat} (hx:a.eval x= .pointer (some ⟨g,2,none⟩)) {v:Int} (hy:a.eval y= .int .i64 v) {r:Co} {T':Nat} {rows':List Row} (hm:jq g (Co.cells r) (Co.cells ⟨r.g,r.x,v,r.c1,r.c2,r.c3,r.c4⟩) T' rows rows') (h:St L w0 rows' (w.setRow g (Co.cells ⟨r.g,r.x,v,r.c1,r.c2,r.c3,r.c4⟩))→wpList Tryz.prog ops Q rest (a.put o.dst undef) (w.setRow g (Co.cells ⟨r.g,r.x,v,r.c1,r.c2,r.c3,r.c4⟩))):wpList Tryz.prog ops Q (o::rest) a w:=
 xZ ho hS hw hx hy hm (Nat.le_of_ble_eq_true rfl) (Wx r v) gI (by simp [Value.cells,Value.oneCell']) h
theorem ahJ {x y:Operand} (ho:o.op= .store 3 x y) (hS:St L w0 rows w) (hw:Region.wanted o (yielded ops a.tmps)=true) {g:Nat} (hx:a.eval x= .pointer (some ⟨g,3,none⟩)) {v:Int} (hy:a.eval y= .int .i64 v) {r:Co} {T':Nat} {rows':List Row} (hm:jq g (Co.cells r) (Co.cells ⟨r.g,r.x,r.c0,v,r.c2,r.c3,r.c4⟩) T' rows rows') (h:St L w0 rows' (w.setRow g (Co.cells ⟨r.g,r.x,r.c0,v,r.c2,r.c3,r.c4⟩))→wpList Tryz.prog ops Q rest (a.put o.dst undef) (w.setRow g (Co.cells ⟨r.g,r.x,r.c0,v,r.c2,r.c3,r.c4⟩))):wpList Tryz.prog ops Q (o::rest) a w:=
 xZ ho hS hw hx hy hm (Nat.le_of_ble_eq_true rfl) (Wy r v) gI (by simp [Value.cells,Value.oneCell']) h
theorem ahK {x y:Operand} (ho:o.op= .store 3 x y) (hS:St L w0 rows w) (hw:Region.wanted o (yielded ops a.tmps)=true) {g:Nat} (hx:a.eval x= .pointer (some ⟨g,4,none⟩)) {v:Int} (hy:a.eval y= .int .i64 v) {r:Co} {T':Nat} {rows':List Row} (hm:jq g (Co.cells r) (Co.cells ⟨r.g,r.x,r.c0,r.c1,v,r.c3,r.c4⟩) T' rows rows') (h:St L w0 rows' (w.setRow g (Co.cells ⟨r.g,r.x,r.c0,r.c1,v,r.c3,r.c4⟩))→wpList Tryz.prog ops Q rest (a.put o.dst undef) (w.setRow g (Co.cells ⟨r.g,r.x,r.c0,r.c1,v,r.c3,r.c4⟩))):wpList Tryz.prog ops Q (o::rest) a w:=
 xZ ho hS hw hx hy hm (Nat.le_of_ble_eq_true rfl) (WA r v) gI (by simp [Value.cells,Value.oneCell']) h
theorem ahL {x y:Operand} (ho:o.op= .store 3 x y) (hS:St L w0 rows w) (hw:Region.wanted o (yielded ops a.tmps)=true) {g:Nat} (hx:a.eval x= .pointer (some ⟨g,5,none⟩)) {v:Int} (hy:a.eval y= .int .i64 v) {r:Co} {T':Nat} {rows':List Row} (hm:jq g (Co.cells r) (Co.cells ⟨r.g,r.x,r.c0,r.c1,r.c2,v,r.c4⟩) T' rows rows') (h:St L w0 rows' (w.setRow g (Co.cells ⟨r.g,r.x,r.c0,r.c1,r.c2,v,r.c4⟩))→wpList Tryz.prog ops Q rest (a.put o.dst undef) (w.setRow g (Co.cells ⟨r.g,r.x,r.c0,r.c1,r.c2,v,r.c4⟩))):wpList Tryz.prog ops Q (o::rest) a w:=
 xZ ho hS hw hx hy hm (Nat.le_of_ble_eq_true rfl) (WB r v) gI (by simp [Value.cells,Value.oneCell']) h
theorem ahM {x y:Operand} (ho:o.op= .store 3 x y) (hS:St L w0 rows w) (hw:Region.wanted o (yielded ops a.tmps)=true) {g:Nat} (hx:a.eval x= .pointer (some ⟨g,6,none⟩)) {v:Int} (hy:a.eval y= .int .i64 v) {r:Co} {T':Nat} {rows':List Row} (hm:jq g (Co.cells r) (Co.cells ⟨r.g,r.x,r.c0,r.c1,r.c2,r.c3,v⟩) T' rows rows') (h:St L w0 rows' (w.setRow g (Co.cells ⟨r.g,r.x,r.c0,r.c1,r.c2,r.c3,v⟩))→wpList Tryz.prog ops Q rest (a.put o.dst undef) (w.setRow g (Co.cells ⟨r.g,r.x,r.c0,r.c1,r.c2,r.c3,v⟩))):wpList Tryz.prog ops Q (o::rest) a w:=
 xZ ho hS hw hx hy hm (Nat.le_of_ble_eq_true rfl) (WC r v) gI (by simp [Value.cells,Value.oneCell']) h
end
theorem Le:∃d,Tryz.prog.underlying 5=some d∧d.isRow=false:=⟨_,Tryz.underlying5,rfl⟩
theorem ajW:∀(s:Str) (k:Nat),k<(s.takeWhile Ag).length→s.drop k=88::s.drop (k+1)
 |[],k,h=>by simp at h
 |b::s,k,h=>by
  rw [List.takeWhile_cons] at h
  split at h
  ·rename_i hb
   cases k with
   |zero=>simp only [Ag,beq_iff_eq] at hb;simp [hb]
   |succ k=>simpa using ajW s k (by simpa using h)
  ·simp at h
theorem ajV:∀s:Str,s.drop (s.takeWhile Ag).length=zG s
 |[]=>rfl
 |b::s=>by
  unfold zG
  rw [List.takeWhile_cons,List.dropWhile_cons]
  split
  ·simpa [zG] using ajV s
  ·rfl
theorem aqF (s:Str):Lib.hasPrefix (zG s) [88]=false:=by
 have:∀s:Str,Lib.hasPrefix (s.dropWhile Ag) [88]=false:=by
  intro s
  induction s with
  |nil=>rfl
  |cons b s ih=>
   rw [List.dropWhile_cons]
   split
   ·exact ih
   ·rename_i hb
    simp only [Ag,beq_iff_eq] at hb
    cases hp:Lib.hasPrefix (b::s) [88] with
    |false=>rfl
    |true=>
     simp [Lib.hasPrefix] at hp
     exact absurd hp.symm hb
 exact this s
theorem ail (s:Str):Lib.hasPrefix (88::s) [88]=true:=by simp [Lib.hasPrefix]
theorem aj9:∀s:Str,s.take (s.takeWhile jD).length=s.takeWhile jD∧s.drop (s.takeWhile jD).length=s.dropWhile jD
 |[]=>⟨rfl,rfl⟩
 |b::s=>by
  rw [List.takeWhile_cons,List.dropWhile_cons]
  split
  ·simpa using aj9 s
  ·exact ⟨rfl,rfl⟩
theorem aiv {b:UInt8} (h:isLet b=false):Lib.indexByte o9 b= -1:=by
 have hc:=Ih b
 have:o9.contains b=isLet b:=by unfold isLet;rw [Bool.eq_iff_iff];simp [o9,List.contains_cons]
 rw [this,h] at hc
 have:=Lib.indexByte_ge o9 b
 simp at hc
 omega
theorem aa6 (s:ByteArray) (b:Bool) (h:Hid (Lib.hasPrefix (L s) [88]=b)) (w:World):Calls Tryz.prog 131 #[.string s, .string ⟨#[88]⟩] w fun e w'=>e= .returned (.bool b)∧w=w':=Jp s ⟨#[88]⟩ w [88] rfl b h
theorem yB (b:UInt8) (i:Int) (h:Hid (Lib.indexByte o9 b=i)) (w:World):Calls Tryz.prog 205 #[.string ⟨#[65,67,74,82,69]⟩, .int .u8 (b.toNat:Int)] w fun e w'=>e= .returned (.int .i64 i)∧w=w':=
 (pV Gp b w).mono fun _ _ h'=>⟨h'.1.trans (by rw [←h.out];rfl),h'.2⟩
theorem alF (w:World):Calls Tryz.prog 205 #[.string ⟨#[65,67,74,82,69]⟩, .int .u8 65] w fun e w'=>e= .returned (.int .i64 0)∧w=w':=yB 65 0 (Lib.hid (by decide)) w
theorem alG (w:World):Calls Tryz.prog 205 #[.string ⟨#[65,67,74,82,69]⟩, .int .u8 67] w fun e w'=>e= .returned (.int .i64 1)∧w=w':=yB 67 1 (Lib.hid (by decide)) w
theorem alH (w:World):Calls Tryz.prog 205 #[.string ⟨#[65,67,74,82,69]⟩, .int .u8 74] w fun e w'=>e= .returned (.int .i64 2)∧w=w':=yB 74 2 (Lib.hid (by decide)) w
theorem alI (w:World):Calls Tryz.prog 205 #[.string ⟨#[65,67,74,82,69]⟩, .int .u8 82] w fun e w'=>e= .returned (.int .i64 3)∧w=w':=yB 82 3 (Lib.hid (by decide)) w
theorem alJ (w:World):Calls Tryz.prog 205 #[.string ⟨#[65,67,74,82,69]⟩, .int .u8 69] w fun e w'=>e= .returned (.int .i64 4)∧w=w':=yB 69 4 (Lib.hid (by decide)) w
def ajT (o:Option Co):Value:=match o with|some c=> .tuple #[.agg c.cells, .int .i64 0]|none=> .tuple #[.agg dQ.cells, .int .i64 3]
theorem cell_setRow_other (w:World) (g:Nat) (new:Array Value) (D i:Nat) (h:D≠g):(w.setRow g new).cell? ⟨D,i,none⟩=w.cell? ⟨D,i,none⟩:=by
 simp [World.cell?,setRow_other w g D new h]
def akv:Value→Nat| .string b=>b.size|_=>0
theorem Ja (s:Str) (hs:s.length<100000000) (w0:World) (hl:Laid w0) (R:Option Co) (HR:Hid (kX s=R)):Calls Tryz.prog 209 #[.string (B s)] w0 fun e w'=>e= .returned (ajT R)∧Below w0.heap.size w0 w':=by
 have hS:=St.start hl bJ
 obtain ⟨N,hN⟩:∃N,(s.takeWhile Ag).length=N:=⟨_,rfl⟩
 have hNs:N≤s.length:=by rw [←hN];exact (List.takeWhile_prefix _).length_le
 have HN:=Lib.hid hN
 clear hN
 go_enter Tryz.func209,Tryz.ntmps209
 go_wp2_with (first|((with_reducible refine aW ?_);(first|(refine aJ 29 rfl hS rfl _ nM ?_;intro g w hS));(try simp only [ah,ak,au,ay,aA])))
 rename_i g2 wq hSq K1 hK1
 clear hSq
 generalize g=g4 at *
 go_loopw [5] (fun rv wr=>∃k:Nat,k≤N∧rv= .string (B (s.drop k))∧Hid (St Laid w0 [(g4,Co.cells ⟨0,k,0,0,0,0,0⟩,29),(g2,dQ.cells,29)] wr)) (fun rv _=>akv rv)
 case atStart=>exact ⟨0,by omega,by simp,Lib.hid hS⟩
 case round=>
  clear hS
  obtain ⟨k,hk,rfl,HS⟩:=hrel
  have hS:=HS.out
  clear HS
  by_cases hlt:k<N
  ·have hd:=ajW s k (by rw [HN.out];exact hlt)
   obtain ⟨X,hX⟩:∃X,B (s.drop k)=X:=⟨_,rfl⟩
   have HP:Hid (Lib.hasPrefix (L X) [88]=true):=Lib.hid (by rw [←hX,cO,hd];exact ail _)
   have hsz:X.size=s.length - k:=by rw [←hX,bC,List.length_drop]
   have E1:Hid (X.extract 1 X.size=B (s.drop (k+1))):=Lib.hid (lC (by
    rw [dM,cO,←hX,cO,bC,List.take_of_length_le (Nat.le_refl _),List.drop_drop]))
   have h1:1≤X.size:=by omega
   rw [hX]
   clear hd hX
   go_wp2_with (first|(go_at_call 131;(with_reducible refine (St.still hS fun hl=>aa6 _ _ HP _).mono ?_);rintro e w ⟨rfl,hS⟩)|((with_reducible refine aC ?_);(first|(refine AY rfl hS rfl rfl (by repeat constructor) ?_));(try simp only [ah,ak,au,ay,aA]))|((with_reducible refine aN ?_);(first|(refine akT rfl hS rfl rfl rfl (by repeat constructor) ?_;intro w hS));(try simp only [ah,ak,au,ay,aA])))
   go_roundw
   case rel=>exact ⟨k+1,by omega,by rw [←hsz,E1.out],Lib.hid (by push_cast;exact hS)⟩
   case measure=>simp [akv];omega
  ·obtain rfl:k=N:=by omega
   have hd:=ajV s
   rw [HN.out] at hd
   obtain ⟨X,hX⟩:∃X,zG s=X:=⟨_,rfl⟩
   have HX:=Lib.hid hX
   have HP:Hid (Lib.hasPrefix (L (B X)) [88]=false):=Lib.hid (by rw [cO,←hX];exact aqF s)
   have hXl:X.length≤s.length:=by rw [←hX,←hd,List.length_drop];omega
   rw [hd,hX]
   clear hd hX
   obtain ⟨M,hM⟩:∃M,(X.takeWhile jD).length=M:=⟨_,rfl⟩
   have hMX:M≤X.length:=by rw [←hM];exact (List.takeWhile_prefix _).length_le
   obtain ⟨m1,m2⟩:=aj9 X
   rw [hM] at m1 m2
   have hbz:(B X).size=X.length:=bC X
   have E2:(B X).extract 0 M=B (X.takeWhile jD):=lC (by rw [dM,cO,cO,List.drop_zero,m1])
   have E3:(B X).extract M X.length=B (X.dropWhile jD):=lC (by rw [dM,cO,cO,List.take_of_length_le (Nat.le_refl _),m2])
   have hidx:∀w,Laid w→Calls Tryz.prog 261 #[.string (B (X++[65])), .string ⟨#[65,67,74,82,69]⟩] w fun e w'=>e= .returned (.int .i64 (M:Int))∧Below w.heap.size w w':=fun w hl=>hM ▸ ZC X w hl (by omega)
   obtain ⟨G,hG⟩:∃G:Int,(numOf (X.takeWhile jD)).getD 0=G:=⟨_,rfl⟩
   obtain ⟨gb,hgb⟩:∃b,(numOf (X.takeWhile jD)).isSome=b:=⟨_,rfl⟩
   have hnum:∀w,Laid w→Calls Tryz.prog 208 #[.string (B (X.takeWhile jD))] w fun e w'=>e= .returned (.tuple #[.int .i64 G, .bool gb])∧Below w.heap.size w w':=fun w hl=>hG ▸ hgb ▸ XF (X.takeWhile jD) (by have:=(List.takeWhile_prefix jD (l:=X)).length_le;omega) w hl
   have HG:=Lib.hid hG
   obtain ⟨A,hA⟩:∃A,X.dropWhile jD=A:=⟨_,rfl⟩
   obtain ⟨Y,hY⟩:∃Y,X.takeWhile jD=Y:=⟨_,rfl⟩
   have HA:=Lib.hid (show tq s=A by unfold tq;rw [HX.out,hA])
   have HM:Hid (I4 s=Y):=Lib.hid (by unfold I4;rw [HX.out,hY])
   have hAl:A.length≤X.length:=by rw [←hA];exact (List.dropWhile_suffix _).length_le
   rw [hA] at E3
   rw [hY] at E2 hnum HG
   clear hgb hG hA hY hM m1 m2
   have hc2:=fun wx=>Lib.run_convert_string_bytes (P:=Tryz.prog) wx 9 167 5 (B A) Tryz.underlying9 Tryz.underlying167 Tryz.underlying5
   go_wp2_with (first|(go_at_call 131;(with_reducible refine (St.still hS fun hl=>aa6 _ _ HP _).mono ?_);rintro e w ⟨rfl,hS⟩)|(go_at_call 261;(with_reducible refine (St.call hS fun hl=>hidx _ hl).mono ?_);rintro e w ⟨rfl,hS⟩)|(go_at_call 208;(with_reducible refine (St.call hS fun hl=>hnum _ hl).mono ?_);rintro e w ⟨rfl,hS⟩)|((with_reducible refine jT ?_);(first|(refine eG rfl rfl rfl rfl (by first|(simp only [List.length_append,List.length_cons,List.length_nil];omega)|fail) ?_));(try simp only [ah,ak,au,ay,aA]))|((with_reducible refine aN ?_);(first|(refine akS rfl hS rfl rfl rfl (by repeat constructor) ?_;intro w hS));(try simp only [ah,ak,au,ay,aA])))
   have hb:=bytesWorld_below w 5 (B A)
   have hcell:=fun (j:Nat) (hj:j<A.length)=>Ig w 5 (B A) j (by rw [bC];exact hj)
   rw [cO] at hcell
   have hgD:w.heap.size≠g4:=by
    have:=(Array.getElem?_eq_some_iff.1 (hS.row .head)).1;omega
   have hS2:=hS.mono hb
   clear hc2 hb hS E2 E3 hnum hidx
   generalize grownCap w A.length 0 5=cap
   generalize Lib.bytesWorld w 5 (B A)=W at *
   generalize w.heap.size=D at *
   go_loopw [35] (fun iv wr=>∃j:Nat,j≤A.length∧iv= .int .i64 j∧Hid ((A.take j).all isLet=true)∧Hid (St Laid w0 [(g4,Co.cells ⟨G,k,((A.take j).count 65:Nat),((A.take j).count 67:Nat),((A.take j).count 74:Nat),((A.take j).count 82:Nat),((A.take j).count 69:Nat)⟩,29),(g2,dQ.cells,29)] wr)∧Hid (∀i,i<A.length→wr.cell? ⟨D,i,none⟩=some (.int .u8 (aI A i:Nat)))) (fun iv _=>A.length - (intOf iv).toNat)
   case atStart=>exact ⟨0,by omega,rfl,Lib.hid rfl,Lib.hid hS2,Lib.hid hcell⟩
   case round=>
    clear hS2 hcell
    obtain ⟨j,hj,rfl,Np,HS,HB⟩:=hrel
    have hS:=HS.out
    clear HS
    by_cases hlt:j<A.length
    ·obtain ⟨b,hbj⟩:∃b,A[j]? =some b:=⟨A[j],List.getElem?_eq_getElem hlt⟩
     have hbt:aI A j=b.toNat:=by
      unfold aI;rw [List.getD_eq_getElem?_getD,hbj];rfl
     have HC:=Lib.hid (HB.out j hlt)
     rw [hbt] at HC
     have HT:Hid (A.take (j+1)=A.take j++[b]):=Lib.hid (by rw [List.take_succ,hbj];rfl)
     have hle:(A.take j).length≤100000000:=by rw [List.length_take];omega
     obtain ⟨n0,h0⟩:∃n,(A.take j).count 65=n:=⟨_,rfl⟩
     obtain ⟨n1,h1⟩:∃n,(A.take j).count 67=n:=⟨_,rfl⟩
     obtain ⟨n2,h2⟩:∃n,(A.take j).count 74=n:=⟨_,rfl⟩
     obtain ⟨n3,h3⟩:∃n,(A.take j).count 82=n:=⟨_,rfl⟩
     obtain ⟨n4,h4⟩:∃n,(A.take j).count 69=n:=⟨_,rfl⟩
     rw [h0,h1,h2,h3,h4] at hS
     have b0:n0≤100000000:=by rw [←h0];exact Nat.le_trans List.count_le_length hle
     have b1:n1≤100000000:=by rw [←h1];exact Nat.le_trans List.count_le_length hle
     have b2:n2≤100000000:=by rw [←h2];exact Nat.le_trans List.count_le_length hle
     have b3:n3≤100000000:=by rw [←h3];exact Nat.le_trans List.count_le_length hle
     have b4:n4≤100000000:=by rw [←h4];exact Nat.le_trans List.count_le_length hle
     have H0:=Lib.hid h0
     have H1:=Lib.hid h1
     have H2:=Lib.hid h2
     have H3:=Lib.hid h3
     have H4:=Lib.hid h4
     clear h0 h1 h2 h3 h4 hbt
     cases hlb:isLet b with
     |false=>
      have HI:=Lib.hid (aiv hlb)
      have HE:Hid (R=none):=Lib.hid (by
       rw [←HR.out];unfold kX;rw [if_neg]
       rintro ⟨_,ha,_⟩
       rw [HA.out] at ha
       have:=List.all_eq_true.1 ha b (List.mem_of_getElem? hbj)
       rw [hlb] at this;cases this)
      have he:=HE.out
      subst he
      clear hbj hlb
      go_wp2_with (first|((with_reducible refine aC ?_);refine nN rfl rfl rfl Le HC.out ?_;(try simp only [ah,ak,au,ay,aA]))|(go_at_call 205;(with_reducible refine (yB _ _ HI _).mono ?_);rintro e w ⟨rfl,rfl⟩)|((with_reducible refine oq ?_);refine rF rfl ?_;(try simp only [ah,ak,au,ay,aA]))|((with_reducible refine aN ?_);(first|(refine kG rfl hS rfl rfl rfl (by repeat constructor) ?_;intro w hS));(try simp only [ah,ak,au,ay,aA])))
      all_goals (refine qB hS rfl rfl (by repeat constructor) rfl rfl (fun hb=>⟨rfl,hb⟩))
     |true=>
      clear hbj
      unfold isLet at hlb
      simp only [Bool.or_eq_true,beq_iff_eq] at hlb
      rcases hlb with rfl|rfl|rfl|rfl|rfl
      ·
       go_wp2_with (first|((with_reducible refine aC ?_);refine nN rfl rfl rfl Le HC.out ?_;(try simp only [ah,ak,au,ay,aA]))|(go_at_call 205;(with_reducible refine (alF _).mono ?_);rintro e w ⟨rfl,rfl⟩)|((with_reducible refine aN ?_);refine ahI rfl hS rfl rfl rfl .head ?_;intro hS)|((with_reducible refine aC ?_);(first|(refine QM rfl hS rfl rfl (by repeat constructor) ?_));(try simp only [ah,ak,au,ay,aA])))
       go_roundw
       case rel=>exact ⟨j+1,by omega,by go_num,Lib.hid (by rw [HT.out,List.all_append,Np.out];rfl),Lib.hid (by rw [HT.out];simpa [List.count_append,H0.out,H1.out,H2.out,H3.out,H4.out] using hS),Lib.hid (fun i hi=>(cell_setRow_other _ _ _ _ _ hgD).trans (HB.out i hi))⟩
       case measure=>simp [intOf];omega
      ·
       go_wp2_with (first|((with_reducible refine aC ?_);refine nN rfl rfl rfl Le HC.out ?_;(try simp only [ah,ak,au,ay,aA]))|(go_at_call 205;(with_reducible refine (alG _).mono ?_);rintro e w ⟨rfl,rfl⟩)|((with_reducible refine aN ?_);refine ahJ rfl hS rfl rfl rfl .head ?_;intro hS)|((with_reducible refine aC ?_);(first|(refine QN rfl hS rfl rfl (by repeat constructor) ?_));(try simp only [ah,ak,au,ay,aA])))
       go_roundw
       case rel=>exact ⟨j+1,by omega,by go_num,Lib.hid (by rw [HT.out,List.all_append,Np.out];rfl),Lib.hid (by rw [HT.out];simpa [List.count_append,H0.out,H1.out,H2.out,H3.out,H4.out] using hS),Lib.hid (fun i hi=>(cell_setRow_other _ _ _ _ _ hgD).trans (HB.out i hi))⟩
       case measure=>simp [intOf];omega
      ·
       go_wp2_with (first|((with_reducible refine aC ?_);refine nN rfl rfl rfl Le HC.out ?_;(try simp only [ah,ak,au,ay,aA]))|(go_at_call 205;(with_reducible refine (alH _).mono ?_);rintro e w ⟨rfl,rfl⟩)|((with_reducible refine aN ?_);refine ahK rfl hS rfl rfl rfl .head ?_;intro hS)|((with_reducible refine aC ?_);(first|(refine QO rfl hS rfl rfl (by repeat constructor) ?_));(try simp only [ah,ak,au,ay,aA])))
       go_roundw
       case rel=>exact ⟨j+1,by omega,by go_num,Lib.hid (by rw [HT.out,List.all_append,Np.out];rfl),Lib.hid (by rw [HT.out];simpa [List.count_append,H0.out,H1.out,H2.out,H3.out,H4.out] using hS),Lib.hid (fun i hi=>(cell_setRow_other _ _ _ _ _ hgD).trans (HB.out i hi))⟩
       case measure=>simp [intOf];omega
      ·
       go_wp2_with (first|((with_reducible refine aC ?_);refine nN rfl rfl rfl Le HC.out ?_;(try simp only [ah,ak,au,ay,aA]))|(go_at_call 205;(with_reducible refine (alI _).mono ?_);rintro e w ⟨rfl,rfl⟩)|((with_reducible refine aN ?_);refine ahL rfl hS rfl rfl rfl .head ?_;intro hS)|((with_reducible refine aC ?_);(first|(refine QS rfl hS rfl rfl (by repeat constructor) ?_));(try simp only [ah,ak,au,ay,aA])))
       go_roundw
       case rel=>exact ⟨j+1,by omega,by go_num,Lib.hid (by rw [HT.out,List.all_append,Np.out];rfl),Lib.hid (by rw [HT.out];simpa [List.count_append,H0.out,H1.out,H2.out,H3.out,H4.out] using hS),Lib.hid (fun i hi=>(cell_setRow_other _ _ _ _ _ hgD).trans (HB.out i hi))⟩
       case measure=>simp [intOf];omega
      ·
       go_wp2_with (first|((with_reducible refine aC ?_);refine nN rfl rfl rfl Le HC.out ?_;(try simp only [ah,ak,au,ay,aA]))|(go_at_call 205;(with_reducible refine (alJ _).mono ?_);rintro e w ⟨rfl,rfl⟩)|((with_reducible refine aN ?_);refine ahM rfl hS rfl rfl rfl .head ?_;intro hS)|((with_reducible refine aC ?_);(first|(refine QT rfl hS rfl rfl (by repeat constructor) ?_));(try simp only [ah,ak,au,ay,aA])))
       go_roundw
       case rel=>exact ⟨j+1,by omega,by go_num,Lib.hid (by rw [HT.out,List.all_append,Np.out];rfl),Lib.hid (by rw [HT.out];simpa [List.count_append,H0.out,H1.out,H2.out,H3.out,H4.out] using hS),Lib.hid (fun i hi=>(cell_setRow_other _ _ _ _ _ hgD).trans (HB.out i hi))⟩
       case measure=>simp [intOf];omega
    ·obtain rfl:j=A.length:=by omega
     rw [List.take_length] at hS
     have an6:=Np.out
     rw [List.take_length] at an6
     have hgu:yx s=⟨G,k,(A.count 65:Nat),(A.count 67:Nat),(A.count 74:Nat),(A.count 82:Nat),(A.count 69:Nat)⟩:=by
      unfold yx;rw [HM.out,HA.out,HN.out,HG.out]
     obtain ⟨T,hT⟩:∃T,iy ⟨G,k,(A.count 65:Nat),(A.count 67:Nat),(A.count 74:Nat),(A.count 82:Nat),(A.count 69:Nat)⟩=T:=⟨_,rfl⟩
     have hR:=HR.out
     unfold kX at hR
     rw [hgu,HA.out,hT] at hR
     have HT:=Lib.hid hT
     clear hT Np HB hgu HG HM HA
     generalize (A.count 65:Nat)=n0 at *
     generalize (A.count 67:Nat)=n1 at *
     generalize (A.count 74:Nat)=n2 at *
     generalize (A.count 82:Nat)=n3 at *
     generalize (A.count 69:Nat)=n4 at *
     by_cases h0:s=[]
     ·rw [if_neg (fun h=>h.1 h0)] at hR
      subst hR h0
      go_wp2_with (first|((with_reducible refine bG ?_);(first|(refine aS rfl ?_));(try simp only [ah,ak,au,ay,aA]))|((with_reducible refine oq ?_);refine rF rfl ?_;(try simp only [ah,ak,au,ay,aA]))|((with_reducible refine aN ?_);(first|(refine kG rfl hS rfl rfl rfl (by repeat constructor) ?_;intro w hS));(try simp only [ah,ak,au,ay,aA])))
      all_goals (refine qB hS rfl rfl (by repeat constructor) rfl rfl (fun hb=>⟨rfl,hb⟩))
     ·have h1:(s==[])=false:=by simpa using h0
      by_cases hx:T=s
      ·rw [if_pos ⟨h0,an6,hx⟩] at hR
       subst hR hx
       have ht:(T==T)=true:=by simp
       go_wp2_with (first|(go_at_call 62;(with_reducible refine (St.call hS fun hl=>Tc _ _ HT _ hl).mono ?_);rintro e w ⟨rfl,hS⟩)|((with_reducible refine aC ?_);(first|(refine qK rfl hS rfl rfl (by repeat constructor) ?_));(try simp only [ah,ak,au,ay,aA]))|((with_reducible refine aN ?_);(first|(refine kG rfl hS rfl rfl rfl (by repeat constructor) ?_;intro w hS));(try simp only [ah,ak,au,ay,aA])))
       all_goals (refine qB hS rfl rfl (by repeat constructor) rfl rfl (fun hb=>⟨rfl,hb⟩))
      ·rw [if_neg (fun h=>hx h.2.2)] at hR
       subst hR
       have hx':(T==s)=false:=by simpa using hx
       go_wp2_with (first|(go_at_call 62;(with_reducible refine (St.call hS fun hl=>Tc _ _ HT _ hl).mono ?_);rintro e w ⟨rfl,hS⟩)|((with_reducible refine oq ?_);refine rF rfl ?_;(try simp only [ah,ak,au,ay,aA]))|((with_reducible refine aC ?_);(first|(refine qK rfl hS rfl rfl (by repeat constructor) ?_));(try simp only [ah,ak,au,ay,aA]))|((with_reducible refine aN ?_);(first|(refine kG rfl hS rfl rfl rfl (by repeat constructor) ?_;intro w hS));(try simp only [ah,ak,au,ay,aA])))
       all_goals (refine qB hS rfl rfl (by repeat constructor) rfl rfl (fun hb=>⟨rfl,hb⟩))
end Go.Proofs.YtdicgggkdmkklaaGreatDoor
namespace Go.Proofs.YtdicgggkdmkklaaGreatDoor
attribute [local irreducible] wpList Code.wp Calls
open Go.ChangeShapes Go.WideShapes Go.RowKit
def ac7 (o:Option Po):Value:=match o with|some c=> .tuple #[.agg c.cells, .int .i64 0]|none=> .tuple #[.agg bn.cells, .int .i64 3]
theorem I7 (s:Str) (hs:s.length<100000000) (c:Co) (h:Hid (kX s=some c)) (w:World) (hl:Laid w):Calls Tryz.prog 209 #[.string (B s)] w fun e w'=>e= .returned (.tuple #[.agg c.cells, .int .i64 0])∧Below w.heap.size w w':=Ja s hs w hl (some c) h
theorem Wu (s:Str) (hs:s.length<100000000) (h:Hid (kX s=none)) (w:World) (hl:Laid w):Calls Tryz.prog 209 #[.string (B s)] w fun e w'=>e= .returned (.tuple #[.agg dQ.cells, .int .i64 3])∧Below w.heap.size w w':=Ja s hs w hl none h
theorem ZU (s:Str) (hs:s.length<100000000) (w0:World) (hl:Laid w0):Calls Tryz.prog 299 #[.string (B s)] w0 fun e w'=>e= .returned (ac7 (dU s))∧Below w0.heap.size w0 w':=by
 cases hc:kX s with
 |none=>
  rw [show dU s=none by unfold dU;rw [hc]]
  have HC:=Lib.hid hc
  clear hc
  have hS:=St.start hl bJ
  go_enter Tryz.func299,Tryz.ntmps299
  go_wp2_with (first|(go_at_call 209;(with_reducible refine (St.call hS fun hl=>Wu s hs HC _ hl).mono ?_);rintro e w ⟨rfl,hS⟩)|((with_reducible refine KP ?_);refine Ea _ _ rfl rfl hS rfl rfl [.int .i64 0, .int .i64 0, .int .i64 0, .int .i64 0, .int .i64 0] rfl (.tail .head) (fun j v h=>by match j,h with|0,h=>exact h|1,h=>exact h|2,h=>exact h|3,h=>exact h|4,h=>exact h|j+5,h=>cases h) (new:=Po.cells ⟨0,0,0,0,0,0⟩) .head (Nat.le_of_ble_eq_true rfl) rfl (by simp [Value.oneCell']) ?_;intro w hS)|((with_reducible refine aW ?_);(first|(refine aJ 29 rfl hS rfl _ nM ?_;intro g w hS)|(refine aJ 65 rfl hS rfl _ yI ?_;intro g w hS));(try simp only [ah,ak,au,ay,aA]))|((with_reducible refine rO ?_);refine vS rfl ?_;(try simp only [ah,ak,au,ay,aA]))|((with_reducible refine zi ?_);refine DV rfl rfl ?_;(try simp only [ah,ak,au,ay,aA]))|((with_reducible refine aC ?_);(first|(refine uG rfl hS rfl rfl (by repeat constructor) ?_));(try simp only [ah,ak,au,ay,aA]))|((with_reducible refine aN ?_);(first|(refine kG rfl hS rfl rfl rfl (by repeat constructor) ?_;intro w hS)|(refine yK rfl hS rfl rfl rfl (by repeat constructor) ?_;intro w hS));(try simp only [ah,ak,au,ay,aA]))|((with_reducible refine aT ?_);refine qU 3 rfl hS (by kernel_rfl) (by kernel_rfl) (by kernel_rfl) (by decide +kernel) (by kernel_rfl) ?_;(simp only [List.take_succ_cons,List.take_zero,List.drop_succ_cons,List.drop_zero]))|((with_reducible refine sS ?_);refine pF ?_;intro w hS)|((with_reducible refine pX ?_);(refine lQ (v:= ?_) rfl (fun _ _ _ h=>h) ?_ ?_;rotate_left;(focus ((intro w;go_simp)<;>with_reducible rfl)));(try simp only [ah,ak,au,ay,aA]))|((with_reducible refine aT ?_);refine bY hS (by kernel_rfl) (by kernel_rfl) ?_)|((with_reducible refine fG ?_);intro w hS)|((with_reducible refine wK ?_);(first|(refine uh rfl (fun _ _ _ h=>h) ?_));(try simp only [ah,ak,au,ay,aA]))|((with_reducible refine dS ?_);(refine dn (v:= ?_) rfl (fun _ _ _ h=>h) ?_ ?_;rotate_left;(focus ((intro w hS;go_simp)<;>with_reducible rfl)));(try simp only [ah,ak,au,ay,aA])))
  all_goals (refine yJ hS rfl rfl (by repeat constructor) rfl rfl (fun hb=>⟨rfl,hb⟩))
 |some c=>
  obtain ⟨cg,cx,c0,c1,c2,c3,c4⟩:=c
  have HC:=Lib.hid hc
  have hne:=fun wx=>aoG (Ee ⟨cg,c0,c1,c2,c3,c4⟩) ⟨cg,cx,c0,c1,c2,c3,c4⟩ wx
  by_cases hx:cx=0
  ·rw [show dU s=some ⟨cg,c0,c1,c2,c3,c4⟩ by unfold dU;rw [hc];exact if_pos hx]
   subst hx
   rw [show uU (Ee ⟨cg,c0,c1,c2,c3,c4⟩) ⟨cg,0,c0,c1,c2,c3,c4⟩=true from IZ _] at hne
   clear hc
   have hS:=St.start hl bJ
   go_enter Tryz.func299,Tryz.ntmps299
   go_wp2_with (first|(go_at_call 209;(with_reducible refine (St.call hS fun hl=>I7 s hs _ HC _ hl).mono ?_);rintro e w ⟨rfl,hS⟩)|((with_reducible refine KP ?_);refine Ea _ _ rfl rfl hS rfl rfl [.int .i64 c0, .int .i64 c1, .int .i64 c2, .int .i64 c3, .int .i64 c4] rfl (.tail .head) (fun j v h=>by match j,h with|0,h=>exact h|1,h=>exact h|2,h=>exact h|3,h=>exact h|4,h=>exact h|j+5,h=>cases h) (new:=Po.cells ⟨cg,c0,c1,c2,c3,c4⟩) .head (Nat.le_of_ble_eq_true rfl) rfl (by simp [Value.oneCell']) ?_;intro w hS)|((with_reducible refine aW ?_);(first|(refine aJ 29 rfl hS rfl _ nM ?_;intro g w hS)|(refine aJ 65 rfl hS rfl _ yI ?_;intro g w hS));(try simp only [ah,ak,au,ay,aA]))|((with_reducible refine zi ?_);refine DV rfl rfl ?_;(try simp only [ah,ak,au,ay,aA]))|((with_reducible refine aC ?_);(first|(refine uG rfl hS rfl rfl (by repeat constructor) ?_)|(refine Lc rfl hS rfl rfl (by repeat constructor) ?_));(try simp only [ah,ak,au,ay,aA]))|((with_reducible refine aN ?_);(first|(refine kG rfl hS rfl rfl rfl (by repeat constructor) ?_;intro w hS)|(refine yK rfl hS rfl rfl rfl (by repeat constructor) ?_;intro w hS));(try simp only [ah,ak,au,ay,aA]))|((with_reducible refine aT ?_);refine qU 3 rfl hS (by kernel_rfl) (by kernel_rfl) (by kernel_rfl) (by decide +kernel) (by kernel_rfl) ?_;(simp only [List.take_succ_cons,List.take_zero,List.drop_succ_cons,List.drop_zero]))|((with_reducible refine sS ?_);refine pF ?_;intro w hS)|((with_reducible refine pX ?_);(refine lQ (v:= ?_) rfl (fun _ _ _ h=>h) ?_ ?_;rotate_left;(focus ((intro w;go_simp)<;>with_reducible rfl)));(try simp only [ah,ak,au,ay,aA]))|((with_reducible refine aT ?_);refine bY hS (by kernel_rfl) (by kernel_rfl) ?_)|((with_reducible refine fG ?_);intro w hS)|((with_reducible refine gY ?_);(first|(refine aaM rfl rfl rfl (by repeat constructor) (fun _ _ _ h=>h) ?_)|(refine abv rfl rfl rfl (by repeat constructor) (fun _ _ _ h=>h) ?_));(try simp only [ah,ak,au,ay,aA]))|((with_reducible refine iH ?_);(first|(refine eu (v:= ?_) (args:= ?_) 227 rfl (fun _ _ _ h=>h) ?_ ?_ ?_;rotate_left 2;(focus ((intro w;go_simp)<;>with_reducible rfl));(focus (intro w hS;refine St.jE hS (fun hl=>FP _ _ hl) ?_;with_reducible rfl))));(try simp only [ah,ak,au,ay,aA]))|((with_reducible refine dS ?_);(refine dn (v:= ?_) rfl (fun _ _ _ h=>h) ?_ ?_;rotate_left;(focus ((intro w hS;go_simp)<;>with_reducible rfl)));(try simp only [ah,ak,au,ay,aA])))
   all_goals (refine yJ hS rfl rfl (by repeat constructor) rfl rfl (fun hb=>⟨rfl,hb⟩))
  ·rw [show dU s=none by unfold dU;rw [hc];exact if_neg hx]
   rw [show uU (Ee ⟨cg,c0,c1,c2,c3,c4⟩) ⟨cg,cx,c0,c1,c2,c3,c4⟩=false by
    cases h:uU (Ee ⟨cg,c0,c1,c2,c3,c4⟩) ⟨cg,cx,c0,c1,c2,c3,c4⟩ with
    |false=>rfl
    |true=>
     have:=(yh _ _).1 h
     injection this with _ h2
     exact absurd h2.symm hx] at hne
   clear hc
   have hS:=St.start hl bJ
   go_enter Tryz.func299,Tryz.ntmps299
   go_wp2_with (first|(go_at_call 209;(with_reducible refine (St.call hS fun hl=>I7 s hs _ HC _ hl).mono ?_);rintro e w ⟨rfl,hS⟩)|((with_reducible refine KP ?_);refine Ea _ _ rfl rfl hS rfl rfl [.int .i64 c0, .int .i64 c1, .int .i64 c2, .int .i64 c3, .int .i64 c4] rfl (.tail .head) (fun j v h=>by match j,h with|0,h=>exact h|1,h=>exact h|2,h=>exact h|3,h=>exact h|4,h=>exact h|j+5,h=>cases h) (new:=Po.cells ⟨cg,c0,c1,c2,c3,c4⟩) .head (Nat.le_of_ble_eq_true rfl) rfl (by simp [Value.oneCell']) ?_;intro w hS)|((with_reducible refine aW ?_);(first|(refine aJ 29 rfl hS rfl _ nM ?_;intro g w hS)|(refine aJ 65 rfl hS rfl _ yI ?_;intro g w hS));(try simp only [ah,ak,au,ay,aA]))|((with_reducible refine rO ?_);refine vS rfl ?_;(try simp only [ah,ak,au,ay,aA]))|((with_reducible refine zi ?_);refine DV rfl rfl ?_;(try simp only [ah,ak,au,ay,aA]))|((with_reducible refine aC ?_);(first|(refine uG rfl hS rfl rfl (by repeat constructor) ?_));(try simp only [ah,ak,au,ay,aA]))|((with_reducible refine aN ?_);(first|(refine kG rfl hS rfl rfl rfl (by repeat constructor) ?_;intro w hS)|(refine yK rfl hS rfl rfl rfl (by repeat constructor) ?_;intro w hS));(try simp only [ah,ak,au,ay,aA]))|((with_reducible refine aT ?_);refine qU 3 rfl hS (by kernel_rfl) (by kernel_rfl) (by kernel_rfl) (by decide +kernel) (by kernel_rfl) ?_;(simp only [List.take_succ_cons,List.take_zero,List.drop_succ_cons,List.drop_zero]))|((with_reducible refine sS ?_);refine pF ?_;intro w hS)|((with_reducible refine pX ?_);(refine lQ (v:= ?_) rfl (fun _ _ _ h=>h) ?_ ?_;rotate_left;(focus ((intro w;go_simp)<;>with_reducible rfl)));(try simp only [ah,ak,au,ay,aA]))|((with_reducible refine aT ?_);refine bY hS (by kernel_rfl) (by kernel_rfl) ?_)|((with_reducible refine fG ?_);intro w hS)|((with_reducible refine gY ?_);(first|(refine aaM rfl rfl rfl (by repeat constructor) (fun _ _ _ h=>h) ?_)|(refine abv rfl rfl rfl (by repeat constructor) (fun _ _ _ h=>h) ?_));(try simp only [ah,ak,au,ay,aA]))|((with_reducible refine iH ?_);(first|(refine eu (v:= ?_) (args:= ?_) 227 rfl (fun _ _ _ h=>h) ?_ ?_ ?_;rotate_left 2;(focus ((intro w;go_simp)<;>with_reducible rfl));(focus (intro w hS;refine St.jE hS (fun hl=>FP _ _ hl) ?_;with_reducible rfl))));(try simp only [ah,ak,au,ay,aA]))|((with_reducible refine dS ?_);(refine dn (v:= ?_) rfl (fun _ _ _ h=>h) ?_ ?_;rotate_left;(focus ((intro w hS;go_simp)<;>with_reducible rfl)));(try simp only [ah,ak,au,ay,aA])))
   all_goals (refine yJ hS rfl rfl (by repeat constructor) rfl rfl (fun hb=>⟨rfl,hb⟩))
theorem Un (p:Po) (T:Str) (h:Hid (jY p=T)) (w:World) (hl:Laid w):Calls Tryz.prog 160 #[.agg p.cells] w fun e w'=>e= .returned (.string (B T))∧Below w.heap.size w w':=
 (ac8 p w hl).mono fun e w' h'=>⟨by rw [h'.1,h.out],h'.2⟩
end Go.Proofs.YtdicgggkdmkklaaGreatDoor
namespace Go.Proofs.YtdicgggkdmkklaaGreatDoor
attribute [local irreducible] wpList Code.wp Calls dh fK
open Go.ChangeShapes Go.WideShapes Go.RowKit
attribute [local simp] lD
def VJ (a:Am):Am:=⟨0,if a.k=0∨a.k=2 then 0 else a.n,if a.k=4 then 0 else a.c,if a.k=2 then aaB else a.f⟩
theorem alo (f:aH) (R:Bool) (HR:Hid (dh f=R)) (w:World) (hl:Laid w):Calls Tryz.prog 26 #[.agg f.cells] w fun e w'=>e= .returned (.bool R)∧Below w.heap.size w w':=
 wF f.zone f.who f.self f.types f.aV f.colors f.aP f.sub f.keys f.dJ f.pk f.pn f.tk f.tn f.vk f.vn w hl R HR
theorem aqb (k n c:Int) (f:aH) (w0:World):Calls Tryz.prog 226 #[.agg (Am.cells ⟨k,n,c,f⟩)] w0 fun e w'=>e= .returned (.agg (VJ ⟨k,n,c,f⟩).cells)∧Below w0.heap.size w0 w':=by
 have hS:=St.Dj w0
 go_in
 go_wp2_with (first|(have hq:=iE;subst hq)|refine s0 ?_|(refine s1 ?_;clear hS;intro w hS)|(refine s2 ?_;clear hS;intro g w hS))
 all_goals first|go_ret|refine res1 hS ?_
 all_goals refine ⟨kW ?_,hS.below⟩
 all_goals (clear hS;simp_all [VJ,aaB])
instance {L:World→Prop} (a:Am):mG 226 #[.agg (Am.cells a)] L (.agg (Am.cells (VJ a))):=⟨fun w _=>aqb a.k a.n a.c a.f w⟩
theorem ajR (k n c:Int) (f:aH) (w0:World) (hl:bZ w0):Calls Tryz.prog 159 #[.agg (Am.cells ⟨k,n,c,f⟩)] w0 fun e w'=>e= .returned (.bool (iT ⟨k,n,c,f⟩))∧Below w0.heap.size w0 w':=by
 have hS:=St.start hl fun _ _ h hb=>h.below hb
 go_in
 go_wp2_with (first|(have hq:=iE;subst hq)|refine s0 ?_|(refine s1 ?_;clear hS;intro w hS)|(refine s2 ?_;clear hS;intro g w hS)|(refine s3 ?_ ?_<;>intro hb<;>(try subst hb)<;>(try (exfalso;first|omega|exact Bool.noConfusion hb))))
 all_goals go_ret
 all_goals refine ⟨aX ?_,hS.below⟩
 all_goals clear hS
 all_goals (simp_all [iT,sV,VJ,Dv,Nu,dG,lD]<;>first|exact fin|(rw [Bool.eq_iff_iff];simp [Nu];done))
theorem aqj (a:Am) (R:Bool) (HR:Hid (iT a=R)) (w:World) (hl:bZ w):Calls Tryz.prog 159 #[.agg a.cells] w fun e w'=>e= .returned (.bool R)∧Below w.heap.size w w':=HR.out ▸ ajR a.k a.n a.c a.f w hl
instance {L:World→Prop} [Sub L bZ] (a:Am):mG 159 #[.agg (Am.cells a)] L (.bool (iT a)):=⟨fun w hl=>ajR a.k a.n a.c a.f w (Sub.sub w hl)⟩
end Go.Proofs.YtdicgggkdmkklaaGreatDoor
namespace Go.Proofs.YtdicgggkdmkklaaGreatDoor
attribute [local irreducible] wpList Code.wp Calls dh fK
open Go.ChangeShapes Go.WideShapes Go.RowKit
def Sr (k:Int):Str:=if Dv k=true then wd EF k.toNat else []
theorem YK (k:Int) (w0:World):Calls Tryz.prog 236 #[.int .i64 k] w0 fun e w'=>e= .returned (.string (B (Sr k)))∧w0=w':=by
 go_in
 go_wp2_with (have hq:=iE;subst hq)
 all_goals go_ret
 all_goals refine ⟨dL ?_,rfl⟩
 all_goals first|rfl|(simp_all [Sr,Dv];done)
instance {L:World→Prop} (k:Int):mG 236 #[.int .i64 k] L (.string (B (Sr k))):=⟨fun w _=>(YK k w).mono fun _ _ h=>⟨h.1,h.2 ▸ Below.refl _ _⟩⟩
theorem ajS {a:Am} (h:(!iT a)=false):0≤a.n∧a.n≤1000000:=by
 rcases wU (by simpa using h) with ⟨n,_,rfl⟩|⟨n,_,_,f,_,rfl⟩|⟨c,_,rfl⟩|⟨k,_,rfl⟩<;>simp<;>omega
theorem aky (k n c:Int) (f:aH) (w0:World) (hl:bZ w0):Calls Tryz.prog 186 #[.agg (Am.cells ⟨k,n,c,f⟩)] w0 fun e w'=>e= .returned (.string (B (dW ⟨k,n,c,f⟩)))∧Below w0.heap.size w0 w':=by
 have hS:=St.start hl fun _ _ h hb=>h.below hb
 go_in
 go_wp2_with (first|(have hq:=iE;subst hq)|(go_at_call 63;have hn:=ajS ‹(!iT _)=false›;simp only at hn;have:Len (Lib.itoa n) 21:=⟨Lib.itoa_length_le n (by omega) (by omega)⟩;refine c_call (fun hl=>nH _ (by omega) (by omega) _ hl.base) hS ?_;clear hS;intro w hS)|refine s0 ?_|(refine s1 ?_;clear hS;intro w hS)|(refine s2 ?_;clear hS;intro g w hS))
 all_goals go_ret
 all_goals refine ⟨dL ?_,hS.below⟩
 all_goals clear hS
 all_goals first|(simp_all [dW];done)|(simp_all [dW,rU,bT,fB,yU,wd,Sr,EF,iT,Dv];done)|(simp_all [dW,rU,bT,fB,yU,iT]<;>omega)
theorem ady (k:Nat) (hk:k<8) (w:World):Calls Tryz.prog 236 #[.int .i64 k] w fun e w'=>e= .returned (.string (B (wd EF k)))∧w=w':=by
 rw [show wd EF k=Sr k by have:∀k:Fin 8,wd EF k.val=Sr k.val:=by decide +kernel
                          exact this ⟨k,hk⟩]
 exact YK k w
theorem aaH (a:Am) (w:World) (hl:bZ w):Calls Tryz.prog 186 #[.agg a.cells] w fun e w'=>e= .returned (.string (B (dW a)))∧Below w.heap.size w w':=aky a.k a.n a.c a.f w hl
instance {L:World→Prop} [Sub L bZ] (a:Am):mG 186 #[.agg (Am.cells a)] L (.string (B (dW a))):=⟨fun w hl=>aaH a w (Sub.sub w hl)⟩
theorem ahv (a:Am) (T:ByteArray) (hT:Hid (B (dW a)=T)) (w:World) (hl:bZ w):
 Calls Tryz.prog 186 #[.agg a.cells] w fun e w'=>e= .returned (.string T)∧Below w.heap.size w w':=
 (aaH a w hl).mono fun e w' h=>⟨by rw [h.1,hT.out],h.2⟩
attribute [local simp] lD
attribute [local go_sem] KX KW Dq
def SK (w wr:World):Prop:=wr.heap[w.heap.size]? =some (.cells dG.cells TAm)∧Below w.heap.size w wr
theorem SK.below {w w1 w2:World} (h:SK w w1) (hb:Below w1.heap.size w1 w2):SK w w2:=⟨aaD hb h.1,aaC h.2 hb⟩
theorem SK.bel {w wr:World} (h:SK w wr):Below w.heap.size w wr:=h.2
theorem SK.setRow {w w1:World} (h:SK w w1) {g:Nat} (hg:w.heap.size<g) (cs:Array Value):SK w (w1.setRow g cs):=
 ⟨(setRow_other w1 g w.heap.size cs (by omega)).trans h.1,below_setRow h.2 (Nat.le_of_lt hg) cs⟩
theorem ahR (s:Str) (o:Option (Str × Str)):WG (B s) o= .tuple #[.string (B (o.getD (s,[])).1), .string (B (o.getD (s,[])).2), .bool o.isSome]:=by cases o<;>rfl
instance {s:Str} {b d:Nat} [h:jr s]:jr ((nR b d s).getD (s,[])).1:=⟨by cases hc:nR b d s with
 |none=>exact h.lt
 |some p=>have:=(Nv (p:=p.1) (q:=p.2) hc).1;have:=h.lt;simp;omega⟩
instance {s:Str} {b d:Nat} [h:jr s]:jr ((nR b d s).getD (s,[])).2:=⟨by cases hc:nR b d s with
 |none=>simp
 |some p=>have:=(Nv (p:=p.1) (q:=p.2) hc).2;have:=h.lt;simp;omega⟩
instance {L':World→Prop} (s:Str) [jr s]:mG 125 #[.string (B s), .string ⟨#[42]⟩] L' (.tuple #[.string (B ((nR 42 0 s).getD (s,[])).1), .string (B ((nR 42 0 s).getD (s,[])).2), .bool (nR 42 0 s).isSome]):=⟨fun w _=>(ajB (B s) w (jr.sz s)).mono fun e w' h=>⟨by rw [h.1,cO,ahR],h.2⟩⟩
instance {L':World→Prop} [Sub L' bZ] (s:Str):mG 240 #[.string (B s)] L' (.tuple #[.int .i64 (((jF s).getD 0:Nat):Int), .bool (jF s).isSome]):=⟨fun w hl=>(Oy (B s) _ _ (Lib.hid ⟨by rw [cO],by rw [cO]⟩) w (Sub.sub w hl)).mono fun e w' h=>⟨h.1,BA h.2⟩⟩
theorem alr (s:Str) [jr s] (w0:World) (hl:bZ w0):Calls Tryz.prog 318 #[.string (B s)] w0 fun e w'=>e= .returned (.agg (ql s).cells)∧Below w0.heap.size w0 w':=by
 have hS:=St.start hl fun _ _ h hb=>h.below hb
 go_in
 go_wp2_with (first|refine s0 ?_|(refine s1 ?_;clear hS;intro w hS)|(refine s2 ?_;clear hS;intro g w hS))
 any_goals
  (refine res1 hS ?_
   refine ⟨kW ?_,hS.below⟩
   clear hS
   cases hn:numOf s<;>simp_all [ql]
   done)
 have HN:Hid (numOf s=none):=Lib.hid (by clear hS;cases hn:numOf s<;>simp_all)
 have hns:(numOf s).isSome=false:=by rw [HN.out];rfl
 simp only [hns]
 generalize g=gr at *
 go_loopw [5] (fun kv wr=>∃k:Nat,k≤8∧kv= .int .i64 k∧Hid (St bZ w0 [(gr,Am.cells dG,TAm)] wr)∧Hid (Qu s=(List.range' k (8 - k)).find? fun k=>wd EF k==s)) (fun kv _=>8 - (intOf kv).toNat)
 case atStart=>exact ⟨0,by omega,rfl,Lib.hid hS,rfl⟩
 case round=>
  obtain ⟨k,hk,rfl,HS,HL⟩:=hrel
  clear hS
  have hS:=HS.out
  clear HS
  by_cases hlt:k<8
  ·have hk7:(k:Int)≤7:=by omega
   go_wp2_with (first|(have hq:=sE;subst hq)|(go_at_call 236;refine akH (ady k hlt _) ?_)|refine s0 ?_|(refine s1 ?_;clear hS;intro w hS))
   all_goals first
    |(refine res1 hS ?_
      refine ⟨kW ?_,hS.below⟩
      clear hS
      have hp:=NC hlt (by simp) HL.out
      unfold ql
      rw [HN.out,hp])
    |(go_roundw
      case rel=>exact ⟨k+1,by omega,congrArg (Value.int _) (by omega),Lib.hid hS,Lib.hid (Q5 hlt (by assumption) HL.out)⟩
      case measure=>simp [intOf]<;>omega)
  ·have hk7:¬(k:Int)≤7:=by omega
   have HSI:Hid (Qu s=none):=Lib.hid (by rw [HL.out,show k=8 by omega];rfl)
   clear HL
   go_wp2_with (first|refine s0 ?_|(refine s1 ?_;clear hS;intro w hS)|(refine s2 ?_;clear hS;intro g w hS))
   all_goals
    refine res1 hS ?_
    refine ⟨kW ?_,hS.below⟩
    clear hS
    unfold ql
    rw [HN.out,HSI.out]
    cases hc:nR 42 0 s<;>simp_all [ET,yU,fB]
instance {L:World→Prop} [Sub L bZ] (s:Str) [jr s]:mG 318 #[.string (B s)] L (.agg (Am.cells (ql s))):=⟨fun w hl=>alr s w (Sub.sub w hl)⟩
end Go.Proofs.YtdicgggkdmkklaaGreatDoor
namespace Go.Proofs.YtdicgggkdmkklaaGreatDoor
attribute [local irreducible] wpList Code.wp Calls dh fK
open Go.ChangeShapes Go.WideShapes Go.RowKit
def wV (o:Option Am):Value:=match o with|some r=> .tuple #[.agg r.cells, .int .i64 0]|none=> .tuple #[.agg dG.cells, .int .i64 3]
theorem VY (s:Str) [jr s] (w0:World) (hl:bZ w0):Calls Tryz.prog 297 #[.string (B s)] w0 fun e w'=>e= .returned (wV (eY s))∧Below w0.heap.size w0 w':=by
 have hS:=St.start hl fun _ _ h hb=>h.below hb
 go_in
 go_wp2_with (first|refine s0 ?_|(refine s1 ?_;clear hS;intro w hS)|(refine s2 ?_;clear hS;intro g w hS)|(refine s3 ?_ ?_<;>intro hb<;>(try subst hb)<;>(try (exfalso;first|omega|exact Bool.noConfusion hb))))
 all_goals refine res2 hS ?_
 all_goals refine ⟨ret_val ?_,hS.below⟩
 all_goals clear hS
 all_goals simp_all [eY,wV]
theorem akA (o:Option Am):wV o= .tuple #[.agg (Am.cells (o.getD dG)), .int .i64 (BN o.isSome)]:=by cases o<;>rfl
instance {L:World→Prop} [Sub L bZ] (s:Str) [jr s]:mG 297 #[.string (B s)] L (.tuple #[.agg (Am.cells ((eY s).getD dG)), .int .i64 (BN (eY s).isSome)]):=⟨fun w hl=>by rw [←akA];exact VY s w (Sub.sub w hl)⟩
theorem abL (s:ByteArray) (w:World) (hl:bZ w) (hs:s.size<100000000):Calls Tryz.prog 297 #[.string s] w fun e w'=>e= .returned (wV (eY (L s)))∧Below w.heap.size w w':=by
 have:jr (L s):=⟨by rw [dN];exact hs⟩
 have h:=VY (L s) w hl
 rwa [qV] at h
end Go.Proofs.YtdicgggkdmkklaaGreatDoor
namespace Go.Proofs.YtdicgggkdmkklaaGreatDoor
open Go.ChangeShapes Go.WideShapes Go.RowKit
end Go.Proofs.YtdicgggkdmkklaaGreatDoor
