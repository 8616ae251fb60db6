/- Walks: package filter: the writer, the words of a mask and of a bound. Conditions: Laid. Walks: package filter: Is. Conditions: Laid. Walks: package num: Clamp and Number. Conditions: Laid; the tex -/
import Derived.Test.YtdicgggkdmkklaaGreatDoorQ1
import Derived.Test.YtdicgggkdmkklaaGreatDoorMKey
import Derived.RegionTactic
import Derived.ChangeAlike
import Derived.Lib.IndexLaws
import Derived.Laws.StructEq
set_option linter.all false
set_option maxRecDepth 100000
set_option maxHeartbeats 16000000
namespace Go.Proofs.YtdicgggkdmkklaaGreatDoor
open Go.ChangeShapes Go.WideShapes Go.RowKit
abbrev TW:Nat:=120
theorem Lu (n m:Int) (w:World):
 Calls Tryz.prog 68 #[.int .i64 n, .int .i64 m] w fun e w'=>e= .returned (.bool (jJ n m))∧w=w':=by
 go_enter Tryz.func68,Tryz.ntmps68
 go_wp2
 all_goals
  go_ret
  exact ⟨aX (by simp [jJ, *]<;>omega),rfl⟩
theorem kD (n:Nat) (hn:n≤5) (w:World):
 Calls Tryz.prog 95 #[.int .i64 n] w fun e w'=>e= .returned (.string (B (wd bU n)))∧w=w':=by
 rcases n with _|_|_|_|_|_|n
 ·go_enter Tryz.func95,Tryz.ntmps95
  go_wp2
  go_ret
  exact ⟨rfl,rfl⟩
 ·go_enter Tryz.func95,Tryz.ntmps95
  go_wp2
  go_ret
  exact ⟨rfl,rfl⟩
 ·go_enter Tryz.func95,Tryz.ntmps95
  go_wp2
  go_ret
  exact ⟨rfl,rfl⟩
 ·go_enter Tryz.func95,Tryz.ntmps95
  go_wp2
  go_ret
  exact ⟨rfl,rfl⟩
 ·go_enter Tryz.func95,Tryz.ntmps95
  go_wp2
  go_ret
  exact ⟨rfl,rfl⟩
 ·go_enter Tryz.func95,Tryz.ntmps95
  go_wp2
  go_ret
  exact ⟨rfl,rfl⟩
 ·omega
theorem nH (n:Int) (h0: -9223372036854775808≤n) (h1:n≤9223372036854775807) (w:World) (hl:Laid w):
 Calls Tryz.prog 63 #[.int .i64 n] w fun e w'=>e= .returned (.string (B (Lib.itoa n)))∧Below w.heap.size w w':=by
 go_enter Tryz.func63,Tryz.ntmps63
 go_wp2_with (go_at_call 147;(with_reducible refine (aiu _ h0 h1 _ hl).mono ?_);rintro e w2 ⟨rfl,hb2⟩)
 go_ret
 exact ⟨rfl,hb2⟩
theorem YR (i:Nat) (hi:i<6) (w:World):
 Calls Tryz.prog 97 #[.int .i64 i] w fun e w'=>e= .returned (.string (B (aO.getD i [])))∧Below w.heap.size w w':=by
 obtain ⟨n,hn⟩:∃n:Nat,n=2 ^ i:=⟨_,rfl⟩
 have hw:wrap64 ((2:Int) ^ i)=(n:Int):=by rw [hn];exact Dp (by omega)
 have HD:Hid (bD n=aO.getD i []):=by
  have:∀i,i<6→bD (2 ^ i)=aO.getD i []:=by decide +kernel
  rw [hn];exact this i hi
 clear hn
 generalize aO.getD i []=R at *
 go_enter Tryz.func97,Tryz.ntmps97
 go_wp2_with (go_at_call 155;(with_reducible refine (vH _ _).mono ?_);rintro e w2 ⟨rfl,hb2⟩)
 go_ret
 exact ⟨dV (by rw [HD.out]),hb2⟩
theorem add_any (s:ByteArray) (w:World) (b g:Nat) (l:List Str) (hw:Wr TW w b g l) (hlen:l.length<1000000000):
 Calls Tryz.prog 94 #[.pointer (some ⟨g,0,none⟩), .string s] w fun e w'=>e= .returned (.tuple #[])∧Wr TW w' b g (bf l (L s))∧Below b w w'∧Keep g w w':=by
 by_cases h0:L s=[]
 ·have t0:s.toList=[]:=by rw [dZ];exact h0
  have HX:=Lib.hid h0;clear h0
  have HW:=Lib.hid hw;clear hw
  go_enter Tryz.func94,Tryz.ntmps94
  go_wp2
  go_end0
  refine ⟨rfl,?_,Below.refl _ _,Keep.refl _ _⟩
  rw [bf,if_pos HX.out];exact HW.out
 ·have t0:s.toList.isEmpty=false:=by rw [dZ];simpa using h0
  have t1:¬s.toList=[]:=by rw [dZ];exact h0
  have HX:=Lib.hid h0;clear h0
  obtain ⟨hgl,hgb⟩:=hw.lt
  obtain ⟨v,hg,hbg,hown⟩:=hw
  have hc:=one_cell hg
  have HG:=Lib.hid hg;clear hg hgb hgl
  go_enter Tryz.func94,Tryz.ntmps94
  go_wp2_with (at_builtin;refine Fv rfl (.tmp 10) (.tmp 12) 73 rfl Tryz.underlying73 jB (by decide) rfl rfl HG hbg hown hlen ?_;intro A2 c2 w2 hc2 hf2 HS;clear hc hown)
  go_end0
  refine ⟨rfl,?_,HS.out.2.1,HS.out.2.2⟩
  rw [bf,if_neg HX.out]
  exact HS.out.1
theorem adE (i:Nat) (hi:i<6) (w:World):
 Calls Tryz.prog 97 #[.int .i64 i] w fun e w'=>e= .returned (.string (B (wd aO i)))∧Below w.heap.size w w':=YR i hi w
theorem Zh (i:Nat) (hi:i<5) (w:World) (hl:Laid w):
 Calls Tryz.prog 98 #[.int .i64 i] w fun e w'=>e= .returned (.string (B (wd aY i)))∧w=w':=UW i hi w hl
theorem afx (i:Nat) (hi:i<17) (w:World):
 Calls Tryz.prog 99 #[.int .i64 i] w fun e w'=>e= .returned (.string (B (wd bK i)))∧Below w.heap.size w w':=L9 i hi w
theorem nO (a b:ByteArray):L (a++b)=L a++L b:=by unfold L;simp [ByteArray.data_append]
def LB (b:Nat) (w:World):Prop:=∃w0,Laid w0∧w0.heap.size≤b∧Below w0.heap.size w0 w
theorem LB.laid {b:Nat} {w:World} (h:LB b w):Laid w:=by
 obtain ⟨w0,h0,_,hb⟩:=h;exact h0.below hb
theorem LB.below {b:Nat} {w w':World} (h:LB b w) (hb:Below b w w'):LB b w':=by
 obtain ⟨w0,h0,h1,h2⟩:=h;exact ⟨w0,h0,h1,h2.trans (hb.mono h1)⟩
theorem LB.start {w:World} {b:Nat} (h:Laid w) (hb:w.heap.size≤b):LB b w:=⟨w,h,hb,Below.refl _ _⟩
theorem Nq (l:List Str) (p:Str) (T:List Str):∀bl:List Nat,∀k,k<bl.length→((bl.take (k+1)).map (fun i=>p++wd T i)).foldl bf l=bf (((bl.take k).map (fun i=>p++wd T i)).foldl bf l) (p++wd T (bl.getD k 0)):=by
 intro bl k h
 rw [Aa (fun i=>p++wd T i) bl k h,List.foldl_append]
 simp [List.getD,h]
theorem Xu (m:Nat) (p:ByteArray) (pl:Str) (hp:L p=pl) (w:World) (b g:Nat) (l:List Str) (hw:Wr TW w b g l) (hlen:l.length<1000000) (hm:m<2 ^ 6) (hps:p.size≤1000):
 Calls Tryz.prog 96 #[.pointer (some ⟨g,0,none⟩), .int .i64 m, .string p, .func (.func 97) #[] #[]] w fun e w'=>e= .returned (.tuple #[])∧Wr TW w' b g (aZ l pl aO m)∧Below b w w'∧Keep g w w':=by
 subst hp
 have hall:∀k (h:k<(aK m 31).length),(aK m 31).getD k 0<6:=fun k h=>by
  rw [show (aK m 31).getD k 0=(aK m 31)[k] by simp [List.getD,h]];exact uw hm (List.getElem_mem h)
 have hle:=nD m 31
 have HD:Hid (aZ l (L p) aO m=((aK m 31).map (fun i=>L p++wd aO i)).foldl bf l):=rfl
 generalize aZ l (L p) aO m=R at *
 go_enter Tryz.func96,Tryz.ntmps96
 go_wp2_with (go_at_call 178;(with_reducible refine (IU _ _ (by omega)).mono ?_);rintro e w1 ⟨A,c,rfl,hc,hn1,hb1⟩)
 generalize aK m 31=bl at *
 have hw1:=hw.below hb1
 have hsz1:=hb1.size
 have hbw:b≤w.heap.size:=by have:=hw.lt;omega
 clear hw
 have hk1:Keep g w w1:=Keep.of_below hb1
 have hbb:Below b w w1:=hb1.mono hbw
 go_loopw [13] (fun i wr=>∃k:Nat,k≤bl.length∧i= .int .i64 k∧Wr TW wr b g (((bl.take k).map (fun i=>L p++wd aO i)).foldl bf l)∧Below b w wr∧Keep g w wr∧Nums wr w.heap.size bl (.slice A bl.length c)) (fun i _=>bl.length - (intOf i).toNat)
 case atStart=>exact ⟨0,by omega,rfl,hw1,hbb,hk1,hn1⟩
 case round=>
  obtain ⟨k,hk,rfl,hwr,hb,hkp,hn⟩:=hrel
  by_cases hlt:k<bl.length
  ·obtain ⟨g2,rfl,hg2,hcl⟩:=hn.at_ hlt
   have O5:=hall k hlt
   have HX:=Lib.hid (Nq l (L p) aO bl k hlt)
   have hln:(((bl.take k).map (fun i=>L p++wd aO i)).foldl bf l).length<1000000000:=by
    have:=uI ((bl.take k).map (fun i=>L p++wd aO i)) l
    rw [List.length_map,List.length_take] at this;omega
   have hbs:b≤wr.heap.size:=Nat.le_trans hbw hb.size
   rw [show bl[k]=bl.getD k 0 by simp [List.getD,hlt]] at hcl
   clear hall hn1 hw1 hk1 hbb hb1 hsz1
   generalize bl.getD k 0=j at *
   have hwl:p.size+(wd aO j).length≤9223372036854775807:=by have:=l7 (T:=aO) (K:=20) (by decide) j;omega
   go_wp2_with (go_at_call 97;(with_reducible refine (adE _ O5 _).mono ?_);rintro e wn ⟨rfl,hbn⟩)
   have hwn:=hwr.below hbn
   have hnn:=hn.below hbn
   have hbm:=hb.trans (hbn.mono hbs)
   have hkm:=hkp.trans (Keep.of_below hbn)
   go_wp2_with (go_at_call 94;(with_reducible refine (add_any _ _ _ _ _ hwn hln).mono ?_);rintro e w3 ⟨rfl,hw3,hb3,hk3⟩)
   have hw4:Wr TW w3 b g (((bl.take (k+1)).map (fun i=>L p++wd aO i)).foldl bf l):=by rw [HX.out];simpa [nO] using hw3
   obtain ⟨vg,TV⟩:=hwn.block
   have hn4:=Nums.keep hnn hk3 TV (by decide)
   have hb4:Below b w w3:=(hbm).trans hb3
   have hk4:Keep g w w3:=(hkm).trans hk3
   clear TV
   go_roundw
   case rel=>exact ⟨k+1,by omega,by go_num,hw4,hb4,hk4,hn4⟩
   case measure=>simp [intOf];omega
  ·obtain rfl:k=bl.length:=by omega
   rw [List.take_length] at hwr
   go_wp2
   go_end0
   exact ⟨rfl,by rw [HD.out];exact hwr,hb,hkp⟩
theorem Vk (m:Nat) (p:ByteArray) (pl:Str) (hp:L p=pl) (w:World) (b g:Nat) (l:List Str) (hw:Wr TW w b g l) (hlen:l.length<1000000) (hm:m<2 ^ 5) (hps:p.size≤1000) (hl:LB b w):
 Calls Tryz.prog 96 #[.pointer (some ⟨g,0,none⟩), .int .i64 m, .string p, .func (.func 98) #[] #[]] w fun e w'=>e= .returned (.tuple #[])∧Wr TW w' b g (aZ l pl aY m)∧Below b w w'∧Keep g w w':=by
 subst hp
 have hall:∀k (h:k<(aK m 31).length),(aK m 31).getD k 0<5:=fun k h=>by
  rw [show (aK m 31).getD k 0=(aK m 31)[k] by simp [List.getD,h]];exact uw hm (List.getElem_mem h)
 have hle:=nD m 31
 have HD:Hid (aZ l (L p) aY m=((aK m 31).map (fun i=>L p++wd aY i)).foldl bf l):=rfl
 generalize aZ l (L p) aY m=R at *
 go_enter Tryz.func96,Tryz.ntmps96
 go_wp2_with (go_at_call 178;(with_reducible refine (IU _ _ (by omega)).mono ?_);rintro e w1 ⟨A,c,rfl,hc,hn1,hb1⟩)
 generalize aK m 31=bl at *
 have hw1:=hw.below hb1
 have hsz1:=hb1.size
 have hbw:b≤w.heap.size:=by have:=hw.lt;omega
 clear hw
 have hk1:Keep g w w1:=Keep.of_below hb1
 have hbb:Below b w w1:=hb1.mono hbw
 go_loopw [13] (fun i wr=>∃k:Nat,k≤bl.length∧i= .int .i64 k∧Wr TW wr b g (((bl.take k).map (fun i=>L p++wd aY i)).foldl bf l)∧Below b w wr∧Keep g w wr∧Nums wr w.heap.size bl (.slice A bl.length c)) (fun i _=>bl.length - (intOf i).toNat)
 case atStart=>exact ⟨0,by omega,rfl,hw1,hbb,hk1,hn1⟩
 case round=>
  obtain ⟨k,hk,rfl,hwr,hb,hkp,hn⟩:=hrel
  by_cases hlt:k<bl.length
  ·obtain ⟨g2,rfl,hg2,hcl⟩:=hn.at_ hlt
   have O5:=hall k hlt
   have HX:=Lib.hid (Nq l (L p) aY bl k hlt)
   have hln:(((bl.take k).map (fun i=>L p++wd aY i)).foldl bf l).length<1000000000:=by
    have:=uI ((bl.take k).map (fun i=>L p++wd aY i)) l
    rw [List.length_map,List.length_take] at this;omega
   have hbs:b≤wr.heap.size:=Nat.le_trans hbw hb.size
   rw [show bl[k]=bl.getD k 0 by simp [List.getD,hlt]] at hcl
   clear hall hn1 hw1 hk1 hbb hb1 hsz1
   generalize bl.getD k 0=j at *
   have hwl:p.size+(wd aY j).length≤9223372036854775807:=by have:=l7 (T:=aY) (K:=20) (by decide) j;omega
   have hlr:=(hl.below hb).laid
   go_wp2_with (go_at_call 98;(with_reducible refine (Zh _ O5 _ hlr).mono ?_);rintro e wn ⟨rfl,rfl⟩)
   have hwn:=hwr
   go_wp2_with (go_at_call 94;(with_reducible refine (add_any _ _ _ _ _ hwn hln).mono ?_);rintro e w3 ⟨rfl,hw3,hb3,hk3⟩)
   have hw4:Wr TW w3 b g (((bl.take (k+1)).map (fun i=>L p++wd aY i)).foldl bf l):=by rw [HX.out];simpa [nO] using hw3
   obtain ⟨vg,TV⟩:=hwn.block
   have hn4:=Nums.keep hn hk3 TV (by decide)
   have hb4:Below b w w3:=(hb).trans hb3
   have hk4:Keep g w w3:=(hkp).trans hk3
   clear TV
   go_roundw
   case rel=>exact ⟨k+1,by omega,by go_num,hw4,hb4,hk4,hn4⟩
   case measure=>simp [intOf];omega
  ·obtain rfl:k=bl.length:=by omega
   rw [List.take_length] at hwr
   go_wp2
   go_end0
   exact ⟨rfl,by rw [HD.out];exact hwr,hb,hkp⟩
theorem ZK (m:Nat) (p:ByteArray) (pl:Str) (hp:L p=pl) (w:World) (b g:Nat) (l:List Str) (hw:Wr TW w b g l) (hlen:l.length<1000000) (hm:m<2 ^ 17) (hps:p.size≤1000):
 Calls Tryz.prog 96 #[.pointer (some ⟨g,0,none⟩), .int .i64 m, .string p, .func (.func 99) #[] #[]] w fun e w'=>e= .returned (.tuple #[])∧Wr TW w' b g (aZ l pl bK m)∧Below b w w'∧Keep g w w':=by
 subst hp
 have hall:∀k (h:k<(aK m 31).length),(aK m 31).getD k 0<17:=fun k h=>by
  rw [show (aK m 31).getD k 0=(aK m 31)[k] by simp [List.getD,h]];exact uw hm (List.getElem_mem h)
 have hle:=nD m 31
 have HD:Hid (aZ l (L p) bK m=((aK m 31).map (fun i=>L p++wd bK i)).foldl bf l):=rfl
 generalize aZ l (L p) bK m=R at *
 go_enter Tryz.func96,Tryz.ntmps96
 go_wp2_with (go_at_call 178;(with_reducible refine (IU _ _ (by omega)).mono ?_);rintro e w1 ⟨A,c,rfl,hc,hn1,hb1⟩)
 generalize aK m 31=bl at *
 have hw1:=hw.below hb1
 have hsz1:=hb1.size
 have hbw:b≤w.heap.size:=by have:=hw.lt;omega
 clear hw
 have hk1:Keep g w w1:=Keep.of_below hb1
 have hbb:Below b w w1:=hb1.mono hbw
 go_loopw [13] (fun i wr=>∃k:Nat,k≤bl.length∧i= .int .i64 k∧Wr TW wr b g (((bl.take k).map (fun i=>L p++wd bK i)).foldl bf l)∧Below b w wr∧Keep g w wr∧Nums wr w.heap.size bl (.slice A bl.length c)) (fun i _=>bl.length - (intOf i).toNat)
 case atStart=>exact ⟨0,by omega,rfl,hw1,hbb,hk1,hn1⟩
 case round=>
  obtain ⟨k,hk,rfl,hwr,hb,hkp,hn⟩:=hrel
  by_cases hlt:k<bl.length
  ·obtain ⟨g2,rfl,hg2,hcl⟩:=hn.at_ hlt
   have O5:=hall k hlt
   have HX:=Lib.hid (Nq l (L p) bK bl k hlt)
   have hln:(((bl.take k).map (fun i=>L p++wd bK i)).foldl bf l).length<1000000000:=by
    have:=uI ((bl.take k).map (fun i=>L p++wd bK i)) l
    rw [List.length_map,List.length_take] at this;omega
   have hbs:b≤wr.heap.size:=Nat.le_trans hbw hb.size
   rw [show bl[k]=bl.getD k 0 by simp [List.getD,hlt]] at hcl
   clear hall hn1 hw1 hk1 hbb hb1 hsz1
   generalize bl.getD k 0=j at *
   have hwl:p.size+(wd bK j).length≤9223372036854775807:=by have:=l7 (T:=bK) (K:=20) (by decide) j;omega
   go_wp2_with (go_at_call 99;(with_reducible refine (afx _ O5 _).mono ?_);rintro e wn ⟨rfl,hbn⟩)
   have hwn:=hwr.below hbn
   have hnn:=hn.below hbn
   have hbm:=hb.trans (hbn.mono hbs)
   have hkm:=hkp.trans (Keep.of_below hbn)
   go_wp2_with (go_at_call 94;(with_reducible refine (add_any _ _ _ _ _ hwn hln).mono ?_);rintro e w3 ⟨rfl,hw3,hb3,hk3⟩)
   have hw4:Wr TW w3 b g (((bl.take (k+1)).map (fun i=>L p++wd bK i)).foldl bf l):=by rw [HX.out];simpa [nO] using hw3
   obtain ⟨vg,TV⟩:=hwn.block
   have hn4:=Nums.keep hnn hk3 TV (by decide)
   have hb4:Below b w w3:=(hbm).trans hb3
   have hk4:Keep g w w3:=(hkm).trans hk3
   clear TV
   go_roundw
   case rel=>exact ⟨k+1,by omega,by go_num,hw4,hb4,hk4,hn4⟩
   case measure=>simp [intOf];omega
  ·obtain rfl:k=bl.length:=by omega
   rw [List.take_length] at hwr
   go_wp2
   go_end0
   exact ⟨rfl,by rw [HD.out];exact hwr,hb,hkp⟩
theorem carry {P:Program} {f:Nat} {args:Array Value} {w w0:World} {R:Ending→Prop} (h:Calls P f args w fun e w'=>R e∧Below w.heap.size w w') (hb:Below w0.heap.size w0 w):
 Calls P f args w fun e w'=>R e∧Below w0.heap.size w0 w':=h.mono fun _ _ h=>⟨h.1,aaC hb h.2⟩
theorem qm {w w2:World} {o:Obj} (hb:Below (w.alloc o).heap.size (w.alloc o) w2) (j:Nat):w2.cell? ⟨w.heap.size,j,none⟩=(w.alloc o).cell? ⟨w.heap.size,j,none⟩:=hb.cell (p:=⟨w.heap.size,j,none⟩) (by simp)
structure aH where
 zone:Int
 who:Int
 self:Int
 types:Int
 aV:Int
 colors:Int
 aP:Int
 sub:ByteArray
 keys:Int
 dJ:Int
 pk:Int
 pn:Int
 tk:Int
 tn:Int
 vk:Int
 vn:Int
def aH.cells (f:aH):Array Value:=#[.int .i64 f.zone, .int .i64 f.who, .int .i64 f.self, .int .i64 f.types, .int .i64 f.aV, .int .i64 f.colors, .int .i64 f.aP, .string f.sub, .int .i64 f.keys, .int .i64 f.dJ, .int .i64 f.pk, .int .i64 f.pn, .int .i64 f.tk, .int .i64 f.tn, .int .i64 f.vk, .int .i64 f.vn]
def bnd (k n:Int):Bool:=jJ k 3&&(jJ n 1000000&&(k != 0 || n==0))
theorem Ze (k n:Int) (w:World):
 Calls Tryz.prog 70 #[.agg #[.int .i64 k, .int .i64 n]] w fun e w'=>e= .returned (.bool (bnd k n))∧Below w.heap.size w w':=by
 have HD:Hid (bnd k n=(jJ k 3&&(jJ n 1000000&&(k != 0 || n==0)))):=rfl
 generalize bnd k n=R at *
 go_enter Tryz.func70,Tryz.ntmps70
 go_wp2_with (go_at_call 68;(with_reducible refine (Lu _ _ _).mono ?_);rintro e w2 ⟨rfl,rfl⟩)
 all_goals
  go_ret
  refine ⟨aX ?_,(Below.refl _ _).alloc (Nat.le_refl _) _⟩
  rw [HD.out];simp_all
def mF (a b most:Int):Bool:=jJ a most&&(jJ b most&&bits .and .i64 a b==0)
def dh (f:aH):Bool:=(jJ f.zone 5&&(jJ f.who 2&&(jJ f.self 2&&(jJ f.dJ 2&&jJ f.keys 131071))))&&(mF f.types f.aV 63&&(mF f.colors f.aP 31&&((L f.sub==[] || nG (L f.sub))&&(bnd f.pk f.pn&&(bnd f.tk f.tn&&bnd f.vk f.vn)))))
theorem wF (zone who self types aV colors aP:Int) (sub:ByteArray) (keys dJ pk pn tk tn vk vn:Int) (w:World) (hl:Laid w) (R:Bool) (HD:Hid (dh ⟨zone,who,self,types,aV,colors,aP,sub,keys,dJ,pk,pn,tk,tn,vk,vn⟩=R)):
 Calls Tryz.prog 26 #[.agg #[.int .i64 zone, .int .i64 who, .int .i64 self, .int .i64 types, .int .i64 aV, .int .i64 colors, .int .i64 aP, .string sub, .int .i64 keys, .int .i64 dJ, .int .i64 pk, .int .i64 pn, .int .i64 tk, .int .i64 tn, .int .i64 vk, .int .i64 vn]] w fun e w'=>e= .returned (.bool R)∧Below w.heap.size w w':=by
 have HD:Hid (R=((jJ zone 5&&(jJ who 2&&(jJ self 2&&(jJ dJ 2&&jJ keys 131071))))&&((jJ types 63&&(jJ aV 63&& !(bits .and .i64 types aV != 0)))&&((jJ colors 31&&(jJ aP 31&& !(bits .and .i64 colors aP != 0)))&&((decide (sub.toList=[]) || nG (L sub))&&(bnd pk pn&&(bnd tk tn&&bnd vk vn))))))):=Lib.hid (by
  have e:decide (sub.toList=[])=(L sub==[]):=by rw [dZ,Bool.eq_iff_iff];simp
  rw [←HD.out,dh,mF,mF,e];simp only [bne,Bool.not_not])
 have HS:Hid (∀w,Laid w→Calls Tryz.prog 69 #[.string sub] w fun e w'=>e= .returned (.bool (nG (L sub)))∧Below w.heap.size w w'):=Lib.hid (fun w hl=>Ua sub w hl)
 generalize nG (L sub)=b3 at *
 have hl1:Laid (w.alloc (.cells #[.int .i64 zone, .int .i64 who, .int .i64 self, .int .i64 types, .int .i64 aV, .int .i64 colors, .int .i64 aP, .string sub, .int .i64 keys, .int .i64 dJ, .int .i64 pk, .int .i64 pn, .int .i64 tk, .int .i64 tn, .int .i64 vk, .int .i64 vn] 25)):=hl.below ((Below.refl _ _).alloc (Nat.le_refl _) _)
 have hb:Hid (Below w.heap.size w (w.alloc (.cells #[.int .i64 zone, .int .i64 who, .int .i64 self, .int .i64 types, .int .i64 aV, .int .i64 colors, .int .i64 aP, .string sub, .int .i64 keys, .int .i64 dJ, .int .i64 pk, .int .i64 pn, .int .i64 tk, .int .i64 tn, .int .i64 vk, .int .i64 vn] 25))):=Lib.hid ((Below.refl _ _).alloc (Nat.le_refl _) _)
 go_enter Tryz.func26,Tryz.ntmps26
 go_wp2_with (first|(go_at_call 68;(with_reducible refine (Lu _ _ _).mono ?_);rintro e w2 ⟨rfl,rfl⟩)|(go_at_call 69;(with_reducible refine (carry (HS.out _ hl1) (Below.refl _ _)).mono ?_);rintro e w2 ⟨rfl,hb2⟩;have hc2:=qm hb2)|(go_at_call 70;(with_reducible refine (carry (Ze _ _ _) (by first|assumption|exact Below.refl _ _)).mono ?_);rintro e w2 ⟨rfl,hb2⟩;have hc2:=qm hb2))
 all_goals
  go_ret
  refine ⟨aX ?_,?_⟩
  ·rw [HD.out];first|(simp [*];done)|(simp_all;done)
  ·first|exact hb.out|exact aaC hb.out (by assumption)
theorem IX (n:Int) (w:World):
 Calls Tryz.prog 260 #[.int .i64 n] w fun e w'=>e= .returned (.int .i64 (jU n))∧w=w':=by
 have HD:Hid (jU n=if n< -1000000 then -1000000 else if 1000000<n then 1000000 else n):=rfl
 generalize jU n=R at *
 by_cases h1:n< -1000000
 ·have h2:¬1000000<n:=by omega
  go_enter Tryz.func260,Tryz.ntmps260
  go_wp2
  go_ret
  exact ⟨jg (by rw [HD.out];omega),rfl⟩
 ·by_cases h2:1000000<n
  ·go_enter Tryz.func260,Tryz.ntmps260
   go_wp2
   go_ret
   exact ⟨jg (by rw [HD.out];omega),rfl⟩
  ·go_enter Tryz.func260,Tryz.ntmps260
   go_wp2
   go_ret
   exact ⟨jg (by rw [HD.out];omega),rfl⟩
def numOf (s:Str):Option Int:=match Lib.atoiAll s with
 | .ok v=>if -1000000≤v∧v≤1000000∧Lib.itoa v=s then some v else none
 |_=>none
def lM (o:Option Int):Value:=match o with|some v=> .tuple #[.int .i64 v, .bool true]|none=> .tuple #[.int .i64 0, .bool false]
theorem XG {s:Str} {v:Int} (h:Lib.atoiAll s= .ok v):numOf s=if -1000000≤v∧v≤1000000∧Lib.itoa v=s then some v else none:=by unfold numOf;rw [h]
theorem aiG {s:Str} (h:∀v,Lib.atoiAll s≠ .ok v):numOf s=none:=by
 unfold numOf;split
 ·rename_i v hv;exact absurd hv (h v)
 ·rfl
theorem Gv (s:ByteArray) (w:World) (hl:Laid w) (hs:s.size<4294967281):
 Calls Tryz.prog 208 #[.string s] w fun e w'=>e= .returned (lM (numOf (L s)))∧Below w.heap.size w w':=by
 by_cases hok:∃v,Lib.atoiAll (L s)= .ok v
 ·obtain ⟨v,hv⟩:=hok
  have HD:=Lib.hid (XG hv)
  have HV:=Lib.hid hv;clear hv
  have hA:Calls Tryz.prog 259 #[.string s] w fun e w'=>e= .returned (.tuple #[.int .i64 v, .nilIface])∧Below w.heap.size w w':=
   (Wh s w hl hs).mono fun e w' ⟨hb,h⟩=>⟨by
    rcases h with ⟨v',h1,he⟩|⟨h1,_⟩
    ·rw [HV.out] at h1;cases h1;exact he
    ·exact absurd HV.out (h1 v),hb⟩
  have HA:=Lib.hid hA;clear hA
  generalize numOf (L s)=R at *
  by_cases h1: -1000000≤v∧v≤1000000
  ·have hc:Hid (jU v=v):=Lib.hid (by unfold jU;rw [if_neg (by omega),if_neg (by omega)])
   obtain ⟨h2,h3⟩:=h1
   by_cases ht:Lib.itoa v=L s
   ·have t1:=iO ht
    have HD2:Hid (R=some v):=Lib.hid (by rw [HD.out,if_pos ⟨h2,h3,ht⟩])
    clear ht HD
    go_enter Tryz.func208,Tryz.ntmps208
    go_wp2_with (first|(go_at_call 259;(with_reducible refine HA.out.mono ?_);rintro e w1 ⟨rfl,hb1⟩;have hl1:=hl.below hb1)|(go_at_call 260;(with_reducible refine (IX _ _).mono ?_);rintro e w2 ⟨rfl,rfl⟩;rw [hc.out])|(go_at_call 63;(with_reducible refine (nH _ (by omega) (by omega) _ hl1).mono ?_);rintro e w3 ⟨rfl,hb3⟩))
    go_ret2
    exact ⟨ret_val (by rw [HD2.out];rfl),aaC hb1 hb3⟩
   ·have t1:=jH ht
    have HD2:Hid (R=none):=Lib.hid (by rw [HD.out,if_neg (fun h=>ht h.2.2)])
    clear ht HD
    go_enter Tryz.func208,Tryz.ntmps208
    go_wp2_with (first|(go_at_call 259;(with_reducible refine HA.out.mono ?_);rintro e w1 ⟨rfl,hb1⟩;have hl1:=hl.below hb1)|(go_at_call 260;(with_reducible refine (IX _ _).mono ?_);rintro e w2 ⟨rfl,rfl⟩;rw [hc.out])|(go_at_call 63;(with_reducible refine (nH _ (by omega) (by omega) _ hl1).mono ?_);rintro e w3 ⟨rfl,hb3⟩))
    go_ret2
    exact ⟨ret_val (by rw [HD2.out];rfl),aaC hb1 hb3⟩
  ·have hc:(v==jU v)=false:=by
    simp only [beq_eq_false_iff_ne,ne_eq];unfold jU;split
    ·omega
    ·split<;>omega
   have hc2:(v != jU v)=true:=by rw [bne,hc];rfl
   have HD2:Hid (R=none):=Lib.hid (by rw [HD.out,if_neg (fun h=>h1 ⟨h.1,h.2.1⟩)])
   clear h1 HD hc
   go_enter Tryz.func208,Tryz.ntmps208
   go_wp2_with (first|(go_at_call 259;(with_reducible refine HA.out.mono ?_);rintro e w1 ⟨rfl,hb1⟩;have hl1:=hl.below hb1)|(go_at_call 260;(with_reducible refine (IX _ _).mono ?_);rintro e w2 ⟨rfl,rfl⟩))
   go_ret2
   exact ⟨ret_val (by rw [HD2.out];rfl),hb1⟩
 ·have hno:∀v,Lib.atoiAll (L s)≠ .ok v:=fun v h=>hok ⟨v,h⟩
  have HD:Hid (numOf (L s)=none):=Lib.hid (aiG hno)
  have HN:=Lib.hid hno;clear hno hok
  have hA:Calls Tryz.prog 259 #[.string s] w fun e w'=>(∃v t p,e= .returned (.tuple #[.int .i64 v, .iface t p]))∧Below w.heap.size w w':=
   (Wh s w hl hs).mono fun e w' ⟨hb,h⟩=>⟨by
    rcases h with ⟨v',h1,he⟩|⟨_,v,t,p,he⟩
    ·exact absurd h1 (HN.out v')
    ·exact ⟨v,t,p,he⟩,hb⟩
  have HA:=Lib.hid hA;clear hA
  generalize numOf (L s)=R at *
  go_enter Tryz.func208,Tryz.ntmps208
  go_wp2_with (go_at_call 259;(with_reducible refine HA.out.mono ?_);rintro e w1 ⟨⟨v,t,p,rfl⟩,hb1⟩)
  go_ret2
  exact ⟨ret_val (by rw [HD.out];rfl),hb1⟩
def bP (d:Nat) (c:Nat):Nat:=if c=40∨c=91 then d+1 else if c=41∨c=93 then d - 1 else d
theorem Ai (d c:Nat) (hd:d<1000000000000) (w:World):
 Calls Tryz.prog 201 #[.int .i64 d, .int .u8 c] w fun e w'=>e= .returned (.int .i64 (bP d c:Nat))∧w=w':=by
 by_cases h1:c=40
 ·subst h1
  go_enter Tryz.func201,Tryz.ntmps201
  go_wp2
  go_ret
  exact ⟨jg (by simp [bP]),rfl⟩
 by_cases h2:c=91
 ·subst h2
  go_enter Tryz.func201,Tryz.ntmps201
  go_wp2
  go_ret
  exact ⟨jg (by simp [bP]),rfl⟩
 have n1:(((c:Nat):Int)==40)=false:=by simp only [beq_eq_false_iff_ne,ne_eq];omega
 have n2:(((c:Nat):Int)==91)=false:=by simp only [beq_eq_false_iff_ne,ne_eq];omega
 have H1:=Lib.hid h1;have H2:=Lib.hid h2;clear h1 h2
 by_cases h3:c=41∨c=93
 ·have HD:Hid (bP d c=d - 1):=by rw [bP,if_neg (by have:=H1.out;have:=H2.out;omega),if_pos h3];rfl
  have hm:(d=0∧bP d c=0)∨(0<d∧((bP d c:Nat):Int)=(d:Int) - 1):=by rw [HD.out];omega
  generalize bP d c=R at *
  rcases h3 with rfl|rfl<;>rcases hm with ⟨rfl,rfl⟩|⟨hp,hm⟩
  all_goals
   go_enter Tryz.func201,Tryz.ntmps201
   go_wp2
   go_ret
   exact ⟨jg (by omega),rfl⟩
 ·have n3:(((c:Nat):Int)==41)=false:=by simp only [beq_eq_false_iff_ne,ne_eq];omega
  have n4:(((c:Nat):Int)==93)=false:=by simp only [beq_eq_false_iff_ne,ne_eq];omega
  have HD:Hid (bP d c=d):=by rw [bP,if_neg (by have:=H1.out;have:=H2.out;omega),if_neg h3];rfl
  clear h3
  go_enter Tryz.func201,Tryz.ntmps201
  go_wp2
  go_ret
  exact ⟨jg (by rw [HD.out]),rfl⟩
def splitAux (b:Nat):Nat→Str→Str→List Str
 |_,cur,[]=>[cur]
 |d,cur,c::r=>if c.toNat=b∧d=0 then cur::splitAux b (bP d c.toNat) [] r else splitAux b (bP d c.toNat) (cur++[c]) r
def eX (b:Nat) (s:Str):List Str:=splitAux b 0 [] s
theorem xR (b:Nat):∀(s:Str) (d:Nat) (cur:Str),(splitAux b d cur s).length≤s.length+1
 |[],_,_=>by simp [splitAux]
 |c::r,d,cur=>by
  unfold splitAux;split
  ·have:=xR b r (bP d c.toNat) [];simp;omega
  ·have:=xR b r (bP d c.toNat) (cur++[c]);simp;omega
theorem FU (d c:Nat):bP d c≤d+1:=by
 unfold bP
 by_cases h1:c=40∨c=91
 ·rw [if_pos h1]
  exact Nat.le_refl _
 ·rw [if_neg h1]
  by_cases h2:c=41∨c=93
  ·rw [if_pos h2];omega
  ·rw [if_neg h2];omega
theorem Fj (l:Str) {a k:Nat} (ha:a≤k) (hk:k<l.length):(l.take (k+1)).drop a=(l.take k).drop a++[l[k]]:=by
 rw [List.take_succ_eq_append_getElem hk,List.drop_append_of_le_length (by simp;omega)]
theorem dM (s:ByteArray) (a b:Nat):L (s.extract a b)=((L s).take b).drop a:=by
 have h:=Lib.extract_data s a b
 show (s.extract a b).data.toList=_
 rw [h,L,List.drop_take]
theorem Iz {b d k:Nat} {cur l:Str} (hk:k<l.length):splitAux b d cur (l.drop k)=if aI l k=b∧d=0 then cur::splitAux b (bP d (aI l k)) [] (l.drop (k+1)) else splitAux b (bP d (aI l k)) (cur++[l[k]]) (l.drop (k+1)):=by
 rw [List.drop_eq_getElem_cons hk,splitAux]
 simp [aI,List.getD,hk]
theorem QG (s:ByteArray) (b:Nat) (hb:b<256) (hnb:b≠40∧b≠41∧b≠91∧b≠93) (hs:s.size<100000000) (w:World):
 Calls Tryz.prog 130 #[.string s, .int .u8 b] w (kR w (eX b (L s))):=by
 obtain ⟨c0,rfl⟩:∃c0:UInt8,b=c0.toNat:=⟨UInt8.ofNat b,by simp;omega⟩
 have hix:Lib.indexByte [40,41,91,93] c0= -1:=by
  have:∀x:Nat,x≠c0.toNat→x<256→((UInt8.ofNat x:UInt8)==c0)=false:=fun x h1 h2=>by
   simp only [beq_eq_false_iff_ne,ne_eq];intro e;apply h1;rw [←e];simp;omega
  have a1:=this 40 (by omega) (by omega);have a2:=this 41 (by omega) (by omega);have a3:=this 91 (by omega) (by omega);have a4:=this 93 (by omega) (by omega)
  simp [Lib.indexByte] at *
  simp [a1,a2,a3,a4]
 have HL:=xR c0.toNat (L s) 0 []
 rw [dN] at HL
 have HD:Hid (eX c0.toNat (L s)=splitAux c0.toNat 0 [] (L s)):=rfl
 have hg:=jm s
 have HS:=Lib.hid (show splitAux c0.toNat 0 [] (L s)=[]++splitAux c0.toNat 0 ([]:Str) ((L s).drop 0) by simp)
 have hlen:(eX c0.toNat (L s)).length≤s.size+1:=HL
 clear HL
 generalize eX c0.toNat (L s)=R at *
 go_enter Tryz.func130,Tryz.ntmps130
 go_wp2_with (go_at_call 205;refine (pV _ c0 _).mono ?_;rintro e w2 ⟨rfl,rfl⟩;have hix2:Lib.indexByte (L ⟨#[40,41,91,93]⟩) c0= -1:=hix)
 clear hix
 go_loopw [5,6,7,8] (fun v bg d i wr=>∃k a dd:Nat,∃done:List Str,k≤s.size∧a≤k∧dd≤k∧i= .int .i64 k∧bg= .int .i64 a∧d= .int .i64 dd∧Texts wr w.heap.size done v∧Below w.heap.size w wr∧done.length≤k∧Hid (R=done++splitAux c0.toNat dd (((L s).take k).drop a) ((L s).drop k))) (fun _ _ _ i _=>s.size - (intOf i).toNat)
 case atStart=>exact ⟨0,0,0,[],by omega,by omega,by omega,rfl,rfl,rfl,Texts.nil _ _,Below.refl _ _,by simp,Lib.hid (by rw [HD.out];simp)⟩
 case round=>
  obtain ⟨k,a,dd,done,hk,ha,hdd,rfl,rfl,rfl,hown,hbl,hdl,HR⟩:=hrel
  have hsz:=hbl.size
  by_cases hlt:k<s.size
  ·have hkl:k<(L s).length:=by rw [dN];exact hlt
   have HST:=Lib.hid (Iz (b:=c0.toNat) (d:=dd) (cur:=((L s).take k).drop a) hkl)
   have hdn:=FU dd (aI (L s) k)
   by_cases hyes:aI (L s) k=c0.toNat∧dd=0
   ·have HR2:Hid (R=(done++[((L s).take k).drop a])++splitAux c0.toNat (bP dd (aI (L s) k)) (((L s).take (k+1)).drop (k+1)) ((L s).drop (k+1))):=Lib.hid (by
     rw [HR.out,HST.out,if_pos hyes,show ((L s).take (k+1)).drop (k+1)=[] from by simp [List.drop_eq_nil_of_le]];simp)
    have t1:(((aI (L s) k:Nat):Int)==(c0.toNat:Int))=true:=by simp only [beq_iff_eq];omega
    have t2:(((dd:Nat):Int)==0)=true:=by simp only [beq_iff_eq];omega
    have hexL:Hid (L (s.extract a k)=((L s).take k).drop a):=dM s a k
    have hln:done.length<1000000000:=by omega
    have ain:dd<1000000000000:=by omega
    generalize hdp:bP dd (aI (L s) k)=dd' at *
    have Hdp:=Lib.hid hdp;clear hdp hyes HST
    go_wp2_with (first|(at_builtin;refine dH rfl (.tmp 29) (.tmp 34) 73 rfl Tryz.underlying73 jB rfl rfl hown hln hsz ?_;intro v' w2 hown2 hb2)|(go_at_call 201;refine (Ai dd (aI (L s) k) ain _).mono ?_;rw [Hdp.out];rintro e w3 ⟨rfl,rfl⟩))
    have hb3:Below w.heap.size w w2:=hbl.trans hb2
    have arQ:dd'≤k+1:=by omega
    have arP:(done++[L (s.extract a k)]).length≤k+1:=by simp;omega
    rw [←hexL.out] at HR2
    go_roundw
    case rel=>exact ⟨k+1,k+1,dd',_,by omega,by omega,by omega,by go_num,by go_num,rfl,hown2,hb3,arP,HR2⟩
    case measure=>simp [intOf];omega
   ·have HR2:Hid (R=done++splitAux c0.toNat (bP dd (aI (L s) k)) (((L s).take (k+1)).drop a) ((L s).drop (k+1))):=Lib.hid (by
     rw [HR.out,HST.out,if_neg hyes,Fj (L s) ha hkl])
    have ain:dd<1000000000000:=by omega
    have ht:(((aI (L s) k:Nat):Int)==(c0.toNat:Int))=false∨((((aI (L s) k:Nat):Int)==(c0.toNat:Int))=true∧(((dd:Nat):Int)==0)=false):=by
     simp only [beq_eq_false_iff_ne,ne_eq,beq_iff_eq];omega
    generalize hdp:bP dd (aI (L s) k)=dd' at *
    have Hdp:=Lib.hid hdp;clear hdp hyes HST
    have arQ:dd'≤k+1:=by omega
    rcases ht with t1|⟨t1,t2⟩
    all_goals
     go_wp2_with (go_at_call 201;refine (Ai dd (aI (L s) k) ain _).mono ?_;rw [Hdp.out];rintro e w3 ⟨rfl,rfl⟩)
     go_roundw
     case rel=>exact ⟨k+1,a,dd',done,by omega,by omega,by omega,by go_num,rfl,rfl,hown,hbl,by omega,HR2⟩
     case measure=>simp [intOf];omega
  ·obtain rfl:k=s.size:=by omega
   have hexL:Hid (L (s.extract a s.size)=((L s).take s.size).drop a):=dM s a s.size
   have HR2:Hid (R=done++[L (s.extract a s.size)]):=Lib.hid (by
    rw [HR.out,hexL.out,←dN,List.drop_length];rfl)
   have hln:done.length<1000000000:=by omega
   go_wp2_with (at_builtin;refine dH rfl (.tmp 43) (.tmp 47) 73 rfl Tryz.underlying73 jB rfl rfl hown hln hsz ?_;intro v' w2 hown2 hb2;obtain ⟨A2,c2,rfl,hcc⟩:=hown2.form)
   go_ret
   have hRl:R.length=done.length+1:=by rw [HR2.out];simp
   rw [←HR2.out] at hown2
   exact ⟨A2,c2,by rw [hRl];rfl,hown2,hbl.trans hb2⟩
def dA (m:Nat):Str:=if m=0 then pJ else Lib.join (bV bK m) [43]
theorem afw (m:Nat) (w:World):
 Calls Tryz.prog 225 #[.int .i64 m] w fun e w'=>e= .returned (.bool (decide (m≤131071)))∧w=w':=by
 by_cases h:m≤131071
 ·have h1:((m:Nat):Int)≤131071:=by omega
  rw [decide_eq_true h];clear h
  go_enter Tryz.func225,Tryz.ntmps225
  go_wp2
  go_ret
  exact ⟨rfl,rfl⟩
 ·have h1:¬((m:Nat):Int)≤131071:=by omega
  rw [decide_eq_false h];clear h
  go_enter Tryz.func225,Tryz.ntmps225
  go_wp2
  go_ret
  exact ⟨aX (by simp),rfl⟩
theorem ZJ (l:List Str) (A:Option Addr) (c base:Nat) (w:World) (h:Texts w base l (.slice A l.length c)) (hN:l.length≤100000000) (hlen:(Lib.join l [43]).length≤140737488355328):
 Calls Tryz.prog 41 #[.slice A l.length c, .string ⟨#[43]⟩] w fun e w'=>e= .returned (.string (B (Lib.join l [43])))∧Below w.heap.size w w':=by
 go_enter Tryz.func41,Tryz.ntmps41
 go_wp2_with (go_at_call 101;(with_reducible refine (tH _ _ _ _ _ _ h hN [43] rfl hlen).mono ?_);rintro e w2 ⟨rfl,hb2⟩)
 go_ret
 exact ⟨rfl,hb2⟩
theorem Gn (i:Nat) (hi:i<17) (w:World):
 Calls Tryz.prog 99 #[.int .i64 i] w fun e w'=>e= .returned (.string (B (wd bK i)))∧Below w.heap.size w w':=L9 i hi w
theorem Eu (m:Nat) (hm:m<2 ^ 17) (w:World):
 Calls Tryz.prog 157 #[.int .i64 m] w fun e w'=>e= .returned (.string (B (dA m)))∧Below w.heap.size w w':=by
 have hall:∀k (h:k<(aK m 31).length),(aK m 31).getD k 0<17:=fun k h=>by
  rw [show (aK m 31).getD k 0=(aK m 31)[k] by simp [List.getD,h]];exact uw hm (List.getElem_mem h)
 have hle:=nD m 31
 have hdm:decide (m≤131071)=true:=by rw [decide_eq_true_eq];omega
 have hmw:Hid (bV bK m=(aK m 31).map (fun i=>wd bK i)):=rfl
 have hjl:Hid ((Lib.join (bV bK m) [43]).length≤140737488355328):=by
  have h1:=join_le [43] 20 _ (xC (m:=m) (show ∀x∈bK,x.length≤20 by decide))
  have h2:=pW bK m
  simp only [List.length_cons,List.length_nil] at h1;show _≤_;omega
 have h0:Hid (m=0↔aK m 31=[]):=⟨fun h=>by subst h;decide,fun h=>by
  apply Nat.eq_of_testBit_eq
  intro i
  rw [Nat.zero_testBit]
  cases hb:m.testBit i
  ·rfl
  ·have hi:i<31:=by
    rcases Nat.lt_or_ge i 31 with h'|h'
    ·exact h'
    ·rw [Nat.testBit_lt_two_pow (Nat.lt_of_lt_of_le hm (Nat.pow_le_pow_right (by omega) (by omega)))] at hb;cases hb
   have:i∈aK m 31:=by unfold aK;simp [hi,hb]
   rw [h] at this;simp at this⟩
 have HD:Hid (dA m=if m=0 then pJ else Lib.join (bV bK m) [43]):=rfl
 generalize dA m=R at *
 go_enter Tryz.func157,Tryz.ntmps157
 go_wp2_with (first|(go_at_call 225;(with_reducible refine (afw _ _).mono ?_);rintro e w0 ⟨rfl,rfl⟩)|(go_at_call 178;(with_reducible refine (IU _ _ (by omega)).mono ?_);rintro e w1 ⟨A,c,rfl,hc,hn1,hb1⟩))
 generalize aK m 31=bl at *
 have hsz1:=hb1.size
 go_loopw [3,12] (fun v i wr=>∃k:Nat,k≤bl.length∧i= .int .i64 k∧Texts wr w1.heap.size ((bl.take k).map (fun i=>wd bK i)) v∧Below w1.heap.size w1 wr) (fun _ i _=>bl.length - (intOf i).toNat)
 case atStart=>exact ⟨0,by omega,rfl,Texts.nil _ _,Below.refl _ _⟩
 case round=>
  obtain ⟨k,hk,rfl,hown,hb⟩:=hrel
  have hsz:=hb.size
  by_cases hlt:k<bl.length
  ·obtain ⟨g,rfl,hg,hcl⟩:=hn1.at_ hlt
   have hcell:=yT hb hg hcl
   have O5:=hall k hlt
   have HX:=Lib.hid (Aa (fun i=>wd bK i) bl k hlt)
   have hln:((bl.take k).map (fun i=>wd bK i)).length<1000000000:=by rw [List.length_map,List.length_take];omega
   rw [show bl[k]=bl.getD k 0 by simp [List.getD,hlt]] at hcell HX
   clear hcl hall hmw hjl h0 HD
   generalize bl.getD k 0=j at *
   go_wp2_with (first|(go_at_call 99;(with_reducible refine (Gn _ O5 _).mono ?_);rintro e wn ⟨rfl,hbn⟩;have aqu:=hown.below hbn;have arY:=Nat.le_trans hsz hbn.size)|(at_builtin;refine dH rfl (.tmp 16) (.tmp 19) 73 rfl Tryz.underlying73 jB rfl rfl aqu hln arY ?_;intro v' w2 hown2 hb2))
   have hown3:Texts w2 w1.heap.size ((bl.take (k+1)).map (fun i=>wd bK i)) v':=by rw [HX.out];exact hown2
   have hb3:Below w1.heap.size w1 w2:=(oK hb hbn hsz).trans hb2
   go_roundw
   case rel=>exact ⟨k+1,by omega,by go_num,hown3,hb3⟩
   case measure=>simp [intOf];omega
  ·obtain rfl:k=bl.length:=by omega
   rw [List.take_length] at hown
   have acG:=hmw.out
   rw [←acG] at hown
   have aof:=hjl.out
   have hbe:=oK hb1 hb hsz1
   have aip:(bV bK m).length=bl.length:=by rw [acG,List.length_map]
   have hN:(bV bK m).length≤100000000:=by omega
   obtain ⟨A2,c2,rfl,_⟩:=hown.form
   by_cases hm0:bl=[]
   ·have hl0:(bV bK m).length=0:=by rw [aip,hm0];rfl
    have HD2:Hid (R=pJ):=by rw [HD.out,if_pos (h0.out.2 hm0)];rfl
    clear hmw acG HD h0 hm0 hall aof hN aip
    go_wp2
    go_ret
    exact ⟨dV (by rw [HD2.out];rfl),hbe⟩
   ·have hl0:(((bV bK m).length:Int)==0)=false:=by
     simp only [beq_eq_false_iff_ne,ne_eq];intro e;apply hm0;exact List.eq_nil_of_length_eq_zero (by omega)
    have HD2:Hid (R=Lib.join (bV bK m) [43]):=by rw [HD.out,if_neg (fun e=>hm0 (h0.out.1 e))];rfl
    clear hmw acG HD h0 hm0 hall aip
    go_wp2_with (go_at_call 41;(with_reducible refine (ZJ _ _ _ _ _ hown hN aof).mono ?_);rintro e w3 ⟨rfl,hb3⟩)
    go_ret
    exact ⟨dV (by rw [HD2.out]),aaC hbe hb3⟩
def EX (part:Str) (a i:Nat):Nat:=if wd bK i=part then a |||2 ^ i else a
def nY (part:Str) (k acc:Nat):Nat:=(List.range k).foldl (EX part) acc
theorem L8 (part:Str) (k acc:Nat):nY part (k+1) acc=EX part (nY part k acc) k:=by
 unfold nY;rw [List.range_succ,List.foldl_append];rfl
theorem Jt (part:Str):∀k acc,k≤17→acc<2 ^ 17→nY part k acc<2 ^ 17
 |0,acc,_,h=>h
 |k+1,acc,hk,h=>by
  rw [L8];unfold EX
  have ih:=Jt part k acc (by omega) h
  split
  ·exact Nat.or_lt_two_pow ih (Nat.pow_lt_pow_right (by omega) (by omega))
  ·exact ih
def jI (ps:List Str):Nat:=ps.foldl (fun a p=>nY p 17 a) 0
theorem Vh (l:List Str) (k:Nat) (h:k<l.length):jI (l.take (k+1))=nY l[k] 17 (jI (l.take k)):=by
 unfold jI;rw [List.take_succ_eq_append_getElem h,List.foldl_append];rfl
theorem Mc (l:List Str):jI l<2 ^ 17:=by
 have:∀(l:List Str) (a:Nat),a<2 ^ 17→l.foldl (fun a p=>nY p 17 a) a<2 ^ 17:=by
  intro l
  induction l with
  |nil=>intro a h;exact h
  |cons x r ih=>intro a h;exact ih _ (Jt x 17 a (Nat.le_refl _) h)
 exact this l 0 (by decide)
def xJ (s:Str):Option Nat:=if dA (jI (eX 43 s))=s then some (jI (eX 43 s)) else none
theorem YP {a:Str} {s:Str} (h:a=s):(a==s)=true:=by simpa using h
theorem aas {a:Str} {s:Str} (h:¬a=s):(a==s)=false:=by simpa using h
theorem aaz (s:ByteArray) (hs:s.size<100000000) (w:World):
 Calls Tryz.prog 130 #[.string s, .int .u8 43] w (kR w (eX 43 (L s))):=QG s 43 (by omega) (by omega) hs w
theorem Cc (s:ByteArray) (w:World) (hs:s.size<100000000):
 Calls Tryz.prog 242 #[.string s] w fun e w'=>e= .returned (PY (xJ (L s)))∧Below w.heap.size w w':=by
 have hlen:(eX 43 (L s)).length≤s.size+1:=by have:=xR 43 (L s) 0 [];rw [dN] at this;exact this
 have HD:Hid (xJ (L s)=if dA (jI (eX 43 (L s)))=L s then some (jI (eX 43 (L s))) else none):=rfl
 generalize xJ (L s)=R at *
 go_enter Tryz.func242,Tryz.ntmps242
 go_wp2_with (go_at_call 130;(with_reducible refine (aaz _ hs _).mono ?_);rintro e w1 ⟨A,c,rfl,ht,hb1⟩)
 generalize eX 43 (L s)=ws at *
 have hsz1:=hb1.size
 go_loopw [4,11] (fun m i wr=>∃k:Nat,k≤ws.length∧i= .int .i64 k∧m= .int .i64 (jI (ws.take k):Nat)∧Below w1.heap.size w1 wr) (fun _ i _=>ws.length - (intOf i).toNat)
 case atStart=>exact ⟨0,by omega,rfl,rfl,Below.refl _ _⟩
 case round=>
  obtain ⟨k,hk,rfl,rfl,hb⟩:=hrel
  have hsz:=hb.size
  by_cases hlt:k<ws.length
  ·obtain ⟨g,rfl,hg,hcl⟩:=ht.at_ hlt
   have hcell:=yT hb hg hcl
   have HX:=Lib.hid (Vh ws k hlt)
   have hac:=Mc (ws.take k)
   clear hcl ht
   generalize ws[k]=x at *
   generalize jI (ws.take k)=acc at *
   go_wp2
   obtain ⟨wo,rfl⟩:∃wo:World,wo=wr:=⟨_,rfl⟩
   go_loopw [4,15] (fun m i wi=>∃j:Nat,j≤17∧i= .int .i64 j∧m= .int .i64 (nY x j acc:Nat)∧Below wo.heap.size wo wi) (fun _ i _=>17 - (intOf i).toNat)
   case atStart=>exact ⟨0,by omega,rfl,rfl,Below.refl _ _⟩
   case round=>
    obtain ⟨j,hj,rfl,rfl,hbi⟩:=hrel
    by_cases hlj:j<17
    ·have HS:=Lib.hid (L8 x j acc)
     have atb:=Jt x j acc (by omega) hac
     have hpw:=Dp (k:=j) (by omega)
     obtain ⟨pj,hpj⟩:∃pj:Nat,pj=2 ^ j:=⟨_,rfl⟩
     rw [←hpj] at hpw
     have atd:pj<2 ^ 17:=by rw [hpj];exact Nat.pow_lt_pow_right (by omega) (by omega)
     have hor:=Gi (nY x j acc) pj (by omega) (by omega)
     have HPJ:=Lib.hid hpj;clear hpj
     by_cases he:wd bK j=x
     ·have t1:=YP he
      have HN:Hid (nY x (j+1) acc=nY x j acc |||pj):=by rw [HS.out,EX,if_pos he,HPJ.out];rfl
      clear he HS
      generalize nY x j acc=aj at *
      go_wp2_with (go_at_call 99;(with_reducible refine (Gn _ hlj _).mono ?_);rintro e wn ⟨rfl,hbn⟩)
      have hb3:=oK hbi hbn hbi.size
      go_roundw
      case rel=>exact ⟨j+1,by omega,by go_num,by rw [HN.out],hb3⟩
      case measure=>simp [intOf];omega
     ·have t1:=aas he
      have HN:Hid (nY x (j+1) acc=nY x j acc):=by rw [HS.out,EX,if_neg he];rfl
      clear he HS
      generalize nY x j acc=aj at *
      go_wp2_with (go_at_call 99;(with_reducible refine (Gn _ hlj _).mono ?_);rintro e wn ⟨rfl,hbn⟩)
      have hb3:=oK hbi hbn hbi.size
      go_roundw
      case rel=>exact ⟨j+1,by omega,by go_num,by rw [HN.out],hb3⟩
      case measure=>simp [intOf];omega
    ·obtain rfl:j=17:=by omega
     have hb4:Below w1.heap.size w1 wr:=oK hb hbi hsz
     go_wp2
     go_roundw
     case rel=>exact ⟨k+1,by omega,by go_num,by rw [HX.out],hb4⟩
     case measure=>simp [intOf];omega
  ·obtain rfl:k=ws.length:=by omega
   have hE:ws.take ws.length=ws:=List.take_length
   rw [hE];clear hE
   have hbe:=oK hb1 hb hsz1
   have hkl:=Mc ws
   by_cases h1:dA (jI ws)=L s
   ·have t1:=iO h1
    have HD2:Hid (R=some (jI ws)):=by rw [HD.out,if_pos h1];rfl
    clear h1 HD
    generalize jI ws=m at *
    go_wp2_with (go_at_call 157;(with_reducible refine (Eu _ hkl _).mono ?_);rintro e w2 ⟨rfl,hb2⟩)
    go_ret2
    exact ⟨ret_val (by rw [HD2.out];rfl),aaC hbe hb2⟩
   ·have t1:=jH h1
    have HD2:Hid (R=none):=by rw [HD.out,if_neg h1];rfl
    clear h1 HD
    generalize jI ws=m at *
    go_wp2_with (go_at_call 157;(with_reducible refine (Eu _ hkl _).mono ?_);rintro e w2 ⟨rfl,hb2⟩)
    go_ret2
    exact ⟨ret_val (by rw [HD2.out];rfl),aaC hbe hb2⟩
abbrev TR:Nat:=184
def Rd (w:World) (b g:Nat) (f:aH):Prop:=w.heap[g]? =some (.cells f.cells TR (0,0))∧b≤g
theorem Rd.lt {w:World} {b g:Nat} {f:aH} (h:Rd w b g f):g<w.heap.size:=(Array.getElem?_eq_some_iff.1 h.1).1
theorem Rd.cell {w:World} {b g:Nat} {f:aH} (h:Rd w b g f) (j:Nat):w.cell? ⟨g,j,none⟩=f.cells[j]? :=cell_of_row w g j f.cells TR (0,0) h.1
theorem Rd.free {w:World} {b g:Nat} {f:aH} (h:Rd w b g f) (j:Nat):w.frozen? ⟨g,j,none⟩=false:=by simp [World.frozen?,h.1]
theorem Rd.fO {w:World} {b g:Nat} {f f':aH} (h:Rd w b g f) (j:Nat) (u:Value) (hf:f.cells.setIfInBounds j u=f'.cells):Rd (w.setCell ⟨g,j,none⟩ u) b g f':=by
 refine ⟨?_,h.2⟩
 rw [←hf];simp [World.setCell,Array.getElem?_modify,h.1]
theorem Rd.below {w w':World} {b g:Nat} {f:aH} (h:Rd w b g f) (hb:Below w.heap.size w w'):Rd w' b g f:=⟨(hb.block g h.lt).trans h.1,h.2⟩
structure Fr (g b:Nat) (w w':World):Prop where
 bel:Below b w w'
 keep:∀k,k<w.heap.size→k≠g→w'.heap[k]? =w.heap[k]?
theorem Fr.refl (g b:Nat) (w:World):Fr g b w w:=⟨Below.refl _ _,fun _ _ _=>rfl⟩
theorem Fr.of {g b:Nat} {w w':World} (h:Below w.heap.size w w') (hb:b≤w.heap.size):Fr g b w w':=⟨h.mono hb,fun k hk _=>h.block k hk⟩
theorem Fr.trans {g b:Nat} {a c d:World} (h:Fr g b a c) (k:Fr g b c d):Fr g b a d:=⟨h.bel.trans k.bel,fun i hi hg=>(k.keep i (Nat.lt_of_lt_of_le hi h.bel.size) hg).trans (h.keep i hi hg)⟩
theorem Fr.setCell {g b:Nat} {w w':World} (h:Fr g b w w') {o:Nat} (hg:b≤g) (u:Value):Fr g b w (w'.setCell ⟨g,o,none⟩ u):=⟨h.bel.setCell hg u,fun k hk hkg=>(Below.heap_setCell _ _ _ _ hkg).trans (h.keep k hk hkg)⟩
theorem Fr.alloc {g b:Nat} {w w':World} (h:Fr g b w w') (hb:b≤w'.heap.size) (o:Obj):Fr g b w (w'.alloc o):=⟨h.bel.alloc hb o,fun k hk hkg=>(Below.heap_alloc _ _ _ (Nat.lt_of_lt_of_le hk h.bel.size)).trans (h.keep k hk hkg)⟩
theorem Fr.drew {g b:Nat} {w w':World} (h:Fr g b w w'):Fr g b w w'.drew:=⟨h.bel.drew,h.keep⟩
def fP (s:Str):Option Nat:=(List.range' 1 5).find? fun z=>wd bU z==s
def wO (f:aH) (s:Str):Option aH:=match fP s with
 |some z=>some { f with zone:=(z:Int) }
 |none=>if s=wd iQ 1 then some { f with who:=1 } else if s=wd iQ 2 then some { f with who:=2 } else if s=wd fU 1 then some { f with self:=1 } else if s=wd fU 2 then some { f with self:=2 }
  else if s=wd iP 1 then some { f with dJ:=1 } else if s=wd iP 2 then some { f with dJ:=2 } else none
theorem P9 (r:Str) (m:Nat) (h:xM r=some m) (w:World) (hl:Laid w) (hs:r.length<4294967281):
 Calls Tryz.prog 287 #[.string (B r)] w fun e w'=>e= .returned (.tuple #[.int .i64 (m:Nat), .int .i64 0])∧Below w.heap.size w w':=
 (yH (B r) w hl (by rw [bC];exact hs)).mono fun e w' ⟨he,hb⟩=>⟨by rw [he,cO,h];rfl,hb⟩
theorem xI (r:Str) (h:xM r=none) (w:World) (hl:Laid w) (hs:r.length<4294967281):
 Calls Tryz.prog 287 #[.string (B r)] w fun e w'=>e= .returned (.tuple #[.int .i64 0, .int .i64 3])∧Below w.heap.size w w':=
 (yH (B r) w hl (by rw [bC];exact hs)).mono fun e w' ⟨he,hb⟩=>⟨by rw [he,cO,h];rfl,hb⟩
theorem OD (r:Str) (m:Nat) (h:pO r=some m) (w:World) (hl:Laid w):
 Calls Tryz.prog 288 #[.string (B r)] w fun e w'=>e= .returned (.tuple #[.int .i64 (m:Nat), .int .i64 0])∧Below w.heap.size w w':=
 (yj (B r) w hl).mono fun e w' ⟨he,hb⟩=>⟨by rw [he,cO,h];rfl,hb⟩
theorem OC (r:Str) (h:pO r=none) (w:World) (hl:Laid w):
 Calls Tryz.prog 288 #[.string (B r)] w fun e w'=>e= .returned (.tuple #[.int .i64 0, .int .i64 3])∧Below w.heap.size w w':=
 (yj (B r) w hl).mono fun e w' ⟨he,hb⟩=>⟨by rw [he,cO,h];rfl,hb⟩
theorem OI (s:ByteArray) (w:World) (r:Str) (p:Bool) (hr:Lib.trimPrefix (L s) dD=r) (hp:Lib.hasPrefix (L s) dD=p):
 Calls Tryz.prog 120 #[.string s, .string ⟨#[110,111,110,45]⟩] w fun e w'=>e= .returned (.tuple #[.string (B r), .bool p])∧w=w':=by
 subst hr;subst hp
 exact rW s _ w dD rfl
def xY (f:aH) (s:Str):Option aH:=match xM (Lib.trimPrefix s dD) with
 |some n=>some (if Lib.hasPrefix s dD then { f with aV:=bits .or .i64 f.aV (n:Nat) } else { f with types:=bits .or .i64 f.types (n:Nat) })
 |none=>if Lib.trimPrefix s dD=pJ then none else match pO (Lib.trimPrefix s dD) with
  |some n=>some (if Lib.hasPrefix s dD then { f with aP:=bits .or .i64 f.aP (n:Nat) } else { f with colors:=bits .or .i64 f.colors (n:Nat) })
  |none=>none
theorem adH (s:ByteArray) (f f':aH) (w:World) (b g:Nat) (hw:Rd w b g f) (hl:Laid w) (hs:s.size<4294967281) (h:xY f (L s)=some f'):
 Calls Tryz.prog 244 #[.pointer (some ⟨g,0,none⟩), .string s] w fun e w'=>e= .returned (.bool true)∧Rd w' b g f'∧Fr g b w w':=by
 obtain ⟨r,hr0⟩:∃r,Lib.trimPrefix (L s) dD=r:=⟨_,rfl⟩
 obtain ⟨p,hp0⟩:∃p,Lib.hasPrefix (L s) dD=p:=⟨_,rfl⟩
 have hrl:r.length<4294967281:=by
  have:=Lib.trimPrefix_le (L s) dD;rw [hr0,dN] at this;omega
 have hr:=Lib.hid hr0
 have hp:=Lib.hid hp0
 have hbw:b≤w.heap.size:=by have:=hw.lt;have:=hw.2;omega
 unfold xY at h
 rw [hr0,hp0] at h
 clear hr0 hp0
 cases hpt:xM r with
 |some n=>
  rw [hpt] at h
  simp only [Option.some.injEq] at h
  have SN:=Lib.hid hpt;clear hpt
  cases p
  all_goals
   simp only [if_true,if_false,Bool.false_eq_true] at h
   have HF:=Lib.hid h;clear h
   go_enter Tryz.func244,Tryz.ntmps244
   go_wp2_with (first|(go_at_call 120;(with_reducible refine (OI _ _ r _ hr.out hp.out).mono ?_);rintro e w0 ⟨rfl,rfl⟩)|(go_at_call 287;(with_reducible refine (P9 r n SN.out _ hl hrl).mono ?_);rintro e w1 ⟨rfl,hb1⟩;have hw1:=hw.below hb1;have c3:w1.cell? ⟨g,3,none⟩=some (.int .i64 f.types):=hw1.cell 3;have c4:w1.cell? ⟨g,4,none⟩=some (.int .i64 f.aV):=hw1.cell 4;have f3:=hw1.free 3;have f4:=hw1.free 4))
   go_ret
  ·exact ⟨rfl,hw1.fO 3 _ (by rw [←HF.out];rfl),(Fr.of hb1 hbw).setCell hw.2 _⟩
  ·exact ⟨rfl,hw1.fO 4 _ (by rw [←HF.out];rfl),(Fr.of hb1 hbw).setCell hw.2 _⟩
 |none=>
  rw [hpt] at h
  simp only at h
  have SN:=Lib.hid hpt;clear hpt
  by_cases hn:r=pJ
  ·rw [if_pos hn] at h;cases h
  ·rw [if_neg hn] at h
   have tn:(r==[110,111,110,101])=false:=by simpa [pJ] using hn
   clear hn
   cases hpc:pO r with
   |none=>rw [hpc] at h;cases h
   |some n=>
    rw [hpc] at h
    simp only [Option.some.injEq] at h
    have HPC:=Lib.hid hpc;clear hpc
    cases p
    all_goals
     simp only [if_true,if_false,Bool.false_eq_true] at h
     have HF:=Lib.hid h;clear h
     go_enter Tryz.func244,Tryz.ntmps244
     go_wp2_with (first|(go_at_call 120;(with_reducible refine (OI _ _ r _ hr.out hp.out).mono ?_);rintro e w0 ⟨rfl,rfl⟩)|(go_at_call 287;(with_reducible refine (xI r SN.out _ hl hrl).mono ?_);rintro e w1 ⟨rfl,hb1⟩;have hl1:=hl.below hb1)|(go_at_call 288;(with_reducible refine (OD r n HPC.out _ hl1).mono ?_);rintro e w2 ⟨rfl,hb2⟩;have hw1:=(hw.below hb1).below hb2;have c3:w2.cell? ⟨g,5,none⟩=some (.int .i64 f.colors):=hw1.cell 5;have c4:w2.cell? ⟨g,6,none⟩=some (.int .i64 f.aP):=hw1.cell 6;have f3:=hw1.free 5;have f4:=hw1.free 6))
     go_ret
    ·exact ⟨rfl,hw1.fO 5 _ (by rw [←HF.out];rfl),(Fr.of (aaC hb1 hb2) hbw).setCell hw.2 _⟩
    ·exact ⟨rfl,hw1.fO 6 _ (by rw [←HF.out];rfl),(Fr.of (aaC hb1 hb2) hbw).setCell hw.2 _⟩
theorem adG (s:ByteArray) (f:aH) (w:World) (hl:Laid w) (hs:s.size<4294967281) (g:Nat) (h:xY f (L s)=none):
 Calls Tryz.prog 244 #[.pointer (some ⟨g,0,none⟩), .string s] w fun e w'=>e= .returned (.bool false)∧Below w.heap.size w w':=by
 obtain ⟨r,hr0⟩:∃r,Lib.trimPrefix (L s) dD=r:=⟨_,rfl⟩
 obtain ⟨p,hp0⟩:∃p,Lib.hasPrefix (L s) dD=p:=⟨_,rfl⟩
 have hrl:r.length<4294967281:=by
  have:=Lib.trimPrefix_le (L s) dD;rw [hr0,dN] at this;omega
 have hr:=Lib.hid hr0
 have hp:=Lib.hid hp0
 unfold xY at h
 rw [hr0,hp0] at h
 clear hr0 hp0
 cases hpt:xM r with
 |some n=>rw [hpt] at h;cases h
 |none=>
  rw [hpt] at h
  simp only at h
  have SN:=Lib.hid hpt;clear hpt
  by_cases hn:r=pJ
  ·have tn:(r==[110,111,110,101])=true:=by rw [hn];decide
   clear h hn
   go_enter Tryz.func244,Tryz.ntmps244
   go_wp2_with (first|(go_at_call 120;(with_reducible refine (OI _ _ r _ hr.out hp.out).mono ?_);rintro e w0 ⟨rfl,rfl⟩)|(go_at_call 287;(with_reducible refine (xI r SN.out _ hl hrl).mono ?_);rintro e w1 ⟨rfl,hb1⟩))
   go_ret
   exact ⟨rfl,hb1⟩
  ·rw [if_neg hn] at h
   have tn:(r==[110,111,110,101])=false:=by simpa [pJ] using hn
   clear hn
   cases hpc:pO r with
   |some n=>rw [hpc] at h;cases h
   |none=>
    have HPC:=Lib.hid hpc;clear hpc h
    go_enter Tryz.func244,Tryz.ntmps244
    go_wp2_with (first|(go_at_call 120;(with_reducible refine (OI _ _ r _ hr.out hp.out).mono ?_);rintro e w0 ⟨rfl,rfl⟩)|(go_at_call 287;(with_reducible refine (xI r SN.out _ hl hrl).mono ?_);rintro e w1 ⟨rfl,hb1⟩;have hl1:=hl.below hb1)|(go_at_call 288;(with_reducible refine (OC r HPC.out _ hl1).mono ?_);rintro e w2 ⟨rfl,hb2⟩))
    go_ret
    exact ⟨rfl,aaC hb1 hb2⟩
theorem oP {k:Nat} {s:Str} (hk:k≤5):(List.range' k (6 - k)).find? (fun z=>wd bU z==s)=if wd bU k=s then some k else (List.range' (k+1) (6 - (k+1))).find? (fun z=>wd bU z==s):=by
 rw [show 6 - k=(6 - (k+1))+1 by omega,List.range'_succ,List.find?_cons]
 by_cases h:wd bU k=s
 ·rw [if_pos h,show (wd bU k==s)=true by simpa using h]
 ·rw [if_neg h,show (wd bU k==s)=false by simpa using h]
theorem dP {a:Str} {s:ByteArray} (h:L s=a):(s.toList==a)=true:=by rw [dZ];simpa using h
theorem aU {a:Str} {s:ByteArray} (h:¬L s=a):(s.toList==a)=false:=by rw [dZ];simpa using h
theorem aaq (s:ByteArray) (f:aH) (z:Nat) (w:World) (b g:Nat) (hw:Rd w b g f) (h:Hid (fP (L s)=some z)):
 Calls Tryz.prog 243 #[.pointer (some ⟨g,0,none⟩), .string s] w fun e w'=>e= .returned (.bool true)∧Rd w' b g { f with zone:=(z:Int) } ∧Fr g b w w':=by
 have c0:w.cell? ⟨g,0,none⟩=some (.int .i64 f.zone):=hw.cell 0
 have f0:=hw.free 0
 go_enter Tryz.func243,Tryz.ntmps243
 go_wp2
 go_loop [5] (fun i=>∃k:Nat,1≤k∧k≤6∧i= .int .i64 k∧Hid (fP (L s)=(List.range' k (6 - k)).find? (fun z=>wd bU z==L s))) (fun i=>6 - (intOf i).toNat)
 case atStart=>exact ⟨1,by omega,by omega,rfl,rfl⟩
 case round=>
  obtain ⟨k,hk1,hk,rfl,HZ⟩:=hrel
  by_cases hlt:k≤5
  ·have hst:=oP (s:=L s) hlt
   by_cases hm:wd bU k=L s
   ·rw [if_pos hm] at hst
    have HM:Hid (fP (L s)=some k):=Lib.hid (HZ.out.trans hst)
    have t1:=iO hm
    clear hst hm
    obtain rfl:k=z:=by have:=HM.out.symm.trans h.out;injection this
    go_wp2_with (go_at_call 95;(with_reducible refine (kD _ hlt _).mono ?_);rintro e w2 ⟨rfl,rfl⟩)
    go_ret
    exact ⟨rfl,hw.fO 0 _ rfl,(Fr.refl _ _ _).setCell hw.2 _⟩
   ·rw [if_neg hm] at hst
    have HN:Hid (fP (L s)=(List.range' (k+1) (6 - (k+1))).find? (fun z=>wd bU z==L s)):=Lib.hid (HZ.out.trans hst)
    have t1:=jH hm
    clear hst hm
    go_wp2_with (go_at_call 95;(with_reducible refine (kD _ hlt _).mono ?_);rintro e w2 ⟨rfl,rfl⟩)
    go_round
    case rel=>exact ⟨k+1,by omega,by omega,by go_num,HN⟩
    case measure=>simp [intOf];omega
  ·obtain rfl:k=6:=by omega
   exfalso
   have:=HZ.out.symm.trans h.out
   simp at this
theorem agU (s:ByteArray) (f:aH) (w:World) (b g:Nat) (hw:Rd w b g f) (hz:Hid (fP (L s)=none))  (h0:Hid (L s=[121,111,117,114,115])):
 Calls Tryz.prog 243 #[.pointer (some ⟨g,0,none⟩), .string s] w fun e w'=>e= .returned (.bool true)∧Rd w' b g { f with who:=1 } ∧Fr g b w w':=by
 have c0:w.cell? ⟨g,1,none⟩=some (.int .i64 f.who):=hw.cell 1
 have f0:=hw.free 1
 have t0:(s.toList==[121,111,117,114,115])=true:=dP (h0.out)
 go_enter Tryz.func243,Tryz.ntmps243
 go_wp2
 go_loop [5] (fun i=>∃k:Nat,1≤k∧k≤6∧i= .int .i64 k∧Hid (fP (L s)=(List.range' k (6 - k)).find? (fun z=>wd bU z==L s))) (fun i=>6 - (intOf i).toNat)
 case atStart=>exact ⟨1,by omega,by omega,rfl,rfl⟩
 case round=>
  obtain ⟨k,hk1,hk,rfl,HZ⟩:=hrel
  by_cases hlt:k≤5
  ·have hst:=oP (s:=L s) hlt
   by_cases hm:wd bU k=L s
   ·rw [if_pos hm] at hst
    have HM:Hid (fP (L s)=some k):=Lib.hid (HZ.out.trans hst)
    have t1:=iO hm
    clear hst hm
    exfalso
    have:=HM.out.symm.trans hz.out
    cases this
   ·rw [if_neg hm] at hst
    have HN:Hid (fP (L s)=(List.range' (k+1) (6 - (k+1))).find? (fun z=>wd bU z==L s)):=Lib.hid (HZ.out.trans hst)
    have t1:=jH hm
    clear hst hm
    go_wp2_with (go_at_call 95;(with_reducible refine (kD _ hlt _).mono ?_);rintro e w2 ⟨rfl,rfl⟩)
    go_round
    case rel=>exact ⟨k+1,by omega,by omega,by go_num,HN⟩
    case measure=>simp [intOf];omega
  ·obtain rfl:k=6:=by omega
   clear HZ hz
   go_wp2
   go_ret
   exact ⟨rfl,hw.fO 1 _ rfl,(Fr.refl _ _ _).setCell hw.2 _⟩
theorem agV (s:ByteArray) (f:aH) (w:World) (b g:Nat) (hw:Rd w b g f) (hz:Hid (fP (L s)=none)) (h0:Hid (¬L s=[121,111,117,114,115])) (h1:Hid (L s=[116,104,101,105,114,115])):
 Calls Tryz.prog 243 #[.pointer (some ⟨g,0,none⟩), .string s] w fun e w'=>e= .returned (.bool true)∧Rd w' b g { f with who:=2 } ∧Fr g b w w':=by
 have c0:w.cell? ⟨g,1,none⟩=some (.int .i64 f.who):=hw.cell 1
 have f0:=hw.free 1
 have t0:(s.toList==[121,111,117,114,115])=false:=aU (h0.out)
 have t1:(s.toList==[116,104,101,105,114,115])=true:=dP (h1.out)
 go_enter Tryz.func243,Tryz.ntmps243
 go_wp2
 go_loop [5] (fun i=>∃k:Nat,1≤k∧k≤6∧i= .int .i64 k∧Hid (fP (L s)=(List.range' k (6 - k)).find? (fun z=>wd bU z==L s))) (fun i=>6 - (intOf i).toNat)
 case atStart=>exact ⟨1,by omega,by omega,rfl,rfl⟩
 case round=>
  obtain ⟨k,hk1,hk,rfl,HZ⟩:=hrel
  by_cases hlt:k≤5
  ·have hst:=oP (s:=L s) hlt
   by_cases hm:wd bU k=L s
   ·rw [if_pos hm] at hst
    have HM:Hid (fP (L s)=some k):=Lib.hid (HZ.out.trans hst)
    have t1:=iO hm
    clear hst hm
    exfalso
    have:=HM.out.symm.trans hz.out
    cases this
   ·rw [if_neg hm] at hst
    have HN:Hid (fP (L s)=(List.range' (k+1) (6 - (k+1))).find? (fun z=>wd bU z==L s)):=Lib.hid (HZ.out.trans hst)
    have t1:=jH hm
    clear hst hm
    go_wp2_with (go_at_call 95;(with_reducible refine (kD _ hlt _).mono ?_);rintro e w2 ⟨rfl,rfl⟩)
    go_round
    case rel=>exact ⟨k+1,by omega,by omega,by go_num,HN⟩
    case measure=>simp [intOf];omega
  ·obtain rfl:k=6:=by omega
   clear HZ hz
   go_wp2
   go_ret
   exact ⟨rfl,hw.fO 1 _ rfl,(Fr.refl _ _ _).setCell hw.2 _⟩
theorem agW (s:ByteArray) (f:aH) (w:World) (b g:Nat) (hw:Rd w b g f) (hz:Hid (fP (L s)=none)) (h0:Hid (¬L s=[121,111,117,114,115])) (h1:Hid (¬L s=[116,104,101,105,114,115])) (h2:Hid (L s=[115,101,108,102])):
 Calls Tryz.prog 243 #[.pointer (some ⟨g,0,none⟩), .string s] w fun e w'=>e= .returned (.bool true)∧Rd w' b g { f with self:=1 } ∧Fr g b w w':=by
 have c0:w.cell? ⟨g,2,none⟩=some (.int .i64 f.self):=hw.cell 2
 have f0:=hw.free 2
 have t0:(s.toList==[121,111,117,114,115])=false:=aU (h0.out)
 have t1:(s.toList==[116,104,101,105,114,115])=false:=aU (h1.out)
 have t2:(s.toList==[115,101,108,102])=true:=dP (h2.out)
 go_enter Tryz.func243,Tryz.ntmps243
 go_wp2
 go_loop [5] (fun i=>∃k:Nat,1≤k∧k≤6∧i= .int .i64 k∧Hid (fP (L s)=(List.range' k (6 - k)).find? (fun z=>wd bU z==L s))) (fun i=>6 - (intOf i).toNat)
 case atStart=>exact ⟨1,by omega,by omega,rfl,rfl⟩
 case round=>
  obtain ⟨k,hk1,hk,rfl,HZ⟩:=hrel
  by_cases hlt:k≤5
  ·have hst:=oP (s:=L s) hlt
   by_cases hm:wd bU k=L s
   ·rw [if_pos hm] at hst
    have HM:Hid (fP (L s)=some k):=Lib.hid (HZ.out.trans hst)
    have t1:=iO hm
    clear hst hm
    exfalso
    have:=HM.out.symm.trans hz.out
    cases this
   ·rw [if_neg hm] at hst
    have HN:Hid (fP (L s)=(List.range' (k+1) (6 - (k+1))).find? (fun z=>wd bU z==L s)):=Lib.hid (HZ.out.trans hst)
    have t1:=jH hm
    clear hst hm
    go_wp2_with (go_at_call 95;(with_reducible refine (kD _ hlt _).mono ?_);rintro e w2 ⟨rfl,rfl⟩)
    go_round
    case rel=>exact ⟨k+1,by omega,by omega,by go_num,HN⟩
    case measure=>simp [intOf];omega
  ·obtain rfl:k=6:=by omega
   clear HZ hz
   go_wp2
   go_ret
   exact ⟨rfl,hw.fO 2 _ rfl,(Fr.refl _ _ _).setCell hw.2 _⟩
theorem agX (s:ByteArray) (f:aH) (w:World) (b g:Nat) (hw:Rd w b g f) (hz:Hid (fP (L s)=none)) (h0:Hid (¬L s=[121,111,117,114,115])) (h1:Hid (¬L s=[116,104,101,105,114,115])) (h2:Hid (¬L s=[115,101,108,102])) (h3:Hid (L s=[111,116,104,101,114])):
 Calls Tryz.prog 243 #[.pointer (some ⟨g,0,none⟩), .string s] w fun e w'=>e= .returned (.bool true)∧Rd w' b g { f with self:=2 } ∧Fr g b w w':=by
 have c0:w.cell? ⟨g,2,none⟩=some (.int .i64 f.self):=hw.cell 2
 have f0:=hw.free 2
 have t0:(s.toList==[121,111,117,114,115])=false:=aU (h0.out)
 have t1:(s.toList==[116,104,101,105,114,115])=false:=aU (h1.out)
 have t2:(s.toList==[115,101,108,102])=false:=aU (h2.out)
 have t3:(s.toList==[111,116,104,101,114])=true:=dP (h3.out)
 go_enter Tryz.func243,Tryz.ntmps243
 go_wp2
 go_loop [5] (fun i=>∃k:Nat,1≤k∧k≤6∧i= .int .i64 k∧Hid (fP (L s)=(List.range' k (6 - k)).find? (fun z=>wd bU z==L s))) (fun i=>6 - (intOf i).toNat)
 case atStart=>exact ⟨1,by omega,by omega,rfl,rfl⟩
 case round=>
  obtain ⟨k,hk1,hk,rfl,HZ⟩:=hrel
  by_cases hlt:k≤5
  ·have hst:=oP (s:=L s) hlt
   by_cases hm:wd bU k=L s
   ·rw [if_pos hm] at hst
    have HM:Hid (fP (L s)=some k):=Lib.hid (HZ.out.trans hst)
    have t1:=iO hm
    clear hst hm
    exfalso
    have:=HM.out.symm.trans hz.out
    cases this
   ·rw [if_neg hm] at hst
    have HN:Hid (fP (L s)=(List.range' (k+1) (6 - (k+1))).find? (fun z=>wd bU z==L s)):=Lib.hid (HZ.out.trans hst)
    have t1:=jH hm
    clear hst hm
    go_wp2_with (go_at_call 95;(with_reducible refine (kD _ hlt _).mono ?_);rintro e w2 ⟨rfl,rfl⟩)
    go_round
    case rel=>exact ⟨k+1,by omega,by omega,by go_num,HN⟩
    case measure=>simp [intOf];omega
  ·obtain rfl:k=6:=by omega
   clear HZ hz
   go_wp2
   go_ret
   exact ⟨rfl,hw.fO 2 _ rfl,(Fr.refl _ _ _).setCell hw.2 _⟩
theorem agY (s:ByteArray) (f:aH) (w:World) (b g:Nat) (hw:Rd w b g f) (hz:Hid (fP (L s)=none)) (h0:Hid (¬L s=[121,111,117,114,115])) (h1:Hid (¬L s=[116,104,101,105,114,115])) (h2:Hid (¬L s=[115,101,108,102])) (h3:Hid (¬L s=[111,116,104,101,114])) (h4:Hid (L s=[116,97,112,112,101,100])):
 Calls Tryz.prog 243 #[.pointer (some ⟨g,0,none⟩), .string s] w fun e w'=>e= .returned (.bool true)∧Rd w' b g { f with dJ:=1 } ∧Fr g b w w':=by
 have c0:w.cell? ⟨g,9,none⟩=some (.int .i64 f.dJ):=hw.cell 9
 have f0:=hw.free 9
 have t0:(s.toList==[121,111,117,114,115])=false:=aU (h0.out)
 have t1:(s.toList==[116,104,101,105,114,115])=false:=aU (h1.out)
 have t2:(s.toList==[115,101,108,102])=false:=aU (h2.out)
 have t3:(s.toList==[111,116,104,101,114])=false:=aU (h3.out)
 have t4:(s.toList==[116,97,112,112,101,100])=true:=dP (h4.out)
 go_enter Tryz.func243,Tryz.ntmps243
 go_wp2
 go_loop [5] (fun i=>∃k:Nat,1≤k∧k≤6∧i= .int .i64 k∧Hid (fP (L s)=(List.range' k (6 - k)).find? (fun z=>wd bU z==L s))) (fun i=>6 - (intOf i).toNat)
 case atStart=>exact ⟨1,by omega,by omega,rfl,rfl⟩
 case round=>
  obtain ⟨k,hk1,hk,rfl,HZ⟩:=hrel
  by_cases hlt:k≤5
  ·have hst:=oP (s:=L s) hlt
   by_cases hm:wd bU k=L s
   ·rw [if_pos hm] at hst
    have HM:Hid (fP (L s)=some k):=Lib.hid (HZ.out.trans hst)
    have t1:=iO hm
    clear hst hm
    exfalso
    have:=HM.out.symm.trans hz.out
    cases this
   ·rw [if_neg hm] at hst
    have HN:Hid (fP (L s)=(List.range' (k+1) (6 - (k+1))).find? (fun z=>wd bU z==L s)):=Lib.hid (HZ.out.trans hst)
    have t1:=jH hm
    clear hst hm
    go_wp2_with (go_at_call 95;(with_reducible refine (kD _ hlt _).mono ?_);rintro e w2 ⟨rfl,rfl⟩)
    go_round
    case rel=>exact ⟨k+1,by omega,by omega,by go_num,HN⟩
    case measure=>simp [intOf];omega
  ·obtain rfl:k=6:=by omega
   clear HZ hz
   go_wp2
   go_ret
   exact ⟨rfl,hw.fO 9 _ rfl,(Fr.refl _ _ _).setCell hw.2 _⟩
theorem agZ (s:ByteArray) (f:aH) (w:World) (b g:Nat) (hw:Rd w b g f) (hz:Hid (fP (L s)=none)) (h0:Hid (¬L s=[121,111,117,114,115])) (h1:Hid (¬L s=[116,104,101,105,114,115])) (h2:Hid (¬L s=[115,101,108,102])) (h3:Hid (¬L s=[111,116,104,101,114])) (h4:Hid (¬L s=[116,97,112,112,101,100])) (h5:Hid (L s=[117,110,116,97,112,112,101,100])):
 Calls Tryz.prog 243 #[.pointer (some ⟨g,0,none⟩), .string s] w fun e w'=>e= .returned (.bool true)∧Rd w' b g { f with dJ:=2 } ∧Fr g b w w':=by
 have c0:w.cell? ⟨g,9,none⟩=some (.int .i64 f.dJ):=hw.cell 9
 have f0:=hw.free 9
 have t0:(s.toList==[121,111,117,114,115])=false:=aU (h0.out)
 have t1:(s.toList==[116,104,101,105,114,115])=false:=aU (h1.out)
 have t2:(s.toList==[115,101,108,102])=false:=aU (h2.out)
 have t3:(s.toList==[111,116,104,101,114])=false:=aU (h3.out)
 have t4:(s.toList==[116,97,112,112,101,100])=false:=aU (h4.out)
 have t5:(s.toList==[117,110,116,97,112,112,101,100])=true:=dP (h5.out)
 go_enter Tryz.func243,Tryz.ntmps243
 go_wp2
 go_loop [5] (fun i=>∃k:Nat,1≤k∧k≤6∧i= .int .i64 k∧Hid (fP (L s)=(List.range' k (6 - k)).find? (fun z=>wd bU z==L s))) (fun i=>6 - (intOf i).toNat)
 case atStart=>exact ⟨1,by omega,by omega,rfl,rfl⟩
 case round=>
  obtain ⟨k,hk1,hk,rfl,HZ⟩:=hrel
  by_cases hlt:k≤5
  ·have hst:=oP (s:=L s) hlt
   by_cases hm:wd bU k=L s
   ·rw [if_pos hm] at hst
    have HM:Hid (fP (L s)=some k):=Lib.hid (HZ.out.trans hst)
    have t1:=iO hm
    clear hst hm
    exfalso
    have:=HM.out.symm.trans hz.out
    cases this
   ·rw [if_neg hm] at hst
    have HN:Hid (fP (L s)=(List.range' (k+1) (6 - (k+1))).find? (fun z=>wd bU z==L s)):=Lib.hid (HZ.out.trans hst)
    have t1:=jH hm
    clear hst hm
    go_wp2_with (go_at_call 95;(with_reducible refine (kD _ hlt _).mono ?_);rintro e w2 ⟨rfl,rfl⟩)
    go_round
    case rel=>exact ⟨k+1,by omega,by omega,by go_num,HN⟩
    case measure=>simp [intOf];omega
  ·obtain rfl:k=6:=by omega
   clear HZ hz
   go_wp2
   go_ret
   exact ⟨rfl,hw.fO 9 _ rfl,(Fr.refl _ _ _).setCell hw.2 _⟩
theorem agS (s:ByteArray) (w:World) (g:Nat) (hz:Hid (fP (L s)=none)) (h0:Hid (¬L s=[121,111,117,114,115])) (h1:Hid (¬L s=[116,104,101,105,114,115])) (h2:Hid (¬L s=[115,101,108,102])) (h3:Hid (¬L s=[111,116,104,101,114])) (h4:Hid (¬L s=[116,97,112,112,101,100])) (h5:Hid (¬L s=[117,110,116,97,112,112,101,100])):
 Calls Tryz.prog 243 #[.pointer (some ⟨g,0,none⟩), .string s] w fun e w'=>e= .returned (.bool false)∧w=w':=by
 have t0:(s.toList==[121,111,117,114,115])=false:=aU (h0.out)
 have t1:(s.toList==[116,104,101,105,114,115])=false:=aU (h1.out)
 have t2:(s.toList==[115,101,108,102])=false:=aU (h2.out)
 have t3:(s.toList==[111,116,104,101,114])=false:=aU (h3.out)
 have t4:(s.toList==[116,97,112,112,101,100])=false:=aU (h4.out)
 have t5:(s.toList==[117,110,116,97,112,112,101,100])=false:=aU (h5.out)
 go_enter Tryz.func243,Tryz.ntmps243
 go_wp2
 go_loop [5] (fun i=>∃k:Nat,1≤k∧k≤6∧i= .int .i64 k∧Hid (fP (L s)=(List.range' k (6 - k)).find? (fun z=>wd bU z==L s))) (fun i=>6 - (intOf i).toNat)
 case atStart=>exact ⟨1,by omega,by omega,rfl,rfl⟩
 case round=>
  obtain ⟨k,hk1,hk,rfl,HZ⟩:=hrel
  by_cases hlt:k≤5
  ·have hst:=oP (s:=L s) hlt
   by_cases hm:wd bU k=L s
   ·rw [if_pos hm] at hst
    have HM:Hid (fP (L s)=some k):=Lib.hid (HZ.out.trans hst)
    have t1:=iO hm
    clear hst hm
    exfalso
    have:=HM.out.symm.trans hz.out
    cases this
   ·rw [if_neg hm] at hst
    have HN:Hid (fP (L s)=(List.range' (k+1) (6 - (k+1))).find? (fun z=>wd bU z==L s)):=Lib.hid (HZ.out.trans hst)
    have t1:=jH hm
    clear hst hm
    go_wp2_with (go_at_call 95;(with_reducible refine (kD _ hlt _).mono ?_);rintro e w2 ⟨rfl,rfl⟩)
    go_round
    case rel=>exact ⟨k+1,by omega,by omega,by go_num,HN⟩
    case measure=>simp [intOf];omega
  ·obtain rfl:k=6:=by omega
   clear HZ hz
   go_wp2
   go_ret
   exact ⟨rfl,rfl⟩
theorem aap (s:ByteArray) (f f':aH) (w:World) (b g:Nat) (hw:Rd w b g f) (h:wO f (L s)=some f'):
 Calls Tryz.prog 243 #[.pointer (some ⟨g,0,none⟩), .string s] w fun e w'=>e= .returned (.bool true)∧Rd w' b g f'∧Fr g b w w':=by
 unfold wO at h
 cases hz:fP (L s) with
 |some z=>rw [hz] at h;injection h with h;subst h;exact aaq s f z w b g hw hz
 |none=>
  rw [hz] at h;simp only at h
  by_cases h0:L s=wd iQ 1
  ·rw [if_pos h0] at h;injection h with h;subst h;exact agU s f w b g hw hz h0
  ·rw [if_neg h0] at h
   by_cases h1:L s=wd iQ 2
   ·rw [if_pos h1] at h;injection h with h;subst h;exact agV s f w b g hw hz h0 h1
   ·rw [if_neg h1] at h
    by_cases h2:L s=wd fU 1
    ·rw [if_pos h2] at h;injection h with h;subst h;exact agW s f w b g hw hz h0 h1 h2
    ·rw [if_neg h2] at h
     by_cases h3:L s=wd fU 2
     ·rw [if_pos h3] at h;injection h with h;subst h;exact agX s f w b g hw hz h0 h1 h2 h3
     ·rw [if_neg h3] at h
      by_cases h4:L s=wd iP 1
      ·rw [if_pos h4] at h;injection h with h;subst h;exact agY s f w b g hw hz h0 h1 h2 h3 h4
      ·rw [if_neg h4] at h
       by_cases h5:L s=wd iP 2
       ·rw [if_pos h5] at h;injection h with h;subst h;exact agZ s f w b g hw hz h0 h1 h2 h3 h4 h5
       ·rw [if_neg h5] at h
        cases h
theorem MZ (s:ByteArray) (f:aH) (w:World) (g:Nat) (h:wO f (L s)=none):
 Calls Tryz.prog 243 #[.pointer (some ⟨g,0,none⟩), .string s] w fun e w'=>e= .returned (.bool false)∧w=w':=by
 unfold wO at h
 cases hz:fP (L s) with
 |some z=>rw [hz] at h;cases h
 |none=>
  rw [hz] at h;simp only at h
  by_cases h0:L s=wd iQ 1
  ·rw [if_pos h0] at h;cases h
  ·rw [if_neg h0] at h
   by_cases h1:L s=wd iQ 2
   ·rw [if_pos h1] at h;cases h
   ·rw [if_neg h1] at h
    by_cases h2:L s=wd fU 1
    ·rw [if_pos h2] at h;cases h
    ·rw [if_neg h2] at h
     by_cases h3:L s=wd fU 2
     ·rw [if_pos h3] at h;cases h
     ·rw [if_neg h3] at h
      by_cases h4:L s=wd iP 1
      ·rw [if_pos h4] at h;cases h
      ·rw [if_neg h4] at h
       by_cases h5:L s=wd iP 2
       ·rw [if_pos h5] at h;cases h
       ·rw [if_neg h5] at h
        exact agS s w g hz h0 h1 h2 h3 h4 h5
theorem oQ (s:ByteArray) (w:World) (at_:Int) (h:Lib.indexByte (L s) 61=at_):
 Calls Tryz.prog 205 #[.string s, .int .u8 61] w fun e w'=>e= .returned (.int .i64 at_)∧w=w':=by
 subst h;exact pV s 61 w
theorem lF (s:ByteArray) (n:Int) (ok:Bool) (h:lM (numOf (L s))= .tuple #[.int .i64 n, .bool ok]) (w:World) (hl:Laid w) (hs:s.size<4294967281):
 Calls Tryz.prog 208 #[.string s] w fun e w'=>e= .returned (.tuple #[.int .i64 n, .bool ok])∧Below w.heap.size w w':=
 (Gv s w hl hs).mono fun e w' ⟨he,hb⟩=>⟨by rw [he,h],hb⟩
theorem Rd.alloc {w:World} {b g:Nat} {f:aH} (h:Rd w b g f) (o:Obj):Rd (w.alloc o) b g f:=h.below ((Below.refl _ _).alloc (Nat.le_refl _) _)
theorem Rd.drew {w:World} {b g:Nat} {f:aH} (h:Rd w b g f):Rd w.drew b g f:=h
def qW (nm:Str):Nat × Str:=if aI nm (nm.length - 1)=62 then (1,nm.take (nm.length - 1)) else if aI nm (nm.length - 1)=60 then (2,nm.take (nm.length - 1)) else (3,nm)
def ji (f:aH) (nm:Str) (k n:Int):Option aH:=if nm=eP then some { f with pk:=k,pn:=n } else if nm=fE then some { f with tk:=k,tn:=n } else if nm=fH then some { f with vk:=k,vn:=n } else none
def uY (f:aH) (s:Str):Option aH:=
 if Lib.indexByte s 61<1 then none else
  match numOf (s.drop ((Lib.indexByte s 61).toNat+1)) with
  |some n=>ji f (qW (s.take (Lib.indexByte s 61).toNat)).2 (qW (s.take (Lib.indexByte s 61).toNat)).1 n
  |none=>none
theorem abU (s nm iq rs:ByteArray) (f:aH) (a:Nat) (n:Int) (ok:Bool) (w:World) (b g:Nat) (hw:Rd w b g f) (hl:Laid w) (hs:s.size<4294967281)
 (hix:Hid (Lib.indexByte (L s) 61=(a:Int))) (ha:1≤a) (has:a<s.size) (hnm:s.extract 0 a=nm) (hrs:s.extract (a+1) s.size=rs) (BU:nm.extract 0 (a - 1)=iq) (hns:nm.size=a)
 (hn:Hid (lM (numOf (L rs))= .tuple #[.int .i64 n, .bool ok])) (qY:((aI (L nm) (a - 1):Nat):Int)=62) (p0:Hid (L iq=[112,111,119,101,114])):
 Calls Tryz.prog 245 #[.pointer (some ⟨g,0,none⟩), .string s] w fun e w'=>e= .returned (.bool ok)∧Rd w' b g { f with pk:=1,pn:=n } ∧Fr g b w w':=by
 have hrl:rs.size<4294967281:=by rw [←hrs,ByteArray.size_extract];omega
 have hgn:=jm nm
 have hbw:b≤w.heap.size:=by have:=hw.lt;have:=hw.2;omega
 have t0:(iq.toList==[112,111,119,101,114])=true:=dP p0.out
 go_enter Tryz.func245,Tryz.ntmps245
 go_wp2_with (first|(go_at_call 205;(with_reducible refine (oQ _ _ _ hix.out).mono ?_);rintro e w0 ⟨rfl,rfl⟩)|(go_at_call 208;(with_reducible refine (lF rs n ok hn.out _ hl hrl).mono ?_);rintro e w1 ⟨rfl,hb1⟩;have hw1:=hw.below hb1;have hbb:Fr g b w w1:=Fr.of hb1 hbw;have hbs:=Nat.le_trans hbw hb1.size;have c3:w1.cell? ⟨g,10,none⟩=some (.int .i64 f.pk):=hw1.cell 10;have c4:w1.cell? ⟨g,11,none⟩=some (.int .i64 f.pn):=hw1.cell 11;have f3:=hw1.free 10;have f4:=hw1.free 11;have hlt:=hw1.lt;have hlt2:g≠w1.heap.size:=Nat.ne_of_lt hlt))
 go_region
 all_goals go_wp2
 all_goals
  go_ret
  refine ⟨rfl,?_,?_⟩
  ·exact Rd.drew (((hw1.fO (f':= { f with pk:=1 }) 10 (.int .i64 1) rfl).fO (f':= { f with pk:=1,pn:=n }) 11 (.int .i64 n) rfl).alloc _)
  ·exact (((hbb.setCell hw.2 _).setCell hw.2 _).alloc (by simp [World.setCell];exact hbs) _).drew
theorem abV (s nm iq rs:ByteArray) (f:aH) (a:Nat) (n:Int) (ok:Bool) (w:World) (b g:Nat) (hw:Rd w b g f) (hl:Laid w) (hs:s.size<4294967281)
 (hix:Hid (Lib.indexByte (L s) 61=(a:Int))) (ha:1≤a) (has:a<s.size) (hnm:s.extract 0 a=nm) (hrs:s.extract (a+1) s.size=rs) (BU:nm.extract 0 (a - 1)=iq) (hns:nm.size=a)
 (hn:Hid (lM (numOf (L rs))= .tuple #[.int .i64 n, .bool ok])) (qY:((aI (L nm) (a - 1):Nat):Int)=62) (p0:Hid (¬L iq=[112,111,119,101,114])) (p1:Hid (L iq=[116,111,117,103,104])):
 Calls Tryz.prog 245 #[.pointer (some ⟨g,0,none⟩), .string s] w fun e w'=>e= .returned (.bool ok)∧Rd w' b g { f with tk:=1,tn:=n } ∧Fr g b w w':=by
 have hrl:rs.size<4294967281:=by rw [←hrs,ByteArray.size_extract];omega
 have hgn:=jm nm
 have hbw:b≤w.heap.size:=by have:=hw.lt;have:=hw.2;omega
 have t0:(iq.toList==[112,111,119,101,114])=false:=aU p0.out
 have t1:(iq.toList==[116,111,117,103,104])=true:=dP p1.out
 go_enter Tryz.func245,Tryz.ntmps245
 go_wp2_with (first|(go_at_call 205;(with_reducible refine (oQ _ _ _ hix.out).mono ?_);rintro e w0 ⟨rfl,rfl⟩)|(go_at_call 208;(with_reducible refine (lF rs n ok hn.out _ hl hrl).mono ?_);rintro e w1 ⟨rfl,hb1⟩;have hw1:=hw.below hb1;have hbb:Fr g b w w1:=Fr.of hb1 hbw;have hbs:=Nat.le_trans hbw hb1.size;have c3:w1.cell? ⟨g,12,none⟩=some (.int .i64 f.tk):=hw1.cell 12;have c4:w1.cell? ⟨g,13,none⟩=some (.int .i64 f.tn):=hw1.cell 13;have f3:=hw1.free 12;have f4:=hw1.free 13;have hlt:=hw1.lt;have hlt2:g≠w1.heap.size:=Nat.ne_of_lt hlt))
 go_region
 all_goals go_wp2
 all_goals
  go_ret
  refine ⟨rfl,?_,?_⟩
  ·exact Rd.drew (((hw1.fO (f':= { f with tk:=1 }) 12 (.int .i64 1) rfl).fO (f':= { f with tk:=1,tn:=n }) 13 (.int .i64 n) rfl).alloc _)
  ·exact (((hbb.setCell hw.2 _).setCell hw.2 _).alloc (by simp [World.setCell];exact hbs) _).drew
theorem abW (s nm iq rs:ByteArray) (f:aH) (a:Nat) (n:Int) (ok:Bool) (w:World) (b g:Nat) (hw:Rd w b g f) (hl:Laid w) (hs:s.size<4294967281)
 (hix:Hid (Lib.indexByte (L s) 61=(a:Int))) (ha:1≤a) (has:a<s.size) (hnm:s.extract 0 a=nm) (hrs:s.extract (a+1) s.size=rs) (BU:nm.extract 0 (a - 1)=iq) (hns:nm.size=a)
 (hn:Hid (lM (numOf (L rs))= .tuple #[.int .i64 n, .bool ok])) (qY:((aI (L nm) (a - 1):Nat):Int)=62) (p0:Hid (¬L iq=[112,111,119,101,114])) (p1:Hid (¬L iq=[116,111,117,103,104])) (p2:Hid (L iq=[118,97,108,117,101])):
 Calls Tryz.prog 245 #[.pointer (some ⟨g,0,none⟩), .string s] w fun e w'=>e= .returned (.bool ok)∧Rd w' b g { f with vk:=1,vn:=n } ∧Fr g b w w':=by
 have hrl:rs.size<4294967281:=by rw [←hrs,ByteArray.size_extract];omega
 have hgn:=jm nm
 have hbw:b≤w.heap.size:=by have:=hw.lt;have:=hw.2;omega
 have t0:(iq.toList==[112,111,119,101,114])=false:=aU p0.out
 have t1:(iq.toList==[116,111,117,103,104])=false:=aU p1.out
 have t2:(iq.toList==[118,97,108,117,101])=true:=dP p2.out
 go_enter Tryz.func245,Tryz.ntmps245
 go_wp2_with (first|(go_at_call 205;(with_reducible refine (oQ _ _ _ hix.out).mono ?_);rintro e w0 ⟨rfl,rfl⟩)|(go_at_call 208;(with_reducible refine (lF rs n ok hn.out _ hl hrl).mono ?_);rintro e w1 ⟨rfl,hb1⟩;have hw1:=hw.below hb1;have hbb:Fr g b w w1:=Fr.of hb1 hbw;have hbs:=Nat.le_trans hbw hb1.size;have c3:w1.cell? ⟨g,14,none⟩=some (.int .i64 f.vk):=hw1.cell 14;have c4:w1.cell? ⟨g,15,none⟩=some (.int .i64 f.vn):=hw1.cell 15;have f3:=hw1.free 14;have f4:=hw1.free 15;have hlt:=hw1.lt;have hlt2:g≠w1.heap.size:=Nat.ne_of_lt hlt))
 go_region
 all_goals go_wp2
 all_goals
  go_ret
  refine ⟨rfl,?_,?_⟩
  ·exact Rd.drew (((hw1.fO (f':= { f with vk:=1 }) 14 (.int .i64 1) rfl).fO (f':= { f with vk:=1,vn:=n }) 15 (.int .i64 n) rfl).alloc _)
  ·exact (((hbb.setCell hw.2 _).setCell hw.2 _).alloc (by simp [World.setCell];exact hbs) _).drew
theorem abX (s nm iq rs:ByteArray) (f:aH) (a:Nat) (n:Int) (ok:Bool) (w:World) (b g:Nat) (hw:Rd w b g f) (hl:Laid w) (hs:s.size<4294967281)
 (hix:Hid (Lib.indexByte (L s) 61=(a:Int))) (ha:1≤a) (has:a<s.size) (hnm:s.extract 0 a=nm) (hrs:s.extract (a+1) s.size=rs) (BU:nm.extract 0 (a - 1)=iq) (hns:nm.size=a)
 (hn:Hid (lM (numOf (L rs))= .tuple #[.int .i64 n, .bool ok])) (qY:((aI (L nm) (a - 1):Nat):Int)=62) (p0:Hid (¬L iq=[112,111,119,101,114])) (p1:Hid (¬L iq=[116,111,117,103,104])) (p2:Hid (¬L iq=[118,97,108,117,101])):
 Calls Tryz.prog 245 #[.pointer (some ⟨g,0,none⟩), .string s] w fun e w'=>e= .returned (.bool false)∧Rd w' b g f∧Fr g b w w':=by
 have hrl:rs.size<4294967281:=by rw [←hrs,ByteArray.size_extract];omega
 have hgn:=jm nm
 have hbw:b≤w.heap.size:=by have:=hw.lt;have:=hw.2;omega
 have t0:(iq.toList==[112,111,119,101,114])=false:=aU p0.out
 have t1:(iq.toList==[116,111,117,103,104])=false:=aU p1.out
 have t2:(iq.toList==[118,97,108,117,101])=false:=aU p2.out
 go_enter Tryz.func245,Tryz.ntmps245
 go_wp2_with (first|(go_at_call 205;(with_reducible refine (oQ _ _ _ hix.out).mono ?_);rintro e w0 ⟨rfl,rfl⟩)|(go_at_call 208;(with_reducible refine (lF rs n ok hn.out _ hl hrl).mono ?_);rintro e w1 ⟨rfl,hb1⟩;have hw1:=hw.below hb1;have hbb:Fr g b w w1:=Fr.of hb1 hbw;have hbs:=Nat.le_trans hbw hb1.size))
 go_region
 all_goals go_wp2
 all_goals
  go_ret
  refine ⟨rfl,?_,?_⟩
  ·first
    |exact hw1.alloc _
    |exact Rd.drew (hw1.alloc _)
  ·first
    |exact hbb.alloc hbs _
    |exact (hbb.alloc hbs _).drew
theorem abQ (s nm iq rs:ByteArray) (f:aH) (a:Nat) (n:Int) (ok:Bool) (w:World) (b g:Nat) (hw:Rd w b g f) (hl:Laid w) (hs:s.size<4294967281)
 (hix:Hid (Lib.indexByte (L s) 61=(a:Int))) (ha:1≤a) (has:a<s.size) (hnm:s.extract 0 a=nm) (hrs:s.extract (a+1) s.size=rs) (BU:nm.extract 0 (a - 1)=iq) (hns:nm.size=a)
 (hn:Hid (lM (numOf (L rs))= .tuple #[.int .i64 n, .bool ok])) (qY:(((aI (L nm) (a - 1):Nat):Int)==62)=false) (h60:((aI (L nm) (a - 1):Nat):Int)=60) (p0:Hid (L iq=[112,111,119,101,114])):
 Calls Tryz.prog 245 #[.pointer (some ⟨g,0,none⟩), .string s] w fun e w'=>e= .returned (.bool ok)∧Rd w' b g { f with pk:=2,pn:=n } ∧Fr g b w w':=by
 have hrl:rs.size<4294967281:=by rw [←hrs,ByteArray.size_extract];omega
 have hgn:=jm nm
 have hbw:b≤w.heap.size:=by have:=hw.lt;have:=hw.2;omega
 have t0:(iq.toList==[112,111,119,101,114])=true:=dP p0.out
 go_enter Tryz.func245,Tryz.ntmps245
 go_wp2_with (first|(go_at_call 205;(with_reducible refine (oQ _ _ _ hix.out).mono ?_);rintro e w0 ⟨rfl,rfl⟩)|(go_at_call 208;(with_reducible refine (lF rs n ok hn.out _ hl hrl).mono ?_);rintro e w1 ⟨rfl,hb1⟩;have hw1:=hw.below hb1;have hbb:Fr g b w w1:=Fr.of hb1 hbw;have hbs:=Nat.le_trans hbw hb1.size;have c3:w1.cell? ⟨g,10,none⟩=some (.int .i64 f.pk):=hw1.cell 10;have c4:w1.cell? ⟨g,11,none⟩=some (.int .i64 f.pn):=hw1.cell 11;have f3:=hw1.free 10;have f4:=hw1.free 11;have hlt:=hw1.lt;have hlt2:g≠w1.heap.size:=Nat.ne_of_lt hlt))
 go_region
 all_goals go_wp2
 all_goals
  go_ret
  refine ⟨rfl,?_,?_⟩
  ·exact Rd.drew (((hw1.fO (f':= { f with pk:=2 }) 10 (.int .i64 2) rfl).fO (f':= { f with pk:=2,pn:=n }) 11 (.int .i64 n) rfl).alloc _)
  ·exact (((hbb.setCell hw.2 _).setCell hw.2 _).alloc (by simp [World.setCell];exact hbs) _).drew
theorem abR (s nm iq rs:ByteArray) (f:aH) (a:Nat) (n:Int) (ok:Bool) (w:World) (b g:Nat) (hw:Rd w b g f) (hl:Laid w) (hs:s.size<4294967281)
 (hix:Hid (Lib.indexByte (L s) 61=(a:Int))) (ha:1≤a) (has:a<s.size) (hnm:s.extract 0 a=nm) (hrs:s.extract (a+1) s.size=rs) (BU:nm.extract 0 (a - 1)=iq) (hns:nm.size=a)
 (hn:Hid (lM (numOf (L rs))= .tuple #[.int .i64 n, .bool ok])) (qY:(((aI (L nm) (a - 1):Nat):Int)==62)=false) (h60:((aI (L nm) (a - 1):Nat):Int)=60) (p0:Hid (¬L iq=[112,111,119,101,114])) (p1:Hid (L iq=[116,111,117,103,104])):
 Calls Tryz.prog 245 #[.pointer (some ⟨g,0,none⟩), .string s] w fun e w'=>e= .returned (.bool ok)∧Rd w' b g { f with tk:=2,tn:=n } ∧Fr g b w w':=by
 have hrl:rs.size<4294967281:=by rw [←hrs,ByteArray.size_extract];omega
 have hgn:=jm nm
 have hbw:b≤w.heap.size:=by have:=hw.lt;have:=hw.2;omega
 have t0:(iq.toList==[112,111,119,101,114])=false:=aU p0.out
 have t1:(iq.toList==[116,111,117,103,104])=true:=dP p1.out
 go_enter Tryz.func245,Tryz.ntmps245
 go_wp2_with (first|(go_at_call 205;(with_reducible refine (oQ _ _ _ hix.out).mono ?_);rintro e w0 ⟨rfl,rfl⟩)|(go_at_call 208;(with_reducible refine (lF rs n ok hn.out _ hl hrl).mono ?_);rintro e w1 ⟨rfl,hb1⟩;have hw1:=hw.below hb1;have hbb:Fr g b w w1:=Fr.of hb1 hbw;have hbs:=Nat.le_trans hbw hb1.size;have c3:w1.cell? ⟨g,12,none⟩=some (.int .i64 f.tk):=hw1.cell 12;have c4:w1.cell? ⟨g,13,none⟩=some (.int .i64 f.tn):=hw1.cell 13;have f3:=hw1.free 12;have f4:=hw1.free 13;have hlt:=hw1.lt;have hlt2:g≠w1.heap.size:=Nat.ne_of_lt hlt))
 go_region
 all_goals go_wp2
 all_goals
  go_ret
  refine ⟨rfl,?_,?_⟩
  ·exact Rd.drew (((hw1.fO (f':= { f with tk:=2 }) 12 (.int .i64 2) rfl).fO (f':= { f with tk:=2,tn:=n }) 13 (.int .i64 n) rfl).alloc _)
  ·exact (((hbb.setCell hw.2 _).setCell hw.2 _).alloc (by simp [World.setCell];exact hbs) _).drew
theorem abS (s nm iq rs:ByteArray) (f:aH) (a:Nat) (n:Int) (ok:Bool) (w:World) (b g:Nat) (hw:Rd w b g f) (hl:Laid w) (hs:s.size<4294967281)
 (hix:Hid (Lib.indexByte (L s) 61=(a:Int))) (ha:1≤a) (has:a<s.size) (hnm:s.extract 0 a=nm) (hrs:s.extract (a+1) s.size=rs) (BU:nm.extract 0 (a - 1)=iq) (hns:nm.size=a)
 (hn:Hid (lM (numOf (L rs))= .tuple #[.int .i64 n, .bool ok])) (qY:(((aI (L nm) (a - 1):Nat):Int)==62)=false) (h60:((aI (L nm) (a - 1):Nat):Int)=60) (p0:Hid (¬L iq=[112,111,119,101,114])) (p1:Hid (¬L iq=[116,111,117,103,104])) (p2:Hid (L iq=[118,97,108,117,101])):
 Calls Tryz.prog 245 #[.pointer (some ⟨g,0,none⟩), .string s] w fun e w'=>e= .returned (.bool ok)∧Rd w' b g { f with vk:=2,vn:=n } ∧Fr g b w w':=by
 have hrl:rs.size<4294967281:=by rw [←hrs,ByteArray.size_extract];omega
 have hgn:=jm nm
 have hbw:b≤w.heap.size:=by have:=hw.lt;have:=hw.2;omega
 have t0:(iq.toList==[112,111,119,101,114])=false:=aU p0.out
 have t1:(iq.toList==[116,111,117,103,104])=false:=aU p1.out
 have t2:(iq.toList==[118,97,108,117,101])=true:=dP p2.out
 go_enter Tryz.func245,Tryz.ntmps245
 go_wp2_with (first|(go_at_call 205;(with_reducible refine (oQ _ _ _ hix.out).mono ?_);rintro e w0 ⟨rfl,rfl⟩)|(go_at_call 208;(with_reducible refine (lF rs n ok hn.out _ hl hrl).mono ?_);rintro e w1 ⟨rfl,hb1⟩;have hw1:=hw.below hb1;have hbb:Fr g b w w1:=Fr.of hb1 hbw;have hbs:=Nat.le_trans hbw hb1.size;have c3:w1.cell? ⟨g,14,none⟩=some (.int .i64 f.vk):=hw1.cell 14;have c4:w1.cell? ⟨g,15,none⟩=some (.int .i64 f.vn):=hw1.cell 15;have f3:=hw1.free 14;have f4:=hw1.free 15;have hlt:=hw1.lt;have hlt2:g≠w1.heap.size:=Nat.ne_of_lt hlt))
 go_region
 all_goals go_wp2
 all_goals
  go_ret
  refine ⟨rfl,?_,?_⟩
  ·exact Rd.drew (((hw1.fO (f':= { f with vk:=2 }) 14 (.int .i64 2) rfl).fO (f':= { f with vk:=2,vn:=n }) 15 (.int .i64 n) rfl).alloc _)
  ·exact (((hbb.setCell hw.2 _).setCell hw.2 _).alloc (by simp [World.setCell];exact hbs) _).drew
theorem abT (s nm iq rs:ByteArray) (f:aH) (a:Nat) (n:Int) (ok:Bool) (w:World) (b g:Nat) (hw:Rd w b g f) (hl:Laid w) (hs:s.size<4294967281)
 (hix:Hid (Lib.indexByte (L s) 61=(a:Int))) (ha:1≤a) (has:a<s.size) (hnm:s.extract 0 a=nm) (hrs:s.extract (a+1) s.size=rs) (BU:nm.extract 0 (a - 1)=iq) (hns:nm.size=a)
 (hn:Hid (lM (numOf (L rs))= .tuple #[.int .i64 n, .bool ok])) (qY:(((aI (L nm) (a - 1):Nat):Int)==62)=false) (h60:((aI (L nm) (a - 1):Nat):Int)=60) (p0:Hid (¬L iq=[112,111,119,101,114])) (p1:Hid (¬L iq=[116,111,117,103,104])) (p2:Hid (¬L iq=[118,97,108,117,101])):
 Calls Tryz.prog 245 #[.pointer (some ⟨g,0,none⟩), .string s] w fun e w'=>e= .returned (.bool false)∧Rd w' b g f∧Fr g b w w':=by
 have hrl:rs.size<4294967281:=by rw [←hrs,ByteArray.size_extract];omega
 have hgn:=jm nm
 have hbw:b≤w.heap.size:=by have:=hw.lt;have:=hw.2;omega
 have t0:(iq.toList==[112,111,119,101,114])=false:=aU p0.out
 have t1:(iq.toList==[116,111,117,103,104])=false:=aU p1.out
 have t2:(iq.toList==[118,97,108,117,101])=false:=aU p2.out
 go_enter Tryz.func245,Tryz.ntmps245
 go_wp2_with (first|(go_at_call 205;(with_reducible refine (oQ _ _ _ hix.out).mono ?_);rintro e w0 ⟨rfl,rfl⟩)|(go_at_call 208;(with_reducible refine (lF rs n ok hn.out _ hl hrl).mono ?_);rintro e w1 ⟨rfl,hb1⟩;have hw1:=hw.below hb1;have hbb:Fr g b w w1:=Fr.of hb1 hbw;have hbs:=Nat.le_trans hbw hb1.size))
 go_region
 all_goals go_wp2
 all_goals
  go_ret
  refine ⟨rfl,?_,?_⟩
  ·first
    |exact hw1.alloc _
    |exact Rd.drew (hw1.alloc _)
  ·first
    |exact hbb.alloc hbs _
    |exact (hbb.alloc hbs _).drew
theorem ad9 (s nm iq rs:ByteArray) (f:aH) (a:Nat) (n:Int) (ok:Bool) (w:World) (b g:Nat) (hw:Rd w b g f) (hl:Laid w) (hs:s.size<4294967281)
 (hix:Hid (Lib.indexByte (L s) 61=(a:Int))) (ha:1≤a) (has:a<s.size) (hnm:s.extract 0 a=nm) (hrs:s.extract (a+1) s.size=rs) (BU:nm.extract 0 (a - 1)=iq) (hns:nm.size=a)
 (hn:Hid (lM (numOf (L rs))= .tuple #[.int .i64 n, .bool ok])) (qY:(((aI (L nm) (a - 1):Nat):Int)==62)=false) (h60:(((aI (L nm) (a - 1):Nat):Int)==60)=false) (p0:Hid (L nm=[112,111,119,101,114])):
 Calls Tryz.prog 245 #[.pointer (some ⟨g,0,none⟩), .string s] w fun e w'=>e= .returned (.bool ok)∧Rd w' b g { f with pk:=3,pn:=n } ∧Fr g b w w':=by
 have hrl:rs.size<4294967281:=by rw [←hrs,ByteArray.size_extract];omega
 have hgn:=jm nm
 have hbw:b≤w.heap.size:=by have:=hw.lt;have:=hw.2;omega
 have t0:(nm.toList==[112,111,119,101,114])=true:=dP p0.out
 go_enter Tryz.func245,Tryz.ntmps245
 go_wp2_with (first|(go_at_call 205;(with_reducible refine (oQ _ _ _ hix.out).mono ?_);rintro e w0 ⟨rfl,rfl⟩)|(go_at_call 208;(with_reducible refine (lF rs n ok hn.out _ hl hrl).mono ?_);rintro e w1 ⟨rfl,hb1⟩;have hw1:=hw.below hb1;have hbb:Fr g b w w1:=Fr.of hb1 hbw;have hbs:=Nat.le_trans hbw hb1.size;have c3:w1.cell? ⟨g,10,none⟩=some (.int .i64 f.pk):=hw1.cell 10;have c4:w1.cell? ⟨g,11,none⟩=some (.int .i64 f.pn):=hw1.cell 11;have f3:=hw1.free 10;have f4:=hw1.free 11;have hlt:=hw1.lt;have hlt2:g≠w1.heap.size:=Nat.ne_of_lt hlt))
 all_goals
  go_ret
  refine ⟨rfl,?_,?_⟩
  ·exact ((hw1.fO (f':= { f with pk:=3 }) 10 (.int .i64 3) rfl).fO (f':= { f with pk:=3,pn:=n }) 11 (.int .i64 n) rfl).alloc _
  ·exact ((hbb.setCell hw.2 _).setCell hw.2 _).alloc (by simp [World.setCell];exact hbs) _
theorem aea (s nm iq rs:ByteArray) (f:aH) (a:Nat) (n:Int) (ok:Bool) (w:World) (b g:Nat) (hw:Rd w b g f) (hl:Laid w) (hs:s.size<4294967281)
 (hix:Hid (Lib.indexByte (L s) 61=(a:Int))) (ha:1≤a) (has:a<s.size) (hnm:s.extract 0 a=nm) (hrs:s.extract (a+1) s.size=rs) (BU:nm.extract 0 (a - 1)=iq) (hns:nm.size=a)
 (hn:Hid (lM (numOf (L rs))= .tuple #[.int .i64 n, .bool ok])) (qY:(((aI (L nm) (a - 1):Nat):Int)==62)=false) (h60:(((aI (L nm) (a - 1):Nat):Int)==60)=false) (p0:Hid (¬L nm=[112,111,119,101,114])) (p1:Hid (L nm=[116,111,117,103,104])):
 Calls Tryz.prog 245 #[.pointer (some ⟨g,0,none⟩), .string s] w fun e w'=>e= .returned (.bool ok)∧Rd w' b g { f with tk:=3,tn:=n } ∧Fr g b w w':=by
 have hrl:rs.size<4294967281:=by rw [←hrs,ByteArray.size_extract];omega
 have hgn:=jm nm
 have hbw:b≤w.heap.size:=by have:=hw.lt;have:=hw.2;omega
 have t0:(nm.toList==[112,111,119,101,114])=false:=aU p0.out
 have t1:(nm.toList==[116,111,117,103,104])=true:=dP p1.out
 go_enter Tryz.func245,Tryz.ntmps245
 go_wp2_with (first|(go_at_call 205;(with_reducible refine (oQ _ _ _ hix.out).mono ?_);rintro e w0 ⟨rfl,rfl⟩)|(go_at_call 208;(with_reducible refine (lF rs n ok hn.out _ hl hrl).mono ?_);rintro e w1 ⟨rfl,hb1⟩;have hw1:=hw.below hb1;have hbb:Fr g b w w1:=Fr.of hb1 hbw;have hbs:=Nat.le_trans hbw hb1.size;have c3:w1.cell? ⟨g,12,none⟩=some (.int .i64 f.tk):=hw1.cell 12;have c4:w1.cell? ⟨g,13,none⟩=some (.int .i64 f.tn):=hw1.cell 13;have f3:=hw1.free 12;have f4:=hw1.free 13;have hlt:=hw1.lt;have hlt2:g≠w1.heap.size:=Nat.ne_of_lt hlt))
 all_goals
  go_ret
  refine ⟨rfl,?_,?_⟩
  ·exact ((hw1.fO (f':= { f with tk:=3 }) 12 (.int .i64 3) rfl).fO (f':= { f with tk:=3,tn:=n }) 13 (.int .i64 n) rfl).alloc _
  ·exact ((hbb.setCell hw.2 _).setCell hw.2 _).alloc (by simp [World.setCell];exact hbs) _
theorem aeb (s nm iq rs:ByteArray) (f:aH) (a:Nat) (n:Int) (ok:Bool) (w:World) (b g:Nat) (hw:Rd w b g f) (hl:Laid w) (hs:s.size<4294967281)
 (hix:Hid (Lib.indexByte (L s) 61=(a:Int))) (ha:1≤a) (has:a<s.size) (hnm:s.extract 0 a=nm) (hrs:s.extract (a+1) s.size=rs) (BU:nm.extract 0 (a - 1)=iq) (hns:nm.size=a)
 (hn:Hid (lM (numOf (L rs))= .tuple #[.int .i64 n, .bool ok])) (qY:(((aI (L nm) (a - 1):Nat):Int)==62)=false) (h60:(((aI (L nm) (a - 1):Nat):Int)==60)=false) (p0:Hid (¬L nm=[112,111,119,101,114])) (p1:Hid (¬L nm=[116,111,117,103,104])) (p2:Hid (L nm=[118,97,108,117,101])):
 Calls Tryz.prog 245 #[.pointer (some ⟨g,0,none⟩), .string s] w fun e w'=>e= .returned (.bool ok)∧Rd w' b g { f with vk:=3,vn:=n } ∧Fr g b w w':=by
 have hrl:rs.size<4294967281:=by rw [←hrs,ByteArray.size_extract];omega
 have hgn:=jm nm
 have hbw:b≤w.heap.size:=by have:=hw.lt;have:=hw.2;omega
 have t0:(nm.toList==[112,111,119,101,114])=false:=aU p0.out
 have t1:(nm.toList==[116,111,117,103,104])=false:=aU p1.out
 have t2:(nm.toList==[118,97,108,117,101])=true:=dP p2.out
 go_enter Tryz.func245,Tryz.ntmps245
 go_wp2_with (first|(go_at_call 205;(with_reducible refine (oQ _ _ _ hix.out).mono ?_);rintro e w0 ⟨rfl,rfl⟩)|(go_at_call 208;(with_reducible refine (lF rs n ok hn.out _ hl hrl).mono ?_);rintro e w1 ⟨rfl,hb1⟩;have hw1:=hw.below hb1;have hbb:Fr g b w w1:=Fr.of hb1 hbw;have hbs:=Nat.le_trans hbw hb1.size;have c3:w1.cell? ⟨g,14,none⟩=some (.int .i64 f.vk):=hw1.cell 14;have c4:w1.cell? ⟨g,15,none⟩=some (.int .i64 f.vn):=hw1.cell 15;have f3:=hw1.free 14;have f4:=hw1.free 15;have hlt:=hw1.lt;have hlt2:g≠w1.heap.size:=Nat.ne_of_lt hlt))
 all_goals
  go_ret
  refine ⟨rfl,?_,?_⟩
  ·exact ((hw1.fO (f':= { f with vk:=3 }) 14 (.int .i64 3) rfl).fO (f':= { f with vk:=3,vn:=n }) 15 (.int .i64 n) rfl).alloc _
  ·exact ((hbb.setCell hw.2 _).setCell hw.2 _).alloc (by simp [World.setCell];exact hbs) _
theorem aec (s nm iq rs:ByteArray) (f:aH) (a:Nat) (n:Int) (ok:Bool) (w:World) (b g:Nat) (hw:Rd w b g f) (hl:Laid w) (hs:s.size<4294967281)
 (hix:Hid (Lib.indexByte (L s) 61=(a:Int))) (ha:1≤a) (has:a<s.size) (hnm:s.extract 0 a=nm) (hrs:s.extract (a+1) s.size=rs) (BU:nm.extract 0 (a - 1)=iq) (hns:nm.size=a)
 (hn:Hid (lM (numOf (L rs))= .tuple #[.int .i64 n, .bool ok])) (qY:(((aI (L nm) (a - 1):Nat):Int)==62)=false) (h60:(((aI (L nm) (a - 1):Nat):Int)==60)=false) (p0:Hid (¬L nm=[112,111,119,101,114])) (p1:Hid (¬L nm=[116,111,117,103,104])) (p2:Hid (¬L nm=[118,97,108,117,101])):
 Calls Tryz.prog 245 #[.pointer (some ⟨g,0,none⟩), .string s] w fun e w'=>e= .returned (.bool false)∧Rd w' b g f∧Fr g b w w':=by
 have hrl:rs.size<4294967281:=by rw [←hrs,ByteArray.size_extract];omega
 have hgn:=jm nm
 have hbw:b≤w.heap.size:=by have:=hw.lt;have:=hw.2;omega
 have t0:(nm.toList==[112,111,119,101,114])=false:=aU p0.out
 have t1:(nm.toList==[116,111,117,103,104])=false:=aU p1.out
 have t2:(nm.toList==[118,97,108,117,101])=false:=aU p2.out
 go_enter Tryz.func245,Tryz.ntmps245
 go_wp2_with (first|(go_at_call 205;(with_reducible refine (oQ _ _ _ hix.out).mono ?_);rintro e w0 ⟨rfl,rfl⟩)|(go_at_call 208;(with_reducible refine (lF rs n ok hn.out _ hl hrl).mono ?_);rintro e w1 ⟨rfl,hb1⟩;have hw1:=hw.below hb1;have hbb:Fr g b w w1:=Fr.of hb1 hbw;have hbs:=Nat.le_trans hbw hb1.size))
 all_goals
  go_ret
  refine ⟨rfl,?_,?_⟩
  ·first
    |exact hw1.alloc _
    |exact Rd.drew (hw1.alloc _)
  ·first
    |exact hbb.alloc hbs _
    |exact (hbb.alloc hbs _).drew
theorem aee (s:ByteArray) (i:Int) (w:World) (g:Nat) (hix:Hid (Lib.indexByte (L s) 61=i)) (hi:i<1):
 Calls Tryz.prog 245 #[.pointer (some ⟨g,0,none⟩), .string s] w fun e w'=>e= .returned (.bool false)∧w=w':=by
 go_enter Tryz.func245,Tryz.ntmps245
 go_wp2_with (go_at_call 205;(with_reducible refine (oQ _ _ _ hix.out).mono ?_);rintro e w0 ⟨rfl,rfl⟩)
 go_ret
 exact ⟨rfl,rfl⟩
def um (b g:Nat) (o:Option aH) (w:World) (e:Ending) (w':World):Prop:=
 Fr g b w w'∧((∃f',o=some f'∧e= .returned (.bool true)∧Rd w' b g f')∨(o=none∧e= .returned (.bool false)∧∃f',Rd w' b g f'))
theorem um.Ar {b g:Nat} {f f':aH} {o:Option aH} {ok:Bool} {w w':World} {e:Ending} (h:e= .returned (.bool ok)∧Rd w' b g f∧Fr g b w w') (ho:o=if ok then some f else none):um b g o w e w':=by
 obtain ⟨h1,h2,h3⟩:=h
 refine ⟨h3,?_⟩
 cases ok
 ·exact .inr ⟨ho,h1,f,h2⟩
 ·exact .inl ⟨f,ho,h1,h2⟩
theorem G9 {f:aH} {nm:Str} {k n:Int} (p0:nm=[112,111,119,101,114]):ji f nm k n=some { f with pk:=k,pn:=n } :=
 if_pos p0
theorem He {f:aH} {nm:Str} {k n:Int} (p0:¬nm=[112,111,119,101,114]) (p1:nm=[116,111,117,103,104]):ji f nm k n=some { f with tk:=k,tn:=n } :=
 (if_neg p0).trans (if_pos p1)
theorem Hf {f:aH} {nm:Str} {k n:Int} (p0:¬nm=[112,111,119,101,114]) (p1:¬nm=[116,111,117,103,104]) (p2:nm=[118,97,108,117,101]):ji f nm k n=some { f with vk:=k,vn:=n } :=
 (if_neg p0).trans ((if_neg p1).trans (if_pos p2))
theorem Hg {f:aH} {nm:Str} {k n:Int} (p0:¬nm=[112,111,119,101,114]) (p1:¬nm=[116,111,117,103,104]) (p2:¬nm=[118,97,108,117,101]):ji f nm k n=none:=
 (if_neg p0).trans ((if_neg p1).trans (if_neg p2))
theorem sZ {l:Str} {k n:Nat} (h:aI l k=n):((aI l k:Nat):Int)=(n:Int):=by rw [h]
theorem rV {l:Str} {k n:Nat} (h:¬aI l k=n):(((aI l k:Nat):Int)==(n:Int))=false:=by simp only [beq_eq_false_iff_ne,ne_eq];omega
theorem aed (s:ByteArray) (f:aH) (w:World) (b g:Nat) (hw:Rd w b g f) (hl:Laid w) (hs:s.size<4294967281):
 Calls Tryz.prog 245 #[.pointer (some ⟨g,0,none⟩), .string s] w (um b g (uY f (L s)) w):=by
 by_cases hlow:Lib.indexByte (L s) 61<1
 ·exact (aee s _ w g rfl hlow).mono fun e w' ⟨he,hw'⟩=>⟨hw' ▸ Fr.refl _ _ _, .inr ⟨if_pos hlow,he,f,hw' ▸ hw⟩⟩
 ·obtain ⟨a,ha⟩:∃a:Nat,Lib.indexByte (L s) 61=(a:Int):=⟨(Lib.indexByte (L s) 61).toNat,by omega⟩
  have ha1:1≤a:=by omega
  have has:a<s.size:=by
   have h1:=(Lib.indexByte_some ha).1
   rw [←dN]
   rcases Nat.lt_or_ge a (L s).length with h'|h'
   ·exact h'
   ·rw [List.getElem?_eq_none h'] at h1;cases h1
  have hnL:L (s.extract 0 a)=(L s).take a:=by rw [dM,List.drop_zero]
  have hns:(s.extract 0 a).size=a:=by rw [ByteArray.size_extract];omega
  have hrL:L (s.extract (a+1) s.size)=(L s).drop (a+1):=by rw [dM,←dN,List.take_length]
  have aoj:L ((s.extract 0 a).extract 0 (a - 1))=(L (s.extract 0 a)).take (a - 1):=by rw [dM,List.drop_zero]
  have hnl:(L (s.extract 0 a)).length=a:=by rw [dN];exact hns
  have hB:uY f (L s)=match numOf (L (s.extract (a+1) s.size)) with
   |some n=>ji f (qW (L (s.extract 0 a))).2 (qW (L (s.extract 0 a))).1 n
   |none=>none:=by
   unfold uY;rw [if_neg hlow,ha,Int.toNat_natCast,←hnL,←hrL];try rfl
  obtain ⟨n,ok,hn,hBn⟩:∃n ok,lM (numOf (L (s.extract (a+1) s.size)))= .tuple #[.int .i64 n, .bool ok]∧
   uY f (L s)=if ok then ji f (qW (L (s.extract 0 a))).2 (qW (L (s.extract 0 a))).1 n else none:=by
   rw [hB]
   cases numOf (L (s.extract (a+1) s.size)) with
   |some n=>exact ⟨n,true,rfl,rfl⟩
   |none=>exact ⟨0,false,rfl,rfl⟩
  rw [hBn]
  unfold qW
  rw [hnl]
  by_cases qY:aI (L (s.extract 0 a)) (a - 1)=62
  ·rw [if_pos qY,←aoj]
   by_cases p0:(L ((s.extract 0 a).extract 0 (a - 1)))=[112,111,119,101,114]
   ·refine (abU s _ _ _ f a n ok w b g hw hl hs ha ha1 has rfl rfl rfl hns hn (sZ qY) p0).mono fun e w' h=>um.Ar (f':=f) h ?_
    show (if ok then ji f (L ((s.extract 0 a).extract 0 (a - 1))) 1 n else none)=_
    rw [G9 p0]
   ·skip
    by_cases p1:(L ((s.extract 0 a).extract 0 (a - 1)))=[116,111,117,103,104]
    ·refine (abV s _ _ _ f a n ok w b g hw hl hs ha ha1 has rfl rfl rfl hns hn (sZ qY) p0 p1).mono fun e w' h=>um.Ar (f':=f) h ?_
     show (if ok then ji f (L ((s.extract 0 a).extract 0 (a - 1))) 1 n else none)=_
     rw [He p0 p1]
    ·skip
     by_cases p2:(L ((s.extract 0 a).extract 0 (a - 1)))=[118,97,108,117,101]
     ·refine (abW s _ _ _ f a n ok w b g hw hl hs ha ha1 has rfl rfl rfl hns hn (sZ qY) p0 p1 p2).mono fun e w' h=>um.Ar (f':=f) h ?_
      show (if ok then ji f (L ((s.extract 0 a).extract 0 (a - 1))) 1 n else none)=_
      rw [Hf p0 p1 p2]
     ·refine (abX s _ _ _ f a n ok w b g hw hl hs ha ha1 has rfl rfl rfl hns hn (sZ qY) p0 p1 p2).mono fun e w' ⟨h1,h2,h3⟩=>⟨h3, .inr ⟨?_,h1,f,h2⟩⟩
      show (if ok then ji f (L ((s.extract 0 a).extract 0 (a - 1))) 1 n else none)=_
      rw [Hg p0 p1 p2];cases ok<;>rfl
  ·rw [if_neg qY]
   by_cases h60:aI (L (s.extract 0 a)) (a - 1)=60
   ·rw [if_pos h60,←aoj]
    by_cases p0:(L ((s.extract 0 a).extract 0 (a - 1)))=[112,111,119,101,114]
    ·refine (abQ s _ _ _ f a n ok w b g hw hl hs ha ha1 has rfl rfl rfl hns hn (rV qY) (sZ h60) p0).mono fun e w' h=>um.Ar (f':=f) h ?_
     show (if ok then ji f (L ((s.extract 0 a).extract 0 (a - 1))) 2 n else none)=_
     rw [G9 p0]
    ·skip
     by_cases p1:(L ((s.extract 0 a).extract 0 (a - 1)))=[116,111,117,103,104]
     ·refine (abR s _ _ _ f a n ok w b g hw hl hs ha ha1 has rfl rfl rfl hns hn (rV qY) (sZ h60) p0 p1).mono fun e w' h=>um.Ar (f':=f) h ?_
      show (if ok then ji f (L ((s.extract 0 a).extract 0 (a - 1))) 2 n else none)=_
      rw [He p0 p1]
     ·skip
      by_cases p2:(L ((s.extract 0 a).extract 0 (a - 1)))=[118,97,108,117,101]
      ·refine (abS s _ _ _ f a n ok w b g hw hl hs ha ha1 has rfl rfl rfl hns hn (rV qY) (sZ h60) p0 p1 p2).mono fun e w' h=>um.Ar (f':=f) h ?_
       show (if ok then ji f (L ((s.extract 0 a).extract 0 (a - 1))) 2 n else none)=_
       rw [Hf p0 p1 p2]
      ·refine (abT s _ _ _ f a n ok w b g hw hl hs ha ha1 has rfl rfl rfl hns hn (rV qY) (sZ h60) p0 p1 p2).mono fun e w' ⟨h1,h2,h3⟩=>⟨h3, .inr ⟨?_,h1,f,h2⟩⟩
       show (if ok then ji f (L ((s.extract 0 a).extract 0 (a - 1))) 2 n else none)=_
       rw [Hg p0 p1 p2];cases ok<;>rfl
   ·rw [if_neg h60]
    by_cases p0:(L (s.extract 0 a))=[112,111,119,101,114]
    ·refine (ad9 s _ _ _ f a n ok w b g hw hl hs ha ha1 has rfl rfl rfl hns hn (rV qY) (rV h60) p0).mono fun e w' h=>um.Ar (f':=f) h ?_
     show (if ok then ji f (L (s.extract 0 a)) 3 n else none)=_
     rw [G9 p0]
    ·skip
     by_cases p1:(L (s.extract 0 a))=[116,111,117,103,104]
     ·refine (aea s _ _ _ f a n ok w b g hw hl hs ha ha1 has rfl rfl rfl hns hn (rV qY) (rV h60) p0 p1).mono fun e w' h=>um.Ar (f':=f) h ?_
      show (if ok then ji f (L (s.extract 0 a)) 3 n else none)=_
      rw [He p0 p1]
     ·skip
      by_cases p2:(L (s.extract 0 a))=[118,97,108,117,101]
      ·refine (aeb s _ _ _ f a n ok w b g hw hl hs ha ha1 has rfl rfl rfl hns hn (rV qY) (rV h60) p0 p1 p2).mono fun e w' h=>um.Ar (f':=f) h ?_
       show (if ok then ji f (L (s.extract 0 a)) 3 n else none)=_
       rw [Hf p0 p1 p2]
      ·refine (aec s _ _ _ f a n ok w b g hw hl hs ha ha1 has rfl rfl rfl hns hn (rV qY) (rV h60) p0 p1 p2).mono fun e w' ⟨h1,h2,h3⟩=>⟨h3, .inr ⟨?_,h1,f,h2⟩⟩
       show (if ok then ji f (L (s.extract 0 a)) 3 n else none)=_
       rw [Hg p0 p1 p2];cases ok<;>rfl
def gZ (f:aH) (s:Str):Option aH:=
 if Lib.hasPrefix s iM=true then some { f with sub:=B (Lib.trimPrefix s iM) } else
 if Lib.hasPrefix s fZ=true then (match xJ (Lib.trimPrefix s fZ) with
  |some n=>some { f with keys:=bits .or .i64 f.keys (n:Nat) }
  |none=>none) else
 match wO f s with
 |some f'=>some f'
 |none=>match xY f s with
  |some f'=>some f'
  |none=>uY f s
theorem EM (s:ByteArray) (w:World) (r:Str) (p:Bool) (hr:Lib.trimPrefix (L s) iM=r) (hp:Lib.hasPrefix (L s) iM=p):
 Calls Tryz.prog 120 #[.string s, .string ⟨#[115,117,98,58]⟩] w fun e w'=>e= .returned (.tuple #[.string (B r), .bool p])∧w=w':=by
 subst hr;subst hp
 exact rW s _ w iM rfl
theorem EN (s:ByteArray) (w:World) (r:Str) (p:Bool) (hr:Lib.trimPrefix (L s) fZ=r) (hp:Lib.hasPrefix (L s) fZ=p):
 Calls Tryz.prog 120 #[.string s, .string ⟨#[119,105,116,104,58]⟩] w fun e w'=>e= .returned (.tuple #[.string (B r), .bool p])∧w=w':=by
 subst hr;subst hp
 exact rW s _ w fZ rfl
theorem Vg (r:Str) (m:Nat) (h:xJ r=some m) (w:World) (hs:r.length<100000000):
 Calls Tryz.prog 242 #[.string (B r)] w fun e w'=>e= .returned (.tuple #[.int .i64 (m:Nat), .int .i64 0])∧Below w.heap.size w w':=
 (Cc (B r) w (by rw [bC];exact hs)).mono fun e w' ⟨he,hb⟩=>⟨by rw [he,cO,h];rfl,hb⟩
theorem Vf (r:Str) (h:xJ r=none) (w:World) (hs:r.length<100000000):
 Calls Tryz.prog 242 #[.string (B r)] w fun e w'=>e= .returned (.tuple #[.int .i64 0, .int .i64 3])∧Below w.heap.size w w':=
 (Cc (B r) w (by rw [bC];exact hs)).mono fun e w' ⟨he,hb⟩=>⟨by rw [he,cO,h];rfl,hb⟩
theorem take_any (s:ByteArray) (f:aH) (w:World) (b g:Nat) (hw:Rd w b g f) (hl:LB b w) (hs:s.size<100000000):
 Calls Tryz.prog 197 #[.pointer (some ⟨g,0,none⟩), .string s] w (um b g (gZ f (L s)) w):=by
 obtain ⟨r1,NH⟩:∃r,Lib.trimPrefix (L s) iM=r:=⟨_,rfl⟩
 obtain ⟨r2,NI⟩:∃r,Lib.trimPrefix (L s) fZ=r:=⟨_,rfl⟩
 have aom:r2.length<100000000:=by
  have:=Lib.trimPrefix_le (L s) fZ;rw [NI,dN] at this;omega
 have hbw:b≤w.heap.size:=by have:=hw.lt;have:=hw.2;omega
 have hl1:=hl.laid
 cases hp1:Lib.hasPrefix (L s) iM with
 |true=>
  have HT:Hid (gZ f (L s)=some { f with sub:=B r1 }):=Lib.hid (by unfold gZ;rw [if_pos hp1,NH])
  generalize gZ f (L s)=R at *
  have hr1:=Lib.hid NH;have hp:=Lib.hid hp1
  have c3:w.cell? ⟨g,7,none⟩=some (.string f.sub):=hw.cell 7
  have f3:=hw.free 7
  clear NH hp1 NI
  go_enter Tryz.func197,Tryz.ntmps197
  go_wp2_with (go_at_call 120;(with_reducible refine (EM _ _ r1 _ hr1.out hp.out).mono ?_);rintro e w0 ⟨rfl,rfl⟩)
  go_ret
  exact ⟨(Fr.refl _ _ _).setCell hw.2 _, .inl ⟨_,HT.out,rfl,hw.fO 7 _ rfl⟩⟩
 |false=>
  cases hp2:Lib.hasPrefix (L s) fZ with
  |true=>
   have hr1:=Lib.hid NH;have hp:=Lib.hid hp1
   have hr2:=Lib.hid NI;have hpp:=Lib.hid hp2
   have HT0:gZ f (L s)=(match xJ r2 with|some n=>some { f with keys:=bits .or .i64 f.keys (n:Nat) } |none=>none):=by
    unfold gZ;rw [if_neg (by rw [hp1];decide),if_pos hp2,NI]
   generalize gZ f (L s)=R at *
   clear NH hp1 NI hp2
   cases hk:xJ r2 with
   |some n=>
    rw [hk] at HT0
    have HT:Hid (R=some { f with keys:=bits .or .i64 f.keys (n:Nat) }):=Lib.hid HT0
    have HK:=Lib.hid hk;clear hk HT0
    go_enter Tryz.func197,Tryz.ntmps197
    go_wp2_with (first|(go_at_call 120;(with_reducible refine (EM _ _ r1 _ hr1.out hp.out).mono ?_);rintro e w0 ⟨rfl,rfl⟩)|(go_at_call 120;(with_reducible refine (EN _ _ r2 _ hr2.out hpp.out).mono ?_);rintro e w0 ⟨rfl,rfl⟩)|(go_at_call 242;(with_reducible refine (Vg r2 n HK.out _ aom).mono ?_);rintro e w1 ⟨rfl,hb1⟩;have hw1:=hw.below hb1;have c3:w1.cell? ⟨g,8,none⟩=some (.int .i64 f.keys):=hw1.cell 8;have f3:=hw1.free 8))
    go_ret
    exact ⟨(Fr.of hb1 hbw).setCell hw.2 _, .inl ⟨_,HT.out,rfl,hw1.fO 8 _ rfl⟩⟩
   |none=>
    rw [hk] at HT0
    have HT:Hid (R=none):=Lib.hid HT0
    have HK:=Lib.hid hk;clear hk HT0
    go_enter Tryz.func197,Tryz.ntmps197
    go_wp2_with (first|(go_at_call 120;(with_reducible refine (EM _ _ r1 _ hr1.out hp.out).mono ?_);rintro e w0 ⟨rfl,rfl⟩)|(go_at_call 120;(with_reducible refine (EN _ _ r2 _ hr2.out hpp.out).mono ?_);rintro e w0 ⟨rfl,rfl⟩)|(go_at_call 242;(with_reducible refine (Vf r2 HK.out _ aom).mono ?_);rintro e w1 ⟨rfl,hb1⟩;have hw1:=hw.below hb1;have c3:w1.cell? ⟨g,8,none⟩=some (.int .i64 f.keys):=hw1.cell 8;have f3:=hw1.free 8))
    go_ret
    exact ⟨(Fr.of hb1 hbw).setCell hw.2 _, .inr ⟨HT.out,rfl, { f with keys:=bits .or .i64 f.keys 0 },hw1.fO 8 _ rfl⟩⟩
  |false=>
   have hr1:=Lib.hid NH;have hp:=Lib.hid hp1
   have hr2:=Lib.hid NI;have hpp:=Lib.hid hp2
   have HT0:gZ f (L s)=(match wO f (L s) with|some f'=>some f'|none=>match xY f (L s) with|some f'=>some f'|none=>uY f (L s)):=by
    unfold gZ;rw [if_neg (by rw [hp1];decide),if_neg (by rw [hp2];decide)]
   generalize gZ f (L s)=R at *
   clear NH hp1 NI hp2
   have hs2:s.size<4294967281:=by omega
   cases hsm:wO f (L s) with
   |some f'=>
    rw [hsm] at HT0
    have HT:Hid (R=some f'):=Lib.hid HT0
    have HK:=Lib.hid hsm;clear hsm HT0
    go_enter Tryz.func197,Tryz.ntmps197
    go_wp2_with (first|(go_at_call 120;(with_reducible refine (EM _ _ r1 _ hr1.out hp.out).mono ?_);rintro e w0 ⟨rfl,rfl⟩)|(go_at_call 120;(with_reducible refine (EN _ _ r2 _ hr2.out hpp.out).mono ?_);rintro e w0 ⟨rfl,rfl⟩)|(go_at_call 243;(with_reducible refine (aap s f f' _ b g hw HK.out).mono ?_);rintro e w1 ⟨rfl,hw1,hb1⟩))
    go_ret
    exact ⟨hb1, .inl ⟨f',HT.out,rfl,hw1⟩⟩
   |none=>
    rw [hsm] at HT0
    have HK:=Lib.hid hsm;clear hsm
    cases hty:xY f (L s) with
    |some f'=>
     rw [hty] at HT0
     have HT:Hid (R=some f'):=Lib.hid HT0
     have HY:=Lib.hid hty;clear hty HT0
     go_enter Tryz.func197,Tryz.ntmps197
     go_wp2_with (first|(go_at_call 120;(with_reducible refine (EM _ _ r1 _ hr1.out hp.out).mono ?_);rintro e w0 ⟨rfl,rfl⟩)|(go_at_call 120;(with_reducible refine (EN _ _ r2 _ hr2.out hpp.out).mono ?_);rintro e w0 ⟨rfl,rfl⟩)|(go_at_call 243;(with_reducible refine (MZ s f _ g HK.out).mono ?_);rintro e w1 ⟨rfl,rfl⟩)|(go_at_call 244;(with_reducible refine (adH s f f' _ b g hw hl1 hs2 HY.out).mono ?_);rintro e w1 ⟨rfl,hw1,hb1⟩))
     go_ret
     exact ⟨hb1, .inl ⟨f',HT.out,rfl,hw1⟩⟩
    |none=>
     rw [hty] at HT0
     have HT:Hid (R=uY f (L s)):=Lib.hid HT0
     have HY:=Lib.hid hty;clear hty HT0
     go_enter Tryz.func197,Tryz.ntmps197
     go_wp2_with (first|(go_at_call 120;(with_reducible refine (EM _ _ r1 _ hr1.out hp.out).mono ?_);rintro e w0 ⟨rfl,rfl⟩)|(go_at_call 120;(with_reducible refine (EN _ _ r2 _ hr2.out hpp.out).mono ?_);rintro e w0 ⟨rfl,rfl⟩)|(go_at_call 243;(with_reducible refine (MZ s f _ g HK.out).mono ?_);rintro e w1 ⟨rfl,rfl⟩)|(go_at_call 244;(with_reducible refine (adG s f _ hl1 hs2 g HY.out).mono ?_);rintro e w1 ⟨rfl,hb1⟩;have hw1:=hw.below hb1;have hl2:=hl1.below hb1))
     refine (aed s f _ b g hw1 hl2 hs2).mono ?_
     rintro e w2 ⟨hb2,⟨f',hf,rfl,hw2⟩|⟨hf,rfl,f',hw2⟩⟩
     all_goals
      have HF:=Lib.hid hf;clear hf
      dsimp only
      go_wp2
      go_ret
     ·exact ⟨(Fr.of hb1 hbw).trans hb2, .inl ⟨f',HT.out.trans HF.out,rfl,hw2⟩⟩
     ·exact ⟨(Fr.of hb1 hbw).trans hb2, .inr ⟨HT.out.trans HF.out,rfl,f',hw2⟩⟩
theorem alx (k:Nat) (hk:k<3):∀w,(Instr.index 122 (.agg #[.string ⟨#[]⟩, .string ⟨#[121,111,117,114,115]⟩, .string ⟨#[116,104,101,105,114,115]⟩]) (.int .i64 k)).run Tryz.prog w= .ok (.string (B (wd iQ k))) w:=by
 intro w;rcases k with _|_|_|k
 ·kernel_rfl
 ·kernel_rfl
 ·kernel_rfl
 ·omega
theorem aiq (k:Nat) (hk:k<3):∀w,(Instr.index 122 (.agg #[.string ⟨#[]⟩, .string ⟨#[115,101,108,102]⟩, .string ⟨#[111,116,104,101,114]⟩]) (.int .i64 k)).run Tryz.prog w= .ok (.string (B (wd fU k))) w:=by
 intro w;rcases k with _|_|_|k
 ·kernel_rfl
 ·kernel_rfl
 ·kernel_rfl
 ·omega
theorem alv (k:Nat) (hk:k<3):∀w,(Instr.index 122 (.agg #[.string ⟨#[]⟩, .string ⟨#[116,97,112,112,101,100]⟩, .string ⟨#[117,110,116,97,112,112,101,100]⟩]) (.int .i64 k)).run Tryz.prog w= .ok (.string (B (wd iP k))) w:=by
 intro w;rcases k with _|_|_|k
 ·kernel_rfl
 ·kernel_rfl
 ·kernel_rfl
 ·omega
theorem air (k:Nat) (hk:k<4):∀w,(Instr.index 165 (.agg #[.string ⟨#[]⟩, .string ⟨#[62,61]⟩, .string ⟨#[60,61]⟩, .string ⟨#[61]⟩]) (.int .i64 k)).run Tryz.prog w= .ok (.string (B (wd fV k))) w:=by
 intro w;rcases k with _|_|_|_|k
 ·kernel_rfl
 ·kernel_rfl
 ·kernel_rfl
 ·kernel_rfl
 ·omega
theorem pR (name:ByteArray) (nl:Str) (hnl:L name=nl) (k n:Nat) (hk:k<4) (hn:n≤1000000) (hs:name.size≤100) (w:World) (hl:Laid w):
 Calls Tryz.prog 100 #[.string name, .agg #[.int .i64 k, .int .i64 n]] w fun e w'=>e= .returned (.string (B (bH nl k n)))∧Below w.heap.size w w':=by
 subst hnl
 have i0:=air k hk
 have hLb:Laid (w.alloc (.cells #[.int .i64 k, .int .i64 n] 23)):=hl.below ((Below.refl _ _).alloc (Nat.le_refl _) _)
 rcases Nat.eq_zero_or_pos k with h0|h0
 ·have e0:wd fV k=[]:=by subst h0;rfl
  have HD:Hid (bH (L name) k n=[]):=if_pos h0
  generalize bH (L name) k n=R at *
  clear h0
  go_enter Tryz.func100,Tryz.ntmps100
  go_wp2
  go_ret
  exact ⟨dV (by rw [HD.out];rfl),(Below.refl _ _).alloc (Nat.le_refl _) _⟩
 ·have e1:(wd fV k).isEmpty=false:=by
   rcases k with _|_|_|_|k
   ·omega
   ·rfl
   ·rfl
   ·rfl
   ·omega
  have e2:¬wd fV k=[]:=fun e=>by rw [e] at e1;cases e1
  have hwl:=l7 (T:=fV) (K:=2) (by decide) k
  have hil:=Lib.itoa_length_le n (by omega) (by omega)
  have HD:Hid (bH (L name) k n=L name++wd fV k++Lib.itoa n):=if_neg (by omega)
  generalize bH (L name) k n=R at *
  clear h0
  go_enter Tryz.func100,Tryz.ntmps100
  go_wp2_with (go_at_call 63;(with_reducible refine (nH _ (by omega) (by omega) _ hLb).mono ?_);rintro e w2 ⟨rfl,hb2⟩)
  go_ret
  exact ⟨dV (lC (by simp [nO,HD.out])),aaC ((Below.refl _ _).alloc (Nat.le_refl _) _) hb2⟩
structure WS (W0:World) (b g k:Nat) (cs:Array Value) (l:List Str) (N:Nat) (w:World):Prop where
 wr:Wr TW w b g l
 le:l.length≤N
 bel:Below b W0 w
 lt:k<b
 box:∀j,w.cell? ⟨k,j,none⟩=cs[j]?
theorem WS.below {W0 w w':World} {b g k N:Nat} {cs:Array Value} {l:List Str} (h:WS W0 b g k cs l N w) (hb:Below w.heap.size w w'):WS W0 b g k cs l N w':=
 ⟨h.wr.below hb,h.le,h.bel.trans (hb.mono (by have:=h.wr.lt;omega)),h.lt,fun j=>(hb.cell (p:=⟨k,j,none⟩) (by have:=h.wr.lt;have:=h.lt;show k<_;omega)).trans (h.box j)⟩
theorem WS.laid {W0 w:World} {b g k N:Nat} {cs:Array Value} {l:List Str} (h:WS W0 b g k cs l N w) (hl:LB b W0):Laid w:=(hl.below h.bel).laid
theorem WS.step {W0 w w':World} {b g k N N':Nat} {cs:Array Value} {l l':List Str} (h:WS W0 b g k cs l N w) (h1:Wr TW w' b g l') (h2:l'.length≤N') (h3:Below b w w'):WS W0 b g k cs l' N' w':=
 ⟨h1,h2,h.bel.trans h3,h.lt,fun j=>(h3.cell (p:=⟨k,j,none⟩) h.lt).trans (h.box j)⟩
theorem ad1 (s:ByteArray) {W0 w:World} {b g k N:Nat} {cs:Array Value} {l:List Str} (h:WS W0 b g k cs l N w) (hN:N<1000):
 Calls Tryz.prog 94 #[.pointer (some ⟨g,0,none⟩), .string s] w fun e w'=>e= .returned (.tuple #[])∧WS W0 b g k cs (bf l (L s)) (N+1) w':=
 (add_any s w b g l h.wr (by have:=h.le;omega)).mono fun e w' ⟨he,h1,h2,_⟩=>⟨he,h.step h1 (by have:=iG l (L s);have:=h.le;omega) h2⟩
theorem yY (m:Nat) (p:ByteArray) (pl:Str) (hp:L p=pl) (hps:p.size≤1000) (hm:m<2 ^ 6) {W0 w:World} {b g k N:Nat} {cs:Array Value} {l:List Str} (h:WS W0 b g k cs l N w) (hN:N<1000):
 Calls Tryz.prog 96 #[.pointer (some ⟨g,0,none⟩), .int .i64 m, .string p, .func (.func 97) #[] #[]] w fun e w'=>e= .returned (.tuple #[])∧WS W0 b g k cs (aZ l pl aO m) (N+31) w':=
 (Xu m p pl hp w b g l h.wr (by have:=h.le;omega) hm hps).mono fun e w' ⟨he,h1,h2,_⟩=>⟨he,h.step h1 (by have:=oJ l pl aO m;have:=h.le;omega) h2⟩
theorem xB (m:Nat) (p:ByteArray) (pl:Str) (hp:L p=pl) (hps:p.size≤1000) (hm:m<2 ^ 5) {W0 w:World} {b g k N:Nat} {cs:Array Value} {l:List Str} (h:WS W0 b g k cs l N w) (hN:N<1000) (hl:LB b W0):
 Calls Tryz.prog 96 #[.pointer (some ⟨g,0,none⟩), .int .i64 m, .string p, .func (.func 98) #[] #[]] w fun e w'=>e= .returned (.tuple #[])∧WS W0 b g k cs (aZ l pl aY m) (N+31) w':=
 (Vk m p pl hp w b g l h.wr (by have:=h.le;omega) hm hps (hl.below h.bel)).mono fun e w' ⟨he,h1,h2,_⟩=>⟨he,h.step h1 (by have:=oJ l pl aY m;have:=h.le;omega) h2⟩
theorem Pv (m:Nat) (p:ByteArray) (pl:Str) (hp:L p=pl) (hps:p.size≤1000) (hm:m<2 ^ 17) {W0 w:World} {b g k N:Nat} {cs:Array Value} {l:List Str} (h:WS W0 b g k cs l N w) (hN:N<1000):
 Calls Tryz.prog 96 #[.pointer (some ⟨g,0,none⟩), .int .i64 m, .string p, .func (.func 99) #[] #[]] w fun e w'=>e= .returned (.tuple #[])∧WS W0 b g k cs (aZ l pl bK m) (N+31) w':=
 (ZK m p pl hp w b g l h.wr (by have:=h.le;omega) hm hps).mono fun e w' ⟨he,h1,h2,_⟩=>⟨he,h.step h1 (by have:=oJ l pl bK m;have:=h.le;omega) h2⟩
theorem WS.start {w w1:World} {cs:Array Value} {t:Nat} (hb:Below (w.alloc (.cells cs t)).heap.size (w.alloc (.cells cs t)) w1):
 WS (w1.alloc (.cells #[.slice none 0 0] TW)) w1.heap.size w1.heap.size w.heap.size cs [] 0 (w1.alloc (.cells #[.slice none 0 0] TW)):=by
 have hs:=hb.size
 simp at hs
 refine ⟨⟨_,heap_alloc_new w1 _,Nat.le_refl _,Texts.nil _ _⟩,Nat.le_refl _,Below.refl _ _,by omega,fun j=> ?_⟩
 rw [World.cell?_alloc_lt _ _ _ (show w.heap.size<w1.heap.size by omega),qm hb j,cell_of_row _ _ j cs t (0,0) (heap_alloc_new w _)]
theorem WS.val {W0 w:World} {b g k N:Nat} {cs:Array Value} {l:List Str} (h:WS W0 b g k cs l N w):∃A c,w.cell? ⟨g,0,none⟩=some (.slice A l.length c)∧Texts w b l (.slice A l.length c):=by
 obtain ⟨v,h1,_,h3⟩:=h.wr
 obtain ⟨A,c,rfl,_⟩:=h3.form
 exact ⟨A,c,one_cell h1,h3⟩
theorem WS.fin {w w1 w2:World} {cs:Array Value} {t g k N:Nat} {X:Obj} {cs2:Array Value} {l:List Str} (hb:Below (w.alloc (.cells cs t)).heap.size (w.alloc (.cells cs t)) w1) (h:WS (w1.alloc X) w1.heap.size g k cs2 l N w2):Below w.heap.size w w2:=by
 have hs:=hb.size
 simp at hs
 have h1:Below w.heap.size w w1:=aaC ((Below.refl _ _).alloc (Nat.le_refl _) _) hb
 exact (h1.alloc (by omega) _).trans (h.bel.mono (by omega))
theorem LB.alloc {b:Nat} {w:World} {o:Obj} (h:LB b w) (hb:b≤w.heap.size):LB b (w.alloc o):=h.below ((Below.refl _ _).alloc hb _)
def lu (z wh se ty nt co nc:Nat) (sub:ByteArray) (ke ta pk pn tk tn vk vn:Nat):FN:=⟨z,wh,se,ty,nt,co,nc,L sub,ke,ta,pk,pn,tk,tn,vk,vn⟩
theorem Zt (z wh se ty nt co nc:Nat) (sub:ByteArray) (ke ta pk pn tk tn vk vn:Nat) (w:World) (hl:Laid w) (hv:dh ⟨z,wh,se,ty,nt,co,nc,sub,ke,ta,pk,pn,tk,tn,vk,vn⟩=true)
 (hz:z≤5) (hwh:wh<3) (hse:se<3) (hty:ty<2 ^ 6) (hnt:nt<2 ^ 6) (hco:co<2 ^ 5) (hnc:nc<2 ^ 5) (hsub:sub.size≤32) (hke:ke<2 ^ 17) (hta:ta<3)
 (hpk:pk<4) (hpn:pn≤1000000) (htk:tk<4) (htn:tn≤1000000) (hvk:vk<4) (hvn:vn≤1000000)
 (hjl:(Lib.join (gG (lu z wh se ty nt co nc sub ke ta pk pn tk tn vk vn)) [32]).length≤140737488355328):
 Calls Tryz.prog 38 #[.agg #[.int .i64 z, .int .i64 wh, .int .i64 se, .int .i64 ty, .int .i64 nt, .int .i64 co, .int .i64 nc, .string sub, .int .i64 ke, .int .i64 ta, .int .i64 pk, .int .i64 pn, .int .i64 tk, .int .i64 tn, .int .i64 vk, .int .i64 vn]] w fun e w'=>e= .returned (.string (B (iI (lu z wh se ty nt co nc sub ke ta pk pn tk tn vk vn))))∧Below w.heap.size w w':=by
 have HV:=Lib.hid hv;clear hv
 have hl1:Laid (w.alloc (.cells #[.int .i64 z, .int .i64 wh, .int .i64 se, .int .i64 ty, .int .i64 nt, .int .i64 co, .int .i64 nc, .string sub, .int .i64 ke, .int .i64 ta, .int .i64 pk, .int .i64 pn, .int .i64 tk, .int .i64 tn, .int .i64 vk, .int .i64 vn] 25)):=hl.below ((Below.refl _ _).alloc (Nat.le_refl _) _)
 have i1:=alx wh hwh
 have i2:=aiq se hse
 have i3:=alv ta hta
 by_cases hs:L sub=[]
 ·have s0:sub.toList=[]:=by rw [dZ];exact hs
  have eW:gG (lu z wh se ty nt co nc sub ke ta pk pn tk tn vk vn)=iV true (lu z wh se ty nt co nc sub ke ta pk pn tk tn vk vn):=by
   unfold gG;rw [show ((lu z wh se ty nt co nc sub ke ta pk pn tk tn vk vn).sub==[])=true by simpa [lu] using hs]
  rw [eW] at hjl
  have HT:Hid (iI (lu z wh se ty nt co nc sub ke ta pk pn tk tn vk vn)=if iV true (lu z wh se ty nt co nc sub ke ta pk pn tk tn vk vn)=[] then nP else Lib.join (iV true (lu z wh se ty nt co nc sub ke ta pk pn tk tn vk vn)) [32]):=by rw [iI,eW];rfl
  generalize iI (lu z wh se ty nt co nc sub ke ta pk pn tk tn vk vn)=R at *
  clear eW
  clear hs
  go_enter Tryz.func38,Tryz.ntmps38
  go_wp2_with (first|(go_at_call 26;refine (wF _ _ _ _ _ _ _ _ _ _ _ _ _ _ _ _ _ hl1 true HV).mono ?_;rintro e w1 ⟨rfl,hb1⟩;have hW:=WS.start hb1;have hC:=hW.box;have hcv:True:=trivial;have lW:True:=trivial;have DF:=LB.start ((hl1.below hb1)) (Nat.le_refl w1.heap.size))|(go_at_call 95;(with_reducible refine (kD _ hz _).mono ?_);rintro e w2 ⟨rfl,rfl⟩)|(go_at_call 94;(with_reducible refine (ad1 _ hW (by omega)).mono ?_);clear hW hC hcv lW;rintro e w2 ⟨rfl,hW⟩;have hC:=hW.box;obtain ⟨A2,c2,hcv,lW⟩:=hW.val)|(go_at_call 96;(with_reducible refine (yY _ _ [] rfl (by decide) hty hW (by omega)).mono ?_);clear hW hC hcv lW;rintro e w2 ⟨rfl,hW⟩;have hC:=hW.box;obtain ⟨A2,c2,hcv,lW⟩:=hW.val)|(go_at_call 96;(with_reducible refine (yY _ _ dD rfl (by decide) hnt hW (by omega)).mono ?_);clear hW hC hcv lW;rintro e w2 ⟨rfl,hW⟩;have hC:=hW.box;obtain ⟨A2,c2,hcv,lW⟩:=hW.val)|(go_at_call 96;(with_reducible refine (xB _ _ [] rfl (by decide) hco hW (by omega) (LB.alloc DF (Nat.le_refl _))).mono ?_);clear hW hC hcv lW;rintro e w2 ⟨rfl,hW⟩;have hC:=hW.box;obtain ⟨A2,c2,hcv,lW⟩:=hW.val)|(go_at_call 96;(with_reducible refine (xB _ _ dD rfl (by decide) hnc hW (by omega) (LB.alloc DF (Nat.le_refl _))).mono ?_);clear hW hC hcv lW;rintro e w2 ⟨rfl,hW⟩;have hC:=hW.box;obtain ⟨A2,c2,hcv,lW⟩:=hW.val)|(go_at_call 96;(with_reducible refine (Pv _ _ fZ rfl (by decide) hke hW (by omega)).mono ?_);clear hW hC hcv lW;rintro e w2 ⟨rfl,hW⟩;have hC:=hW.box;obtain ⟨A2,c2,hcv,lW⟩:=hW.val)|(go_at_call 100;(with_reducible refine (pR _ eP rfl _ _ hpk hpn (by decide) _ (hW.laid (LB.alloc DF (Nat.le_refl _)))).mono ?_);rintro e w2 ⟨rfl,hb2⟩;replace hW:=hW.below hb2;clear hC hb2 hcv lW;have hC:=hW.box;have hcv:True:=trivial;have lW:True:=trivial)|(go_at_call 100;(with_reducible refine (pR _ fE rfl _ _ htk htn (by decide) _ (hW.laid (LB.alloc DF (Nat.le_refl _)))).mono ?_);rintro e w2 ⟨rfl,hb2⟩;replace hW:=hW.below hb2;clear hC hb2 hcv lW;have hC:=hW.box;have hcv:True:=trivial;have lW:True:=trivial)|(go_at_call 100;(with_reducible refine (pR _ fH rfl _ _ hvk hvn (by decide) _ (hW.laid (LB.alloc DF (Nat.le_refl _)))).mono ?_);rintro e w2 ⟨rfl,hb2⟩;replace hW:=hW.below hb2;clear hC hb2 hcv lW;have hC:=hW.box;have hcv:True:=trivial;have lW:True:=trivial)|(go_at_call 101;refine (tH _ _ _ _ _ _ lW (by have:=hW.le;omega) [32] rfl hjl).mono ?_;rintro e w3 ⟨rfl,hb3⟩))
  ·have h0:(((iV true (lu z wh se ty nt co nc sub ke ta pk pn tk tn vk vn)).length:Int)==0)=true:=by assumption
   go_ret
   exact ⟨dV (by rw [HT.out,if_pos (by simpa using h0)];rfl),WS.fin hb1 hW⟩
  ·have h0:(((iV true (lu z wh se ty nt co nc sub ke ta pk pn tk tn vk vn)).length:Int)==0)=false:=by assumption
   go_ret
   exact ⟨dV (by rw [HT.out,if_neg (by simpa using h0)];rfl),(WS.fin hb1 hW).trans (hb3.mono (by have:=(WS.fin hb1 hW).size;omega))⟩
 ·have s1:sub.toList.isEmpty=false:=by rw [dZ];simpa using hs
  have s2:¬sub.toList=[]:=by rw [dZ];exact hs
  have eW:gG (lu z wh se ty nt co nc sub ke ta pk pn tk tn vk vn)=iV false (lu z wh se ty nt co nc sub ke ta pk pn tk tn vk vn):=by
   unfold gG;rw [show ((lu z wh se ty nt co nc sub ke ta pk pn tk tn vk vn).sub==[])=false by simpa [lu] using hs]
  rw [eW] at hjl
  have HT:Hid (iI (lu z wh se ty nt co nc sub ke ta pk pn tk tn vk vn)=if iV false (lu z wh se ty nt co nc sub ke ta pk pn tk tn vk vn)=[] then nP else Lib.join (iV false (lu z wh se ty nt co nc sub ke ta pk pn tk tn vk vn)) [32]):=by rw [iI,eW];rfl
  generalize iI (lu z wh se ty nt co nc sub ke ta pk pn tk tn vk vn)=R at *
  clear eW
  clear hs
  go_enter Tryz.func38,Tryz.ntmps38
  go_wp2_with (first|(go_at_call 26;refine (wF _ _ _ _ _ _ _ _ _ _ _ _ _ _ _ _ _ hl1 true HV).mono ?_;rintro e w1 ⟨rfl,hb1⟩;have hW:=WS.start hb1;have hC:=hW.box;have hcv:True:=trivial;have lW:True:=trivial;have DF:=LB.start ((hl1.below hb1)) (Nat.le_refl w1.heap.size))|(go_at_call 95;(with_reducible refine (kD _ hz _).mono ?_);rintro e w2 ⟨rfl,rfl⟩)|(go_at_call 94;(with_reducible refine (ad1 _ hW (by omega)).mono ?_);clear hW hC hcv lW;rintro e w2 ⟨rfl,hW⟩;have hC:=hW.box;obtain ⟨A2,c2,hcv,lW⟩:=hW.val)|(go_at_call 96;(with_reducible refine (yY _ _ [] rfl (by decide) hty hW (by omega)).mono ?_);clear hW hC hcv lW;rintro e w2 ⟨rfl,hW⟩;have hC:=hW.box;obtain ⟨A2,c2,hcv,lW⟩:=hW.val)|(go_at_call 96;(with_reducible refine (yY _ _ dD rfl (by decide) hnt hW (by omega)).mono ?_);clear hW hC hcv lW;rintro e w2 ⟨rfl,hW⟩;have hC:=hW.box;obtain ⟨A2,c2,hcv,lW⟩:=hW.val)|(go_at_call 96;(with_reducible refine (xB _ _ [] rfl (by decide) hco hW (by omega) (LB.alloc DF (Nat.le_refl _))).mono ?_);clear hW hC hcv lW;rintro e w2 ⟨rfl,hW⟩;have hC:=hW.box;obtain ⟨A2,c2,hcv,lW⟩:=hW.val)|(go_at_call 96;(with_reducible refine (xB _ _ dD rfl (by decide) hnc hW (by omega) (LB.alloc DF (Nat.le_refl _))).mono ?_);clear hW hC hcv lW;rintro e w2 ⟨rfl,hW⟩;have hC:=hW.box;obtain ⟨A2,c2,hcv,lW⟩:=hW.val)|(go_at_call 96;(with_reducible refine (Pv _ _ fZ rfl (by decide) hke hW (by omega)).mono ?_);clear hW hC hcv lW;rintro e w2 ⟨rfl,hW⟩;have hC:=hW.box;obtain ⟨A2,c2,hcv,lW⟩:=hW.val)|(go_at_call 100;(with_reducible refine (pR _ eP rfl _ _ hpk hpn (by decide) _ (hW.laid (LB.alloc DF (Nat.le_refl _)))).mono ?_);rintro e w2 ⟨rfl,hb2⟩;replace hW:=hW.below hb2;clear hC hb2 hcv lW;have hC:=hW.box;have hcv:True:=trivial;have lW:True:=trivial)|(go_at_call 100;(with_reducible refine (pR _ fE rfl _ _ htk htn (by decide) _ (hW.laid (LB.alloc DF (Nat.le_refl _)))).mono ?_);rintro e w2 ⟨rfl,hb2⟩;replace hW:=hW.below hb2;clear hC hb2 hcv lW;have hC:=hW.box;have hcv:True:=trivial;have lW:True:=trivial)|(go_at_call 100;(with_reducible refine (pR _ fH rfl _ _ hvk hvn (by decide) _ (hW.laid (LB.alloc DF (Nat.le_refl _)))).mono ?_);rintro e w2 ⟨rfl,hb2⟩;replace hW:=hW.below hb2;clear hC hb2 hcv lW;have hC:=hW.box;have hcv:True:=trivial;have lW:True:=trivial)|(go_at_call 101;refine (tH _ _ _ _ _ _ lW (by have:=hW.le;omega) [32] rfl hjl).mono ?_;rintro e w3 ⟨rfl,hb3⟩))
  ·have h0:(((iV false (lu z wh se ty nt co nc sub ke ta pk pn tk tn vk vn)).length:Int)==0)=true:=by assumption
   go_ret
   exact ⟨dV (by rw [HT.out,if_pos (by simpa using h0)];rfl),WS.fin hb1 hW⟩
  ·have h0:(((iV false (lu z wh se ty nt co nc sub ke ta pk pn tk tn vk vn)).length:Int)==0)=false:=by assumption
   go_ret
   exact ⟨dV (by rw [HT.out,if_neg (by simpa using h0)];rfl),(WS.fin hb1 hW).trans (hb3.mono (by have:=(WS.fin hb1 hW).size;omega))⟩
theorem acB (zone who self types aV colors aP:Int) (sub:ByteArray) (keys dJ pk pn tk tn vk vn:Int) (w:World) (hl:Laid w) (hv:dh ⟨zone,who,self,types,aV,colors,aP,sub,keys,dJ,pk,pn,tk,tn,vk,vn⟩=false):
 Calls Tryz.prog 38 #[.agg #[.int .i64 zone, .int .i64 who, .int .i64 self, .int .i64 types, .int .i64 aV, .int .i64 colors, .int .i64 aP, .string sub, .int .i64 keys, .int .i64 dJ, .int .i64 pk, .int .i64 pn, .int .i64 tk, .int .i64 tn, .int .i64 vk, .int .i64 vn]] w fun e w'=>e= .returned (.string ⟨#[]⟩)∧Below w.heap.size w w':=by
 have HV:=Lib.hid hv;clear hv
 have hl1:Laid (w.alloc (.cells #[.int .i64 zone, .int .i64 who, .int .i64 self, .int .i64 types, .int .i64 aV, .int .i64 colors, .int .i64 aP, .string sub, .int .i64 keys, .int .i64 dJ, .int .i64 pk, .int .i64 pn, .int .i64 tk, .int .i64 tn, .int .i64 vk, .int .i64 vn] 25)):=hl.below ((Below.refl _ _).alloc (Nat.le_refl _) _)
 go_enter Tryz.func38,Tryz.ntmps38
 go_wp2_with (go_at_call 26;refine (wF _ _ _ _ _ _ _ _ _ _ _ _ _ _ _ _ _ hl1 false HV).mono ?_;rintro e w1 ⟨rfl,hb1⟩)
 go_ret
 exact ⟨rfl,aaC ((Below.refl _ _).alloc (Nat.le_refl _) _) hb1⟩
def qC (f:aH):FN:=⟨f.zone.toNat,f.who.toNat,f.self.toNat,f.types.toNat,f.aV.toNat,f.colors.toNat,f.aP.toNat,L f.sub,f.keys.toNat,f.dJ.toNat,f.pk.toNat,f.pn.toNat,f.tk.toNat,f.tn.toNat,f.vk.toNat,f.vn.toNat⟩
def textOf (f:aH):Str:=if dh f=true then iI (qC f) else []
theorem jO {n m:Int} (h:jJ n m=true):∃k:Nat,n=(k:Int)∧(k:Int)≤m:=by
 simp only [jJ,Bool.and_eq_true,decide_eq_true_eq] at h
 exact ⟨n.toNat,by omega,by omega⟩
theorem AX {k n:Int} (h:bnd k n=true):∃a b:Nat,k=(a:Int)∧n=(b:Int)∧a<4∧b≤1000000:=by
 simp only [bnd,Bool.and_eq_true] at h
 obtain ⟨a,ha,ha2⟩:=jO h.1
 obtain ⟨b,hb,hb2⟩:=jO h.2.1
 exact ⟨a,b,ha,hb,by omega,by omega⟩
theorem Pj {l:Str} (h:isName l=true):l.length≤32:=by
 simp only [isName,tZ,Bool.and_eq_true,decide_eq_true_eq] at h;omega
theorem tu {l:Str} (h:nG l=true):l.length≤32:=by
 simp only [nG,Bool.and_eq_true] at h;exact Pj h.1
theorem FH (name:Str) (hn:name.length≤10) (k n:Nat) (hnn:n≤1000000):(bH name k n).length≤40:=by
 unfold bH;split
 ·simp
 ·have h1:=l7 (T:=fV) (K:=2) (by decide) k
  have h2:=Lib.itoa_length_le n (by omega) (by omega)
  simp only [List.length_append];omega
theorem rC {l:List Str} {s:Str} {K:Nat} (hl:∀x∈l,x.length≤K) (hs:s.length≤K):∀x∈bf l s,x.length≤K:=by
 intro x hx;unfold bf at hx;split at hx
 ·exact hl x hx
 ·simp at hx;rcases hx with h|h
  ·exact hl x h
  ·subst h;exact hs
theorem uX {l:List Str} {p:Str} {T:List Str} {m K:Nat} (hl:∀x∈l,x.length≤K) (hp:∀i,(p++wd T i).length≤K):∀x∈aZ l p T m,x.length≤K:=by
 unfold aZ
 generalize aK m 31=bl
 induction bl generalizing l with
 |nil=>exact hl
 |cons i r ih=>simp only [List.map_cons,List.foldl_cons];exact ih (rC hl (hp i))
theorem U9 (b:Bool) (f:FN) (hs:f.sub.length≤32) (h1:f.pn≤1000000) (h2:f.tn≤1000000) (h3:f.vn≤1000000):∀x∈iV b f,x.length≤40:=by
 have wl:∀(T:List Str) (_:∀x∈T,x.length≤14) i,(wd T i).length≤40:=fun T h i=>by have:=l7 h i;omega
 have pl:∀(p:Str) (_:p.length≤5) (T:List Str) (_:∀x∈T,x.length≤14) i,(p++wd T i).length≤40:=fun p hp T h i=>by have:=l7 h i;rw [List.length_append];omega
 have base:∀x∈aZ (aZ (aZ (aZ (bf (bf (bf [] (wd bU f.zone)) (wd iQ f.who)) (wd fU f.self)) [] aO f.types) dD aO f.aV) [] aY f.colors) dD aY f.aP,x.length≤40:=
  uX (uX (uX (uX (rC (rC (rC (by simp) (wl _ (by decide) _)) (wl _ (by decide) _)) (wl _ (by decide) _)) (pl _ (by decide) _ (by decide))) (pl _ (by decide) _ (by decide))) (pl _ (by decide) _ (by decide))) (pl _ (by decide) _ (by decide))
 unfold iV
 refine rC (rC (rC (rC (uX ?_ (pl _ (by decide) _ (by decide))) (wl _ (by decide) _)) (FH _ (by decide) _ _ h1)) (FH _ (by decide) _ _ h2)) (FH _ (by decide) _ _ h3)
 cases b
 ·exact rC base (by rw [List.length_append];show 4+_≤_;omega)
 ·exact base
theorem U0 (b:Bool) (f:FN):(iV b f).length≤200:=by
 have a1:=oJ (bf (bf (bf [] (wd bU f.zone)) (wd iQ f.who)) (wd fU f.self)) [] aO f.types
 have h0:=iG [] (wd bU f.zone)
 have h1:=iG (bf [] (wd bU f.zone)) (wd iQ f.who)
 have h2:=iG (bf (bf [] (wd bU f.zone)) (wd iQ f.who)) (wd fU f.self)
 have a2:=oJ (aZ (bf (bf (bf [] (wd bU f.zone)) (wd iQ f.who)) (wd fU f.self)) [] aO f.types) dD aO f.aV
 have a3:=oJ (aZ (aZ (bf (bf (bf [] (wd bU f.zone)) (wd iQ f.who)) (wd fU f.self)) [] aO f.types) dD aO f.aV) [] aY f.colors
 have a4:=oJ (aZ (aZ (aZ (bf (bf (bf [] (wd bU f.zone)) (wd iQ f.who)) (wd fU f.self)) [] aO f.types) dD aO f.aV) [] aY f.colors) dD aY f.aP
 have last:∀l:List Str,l.length≤150→(bf (bf (bf (bf (aZ l fZ bK f.keys) (wd iP f.dJ)) (bH eP f.pk f.pn)) (bH fE f.tk f.tn)) (bH fH f.vk f.vn)).length≤200:=by
  intro l hl
  have b1:=oJ l fZ bK f.keys
  have b2:=iG (aZ l fZ bK f.keys) (wd iP f.dJ)
  have b3:=iG (bf (aZ l fZ bK f.keys) (wd iP f.dJ)) (bH eP f.pk f.pn)
  have b4:=iG (bf (bf (aZ l fZ bK f.keys) (wd iP f.dJ)) (bH eP f.pk f.pn)) (bH fE f.tk f.tn)
  have b5:=iG (bf (bf (bf (aZ l fZ bK f.keys) (wd iP f.dJ)) (bH eP f.pk f.pn)) (bH fE f.tk f.tn)) (bH fH f.vk f.vn)
  omega
 simp only [List.length_nil] at h0
 unfold iV
 cases b
 ·refine last _ ?_
  have b0:=iG (aZ (aZ (aZ (aZ (bf (bf (bf [] (wd bU f.zone)) (wd iQ f.who)) (wd fU f.self)) [] aO f.types) dD aO f.aV) [] aY f.colors) dD aY f.aP) (iM++f.sub)
  simp only [cond_false];omega
 ·refine last _ ?_
  simp only [cond_true];omega
theorem Et (f:FN) (hs:f.sub.length≤32) (h1:f.pn≤1000000) (h2:f.tn≤1000000) (h3:f.vn≤1000000):(Lib.join (gG f) [32]).length≤8200:=by
 have hm:=U9 (f.sub==[]) f hs h1 h2 h3
 have hn:=U0 (f.sub==[]) f
 have h:=join_le [32] 40 (gG f) hm
 have:(gG f).length * (40+1)≤200 * (40+1):=Nat.mul_le_mul_right _ hn
 simp only [List.length_cons,List.length_nil] at h;omega
theorem LQ (zone who self types aV colors aP:Int) (sub:ByteArray) (keys dJ pk pn tk tn vk vn:Int) (w:World) (hl:Laid w):
 Calls Tryz.prog 38 #[.agg #[.int .i64 zone, .int .i64 who, .int .i64 self, .int .i64 types, .int .i64 aV, .int .i64 colors, .int .i64 aP, .string sub, .int .i64 keys, .int .i64 dJ, .int .i64 pk, .int .i64 pn, .int .i64 tk, .int .i64 tn, .int .i64 vk, .int .i64 vn]] w fun e w'=>e= .returned (.string (B (textOf ⟨zone,who,self,types,aV,colors,aP,sub,keys,dJ,pk,pn,tk,tn,vk,vn⟩)))∧Below w.heap.size w w':=by
 cases hv:dh ⟨zone,who,self,types,aV,colors,aP,sub,keys,dJ,pk,pn,tk,tn,vk,vn⟩ with
 |false=>
  refine (acB zone who self types aV colors aP sub keys dJ pk pn tk tn vk vn w hl hv).mono fun e w' ⟨he,hb⟩=>⟨?_,hb⟩
  rw [he,textOf,hv];rfl
 |true=>
  have hv2:=hv
  simp only [dh,mF,Bool.and_eq_true,Bool.or_eq_true,beq_iff_eq] at hv2
  obtain ⟨⟨g1,g2,g3,g4,g5⟩,⟨g6,g7,g8⟩,⟨g9,g10,g11⟩,g12,g13,g14,g15⟩:=hv2
  obtain ⟨z,rfl,hz⟩:=jO g1
  obtain ⟨wh,rfl,hwh⟩:=jO g2
  obtain ⟨se,rfl,hse⟩:=jO g3
  obtain ⟨ta,rfl,hta⟩:=jO g4
  obtain ⟨ke,rfl,hke⟩:=jO g5
  obtain ⟨ty,rfl,hty⟩:=jO g6
  obtain ⟨nt,rfl,hnt⟩:=jO g7
  obtain ⟨co,rfl,hco⟩:=jO g9
  obtain ⟨nc,rfl,hnc⟩:=jO g10
  obtain ⟨pk,pn,rfl,rfl,hpk,hpn⟩:=AX g13
  obtain ⟨tk,tn,rfl,rfl,htk,htn⟩:=AX g14
  obtain ⟨vk,vn,rfl,rfl,hvk,hvn⟩:=AX g15
  have hsub:sub.size≤32:=by
   rw [←dN]
   rcases g12 with h|h
   ·rw [h];simp
   ·exact tu h
  have hj:=Et (lu z wh se ty nt co nc sub ke ta pk pn tk tn vk vn) (by show (L sub).length≤32;rw [dN];exact hsub) hpn htn hvn
  refine (Zt z wh se ty nt co nc sub ke ta pk pn tk tn vk vn w hl hv (by omega) (by omega) (by omega) (by omega) (by omega) (by omega) (by omega) hsub (by omega) (by omega) hpk hpn htk htn hvk hvn (by omega)).mono fun e w' ⟨he,hb⟩=>⟨?_,hb⟩
  rw [he,textOf,hv];rfl
def aaB:aH:=⟨0,0,0,0,0,0,0,⟨#[]⟩,0,0,0,0,0,0,0,0⟩
def pI:aH→List Str→Option aH
 |f,[]=>some f
 |f,x::r=>match gZ f x with|some f'=>pI f' r|none=>none
theorem acD {f:aH} {l:List Str} {k:Nat} (hk:k<l.length):pI f (l.drop k)=(match gZ f l[k] with|some f'=>pI f' (l.drop (k+1))|none=>none):=by
 rw [List.drop_eq_getElem_cons hk,pI]
def bW (s:Str):Option aH:=match (if s=nP then some aaB else pI aaB (splitOn 32 s)) with
 |some f=>if textOf f=s then some f else none
 |none=>none
def ER (o:Option aH):Value:=match o with|some f=> .tuple #[.agg f.cells, .int .i64 0]|none=> .tuple #[.agg aaB.cells, .int .i64 3]
theorem zK (f:aH) (w:World) (hl:Laid w):
 Calls Tryz.prog 38 #[.agg f.cells] w fun e w'=>e= .returned (.string (B (textOf f)))∧Below w.heap.size w w':=LQ f.zone f.who f.self f.types f.aV f.colors f.aP f.sub f.keys f.dJ f.pk f.pn f.tk f.tn f.vk f.vn w hl
theorem Nb (c:UInt8):∀(s:Str),∀x∈splitOn c s,x.length≤s.length
 |[],x,h=>by simp [splitOn] at h;subst h;simp
 |a::r,x,h=>by
  have ih:=Nb c r
  unfold splitOn at h;split at h
  ·simp at h;rcases h with rfl|h
   ·simp
   ·have:=ih x h;simp;omega
  ·split at h
   ·rename_i hs;simp at h;subst h;simp
   ·rename_i y z hs
    rw [hs] at ih
    simp at h;rcases h with rfl|h
    ·have:=ih y (by simp);simp;omega
    ·have:=ih x (by simp [h]);simp;omega
theorem Texts.at3 {w:World} {base c k:Nat} {A:Option Addr} {l:List Str} (h:Texts w base l (.slice A l.length c)) (hk:k<l.length):
 ∃g,A=some ⟨g,0,none⟩∧base≤g∧g<w.heap.size∧w.cell? ⟨g,k,none⟩=some (.string (B l[k])):=by
 obtain ⟨g,hA,hb,hg,hc⟩:=JM h hk
 exact ⟨g,hA,hb,hg,(hc k hk).trans (sO hk)⟩
abbrev TF:Nat:=25
theorem UR:textOf aaB=nP:=by decide +kernel
theorem gX:(Tryz.prog.info? TF).map (·.size)=some 16:=by kernel_rfl
theorem cells_one (f:aH):f.cells.all (·.oneCell')=true:=by simp [aH.cells,Value.oneCell']
theorem Es {w w3:World} {o o2:Obj} (hb:Below ((w.alloc o).alloc o2).heap.size ((w.alloc o).alloc o2) w3):w3.heap[w.heap.size]? =some o:=
 (hb.block _ (by simp;omega)).trans ((Below.heap_alloc _ _ _ (by simp)).trans (heap_alloc_new w o))
theorem Dc {w w3:World} {o o2:Obj} (hb:Below ((w.alloc o).alloc o2).heap.size ((w.alloc o).alloc o2) w3):w3.heap[w.heap.size+1]? =some o2:=
 (hb.block _ (by simp)).trans (by have:=heap_alloc_new (w.alloc o) o2;simpa using this)
theorem Hu {w w3:World} {o o2:Obj} (hb:Below ((w.alloc o).alloc o2).heap.size ((w.alloc o).alloc o2) w3):Below w.heap.size w w3:=
 oK (((Below.refl _ _).alloc (Nat.le_refl _) _).alloc (by simp) _) hb (by simp;omega)
theorem UZ (s:ByteArray) (w:World) (hl:Laid w) (hany:L s=nP):
 Calls Tryz.prog 123 #[.string s] w fun e w'=>e= .returned (.tuple #[.agg aaB.cells, .int .i64 0])∧Below w.heap.size w w':=by
 have t0:(s.toList==[97,110,121])=true:=dP hany
 have hl2:Laid ((w.alloc (.cells aaB.cells TF)).alloc (.cells aaB.cells TR)):=hl.below (((Below.refl _ _).alloc (Nat.le_refl _) _).alloc (by simp) _)
 have ht:=Lib.hid UR
 have t1:(nP==s.toList)=true:=iO hany.symm
 have t2:(s.toList==nP)=true:=dP hany
 go_enter Tryz.func123,Tryz.ntmps123
 go_wp2_with (first|(go_at_call 38;refine (zK aaB _ hl2).mono ?_;rintro e w3 ⟨rfl,hb3⟩;rw [ht.out];have hr3:=Lib.hid (Es hb3);have hg3:=Lib.hid (Dc hb3))|refine wpList_load_row rfl TF (.tmp 37) rfl (w.heap.size+1) rfl TR aaB.cells (0,0) _ hg3 Tryz.underlying25 rfl gX ?_|refine wpList_store_row rfl TF (.tmp 2) (.tmp 38) rfl w.heap.size aaB.cells rfl rfl TF aaB.cells hr3 gX rfl (cells_one _) ?_)
 exact bodyPost_ret (gV rfl _ _ w.heap.size TF aaB.cells (0,0) _ rfl (oV hr3) Tryz.underlying25 rfl gX) rfl ⟨rfl,below_setRow (Hu hb3) (Nat.le_refl _) _⟩
theorem Laid.alloc {w:World} (h:Laid w) (o:Obj):Laid (w.alloc o):=h.below ((Below.refl _ _).alloc (Nat.le_refl _) _)
def fK (f g:aH):Bool:=f.zone==g.zone&&(f.who==g.who&&(f.self==g.self&&(f.types==g.types&&(f.aV==g.aV&&(f.colors==g.colors&&(f.aP==g.aP&&(f.sub.toList==g.sub.toList&&(f.keys==g.keys&&(f.dJ==g.dJ&&(f.pk==g.pk&&(f.pn==g.pn&&(f.tk==g.tk&&(f.tn==g.tn&&(f.vk==g.vk&&(f.vn==g.vn)))))))))))))))
theorem Ac (a b:ByteArray):a.toList=b.toList↔a=b:=by
 rw [dZ,dZ];exact ⟨lC,fun h=>by rw [h]⟩
theorem lI (f g:aH):fK f g=true↔f=g:=by
 obtain ⟨zone,who,self,types,aV,colors,aP,sub,keys,dJ,pk,pn,tk,tn,vk,vn⟩:=f
 obtain ⟨zC,ajC,adw,rZ,Ry,QL,NK,ajn,acQ,ajr,pk2,pn2,tk2,tn2,vk2,QC⟩:=g
 simp only [fK,Bool.and_eq_true,beq_iff_eq,Ac,aH.mk.injEq]
theorem WW (zone who self types aV colors aP:Int) (sub:ByteArray) (keys dJ pk pn tk tn vk vn:Int) (zC ajC adw rZ Ry QL NK:Int) (ajn:ByteArray) (acQ ajr pk2 pn2 tk2 tn2 vk2 QC:Int) (w:World):(binOp .eql 25 (.agg #[.int .i64 zone, .int .i64 who, .int .i64 self, .int .i64 types, .int .i64 aV, .int .i64 colors, .int .i64 aP, .string sub, .int .i64 keys, .int .i64 dJ, .int .i64 pk, .int .i64 pn, .int .i64 tk, .int .i64 tn, .int .i64 vk, .int .i64 vn]) (.agg #[.int .i64 zC, .int .i64 ajC, .int .i64 adw, .int .i64 rZ, .int .i64 Ry, .int .i64 QL, .int .i64 NK, .string ajn, .int .i64 acQ, .int .i64 ajr, .int .i64 pk2, .int .i64 pn2, .int .i64 tk2, .int .i64 tn2, .int .i64 vk2, .int .i64 QC])).run Tryz.prog w= .ok (.bool (fK ⟨zone,who,self,types,aV,colors,aP,sub,keys,dJ,pk,pn,tk,tn,vk,vn⟩ ⟨zC,ajC,adw,rZ,Ry,QL,NK,ajn,acQ,ajr,pk2,pn2,tk2,tn2,vk2,QC⟩)) w:=by
 rw [run_eql_struct,run_equalIn_agg w 9999 25 _ _ (by kernel_rfl) (by kernel_rfl)]
 simp [fK,go_sem,Tryz.underlying25,Tryz.underlying23,Tryz.underlying3,Tryz.underlying9]
 iterate 15 (refine yX (by simp) ?_)
 split
 ·rename_i h;rw [h];simp
 ·rename_i h;rw [beq_eq_false_iff_ne.2 h]
theorem an4 (f g:aH) (w:World):(binOp .eql TF (.agg f.cells) (.agg g.cells)).run Tryz.prog w= .ok (.bool (fK f g)) w:=
 WW f.zone f.who f.self f.types f.aV f.colors f.aP f.sub f.keys f.dJ f.pk f.pn f.tk f.tn f.vk f.vn g.zone g.who g.self g.types g.aV g.colors g.aP g.sub g.keys g.dJ g.pk g.pn g.tk g.tn g.vk g.vn w
theorem lD (f:aH):fK f f=true:=(lI f f).2 rfl
theorem Q7 (s:ByteArray) (w:World) (hl:Laid w) (hs:s.size<100000000) (hany:¬L s=nP):
 Calls Tryz.prog 123 #[.string s] w fun e w'=>e= .returned (ER (match pI aaB (splitOn 32 (L s)) with|some f=>if textOf f=L s then some f else none|none=>none))∧Below w.heap.size w w':=by
 obtain ⟨R,hR⟩:∃R,R=(match pI aaB (splitOn 32 (L s)) with|some f=>if textOf f=L s then some f else none|none=>none):=⟨_,rfl⟩
 rw [←hR]
 have HR:=Lib.hid hR;clear hR
 have t0:(s.toList==[97,110,121])=false:=aU hany
 have t2:(!s.toList==[97,110,121])=true:=by rw [t0];rfl
 clear hany
 have hlen:=zq 32 (L s)
 have hmem:Hid (∀x∈splitOn 32 (L s),x.length<100000000):=fun x hx=>by have:=Nb 32 (L s) x hx;rw [dN] at this;omega
 rw [dN] at hlen
 have hl2:Laid ((w.alloc (.cells aaB.cells TF)).alloc (.cells aaB.cells TR)):=hl.below (((Below.refl _ _).alloc (Nat.le_refl _) _).alloc (by simp) _)
 have hsp:s.size<4294967281:=by omega
 go_enter Tryz.func123,Tryz.ntmps123
 go_wp2_with (go_at_call 198;refine (UE _ _ ((w.alloc (.cells aaB.cells TF)).alloc (.cells aaB.cells TR)) hl2.shaped hsp).mono ?_;rintro e w3 ⟨A,c,rfl,ht,hb3⟩)
 have hr3:=Lib.hid (Es hb3)
 have hg3:=Dc hb3
 have HRd:Rd w3 (w.heap.size+1) (w.heap.size+1) aaB:=⟨hg3,Nat.le_refl _⟩
 have hB3:=Hu hb3
 have DF:LB (w.heap.size+1) w3:=⟨w,hl,Nat.le_succ _,hB3⟩
 generalize splitOn 32 (L s)=ws at *
 have hbase:Hid (w.heap.size+2=((w.alloc (.cells aaB.cells TF)).alloc (.cells aaB.cells TR)).heap.size):=by show _=_;simp
 go_loopw [17] (fun i wr=>∃k:Nat,∃f:aH,k≤ws.length∧i= .int .i64 k∧Rd wr (w.heap.size+1) (w.heap.size+1) f∧Fr (w.heap.size+1) (w.heap.size+1) w3 wr∧Hid (pI aaB ws=pI f (ws.drop k))) (fun i _=>ws.length - (intOf i).toNat)
 case atStart=>exact ⟨0,aaB,by omega,rfl,HRd,Fr.refl _ _ _,rfl⟩
 case round=>
  obtain ⟨k,f,hk,rfl,hrd,hfr,HF⟩:=hrel
  have hsz:=hfr.bel.size
  have hLr:=DF.below hfr.bel
  have hrr:Hid (wr.heap[w.heap.size]? =some (.cells aaB.cells TF (0,0))):=(hfr.bel.block _ (by omega)).trans hr3.out
  by_cases hlt:k<ws.length
  ·obtain ⟨g3,rfl,hge,aio,hcl⟩:=ht.at3 hlt
   have hcell:wr.cell? ⟨g3,k,none⟩=some (.string (B ws[k])):=(World.cell?_of_block (w:=w3) (a:=⟨g3,k,none⟩) (hfr.keep g3 aio (by have:=hbase.out;omega))).trans hcl
   have hxs:(B ws[k]).size<100000000:=by rw [bC];exact hmem.out _ (List.getElem_mem hlt)
   have HST:=Lib.hid (acD (f:=f) hlt)
   clear hcl ht
   generalize ws[k]=x at *
   go_wp2_with fail
   refine (take_any (B x) f wr _ _ hrd hLr hxs).mono ?_
   rw [cO]
   rintro e w4 ⟨hf4,⟨f',hf,rfl,hw4⟩|⟨hf,rfl,f',hw4⟩⟩
   ·have HN:Hid (pI aaB ws=pI f' (ws.drop (k+1))):=Lib.hid (by rw [HF.out,HST.out,hf])
    have hf5:=hfr.trans hf4
    clear hf HST HF hf4 hcell
    dsimp only
    go_wp2
    go_roundw
    case rel=>exact ⟨k+1,f',by omega,by go_num,hw4,hf5,HN⟩
    case measure=>simp [intOf];omega
   ·have HN:Hid (R=none):=Lib.hid (by rw [HR.out,HF.out,HST.out,hf])
    have hf5:=hfr.trans hf4
    have hr4:Hid (w4.heap[w.heap.size]? =some (.cells aaB.cells TF (0,0))):=(hf4.bel.block _ (by omega)).trans hrr.out
    clear hf HST HF hf4 hcell HR
    dsimp only
    go_wp2_with (refine wpList_store_row rfl TF (.tmp 2) (.tmp 25) rfl w.heap.size aaB.cells rfl rfl TF aaB.cells hr4 gX rfl (cells_one _) ?_)
    refine bodyPost_ret (gV rfl _ _ w.heap.size TF aaB.cells (0,0) _ rfl (oV hr4) Tryz.underlying25 rfl gX) rfl ⟨?_,below_setRow (hB3.trans (hf5.bel.mono (Nat.le_succ _))) (Nat.le_refl _) _⟩
    exact ret_val (by rw [HN.out];rfl)
  ·obtain rfl:k=ws.length:=by omega
   have HE:Hid (pI aaB ws=some f):=Lib.hid (by rw [HF.out,List.drop_length];rfl)
   have hgr:=Lib.hid hrd.1
   have hLd:=hLr.laid
   clear HF
   by_cases hT:textOf f=L s
   ·have t3:=iO hT
    have HN:Hid (R=some f):=Lib.hid (by rw [HR.out,HE.out];exact if_pos hT)
    clear hT HR HE
    go_wp2_with (first|(go_at_call 38;refine (zK f _ hLd).mono ?_;rintro e w4 ⟨rfl,hb4⟩;have hr4:=Lib.hid ((hb4.block w.heap.size (by have:=hrd.lt;omega)).trans hrr.out);have hg4:=Lib.hid ((hb4.block _ hrd.lt).trans hgr.out))|refine wpList_load_row rfl TF (.tmp 29) rfl (w.heap.size+1) rfl TR f.cells (0,0) _ hgr Tryz.underlying25 rfl gX ?_|refine wpList_load_row rfl TF (.tmp 37) rfl (w.heap.size+1) rfl TR f.cells (0,0) _ hg4 Tryz.underlying25 rfl gX ?_|refine wpList_store_row rfl TF (.tmp 2) (.tmp 38) rfl w.heap.size f.cells rfl rfl TF aaB.cells hr4 gX rfl (cells_one _) ?_)
    refine bodyPost_ret (gV rfl _ _ w.heap.size TF f.cells (0,0) _ rfl (oV hr4) Tryz.underlying25 rfl gX) rfl ⟨?_,below_setRow ((hB3.trans (hfr.bel.mono (Nat.le_succ _))).trans (hb4.mono (by have:=hB3.size;omega))) (Nat.le_refl _) _⟩
    exact ret_val (by rw [HN.out];rfl)
   ·have t3:=jH hT
    have HN:Hid (R=none):=Lib.hid (by rw [HR.out,HE.out];exact if_neg hT)
    clear hT HR HE
    go_wp2_with (first|(go_at_call 38;refine (zK f _ hLd).mono ?_;rintro e w4 ⟨rfl,hb4⟩;have hr4:=Lib.hid ((hb4.block w.heap.size (by have:=hrd.lt;omega)).trans hrr.out);have hg4:=Lib.hid ((hb4.block _ hrd.lt).trans hgr.out))|refine wpList_load_row rfl TF (.tmp 29) rfl (w.heap.size+1) rfl TR f.cells (0,0) _ hgr Tryz.underlying25 rfl gX ?_|refine wpList_store_row rfl TF (.tmp 2) (.tmp 34) rfl w.heap.size aaB.cells rfl rfl TF aaB.cells hr4 gX rfl (cells_one _) ?_)
    refine bodyPost_ret (gV rfl _ _ w.heap.size TF aaB.cells (0,0) _ rfl (oV hr4) Tryz.underlying25 rfl gX) rfl ⟨?_,below_setRow ((hB3.trans (hfr.bel.mono (Nat.le_succ _))).trans (hb4.mono (by have:=hB3.size;omega))) (Nat.le_refl _) _⟩
    exact ret_val (by rw [HN.out];rfl)
theorem Jo (s:ByteArray) (w:World) (hl:Laid w) (hs:s.size<100000000):
 Calls Tryz.prog 123 #[.string s] w fun e w'=>e= .returned (ER (bW (L s)))∧Below w.heap.size w w':=by
 by_cases hany:L s=nP
 ·refine (UZ s w hl hany).mono fun e w' ⟨he,hb⟩=>⟨?_,hb⟩
  rw [he,bW,if_pos hany];simp only [hany,UR,if_true];try rfl
 ·refine (Q7 s w hl hs hany).mono fun e w' ⟨he,hb⟩=>⟨?_,hb⟩
  rw [he,bW,if_neg hany];try rfl
def V3:Str:=[121,111,117,114,115,32,111,116,104,101,114,32,99,114,101,97,116,117,114,101,32,119,105,116,104,58,102,108,121,105,110,103,32,112,111,119,101,114,62,61,51]
def VZ:aH:=⟨0,1,2,1,0,0,0,⟨#[]⟩,1,0,1,3,0,0,0,0⟩
theorem a1:splitOn 32 V3=[[121,111,117,114,115],[111,116,104,101,114],[99,114,101,97,116,117,114,101],[119,105,116,104,58,102,108,121,105,110,103],[112,111,119,101,114,62,61,51]]:=by decide +kernel
theorem a2:gZ aaB [121,111,117,114,115]=some { aaB with who:=1 } :=by kernel_rfl
theorem a3:gZ { aaB with who:=1 } [111,116,104,101,114]=some { aaB with who:=1,self:=2 } :=by kernel_rfl
theorem a4:gZ { aaB with who:=1,self:=2 } [99,114,101,97,116,117,114,101]=some { aaB with who:=1,self:=2,types:=1 } :=by kernel_rfl
theorem a5:gZ { aaB with who:=1,self:=2,types:=1 } [119,105,116,104,58,102,108,121,105,110,103]=some { aaB with who:=1,self:=2,types:=1,keys:=1 } :=by kernel_rfl
theorem a6:gZ { aaB with who:=1,self:=2,types:=1,keys:=1 } [112,111,119,101,114,62,61,51]=some VZ:=by kernel_rfl
theorem a7:textOf VZ=V3:=by kernel_rfl
theorem a8:bW V3=some VZ:=by kernel_rfl
theorem a9:bW nP=some aaB:=by kernel_rfl
theorem a10:bW [99,114,101,97,116,117,114,101,32,121,111,117,114,115]=none:=by kernel_rfl
end Go.Proofs.YtdicgggkdmkklaaGreatDoor
