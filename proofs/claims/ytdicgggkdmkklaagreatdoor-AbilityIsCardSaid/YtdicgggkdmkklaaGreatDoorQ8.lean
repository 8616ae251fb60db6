/- strings.TrimPrefix in the shape that walks want. Conditions: none. Walks: package effect: the closure of Text that adds a word; over rows. Conditions: none. Walks: package effect: name. Conditions: -/
import Derived.Test.YtdicgggkdmkklaaGreatDoorQ3
import Derived.Test.YtdicgggkdmkklaaGreatDoorQ2
import Derived.Test.YtdicgggkdmkklaaGreatDoorQ5
import Derived.Test.YtdicgggkdmkklaaGreatDoorQ7
import Derived.Test.YtdicgggkdmkklaaGreatDoorQ6
import Derived.Test.YtdicgggkdmkklaaGreatDoorMEMem
import Derived.Lib.ItoaLen
import Derived.Laws.RangeAny
import Derived.WalkMore
import Derived.Lib.OthersKept
set_option linter.all false
set_option maxRecDepth 100000
set_option maxHeartbeats 16000000
namespace Go.Proofs.YtdicgggkdmkklaaGreatDoor
open Go.ChangeShapes Go.WideShapes Go.RowKit
theorem aat (s p:ByteArray) (w:World) (pl:Str) (hp:L p=pl) (r:Str) (h:Hid (Lib.trimPrefix (L s) pl=r)):
 Calls Tryz.prog 129 #[.string s, .string p] w fun e w'=>e= .returned (.string (B r))∧w=w':=by
 subst hp
 exact (Tryz.strings_TrimPrefix s p w).mono fun _ _ h'=>⟨h'.1.trans (by rw [←h.out];rfl),h'.2.symm⟩
end Go.Proofs.YtdicgggkdmkklaaGreatDoor
namespace Go.Proofs.YtdicgggkdmkklaaGreatDoor
attribute [local irreducible] wpList Code.wp Calls
open Go.ChangeShapes Go.WideShapes Go.RowKit
abbrev mV:Nat:=73
theorem ahS (b:Bool) (s:Str) (w:World) (base g:Nat) (l:List Str) (hw:Wr mV w base g l) (hlen:l.length<1000000000):
 Calls Tryz.prog 184 #[.bool b, .string (B s), .pointer (some ⟨g,0,none⟩)] w fun e w'=>e= .returned (.tuple #[])∧Wr mV w' base g (l++opt b s)∧Below base w w'∧Keep g w w':=by
 cases b with
 |false=>
  have HW:=Lib.hid hw;clear hw
  go_enter Tryz.func184,Tryz.ntmps184
  go_wp2
  go_end0
  exact ⟨rfl,by simpa [opt] using HW.out,Below.refl _ _,Keep.refl _ _⟩
 |true=>
  obtain ⟨hgl,hgb⟩:=hw.lt
  obtain ⟨v,hg,hbg,hown⟩:=hw
  have hc:=one_cell hg
  have HG:=Lib.hid hg;clear hg hgb hgl
  go_enter Tryz.func184,Tryz.ntmps184
  go_wp2_with (at_builtin;refine Fv rfl (.tmp 6) (.tmp 8) 73 rfl Tryz.underlying73 jB (by decide) rfl rfl HG hbg hown hlen ?_;intro A2 c2 w2 hc2 hf2 HS;clear hc hown)
  go_end0
  refine ⟨rfl,?_,HS.out.2.1,HS.out.2.2⟩
  have:=HS.out.1
  rw [cO] at this
  simpa [opt] using this
structure WK (base g gw:Nat) (v:Value) (cur:Array Value) (l:List Str) (k:Nat):Prop where
 len:l.length≤k
 ne:l≠[]
 form:∃A c,v= .slice A l.length c
 back:∀w',w'.heap[g]? =some (.cells #[v] mV (0,0))→w'.heap[gw]? =some (.cells cur 9 (0,0))→Wr mV w' base g l∧Texts w' base l v
theorem St.keepR {L:World→Prop} {w0 w w':World} {rows:List Row} (h:St L w0 rows w) {g:Nat} (hb:Below w0.heap.size w w') (hk:Keep g w w') (hr:∀x∈rows,x.1≠g∧x.2.2≠9):St L w0 rows w':=
 ⟨h.base,h.keeps,h.below.trans hb,fun x hx=>⟨hk.2 x.1 _ (h.has x hx).1 (hr x hx).1 (fun cs fr e=>by injection e with _ e2 _;exact (hr x hx).2 e2),(h.has x hx).2⟩,h.apart⟩
theorem St.fZ {L:World→Prop} {w0 w:World} {rows:List Row} (h:St L w0 rows w) {g:Nat} {l:List Str} {k:Nat} (hW:Wr mV w w0.heap.size g l) (hne:l≠[]) (hk:l.length≤k) (hr:∀x∈rows,x.2.2≠9∧x.2.2≠mV):
 ∃v gw cur,St L w0 ((g,#[v],mV)::(gw,cur,9)::rows) w∧WK w0.heap.size g gw v cur l k:=by
 obtain ⟨v,hg,hbg,hown⟩:=hW
 have hown':=hown
 obtain ⟨h1,h2⟩:=hown
 rcases h2 with ⟨_,h0⟩|⟨gw,cap,cur,hv,hb,hh,hrest⟩
 ·exact absurd (List.length_eq_zero_iff.1 h0) hne
 ·refine ⟨v,gw,cur,⟨h.base,h.keeps,h.below,?_,?_⟩,hk,hne,⟨_,_,hv⟩,fun w' a1 a2=> ?_⟩
  ·intro x hx
   rcases List.mem_cons.1 hx with rfl|hx
   ·exact ⟨hg,hbg⟩
   ·rcases List.mem_cons.1 hx with rfl|hx
    ·exact ⟨hh,hb⟩
    ·exact h.has x hx
  ·have n1:g≠gw:=fun e=>by subst e;rw [hg] at hh;injection hh with hh;injection hh with _ e2 _;exact absurd e2 (by decide)
   have n2:∀x∈rows,x.1≠g:=fun x hx e=>by
    have:=(h.has x hx).1
    rw [e,hg] at this;injection this with this;injection this with _ e2 _
    exact (hr x hx).2 e2.symm
   have n3:∀x∈rows,x.1≠gw:=fun x hx e=>by
    have:=(h.has x hx).1
    rw [e,hh] at this;injection this with this;injection this with _ e2 _
    exact (hr x hx).1 e2.symm
   simp only [List.map_cons,List.nodup_cons,List.mem_cons,not_or]
   refine ⟨⟨n1,?_⟩,?_,h.apart⟩
   ·intro hm;obtain ⟨x,hx,e⟩:=List.mem_map.1 hm;exact n2 x hx e
   ·intro hm;obtain ⟨x,hx,e⟩:=List.mem_map.1 hm;exact n3 x hx e
  ·have ht:Texts w' w0.heap.size l v:=⟨h1, .inr ⟨gw,cap,cur,hv,hb,a2,hrest⟩⟩
   exact ⟨⟨v,a1,hbg,ht⟩,ht⟩
theorem ak4 {L:World→Prop} {w0 w:World} {rows:List Row} {g gw:Nat} {v:Value} {cur:Array Value} {l:List Str} {k:Nat} (b:Bool) (s:Str) (hS:St L w0 ((g,#[v],mV)::(gw,cur,9)::rows) w) (HW:Hid (WK w0.heap.size g gw v cur l k)) (hk:k<1000) (hr:∀x∈rows,x.2.2≠9∧x.2.2≠mV):
 Calls Tryz.prog 184 #[.bool b, .string (B s), .pointer (some ⟨g,0,none⟩)] w fun e w'=>e= .returned (.tuple #[])∧∃v' gw' cur',St L w0 ((g,#[v'],mV)::(gw',cur',9)::rows) w'∧Hid (WK w0.heap.size g gw' v' cur' (l++opt b s) (k+1)):=by
 obtain ⟨hW,_⟩:=HW.out.back w (hS.row .head) (hS.row (.tail .head))
 have hap:=hS.apart
 simp only [List.map_cons,List.nodup_cons,List.mem_cons,not_or] at hap
 have hS2:St L w0 rows w:=⟨hS.base,hS.keeps,hS.below,fun x hx=>hS.has x (.tail _ (.tail _ hx)),hap.2.2⟩
 refine (ahS b s w _ g l hW (by have:=HW.out.len;omega)).mono fun e w' ⟨he,hw',hb,hkp⟩=>⟨he,?_⟩
 have hS3:=hS2.keepR hb hkp (fun x hx=>⟨fun e=>hap.1.2 (List.mem_map.2 ⟨x,hx,e⟩),(hr x hx).1⟩)
 obtain ⟨v',gw',cur',h1,h2⟩:=hS3.fZ (k:=k+1) hw' (by simp [HW.out.ne]) (by
  have:=HW.out.len
  have h2:(opt b s).length≤1:=by cases b<;>simp [opt]
  rw [List.length_append];omega) hr
 exact ⟨v',gw',cur',h1,Lib.hid h2⟩
def KZ:Array Value:=(opT.map fun x=>Value.string (B x)).toArray
theorem aqD {k:Nat} (hk:k<27):KZ[k]? =some (.string (B (wd opT k))):=by
 have hl:k<opT.length:=hk
 simp [KZ,wd,List.getD,hl]
theorem afN:∀w:World,(zeroValue 153).run Tryz.prog w= .ok (.agg (Array.replicate 27 (.string ⟨#[]⟩))) w:=fun _=>by kernel_rfl
theorem abk:(Tryz.prog.info? 153).map (·.size)=some 27:=by kernel_rfl
theorem Tv (op:Int) (w:World) (hl:Laid w):Calls Tryz.prog 76 #[.int .i64 op] w fun e w'=>e= .returned (.string (B (opName op)))∧Below w.heap.size w w':=by
 obtain ⟨R,hR⟩:∃R,opName op=R:=⟨_,rfl⟩
 rw [hR]
 have HR:=Lib.hid hR
 clear hR
 have hS:=St.start hl bJ
 by_cases h:0≤op∧op≤26
 ·obtain ⟨k,hk⟩:∃k:Nat,op=k:=⟨op.toNat,by omega⟩
  subst hk
  have hk:k<27:=by omega
  have hc:=aqD hk
  have HV:Hid (wd opT k=R):=Lib.hid (by rw [←HR.out];unfold opName;rw [if_pos (by omega)];rfl)
  rw [HV.out] at hc
  have HC:=Lib.hid hc
  clear hc h
  go_enter Tryz.func76,Tryz.ntmps76
  go_wp2_with (first|((with_reducible refine aW ?_);refine aJ 153 rfl hS rfl _ afN ?_;intro g w hS)|((with_reducible refine aN ?_);refine bF (new:=KZ) rfl hS rfl rfl rfl .head (Nat.le_of_ble_eq_true rfl) (by kernel_rfl) abk (by kernel_rfl) ?_;intro w hS)|((with_reducible refine aC ?_);refine aQ rfl hS rfl rfl .head GY HC.out ?_;(try simp only [ah,ak,au,ay,aA])))
  all_goals go_ret
  all_goals exact ⟨rfl,hS.below⟩
 ·have HE:Hid (R=[]):=Lib.hid (by rw [←HR.out];unfold opName;rw [if_neg h])
  have hc:op<0∨(0≤op∧26<op):=by omega
  clear h
  rcases hc with hc|⟨hc,hd⟩
  all_goals
   go_enter Tryz.func76,Tryz.ntmps76
   go_wp2_with (first|((with_reducible refine aW ?_);refine aJ 153 rfl hS rfl _ afN ?_;intro g w hS)|((with_reducible refine aN ?_);refine bF (new:=KZ) rfl hS rfl rfl rfl .head (Nat.le_of_ble_eq_true rfl) (by kernel_rfl) abk (by kernel_rfl) ?_;intro w hS)|((with_reducible refine bG ?_);(first|(refine aS rfl ?_)|((fail_if_success refine fJ rfl ?_);refine iZ _ _ rfl rfl (fun hb=> ?_) (fun hb=> ?_)<;>(first|(obtain rfl:=eq_of_beq hb)|(simp only [hb]))));(try simp only [ah,ak,au,ay,aA])))
   all_goals go_ret
   all_goals exact ⟨dL HE.out.symm,hS.below⟩
end Go.Proofs.YtdicgggkdmkklaaGreatDoor
namespace Go.Proofs.YtdicgggkdmkklaaGreatDoor
open Go.ChangeShapes Go.WideShapes Go.RowKit
def uj (A:Option Addr) (l:List Md) (w:World):Prop:=l=[]∨∃b off,A=some ⟨b,off,none⟩∧Eb b off l w
theorem uj.keep {A:Option Addr} {l:List Md} {w1 w2:World} (h:uj A l w1) (hb:Below w1.heap.size w1 w2):uj A l w2:=h.imp id fun ⟨b,off,e,hm⟩=>⟨b,off,e,hm.keep hb⟩
abbrev anB (A:Option Addr) (l:List Md) (w:World):Prop:=Laid w∧uj A l w
theorem Xr (l:List Md) (T:Str) (h:Hid (eH l=T)) (A:Option Addr) (c:Nat) (w:World) (hl:anB A l w) (h0:l.length<1000000):Calls Tryz.prog 27 #[.slice A l.length c] w fun e w'=>e= .returned (.string (B T))∧Below w.heap.size w w':=by
 obtain rfl:=h.out
 rcases hl.2 with rfl|⟨b,off,rfl,hm⟩
 ·exact (Xt A c w).mono fun e w' h'=>⟨h'.1,h'.2 ▸ Below.refl _ _⟩
 ·exact Xq l b off c w ⟨hl.1,hm⟩ h0
theorem Qd (l:List Md) (T:Str) (h:Hid (eH l=T)) (A:Option Addr) (c:Nat) (w:World) (hl:anB A l w) (h0:l.length<1000000):Calls Tryz.prog 32 #[.slice A l.length c] w fun e w'=>e= .returned (.string (B T))∧Below w.heap.size w w':=by
 obtain rfl:=h.out
 rcases hl.2 with rfl|⟨b,off,rfl,hm⟩
 ·exact (Qe A c w).mono fun e w' h'=>⟨h'.1,h'.2 ▸ Below.refl _ _⟩
 ·exact Qc l b off c w ⟨hl.1,hm⟩ h0
theorem agP {w:World} {o:Oper} {a:Act} {T:Nat} {x:Operand} (ho:o.op= .load T x) {b p:Nat} (hx:a.eval x= .pointer (some ⟨b,p,none⟩)) {ds:Array Value} (hr:w.rangeAt b p ds.toList) {d:TypeDesc} (hu:Tryz.prog.underlying T=some d) (hd:d.isRow=true) (hi:(Tryz.prog.info? T).map (·.size)=some ds.size):(execOp a.eval o).run Tryz.prog w= .ok (.value (.agg ds)) w:=by
 have hl:=run_loadVar_mid (P:=Tryz.prog) w b p T ds.toList d hr hu hd (by simpa using hi)
 unfold execOp
 simp only [ho,hx,Instr.loadAt,Instr.sureAddr,Sem.run_bind,Sem.run_pure,Result.andThen_ok,hl,Array.toArray_toList]
theorem qp {L:World→Prop} {w0:World} {rows:List Row} {ops:Array Oper} {rest:List Oper} {o:Oper} {a:Act} {Q:Exit→Act→World→Prop} (T:Nat) {x:Operand} (ho:o.op= .load T x) (hw:Region.wanted o (yielded ops a.tmps)=true) {b p:Nat} (hx:a.eval x= .pointer (some ⟨b,p,none⟩)) {ds:Array Value} (hr:∀w,St L w0 rows w→w.rangeAt b p ds.toList)
 {d:TypeDesc} (hu:Tryz.prog.underlying T=some d) (hd:d.isRow=true) (hi:(Tryz.prog.info? T).map (·.size)=some ds.size) (hq:∀c a w,Q (.panic c) (a.put o.dst (.agg ds)) w→Q (.panic c) a w) (h:iR Tryz.prog ops Q (St L w0 rows) rest (a.put o.dst (.agg ds))):iR Tryz.prog ops Q (St L w0 rows) (o::rest) a:=
 dn hw hq (fun w hS=>agP ho hx (hr w hS) hu hd hi) h
def kL (e:Ef) (v:Sl) (w:World):Prop:=v.n=e.mods.length∧e.mods.length<1000000∧uj v.a e.mods w
theorem kL.keep {e:Ef} {v:Sl} {w1 w2:World} (h:kL e v w1) (hb:Below w1.heap.size w1 w2):kL e v w2:=⟨h.1,h.2.1,h.2.2.keep hb⟩
abbrev bQ (e:Ef) (v:Sl) (w:World):Prop:=bZ w∧kL e v w
theorem jL (e:Ef) (v:Sl):∀w1 w2:World,bQ e v w1→Below w1.heap.size w1 w2→bQ e v w2:=fun _ _ h hb=>⟨h.1.below hb,h.2.keep hb⟩
theorem Pq (e:Ef) (v:Sl) (T:Str) (h:Hid (eH e.mods=T)) (w:World) (hl:bQ e v w):Calls Tryz.prog 27 #[.slice v.a v.n v.c] w fun x w'=>x= .returned (.string (B T))∧Below w.heap.size w w':=by
 rw [hl.2.1]
 exact Xr e.mods T h v.a v.c w ⟨hl.1.base,hl.2.2.2⟩ hl.2.2.1
theorem Iw (e:Ef) (v:Sl) (T:Str) (h:Hid (eH e.mods=T)) (w:World) (hl:bQ e v w):Calls Tryz.prog 32 #[.slice v.a v.n v.c] w fun x w'=>x= .returned (.string (B T))∧Below w.heap.size w w':=by
 rw [hl.2.1]
 exact Qd e.mods T h v.a v.c w ⟨hl.1.base,hl.2.2.2⟩ hl.2.2.1
end Go.Proofs.YtdicgggkdmkklaaGreatDoor
namespace Go.Proofs.YtdicgggkdmkklaaGreatDoor
attribute [local irreducible] wpList Code.wp
open Go.ChangeShapes Go.WideShapes Go.RowKit
theorem ajG (z:Int) (w:World):Calls Tryz.prog 183 #[.int .i64 z] w fun e w'=>e= .returned (.string (B (dR z)))∧Below w.heap.size w w':=by
 by_cases h0:z=0
 ·subst h0
  have k0:=Lib.hid (Below.refl w.heap.size w)
  go_enter Tryz.func183,Tryz.ntmps183
  go_wp2
  go_ret
  exact ⟨rfl,(k0.out.alloc (Nat.le_refl _) _)⟩
 by_cases h1:z=1
 ·subst h1
  have k0:=Lib.hid (Below.refl w.heap.size w)
  go_enter Tryz.func183,Tryz.ntmps183
  go_wp2
  go_ret
  exact ⟨rfl,(k0.out.alloc (Nat.le_refl _) _)⟩
 by_cases h2:z=2
 ·subst h2
  have k0:=Lib.hid (Below.refl w.heap.size w)
  go_enter Tryz.func183,Tryz.ntmps183
  go_wp2
  go_ret
  exact ⟨rfl,(k0.out.alloc (Nat.le_refl _) _)⟩
 by_cases h3:z=3
 ·subst h3
  have k0:=Lib.hid (Below.refl w.heap.size w)
  go_enter Tryz.func183,Tryz.ntmps183
  go_wp2
  go_ret
  exact ⟨rfl,(k0.out.alloc (Nat.le_refl _) _)⟩
 by_cases h4:z=4
 ·subst h4
  have k0:=Lib.hid (Below.refl w.heap.size w)
  go_enter Tryz.func183,Tryz.ntmps183
  go_wp2
  go_ret
  exact ⟨rfl,(k0.out.alloc (Nat.le_refl _) _)⟩
 by_cases h5:z=5
 ·subst h5
  have k0:=Lib.hid (Below.refl w.heap.size w)
  go_enter Tryz.func183,Tryz.ntmps183
  go_wp2
  go_ret
  exact ⟨rfl,(k0.out.alloc (Nat.le_refl _) _)⟩
 ·have HR:Hid (dR z=[]):=Lib.hid (by unfold dR;rw [if_neg h0,if_neg h1,if_neg h2,if_neg h3,if_neg h4,if_neg h5])
  have hc:z<0∨(0≤z∧6≤z):=by omega
  clear h0 h1 h2 h3 h4 h5
  generalize dR z=R at *
  rcases hc with hc|⟨hc,hd⟩
  all_goals
   go_enter Tryz.func183,Tryz.ntmps183
   go_wp2
   go_ret
   exact ⟨dV (by rw [HR.out];rfl),(Below.refl _ _).alloc (Nat.le_refl _) _⟩
theorem Y0 (z:Int):(dR z).length≤11:=by
 unfold dR
 repeat' split
 all_goals decide
end Go.Proofs.YtdicgggkdmkklaaGreatDoor
namespace Go.Proofs.YtdicgggkdmkklaaGreatDoor
open Go.ChangeShapes Go.WideShapes Go.RowKit
theorem MV (r:Rf):(dI r).length≤1000100:=by
 cases h:iY r 4 with
 |false=>unfold dI;rw [if_neg (by rw [h];decide)];decide
 |true=>
  rcases sN h with rfl|rfl|rfl|rfl|rfl|(rfl|rfl|rfl|rfl)|(rfl|rfl|rfl|rfl)|⟨f,hf,rfl⟩
  all_goals try (decide +kernel)
  have e:dI ⟨4,0,f⟩=eF++(textOf f++[41]):=by
   unfold dI;rw [if_pos h]
   simp [refBody,xw]
  have:=oH (f:=f)
  rw [e]
  simp only [List.length_append,List.length_cons,List.length_nil]
  have:eF.length≤10:=by decide
  omega
theorem Ub (n:Nat) (h:n≤1000000):(Lib.itoa (n:Int)).length≤100:=by
 have:=Lib.itoa_length_le (n:Int) (by omega) (by omega)
 omega
theorem Oo (a:Am):(dW a).length≤1000300:=by
 cases h:iT a with
 |false=>unfold dW;rw [if_neg (by rw [h];decide)];decide
 |true=>
  have e:dW a=rU a:=if_pos h
  rw [e]
  have hc:∀f,(bT f).length≤1000100:=fun f=>by
   have:=oH (f:=f)
   have hw:fB.length≤20:=by decide
   unfold bT
   simp;omega
  rcases wU h with ⟨n,hn,rfl⟩|⟨n,h1,h2,f,_,rfl⟩|⟨c,(rfl|rfl|rfl),rfl⟩|⟨k,(rfl|rfl|rfl|rfl|rfl),rfl⟩
  ·have:=Ub n hn
   show (Lib.itoa (n:Int)).length≤_
   omega
  ·rw [wS]
   have:=Ub n (by omega)
   have:=hc f
   split
   ·simp;omega
   ·omega
  all_goals decide +kernel
theorem Gt (l:List Md):(eH l).length≤7000000:=by
 unfold eH
 split
 ·rename_i h
  have:=Gl (l.map cu) (fun x hx=>by
   obtain ⟨r,_,rfl⟩:=List.mem_map.1 hx
   exact DL r)
  rw [List.length_map] at this
  omega
 ·simp
theorem Ws (c:Int):(dw c).length≤100:=by
 unfold dw
 repeat' split
 all_goals decide
theorem PW (op:Int):(opName op).length≤100:=by
 unfold opName
 split
 ·have:∀k:Fin 27,(wd opT k.val).length≤100:=by decide +kernel
  exact this ⟨op.toNat,by omega⟩
 ·simp
theorem OM {e:Ef} (h:jl e 4=true):∀x∈kM e,x.length≤8000000:=by
 have o:=Eo h
 have h1:=MV e.ref
 have h2:=Oo e.amt
 have h3:=Gt e.mods
 have h4:=oH (f:=e.flt)
 have h5:=OB (Ee e.pool)
 have h6:=Ws e.ctr
 have h7:=Y0 e.zone
 have h8:=PW e.op
 intro x hx
 unfold kM at hx
 rcases List.mem_cons.1 hx with rfl|hx
 ·omega
 simp only [List.mem_append] at hx
 rcases hx with hx|hx|hx|hx|hx|hx|hx|hx
 all_goals obtain ⟨hu,rfl⟩:=uJ hx
 ·omega
 ·omega
 ·omega
 ·have hc:=o.card
  unfold fCard at hc
  rw [if_pos hu] at hc
  have:=Pj hc
  omega
 ·omega
 ·unfold yZ;simp;omega
 ·unfold jY;omega
 ·unfold Gg;simp;omega
theorem wI (b:Bool) (s:Str):(opt b s).length≤1:=by cases b<;>simp [opt]
theorem aco (e:Ef):(kM e).length≤9:=by
 unfold kM
 have h1:=wI (uR e.op) (dI e.ref)
 have h2:=wI (uZ e.op) (dR e.zone)
 have h3:=wI (uK e.op) (dw e.ctr)
 have h4:=wI (uC e.op) (L e.card)
 have h5:=wI (uA e.op) (dW e.amt)
 have h6:=wI (uM e.op) (yZ e.mods)
 have h7:=wI (uP e.op) (jY e.pool)
 have h8:=wI (uF e.op) (Gg e.flt)
 simp only [List.length_cons,List.length_append]
 omega
theorem Tt {e:Ef} (h:jl e 4=true):(Lib.join (kM e) [32]).length≤80000000:=by
 have h1:=join_le [32] 8000000 (kM e) (OM h)
 have h2:=aco e
 have:(kM e).length * (8000000+1)≤9 * (8000000+1):=Nat.mul_le_mul_right _ h2
 simp only [List.length_cons,List.length_nil] at h1
 omega
theorem TA (e:Ef):(dB e).length≤80000000:=by
 unfold dB
 split
 ·exact Tt ‹_›
 ·simp
end Go.Proofs.YtdicgggkdmkklaaGreatDoor
namespace Go.Proofs.YtdicgggkdmkklaaGreatDoor
attribute [local irreducible] wpList Code.wp Calls
open Go.ChangeShapes Go.WideShapes Go.RowKit
theorem ahG (c:Co) (w:World) (hl:Laid w):Calls Tryz.prog 61 #[.agg c.cells] w fun e w'=>e= .returned (.bool (kU c))∧Below w.heap.size w w':=by
 obtain ⟨g,x,c0,c1,c2,c3,c4⟩:=c
 have i0:=aeM c0 c1 c2 c3 c4
 have i1:=aeN c0 c1 c2 c3 c4
 have i2:=aeO c0 c1 c2 c3 c4
 have i3:=aeP c0 c1 c2 c3 c4
 have i4:=aeQ c0 c1 c2 c3 c4
 have hS:=St.start hl bJ
 go_enter Tryz.func61,Tryz.ntmps61
 go_wp2_with (first|((with_reducible refine lK ?_);refine wp_loop_rounds 6 ?_)|(with_reducible refine jG ?_)|((with_reducible refine aC ?_);refine aeR rfl hS rfl rfl (by repeat constructor) ?_;(try simp only [ah,ak,au,ay,aA]))|((with_reducible refine bG ?_);(first|(refine aS rfl ?_)|((fail_if_success refine fJ rfl ?_);refine iZ _ _ rfl rfl (fun hb=> ?_) (fun hb=> ?_)<;>(first|(obtain rfl:=eq_of_beq hb)|(simp only [hb]))));(try simp only [ah,ak,au,ay,aA]))|((with_reducible refine bI ?_);(first|(refine aG rfl hS rfl rfl ?_;intro g w hS));(try simp only [ah,ak,au,ay,aA]))|((with_reducible refine aC ?_);(first|(refine uG rfl hS rfl rfl (by repeat constructor) ?_)|(refine AY rfl hS rfl rfl (by repeat constructor) ?_));(try simp only [ah,ak,au,ay,aA])))
 all_goals clear i0 i1 i2 i3 i4
 all_goals (try (exfalso;simp only [decide_eq_false_iff_not] at *;omega))
 all_goals go_ret
 all_goals exact ⟨aX (by rw [Bool.eq_iff_iff];simp_all [kU,rJ]<;>(intros;omega)),hS.below⟩
theorem QK (c:Co) (R:Bool) (h:Hid (kU c=R)) (w:World) (hl:Laid w):Calls Tryz.prog 61 #[.agg c.cells] w fun e w'=>e= .returned (.bool R)∧Below w.heap.size w w':=
 (ahG c w hl).mono fun e w' h'=>⟨by rw [h'.1,h.out],h'.2⟩
theorem wL (s:ByteArray) (b:UInt8) (hs:s=⟨#[b]⟩) (n:Int) (h0:0≤n) (h1:n≤100) (w:World):Calls Tryz.prog 146 #[.string s, .int .i64 n] w fun e w'=>e= .returned (.string (B (rep b n)))∧Below w.heap.size w w':=by
 obtain ⟨k,rfl⟩:=Int.eq_ofNat_of_zero_le h0
 subst hs
 refine (Tryz.strings_Repeat ⟨#[b]⟩ k w (by omega) (by simp [ByteArray.size];omega)).mono fun e w' h'=>⟨h'.1.trans ?_,h'.2⟩
 have e:=Lib.repeatL_replicate b 1 k
 rw [show List.replicate 1 b=[b] from rfl,Nat.mul_one] at e
 show Ending.returned (.string ⟨(Lib.repeatL [b] k).toArray⟩)=_
 rw [e];rfl
theorem asa (n:Int) (h0:0≤n) (h1:n≤100) (w:World):Calls Tryz.prog 146 #[.string ⟨#[88]⟩, .int .i64 n] w fun e w'=>e= .returned (.string (B (rep 88 n)))∧Below w.heap.size w w':=wL _ 88 rfl n h0 h1 w
theorem ar5 (n:Int) (h0:0≤n) (h1:n≤100) (w:World):Calls Tryz.prog 146 #[.string ((⟨#[65,67,74,82,69]⟩:ByteArray).extract 0 1), .int .i64 n] w fun e w'=>e= .returned (.string (B (rep 65 n)))∧Below w.heap.size w w':=wL _ 65 (by decide +kernel) n h0 h1 w
theorem ar6 (n:Int) (h0:0≤n) (h1:n≤100) (w:World):Calls Tryz.prog 146 #[.string ((⟨#[65,67,74,82,69]⟩:ByteArray).extract 1 2), .int .i64 n] w fun e w'=>e= .returned (.string (B (rep 67 n)))∧Below w.heap.size w w':=wL _ 67 (by decide +kernel) n h0 h1 w
theorem ar7 (n:Int) (h0:0≤n) (h1:n≤100) (w:World):Calls Tryz.prog 146 #[.string ((⟨#[65,67,74,82,69]⟩:ByteArray).extract 2 3), .int .i64 n] w fun e w'=>e= .returned (.string (B (rep 74 n)))∧Below w.heap.size w w':=wL _ 74 (by decide +kernel) n h0 h1 w
theorem ar8 (n:Int) (h0:0≤n) (h1:n≤100) (w:World):Calls Tryz.prog 146 #[.string ((⟨#[65,67,74,82,69]⟩:ByteArray).extract 3 4), .int .i64 n] w fun e w'=>e= .returned (.string (B (rep 82 n)))∧Below w.heap.size w w':=wL _ 82 (by decide +kernel) n h0 h1 w
theorem ar9 (n:Int) (h0:0≤n) (h1:n≤100) (w:World):Calls Tryz.prog 146 #[.string ((⟨#[65,67,74,82,69]⟩:ByteArray).extract 4 5), .int .i64 n] w fun e w'=>e= .returned (.string (B (rep 69 n)))∧Below w.heap.size w w':=wL _ 69 (by decide +kernel) n h0 h1 w
theorem adN:∀w:World,(binOp .eql 29 (.agg (Co.cells dQ)) (.agg (Co.cells dQ))).run Tryz.prog w= .ok (.bool true) w:=fun w=>(VF _ _ w).trans (by rw [IZ])
theorem OA (c:Co) (w:World) (hl:Laid w):Calls Tryz.prog 62 #[.agg c.cells] w fun e w'=>e= .returned (.string (B (iy c)))∧Below w.heap.size w w':=by
 cases hv:kU c with
 |false=>
  rw [Jb hv]
  have HV:=Lib.hid hv
  clear hv
  have hS:=St.start hl bJ
  go_enter Tryz.func62,Tryz.ntmps62
  go_wp2_with (first|(go_at_call 61;(with_reducible refine (St.call hS fun hl=>QK _ _ HV _ hl).mono ?_);rintro e w ⟨rfl,hS⟩)|((with_reducible refine bI ?_);(first|(refine aG rfl hS rfl rfl ?_;intro g w hS));(try simp only [ah,ak,au,ay,aA]))|((with_reducible refine aC ?_);(first|(refine qK rfl hS rfl rfl (by repeat constructor) ?_));(try simp only [ah,ak,au,ay,aA])))
  all_goals go_ret
  all_goals exact ⟨rfl,hS.below⟩
 |true=>
  have HV:=Lib.hid hv
  cases hz:uU c dQ with
  |true=>
   obtain rfl:=(yh _ _).1 hz
   rw [show iy dQ=[48] by decide +kernel]
   have heq:=adN
   clear hv hz
   have hS:=St.start hl bJ
   go_enter Tryz.func62,Tryz.ntmps62
   go_wp2_with (first|(go_at_call 61;(with_reducible refine (St.call hS fun hl=>QK _ _ HV _ hl).mono ?_);rintro e w ⟨rfl,hS⟩)|((with_reducible refine bI ?_);(first|(refine aG rfl hS rfl rfl ?_;intro g w hS));(try simp only [ah,ak,au,ay,aA]))|((with_reducible refine oq ?_);refine rF rfl ?_;(try simp only [ah,ak,au,ay,aA]))|((with_reducible refine aC ?_);(first|(refine qK rfl hS rfl rfl (by repeat constructor) ?_));(try simp only [ah,ak,au,ay,aA])))
   all_goals go_ret
   all_goals exact ⟨rfl,hS.below⟩
  |false=>
   rw [show iy c=lH c by unfold iy;rw [if_pos hv,if_neg (by rw [hz];decide)]]
   have heq:=fun w=>(VF c dQ w).trans (by rw [hz])
   simp only [kU,rJ,Bool.and_eq_true,decide_eq_true_eq] at hv
   obtain ⟨g,x,c0,c1,c2,c3,c4⟩:=c
   simp only at hv
   obtain ⟨⟨a0,b0⟩,⟨a1,b1⟩,⟨a2,b2⟩,⟨a3,b3⟩,⟨a4,b4⟩,ag,bg,ax,bx⟩:=hv
   have i0:=aeM c0 c1 c2 c3 c4
   have i1:=aeN c0 c1 c2 c3 c4
   have i2:=aeO c0 c1 c2 c3 c4
   have i3:=aeP c0 c1 c2 c3 c4
   have i4:=aeQ c0 c1 c2 c3 c4
   have lg:=kV g (by omega) bg
   have lr:∀(b:UInt8) (n:Int),n≤9→(rep b n).length≤9:=fun b n h=>by unfold rep;rw [List.length_replicate];omega
   have lx:=lr 88 x (by omega)
   have l0:=lr 65 c0 b0
   have l1:=lr 67 c1 b1
   have l2:=lr 74 c2 b2
   have l3:=lr 82 c3 b3
   have l4:=lr 69 c4 b4
   clear lr hz
   have hS:=St.start hl bJ
   go_enter Tryz.func62,Tryz.ntmps62
   go_wp2_with (first|(go_at_call 61;(with_reducible refine (St.call hS fun hl=>QK _ _ HV _ hl).mono ?_);rintro e w ⟨rfl,hS⟩)|(go_at_call 63;(with_reducible refine (St.call hS fun hl=>nH _ (by omega) (by omega) _ hl).mono ?_);rintro e w ⟨rfl,hS⟩)|(go_at_call 146;(with_reducible refine (St.call hS fun hl=>asa _ (by omega) (by omega) _).mono ?_);rintro e w ⟨rfl,hS⟩)|(go_at_call 146;(with_reducible refine (St.call hS fun hl=>ar5 _ (by omega) (by omega) _).mono ?_);rintro e w ⟨rfl,hS⟩)|(go_at_call 146;(with_reducible refine (St.call hS fun hl=>ar6 _ (by omega) (by omega) _).mono ?_);rintro e w ⟨rfl,hS⟩)|(go_at_call 146;(with_reducible refine (St.call hS fun hl=>ar7 _ (by omega) (by omega) _).mono ?_);rintro e w ⟨rfl,hS⟩)|(go_at_call 146;(with_reducible refine (St.call hS fun hl=>ar8 _ (by omega) (by omega) _).mono ?_);rintro e w ⟨rfl,hS⟩)|(go_at_call 146;(with_reducible refine (St.call hS fun hl=>ar9 _ (by omega) (by omega) _).mono ?_);rintro e w ⟨rfl,hS⟩)|((with_reducible refine lK ?_);refine wp_loop_rounds 6 ?_)|(with_reducible refine jG ?_)|((with_reducible refine aC ?_);refine aeR rfl hS rfl rfl (by repeat constructor) ?_;(try simp only [ah,ak,au,ay,aA]))|((with_reducible refine jT ?_);refine eG rfl rfl rfl rfl (by (try simp only [List.length_append]);omega) ?_;(try simp only [ah,ak,au,ay,aA]))|((with_reducible refine bI ?_);(first|(refine aG rfl hS rfl rfl ?_;intro g w hS));(try simp only [ah,ak,au,ay,aA]))|((with_reducible refine oq ?_);refine rF rfl ?_;(try simp only [ah,ak,au,ay,aA]))|((with_reducible refine aC ?_);(first|(refine qK rfl hS rfl rfl (by repeat constructor) ?_)|(refine uG rfl hS rfl rfl (by repeat constructor) ?_)|(refine AY rfl hS rfl rfl (by repeat constructor) ?_));(try simp only [ah,ak,au,ay,aA])))
   all_goals go_ret
   all_goals (refine ⟨dL ?_,hS.below⟩;simp_all [lH,mW,pY]<;>(intros;exfalso;omega))
theorem Tc (c:Co) (T:Str) (h:Hid (iy c=T)) (w:World) (hl:Laid w):Calls Tryz.prog 62 #[.agg c.cells] w fun e w'=>e= .returned (.string (B T))∧Below w.heap.size w w':=
 (OA c w hl).mono fun e w' h'=>⟨by rw [h'.1,h.out],h'.2⟩
theorem FP (p:Po) (w:World) (hl:Laid w):Calls Tryz.prog 227 #[.agg p.cells] w fun e w'=>e= .returned (.agg (Ee p).cells)∧Below w.heap.size w w':=by
 obtain ⟨pg,c0,c1,c2,c3,c4⟩:=p
 have hS:=St.start hl bJ
 go_enter Tryz.func227,Tryz.ntmps227
 go_wp2_with (first|((with_reducible refine KP ?_);refine Ea _ _ rfl rfl hS rfl rfl [.int .i64 c0, .int .i64 c1, .int .i64 c2, .int .i64 c3, .int .i64 c4] rfl (.tail (.tail .head)) (fun j v h=>by match j,h with|0,h=>exact h|1,h=>exact h|2,h=>exact h|3,h=>exact h|4,h=>exact h|j+5,h=>cases h) (new:=Co.cells ⟨pg,0,c0,c1,c2,c3,c4⟩) .head (Nat.le_of_ble_eq_true rfl) rfl (by simp [Value.oneCell']) ?_;intro w hS)|((with_reducible refine bI ?_);(first|(refine aG rfl hS rfl rfl ?_;intro g w hS));(try simp only [ah,ak,au,ay,aA]))|((with_reducible refine aW ?_);(first|(refine aJ 29 rfl hS rfl _ nM ?_;intro g w hS));(try simp only [ah,ak,au,ay,aA]))|((with_reducible refine LH ?_);refine Ti rfl rfl ?_;(try simp only [ah,ak,au,ay,aA]))|((with_reducible refine aC ?_);(first|(refine qK rfl hS rfl rfl (by repeat constructor) ?_)|(refine abt rfl hS rfl rfl (by repeat constructor) ?_));(try simp only [ah,ak,au,ay,aA]))|((with_reducible refine aN ?_);(first|(refine kG rfl hS rfl rfl rfl (by repeat constructor) ?_;intro w hS));(try simp only [ah,ak,au,ay,aA]))|((with_reducible refine aT ?_);refine qU 3 rfl hS (by kernel_rfl) (by kernel_rfl) (by kernel_rfl) (by decide +kernel) (by kernel_rfl) ?_;(simp only [List.take_succ_cons,List.take_zero,List.drop_succ_cons,List.drop_zero]))|((with_reducible refine sS ?_);refine pF ?_;intro w hS)|((with_reducible refine pX ?_);(refine lQ (v:= ?_) rfl (fun _ _ _ h=>h) ?_ ?_;rotate_left;(focus ((intro w;go_simp)<;>with_reducible rfl)));(try simp only [ah,ak,au,ay,aA])))
 all_goals (refine aaL hS rfl rfl (by repeat constructor) rfl (fun hb=>⟨rfl,hb⟩))
theorem ac8 (p:Po) (w:World) (hl:Laid w):Calls Tryz.prog 160 #[.agg p.cells] w fun e w'=>e= .returned (.string (B (jY p)))∧Below w.heap.size w w':=by
 have hS:=St.start hl bJ
 go_enter Tryz.func160,Tryz.ntmps160
 go_wp2_with (first|(go_at_call 227;(with_reducible refine (St.call hS fun hl=>FP _ _ hl).mono ?_);rintro e w ⟨rfl,hS⟩)|(go_at_call 62;(with_reducible refine (St.call hS fun hl=>OA _ _ hl).mono ?_);rintro e w ⟨rfl,hS⟩)|((with_reducible refine bI ?_);(first|(refine aG rfl hS rfl rfl ?_;intro g w hS));(try simp only [ah,ak,au,ay,aA]))|((with_reducible refine aC ?_);(first|(refine Lc rfl hS rfl rfl (by repeat constructor) ?_));(try simp only [ah,ak,au,ay,aA])))
 all_goals go_ret
 all_goals exact ⟨rfl,hS.below⟩
theorem Zl (s:ByteArray) (pos:Nat) (h:pos<s.size) (ha:128≤(s[pos]'h).toNat):pos+(Utf8.decode s pos).2≤s.size∧∀j,j<(Utf8.decode s pos).2→128≤(s.get! (pos+j)).toNat:=by
 have hn:¬(s[pos]'h).toNat<128:=by omega
 have e0:128≤(s.get! (pos+0)).toNat:=by rw [get_at s pos h];exact ha
 simp only [Utf8.decode,get_at s pos h,hn,if_false]
 repeat' split
 all_goals simp only [Bool.and_eq_true,decide_eq_true_eq,beq_iff_eq] at *
 all_goals refine ⟨by omega,fun j hj=> ?_⟩
 all_goals (match j,hj with
  |0,_=>exact e0
  |1,hj=>first|omega|(exfalso;omega)
  |2,hj=>first|omega|(exfalso;omega)
  |3,hj=>first|omega|(exfalso;omega)
  |j+4,hj=>exfalso;omega)
theorem acY (n:Nat):128≤(UInt8.ofNat (0x80+n % 64)).toNat:=by
 rw [UInt8.toNat_ofNat'];omega
theorem Zq (r:Int) (h:128≤r):∃X:ByteArray,Utf8.encode r=X∧((∃a b,X=⟨#[a,b]⟩∧128≤b.toNat)∨(∃a b c,X=⟨#[a,b,c]⟩∧128≤c.toNat)∨∃a b c d,X=⟨#[a,b,c,d]⟩∧128≤d.toNat):=by
 refine ⟨_,rfl,?_⟩
 have hc:∀c:Nat,(c=if Utf8.valid r then r.toNat else Utf8.runeError)→128≤c:=fun c e=>by
  rw [e];split
  ·omega
  ·decide
 simp only [Utf8.encode]
 generalize hcd:(if Utf8.valid r=true then r.toNat else Utf8.runeError)=c
 have:=hc c hcd.symm
 rw [if_neg (by omega)]
 split
 ·exact .inl ⟨_,_,rfl,acY c⟩
 ·split
  ·exact .inr (.inl ⟨_,_,_,rfl,acY c⟩)
  ·exact .inr (.inr ⟨_,_,_,_,rfl,acY c⟩)
abbrev Gp:ByteArray:=⟨#[65,67,74,82,69]⟩
def vrB (r:Int):Bool:=(decide (0≤r)&&decide (r<55296)) || (decide (57343<r)&&decide (r≤1114111))
theorem Ad (r:Int) (w:World):Calls Tryz.prog 325 #[.int .i32 r] w fun e w'=>e= .returned (.bool (vrB r))∧w=w':=by
 go_enter Tryz.func325,Tryz.ntmps325
 go_wp2
 all_goals
  go_ret
  exact ⟨aX (by rw [Bool.eq_iff_iff];simp [vrB, *]<;>omega),rfl⟩
theorem ac0 {b:UInt8} (h:128≤b.toNat) (l:List UInt8) (hl:∀x∈l,x.toNat<128):Lib.indexByte l b= -1:=by
 rcases Int.lt_or_le (Lib.indexByte l b) 0 with h1|h1
 ·have:=Lib.indexByte_ge l b;omega
 ·obtain ⟨k,hk⟩:=Int.eq_ofNat_of_zero_le h1
  have:=(Lib.indexByte_some hk).1
  have:=hl b (List.mem_of_getElem? this)
  omega
theorem acJ (r:Int) (h:128≤r) (h2:r≤2147483647) (w:World) (hl:Laid w):Calls Tryz.prog 306 #[.string ⟨#[65,67,74,82,69]⟩, .int .i32 r] w fun e w'=>e= .returned (.int .i64 (-1))∧Below w.heap.size w w':=by
 by_cases he:r=65533
 ·subst he
  have n0:=fun ty=>run_next_ascii (P:=Tryz.prog) w Gp 0 ty (by decide) (by decide)
  have n1:=fun ty=>run_next_ascii (P:=Tryz.prog) w Gp 1 ty (by decide) (by decide)
  have n2:=fun ty=>run_next_ascii (P:=Tryz.prog) w Gp 2 ty (by decide) (by decide)
  have n3:=fun ty=>run_next_ascii (P:=Tryz.prog) w Gp 3 ty (by decide) (by decide)
  have n4:=fun ty=>run_next_ascii (P:=Tryz.prog) w Gp 4 ty (by decide) (by decide)
  have n5:=fun ty=>run_next_end (P:=Tryz.prog) w Gp 5 ty (by decide)
  go_enter Tryz.func306,Tryz.ntmps306
  go_wp2_with (first|((with_reducible refine lK ?_);refine wp_loop_rounds 6 ?_)|(with_reducible refine jG ?_))
  go_ret
  exact ⟨rfl,(Below.refl _ _).alloc (Nat.le_refl _) _⟩
 ·have he':(r==65533)=false:=by simpa using he
  have hge:decide (r<128)=false:=by simp;omega
  obtain ⟨X,hX,hf⟩:=Zq r h
  have hS:=St.start hl bJ
  rcases hf with ⟨a,b,rfl,hb⟩|⟨a,b,c,rfl,hb⟩|⟨a,b,c,d,rfl,hb⟩
  ·clear hl
   have k0:Lib.indexByte (L ((⟨#[65,67,74,82,69]⟩:ByteArray).extract 2 5)) ((⟨#[a,b]⟩:ByteArray)[1]'(Nat.le_of_ble_eq_true rfl))= -1:=by rw [show L ((⟨#[65,67,74,82,69]⟩:ByteArray).extract 2 5)=[74,82,69] by decide +kernel];exact ac0 hb _ (by decide)
   have kw:IntKind.i64.wrap 2=2:=by decide
   have hx:((((⟨#[65,67,74,82,69]⟩:ByteArray)[1]).toNat:Int) != (((⟨#[a,b]⟩:ByteArray)[1]'(Nat.le_of_ble_eq_true rfl)).toNat:Int))=true:=by
    show ((67:Int) != (b.toNat:Int))=true
    rw [bne_iff_ne];omega
   go_enter Tryz.func306,Tryz.ntmps306
   go_wp2_with (first|(go_at_call 325;(with_reducible refine (St.still hS fun hl=>Ad _ _).mono ?_);rintro e w ⟨rfl,hS⟩))
   ·go_ret
    exact ⟨rfl,hS.below⟩
   ·go_step3
    go_wp2_with (first|((with_reducible refine lK ?_);refine wp_loop_rounds 1 ?_)|(with_reducible refine jG ?_))
    go_step3
    go_wp2_with (first|((with_reducible refine aT ?_);refine bY hS (by kernel_rfl) (by kernel_rfl) ?_)|((with_reducible refine fG ?_);intro w hS)|((with_reducible refine iH ?_);(first|(refine eu (v:= ?_) (args:= ?_) 205 rfl (fun _ _ _ h=>h) ?_ ?_ ?_;rotate_left 2;(focus ((intro w;go_simp)<;>with_reducible rfl));(focus (intro w hS;refine St.Kt hS (fun hl=>pV _ _ _) ?_;with_reducible rfl))));(try simp only [ah,ak,au,ay,aA]))|((with_reducible refine dS ?_);(refine dn (v:= ?_) rfl (fun _ _ _ h=>h) ?_ ?_;rotate_left;(focus ((intro w hS;go_simp)<;>with_reducible rfl)));(try simp only [ah,ak,au,ay,aA])))
    all_goals simp only [Exit.noGoto_ret,Exit.inBlock,Exit.then]
    all_goals go_ret
    all_goals exact ⟨rfl,hS.below⟩
  ·clear hl
   have k0:Lib.indexByte (L ((⟨#[65,67,74,82,69]⟩:ByteArray).extract 3 5)) ((⟨#[a,b,c]⟩:ByteArray)[2]'(Nat.le_of_ble_eq_true rfl))= -1:=by rw [show L ((⟨#[65,67,74,82,69]⟩:ByteArray).extract 3 5)=[82,69] by decide +kernel];exact ac0 hb _ (by decide)
   have kw:IntKind.i64.wrap 3=3:=by decide
   have hx:((((⟨#[65,67,74,82,69]⟩:ByteArray)[2]).toNat:Int) != (((⟨#[a,b,c]⟩:ByteArray)[2]'(Nat.le_of_ble_eq_true rfl)).toNat:Int))=true:=by
    show ((74:Int) != (c.toNat:Int))=true
    rw [bne_iff_ne];omega
   go_enter Tryz.func306,Tryz.ntmps306
   go_wp2_with (first|(go_at_call 325;(with_reducible refine (St.still hS fun hl=>Ad _ _).mono ?_);rintro e w ⟨rfl,hS⟩))
   ·go_ret
    exact ⟨rfl,hS.below⟩
   ·go_step3
    go_wp2_with (first|((with_reducible refine lK ?_);refine wp_loop_rounds 1 ?_)|(with_reducible refine jG ?_))
    go_step3
    go_wp2_with (first|((with_reducible refine aT ?_);refine bY hS (by kernel_rfl) (by kernel_rfl) ?_)|((with_reducible refine fG ?_);intro w hS)|((with_reducible refine iH ?_);(first|(refine eu (v:= ?_) (args:= ?_) 205 rfl (fun _ _ _ h=>h) ?_ ?_ ?_;rotate_left 2;(focus ((intro w;go_simp)<;>with_reducible rfl));(focus (intro w hS;refine St.Kt hS (fun hl=>pV _ _ _) ?_;with_reducible rfl))));(try simp only [ah,ak,au,ay,aA]))|((with_reducible refine dS ?_);(refine dn (v:= ?_) rfl (fun _ _ _ h=>h) ?_ ?_;rotate_left;(focus ((intro w hS;go_simp)<;>with_reducible rfl)));(try simp only [ah,ak,au,ay,aA])))
    all_goals simp only [Exit.noGoto_ret,Exit.inBlock,Exit.then]
    all_goals go_ret
    all_goals exact ⟨rfl,hS.below⟩
  ·clear hl
   have k0:Lib.indexByte (L ((⟨#[65,67,74,82,69]⟩:ByteArray).extract 4 5)) ((⟨#[a,b,c,d]⟩:ByteArray)[3]'(Nat.le_of_ble_eq_true rfl))= -1:=by rw [show L ((⟨#[65,67,74,82,69]⟩:ByteArray).extract 4 5)=[69] by decide +kernel];exact ac0 hb _ (by decide)
   have kw:IntKind.i64.wrap 4=4:=by decide
   have hx:((((⟨#[65,67,74,82,69]⟩:ByteArray)[3]).toNat:Int) != (((⟨#[a,b,c,d]⟩:ByteArray)[3]'(Nat.le_of_ble_eq_true rfl)).toNat:Int))=true:=by
    show ((82:Int) != (d.toNat:Int))=true
    rw [bne_iff_ne];omega
   go_enter Tryz.func306,Tryz.ntmps306
   go_wp2_with (first|(go_at_call 325;(with_reducible refine (St.still hS fun hl=>Ad _ _).mono ?_);rintro e w ⟨rfl,hS⟩))
   ·go_ret
    exact ⟨rfl,hS.below⟩
   ·go_step3
    go_wp2_with (first|((with_reducible refine lK ?_);refine wp_loop_rounds 1 ?_)|(with_reducible refine jG ?_))
    go_step3
    go_wp2_with (first|((with_reducible refine aT ?_);refine bY hS (by kernel_rfl) (by kernel_rfl) ?_)|((with_reducible refine fG ?_);intro w hS)|((with_reducible refine iH ?_);(first|(refine eu (v:= ?_) (args:= ?_) 205 rfl (fun _ _ _ h=>h) ?_ ?_ ?_;rotate_left 2;(focus ((intro w;go_simp)<;>with_reducible rfl));(focus (intro w hS;refine St.Kt hS (fun hl=>pV _ _ _) ?_;with_reducible rfl))));(try simp only [ah,ak,au,ay,aA]))|((with_reducible refine dS ?_);(refine dn (v:= ?_) rfl (fun _ _ _ h=>h) ?_ ?_;rotate_left;(focus ((intro w hS;go_simp)<;>with_reducible rfl)));(try simp only [ah,ak,au,ay,aA])))
    all_goals simp only [Exit.noGoto_ret,Exit.inBlock,Exit.then]
    all_goals go_ret
    all_goals exact ⟨rfl,hS.below⟩
abbrev o9:List UInt8:=[65,67,74,82,69]
theorem LY (r:Nat) (h2:r≤2147483647) (R:Int) (hR:Hid ((if r<128 then Lib.indexByte o9 r.toUInt8 else -1)=R)) (w:World) (hl:Laid w):Calls Tryz.prog 306 #[.string ⟨#[65,67,74,82,69]⟩, .int .i32 (r:Int)] w fun e w'=>e= .returned (.int .i64 R)∧Below w.heap.size w w':=by
 have hR:=hR.out
 by_cases h:r<128
 ·rw [if_pos h] at hR
  refine (Any.strings_IndexRune_ascii { Tryz.lays153 with } Gp (r:Int) w (by omega) (by omega)).mono fun e w' h'=>⟨h'.1.trans ?_,h'.2 ▸ Below.refl _ _⟩
  rw [←hR,Int.toNat_natCast]
 ·rw [if_neg h] at hR
  exact hR ▸ acJ (r:Int) (by omega) (by omega) w hl
theorem below_iterAt {B k:Nat} {w0 w:World} (hb:Below B w0 w) (hk:B≤k) (s:ByteArray) (pos:Nat):Below B w0 (w.iterAt k s pos):=
 hb.trans ⟨rfl,rfl,rfl,by simp [World.iterAt],fun j hj=>by
  show (w.heap.setIfInBounds k _)[j]? =_
  rw [Array.getElem?_setIfInBounds_ne (by omega)]⟩
theorem Ih (x:UInt8):o9.contains x=decide (0≤Lib.indexByte o9 x):=Lib.contains_iff_indexByte o9 x
theorem als {x:UInt8} (h:128≤x.toNat):o9.contains x=false:=by
 cases hc:o9.contains x with
 |false=>rfl
 |true=>
  have:=List.contains_iff_mem.1 hc
  simp at this
  rcases this with rfl|rfl|rfl|rfl|rfl<;>exact absurd h (by decide)
theorem PV {s:ByteArray} {i:Nat} (h:Lib.NoAny s.data.toList o9 i):∀k:Nat,i+k≤s.size→(∀j,j<k→128≤(s.get! (i+j)).toNat)→Lib.NoAny s.data.toList o9 (i+k)
 |0,_,_=>h
 |k+1,hs,hh=>by
  have ih:=PV h k (by omega) (fun j hj=>hh j (by omega))
  have hlt:i+k<s.size:=by omega
  have e:s.get! (i+k)=s[i+k]'hlt:=by simpa using get_at s (i+k) hlt
  exact ih.succ (Lib.data_getElem? s (i+k) hlt) (als (by rw [←e];exact hh k (by omega)))
theorem adK (n:Int) (w:World):Calls Tryz.prog 307 #[.int .i64 n] w fun e w'=>e= .returned (.bool (decide (8<n)))∧w=w':=
 (Any.strings_shouldUseASCIISet { Tryz.lays153 with } n w).mono fun _ _ h=>⟨h.1,h.2.symm⟩
theorem Xc (s:ByteArray) (w:World) (hl:Laid w) (h8:s.size≤8):Calls Tryz.prog 261 #[.string s, .string ⟨#[65,67,74,82,69]⟩] w fun e w'=>e= .returned (.int .i64 (Lib.indexAny s.data.toList o9))∧Below w.heap.size w w':=by
 have h8z:decide ((8:Int)<(s.size:Int))=false:=decide_eq_false (by omega)
 have hrg:(w.iter s 0).heap[w.heap.size]? =some (.stringIter s 0):=World.iter_heap w s 0
 have hbg:Below w.heap.size w (w.iter s 0):=(Below.refl _ _).alloc (Nat.le_refl _) _
 have HG:=Lib.hid (And.intro hrg hbg)
 clear hrg hbg
 obtain ⟨D,hD⟩:∃D,w.heap.size=D:=⟨_,rfl⟩
 go_enter Tryz.func261,Tryz.ntmps261
 go_wp2_with (go_at_call 307;(with_reducible refine (adK _ _).mono ?_);rintro e w' ⟨rfl,rfl⟩)
 go_loopg [9,10] s.size (fun g _ _ wx=>∃i:Nat,i+g=s.size∧Hid (wx.heap[D]? =some (.stringIter s i)∧Below D w wx∧Lib.NoAny s.data.toList o9 i))
 case atStart=>exact ⟨0,by omega,Lib.hid ⟨hD ▸ HG.out.1,hD ▸ HG.out.2,Lib.NoAny.zero _ _⟩⟩
 case round=>
  obtain ⟨i,hig,HN⟩:=hrel
  obtain ⟨hk,hb,hno⟩:=HN.out
  have HNo:=Lib.hid hno
  have HB:=Lib.hid hb
  clear hno hb HN HG
  cases gk with
  |zero=>
   obtain rfl:i=s.size:=by omega
   have hnx:=fun ty=>Lib.run_next_end_at (P:=Tryz.prog) wr D s s.size ty hk (by omega)
   clear hk
   go_wp2
   go_ret
   refine ⟨?_,hD ▸ HB.out⟩
   rw [Lib.indexAny_none (by rw [←Lib.size_eq];exact HNo.out)];rfl
  |succ g=>
   have hi:i<s.size:=by omega
   obtain ⟨r,k,hrk⟩:∃r k,Utf8.decode s i=(r,k):=⟨_,_,rfl⟩
   have hr2:=decode_le s i
   have hnx:=fun ty=>Lib.run_next_any_at (P:=Tryz.prog) wr D s i ty hk hi
   rw [hrk] at hnx hr2
   simp only at hnx hr2
   obtain ⟨x,hx⟩:∃x:UInt8,s[i]'hi=x:=⟨_,rfl⟩
   have hxl:s.data.toList[i]? =some x:=by rw [←hx];exact Lib.data_getElem? s i hi
   have h1:=Lib.iterAt_heap wr D s i (i+k) hk
   have h2:=below_iterAt HB.out (Nat.le_refl _) s (i+k)
   obtain ⟨W2,hW2⟩:∃W2,wr.iterAt D s (i+k)=W2:=⟨_,rfl⟩
   rw [hW2] at hnx h1 h2
   have hl2:Laid W2:=hl.below (hD ▸ h2)
   have hDl:D<W2.heap.size:=(Array.getElem?_eq_some_iff.1 h1).1
   obtain ⟨R,hR⟩:∃R:Int,(if r<128 then Lib.indexByte o9 r.toUInt8 else -1)=R:=⟨_,rfl⟩
   have HR:=Lib.hid hR
   have H12:=Lib.hid (And.intro h1 h2)
   have HX:=Lib.hid hxl
   have hfin:(R<0∧i+k≤s.size∧1≤k∧Lib.NoAny s.data.toList o9 (i+k))∨(0≤R∧o9.contains x=true):=by
    by_cases ha:(s[i]'hi).toNat<128
    ·have hd:=decode_ascii s i hi ha
     rw [hrk] at hd
     injection hd with e1 e2
     rw [hx] at ha e1
     have e3:r.toUInt8=x:=by rw [e1];simp
     rw [if_pos (by omega),e3] at hR
     have hc:=Ih x
     rw [hR] at hc
     by_cases h0:0≤R
     ·exact .inr ⟨h0,by rw [hc];simpa using h0⟩
     ·refine .inl ⟨by omega,by omega,by omega,?_⟩
      rw [e2]
      exact HNo.out.succ hxl (by rw [hc];simpa using h0)
    ·have hd:=decode_high s i hi (by omega)
     have hc:=Zl s i hi (by omega)
     rw [hrk] at hd hc
     simp only at hd hc
     rw [if_neg (by omega)] at hR
     exact .inl ⟨by omega,hc.1,hd.2,PV HNo.out k hc.1 hc.2⟩
   clear hxl h1 h2 hR hk hrk
   rcases hfin with ⟨hlt,hk1,hk2,hno⟩|⟨hge,hc⟩
   ·have hz:decide ((0:Int)≤R)=false:=by simp;omega
    have hz2:decide (R≥0)=false:=by simp;omega
    have II:=Lib.hid hno
    clear hno
    go_wp2_with (go_at_call 306;(with_reducible refine (LY r hr2 R HR _ hl2).mono ?_);rintro e w3 ⟨rfl,hb3⟩)
    go_roundg (s.size - (i+k))
    case measure=>omega
    case rel=>exact ⟨i+k,by omega,Lib.hid ⟨(hb3.block D hDl).trans H12.out.1,H12.out.2.trans (hb3.mono (by omega)),II.out⟩⟩
   ·have hz:decide ((0:Int)≤R)=true:=by simp;omega
    have hz2:decide (R≥0)=true:=by simp;omega
    go_wp2_with (go_at_call 306;(with_reducible refine (LY r hr2 R HR _ hl2).mono ?_);rintro e w3 ⟨rfl,hb3⟩)
    go_ret
    refine ⟨?_,hD ▸ H12.out.2.trans (hb3.mono (by omega))⟩
    rw [Lib.indexAny_hit HNo.out HX.out hc];rfl
theorem aiw:∀x∈o9,x.toNat<128:=by decide
theorem acI (s:ByteArray) (w:World) (hl:Laid w) (hs:s.size<4294967281):Calls Tryz.prog 261 #[.string s, .string ⟨#[65,67,74,82,69]⟩] w fun e w'=>e= .returned (.int .i64 (Lib.indexAny s.data.toList o9))∧Below w.heap.size w w':=by
 by_cases h8:s.size≤8
 ·exact Xc s w hl h8
 ·refine (Any.strings_IndexAny_long Tryz.lays153 (zero_of_info (n:=256) (v:= .agg (Array.replicate 256 (.bool false))) (by kernel_rfl)).1 (by kernel_rfl) s Gp w (by decide) (by omega) hs (by decide) (fun j b h=>aiw b (List.mem_of_getElem? h))).mono fun e w' h'=>⟨h'.1,?_⟩
  rw [h'.2]
  exact ((Below.refl _ _).alloc (Nat.le_refl _) _).alloc (by simp) _
theorem Ik:∀s:Str,Lib.indexAny (s++[65]) o9=((s.takeWhile jD).length:Nat)
 |[]=>by decide
 |b::s=>by
  have ih:=Ik s
  have hc:o9.contains b=isLet b:=by
   unfold isLet
   rw [Bool.eq_iff_iff]
   simp [o9,List.contains_cons]
  rw [List.cons_append,Lib.indexAny,hc,ih]
  cases hb:isLet b with
  |true=>simp [jD,hb]
  |false=>
   simp only [jD,hb,List.takeWhile_cons,Bool.not_false,if_true,Bool.false_eq_true,if_false,List.length_cons]
   rw [if_neg (by rw [beq_iff_eq];omega)]
   push_cast;rfl
theorem ZC (s:Str) (w:World) (hl:Laid w) (hs:s.length<4000000000):Calls Tryz.prog 261 #[.string (B (s++[65])), .string ⟨#[65,67,74,82,69]⟩] w fun e w'=>e= .returned (.int .i64 ((s.takeWhile jD).length:Nat))∧Below w.heap.size w w':=
 (acI (B (s++[65])) w hl (by rw [bC,List.length_append];simp;omega)).mono fun e w' h'=>⟨h'.1.trans (by rw [show (B (s++[65])).data.toList=L (B (s++[65])) from rfl,cO,Ik]),h'.2⟩
end Go.Proofs.YtdicgggkdmkklaaGreatDoor
