/- Walks: package effect: Parse. Conditions: LaidM; the text is shorter than a hundred million bytes. Effects in rows of the call's own; package effect: ParseList. Conditions: LaidM; the parts are sho -/
import Derived.Test.YtdicgggkdmkklaaGreatDoorMEIs
import Derived.Test.YtdicgggkdmkklaaGreatDoorQ2
import Derived.Test.YtdicgggkdmkklaaGreatDoorQ7
import Derived.Test.YtdicgggkdmkklaaGreatDoorQ6
set_option linter.all false
set_option maxRecDepth 100000
set_option maxHeartbeats 16000000
namespace Go.Proofs.YtdicgggkdmkklaaGreatDoor
attribute [local irreducible] wpList Code.wp Calls
open Go.ChangeShapes Go.WideShapes Go.RowKit
theorem rY (b:Nat):∀(s cur:Str) (d:Nat),∀x∈splitAux b d cur s,x.length≤cur.length+s.length
 |[],cur,d,x,h=>by
  rw [splitAux] at h;simp at h;subst h;simp
 |c::r,cur,d,x,h=>by
  rw [splitAux] at h
  split at h
  ·rcases List.mem_cons.1 h with rfl|h
   ·simp
   ·have:=rY b r [] _ x h;simp at this ⊢;omega
  ·have:=rY b r _ _ x h;simp at this ⊢;omega
theorem nU (b:Nat):∀(s cur:Str) (d:Nat),(splitAux b d cur s).length≤s.length+1∧splitAux b d cur s≠[]
 |[],cur,d=>by rw [splitAux];simp
 |c::r,cur,d=>by
  rw [splitAux]
  split
  ·have:=(nU b r [] (bP d c.toNat)).1
   constructor
   ·simp only [List.length_cons];first|omega|(have:=(nU b r [] d).1;omega)
   ·simp
  ·have:=nU b r (cur++[c]) (bP d c.toNat)
   constructor
   ·simp only [List.length_cons];have:=this.1;omega
   ·exact this.2
theorem N9 (s:Str) (hs:s.length<100000000) (ws:List Str) (h:Hid (eX 32 s=ws)) (w:World):Calls Tryz.prog 130 #[.string (B s), .int .u8 32] w fun e w'=>∃gw c,e= .returned (.slice (some ⟨gw,0,none⟩) ws.length c)∧sD gw 0 ws w'∧ws.length≤c∧Below w.heap.size w w':=by
 have h0:=QG (B s) 32 (by decide) (by decide) (by rw [bC];exact hs) w
 rw [cO,h.out] at h0
 refine h0.mono fun e w' ⟨A,c,he,ht,hb⟩=> ?_
 have hne:0<ws.length:=by
  rw [←h.out];exact List.length_pos_iff.2 (nU 32 s [] 0).2
 have ht':=ht
 obtain ⟨_,h2⟩:=ht
 rcases h2 with ⟨_,h0⟩|⟨g,cap,cur,hv,hbg,hh,hn,_,_,hx⟩
 ·omega
 ·injection hv with e1 e2 e3
  subst e1 e3
  refine ⟨g,c,he,fun k x hk=> ?_,hn,hb⟩
  have hlt:k<ws.length:=by
   rcases Nat.lt_or_ge k ws.length with h|h
   ·exact h
   ·rw [List.getElem?_eq_none h] at hk;cases hk
  rw [Nat.zero_add,cell_of_row w' g k cur 9 (0,0) hh]
  have e:=congrArg (fun z=>z[k]?) hx
  simp only [Nat.mul_one,List.getElem?_take,hlt,if_true,Array.getElem?_toList] at e
  rw [e,sO hlt]
  rw [List.getElem?_eq_getElem hlt] at hk
  rw [Option.some.inj hk]
def EH (s:Str) (w:World) (e:Ending) (w':World):Prop:=
 Below w.heap.size w w'∧((fC s=none∧e= .returned (.tuple #[.agg kC.cells, .int .i64 3]))∨∃x v,fC s=some x∧e= .returned (.tuple #[.agg (x.at v).cells, .int .i64 0])∧oh x v w.heap.size w')
theorem Aj (s:Str) (hs:s.length<100000000) (w0:World) (hl:bZ w0):Calls Tryz.prog 202 #[.string (B s)] w0 (EH s w0):=by
 obtain ⟨ws,hsp⟩:∃ws,eX 32 s=ws:=⟨_,rfl⟩
 have hl1:=nU 32 s [] 0
 rw [show splitAux 32 0 [] s=ws from hsp] at hl1
 have hws:∀x∈ws,x.length<100000000:=fun x hx=>by
  have:=rY 32 s [] 0 x (by rw [show splitAux 32 0 [] s=ws from hsp];exact hx)
  simp at this;omega
 have hbig:ws.length<100000001:=by omega
 have h1:1≤ws.length:=List.length_pos_iff.2 hl1.2
 obtain ⟨W0,hw0⟩:∃W0,ws[0]? =some W0:=⟨ws[0]'h1,List.getElem?_eq_getElem h1⟩
 have HW0:=Lib.hid hw0
 have HSP:=Lib.hid hsp
 obtain ⟨G,hG⟩:∃G,qM ws=G:=⟨_,rfl⟩
 obtain ⟨T,hT⟩:∃T,dB G=T:=⟨_,rfl⟩
 have hp:fC s=if s≠[]∧T=s then some G else none:=by unfold fC;rw [hsp,hG,hT]
 have HG:=Lib.hid hG
 have HT:=Lib.hid hT
 clear hl1 hw0 hsp hG hT
 have hS:=St.start hl xA
 unfold EH
 by_cases h0:s=[]
 ·rw [if_neg (fun h=>h.1 h0)] at hp
  have HP:=Lib.hid hp
  subst h0
  clear hp
  go_enter Tryz.func202,Tryz.ntmps202
  go_wp2_with (first|fail|((refine aF rfl ?_);(first|((with_reducible refine bG ?_);(first|(refine aS rfl ?_));(try simp only [ah,ak,au,ay,aA]))|((with_reducible refine aW ?_);(first|(refine aJ 67 rfl hS rfl _ jd ?_;intro g w hS));(try simp only [ah,ak,au,ay,aA]))|((with_reducible refine qX ?_);refine wu rfl ?_;(try simp only [ah,ak,au,ay,aA]))|((with_reducible refine aN ?_);(first|(refine gJ rfl hS rfl rfl rfl (by repeat constructor) ?_;intro w hS));(try simp only [ah,ak,au,ay,aA]))))|((fail_if_success (with_reducible refine aB ?_));(first|(go_at_call 130;(refine (N9 _ (by omega) ws HSP _).mono ?_);rintro e w ⟨gw,cw,rfl,hcells,hcw,hb⟩;have hS:=hS.mono hb;have Oc:=Lib.hid hcells;clear hcells)|(go_at_call 249;(refine (Ei gw ws cw hws hbig h1 hcw W0 HW0 _ ⟨hS.laid,Oc.out⟩).mono ?_);rw [HG.out];rintro e w ⟨v,rfl,⟨hv1,hv2,(⟨hva,hmn⟩|⟨gm,cm,hva,hge,hgm,hback⟩)⟩,hb⟩<;>(first|(have hS:=hS.grow hb hgm hge;have HV:=Lib.hid hva;have VN:=Lib.hid hback;clear hva hback hgm hge hb)|(have hS:=hS.mono hb;have HV:=Lib.hid hva;have HMN:=Lib.hid hmn;clear hva hmn hb))))))
  all_goals (refine jy hS rfl rfl (by repeat constructor) rfl rfl (fun hb=>⟨hb, .inl ⟨HP.out,rfl⟩⟩))
 ·have hz:(s==[])=false:=by simpa using h0
  by_cases hx:T=s
  ·rw [if_pos ⟨h0,hx⟩] at hp
   have HP:=Lib.hid hp
   subst hx
   have ht:(T==T)=true:=by simp
   clear hp
   go_enter Tryz.func202,Tryz.ntmps202
   go_wp2_with (first|fail|((refine aF rfl ?_);(first|((with_reducible refine aC (T:=67) ?_);(first|(refine iC rfl hS rfl rfl (by repeat constructor) ?_));(try simp only [ah,ak,au,ay,aA]))|((with_reducible refine aW ?_);(first|(refine aJ 67 rfl hS rfl _ jd ?_;intro g w hS));(try simp only [ah,ak,au,ay,aA]))|((with_reducible refine aN ?_);(first|(refine gJ rfl hS rfl rfl rfl (by repeat constructor) ?_;intro w hS));(try simp only [ah,ak,au,ay,aA]))))|((fail_if_success (with_reducible refine aB ?_));(first|(go_at_call 130;(refine (N9 _ (by omega) ws HSP _).mono ?_);rintro e w ⟨gw,cw,rfl,hcells,hcw,hb⟩;have hS:=hS.mono hb;have Oc:=Lib.hid hcells;clear hcells)|(go_at_call 249;(refine (Ei gw ws cw hws hbig h1 hcw W0 HW0 _ ⟨hS.laid,Oc.out⟩).mono ?_);rw [HG.out];rintro e w ⟨v,rfl,⟨hv1,hv2,(⟨hva,hmn⟩|⟨gm,cm,hva,hge,hgm,hback⟩)⟩,hb⟩<;>(first|(have hS:=hS.grow hb hgm hge;have HV:=Lib.hid hva;have VN:=Lib.hid hback;clear hva hback hgm hge hb)|(have hS:=hS.mono hb;have HV:=Lib.hid hva;have HMN:=Lib.hid hmn;clear hva hmn hb)))|(go_at_call 104;(first|(refine (St.call hS fun hl=>zI G v _ HT _ ⟨hl,⟨hv1,hv2, .inl HMN.out⟩⟩).mono ?_)|(refine (St.call hS fun hl=>zI G v _ HT _ ⟨hl,⟨hv1,hv2, .inr ⟨gm,0,HV.out,VN.out _ (hS.row (.tail .head))⟩⟩⟩).mono ?_));rintro e w ⟨rfl,hS⟩))))
   ·refine jy hS rfl rfl (by repeat constructor) rfl rfl (fun hb=>⟨hb, .inr ⟨G,v,HP.out,rfl,hv1,hv2, .inl ⟨HV.out,HMN.out⟩⟩⟩)
   ·refine jy hS rfl rfl (by repeat constructor) rfl rfl (fun hb=>⟨hb, .inr ⟨G,v,HP.out,rfl,hv1,hv2, .inr ⟨gm,cm,HV.out,(hS.has _ (.tail _ (.head _))).2,hS.row (.tail .head),VN.out⟩⟩⟩)
  ·rw [if_neg (fun h=>hx h.2)] at hp
   have HP:=Lib.hid hp
   have hx':(T==s)=false:=by simpa using hx
   clear hp
   go_enter Tryz.func202,Tryz.ntmps202
   go_wp2_with (first|fail|((refine aF rfl ?_);(first|((with_reducible refine aC (T:=67) ?_);(first|(refine iC rfl hS rfl rfl (by repeat constructor) ?_));(try simp only [ah,ak,au,ay,aA]))|((with_reducible refine aW ?_);(first|(refine aJ 67 rfl hS rfl _ jd ?_;intro g w hS));(try simp only [ah,ak,au,ay,aA]))|((with_reducible refine qX ?_);refine wu rfl ?_;(try simp only [ah,ak,au,ay,aA]))|((with_reducible refine aN ?_);(first|(refine gJ rfl hS rfl rfl rfl (by repeat constructor) ?_;intro w hS));(try simp only [ah,ak,au,ay,aA]))))|((fail_if_success (with_reducible refine aB ?_));(first|(go_at_call 130;(refine (N9 _ (by omega) ws HSP _).mono ?_);rintro e w ⟨gw,cw,rfl,hcells,hcw,hb⟩;have hS:=hS.mono hb;have Oc:=Lib.hid hcells;clear hcells)|(go_at_call 249;(refine (Ei gw ws cw hws hbig h1 hcw W0 HW0 _ ⟨hS.laid,Oc.out⟩).mono ?_);rw [HG.out];rintro e w ⟨v,rfl,⟨hv1,hv2,(⟨hva,hmn⟩|⟨gm,cm,hva,hge,hgm,hback⟩)⟩,hb⟩<;>(first|(have hS:=hS.grow hb hgm hge;have HV:=Lib.hid hva;have VN:=Lib.hid hback;clear hva hback hgm hge hb)|(have hS:=hS.mono hb;have HV:=Lib.hid hva;have HMN:=Lib.hid hmn;clear hva hmn hb)))|(go_at_call 104;(first|(refine (St.call hS fun hl=>zI G v _ HT _ ⟨hl,⟨hv1,hv2, .inl HMN.out⟩⟩).mono ?_)|(refine (St.call hS fun hl=>zI G v _ HT _ ⟨hl,⟨hv1,hv2, .inr ⟨gm,0,HV.out,VN.out _ (hS.row (.tail .head))⟩⟩⟩).mono ?_));rintro e w ⟨rfl,hS⟩))))
   all_goals (refine jy hS rfl rfl (by repeat constructor) rfl rfl (fun hb=>⟨hb, .inl ⟨HP.out,rfl⟩⟩))
abbrev kZ:Nat:=67
abbrev Ol:Nat:=35
abbrev EV:=Ef × Sl
def EV.cells (p:EV):Array Value:=(p.1.at p.2).cells
theorem ae5 (r:Em):∀w:World,(Instr.buildSlice Ol 1 #[(0, .agg (Em.cells r))]).run Tryz.prog w= .ok (.slice (some ⟨w.heap.size,0,none⟩) 1 1) (w.alloc (.cells (Em.cells r) kZ)):=fun _=>by kernel_rfl
theorem ak8:(Tryz.prog.info? kZ).map (fun i=>(i.zero,i.size,i.bytes))=some (some (.agg kC.cells),64,560):=by kernel_rfl
theorem anX (r:Em):(Em.cells r).all (·.oneCell')=true:=by kernel_rfl
theorem ala (r:Em):∀u∈r.cells.toList,u.oneCell'=true:=fun u hu=>(Array.all_eq_true_iff_forall_mem.1 (anX r)) u (by simpa using hu)
def zJ (l:List EV):List Value:=l.flatMap fun p=>p.cells.toList
theorem Zp (l:List EV) (m:EV):zJ (l++[m])=zJ l++m.cells.toList:=by simp [zJ]
theorem oh.keep {e:Ef} {v:Sl} {b:Nat} {w w':World} (h:oh e v b w) (hb:Below w.heap.size w w'):oh e v b w':=
 ⟨h.1,h.2.1,h.2.2.imp id fun ⟨g,cur,ha,hbg,hg,hm⟩=>⟨g,cur,ha,hbg,aaD hb hg,hm⟩⟩
theorem oh.le {e:Ef} {v:Sl} {b b':Nat} {w:World} (h:oh e v b w) (hb:b'≤b):oh e v b' w:=
 ⟨h.1,h.2.1,h.2.2.imp id fun ⟨g,cur,ha,hbg,hg,hm⟩=>⟨g,cur,ha,by omega,hg,hm⟩⟩
def qH (w:World) (b:Nat) (es:List EV) (v:Value):Prop:=w.ownsRow b kZ 64 v es.length (zJ es)∧∀p∈es,oh p.1 p.2 b w
theorem qH.keep {w w':World} {b:Nat} {es:List EV} {v:Value} (h:qH w b es v) (hb:Below w.heap.size w w'):qH w' b es v:=⟨own_below h.1 hb,fun p hp=>(h.2 p hp).keep hb⟩
theorem qH.le {w:World} {b b':Nat} {es:List EV} {v:Value} (h:qH w b es v) (hb:b'≤b):qH w b' es v:=⟨afS hb h.1,fun p hp=>(h.2 p hp).le hb⟩
theorem qH.nil (w:World) (b:Nat):qH w b [] (.slice none 0 0):=⟨World.ownsRow_nil _ _ _ _,by simp⟩
theorem qH.form {w:World} {b:Nat} {es:List EV} {v:Value} (h:qH w b es v):∃A c,v= .slice A es.length c:=by
 rcases h.1.2 with ⟨rfl,h0⟩|⟨g,cap,cur,rfl,_⟩
 ·exact ⟨none,0,by rw [h0]⟩
 ·exact ⟨_,_,rfl⟩
theorem oh.grown {e:Ef} {v:Sl} {b:Nat} {w w':World} (h:oh e v b w) {r:Option Nat} (hg:w.grownBy w' r) (hr:∀g,r=some g→∃cur fr,w.heap[g]? =some (.cells cur kZ fr)):oh e v b w':=by
 refine ⟨h.1,h.2.1,h.2.2.imp id fun ⟨g,cur,ha,hbg,hgg,hm⟩=>⟨g,cur,ha,hbg,?_,hm⟩⟩
 rw [hg.block g (Array.getElem?_eq_some_iff.1 hgg).1 ?_];exact hgg
 intro e1
 obtain ⟨c2,f2,h2⟩:=hr g e1.symm
 rw [hgg] at h2
 injection h2 with h2
 injection h2 with _ h3
 cases h3
theorem IC {w:World} {ops:Array Oper} {rest:List Oper} {o:Oper} {a:Act} {Q:Exit→Act→World→Prop} {es:List EV} {r:EV} {b:Nat} {v:Value} {x y:Operand} (ho:o.op= .call { callee:= .builtin .append,args:=#[x,y],argTypes:=#[Ol,Ol] }) (hg:o.guard=none) (hs:a.eval x=v) (own:qH w b es v)
 {g3:Nat} (hx:a.eval y= .slice (some ⟨g3,0,none⟩) 1 1) (hr:w.heap[g3]? =some (.cells r.cells kZ (0,0))) (hm:oh r.1 r.2 b w) (h6:es.length≤1000000) (hb:b≤w.heap.size)
 (h:∀g' cap' w1,qH w1 b (es++[r]) (.slice (some ⟨g',0,none⟩) (es.length+1) cap')→Below b w w1→wpList Tryz.prog ops Q rest (a.put o.dst (.slice (some ⟨g',0,none⟩) (es.length+1) cap')) w1):wpList Tryz.prog ops Q (o::rest) a w:=by
 obtain ⟨i0,hi0,hz0,hz1,hz2⟩:=info_parts ak8
 refine wpList_append_own w hg x y Ol ho b kZ i0 (.agg kC.cells) 64 560 Tryz.underlying35 hi0 hz0 hz1 hz2 rfl (by decide) v es.length (zJ es) hs own.1 ⟨g3,0,none⟩ 1 1 r.cells.toList hx rfl (RS hr) (ala _) (by unfold maxLen;omega) (by omega) hb ?_
 intro v' w1 hown hgrow _
 obtain ⟨g',cap',rfl⟩:=ownsRow_succ hown
 refine h g' cap' w1 ⟨?_,fun p hp=> ?_⟩ ((Below.refl b w).grown hgrow hb (fun k hk=>(own.1.lt k hk).1))
 ·rw [Zp,List.length_append];exact hown
 ·have hrow:∀g,v.ownBlock=some g→∃cur fr,w.heap[g]? =some (.cells cur kZ fr):=fun g hg=>by
   rcases own.1.2 with ⟨rfl,_⟩|⟨g2,cap,cur,rfl,_,h2,_⟩
   ·cases hg
   ·have:g2=g:=by simpa [Value.ownBlock] using hg
    subst this
    exact ⟨cur,_,h2⟩
  rcases List.mem_append.1 hp with hp|hp
  ·exact (own.2 p hp).grown hgrow hrow
  ·obtain rfl:p=r:=by simpa using hp
   exact hm.grown hgrow hrow
def VK (s:Str) (w:World) (e:Ending) (w':World):Prop:=
 Below w.heap.size w w'∧((kH s=none∧e= .returned (.tuple #[.slice none 0 0, .int .i64 3]))∨∃es v,kH s=some (es.map Prod.fst)∧e= .returned (.tuple #[v, .int .i64 0])∧qH w' w.heap.size es v)
theorem Tz (s:Str) (hs:s.length<100000000) (h:Hid (fC s=none)) (w:World) (hl:bZ w):Calls Tryz.prog 202 #[.string (B s)] w fun e w'=>e= .returned (.tuple #[.agg kC.cells, .int .i64 3])∧Below w.heap.size w w':=
 (Aj s hs w hl).mono fun e w' ⟨hb,hr⟩=>by
  rcases hr with ⟨_,he⟩|⟨x,v,hx,_⟩
  ·exact ⟨he,hb⟩
  ·rw [h.out] at hx;cases hx
theorem OL (s:Str) (hs:s.length<100000000) (m:Ef) (h:Hid (fC s=some m)) (w:World) (hl:bZ w):Calls Tryz.prog 202 #[.string (B s)] w fun e w'=>∃v,e= .returned (.tuple #[.agg (m.at v).cells, .int .i64 0])∧oh m v w.heap.size w'∧Below w.heap.size w w':=
 (Aj s hs w hl).mono fun e w' ⟨hb,hr⟩=>by
  rcases hr with ⟨hx,_⟩|⟨x,v,hx,he,hm⟩
  ·rw [h.out] at hx;cases hx
  ·rw [h.out] at hx
   obtain rfl:=Option.some.inj hx
   exact ⟨v,he,hm,hb⟩
theorem aib (s:Str) (hs:s.length<1000000000) (ps:List Str) (h:Hid (lY s=ps)) (w:World) (hl:Laid w):Calls Tryz.prog 198 #[.string (B s), .string ⟨#[59,32]⟩] w fun e w'=>∃gw c,e= .returned (.slice (some ⟨gw,0,none⟩) ps.length c)∧sD gw 0 ps w'∧Below w.heap.size w w':=
 (Tryz.strings_Split_shaped (B s) ⟨#[59,32]⟩ w hl.shaped (by rw [bC];omega) (by decide)).mono fun e w' ⟨he,hw⟩=>by
  have hL:=aar (B s)
  rw [cO,h.out] at hL
  have hlen:(Lib.splitB ⟨#[59,32]⟩ 0 (Lib.countB (B s) ⟨#[59,32]⟩) (B s)).length=Lib.countB (B s) ⟨#[59,32]⟩+1:=Lib.splitB_all ⟨#[59,32]⟩ (by decide) 0 _ (B s) rfl
  have hl2:ps.length=Lib.countB (B s) ⟨#[59,32]⟩+1:=by rw [←hL,List.length_map,hlen]
  rw [←hl2] at he
  subst hw
  refine ⟨_,_,he,fun k x hk=> ?_,(Below.refl _ _).alloc (Nat.le_refl _) _⟩
  rw [Nat.zero_add,cell_of_row _ _ k _ 9 (0,0) (heap_alloc_new w _)]
  rw [←hL,List.getElem?_map] at hk
  cases hy:(Lib.splitB ⟨#[59,32]⟩ 0 (Lib.countB (B s) ⟨#[59,32]⟩) (B s))[k]? with
  |none=>rw [hy] at hk;cases hk
  |some y=>
   rw [hy] at hk
   have e1:L y=x:=Option.some.inj hk
   rw [List.getElem?_toArray,List.getElem?_map,hy,←e1,qV];rfl
abbrev Oi (gw:Nat) (ps:List Str) (b:Nat) (es:List EV) (v:Value) (w:World):Prop:=bZ w∧sD gw 0 ps w∧qH w b es v
theorem Xj (gw:Nat) (ps:List Str) (b:Nat) (es:List EV) (v:Value):∀w1 w2:World,Oi gw ps b es v w1→Below w1.heap.size w1 w2→Oi gw ps b es v w2:=fun _ _ h hb=>⟨h.1.below hb,h.2.1.keep hb,h.2.2.keep hb⟩
abbrev Oj (gw:Nat) (ps:List Str) (b:Nat) (es:List EV) (v:Value) (m:Ef) (vm:Sl) (w:World):Prop:=Oi gw ps b es v w∧oh m vm b w
theorem abd (gw:Nat) (ps:List Str) (b:Nat) (es:List EV) (v:Value) (m:Ef) (vm:Sl):∀w1 w2:World,Oj gw ps b es v m vm w1→Below w1.heap.size w1 w2→Oj gw ps b es v m vm w2:=fun _ _ h hb=>⟨Xj _ _ _ _ _ _ _ h.1 hb,h.2.keep hb⟩
theorem EZ {gw:Nat} {ps:List Str} {w:World} (h:sD gw 0 ps w) {k:Nat} {x:Str} (hk:Hid (ps[k]? =some x)):w.cell? ⟨gw,k,none⟩=some (.string (B x)):=by
 have:=h k x hk.out
 rwa [Nat.zero_add] at this
theorem acp (out:List Ef) (x:Str) (m:Ef) (r:List Str) (h:fC x=some m) (h8:¬out.length=8):qc out (x::r)=qc (out++[m]) r:=by
 rw [qc,h];simp only;rw [if_neg h8]
theorem TG (out:List Ef) (x:Str) (r:List Str) (h:fC x=none∨out.length=8):qc out (x::r)=none:=by
 rw [qc]
 cases hp:fC x with
 |none=>rfl
 |some m=>
  rcases h with h|h
  ·rw [hp] at h;cases h
  ·simp only;rw [if_pos h]
theorem QA (s x:Str) (h:x∈lY s):x.length≤s.length:=by
 have:=D6 s [] false x h
 simpa using this
theorem EO (s:Str) (hs:s.length<1000000000) (hp0:∀x∈lY s,x.length<100000000) (w0:World) (hl:bZ w0):Calls Tryz.prog 126 #[.string (B s)] w0 (VK s w0):=by
 obtain ⟨ps,hps⟩:∃ps,lY s=ps:=⟨_,rfl⟩
 have hpm:∀x∈ps,x.length<100000000:=fun x hx=>hp0 x (hps ▸ hx)
 have hpl:ps.length≤1000000001:=by
  have:=D5 s [] false
  rw [show iF false [] s=ps from hps] at this;omega
 have h0:kH s=qc [] ps:=by unfold kH;rw [hps]
 have HPS:=Lib.hid hps
 have H0:=Lib.hid h0
 clear hps h0
 have hS:=St.start hl xA
 go_enter Tryz.func126,Tryz.ntmps126
 go_wp2_with (first|(go_at_call 198;(refine (aib s hs ps HPS _ hS.laid.base).mono ?_);rintro e w1 ⟨gw,cw,rfl,hcells,hb⟩;have hS:=hS.mono hb;have Oc:=Lib.hid hcells;clear hcells hb))
 have hl1:=hS.laid
 have HB1:=Lib.hid hS.below
 clear hS
 go_loopw [4,12] (fun lv iv wr=>∃(k:Nat) (es:List EV) (v:Value),k≤ps.length∧es.length≤8∧lv=v∧iv= .int .i64 k∧Hid (kH s=qc (es.map Prod.fst) (ps.drop k))∧Hid (qH wr w1.heap.size es v)∧Hid (Below w1.heap.size w1 wr)) (fun _ iv _=>ps.length - (intOf iv).toNat)
 case atStart=>exact ⟨0,[], .slice none 0 0,by omega,by simp,rfl,rfl,Lib.hid H0.out,Lib.hid (qH.nil _ _),Lib.hid (Below.refl _ _)⟩
 case round=>
  obtain ⟨k,es,v,hk,h8,rfl,rfl,HR,HO,HB⟩:=hrel
  have gU:=HB.out.size
  have hS:=St.start (L:=Oi gw ps w1.heap.size es _) ⟨hl1.below HB.out,Oc.out.keep HB.out,HO.out⟩ (Xj gw ps w1.heap.size es _)
  by_cases hlt:k<ps.length
  ·obtain ⟨x,hx⟩:∃x,ps[k]? =some x:=⟨ps[k],List.getElem?_eq_getElem hlt⟩
   have hxl:=hpm x (List.mem_of_getElem? hx)
   have hd:ps.drop k=x::ps.drop (k+1):=by
    rw [List.drop_eq_getElem_cons hlt]
    rw [List.getElem?_eq_getElem hlt] at hx
    rw [Option.some.inj hx]
   have hr:=HR.out
   rw [hd] at hr
   have HX:=Lib.hid hx
   clear hd hx HR
   cases hp:fC x with
   |none=>
    have HE:=Lib.hid (hr.trans (TG _ x _ (.inl hp)))
    have HP:=Lib.hid hp
    clear hr hp
    go_wp2_with (first|(go_at_call 202;(with_reducible refine (St.call hS fun hl=>Tz x hxl HP _ hl.1).mono ?_);rintro e w ⟨rfl,hS⟩)|((with_reducible refine aC ?_);refine mJ rfl rfl rfl (EZ hS.laid.2.1 HX) ?_;(try simp only [ah,ak,au,ay,aA]))|((with_reducible refine aW ?_);(first|(refine aJ 67 rfl hS rfl _ jd ?_;intro g w hS));(try simp only [ah,ak,au,ay,aA]))|((with_reducible refine aN ?_);(first|(refine gJ rfl hS rfl rfl rfl (by repeat constructor) ?_;intro w hS));(try simp only [ah,ak,au,ay,aA])))
    all_goals go_ret2
    all_goals exact ⟨HB1.out.trans ((HB.out.trans (hS.below.mono gU)).mono HB1.out.size), .inl ⟨HE.out,rfl⟩⟩
   |some m=>
    have HP:=Lib.hid hp
    by_cases h88:es.length=8
    ·have HE:=Lib.hid (hr.trans (TG _ x _ (.inr (by rw [List.length_map];exact h88))))
     clear hr hp
     obtain ⟨va,vc,rfl⟩:=HO.out.form
     rw [h88]
     go_wp2_with (first|((with_reducible refine aC ?_);refine mJ rfl rfl rfl (EZ hS.laid.2.1 HX) ?_;(try simp only [ah,ak,au,ay,aA]))|(go_at_call 202;(refine (OL x hxl m HP _ hS.laid.1).mono ?_);rintro e w ⟨vm,rfl,_,hb⟩;have hS:=hS.mono hb;clear hb)|((with_reducible refine aW ?_);(first|(refine aJ 67 rfl hS rfl _ jd ?_;intro g w hS));(try simp only [ah,ak,au,ay,aA]))|((with_reducible refine aN ?_);(first|(refine gJ rfl hS rfl rfl rfl (by repeat constructor) ?_;intro w hS));(try simp only [ah,ak,au,ay,aA])))
     all_goals go_ret2
     all_goals exact ⟨HB1.out.trans ((HB.out.trans (hS.below.mono gU)).mono HB1.out.size), .inl ⟨HE.out,rfl⟩⟩
    ·have HE:=Lib.hid (hr.trans (acp _ x m _ hp (by rw [List.length_map];exact h88)))
     clear hr hp
     have hne:((es.length:Int)==8)=false:=by rw [beq_eq_false_iff_ne];omega
     have h7:es.length≤1000000:=by omega
     obtain ⟨va,vc,rfl⟩:=HO.out.form
     go_wp2_with (first|((with_reducible refine aC ?_);refine mJ rfl rfl rfl (EZ hS.laid.2.1 HX) ?_;(try simp only [ah,ak,au,ay,aA]))|(go_at_call 202;(refine (OL x hxl m HP _ hS.laid.1).mono ?_);rintro e w ⟨vm,rfl,hmr,hb⟩;have Ic:=Lib.hid (hS.below.trans (hb.mono hS.below.size));have hS:=St.start (L:=Oj gw ps w1.heap.size es _ m vm) ⟨(hS.mono hb).laid,hmr.le (Nat.le_trans gU hS.below.size)⟩ (abd _ _ _ _ _ _ _);clear hb hmr)|((with_reducible refine sW ?_);refine uQ rfl hS rfl rfl _ kZ (ae5 (m.at vm)) ?_;intro g3 w hS;(try simp only [ah,ak,au,ay,aA]))|(at_builtin;refine IC (b:=w1.heap.size) (es:=es) (r:=(m,vm)) rfl rfl rfl hS.laid.1.2.2 rfl (hS.row .head) hS.laid.2 h7 (Nat.le_trans (Nat.le_trans gU Ic.out.size) hS.below.size) ?_;intro g' cap' w5 hown' hb5)|((with_reducible refine aW ?_);(first|(refine aJ 67 rfl hS rfl _ jd ?_;intro g w hS));(try simp only [ah,ak,au,ay,aA]))|((with_reducible refine aC ?_);(first|(refine iC rfl hS rfl rfl (by repeat constructor) ?_));(try simp only [ah,ak,au,ay,aA]))|((with_reducible refine aN ?_);(first|(refine gJ rfl hS rfl rfl rfl (by repeat constructor) ?_;intro w hS));(try simp only [ah,ak,au,ay,aA])))
     go_roundw
     case rel=>exact ⟨k+1,es++[(m,vm)],_,by omega,by simp;omega,rfl,by go_num,Lib.hid (by rw [HE.out,List.map_append];rfl),Lib.hid hown',Lib.hid ((HB.out.trans ((Ic.out.trans (hS.below.mono Ic.out.size)).mono gU)).trans hb5)⟩
     case measure=>simp [intOf];omega
  ·obtain rfl:k=ps.length:=by omega
   have HE:Hid (kH s=some (es.map Prod.fst)):=Lib.hid (by rw [HR.out,List.drop_length,qc])
   clear HR
   go_wp2_with (first|fail)
   all_goals go_ret2
   all_goals exact ⟨HB1.out.trans ((HB.out.trans (hS.below.mono gU)).mono HB1.out.size), .inr ⟨es,_,HE.out,rfl,(hS.laid.2.2).le HB1.out.size⟩⟩
end Go.Proofs.YtdicgggkdmkklaaGreatDoor
namespace Go.Proofs.YtdicgggkdmkklaaGreatDoor
open Go.ChangeShapes Go.WideShapes Go.RowKit
def VL (b off:Nat) (es:List EV) (w:World):Prop:=∀(k:Nat) (p:EV),es[k]? =some p→w.rangeAt b (off+k * 64) (EV.cells p).toList
theorem VL.keep {b off:Nat} {es:List EV} {w1 w2:World} (h:VL b off es w1) (hb:Below w1.heap.size w1 w2):VL b off es w2:=fun k r hk j v hj=>cell_below hb (h k r hk j v hj)
def qG (A:Option Addr) (es:List EV) (w:World):Prop:=(es=[]∨∃b off,A=some ⟨b,off,none⟩∧VL b off es w)∧∀p∈es,kL p.1 p.2 w
theorem qG.keep {A:Option Addr} {es:List EV} {w1 w2:World} (h:qG A es w1) (hb:Below w1.heap.size w1 w2):qG A es w2:=⟨h.1.imp id fun ⟨b,off,e,hm⟩=>⟨b,off,e,hm.keep hb⟩,fun p hp=>(h.2 p hp).keep hb⟩
abbrev KO (A:Option Addr) (es:List EV) (w:World):Prop:=bZ w∧qG A es w
theorem EW (A:Option Addr) (es:List EV):∀w1 w2:World,KO A es w1→Below w1.heap.size w1 w2→KO A es w2:=fun _ _ h hb=>⟨h.1.below hb,h.2.keep hb⟩
theorem qG.zB {A:Option Addr} {es:List EV} {w:World} (h:qG A es w) {k:Nat} (hk:k<es.length):∃b off,A=some ⟨b,off,none⟩:=by
 rcases h.1 with rfl|⟨b,off,e,_⟩
 ·simp at hk
 ·exact ⟨b,off,e⟩
theorem qG.row {b off:Nat} {es:List EV} {w:World} (h:qG (some ⟨b,off,none⟩) es w) {k:Nat} {p:EV} (hk:Hid (es[k]? =some p)):w.rangeAt b (off+k * 64) (Em.cells (p.1.at p.2)).toList:=by
 rcases h.1 with rfl|⟨b,off,e,hm⟩
 ·have:=hk.out;simp at this
 ·injection e with e
  injection e with e1 e2
  subst e1 e2
  exact hm k p hk.out
theorem qG.mods {A:Option Addr} {es:List EV} {w:World} (h:qG A es w) {k:Nat} {p:EV} (hk:Hid (es[k]? =some p)):kL p.1 p.2 w:=h.2 p (List.mem_of_getElem? hk.out)
theorem TK:∀(l:List EV) (k:Nat) (r:EV) (j:Nat) (v:Value),l[k]? =some r→r.cells.toList[j]? =some v→(zJ l)[k * 64+j]? =some v
 |[],k,r,j,v,h,_=>by simp at h
 |a::l,0,r,j,v,h,hv=>by
  obtain rfl:a=r:=by simpa using h
  have hj:j<a.cells.toList.length:=by
   rcases Nat.lt_or_ge j a.cells.toList.length with h'|h'
   ·exact h'
   ·rw [List.getElem?_eq_none h'] at hv;cases hv
  rw [zJ,List.flatMap_cons,Nat.zero_mul,Nat.zero_add,List.getElem?_append_left hj];exact hv
 |a::l,k+1,r,j,v,h,hv=>by
  have ih:=TK l k r j v (by simpa using h) hv
  have h64:(EV.cells a).toList.length=64:=rfl
  rw [zJ,List.flatMap_cons,List.getElem?_append_right (by rw [h64];omega),h64,show (k+1) * 64+j - 64=k * 64+j by omega];exact ih
theorem qH.arg {w:World} {b:Nat} {es:List EV} {A:Option Addr} {n c:Nat} (h:qH w b es (.slice A n c)):n=es.length∧qG A es w:=by
 obtain ⟨⟨_,h1⟩,h2⟩:=h
 refine ⟨?_,?_,fun p hp=>(h2 p hp).at_⟩
 ·rcases h1 with ⟨e,h0⟩|⟨g,cap,cur,hv,_⟩
  ·injection e with _ e _
   rw [e,h0]
  ·injection hv
 ·rcases h1 with ⟨e,h0⟩|⟨g,cap,cur,hv,_,hh,_,_,_,hx⟩
  ·exact .inl (List.length_eq_zero_iff.1 h0)
  ·injection hv with e1 _ _
   refine .inr ⟨g,0,e1,fun k p hk j v hj=> ?_⟩
   have hkl:k<es.length:=by
    rcases Nat.lt_or_ge k es.length with h'|h'
    ·exact h'
    ·rw [List.getElem?_eq_none h'] at hk;cases hk
   have aoe:j<64:=by
    rcases Nat.lt_or_ge j (EV.cells p).toList.length with h'|h'
    ·exact h'
    ·rw [List.getElem?_eq_none h'] at hj;cases hj
   rw [Nat.zero_add,cell_of_row w g (k * 64+j) cur kZ (0,0) hh]
   have e:=congrArg (fun z=>z[k * 64+j]?) hx
   simp only [List.getElem?_take,show k * 64+j<es.length * 64 by omega,if_true,Array.getElem?_toList] at e
   rw [e];exact TK es k p j v hk hj
theorem xW (l:List EV) (k:Nat) (r:EV) (hr:l[k]? =some r):l.take (k+1)=l.take k++[r]:=by
 rw [List.take_succ,hr];rfl
def mg (e:Ef) (v:Sl) (w:World):Prop:=v.n=e.mods.length∧e.mods.length≤9223372036854775807∧uj v.a e.mods w
theorem mg.keep {e:Ef} {v:Sl} {w1 w2:World} (h:mg e v w1) (hb:Below w1.heap.size w1 w2):mg e v w2:=⟨h.1,h.2.1,h.2.2.keep hb⟩
theorem mg.few {e:Ef} {v:Sl} {w:World} (h:mg e v w) (h20:e.mods.length≤20):kL e v w:=⟨h.1,by omega,h.2.2⟩
theorem kL.any {e:Ef} {v:Sl} {w:World} (h:kL e v w):mg e v w:=⟨h.1,by have:=h.2.1;omega,h.2.2⟩
def og (A:Option Addr) (es:List EV) (w:World):Prop:=(es=[]∨∃b off,A=some ⟨b,off,none⟩∧VL b off es w)∧es.length≤9223372036854775807∧∀p∈es,mg p.1 p.2 w
theorem og.keep {A:Option Addr} {es:List EV} {w1 w2:World} (h:og A es w1) (hb:Below w1.heap.size w1 w2):og A es w2:=⟨h.1.imp id fun ⟨b,off,e,hm⟩=>⟨b,off,e,hm.keep hb⟩,h.2.1,fun p hp=>(h.2.2 p hp).keep hb⟩
theorem og.zB {A:Option Addr} {es:List EV} {w:World} (h:og A es w) {k:Nat} (hk:k<es.length):∃b off,A=some ⟨b,off,none⟩:=by
 rcases h.1 with rfl|⟨b,off,e,_⟩
 ·simp at hk
 ·exact ⟨b,off,e⟩
theorem og.row {b off:Nat} {es:List EV} {w:World} (h:og (some ⟨b,off,none⟩) es w) {k:Nat} {p:EV} (hk:Hid (es[k]? =some p)):w.rangeAt b (off+k * 64) (Em.cells (p.1.at p.2)).toList:=by
 rcases h.1 with rfl|⟨b,off,e,hm⟩
 ·have:=hk.out;simp at this
 ·injection e with e
  injection e with e1 e2
  subst e1 e2
  exact hm k p hk.out
theorem og.mods {A:Option Addr} {es:List EV} {w:World} (h:og A es w) {k:Nat} {p:EV} (hk:Hid (es[k]? =some p)):mg p.1 p.2 w:=h.2.2 p (List.mem_of_getElem? hk.out)
theorem og.few {A:Option Addr} {es:List EV} {w:World} (h:og A es w) (h20:∀p∈es,p.1.mods.length≤20):qG A es w:=⟨h.1,fun p hp=>(h.2.2 p hp).few (h20 p hp)⟩
end Go.Proofs.YtdicgggkdmkklaaGreatDoor
