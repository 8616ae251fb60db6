/- Plain words: the reference's validity of a replacement effect is the program's (chapter 19). No program in sight. Walks: the reference of chapter 19: field, plain, moves, Is. Conditions: LaidM. Wal -/
import Derived.Test.YtdicgggkdmkklaaGreatDoorQ3
import Derived.Test.YtdicgggkdmkklaaGreatDoorQ4
import Derived.Test.YtdicgggkdmkklaaGreatDoorQ15
import Derived.Test.YtdicgggkdmkklaaGreatDoorQ12
set_option linter.all false
set_option maxRecDepth 100000
set_option maxHeartbeats 16000000
namespace Go.Proofs.YtdicgggkdmkklaaGreatDoor
open Go.ChangeShapes Go.WideShapes Go.RowKit
def anq (f:aH):Bool:=dh f&&f.zone==0
def avH (r:Rp):Bool:=r.z==0&&(r.c==0&&(if r.d=2∨r.d=4 then decide (1≤r.n)&&decide (r.n≤99) else r.n==0))
def avC (r:Rp):Bool:=r.who==0&&(anq r.f&&(if r.d=5 then r.n==0&&(r.c==0&&(r.z==1 || (r.z==2 || r.z==4))) else if r.d=6 then r.n==0&&(r.c==0&&r.z==0)
 else if r.d=7 then r.z==0&&(decide (1≤r.n)&&(decide (r.n≤99)&&(decide (0≤r.c)&&decide (r.c<3)))) else false))
def auI (d:Int):Bool:=d==3 || (d==4 || d==8)
def isB (r:Rp):Bool:=
 if r.on=2 then avC r else avH r&&(
  if r.on=1 then (r.d==1 || (r.d==2 || (r.d==3 || r.d==4)))&&((r.who==0&&anq r.f) || ((r.who==1 || r.who==2)&&fK r.f aaB))
  else if r.on=8 then auI r.d&&(r.who==0&&anq r.f)
  else if r.on=3 then (r.d==4 || r.d==8)&&(decide (0≤r.who)&&(decide (r.who≤2)&&fK r.f aaB))
  else if r.on=4∨r.on=5∨r.on=10 then auI r.d&&(decide (0≤r.who)&&(decide (r.who≤2)&&fK r.f aaB))
  else false)
theorem axt:anq aaB=true:=by kernel_rfl
theorem ayr (f:aH):anq f=true↔(dh f=true∧f.zone=0):=by simp [anq]
theorem aBt {α:Type} (b:Bool) (x y:α):(x=if b=true then x else y)↔(b=false→x=y):=by cases b<;>simp
theorem aCz (r:Rp):isB r=ael r:=by
 obtain ⟨on,who,f,d,n,z,c⟩:=r
 have hz0:=axt
 rw [Bool.eq_iff_iff]
 have hz:f=aaB→anq f=true:=fun e=>by rw [e];exact hz0
 have e1:ael ⟨on,who,f,d,n,z,c⟩=true↔arj on d=true∧(who=(if on=2∨on=8 then 0 else who))∧(aoR on who=false→f=aaB)∧(n=if d=2∨d=4∨d=7 then n else 0)∧(z=if d=5 then z else 0)∧(c=if d=7 then c else 0)∧0≤who∧who≤2∧anq f=true∧avG ⟨on,who,f,d,n,z,c⟩=true:=by
  unfold ael
  simp only [Bool.and_eq_true,arF,avF,Rp.mk.injEq,true_and,aBt,decide_eq_true_eq,beq_iff_eq,ayr]
  constructor
  ·rintro ⟨h1,⟨h2,h3,h4,h5,h6⟩,h7,h8,h9,h10,h11⟩;exact ⟨h1,h2,h3,h4,h5,h6,h7,h8,⟨h9,h10⟩,h11⟩
  ·rintro ⟨h1,h2,h3,h4,h5,h6,h7,h8,⟨h9,h10⟩,h11⟩;exact ⟨h1,⟨h2,h3,h4,h5,h6⟩,h7,h8,h9,h10,h11⟩
 rw [e1]
 unfold isB avC avH auI arj avG aoR
 have hE:=lI f aaB
 generalize fK f aaB=Z at *
 generalize anq f=F at *
 have ho:on=1∨on=2∨on=3∨on=4∨on=5∨on=8∨on=10∨(on≠1∧on≠2∧on≠3∧on≠4∧on≠5∧on≠8∧on≠10):=by omega
 have hd:d=1∨d=2∨d=3∨d=4∨d=5∨d=6∨d=7∨d=8∨(d≠1∧d≠2∧d≠3∧d≠4∧d≠5∧d≠6∧d≠7∧d≠8):=by omega
 clear e1 hz0
 generalize (f=aaB)=P at *
 rcases ho with rfl|rfl|rfl|rfl|rfl|rfl|rfl|⟨o1,o2,o3,o4,o5,aHf,o10⟩
 all_goals rcases hd with rfl|rfl|rfl|rfl|rfl|rfl|rfl|rfl|⟨d1,d2,d3,d4,d5,d6,d7,d8⟩
 all_goals (cases F<;>cases Z<;>simp_all<;>omega)
end Go.Proofs.YtdicgggkdmkklaaGreatDoor
namespace Go.Proofs.YtdicgggkdmkklaaGreatDoor
attribute [local irreducible] wpList Code.wp
open Go.ChangeShapes Go.WideShapes Go.RowKit
theorem aAk (f:aH) (w:World):Calls Tryz.prog 31 #[.agg f.cells] w fun e w'=>e= .returned (.bool (dh f))∧Below w.heap.size w w':=GK f _ (Lib.hid rfl) w
theorem auo (f:aH) (w:World) (hl:bZ w):Calls Tryz.prog 92 #[.agg f.cells] w fun e w'=>e= .returned (.bool (anq f))∧Below w.heap.size w w':=by
 have hS:=St.start hl xA
 go_enter Tryz.func92,Tryz.ntmps92
 go_wp2_with (first|(go_at_call 31;(with_reducible refine (St.call hS fun hl=>aAk _ _).mono ?_);rintro e w ⟨rfl,hS⟩)|((with_reducible refine bG ?_);(first|(refine aS rfl ?_)|((fail_if_success refine fJ rfl ?_);refine iZ _ _ rfl rfl (fun hb=> ?_) (fun hb=> ?_)<;>(first|(obtain rfl:=eq_of_beq hb)|(simp only [hb]))));(try simp only [ah,ak,au,ay,aA]))|((with_reducible refine bI ?_);(first|(refine aG rfl hS rfl rfl ?_;intro g w hS));(try simp only [ah,ak,au,ay,aA]))|((with_reducible refine aC ?_);(first|(refine ES rfl hS rfl rfl (by repeat constructor) ?_)|(refine aa0 rfl hS rfl rfl (by repeat constructor) ?_));(try simp only [ah,ak,au,ay,aA])))
 all_goals go_ret
 all_goals (refine ⟨aX ?_,hS.below⟩;clear hS hl;rw [Bool.eq_iff_iff];simp_all [anq])
theorem awO (r:Rp) (w:World) (hl:bZ w):Calls Tryz.prog 91 #[.agg r.cells] w fun e w'=>e= .returned (.bool (avH r))∧Below w.heap.size w w':=by
 obtain ⟨on,who,f,d,n,z,c⟩:=r
 have hS:=St.start hl xA
 go_enter Tryz.func91,Tryz.ntmps91
 go_wp2_with (first|((first|(with_reducible refine aB ?_)|(with_reducible refine aT ?_));(have hq:=int_eq (by assumption);subst hq))|((with_reducible refine bG ?_);(first|(refine aS rfl ?_)|((fail_if_success refine fJ rfl ?_);refine iZ _ _ rfl rfl (fun hb=> ?_) (fun hb=> ?_)<;>(first|(obtain rfl:=eq_of_beq hb)|(simp only [hb]))));(try simp only [ah,ak,au,ay,aA]))|((with_reducible refine bI ?_);(first|(refine aG rfl hS rfl rfl ?_;intro g w hS));(try simp only [ah,ak,au,ay,aA]))|((with_reducible refine aC ?_);(first|(refine ake rfl hS rfl rfl (by repeat constructor) ?_)|(refine ank rfl hS rfl rfl (by repeat constructor) ?_)|(refine anl rfl hS rfl rfl (by repeat constructor) ?_)|(refine aqc rfl hS rfl rfl (by repeat constructor) ?_));(try simp only [ah,ak,au,ay,aA])))
 all_goals go_ret
 all_goals (refine ⟨aX ?_,hS.below⟩;clear hS hl;rw [Bool.eq_iff_iff];simp_all [avH]<;>(intros;omega))
theorem awN (r:Rp) (w:World) (hl:bZ w):Calls Tryz.prog 90 #[.agg r.cells] w fun e w'=>e= .returned (.bool (avC r))∧Below w.heap.size w w':=by
 obtain ⟨on,who,f,d,n,z,c⟩:=r
 have hS:=St.start hl xA
 go_enter Tryz.func90,Tryz.ntmps90
 go_wp2_with (first|((first|(with_reducible refine aB ?_)|(with_reducible refine aT ?_));(have hq:=int_eq (by assumption);subst hq))|(go_at_call 92;(with_reducible refine (St.call hS fun hl=>auo _ _ hl).mono ?_);rintro e w ⟨rfl,hS⟩)|((with_reducible refine bG ?_);(first|(refine aS rfl ?_)|((fail_if_success refine fJ rfl ?_);refine iZ _ _ rfl rfl (fun hb=> ?_) (fun hb=> ?_)<;>(first|(obtain rfl:=eq_of_beq hb)|(simp only [hb]))));(try simp only [ah,ak,au,ay,aA]))|((with_reducible refine bI ?_);(first|(refine aG rfl hS rfl rfl ?_;intro g w hS));(try simp only [ah,ak,au,ay,aA]))|((with_reducible refine aC ?_);(first|(refine anu rfl hS rfl rfl (by repeat constructor) ?_)|(refine aqT rfl hS rfl rfl (by repeat constructor) ?_)|(refine ake rfl hS rfl rfl (by repeat constructor) ?_)|(refine ank rfl hS rfl rfl (by repeat constructor) ?_)|(refine anl rfl hS rfl rfl (by repeat constructor) ?_)|(refine aqc rfl hS rfl rfl (by repeat constructor) ?_));(try simp only [ah,ak,au,ay,aA])))
 all_goals go_ret
 all_goals (refine ⟨aX ?_,hS.below⟩;clear hS hl;rw [Bool.eq_iff_iff];simp_all [avC]<;>(intros;omega))
theorem azj (r:Rp) (w:World) (hl:bZ w):Calls Tryz.prog 35 #[.agg r.cells] w fun e w'=>e= .returned (.bool (isB r))∧Below w.heap.size w w':=by
 obtain ⟨on,who,f,d,n,z,c⟩:=r
 have heq:=fun wx:World=>an4 f aaB wx
 have hS:=St.start hl xA
 go_enter Tryz.func35,Tryz.ntmps35
 go_wp2_with (first|((first|(with_reducible refine aB ?_)|(with_reducible refine aT ?_));(have hq:=int_eq (by assumption);subst hq))|(go_at_call 90;(with_reducible refine (St.call hS fun hl=>awN _ _ hl).mono ?_);rintro e w ⟨rfl,hS⟩)|(go_at_call 91;(with_reducible refine (St.call hS fun hl=>awO _ _ hl).mono ?_);rintro e w ⟨rfl,hS⟩)|(go_at_call 92;(with_reducible refine (St.call hS fun hl=>auo _ _ hl).mono ?_);rintro e w ⟨rfl,hS⟩)|((with_reducible refine bG ?_);(first|(refine aS rfl ?_)|((fail_if_success refine fJ rfl ?_);refine iZ _ _ rfl rfl (fun hb=> ?_) (fun hb=> ?_)<;>(first|(obtain rfl:=eq_of_beq hb)|(simp only [hb]))));(try simp only [ah,ak,au,ay,aA]))|((with_reducible refine bI ?_);(first|(refine aG rfl hS rfl rfl ?_;intro g w hS));(try simp only [ah,ak,au,ay,aA]))|((with_reducible refine Gh ?_);refine NG rfl ?_;(try simp only [ah,ak,au,ay,aA]))|((with_reducible refine aC ?_);(first|(refine aeo rfl hS rfl rfl (by repeat constructor) ?_)|(refine aoh rfl hS rfl rfl (by repeat constructor) ?_)|(refine anu rfl hS rfl rfl (by repeat constructor) ?_)|(refine aqT rfl hS rfl rfl (by repeat constructor) ?_)|(refine ake rfl hS rfl rfl (by repeat constructor) ?_));(try simp only [ah,ak,au,ay,aA])))
 all_goals go_ret
 all_goals (refine ⟨aX ?_,hS.below⟩;clear hS hl heq;rw [Bool.eq_iff_iff];simp_all [isB,auI]<;>(intros;omega))
theorem awi (r:Rp) (hn:0≤r.n∧r.n≤1000000) (w:World) (hl:bZ w):Calls Tryz.prog 117 #[.agg r.cells] w fun e w'=>e= .returned (.string (B (arC r.d r.n r.z r.c)))∧Below w.heap.size w w':=by
 have hi:=Lib.itoa_length_le r.n (by omega) (by omega)
 have hc:=Zf r.c
 have hS:=St.start hl xA
 go_enter Tryz.func117,Tryz.ntmps117
 go_wp2_with (first|(go_at_call 65;(with_reducible refine (St.call hS fun hl=>qo _ _ (by omega) (by omega)).mono ?_);rintro e w ⟨rfl,hS⟩)|(go_at_call 189;(with_reducible refine (St.call hS fun hl=>aac _ _).mono ?_);rintro e w ⟨rfl,hS⟩)|((with_reducible refine jT ?_);(first|(refine eG rfl rfl rfl rfl (by first|(simp only [List.length_append,List.length_cons,List.length_nil];omega)|fail) ?_));(try simp only [ah,ak,au,ay,aA]))|((with_reducible refine bI ?_);(first|(refine aG rfl hS rfl rfl ?_;intro g w hS));(try simp only [ah,ak,au,ay,aA]))|((with_reducible refine aC ?_);(first|(refine ake rfl hS rfl rfl (by repeat constructor) ?_)|(refine ank rfl hS rfl rfl (by repeat constructor) ?_)|(refine anl rfl hS rfl rfl (by repeat constructor) ?_));(try simp only [ah,ak,au,ay,aA]))|((with_reducible refine aT ?_);refine bY hS (by kernel_rfl) (by kernel_rfl) ?_)|((with_reducible refine fG ?_);intro w hS)|((with_reducible refine Fb ?_);(first|(refine C9 rfl rfl rfl rfl (by first|(simp only [List.length_append,List.length_cons,List.length_nil];omega)|fail) (fun _ _ _ h=>h) ?_));(try simp only [ah,ak,au,ay,aA]))|((with_reducible refine gY ?_);(first|(refine arz rfl rfl rfl (by repeat constructor) (fun _ _ _ h=>h) ?_)|(refine arA rfl rfl rfl (by repeat constructor) (fun _ _ _ h=>h) ?_));(try simp only [ah,ak,au,ay,aA]))|((with_reducible refine iH ?_);(first|(refine eu (v:= ?_) (args:= ?_) 65 rfl (fun _ _ _ h=>h) ?_ ?_ ?_;rotate_left 2;(focus ((intro w;go_simp)<;>with_reducible rfl));(focus (intro w hS;refine St.jE hS (fun hl=>qo _ _ (by omega) (by omega)) ?_;with_reducible rfl)))|(refine eu (v:= ?_) (args:= ?_) 173 rfl (fun _ _ _ h=>h) ?_ ?_ ?_;rotate_left 2;(focus ((intro w;go_simp)<;>with_reducible rfl));(focus (intro w hS;refine St.Kt hS (fun hl=>Yq _ _) ?_;with_reducible rfl))));(try simp only [ah,ak,au,ay,aA]))|((with_reducible refine dS ?_);(refine dn (v:= ?_) rfl (fun _ _ _ h=>h) ?_ ?_;rotate_left;(focus ((intro w hS;go_simp)<;>with_reducible rfl)));(try simp only [ah,ak,au,ay,aA])))
 all_goals go_ret
 all_goals (refine ⟨dL ?_,hS.below⟩;clear hi hc;simp_all [arC]<;>rfl)
theorem axy (r:Rp) (w:World) (hl:bZ w):Calls Tryz.prog 116 #[.agg r.cells] w fun e w'=>e= .returned (.string (B (ani r.on r.who r.d)))∧Below w.heap.size w w':=by
 have hS:=St.start hl xA
 go_enter Tryz.func116,Tryz.ntmps116
 go_wp2_with (first|((with_reducible refine bI ?_);(first|(refine aG rfl hS rfl rfl ?_;intro g w hS));(try simp only [ah,ak,au,ay,aA]))|((with_reducible refine aC ?_);(first|(refine aoh rfl hS rfl rfl (by repeat constructor) ?_)|(refine anu rfl hS rfl rfl (by repeat constructor) ?_)|(refine ake rfl hS rfl rfl (by repeat constructor) ?_));(try simp only [ah,ak,au,ay,aA])))
 all_goals go_ret
 all_goals (refine ⟨dL ?_,hS.below⟩;simp_all [ani]<;>rfl)
theorem avw (r:Rp) (w:World) (hl:bZ w):Calls Tryz.prog 115 #[.agg r.cells] w fun e w'=>e= .returned (.bool (aoR r.on r.who))∧Below w.heap.size w w':=by
 obtain ⟨on,who,f,d,n,z,c⟩:=r
 have hS:=St.start hl xA
 go_enter Tryz.func115,Tryz.ntmps115
 go_wp2_with (first|((with_reducible refine bG ?_);(first|(refine aS rfl ?_)|((fail_if_success refine fJ rfl ?_);refine iZ _ _ rfl rfl (fun hb=> ?_) (fun hb=> ?_)<;>(first|(obtain rfl:=eq_of_beq hb)|(simp only [hb]))));(try simp only [ah,ak,au,ay,aA]))|((with_reducible refine bI ?_);(first|(refine aG rfl hS rfl rfl ?_;intro g w hS));(try simp only [ah,ak,au,ay,aA]))|((with_reducible refine aC ?_);(first|(refine aoh rfl hS rfl rfl (by repeat constructor) ?_)|(refine anu rfl hS rfl rfl (by repeat constructor) ?_));(try simp only [ah,ak,au,ay,aA])))
 all_goals go_ret
 all_goals (refine ⟨aX ?_,hS.below⟩;clear hS hl;rw [Bool.eq_iff_iff];simp_all [aoR])
theorem avj (r:Rp) (R:Bool) (h:Hid (R=ael r)) (w:World) (hl:bZ w):Calls Tryz.prog 35 #[.agg r.cells] w fun e w'=>e= .returned (.bool R)∧Below w.heap.size w w':=
 (azj r w hl).mono fun e w' h'=>⟨by rw [h'.1,h.out,aCz],h'.2⟩
theorem axx (r:Rp) (w:World) (hl:bZ w):Calls Tryz.prog 44 #[.agg r.cells] w fun e w'=>e= .returned (.string (B (aeg r)))∧Below w.heap.size w w':=by
 obtain ⟨on,who,f,d,n,z,c⟩:=r
 have h1:=oH (f:=f)
 have h2:=ari on who d
 have h3:=ano who
 cases hv:ael ⟨on,who,f,d,n,z,c⟩ with
 |false=>
  have HV:Hid (false=ael ⟨on,who,f,d,n,z,c⟩):=Lib.hid hv.symm
  clear hv
  have hS:=St.start hl xA
  go_enter Tryz.func44,Tryz.ntmps44
  go_wp2_with (first|(go_at_call 35;(with_reducible refine (St.call hS fun hl=>avj _ _ HV _ hl).mono ?_);rintro e w ⟨rfl,hS⟩)|((with_reducible refine bI ?_);(first|(refine aG rfl hS rfl rfl ?_;intro g w hS));(try simp only [ah,ak,au,ay,aA]))|((with_reducible refine aC ?_);(first|(refine aeo rfl hS rfl rfl (by repeat constructor) ?_));(try simp only [ah,ak,au,ay,aA])))
  go_ret
  exact ⟨dL (p:=[]) (asq HV.out.symm).symm,hS.below⟩
 |true=>
  have HV:Hid (true=ael ⟨on,who,f,d,n,z,c⟩):=Lib.hid hv.symm
  obtain ⟨_,_,_,_,f1,f2,hac⟩:=aoZ hv
  have hn:0≤n∧n≤1000000:=by unfold ash at hac;simp only at hac;omega
  have h4:=asM d n z c hn
  clear hv f1 f2 hac
  have HR:Hid (aeg ⟨on,who,f,d,n,z,c⟩=anj ⟨on,who,f,d,n,z,c⟩):=Lib.hid (if_pos HV.out.symm)
  have hS:=St.start hl xA
  go_enter Tryz.func44,Tryz.ntmps44
  go_wp2_with (first|(go_at_call 35;(with_reducible refine (St.call hS fun hl=>avj _ _ HV _ hl).mono ?_);rintro e w ⟨rfl,hS⟩)|(go_at_call 115;(with_reducible refine (St.call hS fun hl=>avw _ _ hl).mono ?_);rintro e w ⟨rfl,hS⟩)|((with_reducible refine bI ?_);(first|(refine aG rfl hS rfl rfl ?_;intro g w hS));(try simp only [ah,ak,au,ay,aA]))|((with_reducible refine aC ?_);(first|(refine aeo rfl hS rfl rfl (by repeat constructor) ?_));(try simp only [ah,ak,au,ay,aA]))|((with_reducible refine aT ?_);refine bY hS (by kernel_rfl) (by kernel_rfl) ?_)|((with_reducible refine fG ?_);intro w hS)|((with_reducible refine Fb ?_);(first|(refine C9 rfl rfl rfl rfl (by first|(simp only [List.length_append,List.length_cons,List.length_nil];omega)|fail) (fun _ _ _ h=>h) ?_));(try simp only [ah,ak,au,ay,aA]))|((with_reducible refine gY ?_);(first|(refine asc rfl rfl rfl (by repeat constructor) (fun _ _ _ h=>h) ?_)|(refine asE rfl rfl rfl (by repeat constructor) (fun _ _ _ h=>h) ?_)|(refine auu rfl rfl rfl (by repeat constructor) (fun _ _ _ h=>h) ?_));(try simp only [ah,ak,au,ay,aA]))|((with_reducible refine iH ?_);(first|(refine eu (v:= ?_) (args:= ?_) 118 rfl (fun _ _ _ h=>h) ?_ ?_ ?_;rotate_left 2;(focus ((intro w;go_simp)<;>with_reducible rfl));(focus (intro w hS;refine St.Kt hS (fun hl=>awe _ _) ?_;with_reducible rfl)))|(refine eu (v:= ?_) (args:= ?_) 43 rfl (fun _ _ _ h=>h) ?_ ?_ ?_;rotate_left 2;(focus ((intro w;go_simp)<;>with_reducible rfl));(focus (intro w hS;refine St.jE hS (fun hl=>ug _ _) ?_;with_reducible rfl)))|(refine eu (v:= ?_) (args:= ?_) 116 rfl (fun _ _ _ h=>h) ?_ ?_ ?_;rotate_left 2;(focus ((intro w;go_simp)<;>with_reducible rfl));(focus (intro w hS;refine St.jE hS (fun hl=>axy _ _ hl) ?_;with_reducible rfl)))|(refine eu (v:= ?_) (args:= ?_) 117 rfl (fun _ _ _ h=>h) ?_ ?_ ?_;rotate_left 2;(focus ((intro w;go_simp)<;>with_reducible rfl));(focus (intro w hS;refine St.jE hS (fun hl=>awi _ hn _ hl) ?_;with_reducible rfl))));(try simp only [ah,ak,au,ay,aA]))|((with_reducible refine dS ?_);(refine dn (v:= ?_) rfl (fun _ _ _ h=>h) ?_ ?_;rotate_left;(focus ((intro w hS;go_simp)<;>with_reducible rfl)));(try simp only [ah,ak,au,ay,aA])))
  all_goals go_ret
  all_goals (refine ⟨dL ?_,hS.below⟩;rw [HR.out];clear h1 h2 h3 h4 hn;unfold anj aru;simp_all)
end Go.Proofs.YtdicgggkdmkklaaGreatDoor
