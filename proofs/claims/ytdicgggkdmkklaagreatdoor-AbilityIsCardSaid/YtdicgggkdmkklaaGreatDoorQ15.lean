/- Walks: package instead: does, normal. Conditions: LaidM. Walks: package instead: Is. Conditions: LaidM. Walks: package effect: ZoneName; package instead: about, action, Text. Conditions: LaidM. Wal -/
import Derived.Test.YtdicgggkdmkklaaGreatDoorQ3
import Derived.Test.YtdicgggkdmkklaaGreatDoorQ8
set_option linter.all false
set_option maxRecDepth 100000
set_option maxHeartbeats 16000000
namespace Go.Proofs.YtdicgggkdmkklaaGreatDoor
attribute [local irreducible] wpList Code.wp
open Go.ChangeShapes Go.WideShapes Go.RowKit
theorem az7 (on d:Int) (w:World):Calls Tryz.prog 73 #[.int .i64 on, .int .i64 d] w fun e w'=>e= .returned (.bool (arj on d))∧w=w':=by
 go_enter Tryz.func73,Tryz.ntmps73
 go_wp2_with (first|((first|(with_reducible refine aB ?_)|(with_reducible refine aT ?_));(have hq:=int_eq (by assumption);subst hq))|((with_reducible refine bG ?_);(first|(refine aS rfl ?_)|((fail_if_success refine fJ rfl ?_);refine iZ _ _ rfl rfl (fun hb=> ?_) (fun hb=> ?_)<;>(first|(obtain rfl:=eq_of_beq hb)|(simp only [hb]))));(try simp only [ah,ak,au,ay,aA])))
 all_goals go_ret
 all_goals exact ⟨aX (by rw [Bool.eq_iff_iff];simp_all [arj]),rfl⟩
theorem ayy (r:Rp) (w:World) (hl:bZ w):Calls Tryz.prog 74 #[.agg r.cells] w fun e w'=>e= .returned (.agg (avF r).cells)∧Below w.heap.size w w':=by
 obtain ⟨on,who,f,d,n,z,c⟩:=r
 have hS:=St.start hl xA
 go_enter Tryz.func74,Tryz.ntmps74
 go_wp2_with (first|((first|(with_reducible refine aB ?_)|(with_reducible refine aT ?_));(have hq:=int_eq (by assumption);subst hq))|((with_reducible refine bG ?_);(first|(refine aS rfl ?_)|((fail_if_success refine fJ rfl ?_);refine iZ _ _ rfl rfl (fun hb=> ?_) (fun hb=> ?_)<;>(first|(obtain rfl:=eq_of_beq hb)|(simp only [hb]))));(try simp only [ah,ak,au,ay,aA]))|((with_reducible refine bI ?_);(first|(refine aG rfl hS rfl rfl ?_;intro g w hS));(try simp only [ah,ak,au,ay,aA]))|((with_reducible refine aW ?_);(first|(refine aJ 37 rfl hS rfl _ aey ?_;intro g w hS));(try simp only [ah,ak,au,ay,aA]))|((with_reducible refine anv ?_);refine aqR rfl rfl rfl ?_;(try simp only [ah,ak,au,ay,aA]))|((with_reducible refine aC ?_);(first|(refine aeo rfl hS rfl rfl (by repeat constructor) ?_)|(refine aoh rfl hS rfl rfl (by repeat constructor) ?_)|(refine anu rfl hS rfl rfl (by repeat constructor) ?_)|(refine aqT rfl hS rfl rfl (by repeat constructor) ?_)|(refine ake rfl hS rfl rfl (by repeat constructor) ?_)|(refine ank rfl hS rfl rfl (by repeat constructor) ?_)|(refine anl rfl hS rfl rfl (by repeat constructor) ?_)|(refine aqc rfl hS rfl rfl (by repeat constructor) ?_));(try simp only [ah,ak,au,ay,aA]))|((with_reducible refine aN ?_);(first|(refine aez rfl hS rfl rfl rfl (by repeat constructor) ?_;intro w hS)|(refine akx rfl hS rfl rfl rfl (by repeat constructor) ?_;intro w hS)|(refine aq9 rfl hS rfl rfl rfl (by repeat constructor) ?_;intro w hS)|(refine asG rfl hS rfl rfl rfl (by repeat constructor) ?_;intro w hS)|(refine asH rfl hS rfl rfl rfl (by repeat constructor) ?_;intro w hS)|(refine asI rfl hS rfl rfl rfl (by repeat constructor) ?_;intro w hS));(try simp only [ah,ak,au,ay,aA])))
 all_goals (refine aus hS rfl rfl (by repeat constructor) rfl (fun hb=>⟨kW (f:=Rp.cells) ?_,hb⟩))
 all_goals (simp_all [avF,aoR,I5])
theorem aBl (c:Int):dw c=[]↔ ¬c=0∧¬c=1∧¬c=2:=by
 unfold dw
 by_cases h0:c=0
 ·subst h0;simp;decide
 by_cases h1:c=1
 ·subst h1;simp;decide
 by_cases h2:c=2
 ·subst h2;simp;decide
 ·simp [h0,h1,h2]
theorem awP (r:Rp) (w:World) (hl:bZ w):Calls Tryz.prog 28 #[.agg r.cells] w fun e w'=>e= .returned (.bool (ael r))∧Below w.heap.size w w':=by
 have heq:=fun (q:Rp) (wx:World)=>aCI r q wx
 have hS:=St.start hl xA
 go_enter Tryz.func28,Tryz.ntmps28
 go_wp2_with (first|(go_at_call 26;(with_reducible refine (St.call hS fun hl=>aln _ _ hl.base).mono ?_);rintro e w ⟨rfl,hS⟩)|(go_at_call 75;(with_reducible refine (St.still hS fun hl=>LG _ _ hl).mono ?_);rintro e w ⟨rfl,hS⟩)|((with_reducible refine bG ?_);(first|(refine aS rfl ?_)|((fail_if_success refine fJ rfl ?_);refine iZ _ _ rfl rfl (fun hb=> ?_) (fun hb=> ?_)<;>(first|(obtain rfl:=eq_of_beq hb)|(simp only [hb]))));(try simp only [ah,ak,au,ay,aA]))|((with_reducible refine bI ?_);(first|(refine aG rfl hS rfl rfl ?_;intro g w hS));(try simp only [ah,ak,au,ay,aA]))|((with_reducible refine aC ?_);(first|(refine aqT rfl hS rfl rfl (by repeat constructor) ?_)|(refine ake rfl hS rfl rfl (by repeat constructor) ?_)|(refine ank rfl hS rfl rfl (by repeat constructor) ?_)|(refine anl rfl hS rfl rfl (by repeat constructor) ?_)|(refine aqc rfl hS rfl rfl (by repeat constructor) ?_)|(refine asD rfl hS rfl rfl (by repeat constructor) ?_));(try simp only [ah,ak,au,ay,aA]))|((with_reducible refine aT ?_);refine bY hS (by kernel_rfl) (by kernel_rfl) ?_)|((with_reducible refine fG ?_);intro w hS)|((with_reducible refine wK ?_);(first|(refine uh rfl (fun _ _ _ h=>h) ?_)|((fail_if_success refine MX rfl ?_);refine YF _ _ rfl rfl (fun hb=> ?_) (fun hb=> ?_)<;>(first|(obtain rfl:=eq_of_beq hb)|(simp only [hb]))));(try simp only [ah,ak,au,ay,aA]))|((with_reducible refine gY ?_);(first|(refine asc rfl rfl rfl (by repeat constructor) (fun _ _ _ h=>h) ?_)|(refine aut rfl rfl rfl (by repeat constructor) (fun _ _ _ h=>h) ?_)|(refine asE rfl rfl rfl (by repeat constructor) (fun _ _ _ h=>h) ?_)|(refine asF rfl rfl rfl (by repeat constructor) (fun _ _ _ h=>h) ?_));(try simp only [ah,ak,au,ay,aA]))|((with_reducible refine iH ?_);(first|(refine eu (v:= ?_) (args:= ?_) 73 rfl (fun _ _ _ h=>h) ?_ ?_ ?_;rotate_left 2;(focus ((intro w;go_simp)<;>with_reducible rfl));(focus (intro w hS;refine St.Kt hS (fun hl=>az7 _ _ _) ?_;with_reducible rfl)))|(refine eu (v:= ?_) (args:= ?_) 74 rfl (fun _ _ _ h=>h) ?_ ?_ ?_;rotate_left 2;(focus ((intro w;go_simp)<;>with_reducible rfl));(focus (intro w hS;refine St.jE hS (fun hl=>ayy _ _ hl) ?_;with_reducible rfl))));(try simp only [ah,ak,au,ay,aA]))|((with_reducible refine dS ?_);(refine dn (v:= ?_) rfl (fun _ _ _ h=>h) ?_ ?_;rotate_left;(focus ((intro w hS;go_simp)<;>with_reducible rfl)));(try simp only [ah,ak,au,ay,aA])))
 all_goals go_ret
 all_goals (refine ⟨aX ?_,hS.below⟩;clear heq hS hl;rw [Bool.eq_iff_iff];simp_all [ael,avG,Fz,aBl]<;>(intros;omega))
theorem ayY (r:Rp) (w:World) (hl:bZ w):Calls Tryz.prog 102 #[.agg r.cells] w fun e w'=>e= .returned (.string (B (ani r.on r.who r.d)))∧Below w.heap.size w w':=by
 have hS:=St.start hl xA
 go_enter Tryz.func102,Tryz.ntmps102
 go_wp2_with (first|((with_reducible refine bI ?_);(first|(refine aG rfl hS rfl rfl ?_;intro g w hS));(try simp only [ah,ak,au,ay,aA]))|((with_reducible refine aC ?_);(first|(refine aoh rfl hS rfl rfl (by repeat constructor) ?_)|(refine anu rfl hS rfl rfl (by repeat constructor) ?_)|(refine ake rfl hS rfl rfl (by repeat constructor) ?_));(try simp only [ah,ak,au,ay,aA])))
 all_goals go_ret
 all_goals (refine ⟨dL ?_,hS.below⟩;simp_all [ani]<;>rfl)
theorem ayl (r:Rp) (hn:0≤r.n∧r.n≤1000000) (w:World) (hl:bZ w):Calls Tryz.prog 103 #[.agg r.cells] w fun e w'=>e= .returned (.string (B (arC r.d r.n r.z r.c)))∧Below w.heap.size w w':=by
 have hi:=Lib.itoa_length_le r.n (by omega) (by omega)
 have hc:=Zf r.c
 have hS:=St.start hl xA
 go_enter Tryz.func103,Tryz.ntmps103
 go_wp2_with (first|(go_at_call 63;(with_reducible refine (St.call hS fun hl=>nH _ (by omega) (by omega) _ hl.base).mono ?_);rintro e w ⟨rfl,hS⟩)|(go_at_call 183;(with_reducible refine (St.call hS fun hl=>ajG _ _).mono ?_);rintro e w ⟨rfl,hS⟩)|((with_reducible refine jT ?_);(first|(refine eG rfl rfl rfl rfl (by first|(simp only [List.length_append,List.length_cons,List.length_nil];omega)|fail) ?_));(try simp only [ah,ak,au,ay,aA]))|((with_reducible refine bI ?_);(first|(refine aG rfl hS rfl rfl ?_;intro g w hS));(try simp only [ah,ak,au,ay,aA]))|((with_reducible refine aC ?_);(first|(refine ake rfl hS rfl rfl (by repeat constructor) ?_)|(refine ank rfl hS rfl rfl (by repeat constructor) ?_)|(refine anl rfl hS rfl rfl (by repeat constructor) ?_));(try simp only [ah,ak,au,ay,aA]))|((with_reducible refine aT ?_);refine bY hS (by kernel_rfl) (by kernel_rfl) ?_)|((with_reducible refine fG ?_);intro w hS)|((with_reducible refine Fb ?_);(first|(refine C9 rfl rfl rfl rfl (by first|(simp only [List.length_append,List.length_cons,List.length_nil];omega)|fail) (fun _ _ _ h=>h) ?_));(try simp only [ah,ak,au,ay,aA]))|((with_reducible refine gY ?_);(first|(refine arz rfl rfl rfl (by repeat constructor) (fun _ _ _ h=>h) ?_)|(refine arA rfl rfl rfl (by repeat constructor) (fun _ _ _ h=>h) ?_));(try simp only [ah,ak,au,ay,aA]))|((with_reducible refine iH ?_);(first|(refine eu (v:= ?_) (args:= ?_) 63 rfl (fun _ _ _ h=>h) ?_ ?_ ?_;rotate_left 2;(focus ((intro w;go_simp)<;>with_reducible rfl));(focus (intro w hS;refine St.jE hS (fun hl=>nH _ (by omega) (by omega) _ hl.base) ?_;with_reducible rfl)))|(refine eu (v:= ?_) (args:= ?_) 75 rfl (fun _ _ _ h=>h) ?_ ?_ ?_;rotate_left 2;(focus ((intro w;go_simp)<;>with_reducible rfl));(focus (intro w hS;refine St.Kt hS (fun hl=>LG _ _ hl) ?_;with_reducible rfl))));(try simp only [ah,ak,au,ay,aA]))|((with_reducible refine dS ?_);(refine dn (v:= ?_) rfl (fun _ _ _ h=>h) ?_ ?_;rotate_left;(focus ((intro w hS;go_simp)<;>with_reducible rfl)));(try simp only [ah,ak,au,ay,aA])))
 all_goals go_ret
 all_goals (refine ⟨dL ?_,hS.below⟩;clear hi hc;simp_all [arC]<;>rfl)
theorem ari (on who d:Int):(ani on who d).length≤6:=by
 unfold ani
 repeat' split
 all_goals decide
theorem asM (d n z c:Int) (h:0≤n∧n≤1000000):(arC d n z c).length≤100:=by
 have hi:=Lib.itoa_length_le n (by omega) (by omega)
 have hc:=Zf c
 have hz:=Y0 z
 unfold arC
 repeat' split
 all_goals simp [ant,anA,apM,asN,aqf,asw,asr]
 all_goals omega
theorem afn (r:Rp) (R:Bool) (h:Hid (R=ael r)) (w:World) (hl:bZ w):Calls Tryz.prog 28 #[.agg r.cells] w fun e w'=>e= .returned (.bool R)∧Below w.heap.size w w':=
 (awP r w hl).mono fun e w' h'=>⟨by rw [h'.1,h.out],h'.2⟩
theorem avx (r:Rp) (w:World) (hl:bZ w):Calls Tryz.prog 39 #[.agg r.cells] w fun e w'=>e= .returned (.string (B (aeg r)))∧Below w.heap.size w w':=by
 obtain ⟨on,who,f,d,n,z,c⟩:=r
 have h1:=oH (f:=f)
 have h2:=ari on who d
 have h3:=ano who
 cases hv:ael ⟨on,who,f,d,n,z,c⟩ with
 |false=>
  have HV:Hid (false=ael ⟨on,who,f,d,n,z,c⟩):=Lib.hid hv.symm
  clear hv
  have hS:=St.start hl xA
  go_enter Tryz.func39,Tryz.ntmps39
  go_wp2_with (first|(go_at_call 28;(with_reducible refine (St.call hS fun hl=>afn _ _ HV _ hl).mono ?_);rintro e w ⟨rfl,hS⟩)|((with_reducible refine bI ?_);(first|(refine aG rfl hS rfl rfl ?_;intro g w hS));(try simp only [ah,ak,au,ay,aA]))|((with_reducible refine aC ?_);(first|(refine aeo rfl hS rfl rfl (by repeat constructor) ?_));(try simp only [ah,ak,au,ay,aA])))
  go_ret
  exact ⟨dL (p:=[]) (asq HV.out.symm).symm,hS.below⟩
 |true=>
  have HV:Hid (true=ael ⟨on,who,f,d,n,z,c⟩):=Lib.hid hv.symm
  obtain ⟨_,_,_,_,f1,f2,hac⟩:=aoZ hv
  have hn:0≤n∧n≤1000000:=by unfold ash at hac;simp only at hac;omega
  have h4:=asM d n z c hn
  clear hv f1 f2 hac
  have HR:Hid (aeg ⟨on,who,f,d,n,z,c⟩=anj ⟨on,who,f,d,n,z,c⟩):=Lib.hid (if_pos HV.out.symm)
  have hS:=St.start hl xA
  go_enter Tryz.func39,Tryz.ntmps39
  go_wp2_with (first|((first|(with_reducible refine aB ?_)|(with_reducible refine aT ?_));(have hq:=int_eq (by assumption);subst hq))|(go_at_call 28;(with_reducible refine (St.call hS fun hl=>afn _ _ HV _ hl).mono ?_);rintro e w ⟨rfl,hS⟩)|(go_at_call 80;(with_reducible refine (St.still hS fun hl=>aeE _ _).mono ?_);rintro e w ⟨rfl,hS⟩)|(go_at_call 38;(with_reducible refine (St.call hS fun hl=>zK _ _ hl.base).mono ?_);rintro e w ⟨rfl,hS⟩)|((with_reducible refine bG ?_);(first|(refine aS rfl ?_)|((fail_if_success refine fJ rfl ?_);refine iZ _ _ rfl rfl (fun hb=> ?_) (fun hb=> ?_)<;>(first|(obtain rfl:=eq_of_beq hb)|(simp only [hb]))));(try simp only [ah,ak,au,ay,aA]))|((with_reducible refine jT ?_);(first|(refine eG rfl rfl rfl rfl (by first|(simp only [List.length_append,List.length_cons,List.length_nil];omega)|fail) ?_));(try simp only [ah,ak,au,ay,aA]))|((with_reducible refine bI ?_);(first|(refine aG rfl hS rfl rfl ?_;intro g w hS));(try simp only [ah,ak,au,ay,aA]))|((with_reducible refine aC ?_);(first|(refine aeo rfl hS rfl rfl (by repeat constructor) ?_)|(refine aoh rfl hS rfl rfl (by repeat constructor) ?_)|(refine anu rfl hS rfl rfl (by repeat constructor) ?_)|(refine aqT rfl hS rfl rfl (by repeat constructor) ?_));(try simp only [ah,ak,au,ay,aA]))|((with_reducible refine aT ?_);refine bY hS (by kernel_rfl) (by kernel_rfl) ?_)|((with_reducible refine fG ?_);intro w hS)|((with_reducible refine Fb ?_);(first|(refine C9 rfl rfl rfl rfl (by first|(simp only [List.length_append,List.length_cons,List.length_nil];omega)|fail) (fun _ _ _ h=>h) ?_));(try simp only [ah,ak,au,ay,aA]))|((with_reducible refine gY ?_);(first|(refine asc rfl rfl rfl (by repeat constructor) (fun _ _ _ h=>h) ?_));(try simp only [ah,ak,au,ay,aA]))|((with_reducible refine iH ?_);(first|(refine eu (v:= ?_) (args:= ?_) 102 rfl (fun _ _ _ h=>h) ?_ ?_ ?_;rotate_left 2;(focus ((intro w;go_simp)<;>with_reducible rfl));(focus (intro w hS;refine St.jE hS (fun hl=>ayY _ _ hl) ?_;with_reducible rfl)))|(refine eu (v:= ?_) (args:= ?_) 103 rfl (fun _ _ _ h=>h) ?_ ?_ ?_;rotate_left 2;(focus ((intro w;go_simp)<;>with_reducible rfl));(focus (intro w hS;refine St.jE hS (fun hl=>ayl _ hn _ hl) ?_;with_reducible rfl))));(try simp only [ah,ak,au,ay,aA]))|((with_reducible refine dS ?_);(refine dn (v:= ?_) rfl (fun _ _ _ h=>h) ?_ ?_;rotate_left;(focus ((intro w hS;go_simp)<;>with_reducible rfl)));(try simp only [ah,ak,au,ay,aA])))
  all_goals go_ret
  all_goals (refine ⟨dL ?_,hS.below⟩;rw [HR.out];clear h1 h2 h3 h4 hn;unfold anj aru;simp_all [aoR])
end Go.Proofs.YtdicgggkdmkklaaGreatDoor
