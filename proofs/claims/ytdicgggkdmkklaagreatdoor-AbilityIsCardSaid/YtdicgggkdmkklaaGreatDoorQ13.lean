/- Walks: lists of effects: ListText, the program's and the reference's. Conditions: LaidM; the list lies in memory; it has fewer than a million elements. -/
import Derived.Test.YtdicgggkdmkklaaGreatDoorMEParse
import Derived.Test.YtdicgggkdmkklaaGreatDoorQ12
set_option linter.all false
set_option maxRecDepth 100000
set_option maxHeartbeats 16000000
namespace Go.Proofs.YtdicgggkdmkklaaGreatDoor
attribute [local irreducible] wpList Code.wp Calls
open Go.ChangeShapes Go.WideShapes Go.RowKit
theorem FZ (p:EV) (T:Str) (HT:Hid (dB p.1=T)) (w:World) (hl:bZ w) (hm:kL p.1 p.2 w):Calls Tryz.prog 104 #[.agg (Em.cells (p.1.at p.2))] w fun x w'=>x= .returned (.string (B T))∧Below w.heap.size w w':=zI p.1 p.2 T HT w ⟨hl,hm⟩
theorem zZ (p:EV) (T:Str) (HT:Hid (dB p.1=T)) (w:World) (hl:bZ w) (hm:kL p.1 p.2 w):Calls Tryz.prog 119 #[.agg (Em.cells (p.1.at p.2))] w fun x w'=>x= .returned (.string (B T))∧Below w.heap.size w w':=EC p.1 p.2 T HT w ⟨hl,hm⟩
theorem Vz (l:List Str) (A:Option Addr) (c base:Nat) (w:World) (h:Texts w base l (.slice A l.length c)) (hN:l.length≤100000000) (hlen:(Lib.join l [59,32]).length≤140737488355328):
 Calls Tryz.prog 41 #[.slice A l.length c, .string ⟨#[59,32]⟩] w fun e w'=>e= .returned (.string (B (Lib.join l [59,32])))∧Below w.heap.size w w':=by
 go_enter Tryz.func41,Tryz.ntmps41
 go_wp2_with (go_at_call 101;(with_reducible refine (tH _ _ _ _ _ _ h hN [59,32] rfl hlen).mono ?_);rintro e w2 ⟨rfl,hb2⟩)
 go_ret
 exact ⟨rfl,hb2⟩
theorem SC (l:List Str) (n:Nat) (hn:Hid (l.length=n)) (A:Option Addr) (c base:Nat) (w:World) (h:Texts w base l (.slice A n c)) (hN:n≤100000000) (hlen:(Lib.join l [59,32]).length≤140737488355328):
 Calls Tryz.prog 41 #[.slice A n c, .string ⟨#[59,32]⟩] w fun e w'=>e= .returned (.string (B (Lib.join l [59,32])))∧Below w.heap.size w w':=by
 obtain rfl:=hn.out
 exact Vz l A c base w h hN hlen
theorem Xh:∀(l:List Str),(∀x∈l,x.length≤80000000)→(Lib.join l jC).length≤80000010 * l.length
 |[],_=>by simp [Lib.join_nil]
 |[a],h=>by rw [Lib.join_one];have:=h a (by simp);simp;omega
 |a::b::r,h=>by
  have ih:=Xh (b::r) (fun x hx=>h x (.tail _ hx))
  have ha:=h a (by simp)
  rw [fA]
  simp only [List.length_append,List.length_cons] at ih ⊢
  have:jC.length=2:=rfl
  omega
theorem ayq (l:List Ef):(jW l).length≤700000000:=by
 unfold jW
 split
 ·rename_i h
  have:=Xh (l.map dB) (fun x hx=>by
   obtain ⟨e,_,rfl⟩:=List.mem_map.1 hx
   exact TA e)
  rw [List.length_map] at this
  omega
 ·simp
theorem TD (e:Ef):(dB e==[])= !(jl e 4):=by
 cases h:jl e 4 with
 |false=>rw [BL h];rfl
 |true=>simpa using WT h
def okE (e:Ef):Bool:=jl e 4
theorem UY (es:List EV) (A:Option Addr) (c:Nat) (R:Str) (HR:Hid (jW (es.map Prod.fst)=R)) (w0:World) (hl:KO A es w0) (h0:es.length<1000000):Calls Tryz.prog 42 #[.slice A es.length c] w0 fun x w'=>x= .returned (.string (B R))∧Below w0.heap.size w0 w':=by
 have hS:=St.start hl (EW A es)
 go_enter Tryz.func42,Tryz.ntmps42
 go_wp2_with (first|fail|((refine aF rfl ?_);(first|fail))|((fail_if_success (with_reducible refine aB ?_));(first|fail)))
 go_loopw [3,9] (fun tv iv wr=>∃(k:Nat) (v:Value),k≤es.length∧k≤8∧iv= .int .i64 k∧tv=v∧Hid (((es.take k).all fun p=>okE p.1)=true)∧Hid (Texts wr w0.heap.size ((es.take k).map fun p=>dB p.1) v)∧Hid (Below w0.heap.size w0 wr)) (fun _ iv _=>es.length - (intOf iv).toNat)
 case atStart=>exact ⟨0, .slice none 0 0,by omega,by omega,rfl,rfl,Lib.hid rfl,Lib.hid (Texts.nil _ _),Lib.hid hS.below⟩
 case round=>
  clear hS
  obtain ⟨k,v,hk,hk8,rfl,rfl,HV,HT,HB⟩:=hrel
  have hS:=St.start (EW A es _ _ hl HB.out) (EW A es)
  have gU:=HB.out.size
  by_cases hlt:k<es.length
  ·obtain ⟨p,hp⟩:∃p,es[k]? =some p:=⟨es[k],List.getElem?_eq_getElem hlt⟩
   obtain ⟨b1,o1,rfl⟩:=hS.laid.2.zB hlt
   have HP:=Lib.hid hp
   have hlen1:((es.take k).map fun p=>dB p.1).length=k:=by rw [List.length_map,List.length_take];omega
   obtain ⟨T,hT⟩:∃T,dB p.1=T:=⟨_,rfl⟩
   have hn:=TD p.1
   rw [hT] at hn
   have Ie:=Lib.hid hT
   cases hv:jl p.1 4 with
   |false=>
    have HE:Hid (R=[]):=Lib.hid (by
     rw [←HR.out];unfold jW;rw [if_neg]
     rintro ⟨_,_,ha⟩
     have:=List.all_eq_true.1 ha p.1 (List.mem_map.2 ⟨p,List.mem_of_getElem? hp,rfl⟩)
     rw [hv] at this;cases this)
    rw [hv,Bool.not_false] at hn
    have hT0:T=[]:=by simpa using hn
    subst hT0
    clear hp hT hv
    go_wp2_with (first|fail|((refine aF rfl ?_);(first|((with_reducible refine aC (T:=kZ) ?_);refine jk kZ rfl rfl rfl (hS.laid.2.row HP) Tryz.underlying67 rfl kY ?_;(try simp only [ah,ak,au,ay,aA]))|((with_reducible refine aW ?_);refine aJ 67 rfl hS rfl _ jd ?_;intro g w hS)|((with_reducible refine aC (T:=67) ?_);(first|(refine iC rfl hS rfl rfl (by repeat constructor) ?_));(try simp only [ah,ak,au,ay,aA]))|((with_reducible refine aN ?_);(first|(refine gJ rfl hS rfl rfl rfl (by repeat constructor) ?_;intro w hS));(try simp only [ah,ak,au,ay,aA]))))|((fail_if_success (with_reducible refine aB ?_));(first|(go_at_call 104;(with_reducible refine (St.call hS fun hl=>FZ p [] Ie _ hl.1 (hl.2.mods HP)).mono ?_);rintro e w ⟨rfl,hS⟩))))
    all_goals go_ret
    all_goals exact ⟨dL HE.out.symm,HB.out.trans (hS.below.mono gU)⟩
   |true=>
    rw [hv,Bool.not_true] at hn
    by_cases h88:k=8
    ·have HE:Hid (R=[]):=Lib.hid (by
      rw [←HR.out];unfold jW;rw [if_neg]
      rintro ⟨_,h8,_⟩
      rw [List.length_map] at h8;omega)
     obtain ⟨vA,vc,rfl,_⟩:=HT.out.form
     rw [hlen1]
     subst h88
     clear hp hT hv hlen1
     go_wp2_with (first|fail|((refine aF rfl ?_);(first|((with_reducible refine aC (T:=kZ) ?_);refine jk kZ rfl rfl rfl (hS.laid.2.row HP) Tryz.underlying67 rfl kY ?_;(try simp only [ah,ak,au,ay,aA]))|((with_reducible refine aW ?_);refine aJ 67 rfl hS rfl _ jd ?_;intro g w hS)|((with_reducible refine aC (T:=67) ?_);(first|(refine iC rfl hS rfl rfl (by repeat constructor) ?_));(try simp only [ah,ak,au,ay,aA]))|((with_reducible refine aN ?_);(first|(refine gJ rfl hS rfl rfl rfl (by repeat constructor) ?_;intro w hS));(try simp only [ah,ak,au,ay,aA]))))|((fail_if_success (with_reducible refine aB ?_));(first|(go_at_call 104;(with_reducible refine (St.call hS fun hl=>FZ p T Ie _ hl.1 (hl.2.mods HP)).mono ?_);rintro e w ⟨rfl,hS⟩))))
     all_goals go_ret
     all_goals exact ⟨dL HE.out.symm,HB.out.trans (hS.below.mono gU)⟩
    ·have hne:((k:Int)==8)=false:=by rw [beq_eq_false_iff_ne];omega
     have Oh:Hid (((es.take (k+1)).all fun p=>okE p.1)=true):=Lib.hid (by rw [xW es k p hp,List.all_append,HV.out];simp [okE,hv])
     have HM:Hid ((es.take (k+1)).map (fun p=>dB p.1)=(es.take k).map (fun p=>dB p.1)++[L (B T)]):=Lib.hid (by rw [xW es k p hp,List.map_append,cO,←hT];rfl)
     have hln:((es.take k).map fun p=>dB p.1).length<1000000000:=by omega
     obtain ⟨vA,vc,rfl,_⟩:=HT.out.form
     rw [hlen1]
     have HT1:=HT.out
     rw [hlen1] at HT1
     have HT2:=Lib.hid HT1
     clear hp hT hv HT HT1
     go_wp2_with (first|fail|((refine aF rfl ?_);(first|((with_reducible refine aC (T:=kZ) ?_);refine jk kZ rfl rfl rfl (hS.laid.2.row HP) Tryz.underlying67 rfl kY ?_;(try simp only [ah,ak,au,ay,aA]))|((with_reducible refine aW ?_);refine aJ 67 rfl hS rfl _ jd ?_;intro g w hS)|(at_builtin;refine dH rfl (.tmp 22) (.tmp 24) 73 rfl Tryz.underlying73 jB rfl rfl (HT2.out.below hS.below) hln (Nat.le_trans gU hS.below.size) ?_;intro v' w2 hown2 hb2)|((with_reducible refine aC (T:=67) ?_);(first|(refine iC rfl hS rfl rfl (by repeat constructor) ?_));(try simp only [ah,ak,au,ay,aA]))|((with_reducible refine aN ?_);(first|(refine gJ rfl hS rfl rfl rfl (by repeat constructor) ?_;intro w hS));(try simp only [ah,ak,au,ay,aA]))))|((fail_if_success (with_reducible refine aB ?_));(first|(go_at_call 104;(with_reducible refine (St.call hS fun hl=>FZ p T Ie _ hl.1 (hl.2.mods HP)).mono ?_);rintro e w ⟨rfl,hS⟩))))
     have hown3:Texts w2 w0.heap.size ((es.take (k+1)).map fun p=>dB p.1) v':=by rw [HM.out];exact hown2
     have hb3:Below w0.heap.size w0 w2:=(HB.out.trans (hS.below.mono gU)).trans hb2
     go_roundw
     case rel=>exact ⟨k+1,v',by omega,by omega,by go_num,rfl,Oh,Lib.hid hown3,Lib.hid hb3⟩
     case measure=>simp [intOf];omega
  ·obtain rfl:k=es.length:=by omega
   have hjl:(Lib.join (es.map fun p=>dB p.1) [59,32]).length≤140737488355328:=by
    show (Lib.join (es.map fun p=>dB p.1) jC).length≤_
    have:=Xh (es.map fun p=>dB p.1) (fun x hx=>by
     obtain ⟨e,_,rfl⟩:=List.mem_map.1 hx
     exact TA e.1)
    rw [List.length_map] at this;omega
   have HE:Hid (Lib.join (es.map fun p=>dB p.1) [59,32]=R):=Lib.hid (by
    rw [←HR.out]
    unfold jW
    have ha:=HV.out
    rw [List.take_length] at ha
    by_cases hn:es=[]
    ·subst hn;rfl
    ·rw [if_pos ⟨by simpa using hn,by rw [List.length_map];exact hk8,by rw [List.all_map];exact ha⟩,List.map_map];rfl)
   have HT2:=HT.out
   rw [List.take_length] at HT2
   obtain ⟨vA,vc,hv,_⟩:=HT2.form
   rw [show (es.map fun p=>dB p.1).length=es.length from List.length_map _] at hv
   subst hv
   have HT3:=Lib.hid HT2
   have HNN:Hid ((es.map fun p=>dB p.1).length=es.length):=Lib.hid (List.length_map _)
   have hl8:es.length≤100000000:=by omega
   clear HT2
   go_wp2_with (first|fail|((refine aF rfl ?_);(first|fail))|((fail_if_success (with_reducible refine aB ?_));(first|(go_at_call 41;(with_reducible refine (St.call hS fun hl=>SC _ es.length HNN vA vc _ _ (HT3.out.below hS.below) hl8 hjl).mono ?_);rintro e w ⟨rfl,hS⟩))))
   all_goals go_ret
   all_goals exact ⟨dL HE.out,HB.out.trans (hS.below.mono gU)⟩
theorem xO (es:List EV) (A:Option Addr) (c:Nat) (R:Str) (HR:Hid (jW (es.map Prod.fst)=R)) (w0:World) (hl:KO A es w0) (h0:es.length<100000000):Calls Tryz.prog 46 #[.slice A es.length c] w0 fun x w'=>x= .returned (.string (B R))∧Below w0.heap.size w0 w':=by
 have hS:=St.start hl (EW A es)
 by_cases h18:1≤es.length∧es.length≤8
 ·obtain ⟨h1,h8⟩:=h18
  have hz1:decide ((es.length:Int)<1)=false:=by simp;omega
  have hz8:decide ((es.length:Int) > 8)=false:=by simp;omega
  have hz9:decide (8<(es.length:Int))=false:=by simp;omega
  go_enter Tryz.func46,Tryz.ntmps46
  go_wp2_with (first|fail|((refine aF rfl ?_);(first|fail))|((fail_if_success (with_reducible refine aB ?_));(first|fail)))
  go_loopw [3,4] (fun sv iv wr=>∃(k:Nat) (q:Str),k≤es.length∧q.length≤80000010 * k∧sv= .string (B q)∧iv= .int .i64 k∧Hid (((es.take k).all fun p=>okE p.1)=true)∧Hid (Lib.join ((es.take k).map fun p=>dB p.1) jC=q)∧Hid (St (KO A es) w0 [] wr)) (fun _ iv _=>es.length - (intOf iv).toNat)
  case atStart=>exact ⟨0,[],by omega,by simp,rfl,rfl,Lib.hid rfl,Lib.hid rfl,Lib.hid hS⟩
  case round=>
   clear hS
   obtain ⟨k,q,hk,hq,rfl,rfl,HV,HQ,HS⟩:=hrel
   have hS:=HS.out
   clear HS
   by_cases hlt:k<es.length
   ·obtain ⟨p,hp⟩:∃p,es[k]? =some p:=⟨es[k],List.getElem?_eq_getElem hlt⟩
    obtain ⟨b1,o1,rfl⟩:=hS.laid.2.zB hlt
    have HP:=Lib.hid hp
    have hTl:=TA p.1
    obtain ⟨T,hT⟩:∃T,dB p.1=T:=⟨_,rfl⟩
    have hn:=TD p.1
    rw [hT] at hn hTl
    have Ie:=Lib.hid hT
    cases hv:jl p.1 4 with
    |false=>
     have HE:Hid (R=[]):=Lib.hid (by
      rw [←HR.out];unfold jW;rw [if_neg]
      rintro ⟨_,_,ha⟩
      have:=List.all_eq_true.1 ha p.1 (List.mem_map.2 ⟨p,List.mem_of_getElem? hp,rfl⟩)
      rw [hv] at this;cases this)
     rw [hv,Bool.not_false] at hn
     have hT0:T=[]:=by simpa using hn
     subst hT0
     clear hp hT hv
     go_wp2_with (first|fail|((refine aF rfl ?_);(first|((with_reducible refine aC (T:=kZ) ?_);refine jk kZ rfl rfl rfl (hS.laid.2.row HP) Tryz.underlying67 rfl kY ?_;(try simp only [ah,ak,au,ay,aA]))))|((fail_if_success (with_reducible refine aB ?_));(first|(go_at_call 119;(with_reducible refine (St.call hS fun hl=>zZ p [] Ie _ hl.1 (hl.2.mods HP)).mono ?_);rintro e w ⟨rfl,hS⟩))))
     all_goals go_ret
     all_goals exact ⟨dL HE.out.symm,hS.below⟩
    |true=>
     rw [hv,Bool.not_true] at hn
     have Oh:Hid (((es.take (k+1)).all fun p=>okE p.1)=true):=Lib.hid (by rw [xW es k p hp,List.all_append,HV.out];simp [okE,hv])
     have hjs:Lib.join ((es.take (k+1)).map fun p=>dB p.1) jC=if (es.take k).map (fun p=>dB p.1)=[] then T else q++jC++T:=by
      rw [xW es k p hp,List.map_append,List.map_cons,List.map_nil,wG,HQ.out,hT]
     by_cases hk0:k=0
     ·subst hk0
      have HN:Hid (Lib.join ((es.take (0+1)).map fun p=>dB p.1) jC=T):=Lib.hid (by rw [hjs];simp)
      obtain rfl:q=[]:=by rw [←HQ.out];rfl
      clear hp hT hv hjs
      go_wp2_with (first|fail|((refine aF rfl ?_);(first|((with_reducible refine aC (T:=kZ) ?_);refine jk kZ rfl rfl rfl (hS.laid.2.row HP) Tryz.underlying67 rfl kY ?_;(try simp only [ah,ak,au,ay,aA]))|((with_reducible refine jT ?_);(first|(refine eG rfl rfl rfl rfl (by first|(simp only [List.length_append,List.length_cons,List.length_nil];omega)|fail) ?_));(try simp only [ah,ak,au,ay,aA]))))|((fail_if_success (with_reducible refine aB ?_));(first|(go_at_call 119;(with_reducible refine (St.call hS fun hl=>zZ p T Ie _ hl.1 (hl.2.mods HP)).mono ?_);rintro e w ⟨rfl,hS⟩))))
      go_roundw
      case rel=>exact ⟨0+1,T,by omega,by omega,rfl,by go_num,Oh,HN,Lib.hid hS⟩
      case measure=>simp [intOf];omega
     ·have HN:Hid (Lib.join ((es.take (k+1)).map fun p=>dB p.1) jC=q++[59,32]++T):=Lib.hid (by
       rw [hjs,if_neg]
       ·rfl
       ·intro e
        have:=congrArg List.length e
        rw [List.length_map,List.length_take,List.length_nil] at this
        omega)
      have hk1:(0:Int)<(k:Int):=by omega
      clear hp hT hv hjs
      go_wp2_with (first|fail|((refine aF rfl ?_);(first|((with_reducible refine aC (T:=kZ) ?_);refine jk kZ rfl rfl rfl (hS.laid.2.row HP) Tryz.underlying67 rfl kY ?_;(try simp only [ah,ak,au,ay,aA]))|((with_reducible refine jT ?_);(first|(refine eG rfl rfl rfl rfl (by first|(simp only [List.length_append,List.length_cons,List.length_nil];omega)|fail) ?_));(try simp only [ah,ak,au,ay,aA]))))|((fail_if_success (with_reducible refine aB ?_));(first|(go_at_call 119;(with_reducible refine (St.call hS fun hl=>zZ p T Ie _ hl.1 (hl.2.mods HP)).mono ?_);rintro e w ⟨rfl,hS⟩))))
      go_roundw
      case rel=>exact ⟨k+1,q++[59,32]++T,by omega,by simp;omega,by first|rfl|simp,by go_num,Oh,HN,Lib.hid hS⟩
      case measure=>simp [intOf];omega
   ·obtain rfl:k=es.length:=by omega
    have HE:Hid (q=R):=Lib.hid (by
     rw [←HR.out]
     unfold jW
     have ha:=HV.out
     rw [List.take_length] at ha
     rw [if_pos ⟨by intro e;have:=congrArg List.length e;rw [List.length_map,List.length_nil] at this;omega,by rw [List.length_map];exact h8,by rw [List.all_map];exact ha⟩,List.map_map,←HQ.out,List.take_length];rfl)
    go_wp2_with (first|fail|((refine aF rfl ?_);(first|fail))|((fail_if_success (with_reducible refine aB ?_));(first|fail)))
    all_goals go_ret
    all_goals exact ⟨dL HE.out,hS.below⟩
 ·have HE:Hid (R=[]):=Lib.hid (by
   rw [←HR.out];unfold jW;rw [if_neg]
   rintro ⟨a,b,_⟩
   rw [List.length_map] at b
   exact h18 ⟨List.length_pos_iff.2 (by simpa using a),b⟩)
  have hc:es.length<1∨(¬es.length<1∧8<es.length):=by omega
  clear h18
  rcases hc with hc|⟨hc,hd⟩
  ·have hz1:decide ((es.length:Int)<1)=true:=by simp;omega
   go_enter Tryz.func46,Tryz.ntmps46
   go_wp2_with (first|fail|((refine aF rfl ?_);(first|fail))|((fail_if_success (with_reducible refine aB ?_));(first|fail)))
   all_goals go_ret
   all_goals exact ⟨dL HE.out.symm,hS.below⟩
  ·have hz1:decide ((es.length:Int)<1)=false:=by simp;omega
   have hz8:decide ((es.length:Int) > 8)=true:=by simp;omega
   have hz9:decide (8<(es.length:Int))=true:=by simp;omega
   go_enter Tryz.func46,Tryz.ntmps46
   go_wp2_with (first|fail|((refine aF rfl ?_);(first|fail))|((fail_if_success (with_reducible refine aB ?_));(first|fail)))
   all_goals go_ret
   all_goals exact ⟨dL HE.out.symm,hS.below⟩
end Go.Proofs.YtdicgggkdmkklaaGreatDoor
