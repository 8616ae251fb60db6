/- Walks: lists of effects: ListText, the program's and the reference's. Conditions: LaidM; the list lies in memory; it has fewer than a million elements. Helpers of the laws of chapter 17. Conditions -/
import Derived.Test.YtdnnkgkondkhfaaGreatDoorMEParse
import Derived.Test.YtdnnkgkondkhfaaGreatDoorQ12
import Derived.Test.YtdnnkgkondkhfaaGreatDoorMEAlive
import Derived.Test.YtdnnkgkondkhfaaGreatDoorMERRead
import Derived.Test.YtdnnkgkondkhfaaGreatDoorQ7
set_option linter.all false
set_option maxRecDepth 100000
set_option maxHeartbeats 16000000
namespace Go.Proofs.YtdnnkgkondkhfaaGreatDoor
attribute [local irreducible] wpList Code.wp Calls
open Go.ChangeShapes Go.WideShapes Go.RowKit
theorem FZ (p:EV) (T:Str) (HT:Hid (dB p.1=T)) (w:World) (hl:bZ w) (hm:kL p.1 p.2 w):Calls Tryz.prog 40 #[.agg (Em.cells (p.1.at p.2))] w fun x w'=>x= .returned (.string (B T))∧Below w.heap.size w w':=zI p.1 p.2 T HT w ⟨hl,hm⟩
theorem zZ (p:EV) (T:Str) (HT:Hid (dB p.1=T)) (w:World) (hl:bZ w) (hm:kL p.1 p.2 w):Calls Tryz.prog 46 #[.agg (Em.cells (p.1.at p.2))] w fun x w'=>x= .returned (.string (B T))∧Below w.heap.size w w':=EC p.1 p.2 T HT w ⟨hl,hm⟩
theorem Vz (l:List Str) (A:Option Addr) (c base:Nat) (w:World) (h:Texts w base l (.slice A l.length c)) (hN:l.length≤100000000) (hlen:(Lib.join l [59,32]).length≤140737488355328):
 Calls Tryz.prog 50 #[.slice A l.length c, .string ⟨#[59,32]⟩] w fun e w'=>e= .returned (.string (B (Lib.join l [59,32])))∧Below w.heap.size w w':=by
 go_enter Tryz.func50,Tryz.ntmps50
 go_wp2_with (go_at_call 120;(with_reducible refine (tH _ _ _ _ _ _ h hN [59,32] rfl hlen).mono ?_);rintro e w2 ⟨rfl,hb2⟩)
 go_ret
 exact ⟨rfl,hb2⟩
theorem SC (l:List Str) (n:Nat) (hn:Hid (l.length=n)) (A:Option Addr) (c base:Nat) (w:World) (h:Texts w base l (.slice A n c)) (hN:n≤100000000) (hlen:(Lib.join l [59,32]).length≤140737488355328):
 Calls Tryz.prog 50 #[.slice A n c, .string ⟨#[59,32]⟩] w fun e w'=>e= .returned (.string (B (Lib.join l [59,32])))∧Below w.heap.size w w':=by
 obtain rfl:=hn.out
 exact Vz l A c base w h hN hlen
theorem Xh:∀(l:List Str),(∀x∈l,x.length≤80000000)→(Lib.join l jC).length≤80000010 * l.length
 |[],_=>by simp [Lib.join_nil]
 |[a],h=>by rw [Lib.join_one];have:=h a (by simp);simp;omega
 |a::b::r,h=>by
  have ih:=Xh (b::r) (fun x hx=>h x (.tail _ hx))
  have ha:=h a (by simp)
  rw [fA]
  simp only [List.length_append,List.length_cons] at ih ⊢
  have:jC.length=2:=rfl
  omega
theorem TD (e:Ef):(dB e==[])= !(jl e 4):=by
 cases h:jl e 4 with
 |false=>rw [BL h];rfl
 |true=>simpa using WT h
def okE (e:Ef):Bool:=jl e 4
theorem UY (es:List EV) (A:Option Addr) (c:Nat) (R:Str) (HR:Hid (jW (es.map Prod.fst)=R)) (w0:World) (hl:KO A es w0) (h0:es.length<1000000):Calls Tryz.prog 18 #[.slice A es.length c] w0 fun x w'=>x= .returned (.string (B R))∧Below w0.heap.size w0 w':=by
 have hS:=St.start hl (EW A es)
 go_enter Tryz.func18,Tryz.ntmps18
 go_wp2_with (first|fail|((refine aF rfl ?_);(first|fail))|((fail_if_success (with_reducible refine aB ?_));(first|fail)))
 go_loopw [3,9] (fun tv iv wr=>∃(k:Nat) (v:Value),k≤es.length∧k≤8∧iv= .int .i64 k∧tv=v∧Hid (((es.take k).all fun p=>okE p.1)=true)∧Hid (Texts wr w0.heap.size ((es.take k).map fun p=>dB p.1) v)∧Hid (Below w0.heap.size w0 wr)) (fun _ iv _=>es.length - (intOf iv).toNat)
 case atStart=>exact ⟨0, .slice none 0 0,by omega,by omega,rfl,rfl,Lib.hid rfl,Lib.hid (Texts.nil _ _),Lib.hid hS.below⟩
 case round=>
  clear hS
  obtain ⟨k,v,hk,hk8,rfl,rfl,HV,HT,HB⟩:=hrel
  have hS:=St.start (EW A es _ _ hl HB.out) (EW A es)
  have gU:=HB.out.size
  by_cases hlt:k<es.length
  ·obtain ⟨p,hp⟩:∃p,es[k]? =some p:=⟨es[k],List.getElem?_eq_getElem hlt⟩
   obtain ⟨b1,o1,rfl⟩:=hS.laid.2.in_ hlt
   have HP:=Lib.hid hp
   have hlen1:((es.take k).map fun p=>dB p.1).length=k:=by rw [List.length_map,List.length_take];omega
   obtain ⟨T,hT⟩:∃T,dB p.1=T:=⟨_,rfl⟩
   have hn:=TD p.1
   rw [hT] at hn
   have Ie:=Lib.hid hT
   cases hv:jl p.1 4 with
   |false=>
    have HE:Hid (R=[]):=Lib.hid (by
     rw [←HR.out];unfold jW;rw [if_neg]
     rintro ⟨_,_,ha⟩
     have:=List.all_eq_true.1 ha p.1 (List.mem_map.2 ⟨p,List.mem_of_getElem? hp,rfl⟩)
     rw [hv] at this;cases this)
    rw [hv,Bool.not_false] at hn
    have hT0:T=[]:=by simpa using hn
    subst hT0
    clear hp hT hv
    go_wp2_with (first|fail|((refine aF rfl ?_);(first|((with_reducible refine aC (T:=kZ) ?_);refine jk kZ rfl rfl rfl (hS.laid.2.row HP) Tryz.underlying35 rfl kY ?_;(try simp only [ah,ak,au,ay,aA]))|((with_reducible refine aW ?_);refine aJ 35 rfl hS rfl _ jd ?_;intro g w hS)|((with_reducible refine aC (T:=35) ?_);(first|(refine iC rfl hS rfl rfl (by repeat constructor) ?_));(try simp only [ah,ak,au,ay,aA]))|((with_reducible refine aN ?_);(first|(refine gJ rfl hS rfl rfl rfl (by repeat constructor) ?_;intro w hS));(try simp only [ah,ak,au,ay,aA]))))|((fail_if_success (with_reducible refine aB ?_));(first|(go_at_call 40;(with_reducible refine (St.call hS fun hl=>FZ p [] Ie _ hl.1 (hl.2.mods HP)).mono ?_);rintro e w ⟨rfl,hS⟩))))
    all_goals go_ret
    all_goals exact ⟨dL HE.out.symm,HB.out.trans (hS.below.mono gU)⟩
   |true=>
    rw [hv,Bool.not_true] at hn
    by_cases h88:k=8
    ·have HE:Hid (R=[]):=Lib.hid (by
      rw [←HR.out];unfold jW;rw [if_neg]
      rintro ⟨_,h8,_⟩
      rw [List.length_map] at h8;omega)
     obtain ⟨vA,vc,rfl,_⟩:=HT.out.form
     rw [hlen1]
     subst h88
     clear hp hT hv hlen1
     go_wp2_with (first|fail|((refine aF rfl ?_);(first|((with_reducible refine aC (T:=kZ) ?_);refine jk kZ rfl rfl rfl (hS.laid.2.row HP) Tryz.underlying35 rfl kY ?_;(try simp only [ah,ak,au,ay,aA]))|((with_reducible refine aW ?_);refine aJ 35 rfl hS rfl _ jd ?_;intro g w hS)|((with_reducible refine aC (T:=35) ?_);(first|(refine iC rfl hS rfl rfl (by repeat constructor) ?_));(try simp only [ah,ak,au,ay,aA]))|((with_reducible refine aN ?_);(first|(refine gJ rfl hS rfl rfl rfl (by repeat constructor) ?_;intro w hS));(try simp only [ah,ak,au,ay,aA]))))|((fail_if_success (with_reducible refine aB ?_));(first|(go_at_call 40;(with_reducible refine (St.call hS fun hl=>FZ p T Ie _ hl.1 (hl.2.mods HP)).mono ?_);rintro e w ⟨rfl,hS⟩))))
     all_goals go_ret
     all_goals exact ⟨dL HE.out.symm,HB.out.trans (hS.below.mono gU)⟩
    ·have hne:((k:Int)==8)=false:=by rw [beq_eq_false_iff_ne];omega
     have Oh:Hid (((es.take (k+1)).all fun p=>okE p.1)=true):=Lib.hid (by rw [xW es k p hp,List.all_append,HV.out];simp [okE,hv])
     have HM:Hid ((es.take (k+1)).map (fun p=>dB p.1)=(es.take k).map (fun p=>dB p.1)++[L (B T)]):=Lib.hid (by rw [xW es k p hp,List.map_append,cO,←hT];rfl)
     have hln:((es.take k).map fun p=>dB p.1).length<1000000000:=by omega
     obtain ⟨vA,vc,rfl,_⟩:=HT.out.form
     rw [hlen1]
     have HT1:=HT.out
     rw [hlen1] at HT1
     have HT2:=Lib.hid HT1
     clear hp hT hv HT HT1
     go_wp2_with (first|fail|((refine aF rfl ?_);(first|((with_reducible refine aC (T:=kZ) ?_);refine jk kZ rfl rfl rfl (hS.laid.2.row HP) Tryz.underlying35 rfl kY ?_;(try simp only [ah,ak,au,ay,aA]))|((with_reducible refine aW ?_);refine aJ 35 rfl hS rfl _ jd ?_;intro g w hS)|(at_builtin;refine dH rfl (.tmp 22) (.tmp 24) 74 rfl Tryz.underlying74 jB rfl rfl (HT2.out.below hS.below) hln (Nat.le_trans gU hS.below.size) ?_;intro v' w2 hown2 hb2)|((with_reducible refine aC (T:=35) ?_);(first|(refine iC rfl hS rfl rfl (by repeat constructor) ?_));(try simp only [ah,ak,au,ay,aA]))|((with_reducible refine aN ?_);(first|(refine gJ rfl hS rfl rfl rfl (by repeat constructor) ?_;intro w hS));(try simp only [ah,ak,au,ay,aA]))))|((fail_if_success (with_reducible refine aB ?_));(first|(go_at_call 40;(with_reducible refine (St.call hS fun hl=>FZ p T Ie _ hl.1 (hl.2.mods HP)).mono ?_);rintro e w ⟨rfl,hS⟩))))
     have hown3:Texts w2 w0.heap.size ((es.take (k+1)).map fun p=>dB p.1) v':=by rw [HM.out];exact hown2
     have hb3:Below w0.heap.size w0 w2:=(HB.out.trans (hS.below.mono gU)).trans hb2
     go_roundw
     case rel=>exact ⟨k+1,v',by omega,by omega,by go_num,rfl,Oh,Lib.hid hown3,Lib.hid hb3⟩
     case measure=>simp [intOf];omega
  ·obtain rfl:k=es.length:=by omega
   have hjl:(Lib.join (es.map fun p=>dB p.1) [59,32]).length≤140737488355328:=by
    show (Lib.join (es.map fun p=>dB p.1) jC).length≤_
    have:=Xh (es.map fun p=>dB p.1) (fun x hx=>by
     obtain ⟨e,_,rfl⟩:=List.mem_map.1 hx
     exact TA e.1)
    rw [List.length_map] at this;omega
   have HE:Hid (Lib.join (es.map fun p=>dB p.1) [59,32]=R):=Lib.hid (by
    rw [←HR.out]
    unfold jW
    have ha:=HV.out
    rw [List.take_length] at ha
    by_cases hn:es=[]
    ·subst hn;rfl
    ·rw [if_pos ⟨by simpa using hn,by rw [List.length_map];exact hk8,by rw [List.all_map];exact ha⟩,List.map_map];rfl)
   have HT2:=HT.out
   rw [List.take_length] at HT2
   obtain ⟨vA,vc,hv,_⟩:=HT2.form
   rw [show (es.map fun p=>dB p.1).length=es.length from List.length_map _] at hv
   subst hv
   have HT3:=Lib.hid HT2
   have HNN:Hid ((es.map fun p=>dB p.1).length=es.length):=Lib.hid (List.length_map _)
   have hl8:es.length≤100000000:=by omega
   clear HT2
   go_wp2_with (first|fail|((refine aF rfl ?_);(first|fail))|((fail_if_success (with_reducible refine aB ?_));(first|(go_at_call 50;(with_reducible refine (St.call hS fun hl=>SC _ es.length HNN vA vc _ _ (HT3.out.below hS.below) hl8 hjl).mono ?_);rintro e w ⟨rfl,hS⟩))))
   all_goals go_ret
   all_goals exact ⟨dL HE.out,HB.out.trans (hS.below.mono gU)⟩
theorem xO (es:List EV) (A:Option Addr) (c:Nat) (R:Str) (HR:Hid (jW (es.map Prod.fst)=R)) (w0:World) (hl:KO A es w0) (h0:es.length<100000000):Calls Tryz.prog 19 #[.slice A es.length c] w0 fun x w'=>x= .returned (.string (B R))∧Below w0.heap.size w0 w':=by
 have hS:=St.start hl (EW A es)
 by_cases h18:1≤es.length∧es.length≤8
 ·obtain ⟨h1,h8⟩:=h18
  have hz1:decide ((es.length:Int)<1)=false:=by simp;omega
  have hz8:decide ((es.length:Int) > 8)=false:=by simp;omega
  have hz9:decide (8<(es.length:Int))=false:=by simp;omega
  go_enter Tryz.func19,Tryz.ntmps19
  go_wp2_with (first|fail|((refine aF rfl ?_);(first|fail))|((fail_if_success (with_reducible refine aB ?_));(first|fail)))
  go_loopw [3,4] (fun sv iv wr=>∃(k:Nat) (q:Str),k≤es.length∧q.length≤80000010 * k∧sv= .string (B q)∧iv= .int .i64 k∧Hid (((es.take k).all fun p=>okE p.1)=true)∧Hid (Lib.join ((es.take k).map fun p=>dB p.1) jC=q)∧Hid (St (KO A es) w0 [] wr)) (fun _ iv _=>es.length - (intOf iv).toNat)
  case atStart=>exact ⟨0,[],by omega,by simp,rfl,rfl,Lib.hid rfl,Lib.hid rfl,Lib.hid hS⟩
  case round=>
   clear hS
   obtain ⟨k,q,hk,hq,rfl,rfl,HV,HQ,HS⟩:=hrel
   have hS:=HS.out
   clear HS
   by_cases hlt:k<es.length
   ·obtain ⟨p,hp⟩:∃p,es[k]? =some p:=⟨es[k],List.getElem?_eq_getElem hlt⟩
    obtain ⟨b1,o1,rfl⟩:=hS.laid.2.in_ hlt
    have HP:=Lib.hid hp
    have hTl:=TA p.1
    obtain ⟨T,hT⟩:∃T,dB p.1=T:=⟨_,rfl⟩
    have hn:=TD p.1
    rw [hT] at hn hTl
    have Ie:=Lib.hid hT
    cases hv:jl p.1 4 with
    |false=>
     have HE:Hid (R=[]):=Lib.hid (by
      rw [←HR.out];unfold jW;rw [if_neg]
      rintro ⟨_,_,ha⟩
      have:=List.all_eq_true.1 ha p.1 (List.mem_map.2 ⟨p,List.mem_of_getElem? hp,rfl⟩)
      rw [hv] at this;cases this)
     rw [hv,Bool.not_false] at hn
     have hT0:T=[]:=by simpa using hn
     subst hT0
     clear hp hT hv
     go_wp2_with (first|fail|((refine aF rfl ?_);(first|((with_reducible refine aC (T:=kZ) ?_);refine jk kZ rfl rfl rfl (hS.laid.2.row HP) Tryz.underlying35 rfl kY ?_;(try simp only [ah,ak,au,ay,aA]))))|((fail_if_success (with_reducible refine aB ?_));(first|(go_at_call 46;(with_reducible refine (St.call hS fun hl=>zZ p [] Ie _ hl.1 (hl.2.mods HP)).mono ?_);rintro e w ⟨rfl,hS⟩))))
     all_goals go_ret
     all_goals exact ⟨dL HE.out.symm,hS.below⟩
    |true=>
     rw [hv,Bool.not_true] at hn
     have Oh:Hid (((es.take (k+1)).all fun p=>okE p.1)=true):=Lib.hid (by rw [xW es k p hp,List.all_append,HV.out];simp [okE,hv])
     have hjs:Lib.join ((es.take (k+1)).map fun p=>dB p.1) jC=if (es.take k).map (fun p=>dB p.1)=[] then T else q++jC++T:=by
      rw [xW es k p hp,List.map_append,List.map_cons,List.map_nil,wG,HQ.out,hT]
     by_cases hk0:k=0
     ·subst hk0
      have HN:Hid (Lib.join ((es.take (0+1)).map fun p=>dB p.1) jC=T):=Lib.hid (by rw [hjs];simp)
      obtain rfl:q=[]:=by rw [←HQ.out];rfl
      clear hp hT hv hjs
      go_wp2_with (first|fail|((refine aF rfl ?_);(first|((with_reducible refine aC (T:=kZ) ?_);refine jk kZ rfl rfl rfl (hS.laid.2.row HP) Tryz.underlying35 rfl kY ?_;(try simp only [ah,ak,au,ay,aA]))|((with_reducible refine jT ?_);(first|(refine eG rfl rfl rfl rfl (by first|(simp only [List.length_append,List.length_cons,List.length_nil];omega)|fail) ?_));(try simp only [ah,ak,au,ay,aA]))))|((fail_if_success (with_reducible refine aB ?_));(first|(go_at_call 46;(with_reducible refine (St.call hS fun hl=>zZ p T Ie _ hl.1 (hl.2.mods HP)).mono ?_);rintro e w ⟨rfl,hS⟩))))
      go_roundw
      case rel=>exact ⟨0+1,T,by omega,by omega,rfl,by go_num,Oh,HN,Lib.hid hS⟩
      case measure=>simp [intOf];omega
     ·have HN:Hid (Lib.join ((es.take (k+1)).map fun p=>dB p.1) jC=q++[59,32]++T):=Lib.hid (by
       rw [hjs,if_neg]
       ·rfl
       ·intro e
        have:=congrArg List.length e
        rw [List.length_map,List.length_take,List.length_nil] at this
        omega)
      have hk1:(0:Int)<(k:Int):=by omega
      clear hp hT hv hjs
      go_wp2_with (first|fail|((refine aF rfl ?_);(first|((with_reducible refine aC (T:=kZ) ?_);refine jk kZ rfl rfl rfl (hS.laid.2.row HP) Tryz.underlying35 rfl kY ?_;(try simp only [ah,ak,au,ay,aA]))|((with_reducible refine jT ?_);(first|(refine eG rfl rfl rfl rfl (by first|(simp only [List.length_append,List.length_cons,List.length_nil];omega)|fail) ?_));(try simp only [ah,ak,au,ay,aA]))))|((fail_if_success (with_reducible refine aB ?_));(first|(go_at_call 46;(with_reducible refine (St.call hS fun hl=>zZ p T Ie _ hl.1 (hl.2.mods HP)).mono ?_);rintro e w ⟨rfl,hS⟩))))
      go_roundw
      case rel=>exact ⟨k+1,q++[59,32]++T,by omega,by simp;omega,by first|rfl|simp,by go_num,Oh,HN,Lib.hid hS⟩
      case measure=>simp [intOf];omega
   ·obtain rfl:k=es.length:=by omega
    have HE:Hid (q=R):=Lib.hid (by
     rw [←HR.out]
     unfold jW
     have ha:=HV.out
     rw [List.take_length] at ha
     rw [if_pos ⟨by intro e;have:=congrArg List.length e;rw [List.length_map,List.length_nil] at this;omega,by rw [List.length_map];exact h8,by rw [List.all_map];exact ha⟩,List.map_map,←HQ.out,List.take_length];rfl)
    go_wp2_with (first|fail|((refine aF rfl ?_);(first|fail))|((fail_if_success (with_reducible refine aB ?_));(first|fail)))
    all_goals go_ret
    all_goals exact ⟨dL HE.out,hS.below⟩
 ·have HE:Hid (R=[]):=Lib.hid (by
   rw [←HR.out];unfold jW;rw [if_neg]
   rintro ⟨a,b,_⟩
   rw [List.length_map] at b
   exact h18 ⟨List.length_pos_iff.2 (by simpa using a),b⟩)
  have hc:es.length<1∨(¬es.length<1∧8<es.length):=by omega
  clear h18
  rcases hc with hc|⟨hc,hd⟩
  ·have hz1:decide ((es.length:Int)<1)=true:=by simp;omega
   go_enter Tryz.func19,Tryz.ntmps19
   go_wp2_with (first|fail|((refine aF rfl ?_);(first|fail))|((fail_if_success (with_reducible refine aB ?_));(first|fail)))
   all_goals go_ret
   all_goals exact ⟨dL HE.out.symm,hS.below⟩
  ·have hz1:decide ((es.length:Int)<1)=false:=by simp;omega
   have hz8:decide ((es.length:Int) > 8)=true:=by simp;omega
   have hz9:decide (8<(es.length:Int))=true:=by simp;omega
   go_enter Tryz.func19,Tryz.ntmps19
   go_wp2_with (first|fail|((refine aF rfl ?_);(first|fail))|((fail_if_success (with_reducible refine aB ?_));(first|fail)))
   all_goals go_ret
   all_goals exact ⟨dL HE.out.symm,hS.below⟩
abbrev adW (e:Ef) (v:Sl) (w:World):Prop:=bZ w∧mg e v w
theorem adW.few {e:Ef} {v:Sl} {w:World} (h:adW e v w) (h20:e.mods.length≤20):bQ e v w:=⟨h.1,h.2.few h20⟩
theorem MI.nil {e:Ef} {v:Sl} (h:MI e v []) (w:World):kL e v w:=by
 refine ⟨h.1,h.2.1,?_⟩
 rcases h.2.2 with ⟨_,h0⟩|⟨g,cur,_,hr,_⟩
 ·exact .inl h0
 ·cases hr
theorem MI.one {e:Ef} {v:Sl} {gm:Nat} {cm:Array Value} (h:MI e v [(gm,cm,iw)]) {w:World} (hg:w.heap[gm]? =some (.cells cm iw (0,0))):kL e v w:=by
 refine ⟨h.1,h.2.1,?_⟩
 rcases h.2.2 with ⟨_,h0⟩|⟨g,cur,ha,hr,hm⟩
 ·exact .inl h0
 ·cases hr with
  |head=>exact .inr ⟨_,0,ha,hm w hg⟩
  |tail h=>cases h
theorem FX {s:Str} {L:World→Prop} {w0 w w':World} {rows:List Row} {x:Ending} (h:EH s w x w') (hS:St L w0 rows w):
 (fC s=none∧x= .returned (.tuple #[.agg kC.cells, .int .i64 3])∧St L w0 rows w')∨∃e v X,fC s=some e∧x= .returned (.tuple #[.agg (e.at v).cells, .int .i64 0])∧St L w0 (X++rows) w'∧MI e v X∧(X=[]∨∃gm cm,X=[(gm,cm,iw)]):=by
 obtain ⟨hb,h⟩:=h
 rcases h with ⟨h1,h2⟩|⟨e,v,h1,h2,⟨m1,m2,m3⟩⟩
 ·exact .inl ⟨h1,h2,hS.mono hb⟩
 ·rcases m3 with ⟨ha,h0⟩|⟨gm,cm,ha,hbg,hg,hm⟩
  ·exact .inr ⟨e,v,[],h1,h2,hS.mono hb,⟨m1,m2, .inl ⟨ha,h0⟩⟩, .inl rfl⟩
  ·exact .inr ⟨e,v,[(gm,cm,iw)],h1,h2,hS.grow hb hg hbg,⟨m1,m2, .inr ⟨gm,cm,ha, .head,hm⟩⟩, .inr ⟨gm,cm,rfl⟩⟩
abbrev LX (A0 A1 A2:Option Addr) (l e1 e2:List EV) (w:World):Prop:=bZ w∧(og A0 l w∧(qG A1 e1 w∧qG A2 e2 w))
theorem Xk (A0 A1 A2:Option Addr) (l e1 e2:List EV):∀w1 w2:World,LX A0 A1 A2 l e1 e2 w1→Below w1.heap.size w1 w2→LX A0 A1 A2 l e1 e2 w2:=fun _ _ h hb=>⟨h.1.below hb,h.2.1.keep hb,h.2.2.1.keep hb,h.2.2.2.keep hb⟩
theorem Du (w:World):qG none [] w:=⟨.inl rfl,by simp⟩
def elK (s:Str):Int:=if (kH s).isSome=true then 0 else 3
theorem TJ {s:Str} {w w':World} {x:Ending} (h:VK s w x w'):∃es A c,x= .returned (.tuple #[.slice A es.length c, .int .i64 (elK s)])∧qG A es w'∧es.length≤8∧es.map Prod.fst=(kH s).getD []∧Below w.heap.size w w':=by
 obtain ⟨hb,h⟩:=h
 rcases h with ⟨h1,h2⟩|⟨es,v,h1,h2,own⟩
 ·refine ⟨[],none,0,?_,Du _,by simp,by rw [h1];rfl,hb⟩
  rw [h2];unfold elK;rw [h1];rfl
 ·obtain ⟨A,c,rfl⟩:=own.form
  refine ⟨es,A,c,?_,own.arg.2,?_,by rw [h1];rfl,hb⟩
  ·rw [h2];unfold elK;rw [h1];rfl
  ·have:=(Ji h1).2.1
   rwa [List.length_map] at this
theorem adq (p:Str) (r:List Str):uO (p::r)=(fC p).bind fun e=>(uO r).map fun l=>e::l:=rfl
def readAll:List Ef→List Str→Option (List Ef)
 |out,[]=>some out
 |out,p::r=>match fC p with
  |none=>none
  |some m=>readAll (out++[m]) r
theorem Qp:∀(ps:List Str) (out:List Ef),readAll out ps=(uO ps).map fun l=>out++l
 |[],out=>by simp [readAll,uO]
 |p::r,out=>by
  rw [readAll,adq]
  cases fC p with
  |none=>rfl
  |some m=>
   simp only [Option.bind_some]
   rw [Qp r (out++[m])]
   cases uO r<;>simp
theorem ajo (ps:List Str) (k:Nat) (x:Str) (h:ps[k]? =some x):(xU ps)[k]? =some (if k=0 then x else x.drop 1):=by
 cases ps with
 |nil=>simp at h
 |cons a r=>
  cases k with
  |zero=>simpa [xU] using h
  |succ k=>simp at h;simp [xU,h]
theorem ag2 (ps:List Str):(xU ps).length=ps.length:=by cases ps<;>simp [xU]
theorem Yw {out:List Ef} {p:Str} {r:List Str} {m:Ef} (h:fC p=some m):readAll out (p::r)=readAll (out++[m]) r:=by rw [readAll,h]
theorem Yv {out:List Ef} {p:Str} {r:List Str} (h:fC p=none):readAll out (p::r)=none:=by rw [readAll,h]
theorem aml (s:Str):kH s=match readAll [] (xU (gu 59 s)) with|none=>none|some l=>if jW l=s then some l else none:=by
 rw [←aoY,Qp]
 unfold qEl
 cases uO (xU (gu 59 s))<;>simp
theorem MP (s:Str) (hs:s.length<100000000) (h:Hid (fC s=none)) (w:World) (hl:bZ w):Calls Tryz.prog 13 #[.string (B s)] w fun e w'=>e= .returned (.tuple #[.agg kC.cells, .int .i64 3])∧Below w.heap.size w w':=
 (CV s hs w hl).mono fun e w' ⟨hb,hr⟩=>by
  rcases hr with ⟨_,he⟩|⟨x,v,hx,_⟩
  ·exact ⟨he,hb⟩
  ·rw [h.out] at hx;cases hx
theorem Yl (s:Str) (hs:s.length<100000000) (m:Ef) (h:Hid (fC s=some m)) (w:World) (hl:bZ w):Calls Tryz.prog 13 #[.string (B s)] w fun e w'=>∃v,e= .returned (.tuple #[.agg (m.at v).cells, .int .i64 0])∧oh m v w.heap.size w'∧Below w.heap.size w w':=
 (CV s hs w hl).mono fun e w' ⟨hb,hr⟩=>by
  rcases hr with ⟨hx,_⟩|⟨x,v,hx,he,hm⟩
  ·rw [h.out] at hx;cases hx
  ·rw [h.out] at hx
   obtain rfl:=Option.some.inj hx
   exact ⟨v,he,hm,hb⟩
theorem amJ (s:Str) (hs:s.length<100000000) (ps:List Str) (HW:Hid (gu 59 s=ps)) (h1:0<ps.length) (w:World):Calls Tryz.prog 41 #[.string (B s), .int .u8 59] w fun e w'=>∃gw c,e= .returned (.slice (some ⟨gw,0,none⟩) ps.length c)∧sD gw 0 ps w'∧Below w.heap.size w w':=
 (ajd s hs ps HW h1 (St.start (L:=fun _=>True) (w:=w) trivial (fun _ _ _ _=>trivial))).mono fun e w' ⟨gw,cur,c,he,hw,_,hS⟩=>⟨gw,c,he,by have:=hw.out.at_ hS .head 0;rwa [List.drop_zero] at this,hS.below⟩
theorem NU (s:Str) (hs:s.length<1000000) (w0:World) (hl:bZ w0):Calls Tryz.prog 17 #[.string (B s)] w0 (VK s w0):=by
 obtain ⟨ps,hps⟩:∃ps,gu 59 s=ps:=⟨_,rfl⟩
 have hd:splitAux 59 0 [] s=ps:=by rw [←hps,wY];rfl
 have hl1:=nU 59 s [] 0
 rw [hd] at hl1
 have hpm:∀x∈ps,x.length<100000000:=fun x hx=>by
  have:=rY 59 s [] 0 x (by rw [hd];exact hx)
  simp at this;omega
 have hpl:ps.length≤1000000:=by omega
 have h1:0<ps.length:=List.length_pos_iff.2 hl1.2
 have h0:=aml s
 rw [hps] at h0
 obtain ⟨qs,yc⟩:∃qs,xU ps=qs:=⟨_,rfl⟩
 rw [yc] at h0
 have hql:qs.length=ps.length:=by rw [←yc,ag2]
 have aol:=fun k x h=>yc ▸ ajo ps k x h
 have HPS:=Lib.hid hps
 have H0:=Lib.hid h0
 have HQA:=Lib.hid aol
 clear hps h0 yc hl1 hd aol
 have hS:=St.start hl xA
 go_enter Tryz.func17,Tryz.ntmps17
 go_wp2_with (first|(go_at_call 41;(refine (amJ s (by omega) ps HPS h1 _).mono ?_);rintro e w1 ⟨gw,cw,rfl,hcells,hb⟩;have hS:=hS.mono hb;have Oc:=Lib.hid hcells;clear hcells hb))
 have hl1:=hS.laid
 have HB1:=Lib.hid hS.below
 clear hS
 go_loopw [5,6] (fun lv iv wr=>∃(k:Nat) (es:List EV) (v:Value),k≤ps.length∧es.length≤k∧lv=v∧iv= .int .i64 k∧Hid (readAll [] qs=readAll (es.map Prod.fst) (qs.drop k))∧Hid (qH wr w1.heap.size es v)∧Hid (Below w1.heap.size w1 wr)) (fun _ iv _=>ps.length - (intOf iv).toNat)
 case atStart=>exact ⟨0,[], .slice none 0 0,by omega,by simp,rfl,rfl,Lib.hid rfl,Lib.hid (qH.nil _ _),Lib.hid (Below.refl _ _)⟩
 case round=>
  obtain ⟨k,es,v,hk,h8,rfl,rfl,HR,HO,HB⟩:=hrel
  have gU:=HB.out.size
  have hS:=St.start (L:=Oi gw ps w1.heap.size es _) ⟨hl1.below HB.out,Oc.out.keep HB.out,HO.out⟩ (Xj gw ps w1.heap.size es _)
  by_cases hlt:k<ps.length
  ·obtain ⟨x,hx⟩:∃x,ps[k]? =some x:=⟨ps[k],List.getElem?_eq_getElem hlt⟩
   have hxl:=hpm x (List.mem_of_getElem? hx)
   have hqx:=HQA.out k x hx
   obtain ⟨y,hy⟩:∃y,(if k=0 then x else x.drop 1)=y:=⟨_,rfl⟩
   rw [hy] at hqx
   have hyl:y.length<100000000:=by
    rw [←hy];split
    ·exact hxl
    ·simp;omega
   have hdq:qs.drop k=y::qs.drop (k+1):=by
    have hlq:k<qs.length:=by omega
    rw [List.drop_eq_getElem_cons hlq]
    rw [List.getElem?_eq_getElem hlq] at hqx
    rw [Option.some.inj hqx]
   have hr:=HR.out
   rw [hdq] at hr
   have HX:=Lib.hid hx
   have HY:=Lib.hid hy
   clear hdq hx HR hqx hy
   have hes:es.length≤1000000:=by omega
   have hsx:(B x).size=x.length:=bC x
   -- three ways to the part's text:the first part;an empty part;a part without its first byte
   have aj6:(k=0∧y=x)∨(0<k∧x=[]∧y=[])∨(0<k∧1≤x.length∧(x==[])=false∧(B x).extract 1 x.length=B y):=by
    by_cases hk0:k=0
    ·left
     have:=HY.out
     rw [if_pos hk0] at this
     exact ⟨hk0,this.symm⟩
    ·right
     have:=HY.out
     rw [if_neg hk0] at this
     by_cases hx0:x=[]
     ·left;subst hx0
      exact ⟨by omega,rfl,by rw [←this];rfl⟩
     ·right
      refine ⟨by omega,List.length_pos_iff.2 hx0,by simpa using hx0,lC ?_⟩
      rw [dM,cO,cO,List.take_length];exact this
   cases hp:fC y with
   |none=>
    have HE:=Lib.hid (hr.trans (Yv hp))
    have HP:=Lib.hid hp
    have HN:Hid (kH s=none):=Lib.hid (by rw [H0.out,HE.out])
    clear hr hp
    rcases aj6 with ⟨rfl,rfl⟩|⟨hk0,rfl,rfl⟩|⟨hk0,hx1,hxe,hex⟩
    all_goals
     go_wp2_with (first|(go_at_call 13;(with_reducible refine (St.call hS fun hl=>MP y hyl HP _ hl.1).mono ?_);rintro e w ⟨rfl,hS⟩)|(go_at_call 13;(with_reducible refine (St.call hS fun hl=>MP _ hyl HP _ hl.1).mono ?_);rintro e w ⟨rfl,hS⟩)|((with_reducible refine aC ?_);refine mJ rfl rfl rfl (EZ hS.laid.2.1 HX) ?_;(try simp only [ah,ak,au,ay,aA]))|((with_reducible refine aW ?_);(first|(refine aJ 35 rfl hS rfl _ jd ?_;intro g w hS));(try simp only [ah,ak,au,ay,aA]))|((with_reducible refine aN ?_);(first|(refine gJ rfl hS rfl rfl rfl (by repeat constructor) ?_;intro w hS));(try simp only [ah,ak,au,ay,aA])))
     all_goals go_ret2
     all_goals exact ⟨HB1.out.trans ((HB.out.trans (hS.below.mono gU)).mono HB1.out.size), .inl ⟨HN.out,rfl⟩⟩
   |some m=>
    have HP:=Lib.hid hp
    have HE:=Lib.hid (hr.trans (Yw hp))
    clear hr hp
    obtain ⟨va,vc,rfl⟩:=HO.out.form
    rcases aj6 with ⟨rfl,rfl⟩|⟨hk0,rfl,rfl⟩|⟨hk0,hx1,hxe,hex⟩
    all_goals
     go_wp2_with (first|((with_reducible refine aC ?_);refine mJ rfl rfl rfl (EZ hS.laid.2.1 HX) ?_;(try simp only [ah,ak,au,ay,aA]))|(go_at_call 13;(refine (Yl _ hyl m HP _ hS.laid.1).mono ?_);rintro e w ⟨vm,rfl,hmr,hb⟩;have Ic:=Lib.hid (hS.below.trans (hb.mono hS.below.size));have hS:=St.start (L:=Oj gw ps w1.heap.size es _ m vm) ⟨(hS.mono hb).laid,hmr.le (Nat.le_trans gU hS.below.size)⟩ (abd _ _ _ _ _ _ _);clear hb hmr)|((with_reducible refine sW ?_);refine uQ rfl hS rfl rfl _ kZ (ae5 (m.at vm)) ?_;intro g3 w hS;(try simp only [ah,ak,au,ay,aA]))|(at_builtin;refine IC (b:=w1.heap.size) (es:=es) (r:=(m,vm)) rfl rfl rfl hS.laid.1.2.2 rfl (hS.row .head) hS.laid.2 hes (Nat.le_trans (Nat.le_trans gU Ic.out.size) hS.below.size) ?_;intro g' cap' w5 hown' hb5)|((with_reducible refine aW ?_);(first|(refine aJ 35 rfl hS rfl _ jd ?_;intro g w hS));(try simp only [ah,ak,au,ay,aA]))|((with_reducible refine aC ?_);(first|(refine iC rfl hS rfl rfl (by repeat constructor) ?_));(try simp only [ah,ak,au,ay,aA]))|((with_reducible refine aN ?_);(first|(refine gJ rfl hS rfl rfl rfl (by repeat constructor) ?_;intro w hS));(try simp only [ah,ak,au,ay,aA])))
     go_roundw
     case rel=>first
      |exact ⟨k+1,es++[(m,vm)],_,by omega,by simp;omega,rfl,by go_num,Lib.hid (by rw [HE.out,List.map_append];rfl),Lib.hid hown',Lib.hid ((HB.out.trans ((Ic.out.trans (hS.below.mono Ic.out.size)).mono gU)).trans hb5)⟩
      |exact ⟨0+1,es++[(m,vm)],_,by omega,(by first|(simp;omega)|(simp [h8];done)|(simp_all;done)),rfl,by go_num,Lib.hid (by rw [HE.out,List.map_append];rfl),Lib.hid hown',Lib.hid ((HB.out.trans ((Ic.out.trans (hS.below.mono Ic.out.size)).mono gU)).trans hb5)⟩
     case measure=>simp [intOf];omega
  ·obtain rfl:k=ps.length:=by omega
   have hrd:readAll [] qs=some (es.map Prod.fst):=by rw [HR.out,List.drop_eq_nil_of_le (by omega),readAll]
   have h9:=H0.out
   rw [hrd] at h9
   simp only at h9
   obtain ⟨T,hT⟩:∃T,jW (es.map Prod.fst)=T:=⟨_,rfl⟩
   rw [hT] at h9
   have HT:=Lib.hid hT
   have hes:es.length<100000000:=by omega
   obtain ⟨va,vc,rfl⟩:=HO.out.form
   clear hT hrd HR
   by_cases hx:T=s
   ·rw [if_pos hx] at h9
    have HE:=Lib.hid h9
    have ht:(T==s)=true:=by simpa using hx
    clear h9 hx
    go_wp2_with (first|((first|(with_reducible refine aB ?_)|(with_reducible refine aT ?_));(have hq:=str_eq (by assumption);subst hq))|(go_at_call 19;(with_reducible refine (St.call hS fun hl=>xO es va vc T HT _ ⟨hl.1,hl.2.2.arg.2⟩ hes).mono ?_);rintro e w ⟨rfl,hS⟩))
    all_goals go_ret2
    all_goals exact ⟨HB1.out.trans ((HB.out.trans (hS.below.mono gU)).mono HB1.out.size), .inr ⟨es,_,HE.out,rfl,(hS.laid.2.2).le HB1.out.size⟩⟩
   ·rw [if_neg hx] at h9
    have HE:=Lib.hid h9
    have ht:(T==s)=false:=by simpa using hx
    clear h9 hx
    go_wp2_with (first|(go_at_call 19;(with_reducible refine (St.call hS fun hl=>xO es va vc T HT _ ⟨hl.1,hl.2.2.arg.2⟩ hes).mono ?_);rintro e w ⟨rfl,hS⟩))
    all_goals go_ret2
    all_goals exact ⟨HB1.out.trans ((HB.out.trans (hS.below.mono gU)).mono HB1.out.size), .inl ⟨HE.out,rfl⟩⟩
end Go.Proofs.YtdnnkgkondkhfaaGreatDoor
