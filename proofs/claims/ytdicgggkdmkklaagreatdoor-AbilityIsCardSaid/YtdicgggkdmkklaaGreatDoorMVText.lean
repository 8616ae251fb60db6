/- Walks: package ability: Text. Conditions: LaidV; the lists lie in memory. Walks: package ability: Parse. Conditions: LaidV; the text is shorter than 90 million bytes. Walks: package ability: IsMana -/
import Derived.Test.YtdicgggkdmkklaaGreatDoorMVIs
import Derived.Test.YtdicgggkdmkklaaGreatDoorMVGuess
import Derived.Test.YtdicgggkdmkklaaGreatDoorQ3
set_option linter.all false
set_option maxRecDepth 100000
set_option maxHeartbeats 16000000
namespace Go.Proofs.YtdicgggkdmkklaaGreatDoor
open Go.ChangeShapes Go.WideShapes Go.RowKit
theorem tX.cIs {L:World→Prop} {x:Ax} {mods:List Md} {specs:List Sp} {qE:List Ef} {es:List EV} (k:tX L x mods specs qE es) (hk:∀w1 w2,L w1→Below w1.heap.size w1 w2→L w2):mG 11 #[.agg (Ax.cells x)] L (.bool (aej (x.ab mods specs qE))):=⟨fun w h=>ayW x mods specs qE es L (ajO:=k) w h hk⟩
theorem aAf (x y:Str) (w:World):(Instr.buildSlice 73 2 #[(0, .string (B x)),(1, .string (B y))]).run Tryz.prog w= .ok (.slice (some ⟨w.heap.size,0,none⟩) 2 2) (w.alloc (.cells #[.string (B x), .string (B y)] 9)):=by kernel_rfl
theorem FB.aEo {g:Nat} {x y:Str} :FB 9 1 YN [x,y] (some ⟨g,0,none⟩) 2 [(g,#[.string (B x), .string (B y)],9)]:= .inr ⟨g,#[.string (B x), .string (B y)],rfl,rfl,by simp,by decide,rfl,rfl⟩
theorem aCT {L:World→Prop} {w0 w:World} {rows:List Row} {ops:Array Oper} {rest:List Oper} {o:Oper} {a:Act} {Q:Exit→Act→World→Prop} {x y:Operand} (ho:o.op= .buildSlice 73 2 #[(0,x),(1,y)]) (hS:St L w0 rows w) (hw:Region.wanted o (yielded ops a.tmps)=true) {p q:Str} (hx:a.eval x= .string (B p)) (hy:a.eval y= .string (B q))
 {aku:Nat→List Row} (hz:∀g,rows++[(g,#[.string (B p), .string (B q)],9)]=aku g)
 (h:∀g w',FB 9 1 YN [p,q] (some ⟨g,0,none⟩) 2 [(g,#[.string (B p), .string (B q)],9)]→St L w0 (aku g) w'→wpList Tryz.prog ops Q rest (a.put o.dst (.slice (some ⟨g,0,none⟩) 2 2)) w'):wpList Tryz.prog ops Q (o::rest) a w:=
 jc hw fun K hK=>by
  unfold Oper.wp execOp
  simp [ho,hx,hy,Sem.run_bind,aAf,Result.andThen]
  exact hK _ _ (h _ _ .aEo (by rw [←hz];exact (hS.alloc _ 9).adJ))
theorem sL2 {G R:Prop} (k:R) (h:R→G:=by
 intro k
 (with_reducible refine aB ?_)
 exact aCT rfl hS rfl rfl rfl (by intro g;simp only [List.cons_append,List.nil_append];exact rfl) k):G:=h k
theorem ays (k:Int):(akf k).length≤5:=by unfold akf;repeat' split
                                         all_goals decide
theorem azP {α:Type} (f:α→Str) (n:Nat) (h:∀x,(f x).length≤n):∀l:List α,((l.map f).map List.length).sum≤n * l.length
 |[]=>by simp
 |x::l=>by
  have ih:=azP f n h l
  have hx:=h x
  simp only [List.map_cons,List.sum_cons,List.length_cons,Nat.mul_add,Nat.mul_one]
  omega
theorem aAB (a:Ab) (h4:a.specs.length≤4):arB (headW a) 6000000:=⟨by
 have h1:=ays a.k
 have h2:=azP MI 1000020 (fun x=>(axV (s:=x)).le) a.specs
 have h3:=(axU (p:=a.pr)).le
 have h5:=(axW (t:=a.t)).le
 have h6:(anr a).length+((anr a).map List.length).sum≤1000100:=by
  have o1:=arv a.slow ajN
  have o2:=arv a.may akg
  have e1:ajN.length=4:=rfl
  have e2:akg.length=3:=rfl
  unfold anr
  split
  ·simp
  split
  ·simp only [List.length_cons,List.map_cons,List.sum_cons];omega
  ·simp only [List.length_cons,List.map_cons,List.sum_cons];omega
 unfold headW
 simp only [List.length_cons,List.length_append,List.map_cons,List.map_append,List.sum_cons,List.sum_append,List.length_map]
 rw [Nat.mul_comm] at h2
 have h7:a.specs.length * 1000020≤4 * 1000020:=Nat.mul_le_mul_right _ h4
 omega⟩
theorem azb {x:Ax} {mods:List Md} {specs:List Sp} {qE:List Ef} (h:aej (x.ab mods specs qE)=true) (h1:¬x.kind=1) (h5:¬x.kind=5):(x.kind=2∨x.kind=3∨x.kind=4)∧specs.length≤4∧aeh (x.ab mods specs qE)=Lib.join (headW (x.ab mods specs qE)) [32]++(58::32::jW qE):=by
 have ht:aeh (x.ab mods specs qE)=ajZ (x.ab mods specs qE):=if_pos h
 refine ⟨?_,?_,?_⟩
 ·by_cases h2:x.kind=2
  ·exact .inl h2
  by_cases h3:x.kind=3
  ·exact .inr (.inl h3)
  by_cases h4:x.kind=4
  ·exact .inr (.inr h4)
  rw [axZ h1 h2 h3 h4 h5] at h;cases h
 ·have:∀a:Ab,aej a=true→¬a.k=1→¬a.k=5→a.specs.length≤4:=fun a h a1 a5=>by
   cases axN h with
   |static=>exact absurd rfl a1
   |replace=>exact absurd rfl a5
   |acts _ _ e _=>exact e.four
  exact this _ h h1 h5
 ·rw [ht];unfold ajZ
  rw [if_neg (show ¬(x.ab mods specs qE).k=1 from h1),if_neg (show ¬(x.ab mods specs qE).k=5 from h5)];rfl
theorem axu {x:Ax} {mods:List Md} {specs:List Sp} {qE:List Ef} (h:aej (x.ab mods specs qE)=true) (h1:x.kind=1):aeh (x.ab mods specs qE)=ajL++(textOf x.f++(41::32::eH mods)):=by
 rw [show aeh (x.ab mods specs qE)=ajZ (x.ab mods specs qE) from if_pos h];unfold ajZ
 rw [if_pos (show (x.ab mods specs qE).k=1 from h1)];rfl
theorem azc {x:Ax} {mods:List Md} {specs:List Sp} {qE:List Ef} (h:aej (x.ab mods specs qE)=true) (h5:x.kind=5):aeh (x.ab mods specs qE)=aeH++aeg x.r:=by
 rw [show aeh (x.ab mods specs qE)=ajZ (x.ab mods specs qE) from if_pos h];unfold ajZ
 rw [if_neg (show ¬(x.ab mods specs qE).k=1 by show ¬x.kind=1;omega),if_pos (show (x.ab mods specs qE).k=5 from h5)];rfl
def aur (x:Ax):List Str:=akf x.kind::(if x.kind=2 then [] else if x.kind=3 then LX x.pr::opt x.slow ajN else aei x.t::opt x.may akg)
theorem aBZ (x:Ax) (mods:List Md) (specs:List Sp) (qE:List Ef):headW (x.ab mods specs qE)=aur x++specs.map MI:=rfl
theorem awl {l:List Sp} {j:Nat} {x:Sp} (hx:l[j]? =some x):(l.take (j+1)).map MI=(l.take j).map MI++[MI x]:=by
 rw [List.take_succ,hx,List.map_append];rfl
theorem akj.more {L:World→Prop} {w0 w:World} {p:List Row} {l e:List Str} {x:Str} {A:Option Addr} {c n:Nat} {wr:List Row} (hE:Hid (l=e)) (hn:l.length≤n) (hW:FB 9 1 YN (l++[x]) A c wr) (hS:St L w0 (p++wr) w):akj L w0 p (e++[x]) (n+1) (.slice A (l.length+1) c) w:=
 ⟨l++[x],A,c,wr,Lib.hid (by rw [hE.out]),by simpa using hn,by simp,Lib.hid hW,Lib.hid hS⟩
theorem akj.mk' {L:World→Prop} {w0 w:World} {p:List Row} {l e:List Str} {A:Option Addr} {c n:Nat} {wr:List Row} (hW:FB 9 1 YN l A c wr) (hS:St L w0 (p++wr) w) (he:e=l) (hn:l.length≤n):akj L w0 p e n (.slice A l.length c) w:=⟨l,A,c,wr,Lib.hid he.symm,hn,rfl,Lib.hid hW,Lib.hid hS⟩
theorem aDb {x:Ax} (h:x.kind=2):aur x=[auy]:=by unfold aur akf;rw [if_pos h,if_pos h]
theorem aA6 {x:Ax} (h:x.kind=3) {b:Bool} (hs:x.slow=b):aur x=[axk,LX x.pr]++opt b ajN:=by unfold aur akf;rw [if_neg (by omega),if_pos h,if_neg (by omega),if_pos h,hs];rfl
theorem aA7 {x:Ax} (h:x.kind=4) {b:Bool} (hs:x.may=b):aur x=[avT,aei x.t]++opt b akg:=by unfold aur akf;rw [if_neg (by omega),if_neg (by omega),if_neg (by omega),if_neg (by omega),hs];rfl
attribute [local irreducible] wpList Code.wp Calls dh fK aej ajU ael aeF eH afp MI LX jl jW aei aeg textOf
theorem awD (x:Ax) (mods:List Md) (specs:List Sp) (qE:List Ef) (es:List EV) (L:World→Prop) [ajO:tX L x mods specs qE es] (w0:World) (hl:L w0) (hk:∀w1 w2,L w1→Below w1.heap.size w1 w2→L w2):
 Calls Tryz.prog 13 #[.agg (Ax.cells x)] w0 fun e w'=>e= .returned (.string (B (aeh (x.ab mods specs qE))))∧Below w0.heap.size w0 w':=by
 have HM:=Lib.hid (ajO.h _ hl).at_.mn
 have HN:=Lib.hid (ajO.h _ hl).at_.sn
 have HEN:=Lib.hid (ajO.h _ hl).at_.en
 have H9:=Lib.hid (ajO.h _ hl).at_.aAb
 have zA:=Lib.hid (ajO.h _ hl).at_.ee
 have hmx:x.specs.n<100000000:=by rw [HN.out];exact (ajO.h _ hl).at_.sl
 have hex:x.qE.n<1000000:=by rw [HEN.out];exact (ajO.h _ hl).at_.el
 have i1:=ajO.aEp
 have i2:=ajO.sM
 have i3:=ajO.sT
 have i4:=ajO.sL
 have i5:=ajO.aym
 have i6:=ajO.aAN
 have i7:=ajO.cIs hk
 have hS:=St.start hl hk
 cases hv:aej (x.ab mods specs qE) with
 |false=>
  go_in
  go_wp2_with (first|(have hq:=iE;subst hq)|(have hq:=sE;subst hq)|refine s0 ?_|(refine s1 ?_;clear hS;intro w hS)|(refine s2 ?_;clear hS;intro g w hS)|(refine s4 ?_;clear hS;intro g cur cw w hw hcw hS)|(refine s6 ?_;clear hS;intro g w hS)|(refine s8 ?_;clear hS;intro A c wr w hW hS)|(refine s5 ?_;clear hS;intro A c wr w hW hS)|(refine s3 ?_ ?_<;>intro hb<;>(try subst hb)<;>(try (exfalso;first|omega|exact Bool.noConfusion hb))))
  all_goals go_ret
  all_goals exact ⟨dL (by rw [asg hv]),hS.below⟩
 |true=>
  have HS1:=Lib.hid (axu hv)
  have HS5:=Lib.hid (azc hv)
  have HSA:=Lib.hid (azb hv)
  obtain ⟨R,hR⟩:∃R,aeh (x.ab mods specs qE)=R:=⟨_,rfl⟩
  rw [hR] at HS1 HS5 HSA ⊢
  clear hR
  go_in
  go_upto_block 0 with (first|(have hq:=iE;subst hq)|(have hq:=sE;subst hq)|refine s0 ?_|(refine s1 ?_;clear hS;intro w hS)|(refine s2 ?_;clear hS;intro g w hS)|(refine s4 ?_;clear hS;intro g cur cw w hw hcw hS)|(refine s6 ?_;clear hS;intro g w hS)|(refine s8 ?_;clear hS;intro A c wr w hW hS)|(refine s5 ?_;clear hS;intro A c wr w hW hS)|(refine s3 ?_ ?_<;>intro hb<;>(try subst hb)<;>(try (exfalso;first|omega|exact Bool.noConfusion hb))))
  go_cut [1,3] from 4 to 72 (fun av lv wc=>∃ga,av= .pointer (some ⟨ga,0,none⟩)∧¬x.kind=1∧¬x.kind=5∧akj L w0 [(ga,Ax.cells x,39)] (aur x) 3 lv wc)
  case first=>
   as_aux_lemma=>
   go_wp2_with (first|(have hq:=iE;subst hq)|(have hq:=sE;subst hq)|(refine sL2 ?_;clear hS;intro g w hW hS)|refine s0 ?_|(refine s1 ?_;clear hS;intro w hS)|(refine s2 ?_;clear hS;intro g w hS)|(refine s4 ?_;clear hS;intro g cur cw w hw hcw hS)|(refine s6 ?_;clear hS;intro g w hS)|(refine s8 ?_;clear hS;intro A c wr w hW hS)|(refine s5 ?_;clear hS;intro A c wr w hW hS)|(refine s3 ?_ ?_<;>intro hb<;>(try subst hb)<;>(try (exfalso;first|omega|exact Bool.noConfusion hb))))
   all_goals first
    |(go_ret;refine ⟨dL ?_,hS.below⟩;rw [HS1.out (by first|assumption|exact eq_of_beq (by assumption))];simp [ajL];done)
    |(go_ret;refine ⟨dL ?_,hS.below⟩;rw [HS5.out (by first|assumption|exact eq_of_beq (by assumption))];simp [aeH];done)
    |(go_meet;exact ⟨_,rfl,(by first|exact beq_eq_false_iff_ne.1 ‹(x.kind==1)=false› |omega),(by first|exact beq_eq_false_iff_ne.1 ‹(x.kind==5)=false› |omega),akj.mk' .row hS.adJ (aDb (by first|assumption|exact eq_of_beq (by assumption))) (by simp)⟩)
    |(go_meet;exact ⟨_,rfl,(by first|exact beq_eq_false_iff_ne.1 ‹(x.kind==1)=false› |omega),(by first|exact beq_eq_false_iff_ne.1 ‹(x.kind==5)=false› |omega),akj.mk' hW hS.tail (aA6 (by first|assumption|exact eq_of_beq (by assumption)) (b:=true) (by assumption)) (by simp)⟩)
    |(go_meet;exact ⟨_,rfl,(by first|exact beq_eq_false_iff_ne.1 ‹(x.kind==1)=false› |omega),(by first|exact beq_eq_false_iff_ne.1 ‹(x.kind==5)=false› |omega),akj.mk' hW hS (aA6 (by first|assumption|exact eq_of_beq (by assumption)) (b:=false) (by assumption)) (by simp)⟩)
    |(go_meet;exact ⟨_,rfl,(by first|exact beq_eq_false_iff_ne.1 ‹(x.kind==1)=false› |omega),(by first|exact beq_eq_false_iff_ne.1 ‹(x.kind==5)=false› |omega),akj.mk' hW hS.tail (aA7 (by first|assumption|exact eq_of_beq (by assumption)) (b:=true) (by assumption)) (by simp)⟩)
    |(go_meet;exact ⟨_,rfl,(by first|exact beq_eq_false_iff_ne.1 ‹(x.kind==1)=false› |omega),(by first|exact beq_eq_false_iff_ne.1 ‹(x.kind==5)=false› |omega),akj.mk' hW hS (aA7 (by first|assumption|exact eq_of_beq (by assumption)) (b:=false) (by assumption)) (by simp)⟩)
    |(exfalso;have h:=(HSA.out (by first|exact beq_eq_false_iff_ne.1 ‹(x.kind==1)=false› |omega) (by first|exact beq_eq_false_iff_ne.1 ‹(x.kind==5)=false› |omega)).1;have a2:=beq_eq_false_iff_ne.1 ‹(x.kind==2)=false›;have a3:=beq_eq_false_iff_ne.1 ‹(x.kind==3)=false›;have a4:=beq_eq_false_iff_ne.1 ‹(x.kind==4)=false›;omega)
  case rest=>
   as_aux_lemma=>
   clear hS
   obtain ⟨ga,rfl,h1,h5,l,A,c,wr,hE,hn,rfl,HW,HSx⟩:=hcut
   obtain ⟨hk3,h4,HT⟩:=HSA.out h1 h5
   have HT:=Lib.hid HT
   have hW:=HW.out
   have hS:=HSx.out
   clear HW HSx HS1 HS5 HSA
   go_wp2_with (first|(have hq:=iE;subst hq)|(have hq:=sE;subst hq)|refine s0 ?_|(refine s1 ?_;clear hS;intro w hS)|(refine s2 ?_;clear hS;intro g w hS)|(refine s4 ?_;clear hS;intro g cur cw w hw hcw hS)|(refine s6 ?_;clear hS;intro g w hS)|(refine s8 ?_;clear hS;intro A c wr w hW hS)|(refine s5 ?_;clear hS;intro A c wr w hW hS)|(refine s3 ?_ ?_<;>intro hb<;>(try subst hb)<;>(try (exfalso;first|omega|exact Bool.noConfusion hb))))
   generalize hsa:x.specs.a=sa
   go_loopw [3,56] (fun lv iv wr=>∃j:Nat,j≤x.specs.n∧iv= .int .i64 j∧akj L w0 [(ga,Ax.cells x,39)] (aur x++(specs.take j).map MI) (3+j) lv wr) (fun _ iv _=>x.specs.n - (intOf iv).toNat)
   case atStart=>exact ⟨0,by omega,rfl,l,A,c,wr,Lib.hid (by rw [hE.out];simp),hn,rfl,Lib.hid hW,Lib.hid hS⟩
   case round=>
    clear hS hW hE hn
    obtain ⟨j,hj,rfl,l,A,c,wr,hE,hn,rfl,HW,HSx⟩:=hrel
    have hW:=HW.out
    have hS:=HSx.out
    clear HW HSx
    by_cases hlt:j<x.specs.n
    ·obtain ⟨s,hs⟩:∃s,specs[j]? =some s:=⟨specs[j]'(by rw [←HN.out];exact hlt),List.getElem?_eq_getElem _⟩
     obtain ⟨b1,o1,hA1⟩:=(ajO.h _ hS.laid).at_.sa.zB (by rw [←HN.out];exact hlt)
     obtain rfl:=hsa.symm.trans hA1
     have HP:=Lib.hid hs
     have HQ:Hid (∀w,L w→w.rangeAt b1 (o1+j * 18) (Sp.cells s).toList):=Lib.hid fun w h=>by
      have h:=(ajO.h w h).at_.sa
      rw [hA1] at h
      exact h.row HP
     clear hs hsa hA1
     have hji:(j:Int)<x.specs.n:=by omega
     have hl9:l.length≤1000000:=by have:=HN.out;omega
     go_wp2_with (first|(have hq:=iE;subst hq)|(have hq:=sE;subst hq)|((with_reducible refine aC (T:=49) ?_);refine jk 49 rfl rfl rfl (HQ.out _ hS.laid) Tryz.underlying49 rfl (by kernel_rfl) ?_;(try simp only [ah,ak,au,ay,aA]))|refine s0 ?_|(refine s1 ?_;clear hS;intro w hS)|(refine s2 ?_;clear hS;intro g w hS)|(refine s4 ?_;clear hS;intro g cur cw w hw hcw hS)|(refine s6 ?_;clear hS;intro g w hS)|(refine s8 ?_;clear hS;intro A c wr w hW hS)|(refine s5 ?_;clear hS;intro A c wr w hW hS)|(refine s3 ?_ ?_<;>intro hb<;>(try subst hb)<;>(try (exfalso;first|omega|exact Bool.noConfusion hb))))
     go_roundw
     case rel=>exact ⟨j+1,by omega,by go_num,by rw [awl HP.out,←List.append_assoc];exact akj.more hE hn hW (by first|exact hS.tail.tail|exact hS.tail|exact hS)⟩
     case measure=>simp [intOf];omega
    ·clear hsa
     have hjn:j=x.specs.n:=by omega
     have hjx:¬(j:Int)<x.specs.n:=by omega
     have HL:Hid (l=headW (x.ab mods specs qE)):=Lib.hid (by rw [hE.out,hjn,HN.out,List.take_length];rfl)
     have hTT:arB l 6000000:=by rw [HL.out];exact aAB _ h4
     have:Len (Lib.join l [32]) 6000000:=aCE
     go_wp2_with (first|(have hq:=iE;subst hq)|(have hq:=sE;subst hq)|((with_reducible refine dS ?_);refine eu (v:= .string (B (Lib.join l [32]))) (args:=#[.slice A l.length c, .string ⟨#[32]⟩]) 41 rfl (fun _ _ _ h=>h) ?_ ?_ ?_;(focus (intro w;go_simp;done));(focus (intro w hS;exact ay6 hS hW (by repeat (first|assumption|constructor)) (by decide) hTT (by rfl) fun w' h=>⟨rfl,h⟩));(try simp only [ah,ak,au,ay,aA]))|refine s0 ?_|(refine s1 ?_;clear hS;intro w hS)|(refine s2 ?_;clear hS;intro g w hS)|(refine s4 ?_;clear hS;intro g cur cw w hw hcw hS)|(refine s6 ?_;clear hS;intro g w hS)|(refine s8 ?_;clear hS;intro A c wr w hW hS)|(refine s5 ?_;clear hS;intro A c wr w hW hS)|(refine s3 ?_ ?_<;>intro hb<;>(try subst hb)<;>(try (exfalso;first|omega|exact Bool.noConfusion hb))))
     go_ret
     refine ⟨dL ?_,hS.below⟩
     first
     |(rw [HT.out,HL.out];simp;done)
     |(rw [HL.out];done)
     |(rw [HL.out];simp;done)
end Go.Proofs.YtdicgggkdmkklaaGreatDoor
namespace Go.Proofs.YtdicgggkdmkklaaGreatDoor
open Go.ChangeShapes Go.WideShapes Go.RowKit
instance aFW {x:Ax} {mods:List Md} {specs:List Sp} {qE:List Ef} {es:List EV} :tX (aq5 x mods specs qE es) x mods specs qE es:=⟨fun _ h=>h⟩
def AbP (o:Option Ab) (w0:World) (e:Ending) (w':World):Prop:=∃x,e= .returned (.tuple #[.agg (Ax.cells x), .int .i64 (BN o.isSome)])∧(o=none→x=aqY)∧(∀a,o=some a→x.ab a.mods a.specs a.qE=a∧∃es,∀w2,aep (ajJ w0.heap.size w') w2→anc x a.mods a.specs a.qE es w2)∧Below w0.heap.size w0 w'
attribute [local irreducible] wpList Code.wp Calls aeh aek ad6
theorem anp (s:Str) (hs:s.length<90000000) (w0:World) (hl:aew w0):Calls Tryz.prog 17 #[.string (B s)] w0 (AbP (ad6 s) w0):=by
 have hS:=St.start hl fun _ _ h hb=>h.below hb
 obtain ⟨A,hA⟩:∃A,aek s=A:=⟨_,rfl⟩
 have HP:Hid (ad6 s=if s≠[]∧aeh A=s then some A else none):=Lib.hid (by rw [←hA];exact aod s)
 have HGG:=Lib.hid hA
 clear hA
 go_in
 go_upto_region 1 with (first|(have hq:=iE;subst hq)|(have hq:=sE;subst hq)|refine s0 ?_|(refine s1 ?_;clear hS;intro w hS)|(refine s2 ?_;clear hS;intro g w hS)|(refine s4 ?_;clear hS;intro g cur cw w hw hcw hS)|(refine s3 ?_ ?_<;>intro hb<;>(try subst hb)<;>(try (exfalso;first|omega|exact Bool.noConfusion hb))))
 generalize g=gr at *
 go_wp2_with (first|(have hq:=iE;subst hq)|(have hq:=sE;subst hq)|(go_at_call 47;refine (aze s hs _ hS.laid).mono ?_;rw [HGG.out];rintro e w1 ⟨x,es,rfl,hx,HA,hb⟩;have hS2:=hS.all hb;clear hS;revert HA hS2;generalize ajJ w.heap.size w1=X;intro HA hS;simp only [List.cons_append,List.nil_append] at hS;have HX:=Lib.hid hx;have HA2:=Lib.hid HA;clear hx HA hb)|(go_at_call 13;refine c_call (v:= .string (B (aeh A))) (fun hl=>by rw [←HX.out];exact awD x A.mods A.specs A.qE es (aq5 x A.mods A.specs A.qE es) _ ⟨hl,HA2.out _ (hS.arl (fun y hy=>by simp [hy]))⟩ (auq _ _ _ _ _)) hS ?_;clear hS;intro w hS)|refine s0 ?_|(refine s1 ?_;clear hS;intro w hS)|(refine s2 ?_;clear hS;intro g w hS)|(refine s4 ?_;clear hS;intro g cur cw w hw hcw hS)|(refine s3 ?_ ?_<;>intro hb<;>(try subst hb)<;>(try (exfalso;first|omega|exact Bool.noConfusion hb))))
 all_goals refine res2 hS ?_
 ·have e:ad6 s=none:=by rw [HP.out,if_neg (fun h=>h.1 (List.isEmpty_iff.1 (by assumption)))]
  exact ⟨aqY,by rw [e];rfl,fun _=>rfl,fun a h=>(by rw [e] at h;cases h),hS.below⟩
 ·have h2:=asQ ‹(!aeh A==s)=true›
  have e:ad6 s=none:=by rw [HP.out,if_neg (fun h=>by rw [h.2] at h2;simp at h2)]
  exact ⟨aqY,by rw [e];rfl,fun _=>rfl,fun a h=>(by rw [e] at h;cases h),hS.below⟩
 ·have h2:=eq_of_beq (aro ‹(!aeh A==s)=false›)
  have h1:= ‹List.isEmpty s=false›
  have e:ad6 s=some A:=by rw [HP.out,if_pos ⟨fun h=>(by rw [h] at h1;cases h1),h2⟩]
  refine ⟨x,by rw [e];rfl,fun h=>(by rw [e] at h;cases h),fun a h=> ?_,hS.below⟩
  rw [e] at h
  obtain rfl:=Option.some.inj h
  exact ⟨HX.out,es,fun w2 hk=>HA2.out w2 (aep.more hS (fun y hy=>by simp [hy]) hk)⟩
end Go.Proofs.YtdicgggkdmkklaaGreatDoor
namespace Go.Proofs.YtdicgggkdmkklaaGreatDoor
attribute [local irreducible] wpList Code.wp Calls dh fK aej
open Go.ChangeShapes Go.WideShapes Go.RowKit
theorem auJ {x:Ax} {mods:List Md} {specs:List Sp} {qE:List Ef} (h:(x.kind==3)=false∨¬specs.length=0∨aej (x.ab mods specs qE)=false∨(qE.all fun e=>e.op==14)=false):aqN (x.ab mods specs qE)=false:=by
 unfold aqN
 rcases h with h|h|h|h
 ·rw [show ((x.ab mods specs qE).k==3)=false from h];rfl
 ·rw [decide_eq_false (show ¬(x.ab mods specs qE).specs.length=0 from h)];simp
 ·rw [h];simp
 ·rw [show ((x.ab mods specs qE).qE.all fun e=>e.op==14)=false from h];simp
theorem aAg {x:Ax} {mods:List Md} {specs:List Sp} {qE:List Ef} (h1:(x.kind==3)=true) (h2:specs.length=0) (h3:aej (x.ab mods specs qE)=true) (h4:(qE.all fun e=>e.op==14)=true):aqN (x.ab mods specs qE)=true:=by
 unfold aqN
 rw [show ((x.ab mods specs qE).k==3)=true from h1,decide_eq_true (show (x.ab mods specs qE).specs.length=0 from h2),h3,show ((x.ab mods specs qE).qE.all fun e=>e.op==14)=true from h4];rfl
theorem awx (x:Ax) (mods:List Md) (specs:List Sp) (qE:List Ef) (es:List EV) (L:World→Prop) [ajO:tX L x mods specs qE es] (w0:World) (hl:L w0) (hk:∀w1 w2,L w1→Below w1.heap.size w1 w2→L w2):
 Calls Tryz.prog 15 #[.agg (Ax.cells x)] w0 fun e w'=>e= .returned (.bool (aqN (x.ab mods specs qE)))∧Below w0.heap.size w0 w':=by
 have HM:=Lib.hid (ajO.h _ hl).at_.mn
 have HN:=Lib.hid (ajO.h _ hl).at_.sn
 have HEN:=Lib.hid (ajO.h _ hl).at_.en
 have H9:=Lib.hid (ajO.h _ hl).at_.aAb
 have zA:=Lib.hid (ajO.h _ hl).at_.ee
 have hmx:x.specs.n<100000000:=by rw [HN.out];exact (ajO.h _ hl).at_.sl
 have hex:x.qE.n<1000000:=by rw [HEN.out];exact (ajO.h _ hl).at_.el
 have i1:=ajO.aEp
 have i2:=ajO.sM
 have i3:=ajO.sT
 have i4:=ajO.sL
 have i5:=ajO.aym
 have i6:=ajO.aAN
 have i7:=ajO.cIs hk
 have hS:=St.start hl hk
 cases h3:x.kind==3 with
 |false=>
  have h3n:(x.kind != 3)=true:=by rw [bne,h3];rfl
  go_in
  go_wp2_with (first|(have hq:=iE;subst hq)|(have hq:=sE;subst hq)|refine s0 ?_|(refine s1 ?_;clear hS;intro w hS)|(refine s2 ?_;clear hS;intro g w hS)|(refine s4 ?_;clear hS;intro g cur cw w hw hcw hS)|(refine s3 ?_ ?_<;>intro hb<;>(try subst hb)<;>(try (exfalso;first|omega|exact Bool.noConfusion hb))))
  all_goals go_ret
  all_goals exact ⟨aX (auJ (.inl h3)).symm,hS.below⟩
 |true=>
  have h3n:(x.kind != 3)=false:=by rw [bne,h3];rfl
  by_cases h0:x.specs.n=0
  ·cases hv:aej (x.ab mods specs qE) with
   |false=>
    go_in
    go_wp2_with (first|(have hq:=iE;subst hq)|(have hq:=sE;subst hq)|refine s0 ?_|(refine s1 ?_;clear hS;intro w hS)|(refine s2 ?_;clear hS;intro g w hS)|(refine s4 ?_;clear hS;intro g cur cw w hw hcw hS)|(refine s3 ?_ ?_<;>intro hb<;>(try subst hb)<;>(try (exfalso;first|omega|exact Bool.noConfusion hb))))
    all_goals go_ret
    all_goals exact ⟨aX (auJ (.inr (.inr (.inl hv)))).symm,hS.below⟩
   |true=>
    have HY:=Lib.hid (fun h4=>aAg (mods:=mods) (qE:=qE) h3 (by rw [←HN.out];exact h0:specs.length=0) hv h4)
    have HZ:=Lib.hid (fun h4=>auJ (x:=x) (mods:=mods) (specs:=specs) (qE:=qE) (.inr (.inr (.inr h4))))
    obtain ⟨R,hR⟩:∃R,aqN (x.ab mods specs qE)=R:=⟨_,rfl⟩
    rw [hR] at HY HZ ⊢
    clear hR
    have h00:¬(0:Int)<(x.specs.n:Int):=by omega
    go_in
    go_wp2_with (first|(have hq:=iE;subst hq)|(have hq:=sE;subst hq)|refine s0 ?_|(refine s1 ?_;clear hS;intro w hS)|(refine s2 ?_;clear hS;intro g w hS)|(refine s4 ?_;clear hS;intro g cur cw w hw hcw hS)|(refine s3 ?_ ?_<;>intro hb<;>(try subst hb)<;>(try (exfalso;first|omega|exact Bool.noConfusion hb))))
    generalize hea:x.qE.a=ea
    generalize g=ga at *
    go_loopw [22] (fun iv wr=>∃j:Nat,j≤x.qE.n∧iv= .int .i64 j∧Hid (((es.take j).all fun p=>p.1.op==14)=true)∧Hid (St L w0 [(ga,Ax.cells x,39)] wr)) (fun iv _=>x.qE.n - (intOf iv).toNat)
    case atStart=>exact ⟨0,by omega,rfl,Lib.hid rfl,Lib.hid hS⟩
    case round=>
     clear hS
     obtain ⟨j,hj,rfl,HV,HS⟩:=hrel
     have hS:=HS.out
     clear HS
     by_cases hlt:j<x.qE.n
     ·have hle:j<es.length:=by rw [←HEN.out];exact hlt
      obtain ⟨p,hp⟩:∃p,es[j]? =some p:=⟨es[j],List.getElem?_eq_getElem hle⟩
      obtain ⟨b1,o1,hA1⟩:=(ajO.h _ hS.laid).at_.ea.zB hle
      obtain rfl:=hea.symm.trans hA1
      have HP:=Lib.hid hp
      have HQ:Hid (∀w,L w→w.rangeAt b1 (o1+j * 64) (Em.cells (p.1.at p.2)).toList):=Lib.hid fun w h=>by
       have h:=(ajO.h w h).at_.ea
       rw [hA1] at h
       exact h.row HP
      clear hp hle hea hA1
      have hji:(j:Int)<x.qE.n:=by omega
      go_wp2_with (first|(have hq:=iE;subst hq)|(have hq:=sE;subst hq)|((with_reducible refine aC (T:=kZ) ?_);refine jk kZ rfl rfl rfl (HQ.out _ hS.laid) Tryz.underlying67 rfl kY ?_;(try simp only [ah,ak,au,ay,aA]))|refine s0 ?_|(refine s1 ?_;clear hS;intro w hS)|(refine s2 ?_;clear hS;intro g w hS)|(refine s4 ?_;clear hS;intro g cur cw w hw hcw hS)|(refine s3 ?_ ?_<;>intro hb<;>(try subst hb)<;>(try (exfalso;first|omega|exact Bool.noConfusion hb))))
      all_goals first
       |(go_ret
         refine ⟨aX ?_,hS.below⟩
         rw [HZ.out (by rw [←zA.out,List.all_map];exact awE (P:=fun p=>p.1.op==14) HP.out (by first|assumption|exact beq_eq_false_iff_ne.2 (by assumption)|exact asQ (by assumption)))])
       |(go_roundw
         case rel=>exact ⟨j+1,by omega,by go_num,Lib.hid (arf (P:=fun p=>p.1.op==14) HV.out HP.out (by first|assumption|exact beq_iff_eq.2 (by assumption)|exact aro (by assumption))),Lib.hid hS.tail⟩
         case measure=>simp [intOf];omega)
     ·clear hea
      have awL:j=x.qE.n:=by omega
      have aEe:¬(j:Int)<x.qE.n:=by omega
      have H4:=Lib.hid (HY.out (by
       have h:=HV.out
       rw [awL,HEN.out,List.take_length] at h
       rw [←zA.out,List.all_map];exact h))
      clear awL
      go_wp2_with (first|(have hq:=iE;subst hq)|(have hq:=sE;subst hq)|refine s0 ?_|(refine s1 ?_;clear hS;intro w hS)|(refine s2 ?_;clear hS;intro g w hS)|(refine s4 ?_;clear hS;intro g cur cw w hw hcw hS)|(refine s3 ?_ ?_<;>intro hb<;>(try subst hb)<;>(try (exfalso;first|omega|exact Bool.noConfusion hb))))
      all_goals go_ret
      all_goals exact ⟨aX H4.out.symm,hS.below⟩
  ·have h00:(0:Int)<(x.specs.n:Int):=by omega
   go_in
   go_wp2_with (first|(have hq:=iE;subst hq)|(have hq:=sE;subst hq)|refine s0 ?_|(refine s1 ?_;clear hS;intro w hS)|(refine s2 ?_;clear hS;intro g w hS)|(refine s4 ?_;clear hS;intro g cur cw w hw hcw hS)|(refine s3 ?_ ?_<;>intro hb<;>(try subst hb)<;>(try (exfalso;first|omega|exact Bool.noConfusion hb))))
   all_goals go_ret
   all_goals exact ⟨aX (auJ (.inr (.inl (by rw [←HN.out];exact h0)))).symm,hS.below⟩
end Go.Proofs.YtdicgggkdmkklaaGreatDoor
namespace Go.Proofs.YtdicgggkdmkklaaGreatDoor
open Go.ChangeShapes Go.WideShapes Go.RowKit
section
variable {L:World→Prop} {w0 w:World} {rows:List Row} {ops:Array Oper} {rest:List Oper} {o:Oper} {a:Act} {Q:Exit→Act→World→Prop}
theorem axC {T:Nat} (hT:∃d,Tryz.prog.underlying T=some d∧d.isRow=false) {x:Operand} (ho:o.op= .load T x) {p:Addr} (hx:a.eval x= .pointer (some p)) {v:Value} (hc:w.cell? p=some v):(execOp a.eval o).run Tryz.prog w= .ok (.value v) w:=by
 obtain ⟨d,hu,hd⟩:=hT
 have hagg:(isAgg T).run Tryz.prog w= .ok false w:=by
  unfold isAgg
  rw [Sem.run_bind,run_underlying hu w]
  cases d<;>simp_all
 have hl:(loadVar T p).run Tryz.prog w= .ok v w:=by simp [loadVar,Sem.run_bind,hagg,hc]
 unfold execOp
 simp only [ho,hx,Instr.loadAt,Instr.sureAddr,Sem.run_bind,Sem.run_pure,Result.andThen_ok,hl]
theorem asL {T:Nat} (hT:∃d,Tryz.prog.underlying T=some d∧d.isRow=false) {x:Operand} (ho:o.op= .load T x) (hw:Region.wanted o (yielded ops a.tmps)=true) {p:Addr} (hx:a.eval x= .pointer (some p)) {v:Value} (hc:w.cell? p=some v)
 (h:wpList Tryz.prog ops Q rest (a.put o.dst v) w):wpList Tryz.prog ops Q (o::rest) a w:=
 jc hw fun K hK=>by
  unfold Oper.wp
  rw [axC hT ho hx hc]
  exact hK _ _ h
end
theorem aEP:∃d,Tryz.prog.underlying 3=some d∧d.isRow=false:=⟨_,Tryz.underlying3,rfl⟩
theorem azq:∃d,Tryz.prog.underlying 4=some d∧d.isRow=false:=⟨_,Tryz.underlying4,rfl⟩
end Go.Proofs.YtdicgggkdmkklaaGreatDoor
namespace Go.Proofs.YtdicgggkdmkklaaGreatDoor
open Go.ChangeShapes Go.WideShapes Go.RowKit
def awm:Str:=[117,115,101,32,123,49,82,44,32,116,97,112,125,32,91,112,108,97,121,101,114,32,111,114,32,40,99,114,101,97,116,117,114,101,41,93,58,32,100,97,109,97,103,101,32,116,97,114,103,101,116,49,32,49]
def awn:Str:=[119,104,101,110,32,100,105,101,115,32,40,115,101,108,102,41,32,109,97,121,58,32,100,114,97,119,32,121,111,117,32,49]
def awo:Str:=[117,115,101,32,123,116,97,112,125,58,32,109,97,110,97,32,82]
theorem aBg:∃A p,ad6 awm=some A∧A.k=3∧A.pr.dJ=true∧A.specs=[p]∧p.pl=true∧p.ob=true∧aqN A=false:=
 ⟨aek awm,aoa ([91,112,108,97,121,101,114,32,111,114,32,40,99,114,101,97,116,117,114,101,41,93]),by rw [aod];exact if_pos ⟨by decide,by kernel_rfl⟩,by kernel_rfl,by kernel_rfl,by kernel_rfl,by kernel_rfl,by kernel_rfl,by kernel_rfl⟩
theorem aBh:∃A,ad6 awn=some A∧A.may=true∧A.t.k=3:=
 ⟨aek awn,by rw [aod];exact if_pos ⟨by decide,by kernel_rfl⟩,by kernel_rfl,by kernel_rfl⟩
theorem aBi:∃A,ad6 awo=some A∧aqN A=true:=
 ⟨aek awo,by rw [aod];exact if_pos ⟨by decide,by kernel_rfl⟩,by kernel_rfl⟩
attribute [local irreducible] wpList Code.wp Calls aeh aek ad6 aqN
theorem az3 (w0:World) (hl:aew w0):Calls Tryz.prog 10 #[] w0 fun e w'=>e= .returned (.bool true)∧Below w0.heap.size w0 w':=by
 obtain ⟨A1,p,p1,k1,t1,s1,pl,ob,m1⟩:=aBg
 obtain ⟨A2,p2,aCH,tk2⟩:=aBh
 obtain ⟨A3,p3,m3⟩:=aBi
 have P1:=Lib.hid p1
 have P2:=Lib.hid p2
 have P3:=Lib.hid p3
 have M1:=Lib.hid m1
 have M3:=Lib.hid m3
 have F1:=Lib.hid (And.intro k1 (And.intro t1 (And.intro s1 (And.intro pl ob))))
 have F2:=Lib.hid (And.intro aCH tk2)
 clear p1 p2 p3 m1 m3 k1 t1 s1 pl ob aCH tk2
 have hS:=St.start hl fun _ _ h hb=>h.below hb
 go_in
 go_upto_region 4 with (first|(have hq:=iE;subst hq)|(have hq:=sE;subst hq)|(go_at_call 17;refine (anp awm (by decide) _ hS.laid).mono ?_;rintro e w1 ⟨x1,rfl,_,hx1,hb⟩;obtain ⟨hx1,es1,HA1⟩:=hx1 A1 P1.out;rw [show BN (ad6 awm).isSome=0 by rw [P1.out];rfl];have hS2:=hS.all hb;clear hS;revert HA1 hS2;generalize ajJ _ w1=X1;intro HA1 hS;simp only [List.cons_append,List.append_assoc,List.nil_append] at hS;have HX1:=Lib.hid hx1;have HK1:=Lib.hid HA1;clear hb hx1 HA1)|(go_at_call 17;refine (anp awn (by decide) _ hS.laid).mono ?_;rintro e w1 ⟨x2,rfl,_,hx2,hb⟩;obtain ⟨hx2,es2,HA2⟩:=hx2 A2 P2.out;rw [show BN (ad6 awn).isSome=0 by rw [P2.out];rfl];have hS2:=hS.all hb;clear hS;revert HA2 hS2;generalize ajJ _ w1=X2;intro HA2 hS;simp only [List.cons_append,List.append_assoc,List.nil_append] at hS;have VR:=Lib.hid hx2;have VO:=Lib.hid HA2;clear hb hx2 HA2)|(go_at_call 17;refine (anp awo (by decide) _ hS.laid).mono ?_;rintro e w1 ⟨x3,rfl,_,hx3,hb⟩;obtain ⟨hx3,es3,HA3⟩:=hx3 A3 P3.out;rw [show BN (ad6 awo).isSome=0 by rw [P3.out];rfl];have hS2:=hS.all hb;clear hS;revert HA3 hS2;generalize ajJ _ w1=X3;intro HA3 hS;simp only [List.cons_append,List.append_assoc,List.nil_append] at hS;have HX3:=Lib.hid hx3;have HK3:=Lib.hid HA3;clear hb hx3 HA3)|refine s0 ?_|(refine s1 ?_;clear hS;intro w hS)|(refine s2 ?_;clear hS;intro g w hS)|(refine s4 ?_;clear hS;intro g cur cw w hw hcw hS)|(refine s3 ?_ ?_<;>intro hb<;>(try subst hb)<;>(try (exfalso;first|omega|exact Bool.noConfusion hb))))
 have hK1:=HK1.out _ (hS.arl (fun y hy=>by simp [hy]))
 obtain ⟨k1,t1,s1,pl,ob⟩:=F1.out
 have e1:x1.kind=3:=(congrArg Ab.k HX1.out).trans k1
 have e2:x1.pr.dJ=true:=(congrArg (fun a=>a.pr.dJ) HX1.out).trans t1
 have e3:x1.specs.n=1:=by rw [hK1.sn,s1];rfl
 have e4:x2.may=true:=(congrArg Ab.may VR.out).trans F2.out.1
 have e5:x2.t.k=3:=(congrArg (fun a=>a.t.k) VR.out).trans F2.out.2
 obtain ⟨b1,o1,e6⟩:=hK1.sa.zB (k:=0) (by rw [s1];simp)
 have HQ:Hid (∀w,aep X1 w→w.cell? ⟨b1,o1,none⟩=some (.bool true)∧w.cell? ⟨b1,o1+1,none⟩=some (.bool true)):=Lib.hid fun w hw=>by
  have h:=(HK1.out w hw).sa
  rw [e6] at h
  have h2:=h.row (k:=0) (s:=p) (Lib.hid (by rw [s1];rfl))
  refine ⟨?_,?_⟩
  ·have:=h2 0 (.bool p.pl) rfl
   rw [pl] at this
   simpa using this
  ·have:=h2 1 (.bool p.ob) rfl
   rw [ob] at this
   simpa using this
 clear hK1 k1 t1 s1 pl ob
 go_wp2_with (first|(have hq:=iE;subst hq)|(have hq:=sE;subst hq)|((with_reducible refine aC (T:=4) ?_);refine asL azq rfl rfl rfl ((HQ.out _ (hS.arl (fun y hy=>by simp [hy]))).1) ?_;(try simp only [ah,ak,au,ay,aA]))|((with_reducible refine aC (T:=4) ?_);refine asL azq rfl rfl rfl ((HQ.out _ (hS.arl (fun y hy=>by simp [hy]))).2) ?_;(try simp only [ah,ak,au,ay,aA]))|(go_at_call 15;refine c_call (v:= .bool false) (fun hl=>(by have h:=awx x1 A1.mods A1.specs A1.qE es1 (aq5 x1 A1.mods A1.specs A1.qE es1) _ ⟨hl,HK1.out _ (hS.arl (fun y hy=>by simp [hy]))⟩ (auq _ _ _ _ _);rw [HX1.out,M1.out] at h;exact h)) hS ?_;clear hS;intro w hS)|(go_at_call 15;refine c_call (v:= .bool true) (fun hl=>(by have h:=awx x3 A3.mods A3.specs A3.qE es3 (aq5 x3 A3.mods A3.specs A3.qE es3) _ ⟨hl,HK3.out _ (hS.arl (fun y hy=>by simp [hy]))⟩ (auq _ _ _ _ _);rw [HX3.out,M3.out] at h;exact h)) hS ?_;clear hS;intro w hS)|refine s0 ?_|(refine s1 ?_;clear hS;intro w hS)|(refine s2 ?_;clear hS;intro g w hS)|(refine s4 ?_;clear hS;intro g cur cw w hw hcw hS)|(refine s3 ?_ ?_<;>intro hb<;>(try subst hb)<;>(try (exfalso;first|omega|exact Bool.noConfusion hb))))
 all_goals go_ret
 all_goals exact ⟨aX (by first|rfl|simp),hS.below⟩
instance aEs {L':World→Prop} [Sub L' aew]:mG 10 #[] L' (.bool true):=⟨fun w hl=>az3 w (Sub.sub w hl)⟩
end Go.Proofs.YtdicgggkdmkklaaGreatDoor
