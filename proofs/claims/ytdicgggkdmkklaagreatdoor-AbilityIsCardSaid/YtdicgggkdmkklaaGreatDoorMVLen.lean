/- Abilities in memory as handed in: lists of any length. Conditions: none. Plain words: how long an ability's text is; an ability of one kind as one of another kind. No program in sight. Abilities ha -/
import Derived.Test.YtdicgggkdmkklaaGreatDoorMVArg
import Derived.Test.YtdicgggkdmkklaaGreatDoorMVText
import Derived.Test.YtdicgggkdmkklaaGreatDoorMEAlive
set_option linter.all false
set_option maxRecDepth 100000
set_option maxHeartbeats 16000000
namespace Go.Proofs.YtdicgggkdmkklaaGreatDoor
open Go.ChangeShapes Go.WideShapes Go.RowKit
structure asf (x:Ax) (mods:List Md) (specs:List Sp) (es:List EV) (w:World):Prop where
 mn:x.mods.n=mods.length
 ml:mods.length≤9223372036854775807
 ma:uj x.mods.a mods w
 sn:x.specs.n=specs.length
 sl:specs.length≤9223372036854775807
 sa:aqh x.specs.a specs w
 en:x.qE.n=es.length
 ea:og x.qE.a es w
theorem asf.keep {x:Ax} {mods:List Md} {specs:List Sp} {es:List EV} {w1 w2:World} (h:asf x mods specs es w1) (hb:Below w1.heap.size w1 w2):asf x mods specs es w2:= { h with ma:=h.ma.keep hb,sa:=h.sa.keep hb,ea:=h.ea.keep hb }
def ayk (mods:List Md) (specs:List Sp) (es:List EV):Prop:=mods.length≤20∧specs.length≤20∧es.length≤20∧∀p∈es,p.1.mods.length≤20
theorem asf.few {x:Ax} {mods:List Md} {specs:List Sp} {es:List EV} {w:World} (h:asf x mods specs es w) (hf:ayk mods specs es):anc x mods specs (es.map Prod.fst) es w:=
 ⟨h.mn,by have:=hf.1;omega,h.ma,h.sn,by have:=hf.2.1;omega,h.sa,h.en,by have:=hf.2.2.1;omega,h.ea.few hf.2.2.2,rfl⟩
structure anh (x:Ax) (mods:List Md) (specs:List Sp) (es:List EV) (w:World):Prop where
 v:aew w
 at_:asf x mods specs es w
theorem axS (x:Ax) (mods:List Md) (specs:List Sp) (es:List EV):∀w1 w2:World,anh x mods specs es w1→Below w1.heap.size w1 w2→anh x mods specs es w2:=fun _ _ h hb=>⟨h.v.below hb,h.at_.keep hb⟩
theorem anh.few {x:Ax} {mods:List Md} {specs:List Sp} {es:List EV} {w:World} (h:anh x mods specs es w) (hf:ayk mods specs es):aq5 x mods specs (es.map Prod.fst) es w:=⟨h.v,h.at_.few hf⟩
theorem aww {x:Ax} {mods:List Md} {specs:List Sp} {qE:List Ef} {es:List EV} {w:World} (v:aew w) (h:anc x mods specs qE es w):Calls Tryz.prog 11 #[.agg (Ax.cells x)] w fun e w'=>e= .returned (.bool (aej (x.ab mods specs qE)))∧Below w.heap.size w w':=
 ayW x mods specs qE es (aq5 x mods specs qE es) w ⟨v,h⟩ (auq _ _ _ _ _)
theorem avd {x:Ax} {mods:List Md} {specs:List Sp} {qE:List Ef} {es:List EV} {w:World} (v:aew w) (h:anc x mods specs qE es w):Calls Tryz.prog 13 #[.agg (Ax.cells x)] w fun e w'=>e= .returned (.string (B (aeh (x.ab mods specs qE))))∧Below w.heap.size w w':=
 awD x mods specs qE es (aq5 x mods specs qE es) w ⟨v,h⟩ (auq _ _ _ _ _)
theorem aCd {x:Ax} {mods:List Md} {specs:List Sp} {qE:List Ef} {es:List EV} {w:World} (v:aew w) (h:anc x mods specs qE es w):Calls Tryz.prog 15 #[.agg (Ax.cells x)] w fun e w'=>e= .returned (.bool (aqN (x.ab mods specs qE)))∧Below w.heap.size w w':=
 awx x mods specs qE es (aq5 x mods specs qE es) w ⟨v,h⟩ (auq _ _ _ _ _)
theorem anc.kind {x:Ax} {mods:List Md} {specs:List Sp} {qE:List Ef} {es:List EV} {w:World} (h:anc x mods specs qE es w) (k:Int):anc ⟨k,x.f,x.mods,x.pr,x.slow,x.t,x.may,x.specs,x.qE,x.r⟩ mods specs qE es w:=⟨h.mn,h.ml,h.ma,h.sn,h.sl,h.sa,h.en,h.el,h.ea,h.ee⟩
end Go.Proofs.YtdicgggkdmkklaaGreatDoor
namespace Go.Proofs.YtdicgggkdmkklaaGreatDoor
attribute [local irreducible] wpList Code.wp Calls
open Go.ChangeShapes Go.WideShapes Go.RowKit
def LtP (F:Prop) (e:Ending):Prop:=∃b,e= .returned (.bool b)∧(b=true→F)
theorem aw2 (x:Ax) (mods:List Md) (specs:List Sp) (es:List EV) (w0:World) (hl:anh x mods specs es w0):Calls Tryz.prog 9 #[.agg (Ax.cells x)] w0 fun e w'=>LtP (ayk mods specs es) e∧Below w0.heap.size w0 w':=by
 have HM:=Lib.hid hl.at_.mn
 have HN:=Lib.hid hl.at_.sn
 have HE:=Lib.hid hl.at_.en
 have hm1:x.mods.n≤9223372036854775807:=by rw [HM.out];exact hl.at_.ml
 have hs1:x.specs.n≤9223372036854775807:=by rw [HN.out];exact hl.at_.sl
 have he1:x.qE.n≤9223372036854775807:=by rw [HE.out];exact hl.at_.ea.2.1
 have hS:=St.start hl (axS _ _ _ _)
 go_in
 go_wp2_with (first|(have hq:=iE;subst hq)|(have hq:=sE;subst hq)|(go_at_call 24;have HLI:=Lib.hid (show Calls Tryz.prog 24 #[.slice x.qE.a x.qE.n x.qE.c] w _ by rw [HE.out];exact CU es x.qE.a x.qE.c _ hS.laid.at_.ea);refine HLI.out.mono ?_;rintro e w1 ⟨⟨b,rfl,h20⟩,hb⟩;have hS2:=hS.mono hb;clear hS HLI;have hS:=hS2;have H20:=Lib.hid h20;clear hb h20 hS2;cases b)|refine s0 ?_|(refine s1 ?_;clear hS;intro w hS)|(refine s2 ?_;clear hS;intro g w hS)|(refine s4 ?_;clear hS;intro g cur cw w hw hcw hS)|(refine s3 ?_ ?_<;>intro hb<;>(try subst hb)<;>(try (exfalso;first|omega|exact Bool.noConfusion hb))))
 all_goals first
  |(go_ret;exact ⟨⟨false,rfl,fun h=>by cases h⟩,hS.below⟩)
  |skip
 have HF:Hid (ayk mods specs es):=Lib.hid ⟨by have:=HM.out;omega,by have:=HN.out;omega,(H20.out (by trivial)).1,(H20.out (by trivial)).2⟩
 clear H20
 have aF1:x.mods.n≤20:=by omega
 have aF2:x.specs.n≤20:=by omega
 generalize g=ga at *
 go_loopw [3] (fun iv wr=>∃j:Nat,j≤x.mods.n∧iv= .int .i64 j∧Hid (St (anh x mods specs es) w0 [(ga,Ax.cells x,39)] wr)) (fun iv _=>x.mods.n - (intOf iv).toNat)
 case atStart=>exact ⟨0,by omega,rfl,Lib.hid hS⟩
 case round=>
  clear hS
  obtain ⟨j,hj,rfl,HS⟩:=hrel
  have hS:=HS.out
  clear HS
  by_cases hlt:j<x.mods.n
  ·have hle:j<mods.length:=by rw [←HM.out];exact hlt
   obtain ⟨m,hm⟩:∃m,mods[j]? =some m:=⟨mods[j],List.getElem?_eq_getElem hle⟩
   obtain ⟨b1,o1,hA1⟩:=ad8 hl.at_.ma hle
   have HP:=Lib.hid hm
   have HQ1:Hid (∀w,anh x mods specs es w→w.cell? ⟨b1,o1+j * 20+3,none⟩=some (.string m.sub)):=Lib.hid fun w h=>by
    have h:=h.at_.ma
    rw [hA1] at h
    exact Ou h HP 3 rfl
   have nX:Hid (∀w,anh x mods specs es w→w.cell? ⟨b1,o1+j * 20+11,none⟩=some (.string m.f.sub)):=Lib.hid fun w h=>by
    have h:=h.at_.ma
    rw [hA1] at h
    exact Ou h HP 11 rfl
   clear hm hle
   have hji:(j:Int)<x.mods.n:=by omega
   go_wp2_with (first|(have hq:=iE;subst hq)|(have hq:=sE;subst hq)|((with_reducible refine aC (T:=9) ?_);refine mJ rfl rfl rfl (HQ1.out _ hS.laid) ?_;(try simp only [ah,ak,au,ay,aA]))|((with_reducible refine aC (T:=9) ?_);refine mJ rfl rfl rfl (nX.out _ hS.laid) ?_;(try simp only [ah,ak,au,ay,aA]))|refine s0 ?_|(refine s1 ?_;clear hS;intro w hS)|(refine s2 ?_;clear hS;intro g w hS)|(refine s4 ?_;clear hS;intro g cur cw w hw hcw hS)|(refine s3 ?_ ?_<;>intro hb<;>(try subst hb)<;>(try (exfalso;first|omega|exact Bool.noConfusion hb))))
   all_goals first
    |(go_ret;exact ⟨⟨false,rfl,fun h=>by cases h⟩,hS.below⟩)
    |(go_roundw
      case rel=>exact ⟨j+1,by omega,by go_num,Lib.hid hS⟩
      case measure=>simp [intOf];omega)
  ·have hjx:¬(j:Int)<x.mods.n:=by omega
   go_wp2_with (first|(have hq:=iE;subst hq)|(have hq:=sE;subst hq)|refine s0 ?_|(refine s1 ?_;clear hS;intro w hS)|(refine s2 ?_;clear hS;intro g w hS)|(refine s4 ?_;clear hS;intro g cur cw w hw hcw hS)|(refine s3 ?_ ?_<;>intro hb<;>(try subst hb)<;>(try (exfalso;first|omega|exact Bool.noConfusion hb))))
   go_loopw [4] (fun iv wr=>∃j:Nat,j≤x.specs.n∧iv= .int .i64 j∧Hid (St (anh x mods specs es) w0 [(ga,Ax.cells x,39)] wr)) (fun iv _=>x.specs.n - (intOf iv).toNat)
   case atStart=>exact ⟨0,by omega,rfl,Lib.hid hS⟩
   case round=>
    clear hS
    obtain ⟨j,hj,rfl,HS⟩:=hrel
    have hS:=HS.out
    clear HS
    by_cases hlt:j<x.specs.n
    ·have hle:j<specs.length:=by rw [←HN.out];exact hlt
     obtain ⟨s,hs⟩:∃s,specs[j]? =some s:=⟨specs[j],List.getElem?_eq_getElem hle⟩
     obtain ⟨b1,o1,hA1⟩:=hl.at_.sa.zB hle
     have HP:=Lib.hid hs
     have HQ1:Hid (∀w,anh x mods specs es w→w.cell? ⟨b1,o1+j * 18+9,none⟩=some (.string s.f.sub)):=Lib.hid fun w h=>by
      have h:=h.at_.sa
      rw [hA1] at h
      exact h.row HP 9 _ rfl
     clear hs hle
     have hji:(j:Int)<x.specs.n:=by omega
     go_wp2_with (first|(have hq:=iE;subst hq)|(have hq:=sE;subst hq)|((with_reducible refine aC (T:=9) ?_);refine mJ rfl rfl rfl (HQ1.out _ hS.laid) ?_;(try simp only [ah,ak,au,ay,aA]))|refine s0 ?_|(refine s1 ?_;clear hS;intro w hS)|(refine s2 ?_;clear hS;intro g w hS)|(refine s4 ?_;clear hS;intro g cur cw w hw hcw hS)|(refine s3 ?_ ?_<;>intro hb<;>(try subst hb)<;>(try (exfalso;first|omega|exact Bool.noConfusion hb))))
     all_goals first
      |(go_ret;exact ⟨⟨false,rfl,fun h=>by cases h⟩,hS.below⟩)
      |(go_roundw
        case rel=>exact ⟨j+1,by omega,by go_num,Lib.hid hS⟩
        case measure=>simp [intOf];omega)
    ·have hjx:¬(j:Int)<x.specs.n:=by omega
     go_wp2_with (first|(have hq:=iE;subst hq)|(have hq:=sE;subst hq)|refine s0 ?_|(refine s1 ?_;clear hS;intro w hS)|(refine s2 ?_;clear hS;intro g w hS)|(refine s4 ?_;clear hS;intro g cur cw w hw hcw hS)|(refine s3 ?_ ?_<;>intro hb<;>(try subst hb)<;>(try (exfalso;first|omega|exact Bool.noConfusion hb))))
     all_goals go_ret
     all_goals exact ⟨⟨true,rfl,fun _=>HF.out⟩,hS.below⟩
end Go.Proofs.YtdicgggkdmkklaaGreatDoor
