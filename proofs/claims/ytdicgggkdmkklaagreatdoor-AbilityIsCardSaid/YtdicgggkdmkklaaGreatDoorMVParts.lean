/- Walks: the reference of chapter 20: PriceText. Conditions: Laid. -/
import Derived.Test.YtdicgggkdmkklaaGreatDoorMVPrice
set_option linter.all false
set_option maxRecDepth 100000
set_option maxHeartbeats 16000000
namespace Go.Proofs.YtdicgggkdmkklaaGreatDoor
attribute [local irreducible] wpList Code.wp Calls dh fK
open Go.ChangeShapes Go.WideShapes Go.RowKit
theorem azt (m:Co) (dJ fM:Bool) (life:Int) (w0:World) (hl:Laid w0):Calls Tryz.prog 23 #[.agg (Pr.cells ⟨m,dJ,fM,life⟩)] w0 fun e w'=>e= .returned (.string (B (LX ⟨m,dJ,fM,life⟩)))∧Below w0.heap.size w0 w':=by
 have hS:=St.start hl fun _ _ h hb=>h.below hb
 cases hv:aeF ⟨m,dJ,fM,life⟩ with
 |true=>
  obtain ⟨_,_,h0,h1⟩:=aA5 hv
  have:SQ life:=⟨by omega,by omega⟩
  go_in
  go_upto_if 10 with (first|(have hq:=iE;subst hq)|(have hq:=sE;subst hq)|refine s0 ?_|(refine s1 ?_;clear hS;intro w hS)|(refine s2 ?_;clear hS;intro g w hS)|(refine s4 ?_;clear hS;intro g cur cw w hw hcw hS)|(refine s6 ?_;clear hS;intro g w hS)|(refine s8 ?_;clear hS;intro A c wr w hW hS)|(refine s5 ?_;clear hS;intro A c wr w hW hS)|(refine s3 ?_ ?_<;>intro hb<;>(try subst hb)<;>(try (exfalso;first|omega|exact Bool.noConfusion hb))))
  go_cut [0,3] from 4 to 43 (fun av lv wc=>av= .agg (Pr.cells ⟨m,dJ,fM,life⟩)∧akj Laid w0 [(g,Pr.cells ⟨m,dJ,fM,life⟩,31)] (opt (!uU m dQ) (iy m)) 1 lv wc)
  case first=>
   as_aux_lemma=>
   cases hz:uU m dQ
   all_goals
    go_wp2_with (first|(have hq:=iE;subst hq)|(have hq:=sE;subst hq)|refine s0 ?_|(refine s1 ?_;clear hS;intro w hS)|(refine s2 ?_;clear hS;intro g w hS)|(refine s4 ?_;clear hS;intro g cur cw w hw hcw hS)|(refine s6 ?_;clear hS;intro g w hS)|(refine s8 ?_;clear hS;intro A c wr w hW hS)|(refine s5 ?_;clear hS;intro A c wr w hW hS)|(refine s3 ?_ ?_<;>intro hb<;>(try subst hb)<;>(try (exfalso;first|omega|exact Bool.noConfusion hb))))
   all_goals go_meet
   all_goals first|exact ⟨rfl,akj.one hW hS (by simp [hz])⟩|exact ⟨rfl,akj.nil hS (by simp [hz])⟩
  case rest=>
  as_aux_lemma=>
  clear hS
  obtain ⟨rfl,l,A,c,wr,hE,hn,rfl,HW,HS⟩:=hcut
  have hW:=HW.out
  have hS:=HS.out
  clear HW HS
  go_upto_if 18 with (first|(have hq:=iE;subst hq)|(have hq:=sE;subst hq)|refine s0 ?_|(refine s1 ?_;clear hS;intro w hS)|(refine s2 ?_;clear hS;intro g w hS)|(refine s4 ?_;clear hS;intro g cur cw w hw hcw hS)|(refine s6 ?_;clear hS;intro g w hS)|(refine s8 ?_;clear hS;intro A c wr w hW hS)|(refine s5 ?_;clear hS;intro A c wr w hW hS)|(refine s3 ?_ ?_<;>intro hb<;>(try subst hb)<;>(try (exfalso;first|omega|exact Bool.noConfusion hb))))
  go_cut [0,3] from 4 to 43 (fun av lv wc=>av= .agg (Pr.cells ⟨m,dJ,fM,life⟩)∧akj Laid w0 [(g,Pr.cells ⟨m,dJ,fM,life⟩,31)] (opt (!uU m dQ) (iy m)++opt (dJ) (aqV)) 2 lv wc)
  case first=>
   as_aux_lemma=>
   go_wp2_with (first|(have hq:=iE;subst hq)|(have hq:=sE;subst hq)|refine s0 ?_|(refine s1 ?_;clear hS;intro w hS)|(refine s2 ?_;clear hS;intro g w hS)|(refine s4 ?_;clear hS;intro g cur cw w hw hcw hS)|(refine s6 ?_;clear hS;intro g w hS)|(refine s8 ?_;clear hS;intro A c wr w hW hS)|(refine s5 ?_;clear hS;intro A c wr w hW hS)|(refine s3 ?_ ?_<;>intro hb<;>(try subst hb)<;>(try (exfalso;first|omega|exact Bool.noConfusion hb))))
   all_goals go_meet
   all_goals first|exact ⟨by simp [*],akj.put hE hn hW hS (by simp [*])⟩|exact ⟨by simp [*],akj.stay hE hn hW hS (by simp [*])⟩
  case rest=>
  as_aux_lemma=>
  clear hS hW hE hn
  obtain ⟨rfl,l,A,c,wr,hE,hn,rfl,HW,HS⟩:=hcut
  have hW:=HW.out
  have hS:=HS.out
  clear HW HS
  go_upto_if 23 with (first|(have hq:=iE;subst hq)|(have hq:=sE;subst hq)|refine s0 ?_|(refine s1 ?_;clear hS;intro w hS)|(refine s2 ?_;clear hS;intro g w hS)|(refine s4 ?_;clear hS;intro g cur cw w hw hcw hS)|(refine s6 ?_;clear hS;intro g w hS)|(refine s8 ?_;clear hS;intro A c wr w hW hS)|(refine s5 ?_;clear hS;intro A c wr w hW hS)|(refine s3 ?_ ?_<;>intro hb<;>(try subst hb)<;>(try (exfalso;first|omega|exact Bool.noConfusion hb))))
  go_cut [0,3] from 4 to 43 (fun av lv wc=>av= .agg (Pr.cells ⟨m,dJ,fM,life⟩)∧akj Laid w0 [(g,Pr.cells ⟨m,dJ,fM,life⟩,31)] (opt (!uU m dQ) (iy m)++opt (dJ) (aqV)++opt (fM) (ard)) 3 lv wc)
  case first=>
   as_aux_lemma=>
   go_wp2_with (first|(have hq:=iE;subst hq)|(have hq:=sE;subst hq)|refine s0 ?_|(refine s1 ?_;clear hS;intro w hS)|(refine s2 ?_;clear hS;intro g w hS)|(refine s4 ?_;clear hS;intro g cur cw w hw hcw hS)|(refine s6 ?_;clear hS;intro g w hS)|(refine s8 ?_;clear hS;intro A c wr w hW hS)|(refine s5 ?_;clear hS;intro A c wr w hW hS)|(refine s3 ?_ ?_<;>intro hb<;>(try subst hb)<;>(try (exfalso;first|omega|exact Bool.noConfusion hb))))
   all_goals go_meet
   all_goals first|exact ⟨by simp [*],akj.put hE hn hW hS (by simp [*])⟩|exact ⟨by simp [*],akj.stay hE hn hW hS (by simp [*])⟩
  case rest=>
  as_aux_lemma=>
  clear hS hW hE hn
  obtain ⟨rfl,l,A,c,wr,hE,hn,rfl,HW,HS⟩:=hcut
  have hW:=HW.out
  have hS:=HS.out
  clear HW HS
  go_upto_if 29 with (first|(have hq:=iE;subst hq)|(have hq:=sE;subst hq)|refine s0 ?_|(refine s1 ?_;clear hS;intro w hS)|(refine s2 ?_;clear hS;intro g w hS)|(refine s4 ?_;clear hS;intro g cur cw w hw hcw hS)|(refine s6 ?_;clear hS;intro g w hS)|(refine s8 ?_;clear hS;intro A c wr w hW hS)|(refine s5 ?_;clear hS;intro A c wr w hW hS)|(refine s3 ?_ ?_<;>intro hb<;>(try subst hb)<;>(try (exfalso;first|omega|exact Bool.noConfusion hb))))
  go_cut [0,3] from 4 to 43 (fun av lv wc=>av= .agg (Pr.cells ⟨m,dJ,fM,life⟩)∧akj Laid w0 [(g,Pr.cells ⟨m,dJ,fM,life⟩,31)] (opt (!uU m dQ) (iy m)++opt (dJ) (aqV)++opt (fM) (ard)++opt (!(life==0)) (ane++Lib.itoa life)) 4 lv wc)
  case first=>
   as_aux_lemma=>
   cases hz:(life==0)
   all_goals
    go_wp2_with (first|(have hq:=iE;subst hq)|(have hq:=sE;subst hq)|refine s0 ?_|(refine s1 ?_;clear hS;intro w hS)|(refine s2 ?_;clear hS;intro g w hS)|(refine s4 ?_;clear hS;intro g cur cw w hw hcw hS)|(refine s6 ?_;clear hS;intro g w hS)|(refine s8 ?_;clear hS;intro A c wr w hW hS)|(refine s5 ?_;clear hS;intro A c wr w hW hS)|(refine s3 ?_ ?_<;>intro hb<;>(try subst hb)<;>(try (exfalso;first|omega|exact Bool.noConfusion hb))))
   all_goals go_meet
   all_goals first|exact ⟨by simp [*],akj.put hE hn hW hS (by simp [*])⟩|exact ⟨by simp [*],akj.stay hE hn hW hS (by simp [*])⟩
  case rest=>
  as_aux_lemma=>
  clear hS hW hE hn
  obtain ⟨rfl,l,A,c,wr,hE,hn,rfl,HW,HS⟩:=hcut
  have hW:=HW.out
  have hS:=HS.out
  clear HW HS
  have hpp:akd ⟨m,dJ,fM,life⟩=l:=by rw [hE.out];simp [akd]
  by_cases hl0:l=[]
  ·subst hl0
   go_wp2_with (first|(have hq:=iE;subst hq)|(have hq:=sE;subst hq)|refine s0 ?_|(refine s1 ?_;clear hS;intro w hS)|(refine s2 ?_;clear hS;intro g w hS)|(refine s4 ?_;clear hS;intro g cur cw w hw hcw hS)|(refine s6 ?_;clear hS;intro g w hS)|(refine s8 ?_;clear hS;intro A c wr w hW hS)|(refine s5 ?_;clear hS;intro A c wr w hW hS)|(refine s3 ?_ ?_<;>intro hb<;>(try subst hb)<;>(try (exfalso;first|omega|exact Bool.noConfusion hb))))
   go_ret
   refine ⟨dL ?_,hS.below⟩
   clear hS
   simp [LX,ajK,hv,hpp,iK,Lib.join]
  ·have hne:¬((l.length:Int)=0):=by have:=List.length_pos_iff.2 hl0;omega
   have hTT:=auC hpp
   have:Len (Lib.join l [44,32]) 20100:=⟨by have h1:=aq2 [44,32] (by decide) l;have h2:=hTT.le;omega⟩
   go_wp2_with (first|(have hq:=iE;subst hq)|(have hq:=sE;subst hq)|(go_at_call 66;refine aBk hS hW (by repeat (first|assumption|constructor)) (by decide) hTT (by rfl) ?_)|refine s0 ?_|(refine s1 ?_;clear hS;intro w hS)|(refine s2 ?_;clear hS;intro g w hS)|(refine s4 ?_;clear hS;intro g cur cw w hw hcw hS)|(refine s6 ?_;clear hS;intro g w hS)|(refine s8 ?_;clear hS;intro A c wr w hW hS)|(refine s5 ?_;clear hS;intro A c wr w hW hS)|(refine s3 ?_ ?_<;>intro hb<;>(try subst hb)<;>(try (exfalso;first|omega|exact Bool.noConfusion hb))))
   go_ret
   refine ⟨dL ?_,hS.below⟩
   clear hS
   simp [LX,ajK,hv,hpp,hl0,iK]
 |false=>
  go_in
  go_wp2_with (first|(have hq:=iE;subst hq)|(have hq:=sE;subst hq)|refine s0 ?_|(refine s1 ?_;clear hS;intro w hS)|(refine s2 ?_;clear hS;intro g w hS)|(refine s4 ?_;clear hS;intro g cur cw w hw hcw hS)|(refine s6 ?_;clear hS;intro g w hS)|(refine s8 ?_;clear hS;intro A c wr w hW hS)|(refine s5 ?_;clear hS;intro A c wr w hW hS)|(refine s3 ?_ ?_<;>intro hb<;>(try subst hb)<;>(try (exfalso;first|omega|exact Bool.noConfusion hb))))
  all_goals go_ret
  all_goals exact ⟨dL (by simp [LX,hv]),hS.below⟩
instance aD8 {L':World→Prop} [Sub L' Laid] (p:Pr):mG 23 #[.agg (Pr.cells p)] L' (.string (B (LX p))):=⟨fun w hl=>azt p.aeC p.dJ p.fM p.life w (Sub.sub w hl)⟩
end Go.Proofs.YtdicgggkdmkklaaGreatDoor
