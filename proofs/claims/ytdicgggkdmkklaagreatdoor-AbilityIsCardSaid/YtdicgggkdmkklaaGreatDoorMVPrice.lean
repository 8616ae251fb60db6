/- Walks: package ability and its reference: PriceText. Conditions: Laid. -/
import Derived.Test.YtdicgggkdmkklaaGreatDoorMVSp
set_option linter.all false
set_option maxRecDepth 100000
set_option maxHeartbeats 16000000
namespace Go.Proofs.YtdicgggkdmkklaaGreatDoor
attribute [local irreducible] wpList Code.wp Calls dh fK
open Go.ChangeShapes Go.WideShapes Go.RowKit
theorem aA5 {m:Co} {dJ fM:Bool} {life:Int} (h:aeF ⟨m,dJ,fM,life⟩=true):kU m=true∧m.x=0∧0≤life∧life≤99:=by
 simpa [aeF] using h
theorem arv (b:Bool) (x:Str):(opt b x).length+((opt b x).map List.length).sum≤1+x.length:=by cases b<;>simp [opt]
theorem auC {m:Co} {dJ fM:Bool} {life:Int} [SQ life] {l:List Str} (h:akd ⟨m,dJ,fM,life⟩=l):arB l 200:=⟨by
 rw [←h]
 have h1:=arv (!uU m dQ) (iy m)
 have h2:=arv dJ aqV
 have h3:=arv fM ard
 have h4:=arv (!(life==0)) (ane++Lib.itoa life)
 have k1:=OB m
 have k2:aqV.length=3:=rfl
 have k3:ard.length=9:=rfl
 have k4:(ane++Lib.itoa life).length≤50:=by have:=(inferInstance:Len (Lib.itoa life) 21).le;simp [ane];omega
 simp only [akd,List.length_append,List.map_append,List.sum_append] at *
 omega⟩
def akj (L:World→Prop) (w0:World) (p:List Row) (e:List Str) (n:Nat) (v:Value) (w:World):Prop:=∃l A c wr,Hid (l=e)∧l.length≤n∧v= .slice A l.length c∧Hid (FB 9 1 YN l A c wr)∧Hid (St L w0 (p++wr) w)
section
variable {L:World→Prop} {w0 w:World} {p:List Row} {l e:List Str} {x:Str} {A:Option Addr} {c n:Nat} {wr:List Row} {r:Row} {b:Bool}
theorem akj.nil (hS:St L w0 p w) (hb:b=false):akj L w0 p (opt b x) 1 (.slice .none 0 0) w:=⟨[], .none,0,[],Lib.hid (by rw [hb];rfl),by simp,rfl,Lib.hid .nil,Lib.hid (by rwa [List.append_nil])⟩
theorem akj.one (hW:FB 9 1 YN [x] A c wr) (hS:St L w0 (r::(p++wr)) w) (hb:b=true):akj L w0 p (opt b x) 1 (.slice A 1 c) w:=
 ⟨[x],A,c,wr,Lib.hid (by rw [hb];rfl),by simp,rfl,Lib.hid hW,Lib.hid hS.tail⟩
theorem akj.put (hE:Hid (l=e)) (hn:l.length≤n) (hW:FB 9 1 YN (l++[x]) A c wr) (hS:St L w0 (r::(p++wr)) w) (hb:b=true):akj L w0 p (e++opt b x) (n+1) (.slice A (l.length+1) c) w:=
 ⟨l++[x],A,c,wr,Lib.hid (by rw [hb,hE.out];rfl),by simpa using hn,by simp,Lib.hid hW,Lib.hid hS.tail⟩
theorem akj.stay (hE:Hid (l=e)) (hn:l.length≤n) (hW:FB 9 1 YN l A c wr) (hS:St L w0 (p++wr) w) (hb:b=false):akj L w0 p (e++opt b x) (n+1) (.slice A l.length c) w:=
 ⟨l,A,c,wr,Lib.hid (by rw [hb,hE.out];simp [opt]),by omega,rfl,Lib.hid hW,Lib.hid hS⟩
end
theorem aAh (m:Co) (dJ fM:Bool) (life:Int) (w0:World) (hl:Laid w0):Calls Tryz.prog 22 #[.agg (Pr.cells ⟨m,dJ,fM,life⟩)] w0 fun e w'=>e= .returned (.string (B (LX ⟨m,dJ,fM,life⟩)))∧Below w0.heap.size w0 w':=by
 have hS:=St.start hl fun _ _ h hb=>h.below hb
 cases hv:aeF ⟨m,dJ,fM,life⟩ with
 |true=>
  obtain ⟨hm,hx,h0,h1⟩:=aA5 hv
  have hx:(m.x==0)=true:=by simpa using hx
  have:SQ life:=⟨by omega,by omega⟩
  go_in
  go_upto_if 27 with (first|(have hq:=iE;subst hq)|(have hq:=sE;subst hq)|refine s0 ?_|(refine s1 ?_;clear hS;intro w hS)|(refine s2 ?_;clear hS;intro g w hS)|(refine s4 ?_;clear hS;intro g cur cw w hw hcw hS)|(refine s6 ?_;clear hS;intro g w hS)|(refine s8 ?_;clear hS;intro A c wr w hW hS)|(refine s5 ?_;clear hS;intro A c wr w hW hS)|(refine s3 ?_ ?_<;>intro hb<;>(try subst hb)<;>(try (exfalso;first|omega|exact Bool.noConfusion hb))))
  go_cut [0,3] from 4 to 61 (fun av lv wc=>av= .agg (Pr.cells ⟨m,dJ,fM,life⟩)∧akj Laid w0 [(g,Pr.cells ⟨m,dJ,fM,life⟩,31)] (opt (!uU m dQ) (iy m)) 1 lv wc)
  case first=>
   as_aux_lemma=>
   cases hz:uU m dQ
   all_goals
    go_wp2_with (first|(have hq:=iE;subst hq)|(have hq:=sE;subst hq)|refine s0 ?_|(refine s1 ?_;clear hS;intro w hS)|(refine s2 ?_;clear hS;intro g w hS)|(refine s4 ?_;clear hS;intro g cur cw w hw hcw hS)|(refine s6 ?_;clear hS;intro g w hS)|(refine s8 ?_;clear hS;intro A c wr w hW hS)|(refine s5 ?_;clear hS;intro A c wr w hW hS)|(refine s3 ?_ ?_<;>intro hb<;>(try subst hb)<;>(try (exfalso;first|omega|exact Bool.noConfusion hb))))
   all_goals go_meet
   all_goals first|exact ⟨rfl,akj.one hW hS (by simp [hz])⟩|exact ⟨rfl,akj.nil hS (by simp [hz])⟩
  case rest=>
  as_aux_lemma=>
  clear hS
  obtain ⟨rfl,l,A,c,wr,hE,hn,rfl,HW,HS⟩:=hcut
  have hW:=HW.out
  have hS:=HS.out
  clear HW HS
  go_upto_if 35 with (first|(have hq:=iE;subst hq)|(have hq:=sE;subst hq)|refine s0 ?_|(refine s1 ?_;clear hS;intro w hS)|(refine s2 ?_;clear hS;intro g w hS)|(refine s4 ?_;clear hS;intro g cur cw w hw hcw hS)|(refine s6 ?_;clear hS;intro g w hS)|(refine s8 ?_;clear hS;intro A c wr w hW hS)|(refine s5 ?_;clear hS;intro A c wr w hW hS)|(refine s3 ?_ ?_<;>intro hb<;>(try subst hb)<;>(try (exfalso;first|omega|exact Bool.noConfusion hb))))
  go_cut [0,3] from 4 to 61 (fun av lv wc=>av= .agg (Pr.cells ⟨m,dJ,fM,life⟩)∧akj Laid w0 [(g,Pr.cells ⟨m,dJ,fM,life⟩,31)] (opt (!uU m dQ) (iy m)++opt (dJ) (aqV)) 2 lv wc)
  case first=>
   as_aux_lemma=>
   go_wp2_with (first|(have hq:=iE;subst hq)|(have hq:=sE;subst hq)|refine s0 ?_|(refine s1 ?_;clear hS;intro w hS)|(refine s2 ?_;clear hS;intro g w hS)|(refine s4 ?_;clear hS;intro g cur cw w hw hcw hS)|(refine s6 ?_;clear hS;intro g w hS)|(refine s8 ?_;clear hS;intro A c wr w hW hS)|(refine s5 ?_;clear hS;intro A c wr w hW hS)|(refine s3 ?_ ?_<;>intro hb<;>(try subst hb)<;>(try (exfalso;first|omega|exact Bool.noConfusion hb))))
   all_goals go_meet
   all_goals first|exact ⟨by simp [*],akj.put hE hn hW hS (by simp [*])⟩|exact ⟨by simp [*],akj.stay hE hn hW hS (by simp [*])⟩
  case rest=>
  as_aux_lemma=>
  clear hS hW hE hn
  obtain ⟨rfl,l,A,c,wr,hE,hn,rfl,HW,HS⟩:=hcut
  have hW:=HW.out
  have hS:=HS.out
  clear HW HS
  go_upto_if 40 with (first|(have hq:=iE;subst hq)|(have hq:=sE;subst hq)|refine s0 ?_|(refine s1 ?_;clear hS;intro w hS)|(refine s2 ?_;clear hS;intro g w hS)|(refine s4 ?_;clear hS;intro g cur cw w hw hcw hS)|(refine s6 ?_;clear hS;intro g w hS)|(refine s8 ?_;clear hS;intro A c wr w hW hS)|(refine s5 ?_;clear hS;intro A c wr w hW hS)|(refine s3 ?_ ?_<;>intro hb<;>(try subst hb)<;>(try (exfalso;first|omega|exact Bool.noConfusion hb))))
  go_cut [0,3] from 4 to 61 (fun av lv wc=>av= .agg (Pr.cells ⟨m,dJ,fM,life⟩)∧akj Laid w0 [(g,Pr.cells ⟨m,dJ,fM,life⟩,31)] (opt (!uU m dQ) (iy m)++opt (dJ) (aqV)++opt (fM) (ard)) 3 lv wc)
  case first=>
   as_aux_lemma=>
   go_wp2_with (first|(have hq:=iE;subst hq)|(have hq:=sE;subst hq)|refine s0 ?_|(refine s1 ?_;clear hS;intro w hS)|(refine s2 ?_;clear hS;intro g w hS)|(refine s4 ?_;clear hS;intro g cur cw w hw hcw hS)|(refine s6 ?_;clear hS;intro g w hS)|(refine s8 ?_;clear hS;intro A c wr w hW hS)|(refine s5 ?_;clear hS;intro A c wr w hW hS)|(refine s3 ?_ ?_<;>intro hb<;>(try subst hb)<;>(try (exfalso;first|omega|exact Bool.noConfusion hb))))
   all_goals go_meet
   all_goals first|exact ⟨by simp [*],akj.put hE hn hW hS (by simp [*])⟩|exact ⟨by simp [*],akj.stay hE hn hW hS (by simp [*])⟩
  case rest=>
  as_aux_lemma=>
  clear hS hW hE hn
  obtain ⟨rfl,l,A,c,wr,hE,hn,rfl,HW,HS⟩:=hcut
  have hW:=HW.out
  have hS:=HS.out
  clear HW HS
  go_upto_if 46 with (first|(have hq:=iE;subst hq)|(have hq:=sE;subst hq)|refine s0 ?_|(refine s1 ?_;clear hS;intro w hS)|(refine s2 ?_;clear hS;intro g w hS)|(refine s4 ?_;clear hS;intro g cur cw w hw hcw hS)|(refine s6 ?_;clear hS;intro g w hS)|(refine s8 ?_;clear hS;intro A c wr w hW hS)|(refine s5 ?_;clear hS;intro A c wr w hW hS)|(refine s3 ?_ ?_<;>intro hb<;>(try subst hb)<;>(try (exfalso;first|omega|exact Bool.noConfusion hb))))
  go_cut [0,3] from 4 to 61 (fun av lv wc=>av= .agg (Pr.cells ⟨m,dJ,fM,life⟩)∧akj Laid w0 [(g,Pr.cells ⟨m,dJ,fM,life⟩,31)] (opt (!uU m dQ) (iy m)++opt (dJ) (aqV)++opt (fM) (ard)++opt (!(life==0)) (ane++Lib.itoa life)) 4 lv wc)
  case first=>
   as_aux_lemma=>
   cases hz:(life==0)
   all_goals
    go_wp2_with (first|(have hq:=iE;subst hq)|(have hq:=sE;subst hq)|refine s0 ?_|(refine s1 ?_;clear hS;intro w hS)|(refine s2 ?_;clear hS;intro g w hS)|(refine s4 ?_;clear hS;intro g cur cw w hw hcw hS)|(refine s6 ?_;clear hS;intro g w hS)|(refine s8 ?_;clear hS;intro A c wr w hW hS)|(refine s5 ?_;clear hS;intro A c wr w hW hS)|(refine s3 ?_ ?_<;>intro hb<;>(try subst hb)<;>(try (exfalso;first|omega|exact Bool.noConfusion hb))))
   all_goals go_meet
   all_goals first|exact ⟨by simp [*],akj.put hE hn hW hS (by simp [*])⟩|exact ⟨by simp [*],akj.stay hE hn hW hS (by simp [*])⟩
  case rest=>
  as_aux_lemma=>
  clear hS hW hE hn
  obtain ⟨rfl,l,A,c,wr,hE,hn,rfl,HW,HS⟩:=hcut
  have hW:=HW.out
  have hS:=HS.out
  clear HW HS
  have hpp:akd ⟨m,dJ,fM,life⟩=l:=by rw [hE.out];simp [akd]
  by_cases hl0:l=[]
  ·subst hl0
   go_wp2_with (first|(have hq:=iE;subst hq)|(have hq:=sE;subst hq)|(go_at_call 41;refine aBj hS (by repeat constructor) (by decide) (by infer_instance) (by rfl) ?_;clear hS;intro w hS)|refine s0 ?_|(refine s1 ?_;clear hS;intro w hS)|(refine s2 ?_;clear hS;intro g w hS)|(refine s4 ?_;clear hS;intro g cur cw w hw hcw hS)|(refine s6 ?_;clear hS;intro g w hS)|(refine s8 ?_;clear hS;intro A c wr w hW hS)|(refine s5 ?_;clear hS;intro A c wr w hW hS)|(refine s3 ?_ ?_<;>intro hb<;>(try subst hb)<;>(try (exfalso;first|omega|exact Bool.noConfusion hb))))
   go_ret
   refine ⟨dL ?_,hS.below⟩
   clear hS
   simp [LX,ajK,hv,hpp,iK,Lib.join]
  ·have hne:¬((l.length:Int)=0):=by have:=List.length_pos_iff.2 hl0;omega
   have hTT:=auC hpp
   have:Len (Lib.join l [44,32]) 20100:=⟨by have h1:=aq2 [44,32] (by decide) l;have h2:=hTT.le;omega⟩
   go_wp2_with (first|(have hq:=iE;subst hq)|(have hq:=sE;subst hq)|(go_at_call 41;refine ay6 hS hW (by repeat (first|assumption|constructor)) (by decide) hTT (by rfl) ?_;clear hS;intro w hS)|refine s0 ?_|(refine s1 ?_;clear hS;intro w hS)|(refine s2 ?_;clear hS;intro g w hS)|(refine s4 ?_;clear hS;intro g cur cw w hw hcw hS)|(refine s6 ?_;clear hS;intro g w hS)|(refine s8 ?_;clear hS;intro A c wr w hW hS)|(refine s5 ?_;clear hS;intro A c wr w hW hS)|(refine s3 ?_ ?_<;>intro hb<;>(try subst hb)<;>(try (exfalso;first|omega|exact Bool.noConfusion hb))))
   go_ret
   refine ⟨dL ?_,hS.below⟩
   clear hS
   simp [LX,ajK,hv,hpp,hl0,iK]
 |false=>
  go_in
  cases hm:kU m with
  |false=>
   go_wp2_with (first|(have hq:=iE;subst hq)|(have hq:=sE;subst hq)|refine s0 ?_|(refine s1 ?_;clear hS;intro w hS)|(refine s2 ?_;clear hS;intro g w hS)|(refine s4 ?_;clear hS;intro g cur cw w hw hcw hS)|(refine s6 ?_;clear hS;intro g w hS)|(refine s8 ?_;clear hS;intro A c wr w hW hS)|(refine s5 ?_;clear hS;intro A c wr w hW hS)|(refine s3 ?_ ?_<;>intro hb<;>(try subst hb)<;>(try (exfalso;first|omega|exact Bool.noConfusion hb))))
   all_goals go_ret
   all_goals exact ⟨dL (by simp [LX,hv]),hS.below⟩
  |true=>
   cases hx:m.x==0 with
   |false=>
    go_wp2_with (first|(have hq:=iE;subst hq)|(have hq:=sE;subst hq)|refine s0 ?_|(refine s1 ?_;clear hS;intro w hS)|(refine s2 ?_;clear hS;intro g w hS)|(refine s4 ?_;clear hS;intro g cur cw w hw hcw hS)|(refine s6 ?_;clear hS;intro g w hS)|(refine s8 ?_;clear hS;intro A c wr w hW hS)|(refine s5 ?_;clear hS;intro A c wr w hW hS)|(refine s3 ?_ ?_<;>intro hb<;>(try subst hb)<;>(try (exfalso;first|omega|exact Bool.noConfusion hb))))
    all_goals go_ret
    all_goals exact ⟨dL (by simp [LX,hv]),hS.below⟩
   |true=>
    by_cases h0:life<0
    ·skip
     go_wp2_with (first|(have hq:=iE;subst hq)|(have hq:=sE;subst hq)|refine s0 ?_|(refine s1 ?_;clear hS;intro w hS)|(refine s2 ?_;clear hS;intro g w hS)|(refine s4 ?_;clear hS;intro g cur cw w hw hcw hS)|(refine s6 ?_;clear hS;intro g w hS)|(refine s8 ?_;clear hS;intro A c wr w hW hS)|(refine s5 ?_;clear hS;intro A c wr w hW hS)|(refine s3 ?_ ?_<;>intro hb<;>(try subst hb)<;>(try (exfalso;first|omega|exact Bool.noConfusion hb))))
     all_goals go_ret
     all_goals exact ⟨dL (by simp [LX,hv]),hS.below⟩
    ·have h1:99<life:=by
      simp only [aeF,hm,hx,Bool.true_and,Bool.and_eq_false_iff,decide_eq_false_iff_not] at hv
      omega
     go_wp2_with (first|(have hq:=iE;subst hq)|(have hq:=sE;subst hq)|refine s0 ?_|(refine s1 ?_;clear hS;intro w hS)|(refine s2 ?_;clear hS;intro g w hS)|(refine s4 ?_;clear hS;intro g cur cw w hw hcw hS)|(refine s6 ?_;clear hS;intro g w hS)|(refine s8 ?_;clear hS;intro A c wr w hW hS)|(refine s5 ?_;clear hS;intro A c wr w hW hS)|(refine s3 ?_ ?_<;>intro hb<;>(try subst hb)<;>(try (exfalso;first|omega|exact Bool.noConfusion hb))))
     all_goals go_ret
     all_goals exact ⟨dL (by simp [LX,hv]),hS.below⟩
instance aEv {L':World→Prop} [Sub L' Laid] (p:Pr):mG 22 #[.agg (Pr.cells p)] L' (.string (B (LX p))):=⟨fun w hl=>aAh p.aeC p.dJ p.fM p.life w (Sub.sub w hl)⟩
end Go.Proofs.YtdicgggkdmkklaaGreatDoor
