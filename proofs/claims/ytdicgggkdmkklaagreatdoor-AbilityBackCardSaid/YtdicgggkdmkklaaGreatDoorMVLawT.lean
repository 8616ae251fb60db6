/- AbilityTexts: a text that is read is the text of what was read. Conditions: LaidV. AbilityBack: Parse inverts Text. Conditions: LaidV; the lists lie in memory. -/
import Derived.Test.YtdicgggkdmkklaaGreatDoorMVLen
set_option linter.all false
set_option maxRecDepth 100000
set_option maxHeartbeats 16000000
namespace Go.Proofs.YtdicgggkdmkklaaGreatDoor
attribute [local irreducible] wpList Code.wp Calls aeh ad6 aej aek
open Go.ChangeShapes Go.WideShapes Go.RowKit
attribute [local go_sem] KX KW
theorem av5 (w:World):anc aqY [] [] [] [] w:=⟨rfl,by decide, .inl rfl,rfl,by decide, .inl rfl,rfl,by decide,⟨.inl rfl,by simp⟩,rfl⟩
theorem avi (s:Str) (w0:World) (hl:aew w0):Calls Tryz.prog 7 #[.string (B s)] w0 fun e w'=>e= .returned (.bool true)∧Below w0.heap.size w0 w':=by
 have hsz:=bC s
 have hS:=St.start hl fun _ _ h hb=>h.below hb
 by_cases hs:1500<s.length
 ·have hi:(1500:Int)<(s.length:Int):=by omega
  go_in
  go_wp2_with (first|(have hq:=iE;subst hq)|(have hq:=sE;subst hq)|refine s0 ?_|(refine s1 ?_;clear hS;intro w hS)|(refine s2 ?_;clear hS;intro g w hS)|(refine s4 ?_;clear hS;intro g cur cw w hw hcw hS)|(refine s3 ?_ ?_<;>intro hb<;>(try subst hb)<;>(try (exfalso;first|omega|exact Bool.noConfusion hb))))
  all_goals go_ret
  all_goals exact ⟨aX rfl,hS.below⟩
 ·have hi:¬(1500:Int)<(s.length:Int):=by omega
  have hs9:s.length<90000000:=by omega
  cases hp:ad6 s with
  |none=>
   have HP:=Lib.hid hp
   clear hp
   go_in
   go_wp2_with (first|(have hq:=iE;subst hq)|(have hq:=sE;subst hq)|(go_at_call 17;refine (anp s hs9 _ hS.laid).mono ?_;rintro e w1 ⟨x,rfl,hx0,_,hb⟩;obtain rfl:=hx0 HP.out;rw [show BN (ad6 s).isSome=3 by rw [HP.out];rfl];have hS2:=hS.mono hb;clear hS;have hS:=hS2;clear hS2 hb hx0)|(go_at_call 19;refine c_call (v:= .bool true) (fun _=>ax1 aqY aqY [] [] [] [] [] rfl _ ⟨av5 _,av5 _⟩) hS ?_;clear hS;intro w hS)|refine s0 ?_|(refine s1 ?_;clear hS;intro w hS)|(refine s2 ?_;clear hS;intro g w hS)|(refine s4 ?_;clear hS;intro g cur cw w hw hcw hS)|(refine s3 ?_ ?_<;>intro hb<;>(try subst hb)<;>(try (exfalso;first|omega|exact Bool.noConfusion hb))))
   all_goals go_ret
   all_goals exact ⟨aX rfl,hS.below⟩
  |some A=>
   obtain ⟨hv,ht⟩:=awy hp
   have HP:=Lib.hid hp
   have HV:=Lib.hid hv
   have HT:=Lib.hid ht
   have q1:(s==s)=true:=by simp
   clear hp hv ht
   go_in
   go_wp2_with (first|(have hq:=iE;subst hq)|(have hq:=sE;subst hq)|(go_at_call 17;refine (anp s hs9 _ hS.laid).mono ?_;rintro e w1 ⟨x,rfl,_,hx,hb⟩;obtain ⟨hx,es,HA⟩:=hx A HP.out;rw [show BN (ad6 s).isSome=0 by rw [HP.out];rfl];have hS2:=hS.all hb;clear hS;revert HA hS2;generalize ajJ _ w1=X1;intro HA hS;simp only [List.cons_append,List.append_assoc,List.nil_append] at hS;have HX:=Lib.hid hx;have HK:=Lib.hid HA;clear hb hx HA)|(go_at_call 11;refine c_call (v:= .bool true) (fun hl=>by rw [←HV.out,←HX.out];exact aww hl (HK.out _ (hS.arl (fun y hy=>by simp [hy])))) hS ?_;clear hS;intro w hS)|(go_at_call 13;refine c_call (v:= .string (B s)) (fun hl=>by rw [←HT.out,←HX.out];exact avd hl (HK.out _ (hS.arl (fun y hy=>by simp [hy])))) hS ?_;clear hS;intro w hS)|refine s0 ?_|(refine s1 ?_;clear hS;intro w hS)|(refine s2 ?_;clear hS;intro g w hS)|(refine s4 ?_;clear hS;intro g cur cw w hw hcw hS)|(refine s3 ?_ ?_<;>intro hb<;>(try subst hb)<;>(try (exfalso;first|omega|exact Bool.noConfusion hb))))
   all_goals go_ret
   all_goals exact ⟨aX (by simp),hS.below⟩
theorem avh (s:ByteArray) (w:World) (hl:aew w):Calls Tryz.prog 7 #[.string s] w fun e w'=>e= .returned (.bool true)∧Below w.heap.size w w':=by
 have:=avi (L s) w hl
 rwa [qV] at this
end Go.Proofs.YtdicgggkdmkklaaGreatDoor
namespace Go.Proofs.YtdicgggkdmkklaaGreatDoor
attribute [local irreducible] wpList Code.wp Calls aeh ad6 aej aek
open Go.ChangeShapes Go.WideShapes Go.RowKit
attribute [local go_sem] KX KW
theorem avt (x:Ax) (mods:List Md) (specs:List Sp) (es:List EV) (w0:World) (hl:anh x mods specs es w0):Calls Tryz.prog 6 #[.agg (Ax.cells x)] w0 fun e w'=>e= .returned (.bool true)∧Below w0.heap.size w0 w':=by
 have hS:=St.start hl (axS _ _ _ _)
 have aHe:Sub (anh x mods specs es) aew:=⟨fun _ h=>h.v⟩
 obtain ⟨A,hA⟩:∃A,x.ab mods specs (es.map Prod.fst)=A:=⟨_,rfl⟩
 have HA:=Lib.hid hA
 have hlen:=awC A
 cases hv:aej A with
 |false=>
  have HV:=Lib.hid hv
  have HT:=Lib.hid (asg hv)
  have HP:Hid (ad6 []=none):=Lib.hid (by rw [aod];exact if_neg fun h=>h.1 rfl)
  clear hA hv hlen
  go_in
  go_wp2_with (first|(have hq:=iE;subst hq)|(have hq:=sE;subst hq)|(go_at_call 9;refine (aw2 x mods specs es _ hS.laid).mono ?_;rintro e w1 ⟨⟨b,rfl,hf⟩,hb⟩;have hS2:=hS.mono hb;clear hS;have hS:=hS2;have HF:=Lib.hid hf;clear hb hf hS2;cases b)|(go_at_call 13;refine c_call (v:= .string (B [])) (fun hl=>by rw [←HT.out,←HA.out];exact avd hl.v (hl.at_.few (HF.out (by trivial)))) hS ?_;clear hS;intro w hS)|(go_at_call 11;refine c_call (v:= .bool false) (fun hl=>by rw [←HV.out,←HA.out];exact aww hl.v (hl.at_.few (HF.out (by trivial)))) hS ?_;clear hS;intro w hS)|(go_at_call 17;refine (anp [] (by decide) _ hS.laid.v).mono ?_;rintro e w1 ⟨x1,rfl,hx0,_,hb⟩;obtain rfl:=hx0 HP.out;rw [show BN (ad6 []).isSome=3 by rw [HP.out];rfl];have hS2:=hS.mono hb;clear hS;have hS:=hS2;clear hS2 hb hx0)|refine s0 ?_|(refine s1 ?_;clear hS;intro w hS)|(refine s2 ?_;clear hS;intro g w hS)|(refine s4 ?_;clear hS;intro g cur cw w hw hcw hS)|(refine s3 ?_ ?_<;>intro hb<;>(try subst hb)<;>(try (exfalso;first|omega|exact Bool.noConfusion hb))))
  all_goals go_ret
  all_goals exact ⟨aX rfl,hS.below⟩
 |true=>
  have hpt:=awz hv
  have hne:=av6 hv
  obtain ⟨T,hT⟩:∃T,aeh A=T:=⟨_,rfl⟩
  rw [hT] at hlen hpt hne
  have HV:=Lib.hid hv
  have HT:=Lib.hid hT
  have HP:=Lib.hid hpt
  have q1:(T==[])=false:=by simpa using hne
  have q2:T.isEmpty=false:=by cases T<;>first|rfl|exact absurd rfl hne
  clear hA hv hT hpt
  go_in
  go_wp2_with (first|(have hq:=iE;subst hq)|(have hq:=sE;subst hq)|(go_at_call 9;refine (aw2 x mods specs es _ hS.laid).mono ?_;rintro e w1 ⟨⟨b,rfl,hf⟩,hb⟩;have hS2:=hS.mono hb;clear hS;have hS:=hS2;have HF:=Lib.hid hf;clear hb hf hS2;cases b)|(go_at_call 13;refine c_call (v:= .string (B T)) (fun hl=>by rw [←HT.out,←HA.out];exact avd hl.v (hl.at_.few (HF.out (by trivial)))) hS ?_;clear hS;intro w hS)|(go_at_call 11;refine c_call (v:= .bool true) (fun hl=>by rw [←HV.out,←HA.out];exact aww hl.v (hl.at_.few (HF.out (by trivial)))) hS ?_;clear hS;intro w hS)|(go_at_call 17;refine (anp T hlen _ hS.laid.v).mono ?_;rintro e w1 ⟨x1,rfl,_,hx,hb⟩;obtain ⟨hx,es1,HA1⟩:=hx A HP.out;rw [show BN (ad6 T).isSome=0 by rw [HP.out];rfl];have hS2:=hS.all hb;clear hS;revert HA1 hS2;generalize ajJ _ w1=X1;intro HA1 hS;simp only [List.cons_append,List.append_assoc,List.nil_append] at hS;have HX:=Lib.hid hx;have HK:=Lib.hid HA1;clear hb hx HA1)|(go_at_call 19;refine c_call (v:= .bool true) (fun hl=>ax1 x x1 A.mods A.specs A.qE es es1 (by have e:=HA.out;rw [HX.out,←e];rfl) _ ⟨by rw [←HA.out];exact hl.at_.few (HF.out (by trivial)),HK.out _ (hS.arl (fun y hy=>by simp [hy]))⟩) hS ?_;clear hS;intro w hS)|refine s0 ?_|(refine s1 ?_;clear hS;intro w hS)|(refine s2 ?_;clear hS;intro g w hS)|(refine s4 ?_;clear hS;intro g cur cw w hw hcw hS)|(refine s3 ?_ ?_<;>intro hb<;>(try subst hb)<;>(try (exfalso;first|omega|exact Bool.noConfusion hb))))
  all_goals go_ret
  all_goals exact ⟨aX (by simp),hS.below⟩
end Go.Proofs.YtdicgggkdmkklaaGreatDoor
