/- AbilityTexts: a text that is read is the text of what was read. Conditions: LaidV. AbilityBack: Parse inverts Text. Conditions: LaidV; the lists lie in memory. AbilityKinds: an ability of one kind -/
import Derived.Test.YtdicgggkdmkklaaGreatDoorMVLen
set_option linter.all false
set_option maxRecDepth 100000
set_option maxHeartbeats 16000000
namespace Go.Proofs.YtdicgggkdmkklaaGreatDoor
attribute [local irreducible] wpList Code.wp Calls aeh ad6 aej aek
open Go.ChangeShapes Go.WideShapes Go.RowKit
attribute [local go_sem] KX KW
theorem av5 (w:World):anc aqY [] [] [] [] w:=⟨rfl,by decide, .inl rfl,rfl,by decide, .inl rfl,rfl,by decide,⟨.inl rfl,by simp⟩,rfl⟩
theorem avi (s:Str) (w0:World) (hl:aew w0):Calls Tryz.prog 7 #[.string (B s)] w0 fun e w'=>e= .returned (.bool true)∧Below w0.heap.size w0 w':=by
 have hsz:=bC s
 have hS:=St.start hl fun _ _ h hb=>h.below hb
 by_cases hs:1500<s.length
 ·have hi:(1500:Int)<(s.length:Int):=by omega
  go_in
  go_wp2_with (first|(have hq:=iE;subst hq)|(have hq:=sE;subst hq)|refine s0 ?_|(refine s1 ?_;clear hS;intro w hS)|(refine s2 ?_;clear hS;intro g w hS)|(refine s4 ?_;clear hS;intro g cur cw w hw hcw hS)|(refine s3 ?_ ?_<;>intro hb<;>(try subst hb)<;>(try (exfalso;first|omega|exact Bool.noConfusion hb))))
  all_goals go_ret
  all_goals exact ⟨aX rfl,hS.below⟩
 ·have hi:¬(1500:Int)<(s.length:Int):=by omega
  have hs9:s.length<90000000:=by omega
  cases hp:ad6 s with
  |none=>
   have HP:=Lib.hid hp
   clear hp
   go_in
   go_wp2_with (first|(have hq:=iE;subst hq)|(have hq:=sE;subst hq)|(go_at_call 17;refine (anp s hs9 _ hS.laid).mono ?_;rintro e w1 ⟨x,rfl,hx0,_,hb⟩;obtain rfl:=hx0 HP.out;rw [show BN (ad6 s).isSome=3 by rw [HP.out];rfl];have hS2:=hS.mono hb;clear hS;have hS:=hS2;clear hS2 hb hx0)|(go_at_call 19;refine c_call (v:= .bool true) (fun _=>ax1 aqY aqY [] [] [] [] [] rfl _ ⟨av5 _,av5 _⟩) hS ?_;clear hS;intro w hS)|refine s0 ?_|(refine s1 ?_;clear hS;intro w hS)|(refine s2 ?_;clear hS;intro g w hS)|(refine s4 ?_;clear hS;intro g cur cw w hw hcw hS)|(refine s3 ?_ ?_<;>intro hb<;>(try subst hb)<;>(try (exfalso;first|omega|exact Bool.noConfusion hb))))
   all_goals go_ret
   all_goals exact ⟨aX rfl,hS.below⟩
  |some A=>
   obtain ⟨hv,ht⟩:=awy hp
   have HP:=Lib.hid hp
   have HV:=Lib.hid hv
   have HT:=Lib.hid ht
   have q1:(s==s)=true:=by simp
   clear hp hv ht
   go_in
   go_wp2_with (first|(have hq:=iE;subst hq)|(have hq:=sE;subst hq)|(go_at_call 17;refine (anp s hs9 _ hS.laid).mono ?_;rintro e w1 ⟨x,rfl,_,hx,hb⟩;obtain ⟨hx,es,HA⟩:=hx A HP.out;rw [show BN (ad6 s).isSome=0 by rw [HP.out];rfl];have hS2:=hS.all hb;clear hS;revert HA hS2;generalize ajJ _ w1=X1;intro HA hS;simp only [List.cons_append,List.append_assoc,List.nil_append] at hS;have HX:=Lib.hid hx;have HK:=Lib.hid HA;clear hb hx HA)|(go_at_call 11;refine c_call (v:= .bool true) (fun hl=>by rw [←HV.out,←HX.out];exact aww hl (HK.out _ (hS.arl (fun y hy=>by simp [hy])))) hS ?_;clear hS;intro w hS)|(go_at_call 13;refine c_call (v:= .string (B s)) (fun hl=>by rw [←HT.out,←HX.out];exact avd hl (HK.out _ (hS.arl (fun y hy=>by simp [hy])))) hS ?_;clear hS;intro w hS)|refine s0 ?_|(refine s1 ?_;clear hS;intro w hS)|(refine s2 ?_;clear hS;intro g w hS)|(refine s4 ?_;clear hS;intro g cur cw w hw hcw hS)|(refine s3 ?_ ?_<;>intro hb<;>(try subst hb)<;>(try (exfalso;first|omega|exact Bool.noConfusion hb))))
   all_goals go_ret
   all_goals exact ⟨aX (by simp),hS.below⟩
theorem avh (s:ByteArray) (w:World) (hl:aew w):Calls Tryz.prog 7 #[.string s] w fun e w'=>e= .returned (.bool true)∧Below w.heap.size w w':=by
 have:=avi (L s) w hl
 rwa [qV] at this
end Go.Proofs.YtdicgggkdmkklaaGreatDoor
namespace Go.Proofs.YtdicgggkdmkklaaGreatDoor
attribute [local irreducible] wpList Code.wp Calls aeh ad6 aej aek
open Go.ChangeShapes Go.WideShapes Go.RowKit
attribute [local go_sem] KX KW
theorem avt (x:Ax) (mods:List Md) (specs:List Sp) (es:List EV) (w0:World) (hl:anh x mods specs es w0):Calls Tryz.prog 6 #[.agg (Ax.cells x)] w0 fun e w'=>e= .returned (.bool true)∧Below w0.heap.size w0 w':=by
 have hS:=St.start hl (axS _ _ _ _)
 have aHe:Sub (anh x mods specs es) aew:=⟨fun _ h=>h.v⟩
 obtain ⟨A,hA⟩:∃A,x.ab mods specs (es.map Prod.fst)=A:=⟨_,rfl⟩
 have HA:=Lib.hid hA
 have hlen:=awC A
 cases hv:aej A with
 |false=>
  have HV:=Lib.hid hv
  have HT:=Lib.hid (asg hv)
  have HP:Hid (ad6 []=none):=Lib.hid (by rw [aod];exact if_neg fun h=>h.1 rfl)
  clear hA hv hlen
  go_in
  go_wp2_with (first|(have hq:=iE;subst hq)|(have hq:=sE;subst hq)|(go_at_call 9;refine (aw2 x mods specs es _ hS.laid).mono ?_;rintro e w1 ⟨⟨b,rfl,hf⟩,hb⟩;have hS2:=hS.mono hb;clear hS;have hS:=hS2;have HF:=Lib.hid hf;clear hb hf hS2;cases b)|(go_at_call 13;refine c_call (v:= .string (B [])) (fun hl=>by rw [←HT.out,←HA.out];exact avd hl.v (hl.at_.few (HF.out (by trivial)))) hS ?_;clear hS;intro w hS)|(go_at_call 11;refine c_call (v:= .bool false) (fun hl=>by rw [←HV.out,←HA.out];exact aww hl.v (hl.at_.few (HF.out (by trivial)))) hS ?_;clear hS;intro w hS)|(go_at_call 17;refine (anp [] (by decide) _ hS.laid.v).mono ?_;rintro e w1 ⟨x1,rfl,hx0,_,hb⟩;obtain rfl:=hx0 HP.out;rw [show BN (ad6 []).isSome=3 by rw [HP.out];rfl];have hS2:=hS.mono hb;clear hS;have hS:=hS2;clear hS2 hb hx0)|refine s0 ?_|(refine s1 ?_;clear hS;intro w hS)|(refine s2 ?_;clear hS;intro g w hS)|(refine s4 ?_;clear hS;intro g cur cw w hw hcw hS)|(refine s3 ?_ ?_<;>intro hb<;>(try subst hb)<;>(try (exfalso;first|omega|exact Bool.noConfusion hb))))
  all_goals go_ret
  all_goals exact ⟨aX rfl,hS.below⟩
 |true=>
  have hpt:=awz hv
  have hne:=av6 hv
  obtain ⟨T,hT⟩:∃T,aeh A=T:=⟨_,rfl⟩
  rw [hT] at hlen hpt hne
  have HV:=Lib.hid hv
  have HT:=Lib.hid hT
  have HP:=Lib.hid hpt
  have q1:(T==[])=false:=by simpa using hne
  have q2:T.isEmpty=false:=by cases T<;>first|rfl|exact absurd rfl hne
  clear hA hv hT hpt
  go_in
  go_wp2_with (first|(have hq:=iE;subst hq)|(have hq:=sE;subst hq)|(go_at_call 9;refine (aw2 x mods specs es _ hS.laid).mono ?_;rintro e w1 ⟨⟨b,rfl,hf⟩,hb⟩;have hS2:=hS.mono hb;clear hS;have hS:=hS2;have HF:=Lib.hid hf;clear hb hf hS2;cases b)|(go_at_call 13;refine c_call (v:= .string (B T)) (fun hl=>by rw [←HT.out,←HA.out];exact avd hl.v (hl.at_.few (HF.out (by trivial)))) hS ?_;clear hS;intro w hS)|(go_at_call 11;refine c_call (v:= .bool true) (fun hl=>by rw [←HV.out,←HA.out];exact aww hl.v (hl.at_.few (HF.out (by trivial)))) hS ?_;clear hS;intro w hS)|(go_at_call 17;refine (anp T hlen _ hS.laid.v).mono ?_;rintro e w1 ⟨x1,rfl,_,hx,hb⟩;obtain ⟨hx,es1,HA1⟩:=hx A HP.out;rw [show BN (ad6 T).isSome=0 by rw [HP.out];rfl];have hS2:=hS.all hb;clear hS;revert HA1 hS2;generalize ajJ _ w1=X1;intro HA1 hS;simp only [List.cons_append,List.append_assoc,List.nil_append] at hS;have HX:=Lib.hid hx;have HK:=Lib.hid HA1;clear hb hx HA1)|(go_at_call 19;refine c_call (v:= .bool true) (fun hl=>ax1 x x1 A.mods A.specs A.qE es es1 (by have e:=HA.out;rw [HX.out,←e];rfl) _ ⟨by rw [←HA.out];exact hl.at_.few (HF.out (by trivial)),HK.out _ (hS.arl (fun y hy=>by simp [hy]))⟩) hS ?_;clear hS;intro w hS)|refine s0 ?_|(refine s1 ?_;clear hS;intro w hS)|(refine s2 ?_;clear hS;intro g w hS)|(refine s4 ?_;clear hS;intro g cur cw w hw hcw hS)|(refine s3 ?_ ?_<;>intro hb<;>(try subst hb)<;>(try (exfalso;first|omega|exact Bool.noConfusion hb))))
  all_goals go_ret
  all_goals exact ⟨aX (by simp),hS.below⟩
end Go.Proofs.YtdicgggkdmkklaaGreatDoor
namespace Go.Proofs.YtdicgggkdmkklaaGreatDoor
attribute [local irreducible] wpList Code.wp Calls aeh ad6 aej aek
open Go.ChangeShapes Go.WideShapes Go.RowKit
def ayP (t:TypeId) (p:Value):Sem Value:=Instr.loadAt t p
theorem ayQ (p:Value):Instr.loadAt 39 p=ayP 39 p:=rfl
def awu (t:TypeId) (p v:Value):Sem Unit:=Instr.storeAt t p v
theorem ayR (p v:Value):Instr.storeAt 39 p v=awu 39 p v:=rfl
theorem ayV:(Tryz.prog.info? 39).map (·.size)=some 72:=by kernel_rfl
theorem aDq (x:Ax):((Ax.cells x).all fun v=>v.oneCell')=true:=by kernel_rfl
theorem aAR (x:Ax) (g:Nat) (w:World) (h:w.heap[g]? =some (.cells (Ax.cells x) 39 (0,0))):(ayP 39 (.pointer (some ⟨g,0,none⟩))).run Tryz.prog w= .ok (.agg (Ax.cells x)) w:=by
 simp only [ayP,Instr.loadAt,Instr.sureAddr,Sem.run_bind,Sem.run_pure,Result.andThen_ok,run_loadVar_row w g 39 39 (Ax.cells x) (0,0) _ h Tryz.underlying39 rfl ayV]
theorem aAJ (x y:Ax) (g:Nat) (w:World) (h:w.heap[g]? =some (.cells (Ax.cells y) 39 (0,0))):(awu 39 (.pointer (some ⟨g,0,none⟩)) (.agg (Ax.cells x))).run Tryz.prog w= .ok () (w.setRow g (Ax.cells x)):=by
 simp only [awu,Instr.storeAt,Instr.sureAddr,Sem.run_bind,Sem.run_pure,Result.andThen_ok,run_storeVar_row w g 39 39 (Ax.cells y) (Ax.cells x) h ayV rfl (aDq x)]
theorem aB9:Tryz.zeroCells39=Ax.cells aqY:=by kernel_rfl
def ayL (w1 w':World):Prop:=w1.heap.size≤w'.heap.size∧∀g,w1.heap.size≤g→g<w'.heap.size→∃r:Ax,w'.heap[g]? =some (.cells (Ax.cells r) 39 (0,0))
def adX (L:World→Prop) (w0:World) (g0:Nat) (x:Ax) (w1 w':World):Prop:=St L w0 [(g0,Ax.cells x,39)] w'∧ayL w1 w'∧g0<w1.heap.size∧w0.heap.size≤w1.heap.size
section
variable {L:World→Prop} {w0 w1 w':World} {g0:Nat} {x:Ax}
theorem adX.start (h:St L w0 [(g0,Ax.cells x,39)] w'):adX L w0 g0 x w' w':=
 ⟨h,⟨Nat.le_refl _,fun g h1 h2=>absurd h2 (by omega)⟩,(Array.getElem?_eq_some_iff.1 (h.row .head)).1,h.below.size⟩
theorem adX.open_ (h:adX L w0 g0 x w1 w'):w'.heap[g0]? =some (.cells (Ax.cells x) 39 (0,0))∧ayL w1 w':=⟨h.1.row .head,h.2.1⟩
theorem adX.drew (h:adX L w0 g0 x w1 w'):adX L w0 g0 x w1 w'.drew:=⟨h.1.drew,h.2⟩
theorem adX.alloc (h:adX L w0 g0 x w1 w'):adX L w0 g0 x w1 (w'.alloc (.cells Tryz.zeroCells39 39)):=by
 rw [aB9]
 exact ⟨(h.1.alloc _ _).tail,⟨by simp;have:=h.2.1.1;omega,fun g h1 h2=>by
  by_cases e:g<w'.heap.size
  ·obtain ⟨r,hr⟩:=h.2.1.2 g h1 e
   exact ⟨r,(Below.heap_alloc w' _ g e).trans hr⟩
  ·obtain rfl:g=w'.heap.size:=by simp at h2;omega
   exact ⟨aqY,heap_alloc_new w' _⟩⟩,h.2.2⟩
theorem adX.setRow (h:adX L w0 g0 x w1 w') {g:Nat} (h1:w1.heap.size≤g) (h2:g<w'.heap.size) (y:Ax):adX L w0 g0 x w1 (w'.setRow g (Ax.cells y)):=by
 obtain ⟨r,hr⟩:=h.2.1.2 g h1 h2
 have hne:g≠g0:=by have:=h.2.2.1;omega
 have hS:St L w0 [(g,Ax.cells r,39),(g0,Ax.cells x,39)] w':=⟨h.1.base,h.1.keeps,h.1.below,fun z hz=>by
  rcases List.mem_cons.1 hz with rfl|hz
  ·exact ⟨hr,Nat.le_trans h.2.2.2 h1⟩
  ·exact h.1.has z hz,by simp [hne]⟩
 refine ⟨(hS.set (new:=Ax.cells y) .head).tail,⟨by simp;exact h.2.1.1,fun g' h3 h4=> ?_⟩,h.2.2⟩
 have h4:g'<w'.heap.size:=by simpa using h4
 by_cases e:g'=g
 ·subst e;exact ⟨y,oV hr⟩
 ·obtain ⟨r',hr'⟩:=h.2.1.2 g' h3 h4
  exact ⟨r',(setRow_other w' g g' _ e).trans hr'⟩
theorem aAK (y:Ax) (w':World) (g:Nat) (h:ayL w1 w') (h1:w1.heap.size≤g) (h2:g<w'.heap.size):(awu 39 (.pointer (some ⟨g,0,none⟩)) (.agg (Ax.cells y))).run Tryz.prog w'= .ok () (w'.setRow g (Ax.cells y)):=by
 obtain ⟨r,hr⟩:=h.2 g h1 h2
 exact aAJ y r g w' hr
theorem aDz (h:St L w0 [(g0,Ax.cells x,39)] w1):St L w0 [(w1.heap.size+1,Ax.cells x,39),(w1.heap.size,Ax.cells x,39),(g0,Ax.cells x,39)] ((((w1.alloc (Obj.cells Tryz.zeroCells39 39)).alloc (Obj.cells Tryz.zeroCells39 39)).drew.setRow w1.heap.size (Ax.cells x)).setRow (w1.heap.size+1) (Ax.cells x)):=by
 have h2:=((h.alloc Tryz.zeroCells39 39).alloc Tryz.zeroCells39 39).drew
 rw [show (w1.alloc (Obj.cells Tryz.zeroCells39 39)).heap.size=w1.heap.size+1 by simp] at h2
 exact (h2.set (new:=Ax.cells x) (.tail .head)).set (new:=Ax.cells x) .head
theorem aDA (h:St L w0 [(g0,Ax.cells x,39)] w1):St L w0 [(w1.heap.size+1,Ax.cells x,39),(w1.heap.size,Ax.cells x,39),(g0,Ax.cells x,39)] ((((w1.alloc (Obj.cells Tryz.zeroCells39 39)).alloc (Obj.cells Tryz.zeroCells39 39)).drew.setRow (w1.heap.size+1) (Ax.cells x)).setRow w1.heap.size (Ax.cells x)):=by
 have h2:=((h.alloc Tryz.zeroCells39 39).alloc Tryz.zeroCells39 39).drew
 rw [show (w1.alloc (Obj.cells Tryz.zeroCells39 39)).heap.size=w1.heap.size+1 by simp] at h2
 exact (h2.set (new:=Ax.cells x) .head).set (new:=Ax.cells x) (.tail .head)
end
attribute [local go_sem ↓] ayQ ayR
theorem aB4 (x:Ax) (mods:List Md) (specs:List Sp) (qE:List Ef) (k:Int):Ax.ab ⟨k,x.f,x.mods,x.pr,x.slow,x.t,x.may,x.specs,x.qE,x.r⟩ mods specs qE= { x.ab mods specs qE with k:=k } :=rfl
theorem aB3 (x:Ax) (mods:List Md) (specs:List Sp) (qE:List Ef):Ax.ab ⟨x.kind,x.f,x.mods,x.pr,x.slow,x.t,x.may,x.specs,⟨none,0,0⟩,x.r⟩ mods specs []= { x.ab mods specs qE with qE:=[] } :=rfl
theorem awr (x:Ax) (mods:List Md) (specs:List Sp) (es:List EV) (k:Int) (w0:World) (hl:anh x mods specs es w0):Calls Tryz.prog 8 #[.agg (Ax.cells x), .int .i64 k] w0 fun e w'=>e= .returned (.bool true)∧Below w0.heap.size w0 w':=by
 have hS:=St.start hl (axS _ _ _ _)
 have aHe:Sub (anh x mods specs es) aew:=⟨fun _ h=>h.v⟩
 cases hv:aej (x.ab mods specs (es.map Prod.fst)) with
 |false=>
  have HV:=Lib.hid hv
  clear hv
  go_in
  go_wp2_with (first|(have hq:=iE;subst hq)|(have hq:=sE;subst hq)|(go_at_call 9;refine (aw2 x mods specs es _ hS.laid).mono ?_;rintro e w1 ⟨⟨b,rfl,hf⟩,hb⟩;have hS2:=hS.mono hb;clear hS;have hS:=hS2;have HF:=Lib.hid hf;clear hb hf hS2;cases b)|(go_at_call 11;refine c_call (v:= .bool false) (fun hl=>by rw [←HV.out];exact aww hl.v (hl.at_.few (HF.out (by trivial)))) hS ?_;clear hS;intro w hS)|refine s0 ?_|(refine s1 ?_;clear hS;intro w hS)|(refine s2 ?_;clear hS;intro g w hS)|(refine s4 ?_;clear hS;intro g cur cw w hw hcw hS)|(refine s3 ?_ ?_<;>intro hb<;>(try subst hb)<;>(try (exfalso;first|omega|exact Bool.noConfusion hb))))
  all_goals go_ret
  all_goals exact ⟨aX rfl,hS.below⟩
 |true=>
  have hb:=aB5 hv k
  have hc:=aB6 hv
  rw [←aB4] at hb
  rw [←aB3] at hc
  obtain ⟨R,hR⟩:∃R,aej (Ax.ab ⟨k,x.f,x.mods,x.pr,x.slow,x.t,x.may,x.specs,x.qE,x.r⟩ mods specs (es.map Prod.fst))=R:=⟨_,rfl⟩
  obtain ⟨Q,hQ⟩:∃Q,aej (Ax.ab ⟨x.kind,x.f,x.mods,x.pr,x.slow,x.t,x.may,x.specs,⟨none,0,0⟩,x.r⟩ mods specs [])=Q:=⟨_,rfl⟩
  rw [hR] at hb
  rw [hQ] at hc
  have HR:=Lib.hid hR
  have HQ:=Lib.hid hQ
  have HB:=Lib.hid hb
  have HC:=Lib.hid hc
  have HV:=Lib.hid hv
  obtain ⟨SP,hSP⟩:∃SP,((x.kind==3&&(k==2&&(arE x.pr RD&& !x.slow))) || (x.kind==2&&k==3))=SP:=⟨_,rfl⟩
  have HSP:=Lib.hid hSP
  have HB2:Hid (R=(k==x.kind || SP)):=Lib.hid (by rw [hb,←hSP];rfl)
  clear hv hb hc hR hQ hSP HB
  go_in
  go_upto_region 3 with (first|(have hq:=iE;subst hq)|(have hq:=sE;subst hq)|(go_at_call 9;refine (aw2 x mods specs es _ hS.laid).mono ?_;rintro e w1 ⟨⟨b,rfl,hf⟩,hb⟩;have hS2:=hS.mono hb;clear hS;have hS:=hS2;have HF:=Lib.hid hf;clear hb hf hS2;cases b)|(go_at_call 11;refine c_call (v:= .bool true) (fun hl=>by rw [←HV.out];exact aww hl.v (hl.at_.few (HF.out (by trivial)))) hS ?_;clear hS;intro w hS)|refine s0 ?_|(refine s1 ?_;clear hS;intro w hS)|(refine s2 ?_;clear hS;intro g w hS)|(refine s4 ?_;clear hS;intro g cur cw w hw hcw hS)|(refine s3 ?_ ?_<;>intro hb<;>(try subst hb)<;>(try (exfalso;first|omega|exact Bool.noConfusion hb))))
  ·go_ret
   exact ⟨aX rfl,hS.below⟩
  have aHn:mG 11 #[.agg (Ax.cells ⟨k,x.f,x.mods,x.pr,x.slow,x.t,x.may,x.specs,x.qE,x.r⟩)] (anh x mods specs es) (.bool R):=⟨fun w hl=>by rw [←HR.out];exact aww hl.v ((hl.at_.few (HF.out (by trivial))).kind k)⟩
  have aHm:mG 11 #[.agg (Ax.cells ⟨x.kind,x.f,x.mods,x.pr,x.slow,x.t,x.may,x.specs,⟨none,0,0⟩,x.r⟩)] (anh x mods specs es) (.bool Q):=⟨fun w hl=>by rw [←HQ.out];exact aww hl.v (hl.at_.few (HF.out (by trivial))).bare⟩
  have hN:=adX.start hS
  have hld:=fun (w':World) (h:w'.heap[g]? =some (.cells (Ax.cells x) 39 (0,0)))=>aAR x g w' h
  have hst:=fun (w':World) (g:Nat) (h:ayL w w') (h1:w.heap.size≤g) (h2:g<w'.heap.size)=>aAK x w' g h h1 h2
  go_region_held3 (fun w'=>w'.heap[g]? =some (.cells (Ax.cells x) 39 (0,0))∧ayL w w') (exact adX.open_ (by repeat' (first|exact hN|apply adX.drew|apply adX.alloc|apply adX.setRow|omega|(simp;done)|(simp;omega)))) (fail)
  ·have hS3:=aDz hS
   revert hS3
   generalize (((w.alloc (Obj.cells Tryz.zeroCells39 39)).alloc (Obj.cells Tryz.zeroCells39 39)).drew.setRow w.heap.size (Ax.cells x)).setRow (w.heap.size+1) (Ax.cells x)=w3
   intro hS3
   clear hS hN hld hst
   obtain ⟨n,hn⟩:∃n,w.heap.size=n:=⟨_,rfl⟩
   rw [hn] at hS3
   simp only [hn]
   obtain ⟨m,hm⟩:∃m,n+1=m:=⟨_,rfl⟩
   rw [hm] at hS3
   simp only [hm]
   clear hn hm
   have hS:=hS3
   clear hS3
   go_upto_region 6 with (first|(have hq:=iE;subst hq)|(have hq:=sE;subst hq)|refine s0 ?_|(refine s1 ?_;clear hS;intro w hS)|(refine s2 ?_;clear hS;intro g w hS)|(refine s4 ?_;clear hS;intro g cur cw w hw hcw hS)|(refine s3 ?_ ?_<;>intro hb<;>(try subst hb)<;>(try (exfalso;first|omega|exact Bool.noConfusion hb))))
   go_cut [2,4,5,6,7] from 22 to 48 (fun pv qv bv cv sv wc=>pv= .pointer (some ⟨g,0,none⟩)∧qv= .bool false∧bv= .pointer (some ⟨n,0,none⟩)∧cv= .pointer (some ⟨m,0,none⟩)∧sv= .bool SP∧Hid (St (anh x mods specs es) w0 [(m,Ax.cells ⟨x.kind,x.f,x.mods,x.pr,x.slow,x.t,x.may,x.specs,⟨none,0,0⟩,x.r⟩,39),(n,Ax.cells ⟨k,x.f,x.mods,x.pr,x.slow,x.t,x.may,x.specs,x.qE,x.r⟩,39),(g,Ax.cells x,39)] wc))
   case first=>
    as_aux_lemma=>
    go_wp2_with (first|(have hq:=iE;subst hq)|(have hq:=sE;subst hq)|refine s0 ?_|(refine s1 ?_;clear hS;intro w hS)|(refine s2 ?_;clear hS;intro g w hS)|(refine s4 ?_;clear hS;intro g cur cw w hw hcw hS)|(refine s3 ?_ ?_<;>intro hb<;>(try subst hb)<;>(try (exfalso;first|omega|exact Bool.noConfusion hb))))
    all_goals go_meet
    all_goals (refine ⟨rfl,rfl,rfl,rfl,congrArg Value.bool ?_,Lib.hid hS⟩;rw [←HSP.out];clear hS;simp [*])
   case rest=>
    as_aux_lemma=>
    clear hS
    obtain ⟨rfl,rfl,rfl,rfl,rfl,HS⟩:=hcut
    have hS:=HS.out
    clear HS
    have qs:(SP != SP)=false:=by cases SP<;>rfl
    have q5:((x.kind==5)==(x.kind==5))=true:=by cases (x.kind==5)<;>rfl
    cases e1:(k==x.kind)
    all_goals
     have hR:=HB2.out
     rw [e1] at hR
     simp only [Bool.false_or,Bool.true_or] at hR
     subst hR
    all_goals
     cases e2:(x.kind==1)
    all_goals
     have hQ:=HC.out
     rw [show ((x.ab mods specs (es.map Prod.fst)).k==1)=_ from e2,show ((x.ab mods specs (es.map Prod.fst)).k==5)=(x.kind==5) from rfl] at hQ
     simp only [Bool.false_or,Bool.true_or] at hQ
     subst hQ
    all_goals
     go_wp2_with (first|(have hq:=iE;subst hq)|(have hq:=sE;subst hq)|refine s0 ?_|(refine s1 ?_;clear hS;intro w hS)|(refine s2 ?_;clear hS;intro g w hS)|(refine s4 ?_;clear hS;intro g cur cw w hw hcw hS)|(refine s3 ?_ ?_<;>intro hb<;>(try subst hb)<;>(try (exfalso;first|omega|exact Bool.noConfusion hb))))
    all_goals go_ret
    all_goals exact ⟨aX (by first|rfl|simp),hS.below⟩
  ·have hS3:=aDA hS
   revert hS3
   generalize (((w.alloc (Obj.cells Tryz.zeroCells39 39)).alloc (Obj.cells Tryz.zeroCells39 39)).drew.setRow (w.heap.size+1) (Ax.cells x)).setRow w.heap.size (Ax.cells x)=w3
   intro hS3
   clear hS hN hld hst
   obtain ⟨n,hn⟩:∃n,w.heap.size=n:=⟨_,rfl⟩
   rw [hn] at hS3
   simp only [hn]
   obtain ⟨m,hm⟩:∃m,n+1=m:=⟨_,rfl⟩
   rw [hm] at hS3
   simp only [hm]
   clear hn hm
   have hS:=hS3
   clear hS3
   go_upto_region 6 with (first|(have hq:=iE;subst hq)|(have hq:=sE;subst hq)|refine s0 ?_|(refine s1 ?_;clear hS;intro w hS)|(refine s2 ?_;clear hS;intro g w hS)|(refine s4 ?_;clear hS;intro g cur cw w hw hcw hS)|(refine s3 ?_ ?_<;>intro hb<;>(try subst hb)<;>(try (exfalso;first|omega|exact Bool.noConfusion hb))))
   go_cut [2,4,5,6,7] from 22 to 48 (fun pv qv bv cv sv wc=>pv= .pointer (some ⟨g,0,none⟩)∧qv= .bool false∧bv= .pointer (some ⟨m,0,none⟩)∧cv= .pointer (some ⟨n,0,none⟩)∧sv= .bool SP∧Hid (St (anh x mods specs es) w0 [(m,Ax.cells ⟨k,x.f,x.mods,x.pr,x.slow,x.t,x.may,x.specs,x.qE,x.r⟩,39),(n,Ax.cells ⟨x.kind,x.f,x.mods,x.pr,x.slow,x.t,x.may,x.specs,⟨none,0,0⟩,x.r⟩,39),(g,Ax.cells x,39)] wc))
   case first=>
    as_aux_lemma=>
    go_wp2_with (first|(have hq:=iE;subst hq)|(have hq:=sE;subst hq)|refine s0 ?_|(refine s1 ?_;clear hS;intro w hS)|(refine s2 ?_;clear hS;intro g w hS)|(refine s4 ?_;clear hS;intro g cur cw w hw hcw hS)|(refine s3 ?_ ?_<;>intro hb<;>(try subst hb)<;>(try (exfalso;first|omega|exact Bool.noConfusion hb))))
    all_goals go_meet
    all_goals (refine ⟨rfl,rfl,rfl,rfl,congrArg Value.bool ?_,Lib.hid hS⟩;rw [←HSP.out];clear hS;simp [*])
   case rest=>
    as_aux_lemma=>
    clear hS
    obtain ⟨rfl,rfl,rfl,rfl,rfl,HS⟩:=hcut
    have hS:=HS.out
    clear HS
    have qs:(SP != SP)=false:=by cases SP<;>rfl
    have q5:((x.kind==5)==(x.kind==5))=true:=by cases (x.kind==5)<;>rfl
    cases e1:(k==x.kind)
    all_goals
     have hR:=HB2.out
     rw [e1] at hR
     simp only [Bool.false_or,Bool.true_or] at hR
     subst hR
    all_goals
     cases e2:(x.kind==1)
    all_goals
     have hQ:=HC.out
     rw [show ((x.ab mods specs (es.map Prod.fst)).k==1)=_ from e2,show ((x.ab mods specs (es.map Prod.fst)).k==5)=(x.kind==5) from rfl] at hQ
     simp only [Bool.false_or,Bool.true_or] at hQ
     subst hQ
    all_goals
     go_wp2_with (first|(have hq:=iE;subst hq)|(have hq:=sE;subst hq)|refine s0 ?_|(refine s1 ?_;clear hS;intro w hS)|(refine s2 ?_;clear hS;intro g w hS)|(refine s4 ?_;clear hS;intro g cur cw w hw hcw hS)|(refine s3 ?_ ?_<;>intro hb<;>(try subst hb)<;>(try (exfalso;first|omega|exact Bool.noConfusion hb))))
    all_goals go_ret
    all_goals exact ⟨aX (by first|rfl|simp),hS.below⟩
end Go.Proofs.YtdicgggkdmkklaaGreatDoor
