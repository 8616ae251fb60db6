/- Walks of the reference: package cardgameref16: numbered, Is of any reference. Conditions: none. Walks of the reference: package cardgameref16: Text. Conditions: none. Walks of the reference: packag -/
import Derived.Test.YtdnnkgkondkhfaaGreatDoorMSIsW
import Derived.Test.YtdnnkgkondkhfaaGreatDoorMSText
import Derived.Test.YtdnnkgkondkhfaaGreatDoorQ7
import Derived.Test.YtdnnkgkondkhfaaGreatDoorQ9
import Derived.Test.YtdnnkgkondkhfaaGreatDoorQ3
set_option linter.all false
set_option maxRecDepth 100000
set_option maxHeartbeats 16000000
namespace Go.Proofs.YtdnnkgkondkhfaaGreatDoor
attribute [local irreducible] wpList Code.wp Calls dh fK
open Go.ChangeShapes Go.WideShapes Go.RowKit
attribute [local simp] lF
theorem ahP (k:Int) (w:World):Calls Tryz.prog 205 #[.int .i64 k] w fun e w'=>e= .returned (.bool (xM k))∧w=w':=by
 go_in
 go_wp2_with (have hq:=iE;subst hq)
 all_goals (go_ret;exact ⟨aX (by simp_all [xM]),rfl⟩)
instance {L:World→Prop} (k:Int):mJ 205 #[.int .i64 k] L (.bool (xM k)):=⟨fun w _=>(ahP k w).mono fun _ _ h=>⟨h.1,BZ h.2⟩⟩
theorem ah0 (kind n specs:Int) (f:aH) (w0:World):
 Calls Tryz.prog 111 #[.agg (Rf.cells ⟨kind,n,f⟩), .int .i64 specs] w0 fun e w'=>e= .returned (.bool (iZ ⟨kind,n,f⟩ specs))∧Below w0.heap.size w0 w':=by
 have hS:=St.DL w0
 go_in
 go_wp2_with (first|(have hq:=iE;subst hq)|refine s0 ?_|(refine s1 ?_;clear hS;intro w hS)|(refine s2 ?_;clear hS;intro g w hS)|(refine s3 ?_ ?_<;>intro hb<;>(try subst hb)<;>(try (exfalso;first|omega|exact Bool.noConfusion hb))))
 all_goals go_ret
 all_goals refine ⟨aX ?_,hS.below⟩
 all_goals clear hS
 all_goals (simp_all [iZ,xM,Qe,Int.le_min]<;>exact fin)
instance {L:World→Prop} (r:Rf) (n:Int):mJ 111 #[.agg (Rf.cells r), .int .i64 n] L (.bool (iZ r n)):=⟨fun w _=>ah0 r.kind r.n n r.f w⟩
end Go.Proofs.YtdnnkgkondkhfaaGreatDoor
namespace Go.Proofs.YtdnnkgkondkhfaaGreatDoor
attribute [local irreducible] wpList Code.wp Calls dh fK
open Go.ChangeShapes Go.WideShapes Go.RowKit
attribute [local simp] lF
theorem arH (r:Rf) (specs:Int) (R:Bool) (HR:Hid (iZ r specs=R)) (w:World):Calls Tryz.prog 111 #[.agg r.cells, .int .i64 specs] w fun e w'=>e= .returned (.bool R)∧Below w.heap.size w w':=HR.out ▸ ah0 r.kind r.n specs r.f w
theorem abl (w:World):Calls Tryz.prog 264 #[] w (kS w qV):=by
 go_enter Tryz.awz,Tryz.ave
 go_wp2
 go_ret
 exact ⟨_,_,rfl,qC qV _ rfl (by decide) w _ rfl,(Below.refl _ _).alloc (Nat.le_refl _) _⟩
instance {L:World→Prop} :ao9 264 #[] L qV 9:=⟨fun w _=>abl w,rfl,by decide⟩
instance:aiN qV 20:=⟨by decide⟩
instance:Uj 1:=⟨by decide,by decide⟩
instance:Uj 2:=⟨by decide,by decide⟩
instance:Uj 3:=⟨by decide,by decide⟩
instance:Uj 4:=⟨by decide,by decide⟩
theorem ZJ (r:Rf) (w0:World):Calls Tryz.prog 200 #[.agg r.cells] w0 fun e w'=>e= .returned (.string (B (dI r)))∧Below w0.heap.size w0 w':=by
 have hS:=St.DL w0
 cases hv:iZ r 4
 ·go_in
  go_wp2_with (first|refine s0 ?_|(refine s1 ?_;clear hS;intro w hS)|(refine s2 ?_;clear hS;intro g w hS))
  all_goals (go_ret;refine ⟨dL ?_,hS.below⟩;clear hS;simp_all [dI])
 rcases sV hv with rfl|rfl|rfl|rfl|rfl|(rfl|rfl|rfl|rfl)|(rfl|rfl|rfl|rfl)|⟨f,hf,rfl⟩
 all_goals
  go_in
  go_wp2_with (first|refine s0 ?_|(refine s1 ?_;clear hS;intro w hS)|(refine s2 ?_;clear hS;intro g w hS)|(refine s4 ?_;clear hS;intro g cur cw w hw hcw hS))
 all_goals (go_ret;refine ⟨dL ?_,hS.below⟩;clear hS;first|(simp_all [dI,refBody,xM,wd,qV,eF];done))
instance {L:World→Prop} (r:Rf):mJ 200 #[.agg (Rf.cells r)] L (.string (B (dI r))):=⟨fun w _=>ZJ r w⟩
end Go.Proofs.YtdnnkgkondkhfaaGreatDoor
namespace Go.Proofs.YtdnnkgkondkhfaaGreatDoor
attribute [local irreducible] wpList Code.wp Calls dh fK
open Go.ChangeShapes Go.WideShapes Go.RowKit
attribute [local simp] lF
attribute [local go_sem] LP LM DV
theorem Ul {k n:Nat} (h:n<5):D5 k n=(k,n)::D5 k (n+1):=by
 unfold D5;rw [show 5 - n=(5 - (n+1))+1 by omega,List.range'_succ];rfl
theorem amf {s:Str} {k n:Nat} {o:Option (Nat × Nat)} {m:List (Nat × Nat)} (h:n<5) (hq:Ar s (k,n)=false) (ho:o=(D5 k n++m).find? (Ar s)):o=(D5 k (n+1)++m).find? (Ar s):=by
 rw [ho,Ul h,List.cons_append,List.find?_cons,hq]
theorem aiX {s:Str} {k n:Nat} {o:Option (Nat × Nat)} {m:List (Nat × Nat)} (h:n<5) (hq:Ar s (k,n)=true) (ho:o=(D5 k n++m).find? (Ar s)):o=some (k,n):=by
 rw [ho,Ul h,List.cons_append,List.find?_cons,hq]
theorem Vx (s:Str) [jw s] (w0:World):Calls Tryz.prog 104 #[.string (B s)] w0 fun e w'=>e= .returned (Ak (lQ s))∧Below w0.heap.size w0 w':=by
 have hS:=St.DL w0
 have hg:=adS s
 have hsz:=bC s
 have hlen:=jw.lt (s:=s)
 go_in
 go_wp2_with (first|(refine s2 ?_;clear hS;intro g w hS))
 go_loopw [4] (fun kv wr=>∃k:Nat,1≤k∧k≤9∧kv= .int .i64 k∧Hid (St (fun _=>True) w0 [(g,Rf.cells dY,TRf)] wr)∧Hid (Eo s=(LH k (9 - k)).find? (Ar s))) (fun kv _=>9 - (intOf kv).toNat)
 case atStart=>exact ⟨1,by omega,by omega,rfl,Lib.hid hS,rfl⟩
 case round=>
  obtain ⟨k,hk1,hk2,rfl,HS,HL⟩:=hrel
  clear hS
  have hS:=HS.out
  clear HS
  by_cases hlt:k≤8
  ·have hk8:(k:Int)≤8:=by omega
   go_wp2_with (first|fail)
   obtain ⟨wo,rfl⟩:∃wo:World,wo=wr:=⟨_,rfl⟩
   go_loopw [5] (fun nv wi=>∃n:Nat,n≤5∧nv= .int .i64 n∧Hid (St (fun _=>True) w0 [(g,Rf.cells dY,TRf)] wi)∧Hid (Eo s=(D5 k n++LH (k+1) (8 - k)).find? (Ar s))) (fun nv _=>5 - (intOf nv).toNat)
   case atStart=>exact ⟨0,by omega,rfl,Lib.hid hS,Lib.hid (by rw [HL.out,show 9 - k=(8 - k)+1 by omega];rfl)⟩
   case round=>
    obtain ⟨n,hn,rfl,HSi,HLi⟩:=hrel
    clear hS
    have hS:=HSi.out
    clear HSi
    by_cases hln:n<5
    ·have hn4:(n:Int)≤4:=by omega
     go_wp2_with (first|(have hq:=sE;subst hq)|refine s0 ?_|(refine s1 ?_;clear hS;intro w hS)|(refine s2 ?_;clear hS;intro g w hS)|(refine s3 ?_ ?_<;>intro hb<;>(try subst hb)<;>(try (exfalso;first|omega|exact Bool.noConfusion hb))))
     all_goals first
      |(refine res2 hS ?_
        refine ⟨ret_val ?_,hS.below⟩
        clear hS hg
        have hp:=aiX hln (by simp_all [Ar,rowOf]<;>omega) HLi.out
        unfold lQ
        rw [hp];rfl)
      |(go_roundw
        case rel=>exact ⟨n+1,by omega,by go_num,Lib.hid hS.tail,Lib.hid (amf hln (by clear hS hg;simp_all [Ar,rowOf]<;>(intros;omega)) HLi.out)⟩
        case measure=>simp [intOf];omega)
    ·obtain rfl:n=5:=by omega
     go_wp2_with (first|fail)
     go_roundw
     case rel=>exact ⟨k+1,by omega,by omega,by go_num,Lib.hid hS,Lib.hid (by rw [HLi.out,show 9 - (k+1)=8 - k by omega];rfl)⟩
     case measure=>simp [intOf];omega
  ·obtain rfl:k=9:=by omega
   have hl:Eo s=none:=HL.out
   have HL2:=Lib.hid hl
   clear hl HL
   go_wp2_with (first|refine s0 ?_|(refine s1 ?_;clear hS;intro w hS)|(refine s2 ?_;clear hS;intro g w hS)|(refine s3 ?_ ?_<;>intro hb<;>(try subst hb)<;>(try (exfalso;first|omega|exact Bool.noConfusion hb))))
   all_goals first|(refine res2 hS ?_;refine ⟨ret_val ?_,hS.below⟩;clear hS hg;have hl:=HL2.out;clear HL2)|(exfalso;clear hS hg;simp_all;done)
   all_goals (clear wr;by_cases h6:s.length<6<;>by_cases h41:aI s (s.length - 1)=41<;>cases hp:bW ((s.take (s.length - 1)).drop 5)<;>simp_all [lQ,FQ,Ah,Ak,eF,CO]<;>omega)
theorem abm (s:ByteArray) (w:World) (hs:s.size<100000000):Calls Tryz.prog 104 #[.string s] w fun e w'=>e= .returned (Ak (lQ (L s)))∧Below w.heap.size w w':=by
 have:jw (L s):=⟨by rw [dN];exact hs⟩
 have h:=Vx (L s) w
 rwa [qY] at h
instance {L':World→Prop} (s:Str) [jw s]:mJ 104 #[.string (B s)] L' (.tuple #[.agg (Rf.cells ((lQ s).getD dY)), .int .i64 (CO (lQ s).isSome)]):=⟨fun w _=>by rw [←ZE];exact Vx s w⟩
end Go.Proofs.YtdnnkgkondkhfaaGreatDoor
namespace Go.Proofs.YtdnnkgkondkhfaaGreatDoor
attribute [local irreducible] wpList Code.wp Calls dh fK
open Go.ChangeShapes Go.WideShapes Go.RowKit
theorem ahJ (k n c:Int) (f:aH) (w0:World):Calls Tryz.prog 114 #[.agg (Am.cells ⟨k,n,c,f⟩)] w0 fun e w'=>e= .returned (.bool (iU ⟨k,n,c,f⟩))∧Below w0.heap.size w0 w':=by
 have hS:=St.DL w0
 go_in
 go_wp2_with (first|(have hq:=iE;subst hq)|refine s0 ?_|(refine s1 ?_;clear hS;intro w hS)|(refine s2 ?_;clear hS;intro g w hS)|(refine s3 ?_ ?_<;>intro hb<;>(try subst hb)<;>(try (exfalso;first|omega|exact Bool.noConfusion hb))))
 all_goals go_ret
 all_goals refine ⟨aX ?_,hS.below⟩
 all_goals clear hS
 all_goals (simp_all [iU,tC,DY,N9,dG,lF]<;>first|omega|(rcases (by omega:c=0∨c=1∨c=2) with rfl|rfl|rfl<;>simp))
theorem ark (a:Am) (R:Bool) (HR:Hid (iU a=R)) (w:World):Calls Tryz.prog 114 #[.agg a.cells] w fun e w'=>e= .returned (.bool R)∧Below w.heap.size w w':=HR.out ▸ ahJ a.k a.n a.c a.f w
instance {L:World→Prop} (a:Am):mJ 114 #[.agg (Am.cells a)] L (.bool (iU a)):=⟨fun w _=>ahJ a.k a.n a.c a.f w⟩
theorem akw (k n c:Int) (f:aH) (w0:World):Calls Tryz.prog 201 #[.agg (Am.cells ⟨k,n,c,f⟩)] w0 fun e w'=>e= .returned (.string (B (dW ⟨k,n,c,f⟩)))∧Below w0.heap.size w0 w':=by
 have hS:=St.DL w0
 go_in
 go_wp2_with (first|(have hq:=iE;subst hq)|(go_at_call 83;have hn:=alq ‹(!iU _)=false›;simp only at hn;have:Len (Lib.itoa n) 21:=⟨Lib.itoa_length_le n (by omega) (by omega)⟩;refine c_call (fun _=>qA _ _ (by omega) (by omega)) hS ?_;clear hS;intro w hS)|refine s0 ?_|(refine s1 ?_;clear hS;intro w hS)|(refine s2 ?_;clear hS;intro g w hS))
 all_goals go_ret
 all_goals refine ⟨dL ?_,hS.below⟩
 all_goals clear hS
 all_goals first|(simp_all [dW];done)|(simp_all [dW,rZ,bT,fB,zC,wd,EZ,iU,DY]<;>omega)
theorem Zv (a:Am) (w:World):Calls Tryz.prog 201 #[.agg a.cells] w fun e w'=>e= .returned (.string (B (dW a)))∧Below w.heap.size w w':=akw a.k a.n a.c a.f w
instance {L:World→Prop} (a:Am):mJ 201 #[.agg (Am.cells a)] L (.string (B (dW a))):=⟨fun w _=>Zv a w⟩
attribute [local simp] lF
attribute [local go_sem] LP LM DV
theorem agP (s:Str) [jw s] (w:World):Calls Tryz.prog 203 #[.string (B s), .string ⟨#[99,111,117,110,116,40]⟩] w fun e w'=>e= .returned (.tuple #[.string (B ((ng s fB).getD [])), .bool (ng s fB).isSome])∧w=w':=by
 have hg:=adS s
 have hsz:=bC s
 have hlen:=jw.lt (s:=s)
 go_in
 go_wp2
 all_goals first
  |(exfalso;simp_all;done)
  |(go_ret2
    refine ⟨arB ?_ ?_,rfl⟩
    all_goals (clear hg;by_cases h6:s.length<7<;>by_cases h41:aI s (s.length - 1)=41<;>simp_all [ng,insideOk,fB]<;>omega))
instance {L:World→Prop} (s:Str) [jw s]:mJ 203 #[.string (B s), .string ⟨#[99,111,117,110,116,40]⟩] L (.tuple #[.string (B ((ng s fB).getD [])), .bool (ng s fB).isSome]):=⟨fun w _=>(agP s w).mono fun _ _ h=>⟨h.1,BZ h.2⟩⟩
instance {s b:Str} [h:jw s]:jw ((ng s b).getD []):=⟨by
 unfold ng
 split
 ·have:=h.lt;simp;omega
 ·simp⟩
theorem ahK (s:Str) [jw s] (w0:World):Calls Tryz.prog 107 #[.string (B s)] w0 fun e w'=>e= .returned (xA (Nw s))∧Below w0.heap.size w0 w':=by
 have hS:=St.DL w0
 have hg:=adS s
 have hsz:=bC s
 have hlen:=jw.lt (s:=s)
 go_in
 go_wp2_with (first|(have hq:=iE;subst hq)|(have hq:=sE;subst hq)|refine s0 ?_|(refine s1 ?_;clear hS;intro w hS)|(refine s2 ?_;clear hS;intro g w hS)|(refine s4 ?_;clear hS;intro g cur cw w hw hcw hS)|(refine s3 ?_ ?_<;>intro hb<;>(try subst hb)<;>(try (exfalso;first|omega|exact Bool.noConfusion hb))))
 generalize g=gr at *
 go_loopw [4] (fun kv wr=>∃k:Nat,1≤k∧k≤8∧kv= .int .i64 k∧Hid (St (fun _=>True) w0 [(gr,Am.cells dG,y9)] wr)∧Hid (PX s=(List.range' k (8 - k)).find? (SK s))) (fun kv _=>8 - (intOf kv).toNat)
 case atStart=>exact ⟨1,by omega,by omega,rfl,Lib.hid hS,rfl⟩
 case round=>
  obtain ⟨k,hk1,hk2,rfl,HS,HL⟩:=hrel
  clear hS
  have hS:=HS.out
  clear HS
  by_cases hlt:k≤7
  ·have hk7:(k:Int)≤7:=by omega
   go_wp2_with (first|(have hq:=iE;subst hq)|(have hq:=sE;subst hq)|refine s0 ?_|(refine s1 ?_;clear hS;intro w hS)|(refine s2 ?_;clear hS;intro g w hS)|(refine s4 ?_;clear hS;intro g cur cw w hw hcw hS)|(refine s3 ?_ ?_<;>intro hb<;>(try subst hb)<;>(try (exfalso;first|omega|exact Bool.noConfusion hb))))
   all_goals first
    |(refine res2 hS ?_
      refine ⟨ret_val ?_,hS.below⟩
      clear hS hg
      have hp:=Og (by omega) (by simp_all [SK]<;>omega) HL.out
      unfold Nw
      rw [hp];rfl)
    |(go_roundw
      case rel=>exact ⟨k+1,by omega,by omega,congrArg (Value.int _) (by omega),Lib.hid hS,Lib.hid (RZ (by omega) (by clear hS hg;simp_all [SK]<;>omega) HL.out)⟩
      case measure=>simp [intOf]<;>omega)
  ·have hk7:¬(k:Int)≤7:=by omega
   have HFS:Hid (PX s=none):=Lib.hid (by rw [HL.out,show k=8 by omega];rfl)
   clear HL
   go_wp2_with (first|(have hq:=iE;subst hq)|(have hq:=sE;subst hq)|refine s0 ?_|(refine s1 ?_;clear hS;intro w hS)|(refine s2 ?_;clear hS;intro g w hS)|(refine s4 ?_;clear hS;intro g cur cw w hw hcw hS)|(refine s3 ?_ ?_<;>intro hb<;>(try subst hb)<;>(try (exfalso;first|omega|exact Bool.noConfusion hb))))
   go_loopw [5] (fun cv wr=>∃c:Nat,c≤3∧cv= .int .i64 c∧Hid (St (fun _=>True) w0 [(gr,Am.cells dG,y9)] wr)∧Hid (PW s=(List.range' c (3 - c)).find? (SI s))) (fun cv _=>3 - (intOf cv).toNat)
   case atStart=>exact ⟨0,by omega,rfl,Lib.hid hS,rfl⟩
   case round=>
    obtain ⟨c,hc,rfl,HS,HL⟩:=hrel
    clear hS
    have hS:=HS.out
    clear HS
    by_cases hlt:c<3
    ·have hc3:(c:Int)<3:=by omega
     go_wp2_with (first|(have hq:=iE;subst hq)|(have hq:=sE;subst hq)|refine s0 ?_|(refine s1 ?_;clear hS;intro w hS)|(refine s2 ?_;clear hS;intro g w hS)|(refine s4 ?_;clear hS;intro g cur cw w hw hcw hS)|(refine s3 ?_ ?_<;>intro hb<;>(try subst hb)<;>(try (exfalso;first|omega|exact Bool.noConfusion hb))))
     all_goals first
      |(refine res2 hS ?_
        refine ⟨ret_val ?_,hS.below⟩
        clear hS hg
        have hp:=Og (by omega) (by simp_all [SI]<;>omega) HL.out
        unfold Nw
        rw [HFS.out,hp];rfl)
      |(go_roundw
        case rel=>exact ⟨c+1,by omega,congrArg (Value.int _) (by omega),Lib.hid hS,Lib.hid (RZ (by omega) (by clear hS hg;simp_all [SI]<;>omega) HL.out)⟩
        case measure=>simp [intOf]<;>omega)
    ·have hc3:¬(c:Int)<3:=by omega
     have HFC:Hid (PW s=none):=Lib.hid (by rw [HL.out,show c=3 by omega];rfl)
     clear HL
     go_wp2_with (first|(have hq:=iE;subst hq)|(have hq:=sE;subst hq)|refine s0 ?_|(refine s1 ?_;clear hS;intro w hS)|(refine s2 ?_;clear hS;intro g w hS)|(refine s4 ?_;clear hS;intro g cur cw w hw hcw hS)|(refine s3 ?_ ?_<;>intro hb<;>(try subst hb)<;>(try (exfalso;first|omega|exact Bool.noConfusion hb))))
     any_goals
      (refine res2 hS ?_
       refine ⟨ret_val ?_,hS.below⟩
       clear hS hg
       cases hn:rdNum s<;>simp_all [Nw,HFS.out,HFC.out,L6,xA]
       done)
     all_goals
      have HQ:Hid (Nw s=Dp s):=Lib.hid (by
       clear hg hS
       unfold Nw
       rw [HFS.out,HFC.out]
       cases hn:rdNum s<;>simp_all [L6]<;>omega)
      generalize g=ga at *
      go_loopw [9,10] (fun rv iv wr=>∃i:Nat,∃N:Int,∃r:Str,i≤s.length∧i≤3∧iv= .int .i64 i∧rv= .string (B r)∧Hid (jw r)∧Hid (St (fun _=>True) w0 [(ga,Am.cells ⟨2,N,0,zeroF⟩,y9),(gr,Am.cells dG,y9)] wr)∧Hid (FY s i=(N,r))) (fun _ iv _=>3 - (intOf iv).toNat)
      case atStart=>exact ⟨0,1,s,by omega,by omega,rfl,rfl,Lib.hid inferInstance,Lib.hid hS,rfl⟩
      case round=>
       obtain ⟨i,N,r,hi1,hi2,rfl,rfl,HSr,HS,HST⟩:=hrel
       clear hS
       have hS:=HS.out
       have hr:=HSr.out
       clear HS HSr
       by_cases hlt:i<s.length∧i<3
       ·have h1:(i:Int)<s.length:=by omega
        have h2:(i:Int)<3:=by omega
        cases h42:(((aI s i:Nat):Int)==42)
        all_goals
         go_wp2_with (first|(have hq:=iE;subst hq)|(have hq:=sE;subst hq)|refine s0 ?_|(refine s1 ?_;clear hS;intro w hS)|(refine s2 ?_;clear hS;intro g w hS)|(refine s4 ?_;clear hS;intro g cur cw w hw hcw hS)|(refine s3 ?_ ?_<;>intro hb<;>(try subst hb)<;>(try (exfalso;first|omega|exact Bool.noConfusion hb))))
         all_goals
          go_roundw
          case rel=>exact ⟨i+1,_,_,by omega,by omega,congrArg (Value.int _) (by omega),rfl,Lib.hid inferInstance,Lib.hid hS,Lib.hid (by
           rw [lU,HST.out];unfold zn
           first|rw [if_pos (by have:=eq_of_beq h42;omega)]|rw [if_neg (by have h43:=h42;simp at h43;omega)])⟩
          case measure=>simp [intOf]<;>omega
       ·have hmin:i=min s.length 3:=by omega
        have HSC:Hid (l7 s=(N,r)):=Lib.hid (by unfold l7;rw [←hmin];exact HST.out)
        go_wp2_with (first|(have hq:=iE;subst hq)|(have hq:=sE;subst hq)|refine s0 ?_|(refine s1 ?_;clear hS;intro w hS)|(refine s2 ?_;clear hS;intro g w hS)|(refine s4 ?_;clear hS;intro g cur cw w hw hcw hS)|(refine s3 ?_ ?_<;>intro hb<;>(try subst hb)<;>(try (exfalso;first|omega|exact Bool.noConfusion hb))))
        all_goals
         refine res2 hS ?_
         refine ⟨ret_val ?_,hS.below⟩
         clear hS hg
         rw [HQ.out]
         unfold Dp
         rw [HSC.out]
         cases hin:ng r fB with
         |none=>first|(simp [xA];done)|(exfalso;have h:= ‹(ng r fB).isNone=false›;simp [hin] at h)
         |some y=>first
          |(exfalso;have h:= ‹(ng r fB).isNone=true›;simp [hin] at h;done)
          |(cases hp:bW y<;>first
           |(simp [*,xA];done)
           |(exfalso;have h:= ‹(bW _).isNone=_›;simp [hin,hp] at h;done)
           |(have h:= ‹(!dW _==s)=_›;simp [hin,hp] at h;simp [*,xA];done))
theorem aa9 (s:ByteArray) (w:World) (hs:s.size<100000000):Calls Tryz.prog 107 #[.string s] w fun e w'=>e= .returned (xA (Nw (L s)))∧Below w.heap.size w w':=by
 have:jw (L s):=⟨by rw [dN];exact hs⟩
 have h:=ahK (L s) w
 rwa [qY] at h
end Go.Proofs.YtdnnkgkondkhfaaGreatDoor
