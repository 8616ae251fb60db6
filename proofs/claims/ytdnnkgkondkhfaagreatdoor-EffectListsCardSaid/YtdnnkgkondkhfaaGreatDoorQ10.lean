/- Walks of the reference: package cardgameref16: numbered, Is of any reference. Conditions: none. Walks of the reference: package cardgameref16: Text. Conditions: none. Walks of the reference: packag -/
import Derived.Test.YtdnnkgkondkhfaaGreatDoorMSIsW
import Derived.Test.YtdnnkgkondkhfaaGreatDoorMSText
import Derived.Test.YtdnnkgkondkhfaaGreatDoorQ7
import Derived.Test.YtdnnkgkondkhfaaGreatDoorQ9
import Derived.Test.YtdnnkgkondkhfaaGreatDoorQ3
set_option linter.all false
set_option maxRecDepth 100000
set_option maxHeartbeats 16000000
namespace Go.Proofs.YtdnnkgkondkhfaaGreatDoor
attribute [local irreducible] wpList Code.wp Calls dh fK
open Go.ChangeShapes Go.WideShapes Go.RowKit
attribute [local simp] lD
theorem agA (k:Int) (w:World):Calls Tryz.prog 205 #[.int .i64 k] w fun e w'=>e= .returned (.bool (xw k))∧w=w':=by
 go_in
 go_wp2_with (have hq:=iE;subst hq)
 all_goals (go_ret;exact ⟨aX (by simp_all [xw]),rfl⟩)
instance {L:World→Prop} (k:Int):mG 205 #[.int .i64 k] L (.bool (xw k)):=⟨fun w _=>(agA k w).mono fun _ _ h=>⟨h.1,BA h.2⟩⟩
theorem agL (kind n specs:Int) (f:aH) (w0:World):
 Calls Tryz.prog 111 #[.agg (Rf.cells ⟨kind,n,f⟩), .int .i64 specs] w0 fun e w'=>e= .returned (.bool (iY ⟨kind,n,f⟩ specs))∧Below w0.heap.size w0 w':=by
 have hS:=St.Dj w0
 go_in
 go_wp2_with (first|(have hq:=iE;subst hq)|refine s0 ?_|(refine s1 ?_;clear hS;intro w hS)|(refine s2 ?_;clear hS;intro g w hS)|(refine s3 ?_ ?_<;>intro hb<;>(try subst hb)<;>(try (exfalso;first|omega|exact Bool.noConfusion hb))))
 all_goals go_ret
 all_goals refine ⟨aX ?_,hS.below⟩
 all_goals clear hS
 all_goals (simp_all [iY,xw,Pn,Int.le_min]<;>exact fin)
instance {L:World→Prop} (r:Rf) (n:Int):mG 111 #[.agg (Rf.cells r), .int .i64 n] L (.bool (iY r n)):=⟨fun w _=>agL r.kind r.n n r.f w⟩
end Go.Proofs.YtdnnkgkondkhfaaGreatDoor
namespace Go.Proofs.YtdnnkgkondkhfaaGreatDoor
attribute [local irreducible] wpList Code.wp Calls dh fK
open Go.ChangeShapes Go.WideShapes Go.RowKit
attribute [local simp] lD
theorem apw (r:Rf) (specs:Int) (R:Bool) (HR:Hid (iY r specs=R)) (w:World):Calls Tryz.prog 111 #[.agg r.cells, .int .i64 specs] w fun e w'=>e= .returned (.bool R)∧Below w.heap.size w w':=HR.out ▸ agL r.kind r.n specs r.f w
theorem aam (w:World):Calls Tryz.prog 264 #[] w (kR w qQ):=by
 go_enter Tryz.func264,Tryz.ntmps264
 go_wp2
 go_ret
 exact ⟨_,_,rfl,qw qQ _ rfl (by decide) w _ rfl,(Below.refl _ _).alloc (Nat.le_refl _) _⟩
instance {L:World→Prop} :ana 264 #[] L qQ 9:=⟨fun w _=>aam w,rfl,by decide⟩
instance:ahu qQ 20:=⟨by decide⟩
instance:SQ 1:=⟨by decide,by decide⟩
instance:SQ 2:=⟨by decide,by decide⟩
instance:SQ 3:=⟨by decide,by decide⟩
instance:SQ 4:=⟨by decide,by decide⟩
theorem YD (r:Rf) (w0:World):Calls Tryz.prog 200 #[.agg r.cells] w0 fun e w'=>e= .returned (.string (B (dI r)))∧Below w0.heap.size w0 w':=by
 have hS:=St.Dj w0
 cases hv:iY r 4
 ·go_in
  go_wp2_with (first|refine s0 ?_|(refine s1 ?_;clear hS;intro w hS)|(refine s2 ?_;clear hS;intro g w hS))
  all_goals (go_ret;refine ⟨dL ?_,hS.below⟩;clear hS;simp_all [dI])
 rcases sN hv with rfl|rfl|rfl|rfl|rfl|(rfl|rfl|rfl|rfl)|(rfl|rfl|rfl|rfl)|⟨f,hf,rfl⟩
 all_goals
  go_in
  go_wp2_with (first|refine s0 ?_|(refine s1 ?_;clear hS;intro w hS)|(refine s2 ?_;clear hS;intro g w hS)|(refine s4 ?_;clear hS;intro g cur cw w hw hcw hS))
 all_goals (go_ret;refine ⟨dL ?_,hS.below⟩;clear hS;first|(simp_all [dI,refBody,xw,wd,qQ,eF];done))
instance {L:World→Prop} (r:Rf):mG 200 #[.agg (Rf.cells r)] L (.string (B (dI r))):=⟨fun w _=>YD r w⟩
end Go.Proofs.YtdnnkgkondkhfaaGreatDoor
namespace Go.Proofs.YtdnnkgkondkhfaaGreatDoor
attribute [local irreducible] wpList Code.wp Calls dh fK
open Go.ChangeShapes Go.WideShapes Go.RowKit
attribute [local simp] lD
attribute [local go_sem] KX KW Dq
theorem SV {k n:Nat} (h:n<5):Dx k n=(k,n)::Dx k (n+1):=by
 unfold Dx;rw [show 5 - n=(5 - (n+1))+1 by omega,List.range'_succ];rfl
theorem akI {s:Str} {k n:Nat} {o:Option (Nat × Nat)} {m:List (Nat × Nat)} (h:n<5) (hq:zY s (k,n)=false) (ho:o=(Dx k n++m).find? (zY s)):o=(Dx k (n+1)++m).find? (zY s):=by
 rw [ho,SV h,List.cons_append,List.find?_cons,hq]
theorem ahE {s:Str} {k n:Nat} {o:Option (Nat × Nat)} {m:List (Nat × Nat)} (h:n<5) (hq:zY s (k,n)=true) (ho:o=(Dx k n++m).find? (zY s)):o=some (k,n):=by
 rw [ho,SV h,List.cons_append,List.find?_cons,hq]
theorem UA (s:Str) [jr s] (w0:World):Calls Tryz.prog 104 #[.string (B s)] w0 fun e w'=>e= .returned (zV (lN s))∧Below w0.heap.size w0 w':=by
 have hS:=St.Dj w0
 have hg:=acE s
 have hsz:=bC s
 have hlen:=jr.lt (s:=s)
 go_in
 go_wp2_with (first|(refine s2 ?_;clear hS;intro g w hS))
 go_loopw [4] (fun kv wr=>∃k:Nat,1≤k∧k≤9∧kv= .int .i64 k∧Hid (St (fun _=>True) w0 [(g,Rf.cells dY,TRf)] wr)∧Hid (DW s=(KR k (9 - k)).find? (zY s))) (fun kv _=>9 - (intOf kv).toNat)
 case atStart=>exact ⟨1,by omega,by omega,rfl,Lib.hid hS,rfl⟩
 case round=>
  obtain ⟨k,hk1,hk2,rfl,HS,HL⟩:=hrel
  clear hS
  have hS:=HS.out
  clear HS
  by_cases hlt:k≤8
  ·have hk8:(k:Int)≤8:=by omega
   go_wp2_with (first|fail)
   obtain ⟨wo,rfl⟩:∃wo:World,wo=wr:=⟨_,rfl⟩
   go_loopw [5] (fun nv wi=>∃n:Nat,n≤5∧nv= .int .i64 n∧Hid (St (fun _=>True) w0 [(g,Rf.cells dY,TRf)] wi)∧Hid (DW s=(Dx k n++KR (k+1) (8 - k)).find? (zY s))) (fun nv _=>5 - (intOf nv).toNat)
   case atStart=>exact ⟨0,by omega,rfl,Lib.hid hS,Lib.hid (by rw [HL.out,show 9 - k=(8 - k)+1 by omega];rfl)⟩
   case round=>
    obtain ⟨n,hn,rfl,HSi,HLi⟩:=hrel
    clear hS
    have hS:=HSi.out
    clear HSi
    by_cases hln:n<5
    ·have hn4:(n:Int)≤4:=by omega
     go_wp2_with (first|(have hq:=sE;subst hq)|refine s0 ?_|(refine s1 ?_;clear hS;intro w hS)|(refine s2 ?_;clear hS;intro g w hS)|(refine s3 ?_ ?_<;>intro hb<;>(try subst hb)<;>(try (exfalso;first|omega|exact Bool.noConfusion hb))))
     all_goals first
      |(refine res2 hS ?_
        refine ⟨ret_val ?_,hS.below⟩
        clear hS hg
        have hp:=ahE hln (by simp_all [zY,rowOf]<;>omega) HLi.out
        unfold lN
        rw [hp];rfl)
      |(go_roundw
        case rel=>exact ⟨n+1,by omega,by go_num,Lib.hid hS.tail,Lib.hid (akI hln (by clear hS hg;simp_all [zY,rowOf]<;>(intros;omega)) HLi.out)⟩
        case measure=>simp [intOf];omega)
    ·obtain rfl:n=5:=by omega
     go_wp2_with (first|fail)
     go_roundw
     case rel=>exact ⟨k+1,by omega,by omega,by go_num,Lib.hid hS,Lib.hid (by rw [HLi.out,show 9 - (k+1)=8 - k by omega];rfl)⟩
     case measure=>simp [intOf];omega
  ·obtain rfl:k=9:=by omega
   have hl:DW s=none:=HL.out
   have HL2:=Lib.hid hl
   clear hl HL
   go_wp2_with (first|refine s0 ?_|(refine s1 ?_;clear hS;intro w hS)|(refine s2 ?_;clear hS;intro g w hS)|(refine s3 ?_ ?_<;>intro hb<;>(try subst hb)<;>(try (exfalso;first|omega|exact Bool.noConfusion hb))))
   all_goals first|(refine res2 hS ?_;refine ⟨ret_val ?_,hS.below⟩;clear hS hg;have hl:=HL2.out;clear HL2)|(exfalso;clear hS hg;simp_all;done)
   all_goals (clear wr;by_cases h6:s.length<6<;>by_cases h41:aI s (s.length - 1)=41<;>cases hp:bW ((s.take (s.length - 1)).drop 5)<;>simp_all [lN,E5,zS,zV,eF,BN]<;>omega)
theorem aan (s:ByteArray) (w:World) (hs:s.size<100000000):Calls Tryz.prog 104 #[.string s] w fun e w'=>e= .returned (zV (lN (L s)))∧Below w.heap.size w w':=by
 have:jr (L s):=⟨by rw [dN];exact hs⟩
 have h:=UA (L s) w
 rwa [qV] at h
instance {L':World→Prop} (s:Str) [jr s]:mG 104 #[.string (B s)] L' (.tuple #[.agg (Rf.cells ((lN s).getD dY)), .int .i64 (BN (lN s).isSome)]):=⟨fun w _=>by rw [←Yy];exact UA s w⟩
end Go.Proofs.YtdnnkgkondkhfaaGreatDoor
namespace Go.Proofs.YtdnnkgkondkhfaaGreatDoor
attribute [local irreducible] wpList Code.wp Calls dh fK
open Go.ChangeShapes Go.WideShapes Go.RowKit
theorem agu (k n c:Int) (f:aH) (w0:World):Calls Tryz.prog 114 #[.agg (Am.cells ⟨k,n,c,f⟩)] w0 fun e w'=>e= .returned (.bool (iT ⟨k,n,c,f⟩))∧Below w0.heap.size w0 w':=by
 have hS:=St.Dj w0
 go_in
 go_wp2_with (first|(have hq:=iE;subst hq)|refine s0 ?_|(refine s1 ?_;clear hS;intro w hS)|(refine s2 ?_;clear hS;intro g w hS)|(refine s3 ?_ ?_<;>intro hb<;>(try subst hb)<;>(try (exfalso;first|omega|exact Bool.noConfusion hb))))
 all_goals go_ret
 all_goals refine ⟨aX ?_,hS.below⟩
 all_goals clear hS
 all_goals (simp_all [iT,sV,Dv,Nu,dG,lD]<;>first|omega|(rcases (by omega:c=0∨c=1∨c=2) with rfl|rfl|rfl<;>simp))
theorem apb (a:Am) (R:Bool) (HR:Hid (iT a=R)) (w:World):Calls Tryz.prog 114 #[.agg a.cells] w fun e w'=>e= .returned (.bool R)∧Below w.heap.size w w':=HR.out ▸ agu a.k a.n a.c a.f w
instance {L:World→Prop} (a:Am):mG 114 #[.agg (Am.cells a)] L (.bool (iT a)):=⟨fun w _=>agu a.k a.n a.c a.f w⟩
theorem aiZ (k n c:Int) (f:aH) (w0:World):Calls Tryz.prog 201 #[.agg (Am.cells ⟨k,n,c,f⟩)] w0 fun e w'=>e= .returned (.string (B (dW ⟨k,n,c,f⟩)))∧Below w0.heap.size w0 w':=by
 have hS:=St.Dj w0
 go_in
 go_wp2_with (first|(have hq:=iE;subst hq)|(go_at_call 83;have hn:=ajS ‹(!iT _)=false›;simp only at hn;have:Len (Lib.itoa n) 21:=⟨Lib.itoa_length_le n (by omega) (by omega)⟩;refine c_call (fun _=>qo _ _ (by omega) (by omega)) hS ?_;clear hS;intro w hS)|refine s0 ?_|(refine s1 ?_;clear hS;intro w hS)|(refine s2 ?_;clear hS;intro g w hS))
 all_goals go_ret
 all_goals refine ⟨dL ?_,hS.below⟩
 all_goals clear hS
 all_goals first|(simp_all [dW];done)|(simp_all [dW,rU,bT,fB,yU,wd,EF,iT,Dv]<;>omega)
theorem Yp (a:Am) (w:World):Calls Tryz.prog 201 #[.agg a.cells] w fun e w'=>e= .returned (.string (B (dW a)))∧Below w.heap.size w w':=aiZ a.k a.n a.c a.f w
instance {L:World→Prop} (a:Am):mG 201 #[.agg (Am.cells a)] L (.string (B (dW a))):=⟨fun w _=>Yp a w⟩
attribute [local simp] lD
attribute [local go_sem] KX KW Dq
theorem afv (s:Str) [jr s] (w:World):Calls Tryz.prog 203 #[.string (B s), .string ⟨#[99,111,117,110,116,40]⟩] w fun e w'=>e= .returned (.tuple #[.string (B ((mZ s fB).getD [])), .bool (mZ s fB).isSome])∧w=w':=by
 have hg:=acE s
 have hsz:=bC s
 have hlen:=jr.lt (s:=s)
 go_in
 go_wp2
 all_goals first
  |(exfalso;simp_all;done)
  |(go_ret2
    refine ⟨apq ?_ ?_,rfl⟩
    all_goals (clear hg;by_cases h6:s.length<7<;>by_cases h41:aI s (s.length - 1)=41<;>simp_all [mZ,insideOk,fB]<;>omega))
instance {L:World→Prop} (s:Str) [jr s]:mG 203 #[.string (B s), .string ⟨#[99,111,117,110,116,40]⟩] L (.tuple #[.string (B ((mZ s fB).getD [])), .bool (mZ s fB).isSome]):=⟨fun w _=>(afv s w).mono fun _ _ h=>⟨h.1,BA h.2⟩⟩
instance {s b:Str} [h:jr s]:jr ((mZ s b).getD []):=⟨by
 unfold mZ
 split
 ·have:=h.lt;simp;omega
 ·simp⟩
theorem agv (s:Str) [jr s] (w0:World):Calls Tryz.prog 107 #[.string (B s)] w0 fun e w'=>e= .returned (wV (ML s))∧Below w0.heap.size w0 w':=by
 have hS:=St.Dj w0
 have hg:=acE s
 have hsz:=bC s
 have hlen:=jr.lt (s:=s)
 go_in
 go_wp2_with (first|(have hq:=iE;subst hq)|(have hq:=sE;subst hq)|refine s0 ?_|(refine s1 ?_;clear hS;intro w hS)|(refine s2 ?_;clear hS;intro g w hS)|(refine s4 ?_;clear hS;intro g cur cw w hw hcw hS)|(refine s3 ?_ ?_<;>intro hb<;>(try subst hb)<;>(try (exfalso;first|omega|exact Bool.noConfusion hb))))
 generalize g=gr at *
 go_loopw [4] (fun kv wr=>∃k:Nat,1≤k∧k≤8∧kv= .int .i64 k∧Hid (St (fun _=>True) w0 [(gr,Am.cells dG,TAm)] wr)∧Hid (OZ s=(List.range' k (8 - k)).find? (Rn s))) (fun kv _=>8 - (intOf kv).toNat)
 case atStart=>exact ⟨1,by omega,by omega,rfl,Lib.hid hS,rfl⟩
 case round=>
  obtain ⟨k,hk1,hk2,rfl,HS,HL⟩:=hrel
  clear hS
  have hS:=HS.out
  clear HS
  by_cases hlt:k≤7
  ·have hk7:(k:Int)≤7:=by omega
   go_wp2_with (first|(have hq:=iE;subst hq)|(have hq:=sE;subst hq)|refine s0 ?_|(refine s1 ?_;clear hS;intro w hS)|(refine s2 ?_;clear hS;intro g w hS)|(refine s4 ?_;clear hS;intro g cur cw w hw hcw hS)|(refine s3 ?_ ?_<;>intro hb<;>(try subst hb)<;>(try (exfalso;first|omega|exact Bool.noConfusion hb))))
   all_goals first
    |(refine res2 hS ?_
      refine ⟨ret_val ?_,hS.below⟩
      clear hS hg
      have hp:=NC (by omega) (by simp_all [Rn]<;>omega) HL.out
      unfold ML
      rw [hp];rfl)
    |(go_roundw
      case rel=>exact ⟨k+1,by omega,by omega,congrArg (Value.int _) (by omega),Lib.hid hS,Lib.hid (Q5 (by omega) (by clear hS hg;simp_all [Rn]<;>omega) HL.out)⟩
      case measure=>simp [intOf]<;>omega)
  ·have hk7:¬(k:Int)≤7:=by omega
   have HFS:Hid (OZ s=none):=Lib.hid (by rw [HL.out,show k=8 by omega];rfl)
   clear HL
   go_wp2_with (first|(have hq:=iE;subst hq)|(have hq:=sE;subst hq)|refine s0 ?_|(refine s1 ?_;clear hS;intro w hS)|(refine s2 ?_;clear hS;intro g w hS)|(refine s4 ?_;clear hS;intro g cur cw w hw hcw hS)|(refine s3 ?_ ?_<;>intro hb<;>(try subst hb)<;>(try (exfalso;first|omega|exact Bool.noConfusion hb))))
   go_loopw [5] (fun cv wr=>∃c:Nat,c≤3∧cv= .int .i64 c∧Hid (St (fun _=>True) w0 [(gr,Am.cells dG,TAm)] wr)∧Hid (OY s=(List.range' c (3 - c)).find? (Rl s))) (fun cv _=>3 - (intOf cv).toNat)
   case atStart=>exact ⟨0,by omega,rfl,Lib.hid hS,rfl⟩
   case round=>
    obtain ⟨c,hc,rfl,HS,HL⟩:=hrel
    clear hS
    have hS:=HS.out
    clear HS
    by_cases hlt:c<3
    ·have hc3:(c:Int)<3:=by omega
     go_wp2_with (first|(have hq:=iE;subst hq)|(have hq:=sE;subst hq)|refine s0 ?_|(refine s1 ?_;clear hS;intro w hS)|(refine s2 ?_;clear hS;intro g w hS)|(refine s4 ?_;clear hS;intro g cur cw w hw hcw hS)|(refine s3 ?_ ?_<;>intro hb<;>(try subst hb)<;>(try (exfalso;first|omega|exact Bool.noConfusion hb))))
     all_goals first
      |(refine res2 hS ?_
        refine ⟨ret_val ?_,hS.below⟩
        clear hS hg
        have hp:=NC (by omega) (by simp_all [Rl]<;>omega) HL.out
        unfold ML
        rw [HFS.out,hp];rfl)
      |(go_roundw
        case rel=>exact ⟨c+1,by omega,congrArg (Value.int _) (by omega),Lib.hid hS,Lib.hid (Q5 (by omega) (by clear hS hg;simp_all [Rl]<;>omega) HL.out)⟩
        case measure=>simp [intOf]<;>omega)
    ·have hc3:¬(c:Int)<3:=by omega
     have HFC:Hid (OY s=none):=Lib.hid (by rw [HL.out,show c=3 by omega];rfl)
     clear HL
     go_wp2_with (first|(have hq:=iE;subst hq)|(have hq:=sE;subst hq)|refine s0 ?_|(refine s1 ?_;clear hS;intro w hS)|(refine s2 ?_;clear hS;intro g w hS)|(refine s4 ?_;clear hS;intro g cur cw w hw hcw hS)|(refine s3 ?_ ?_<;>intro hb<;>(try subst hb)<;>(try (exfalso;first|omega|exact Bool.noConfusion hb))))
     any_goals
      (refine res2 hS ?_
       refine ⟨ret_val ?_,hS.below⟩
       clear hS hg
       cases hn:rdNum s<;>simp_all [ML,HFS.out,HFC.out,Ld,wV]
       done)
     all_goals
      have HQ:Hid (ML s=CP s):=Lib.hid (by
       clear hg hS
       unfold ML
       rw [HFS.out,HFC.out]
       cases hn:rdNum s<;>simp_all [Ld]<;>omega)
      generalize g=ga at *
      go_loopw [9,10] (fun rv iv wr=>∃i:Nat,∃N:Int,∃r:Str,i≤s.length∧i≤3∧iv= .int .i64 i∧rv= .string (B r)∧Hid (jr r)∧Hid (St (fun _=>True) w0 [(ga,Am.cells ⟨2,N,0,aaB⟩,TAm),(gr,Am.cells dG,TAm)] wr)∧Hid (Fg s i=(N,r))) (fun _ iv _=>3 - (intOf iv).toNat)
      case atStart=>exact ⟨0,1,s,by omega,by omega,rfl,rfl,Lib.hid inferInstance,Lib.hid hS,rfl⟩
      case round=>
       obtain ⟨i,N,r,hi1,hi2,rfl,rfl,HSr,HS,HST⟩:=hrel
       clear hS
       have hS:=HS.out
       have hr:=HSr.out
       clear HS HSr
       by_cases hlt:i<s.length∧i<3
       ·have h1:(i:Int)<s.length:=by omega
        have h2:(i:Int)<3:=by omega
        cases h42:(((aI s i:Nat):Int)==42)
        all_goals
         go_wp2_with (first|(have hq:=iE;subst hq)|(have hq:=sE;subst hq)|refine s0 ?_|(refine s1 ?_;clear hS;intro w hS)|(refine s2 ?_;clear hS;intro g w hS)|(refine s4 ?_;clear hS;intro g cur cw w hw hcw hS)|(refine s3 ?_ ?_<;>intro hb<;>(try subst hb)<;>(try (exfalso;first|omega|exact Bool.noConfusion hb))))
         all_goals
          go_roundw
          case rel=>exact ⟨i+1,_,_,by omega,by omega,congrArg (Value.int _) (by omega),rfl,Lib.hid inferInstance,Lib.hid hS,Lib.hid (by
           rw [lT,HST.out];unfold yP
           first|rw [if_pos (by have:=eq_of_beq h42;omega)]|rw [if_neg (by have h43:=h42;simp at h43;omega)])⟩
          case measure=>simp [intOf]<;>omega
       ·have hmin:i=min s.length 3:=by omega
        have HSC:Hid (lZ s=(N,r)):=Lib.hid (by unfold lZ;rw [←hmin];exact HST.out)
        go_wp2_with (first|(have hq:=iE;subst hq)|(have hq:=sE;subst hq)|refine s0 ?_|(refine s1 ?_;clear hS;intro w hS)|(refine s2 ?_;clear hS;intro g w hS)|(refine s4 ?_;clear hS;intro g cur cw w hw hcw hS)|(refine s3 ?_ ?_<;>intro hb<;>(try subst hb)<;>(try (exfalso;first|omega|exact Bool.noConfusion hb))))
        all_goals
         refine res2 hS ?_
         refine ⟨ret_val ?_,hS.below⟩
         clear hS hg
         rw [HQ.out]
         unfold CP
         rw [HSC.out]
         cases hin:mZ r fB with
         |none=>first|(simp [wV];done)|(exfalso;have h:= ‹(mZ r fB).isNone=false›;simp [hin] at h)
         |some y=>first
          |(exfalso;have h:= ‹(mZ r fB).isNone=true›;simp [hin] at h;done)
          |(cases hp:bW y<;>first
           |(simp [*,wV];done)
           |(exfalso;have h:= ‹(bW _).isNone=_›;simp [hin,hp] at h;done)
           |(have h:= ‹(!dW _==s)=_›;simp [hin,hp] at h;simp [*,wV];done))
theorem aad (s:ByteArray) (w:World) (hs:s.size<100000000):Calls Tryz.prog 107 #[.string s] w fun e w'=>e= .returned (wV (ML (L s)))∧Below w.heap.size w w':=by
 have:jr (L s):=⟨by rw [dN];exact hs⟩
 have h:=agv (L s) w
 rwa [qV] at h
end Go.Proofs.YtdnnkgkondkhfaaGreatDoor
