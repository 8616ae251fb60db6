/- Walks: the reference of chapter 17: read. Conditions: LaidM; the modifications lie in memory; the text is shorter than a hundred million bytes. Walks: the reference of chapter 17: Parse. Conditions -/
import Derived.Test.YtdnnkgkondkhfaaGreatDoorQ12
import Derived.Test.YtdnnkgkondkhfaaGreatDoorQ7
import Derived.Test.YtdnnkgkondkhfaaGreatDoorQ10
import Derived.Test.YtdnnkgkondkhfaaGreatDoorQ6
import Derived.Test.YtdnnkgkondkhfaaGreatDoorQ4
import Derived.Test.YtdnnkgkondkhfaaGreatDoorQ3
import Derived.Test.YtdnnkgkondkhfaaGreatDoorMEMem
set_option linter.all false
set_option maxRecDepth 100000
set_option maxHeartbeats 16000000
namespace Go.Proofs.YtdnnkgkondkhfaaGreatDoor
attribute [local irreducible] wpList Code.wp Calls
open Go.ChangeShapes Go.WideShapes Go.RowKit
theorem anU:∀k:Fin 3,dw (k.val:Int)=wd uT k.val:=by decide +kernel
theorem ZY (s:Str) (w0:World):Calls Tryz.prog 106 #[.string (B s)] w0 fun e w'=>e= .returned (.tuple #[.int .i64 (((jF s).getD 0:Nat):Int), .bool (jF s).isSome])∧Below w0.heap.size w0 w':=by
 obtain ⟨R,hR⟩:∃R,jF s=R:=⟨_,rfl⟩
 rw [hR]
 have HR:Hid (((List.range' 0 3).find? fun k=>wd uT k==s)=R):=Lib.hid hR
 clear hR
 have hS:=St.start (L:=fun _=>True) (w:=w0) trivial (fun _ _ _ _=>trivial)
 go_enter Tryz.func106,Tryz.ntmps106
 go_wp2_with (first|fail)
 go_loopw [4] (fun kv wr=>∃k:Nat,k≤3∧kv= .int .i64 k∧Hid (((List.range' k (3 - k)).find? fun k=>wd uT k==s)=R)∧Hid (St (fun _=>True) w0 [] wr)) (fun kv _=>3 - (intOf kv).toNat)
 case atStart=>exact ⟨0,by omega,rfl,HR,Lib.hid hS⟩
 case round=>
  clear hS
  obtain ⟨k,hk,rfl,HD,HS⟩:=hrel
  have hS:=HS.out
  clear HS
  by_cases hlt:k<3
  ·have hst:=HD.out
   have hcw:=anU ⟨k,hlt⟩
   simp only at hcw
   rw [show 3 - k=(3 - (k+1))+1 by omega,List.range'_succ,List.find?_cons,←hcw] at hst
   clear hcw
   obtain ⟨x,hx⟩:∃x,dw (k:Int)=x:=⟨_,rfl⟩
   rw [hx] at hst
   have HX:=Lib.hid hx
   clear hx HD
   cases he:(x==s) with
   |true=>
    rw [he] at hst
    have HN:=Lib.hid hst
    clear hst
    go_wp2_with (first|((first|(with_reducible refine aB ?_)|(with_reducible refine aT ?_));(have hq:=str_eq (by assumption);subst hq))|(go_at_call 112;(with_reducible refine (St.still hS fun hl=>DX _ _ HX _).mono ?_);rintro e w ⟨rfl,hS⟩))
    all_goals go_ret2
    all_goals exact ⟨by rw [←HN.out];rfl,hS.below⟩
   |false=>
    rw [he] at hst
    have HN:=Lib.hid hst
    clear hst
    go_wp2_with (first|(go_at_call 112;(with_reducible refine (St.still hS fun hl=>DX _ _ HX _).mono ?_);rintro e w ⟨rfl,hS⟩))
    go_roundw
    case rel=>exact ⟨k+1,by omega,by go_num,HN,Lib.hid hS⟩
    case measure=>simp [intOf];omega
  ·obtain rfl:k=3:=by omega
   have HN:Hid (none=R):=Lib.hid (by rw [←HD.out];rfl)
   go_wp2_with (first|fail)
   all_goals go_ret2
   all_goals exact ⟨by rw [←HN.out];rfl,hS.below⟩
theorem adf (s:Str) (n:Int) (b:Bool) (h:Hid ((((jF s).getD 0:Nat):Int)=n∧(jF s).isSome=b)) (w:World):Calls Tryz.prog 106 #[.string (B s)] w fun e w'=>e= .returned (.tuple #[.int .i64 n, .bool b])∧Below w.heap.size w w':=
 (ZY s w).mono fun e w' h'=>⟨by rw [h'.1,h.out.1,h.out.2],h'.2⟩
theorem ar4 (s:Str) (X:Rf) (K:Int) (h:Hid ((dX s).getD dY=X∧rfE (dX s)=K)) (hs:s.length<100000000) (w:World):Calls Tryz.prog 104 #[.string (B s)] w fun e w'=>e= .returned (.tuple #[.agg X.cells, .int .i64 K])∧Below w.heap.size w w':=
 (aan (B s) w (by rw [bC];exact hs)).mono fun e w' ⟨he,hb⟩=>⟨he.trans (by rw [cO,X8,Uy,h.out.1,h.out.2]),hb⟩
theorem ar2 (s:Str) (X:Am) (K:Int) (h:Hid ((eY s).getD dG=X∧amE (eY s)=K)) (hs:s.length<100000000) (w:World):Calls Tryz.prog 107 #[.string (B s)] w fun e w'=>e= .returned (.tuple #[.agg X.cells, .int .i64 K])∧Below w.heap.size w w':=
 (aad (B s) w (by rw [bC];exact hs)).mono fun e w' ⟨he,hb⟩=>⟨he.trans (by rw [cO,aoW,V7,h.out.1,h.out.2]),hb⟩
theorem ar0 (s:Str) (X:Po) (K:Int) (h:Hid ((dU s).getD bn=X∧poE (dU s)=K)) (hs:s.length<100000000) (w:World) (hl:Laid w):Calls Tryz.prog 109 #[.string (B s)] w fun e w'=>e= .returned (.tuple #[.agg X.cells, .int .i64 K])∧Below w.heap.size w w':=
 (NT s hs w hl).mono fun e w' ⟨he,hb⟩=>⟨he.trans (by rw [XP,h.out.1,h.out.2]),hb⟩
theorem acz (o:Option aH):ER o= .tuple #[.agg (aH.cells (o.getD aaB)), .int .i64 (Jm o)]:=by cases o<;>rfl
theorem ar1 (s:Str) (X:aH) (K:Int) (h:Hid ((bW s).getD aaB=X∧Jm (bW s)=K)) (hs:s.length<100000000) (w:World):Calls Tryz.prog 72 #[.string (B s)] w fun e w'=>e= .returned (.tuple #[.agg X.cells, .int .i64 K])∧Below w.heap.size w w':=
 (GL (B s) w (by rw [bC];exact hs)).mono fun e w' ⟨he,hb⟩=>⟨he.trans (by rw [cO,JU,acz,h.out.1,h.out.2]),hb⟩
theorem apr (o:Option Rf):(rfE o==0)=o.isSome:=by cases o<;>rfl
theorem anN (o:Option Am):(amE o==0)=o.isSome:=by cases o<;>rfl
theorem aoU (o:Option Po):(poE o==0)=o.isSome:=by cases o<;>rfl
theorem alm (o:Option aH):(Jm o==0)=o.isSome:=by cases o<;>rfl
abbrev RD (e':Ef) (v:Sl) (b:Bool) (w:World) (x:Ending) (w':World):Prop:=x= .returned (.tuple #[.agg (e'.at v).cells, .bool b])∧Below w.heap.size w w'
theorem agr (e:Ef) (v:Sl) (s:Str) (hs:s.length<100000000) (w:World) (hl:bQ e v w):Calls Tryz.prog 44 #[.agg (e.at v).cells, .int .u8 114, .string (B s)] w (RD { e with ref:=(dX s).getD dY } v (dX s).isSome w):=by
 obtain ⟨K,hK⟩:∃K,rfE (dX s)=K:=⟨_,rfl⟩
 obtain ⟨X,hX⟩:∃X,(dX s).getD dY=X:=⟨_,rfl⟩
 obtain ⟨b,hb⟩:∃b,(dX s).isSome=b:=⟨_,rfl⟩
 have hb0:(K==0)=b:=by rw [←hK,←hb,apr]
 have HX:=Lib.hid (And.intro hX hK)
 rw [hX,hb]
 clear hX hK hb
 have hS:=St.start hl (jL e v)
 go_enter Tryz.func44,Tryz.ntmps44
 go_wp2_with (first|fail|((refine aF rfl ?_);(first|((with_reducible refine aC (T:=35) ?_);(first|(refine iC rfl hS rfl rfl (by repeat constructor) ?_));(try simp only [ah,ak,au,ay,aA]))|((with_reducible refine aC (T:=28) ?_);(first|(refine amF rfl hS rfl rfl (by repeat constructor) ?_));(try simp only [ah,ak,au,ay,aA]))|((with_reducible refine bI ?_);(first|(refine aG rfl hS rfl rfl ?_;intro g w hS));(try simp only [ah,ak,au,ay,aA]))|((with_reducible refine aW ?_);(first|(refine aJ 35 rfl hS rfl _ jd ?_;intro g w hS)|(refine aJ 28 rfl hS rfl _ amG ?_;intro g w hS));(try simp only [ah,ak,au,ay,aA]))|((with_reducible refine aN ?_);(first|(refine gJ rfl hS rfl rfl rfl (by repeat constructor) ?_;intro w hS)|(refine ae9 rfl hS rfl rfl rfl (by repeat constructor) ?_;intro w hS)|(refine amI rfl hS rfl rfl rfl (by repeat constructor) ?_;intro w hS));(try simp only [ah,ak,au,ay,aA]))))|((fail_if_success (with_reducible refine aB ?_));(first|(go_at_call 104;(with_reducible refine (St.call hS fun hl=>ar4 s X K HX hs _).mono ?_);rintro e w ⟨rfl,hS⟩))))
 all_goals (refine jy hS rfl rfl (by repeat constructor) rfl rfl (fun hb=>⟨rfl,hb⟩))
theorem agk (e:Ef) (v:Sl) (s:Str) (hs:s.length<100000000) (w:World) (hl:bQ e v w):Calls Tryz.prog 44 #[.agg (e.at v).cells, .int .u8 97, .string (B s)] w (RD { e with amt:=(eY s).getD dG } v (eY s).isSome w):=by
 obtain ⟨K,hK⟩:∃K,amE (eY s)=K:=⟨_,rfl⟩
 obtain ⟨X,hX⟩:∃X,(eY s).getD dG=X:=⟨_,rfl⟩
 obtain ⟨b,hb⟩:∃b,(eY s).isSome=b:=⟨_,rfl⟩
 have hb0:(K==0)=b:=by rw [←hK,←hb,anN]
 have HX:=Lib.hid (And.intro hX hK)
 rw [hX,hb]
 clear hX hK hb
 have hS:=St.start hl (jL e v)
 go_enter Tryz.func44,Tryz.ntmps44
 go_wp2_with (first|fail|((refine aF rfl ?_);(first|((with_reducible refine aC (T:=35) ?_);(first|(refine iC rfl hS rfl rfl (by repeat constructor) ?_));(try simp only [ah,ak,au,ay,aA]))|((with_reducible refine aC (T:=30) ?_);(first|(refine akB rfl hS rfl rfl (by repeat constructor) ?_));(try simp only [ah,ak,au,ay,aA]))|((with_reducible refine bI ?_);(first|(refine aG rfl hS rfl rfl ?_;intro g w hS));(try simp only [ah,ak,au,ay,aA]))|((with_reducible refine aW ?_);(first|(refine aJ 35 rfl hS rfl _ jd ?_;intro g w hS)|(refine aJ 30 rfl hS rfl _ akC ?_;intro g w hS));(try simp only [ah,ak,au,ay,aA]))|((with_reducible refine aN ?_);(first|(refine gJ rfl hS rfl rfl rfl (by repeat constructor) ?_;intro w hS)|(refine aaU rfl hS rfl rfl rfl (by repeat constructor) ?_;intro w hS)|(refine akE rfl hS rfl rfl rfl (by repeat constructor) ?_;intro w hS));(try simp only [ah,ak,au,ay,aA]))))|((fail_if_success (with_reducible refine aB ?_));(first|(go_at_call 107;(with_reducible refine (St.call hS fun hl=>ar2 s X K HX hs _).mono ?_);rintro e w ⟨rfl,hS⟩))))
 all_goals (refine jy hS rfl rfl (by repeat constructor) rfl rfl (fun hb=>⟨rfl,hb⟩))
theorem agq (e:Ef) (v:Sl) (s:Str) (hs:s.length<100000000) (w:World) (hl:bQ e v w):Calls Tryz.prog 44 #[.agg (e.at v).cells, .int .u8 112, .string (B s)] w (RD { e with pool:=(dU s).getD bn } v (dU s).isSome w):=by
 obtain ⟨K,hK⟩:∃K,poE (dU s)=K:=⟨_,rfl⟩
 obtain ⟨X,hX⟩:∃X,(dU s).getD bn=X:=⟨_,rfl⟩
 obtain ⟨b,hb⟩:∃b,(dU s).isSome=b:=⟨_,rfl⟩
 have hb0:(K==0)=b:=by rw [←hK,←hb,aoU]
 have HX:=Lib.hid (And.intro hX hK)
 rw [hX,hb]
 clear hX hK hb
 have hS:=St.start hl (jL e v)
 go_enter Tryz.func44,Tryz.ntmps44
 go_wp2_with (first|fail|((refine aF rfl ?_);(first|((with_reducible refine aC (T:=35) ?_);(first|(refine iC rfl hS rfl rfl (by repeat constructor) ?_));(try simp only [ah,ak,au,ay,aA]))|((with_reducible refine aC (T:=32) ?_);(first|(refine Lc rfl hS rfl rfl (by repeat constructor) ?_));(try simp only [ah,ak,au,ay,aA]))|((with_reducible refine bI ?_);(first|(refine aG rfl hS rfl rfl ?_;intro g w hS));(try simp only [ah,ak,au,ay,aA]))|((with_reducible refine aW ?_);(first|(refine aJ 35 rfl hS rfl _ jd ?_;intro g w hS)|(refine aJ 32 rfl hS rfl _ yI ?_;intro g w hS));(try simp only [ah,ak,au,ay,aA]))|((with_reducible refine aN ?_);(first|(refine gJ rfl hS rfl rfl rfl (by repeat constructor) ?_;intro w hS)|(refine aaZ rfl hS rfl rfl rfl (by repeat constructor) ?_;intro w hS)|(refine yK rfl hS rfl rfl rfl (by repeat constructor) ?_;intro w hS));(try simp only [ah,ak,au,ay,aA]))))|((fail_if_success (with_reducible refine aB ?_));(first|(go_at_call 109;(with_reducible refine (St.call hS fun hl=>ar0 s X K HX hs _ hl.1.base).mono ?_);rintro e w ⟨rfl,hS⟩))))
 all_goals (refine jy hS rfl rfl (by repeat constructor) rfl rfl (fun hb=>⟨rfl,hb⟩))
theorem agn (e:Ef) (v:Sl) (s:Str) (w:World) (hl:bQ e v w):Calls Tryz.prog 44 #[.agg (e.at v).cells, .int .u8 107, .string (B s)] w (RD { e with ctr:=(((jF s).getD 0:Nat):Int) } v (jF s).isSome w):=by
 obtain ⟨X,hX⟩:∃X,(((jF s).getD 0:Nat):Int)=X:=⟨_,rfl⟩
 obtain ⟨b,hb⟩:∃b,(jF s).isSome=b:=⟨_,rfl⟩
 have HX:=Lib.hid (And.intro hX hb)
 rw [hX,hb]
 clear hX hb
 have hS:=St.start hl (jL e v)
 go_enter Tryz.func44,Tryz.ntmps44
 go_wp2_with (first|fail|((refine aF rfl ?_);(first|((with_reducible refine aC (T:=35) ?_);(first|(refine iC rfl hS rfl rfl (by repeat constructor) ?_));(try simp only [ah,ak,au,ay,aA]))|((with_reducible refine bI ?_);(first|(refine aG rfl hS rfl rfl ?_;intro g w hS));(try simp only [ah,ak,au,ay,aA]))|((with_reducible refine aW ?_);(first|(refine aJ 35 rfl hS rfl _ jd ?_;intro g w hS));(try simp only [ah,ak,au,ay,aA]))|((with_reducible refine aN ?_);(first|(refine gJ rfl hS rfl rfl rfl (by repeat constructor) ?_;intro w hS)|(refine aaV rfl hS rfl rfl rfl (by repeat constructor) ?_;intro w hS));(try simp only [ah,ak,au,ay,aA]))))|((fail_if_success (with_reducible refine aB ?_));(first|(go_at_call 106;(with_reducible refine (St.call hS fun hl=>adf s X b HX _).mono ?_);rintro e w ⟨rfl,hS⟩))))
 all_goals (refine jy hS rfl rfl (by repeat constructor) rfl rfl (fun hb=>⟨rfl,hb⟩))
theorem agl (e:Ef) (v:Sl) (s:Str) (w:World) (hl:bQ e v w):Calls Tryz.prog 44 #[.agg (e.at v).cells, .int .u8 99, .string (B s)] w (RD { e with card:=B s } v true w):=by
 have hS:=St.start hl (jL e v)
 go_enter Tryz.func44,Tryz.ntmps44
 go_wp2_with (first|fail|((refine aF rfl ?_);(first|((with_reducible refine aC (T:=35) ?_);(first|(refine iC rfl hS rfl rfl (by repeat constructor) ?_));(try simp only [ah,ak,au,ay,aA]))|((with_reducible refine bI ?_);(first|(refine aG rfl hS rfl rfl ?_;intro g w hS));(try simp only [ah,ak,au,ay,aA]))|((with_reducible refine aW ?_);(first|(refine aJ 35 rfl hS rfl _ jd ?_;intro g w hS));(try simp only [ah,ak,au,ay,aA]))|((with_reducible refine aN ?_);(first|(refine gJ rfl hS rfl rfl rfl (by repeat constructor) ?_;intro w hS)|(refine aaX rfl hS rfl rfl rfl (by repeat constructor) ?_;intro w hS));(try simp only [ah,ak,au,ay,aA]))))|((fail_if_success (with_reducible refine aB ?_));(first|fail)))
 all_goals (refine jy hS rfl rfl (by repeat constructor) rfl rfl (fun hb=>⟨rfl,hb⟩))
theorem agm (e:Ef) (v:Sl) (s:Str) (hs:s.length<100000000) (o:Option Str) (HO:Hid (lJ s 40 41=o)) (w:World) (hl:bQ e v w):Calls Tryz.prog 44 #[.agg (e.at v).cells, .int .u8 102, .string (B s)] w (RD { e with flt:=(bW (o.getD [])).getD aaB } v (o.isSome&&(bW (o.getD [])).isSome) w):=by
 have hil:(o.getD []).length<100000000:=by
  rw [←HO.out];unfold lJ
  split
  ·simp
  ·simp;omega
 obtain ⟨t,ht⟩:∃t,o.getD []=t:=⟨_,rfl⟩
 obtain ⟨b1,hb1⟩:∃b,o.isSome=b:=⟨_,rfl⟩
 rw [ht] at hil ⊢
 rw [hb1]
 have HI:∀w,Calls Tryz.prog 108 #[.string (B s), .int .u8 40, .int .u8 41] w fun x w'=>x= .returned (.tuple #[.string (B t), .bool b1])∧w=w':=fun w=>by rw [←ht,←hb1];exact adi s (by omega) o HO w
 have HII:=Lib.hid HI
 obtain ⟨K,hK⟩:∃K,Jm (bW t)=K:=⟨_,rfl⟩
 obtain ⟨X,hX⟩:∃X,(bW t).getD aaB=X:=⟨_,rfl⟩
 obtain ⟨b,hb⟩:∃b,(bW t).isSome=b:=⟨_,rfl⟩
 have hb0:(K==0)=b:=by rw [←hK,←hb,alm]
 have HX:=Lib.hid (And.intro hX hK)
 rw [hX,hb]
 clear hX hK hb ht hb1 HI HO
 have hS:=St.start hl (jL e v)
 cases b1
 all_goals
  go_enter Tryz.func44,Tryz.ntmps44
  go_wp2_with (first|fail|((refine aF rfl ?_);(first|((with_reducible refine aC (T:=35) ?_);(first|(refine iC rfl hS rfl rfl (by repeat constructor) ?_));(try simp only [ah,ak,au,ay,aA]))|((with_reducible refine aC (T:=26) ?_);(first|(refine ES rfl hS rfl rfl (by repeat constructor) ?_));(try simp only [ah,ak,au,ay,aA]))|((with_reducible refine bI ?_);(first|(refine aG rfl hS rfl rfl ?_;intro g w hS));(try simp only [ah,ak,au,ay,aA]))|((with_reducible refine aW ?_);(first|(refine aJ 35 rfl hS rfl _ jd ?_;intro g w hS)|(refine aJ 26 rfl hS rfl _ Q8 ?_;intro g w hS));(try simp only [ah,ak,au,ay,aA]))|((with_reducible refine aN ?_);(first|(refine gJ rfl hS rfl rfl rfl (by repeat constructor) ?_;intro w hS)|(refine aaY rfl hS rfl rfl rfl (by repeat constructor) ?_;intro w hS)|(refine Rh rfl hS rfl rfl rfl (by repeat constructor) ?_;intro w hS));(try simp only [ah,ak,au,ay,aA]))))|((fail_if_success (with_reducible refine aB ?_));(first|(go_at_call 108;(with_reducible refine (St.still hS fun hl=>HII.out _).mono ?_);rintro e w ⟨rfl,hS⟩)|(go_at_call 72;(with_reducible refine (St.call hS fun hl=>ar1 t X K HX hil _).mono ?_);rintro e w ⟨rfl,hS⟩))))
  all_goals (refine jy hS rfl rfl (by repeat constructor) rfl rfl (fun hb=>⟨by first|rfl|simp,hb⟩))
def zoE (e:Ef):Option Nat→Ef|some k=> { e with zone:=(k:Int) } |none=>e
theorem ags (e:Ef) (v:Sl) (s:Str) (R:Option Nat) (HR0:Hid (Nk s=R)) (w0:World) (hl:bQ e v w0):Calls Tryz.prog 44 #[.agg (e.at v).cells, .int .u8 122, .string (B s)] w0 (RD (zoE e R) v R.isSome w0):=by
 have HR:Hid (((List.range' 0 (5 - 0)).find? fun (k:Nat)=>dR (k:Int)==s)=R):=HR0
 clear HR0
 have hS:=St.start hl (jL e v)
 go_enter Tryz.func44,Tryz.ntmps44
 go_wp2_with (first|fail|((refine aF rfl ?_);(first|((with_reducible refine bI ?_);(first|(refine aG rfl hS rfl rfl ?_;intro g w hS));(try simp only [ah,ak,au,ay,aA]))|((with_reducible refine aW ?_);(first|(refine aJ 35 rfl hS rfl _ jd ?_;intro g w hS));(try simp only [ah,ak,au,ay,aA]))))|((fail_if_success (with_reducible refine aB ?_));(first|fail)))
 obtain ⟨rows,hrows,hS⟩:∃rows,rows=[(g,Em.cells kC,35),(_,Em.cells (e.at v),35)]∧St (bQ e v) w0 rows w:=⟨_,rfl,hS⟩
 have HRW:=Lib.hid hrows
 clear hrows
 go_loopw [10] (fun kv wr=>∃k:Nat,k≤5∧kv= .int .i64 k∧Hid (((List.range' k (5 - k)).find? fun (k:Nat)=>dR (k:Int)==s)=R)∧Hid (St (bQ e v) w0 rows wr)) (fun kv _=>5 - (intOf kv).toNat)
 case atStart=>exact ⟨0,by omega,rfl,HR,Lib.hid hS⟩
 case round=>
  clear hS
  obtain ⟨k,hk,rfl,HD,HS⟩:=hrel
  have hS:=HS.out
  rw [HRW.out] at hS
  clear HS
  by_cases hlt:k<5
  ·have hst:=HD.out
   rw [show 5 - k=(5 - (k+1))+1 by omega,List.range'_succ,List.find?_cons] at hst
   obtain ⟨x,hx⟩:∃x,dR (k:Int)=x:=⟨_,rfl⟩
   rw [hx] at hst
   have HX:=Lib.hid hx
   clear hx HD
   have hk4:(k:Int)≤4:=by omega
   cases he:(x==s) with
   |true=>
    rw [he] at hst
    have HN:=Lib.hid hst
    clear hst
    go_wp2_with (first|((first|(with_reducible refine aB ?_)|(with_reducible refine aT ?_));(first|(have hq:=int_eq (by assumption);subst hq)|(have hq:=str_eq (by assumption);subst hq)))|((refine aF rfl ?_);(first|((with_reducible refine aC (T:=35) ?_);(first|(refine iC rfl hS rfl rfl (by repeat constructor) ?_));(try simp only [ah,ak,au,ay,aA]))|((with_reducible refine aN ?_);(first|(refine gJ rfl hS rfl rfl rfl (by repeat constructor) ?_;intro w hS)|(refine aaW rfl hS rfl rfl rfl (by repeat constructor) ?_;intro w hS));(try simp only [ah,ak,au,ay,aA]))))|((fail_if_success (with_reducible refine aB ?_));(first|(go_at_call 105;(with_reducible refine (St.call hS fun hl=>JY _ _ HX _).mono ?_);rintro e w ⟨rfl,hS⟩))))
    all_goals (refine jy hS rfl rfl (by repeat constructor) rfl rfl (fun hb=>⟨by rw [←HN.out];rfl,hb⟩))
   |false=>
    rw [he] at hst
    have HN:=Lib.hid hst
    clear hst
    go_wp2_with (first|fail|((refine aF rfl ?_);(first|fail))|((fail_if_success (with_reducible refine aB ?_));(first|(go_at_call 105;(with_reducible refine (St.call hS fun hl=>JY _ _ HX _).mono ?_);rintro e w ⟨rfl,hS⟩))))
    go_roundw
    case rel=>exact ⟨k+1,by omega,by go_num,HN,Lib.hid (by rw [HRW.out];exact hS)⟩
    case measure=>simp [intOf];omega
  ·obtain rfl:k=5:=by omega
   have HN:Hid (none=R):=Lib.hid (by rw [←HD.out];rfl)
   go_wp2_with (first|fail|((refine aF rfl ?_);(first|((with_reducible refine aC (T:=35) ?_);(first|(refine iC rfl hS rfl rfl (by repeat constructor) ?_));(try simp only [ah,ak,au,ay,aA]))|((with_reducible refine aN ?_);(first|(refine gJ rfl hS rfl rfl rfl (by repeat constructor) ?_;intro w hS));(try simp only [ah,ak,au,ay,aA]))))|((fail_if_success (with_reducible refine aB ?_));(first|fail)))
   all_goals (refine jy hS rfl rfl (by repeat constructor) rfl rfl (fun hb=>⟨by rw [←HN.out];rfl,hb⟩))
theorem apu (x:Str) (hx:x.length<100000000) {L:World→Prop} {w0 w:World} {rows:List Row} (hS:St L w0 rows w) (hl:Laid w):Calls Tryz.prog 73 #[.string (B x)] w fun e w'=>
 (fF x=none∧e= .returned (.tuple #[.slice none 0 0, .int .i64 3])∧St L w0 rows w')∨∃ms g cur c,fF x=some ms∧e= .returned (.tuple #[.slice (some ⟨g,0,none⟩) ms.length c, .int .i64 0])∧St L w0 ((g,cur,iw)::rows) w'∧Hid (∀w'':World,w''.heap[g]? =some (.cells cur iw (0,0))→Eb g 0 ms w''):=
 (CS x hx w hl).mono fun e w' ⟨hb,hr⟩=>by
  rcases hr with ⟨h1,h2⟩|⟨l,v,h1,h2,own⟩
  ·exact .inl ⟨h1,h2,hS.mono hb⟩
  ·have hne:=(tY h1).1
   obtain ⟨o1,o2⟩:=own
   rcases o2 with ⟨_,h0⟩|⟨g,cap,cur,hv,hbg,hh,hrest⟩
   ·exact absurd (List.length_eq_zero_iff.1 h0) hne
   ·refine .inr ⟨l,g,cur,cap,h1,by rw [h2,hv],hS.grow hb hh hbg,Lib.hid fun w'' h''=> ?_⟩
    obtain ⟨g2,c2,e2,hm⟩:=afT (w:=w'') (b:=w.heap.size) (v:=v) ⟨o1, .inr ⟨g,cap,cur,hv,hbg,h'',hrest⟩⟩ hne
    rw [hv] at e2
    injection e2 with e2
    injection e2 with e2
    injection e2 with e2
    subst e2
    exact hm
def MI (e:Ef) (v:Sl) (rows:List Row):Prop:=v.n=e.mods.length∧e.mods.length<1000000∧((v.a=none∧e.mods=[])∨∃g cur,v.a=some ⟨g,0,none⟩∧cZ g cur iw rows∧∀w'':World,w''.heap[g]? =some (.cells cur iw (0,0))→Eb g 0 e.mods w'')
theorem MI.at_ {e:Ef} {v:Sl} {rows:List Row} (h:MI e v rows) {L:World→Prop} {w0 w:World} (hS:St L w0 rows w):kL e v w:=by
 refine ⟨h.1,h.2.1,?_⟩
 rcases h.2.2 with ⟨_,h0⟩|⟨g,cur,ha,hr,hm⟩
 ·exact .inl h0
 ·exact .inr ⟨g,0,ha,hm w (hS.row hr)⟩
theorem MI.cons {e:Ef} {v:Sl} {rows:List Row} (h:MI e v rows) (x:Row):MI e v (x::rows):=⟨h.1,h.2.1,h.2.2.imp id fun ⟨g,cur,ha,hr,hm⟩=>⟨g,cur,ha, .tail hr,hm⟩⟩
theorem MI.same {e e':Ef} {v:Sl} {rows:List Row} (h:MI e v rows) (he:e'.mods=e.mods):MI e' v rows:=by unfold MI;rw [he];exact h
theorem MI.zero (op:Int):MI (gW op) ⟨none,0,0⟩ []:=⟨rfl,(by decide:0<1000000), .inl ⟨rfl,rfl⟩⟩
theorem MI.aqC {e:Ef} {v:Sl} {rows:List Row} (h:MI e v rows) {L:World→Prop} {w0 w:World} (hS:St L w0 rows w):oh e v w0.heap.size w:=by
 refine ⟨h.1,h.2.1,h.2.2.imp id fun ⟨g,cur,ha,hr,hm⟩=>⟨g,cur,ha,?_,hS.row hr,hm⟩⟩
 exact (hS.has _ hr.mem).2
def RDS (L:World→Prop) (w0:World) (rows:List Row) (e:Ef) (v:Sl) (f:UInt8) (s:Str) (x:Ending) (w':World):Prop:=
 (jo e f s=none∧(∃r:Em,x= .returned (.tuple #[.agg r.cells, .bool false]))∧St L w0 rows w')∨∃e' v' X,jo e f s=some e'∧x= .returned (.tuple #[.agg (e'.at v').cells, .bool true])∧St L w0 (X++rows) w'∧((X=[]∧v'=v∧e'.mods=e.mods)∨∃g cur,X=[(g,cur,iw)]∧MI e' v' [(g,cur,iw)])
theorem CW {L:World→Prop} {w0 w:World} {rows:List Row} {e e':Ef} {v:Sl} {f:UInt8} {s:Str} {b:Bool} (hS:St L w0 rows w) (h1:jo e f s=if b=true then some e' else none) (hm:e'.mods=e.mods) {x:Ending} {w':World} (h:RD e' v b w x w'):RDS L w0 rows e v f s x w':=by
 cases b with
 |true=>exact .inr ⟨e',v,[],by rw [h1,if_pos rfl],h.1,hS.mono h.2, .inl ⟨rfl,rfl,hm⟩⟩
 |false=>exact .inl ⟨by rw [h1];rfl,⟨_,h.1⟩,hS.mono h.2⟩
theorem agp (e:Ef) (v:Sl) (s:Str) (hs:s.length<100000000) {L:World→Prop} {w0 w:World} {rows:List Row} (hS:St L w0 rows w) (hl:bZ w):Calls Tryz.prog 44 #[.agg (e.at v).cells, .int .u8 109, .string (B s)] w (RDS L w0 rows e v 109 s):=by
 obtain ⟨o,ho⟩:∃o,lJ s 91 93=o:=⟨_,rfl⟩
 have hrd:jo e 109 s=(o.bind fF).map fun x=> { e with mods:=x } :=by rw [←ho];rfl
 have HO:=Lib.hid ho
 have hil:(o.getD []).length<100000000:=by
  rw [←ho];unfold lJ
  split
  ·simp
  ·simp;omega
 clear ho
 have hlw:=hl
 have HHS:=Lib.hid hS
 cases o with
 |none=>
  have Bo:Hid (jo e 109 s=none):=Lib.hid hrd
  have HI:∀w,Calls Tryz.prog 108 #[.string (B s), .int .u8 91, .int .u8 93] w fun x w'=>x= .returned (.tuple #[.string (B []), .bool false])∧w=w':=fun w=>Qg s (by omega) none HO w
  have HII:=Lib.hid HI
  have HMP:Hid (fF []=none):=Lib.hid Io
  clear HI hrd hS
  have hS:=St.start hl xA
  go_enter Tryz.func44,Tryz.ntmps44
  go_wp2_with (first|fail|((refine aF rfl ?_);(first|((with_reducible refine aC (T:=35) ?_);(first|(refine iC rfl hS rfl rfl (by repeat constructor) ?_));(try simp only [ah,ak,au,ay,aA]))|((with_reducible refine bI ?_);(first|(refine aG rfl hS rfl rfl ?_;intro g w hS));(try simp only [ah,ak,au,ay,aA]))|((with_reducible refine aW ?_);(first|(refine aJ 35 rfl hS rfl _ jd ?_;intro g w hS));(try simp only [ah,ak,au,ay,aA]))|((with_reducible refine aN ?_);(first|(refine gJ rfl hS rfl rfl rfl (by repeat constructor) ?_;intro w hS)|(refine KU rfl hS rfl rfl rfl (by repeat constructor) ?_;intro w hS));(try simp only [ah,ak,au,ay,aA]))))|((fail_if_success (with_reducible refine aB ?_));(first|(go_at_call 108;(with_reducible refine (St.still hS fun hl=>HII.out _).mono ?_);rintro e w ⟨rfl,hS⟩)|(go_at_call 73;(with_reducible refine (St.call hS fun hl=>Qs [] (by decide) HMP _ hl.base).mono ?_);rintro e w ⟨rfl,hS⟩))))
  all_goals (refine jy hS rfl rfl (by repeat constructor) rfl rfl (fun hb=> .inl ⟨Bo.out,⟨_,rfl⟩,HHS.out.mono hb⟩))
 |some t=>
  simp only [Option.getD_some] at hil
  have HI:∀w,Calls Tryz.prog 108 #[.string (B s), .int .u8 91, .int .u8 93] w fun x w'=>x= .returned (.tuple #[.string (B t), .bool true])∧w=w':=fun w=>Qg s (by omega) (some t) HO w
  have HII:=Lib.hid HI
  cases hp:fF t with
  |none=>
   have Bo:Hid (jo e 109 s=none):=Lib.hid (by rw [hrd,Option.bind_some,hp];rfl)
   have HMP:=Lib.hid hp
   clear HI hrd hS hp
   have hS:=St.start hl xA
   go_enter Tryz.func44,Tryz.ntmps44
   go_wp2_with (first|fail|((refine aF rfl ?_);(first|((with_reducible refine aC (T:=35) ?_);(first|(refine iC rfl hS rfl rfl (by repeat constructor) ?_));(try simp only [ah,ak,au,ay,aA]))|((with_reducible refine bI ?_);(first|(refine aG rfl hS rfl rfl ?_;intro g w hS));(try simp only [ah,ak,au,ay,aA]))|((with_reducible refine aW ?_);(first|(refine aJ 35 rfl hS rfl _ jd ?_;intro g w hS));(try simp only [ah,ak,au,ay,aA]))|((with_reducible refine aN ?_);(first|(refine gJ rfl hS rfl rfl rfl (by repeat constructor) ?_;intro w hS)|(refine KU rfl hS rfl rfl rfl (by repeat constructor) ?_;intro w hS));(try simp only [ah,ak,au,ay,aA]))))|((fail_if_success (with_reducible refine aB ?_));(first|(go_at_call 108;(with_reducible refine (St.still hS fun hl=>HII.out _).mono ?_);rintro e w ⟨rfl,hS⟩)|(go_at_call 73;(with_reducible refine (St.call hS fun hl=>Qs t hil HMP _ hl.base).mono ?_);rintro e w ⟨rfl,hS⟩))))
   all_goals (refine jy hS rfl rfl (by repeat constructor) rfl rfl (fun hb=> .inl ⟨Bo.out,⟨_,rfl⟩,HHS.out.mono hb⟩))
  |some ms=>
   have Bo:Hid (jo e 109 s=some { e with mods:=ms }):=Lib.hid (by rw [hrd,Option.bind_some,hp];rfl)
   have HMP:=Lib.hid hp
   have hml:ms.length<1000000:=by have:=(tY hp).2.1;omega
   clear HI hrd hS hp
   have hS:=St.start hl xA
   go_enter Tryz.func44,Tryz.ntmps44
   go_wp2_with (first|fail|((refine aF rfl ?_);(first|((with_reducible refine aC (T:=35) ?_);(first|(refine iC rfl hS rfl rfl (by repeat constructor) ?_));(try simp only [ah,ak,au,ay,aA]))|((with_reducible refine bI ?_);(first|(refine aG rfl hS rfl rfl ?_;intro g w hS));(try simp only [ah,ak,au,ay,aA]))|((with_reducible refine aW ?_);(first|(refine aJ 35 rfl hS rfl _ jd ?_;intro g w hS));(try simp only [ah,ak,au,ay,aA]))|((with_reducible refine aN ?_);(first|(refine gJ rfl hS rfl rfl rfl (by repeat constructor) ?_;intro w hS)|(refine KU rfl hS rfl rfl rfl (by repeat constructor) ?_;intro w hS));(try simp only [ah,ak,au,ay,aA]))))|((fail_if_success (with_reducible refine aB ?_));(first|(go_at_call 108;(with_reducible refine (St.still hS fun hl=>HII.out _).mono ?_);rintro e w ⟨rfl,hS⟩)|(go_at_call 73;(refine (apu t hil hS hS.laid.base).mono ?_);rw [HMP.out];rintro e w (⟨hbad,_⟩|⟨ms',gm,cur,cm,hms,rfl,hS,VN⟩)<;>(first|(cases hbad)|(obtain rfl:=Option.some.inj hms))))))
   all_goals (refine jy hS rfl rfl (by repeat constructor) rfl rfl (fun hb=> .inr ⟨_,⟨some ⟨gm,0,none⟩,ms.length,cm⟩,[(gm,cur,iw)],Bo.out,rfl,HHS.out.grow hb (hS.row (by repeat constructor)) (hS.has _ (cZ.mem (by repeat constructor))).2, .inr ⟨gm,cur,rfl,rfl,hml, .inr ⟨gm,cur,rfl, .head,VN.out⟩⟩⟩))
theorem Qh (e:Ef) (v:Sl) (f:UInt8) (hf:Hid (f=114∨f=122∨f=107∨f=99∨f=97∨f=109∨f=112∨f=102)) (n:Nat) (hn:Hid (n=f.toNat)) (s:Str) (hs:s.length<100000000) {L:World→Prop} {w0 w:World} {rows:List Row} (hS:St L w0 rows w) (hl:bQ e v w):Calls Tryz.prog 44 #[.agg (e.at v).cells, .int .u8 (n:Int), .string (B s)] w (RDS L w0 rows e v f s):=by
 rw [hn.out]
 rcases hf.out with rfl|rfl|rfl|rfl|rfl|rfl|rfl|rfl
 ·have h1:jo e 114 s=if (dX s).isSome=true then some { e with ref:=(dX s).getD dY } else none:=by
   rw [show jo e 114 s=(dX s).map fun x=> { e with ref:=x } from rfl];cases dX s<;>rfl
  exact (agr e v s hs w hl).mono fun x w' h=>CW hS h1 rfl h
 ·have h1:jo e 122 s=if (Nk s).isSome=true then some (zoE e (Nk s)) else none:=by
   simp (decide:=true) only [jo,if_true,if_false]
   cases Nk s<;>rfl
  have h2:(zoE e (Nk s)).mods=e.mods:=by cases Nk s<;>rfl
  exact (ags e v s (Nk s) (Lib.hid rfl) w hl).mono fun x w' h=>CW hS h1 h2 h
 ·have h1:jo e 107 s=if (jF s).isSome=true then some { e with ctr:=(((jF s).getD 0:Nat):Int) } else none:=by
   simp (decide:=true) only [jo,if_true,if_false]
   cases jF s<;>rfl
  exact (agn e v s w hl).mono fun x w' h=>CW hS h1 rfl h
 ·have h1:jo e 99 s=if true=true then some { e with card:=B s } else none:=rfl
  exact (agl e v s w hl).mono fun x w' h=>CW hS h1 rfl h
 ·have h1:jo e 97 s=if (eY s).isSome=true then some { e with amt:=(eY s).getD dG } else none:=by
   rw [show jo e 97 s=(eY s).map fun x=> { e with amt:=x } from rfl];cases eY s<;>rfl
  exact (agk e v s hs w hl).mono fun x w' h=>CW hS h1 rfl h
 ·exact agp e v s hs hS hl.1
 ·have h1:jo e 112 s=if (dU s).isSome=true then some { e with pool:=(dU s).getD bn } else none:=by
   rw [show jo e 112 s=(dU s).map fun x=> { e with pool:=x } from rfl];cases dU s<;>rfl
  exact (agq e v s hs w hl).mono fun x w' h=>CW hS h1 rfl h
 ·have h1:jo e 102 s=if ((lJ s 40 41).isSome&&(bW ((lJ s 40 41).getD [])).isSome)=true then some { e with flt:=(bW ((lJ s 40 41).getD [])).getD aaB } else none:=by
   rw [show jo e 102 s=((lJ s 40 41).bind bW).map fun x=> { e with flt:=x } from rfl]
   cases hq:lJ s 40 41 with
   |none=>rfl
   |some t=>rw [Option.bind_some,Option.getD_some];cases bW t<;>rfl
  exact (agm e v s hs (lJ s 40 41) (Lib.hid rfl) w hl).mono fun x w' h=>CW hS h1 rfl h
theorem St.pick {L:World→Prop} {w0 w:World} {rows rows':List Row} (h:St L w0 rows w) (hs:∀x∈rows',x∈rows) (hn:(rows'.map (·.1)).Nodup):St L w0 rows' w:=⟨h.base,h.keeps,h.below,fun x hx=>h.has x (hs x hx),hn⟩
theorem acH {L:World→Prop} {w0 w:World} {rows:List Row} {cur:Array Value} {ws:List Str} (HW:Hid (oZ cur ws)) {gw:Nat} (hS:St L w0 rows w) (hm:cZ gw cur 9 rows) {k:Nat} {T:Str} (hk:Hid (ws[k]? =some T)):w.cell? ⟨gw,k,none⟩=some (.string (B T)):=by
 rw [cell_of_row w gw k cur 9 (0,0) (hS.row hm)]
 exact HW.out k T hk.out
theorem UC (c:UInt8) (n:Nat) (hn:n=c.toNat) (hc:c.toNat≠40∧c.toNat≠41∧c.toNat≠91∧c.toNat≠93) (s:Str) (hs:s.length<100000000) (ws:List Str) (HW:Hid (gu c s=ws)) (h1:0<ws.length) {L:World→Prop} {w0 w:World} {rows:List Row} (hS:St L w0 rows w):
 Calls Tryz.prog 41 #[.string (B s), .int .u8 (n:Int)] w fun e w'=>∃gw cur cw,e= .returned (.slice (some ⟨gw,0,none⟩) ws.length cw)∧Hid (oZ cur ws)∧ws.length≤cw∧St L w0 ((gw,cur,9)::rows) w':=by
 rw [hn]
 refine (Ql (B s) c w (by rw [bC];exact hs) hc).mono ?_
 rw [cO,HW.out]
 rintro e w' ⟨A,cw,he,ht,hb⟩
 obtain ⟨g,cur,hA,hh,hcw,hS'⟩:=hS.words ht hb h1
 subst hA
 exact ⟨g,cur,cw,he,Lib.hid hh,hcw,hS'⟩
theorem ajc (s:Str) (hs:s.length<100000000) (ws:List Str) (HW:Hid (gu 32 s=ws)) (h1:0<ws.length) {L:World→Prop} {w0 w:World} {rows:List Row} (hS:St L w0 rows w):
 Calls Tryz.prog 41 #[.string (B s), .int .u8 32] w fun e w'=>∃gw cur cw,e= .returned (.slice (some ⟨gw,0,none⟩) ws.length cw)∧Hid (oZ cur ws)∧ws.length≤cw∧St L w0 ((gw,cur,9)::rows) w':=UC 32 32 rfl (by decide) s hs ws HW h1 hS
theorem ajd (s:Str) (hs:s.length<100000000) (ws:List Str) (HW:Hid (gu 59 s=ws)) (h1:0<ws.length) {L:World→Prop} {w0 w:World} {rows:List Row} (hS:St L w0 rows w):
 Calls Tryz.prog 41 #[.string (B s), .int .u8 59] w fun e w'=>∃gw cur cw,e= .returned (.slice (some ⟨gw,0,none⟩) ws.length cw)∧Hid (oZ cur ws)∧ws.length≤cw∧St L w0 ((gw,cur,9)::rows) w':=UC 59 59 rfl (by decide) s hs ws HW h1 hS
theorem Ui (s:Str):∀m:Nat,xH s m=0∨(1≤xH s m∧xH s m≤m)
 |0=> .inl rfl
 |m+1=>by
  rw [Ey]
  split
  ·right;omega
  ·rcases Ui s m with h|h
   ·exact .inl h
   ·right;omega
theorem alW (s:Str):yF s=0∨(1≤yF s∧yF s≤26):=by
 have:=Ui s 26
 rw [Gw] at this
 exact this
theorem aag (e:Ef) (f:UInt8) (fs:List UInt8) (x:Str) (xs:List Str):gy e (f::fs) (x::xs)=(jo e f x).bind fun e'=>gy e' fs xs:=rfl
theorem adp (e:Ef) (xs:List Str):gy e [] xs=some e:=by cases xs<;>rfl
theorem ajg {gw n c k:Nat} (hk:k+1<n) (w:World):(Instr.indexAt 74 (.slice (some ⟨gw,0,none⟩) n c) (.int .i64 ((k:Int)+1))).run Tryz.prog w= .ok (.pointer (some ⟨gw,k+1,none⟩)) w:=by
 have hs:(sizeOf (Tryz.prog.elem 74)).run Tryz.prog w= .ok 1 w:=by kernel_rfl
 have hn:((k:Int)+1).toNat=k+1:=by omega
 have h0:=run_indexAt_slice (P:=Tryz.prog) (w:=w) 74 ⟨gw,0,none⟩ n c .i64 ((k:Int)+1) (show Tryz.prog.underlying 74=some (.slice (Tryz.prog.elem 74)) by kernel_rfl)
 rw [h0,if_pos ⟨by omega,by omega⟩,hs,hn]
 simp [Result.andThen,Addr.add]
theorem agO {gw n c k:Nat} {o:Oper} {a:Act} {x y:Operand} (ho:o.op= .indexAddr 74 x y) (hx:a.eval x= .slice (some ⟨gw,0,none⟩) n c) (hy:a.eval y= .int .i64 ((k:Int)+1)) (hk:k+1<n) (w:World):(execOp a.eval o).run Tryz.prog w= .ok (.value (.pointer (some ⟨gw,k+1,none⟩))) w:=by
 unfold execOp
 simp only [ho,hx,hy,Sem.run_bind,ajg hk w,Result.andThen_ok,Sem.run_pure]
theorem Aq {a b c d e:Nat} {r:List Nat} (h:(a::b::c::d::e::r).Nodup):[c,d,e,b].Nodup∧[c,d,e,a].Nodup:=by
 simp only [List.nodup_cons,List.mem_cons,not_or,List.not_mem_nil,not_false_eq_true,List.nodup_nil,and_true] at h ⊢
 omega
theorem CV (s:Str) (hs:s.length<100000000) (w0:World) (hl:bZ w0):Calls Tryz.prog 13 #[.string (B s)] w0 (EH s w0):=by
 obtain ⟨ws,hws⟩:∃ws,gu 32 s=ws:=⟨_,rfl⟩
 have hd:splitAux 32 0 [] s=ws:=by rw [←hws,wY];rfl
 have hl1:=nU 32 s [] 0
 rw [hd] at hl1
 have hwl:∀x∈ws,x.length<100000000:=fun x hx=>by
  have:=rY 32 s [] 0 x (by rw [hd];exact hx)
  simp at this;omega
 have hbig:ws.length<100000001:=by omega
 have h1:0<ws.length:=List.length_pos_iff.2 hl1.2
 obtain ⟨W0,hw0⟩:∃W0,ws[0]? =some W0:=⟨ws[0]'h1,List.getElem?_eq_getElem h1⟩
 obtain ⟨o,ho⟩:∃o,yF W0=o:=⟨_,rfl⟩
 have hq:qE s=fC s:=aqE s
 have hqo:qOp s=o:=by
  unfold qOp
  rw [hws,List.getD_eq_getElem?_getD,hw0];exact ho
 unfold qE at hq
 rw [hqo,hws] at hq
 have aok:=alW W0
 rw [ho] at aok
 have HQ:=Lib.hid hq
 have HO:=Lib.hid ho
 have HW0:=Lib.hid hw0
 have HWS:=Lib.hid hws
 have HWL:=Lib.hid hwl
 clear hq ho hw0 hws hqo hd hl1 hwl
 unfold EH
 have hS:=St.start hl xA
 have hsz:(B s).size=s.length:=bC s
 have Oe:=Lib.hid (Gw W0)
 go_enter Tryz.func13,Tryz.ntmps13
 go_wp2_with (first|fail|((refine aF rfl ?_);(first|((with_reducible refine aW ?_);refine aJ 35 rfl hS rfl _ jd ?_;intro g w hS)))|((fail_if_success (with_reducible refine aB ?_));(first|(go_at_call 41;(refine (ajc s hs ws HWS h1 hS).mono ?_);rintro e w ⟨gw,cur,cw,rfl,HW,hcw,hS⟩))))
 obtain ⟨tl,htl,hS⟩:∃tl,tl=[(_,Em.cells kC,kZ)]∧St bZ w0 ((g,Em.cells kC,kZ)::(gw,cur,9)::tl) w:=⟨_,rfl,hS⟩
 have Og:=Lib.hid htl
 clear htl
 go_loopw [6] (fun kv wr=>∃(k:Nat) (o':Int),k≤26∧kv= .int .i64 ((k:Int)+1)∧Hid (xH W0 k=o')∧Hid (St bZ w0 ((g,Em.cells ⟨o',dY,dG,0,0,⟨#[]⟩,aaB,bn,⟨none,0,0⟩⟩,kZ)::(gw,cur,9)::tl) wr)) (fun kv _=>27 - (intOf kv).toNat)
 case atStart=>exact ⟨0,0,by omega,rfl,Lib.hid rfl,Lib.hid hS⟩
 case round=>
  clear hS
  obtain ⟨k,o',hk,rfl,HOF,HS⟩:=hrel
  have hS:=HS.out
  clear HS
  by_cases hlt:k<26
  ·obtain ⟨T0,hT0⟩:∃T,opName ((k:Int)+1)=T:=⟨_,rfl⟩
   have hst:=Ey W0 k
   rw [show ((k+1:Nat):Int)=(k:Int)+1 by omega,hT0,HOF.out] at hst
   have GN:=Lib.hid hT0
   clear hT0
   by_cases hx:T0=W0
   ·rw [if_pos hx] at hst
    have HST:=Lib.hid hst
    have ht:(T0==W0)=true:=by rw [hx];simp
    clear hst hx
    go_wp2_with (first|((first|(with_reducible refine aB ?_)|(with_reducible refine aT ?_));(first|(have hq:=int_eq (by assumption);subst hq)|(have hq:=str_eq (by assumption);subst hq)))|((refine aF rfl ?_);(first|((with_reducible refine aN ?_);(first|(refine ae8 rfl hS rfl rfl rfl (by repeat constructor) ?_;intro w hS));(try simp only [ah,ak,au,ay,aA]))))|((fail_if_success (with_reducible refine aB ?_));(first|((with_reducible refine gY ?_);refine zn rfl rfl rfl (fun w hS=>acH HW hS (.tail .head) HW0) (fun _ _ _ h=>h) ?_;(try simp only [ah,ak,au,ay,aA]))|((with_reducible refine aT ?_);refine bY hS (by kernel_rfl) (by kernel_rfl) ?_)|((with_reducible refine fG ?_);intro w hS)|((with_reducible refine iH ?_);(first|(refine eu (v:= ?_) (args:= ?_) 42 rfl (fun _ _ _ h=>h) ?_ ?_ ?_;rotate_left 2;(focus ((intro w;go_simp)<;>with_reducible rfl));(focus (intro w hS;refine St.jE hS (fun hl=>zU _ _ GN _) ?_;with_reducible rfl))));(try simp only [ah,ak,au,ay,aA]))|((with_reducible refine dS ?_);(refine dn (v:= ?_) rfl (fun _ _ _ h=>h) ?_ ?_;rotate_left;(focus ((intro w hS;go_simp)<;>with_reducible rfl)));(try simp only [ah,ak,au,ay,aA])))))
    go_roundw
    case rel=>exact ⟨k+1,(k:Int)+1,by omega,by go_num,HST,Lib.hid hS⟩
    case measure=>simp [intOf];omega
   ·rw [if_neg hx] at hst
    have HST:=Lib.hid hst
    have ht:(T0==W0)=false:=by simpa using hx
    clear hst hx
    go_wp2_with (first|fail|((refine aF rfl ?_);(first|fail))|((fail_if_success (with_reducible refine aB ?_));(first|((with_reducible refine gY ?_);refine zn rfl rfl rfl (fun w hS=>acH HW hS (.tail .head) HW0) (fun _ _ _ h=>h) ?_;(try simp only [ah,ak,au,ay,aA]))|((with_reducible refine aT ?_);refine bY hS (by kernel_rfl) (by kernel_rfl) ?_)|((with_reducible refine fG ?_);intro w hS)|((with_reducible refine iH ?_);(first|(refine eu (v:= ?_) (args:= ?_) 42 rfl (fun _ _ _ h=>h) ?_ ?_ ?_;rotate_left 2;(focus ((intro w;go_simp)<;>with_reducible rfl));(focus (intro w hS;refine St.jE hS (fun hl=>zU _ _ GN _) ?_;with_reducible rfl))));(try simp only [ah,ak,au,ay,aA]))|((with_reducible refine dS ?_);(refine dn (v:= ?_) rfl (fun _ _ _ h=>h) ?_ ?_;rotate_left;(focus ((intro w hS;go_simp)<;>with_reducible rfl)));(try simp only [ah,ak,au,ay,aA])))))
    go_roundw
    case rel=>exact ⟨k+1,o',by omega,by go_num,HST,Lib.hid hS⟩
    case measure=>simp [intOf];omega
  ·obtain rfl:k=26:=by omega
   obtain rfl:o'=o:=by rw [←HOF.out,←HO.out,Oe.out]
   clear HOF
   rcases aok with rfl|hop
   ·have HN:Hid (fC s=none):=Lib.hid (by rw [←HQ.out,if_pos (.inl rfl)])
    rw [Og.out] at hS
    go_wp2_with (first|fail|((refine aF rfl ?_);(first|((with_reducible refine aC (T:=3) ?_);(first|(refine lq rfl hS rfl rfl (by repeat constructor) ?_));(try simp only [ah,ak,au,ay,aA]))|((with_reducible refine qX ?_);refine wu rfl ?_;(try simp only [ah,ak,au,ay,aA]))|((with_reducible refine aN ?_);(first|(refine gJ rfl hS rfl rfl rfl (by repeat constructor) ?_;intro w hS));(try simp only [ah,ak,au,ay,aA]))))|((fail_if_success (with_reducible refine aB ?_));(first|fail)))
    all_goals (refine jy hS rfl rfl (by repeat constructor) rfl rfl (fun hb=>⟨hb, .inl ⟨HN.out,rfl⟩⟩))
   have ho0:(o'==0)=false:=by rw [beq_eq_false_iff_ne];omega
   have hul:=N8 hop
   have abI:=Lib.hid (KH hop)
   have vV:=Lib.hid hop
   have hq:=HQ.out
   obtain ⟨U,hU⟩:∃U,dF o'=U:=⟨_,rfl⟩
   rw [hU] at hul abI hq
   have HU:=Lib.hid hU
   have atg:(B U).size=U.length:=bC U
   have hgt:=jm (B U)
   rw [cO] at hgt
   clear hU hop
   by_cases hlen:ws.length=1+U.length
   ·have hz1:((ws.length:Int)==1+(U.length:Int))=true:=by rw [beq_iff_eq];omega
    have hz2:((ws.length:Int) != 1+(U.length:Int))=false:=by simp;omega
    rw [if_neg (fun h=>h.elim (fun h=>by rw [h] at ho0;cases ho0) fun h=>h hlen)] at hq
    have nX:=Lib.hid hq
    have HLEN:=Lib.hid hlen
    clear hq hlen
    go_wp2_with (first|fail|((refine aF rfl ?_);(first|((with_reducible refine aC (T:=3) ?_);(first|(refine lq rfl hS rfl rfl (by repeat constructor) ?_));(try simp only [ah,ak,au,ay,aA]))))|((fail_if_success (with_reducible refine aB ?_));(first|(go_at_call 43;(with_reducible refine (St.still hS fun hl=>AA _ vV.out _ HU _).mono ?_);rintro e w ⟨rfl,hS⟩))))
    go_loopw [8] (fun iv wr=>∃(k:Nat) (e:Ef) (v:Sl) (mr:List Row),k≤U.length∧iv= .int .i64 k∧Hid (gy (gW o') U (ws.drop 1)=gy e (U.drop k) (ws.drop (k+1)))∧Hid (MI e v mr)∧Hid (St bZ w0 ((g,Em.cells (e.at v),kZ)::(gw,cur,9)::(tl++mr)) wr)) (fun iv _=>U.length - (intOf iv).toNat)
    case atStart=>exact ⟨0,gW o',⟨none,0,0⟩,[],by omega,rfl,Lib.hid rfl,Lib.hid (MI.zero o'),Lib.hid (by rw [List.append_nil];exact hS)⟩
    case round=>
     clear hS
     obtain ⟨k,e,v,mr,hk,rfl,VQ,IG,HS⟩:=hrel
     have hS:=HS.out
     clear HS
     rw [Og.out] at hS
     simp only [List.cons_append,List.nil_append] at hS
     by_cases hlt:k<U.length
     ·have hkw:k+1<ws.length:=by have:=HLEN.out;omega
      have hk3:k≤3:=by omega
      have hwr:IntKind.i64.wrap ((k:Int)+1)=(k:Int)+1:=by rw [IntKind.wrap_i64];omega
      obtain ⟨x,hx⟩:∃x,ws[k+1]? =some x:=⟨ws[k+1],List.getElem?_eq_getElem hkw⟩
      have hx8:=HWL.out x (List.mem_of_getElem? hx)
      have hbt:=Lib.hid (yg hlt)
      have HLE:=Lib.hid (abI.out U[k] (List.getElem_mem hlt))
      obtain ⟨f,hf⟩:∃f,U[k]=f:=⟨_,rfl⟩
      have hdu:U.drop k=f::U.drop (k+1):=by rw [List.drop_eq_getElem_cons hlt,hf]
      have hdw:ws.drop (k+1)=x::ws.drop (k+2):=by
       rw [List.drop_eq_getElem_cons hkw]
       rw [List.getElem?_eq_getElem hkw] at hx
       rw [Option.some.inj hx]
      have hrf:=VQ.out
      rw [hdu,hdw,aag] at hrf
      rw [hf] at hbt HLE
      have HXW:=Lib.hid hx
      have IJ:=Lib.hid hrf
      have HMA:=IG
      clear hx hf hdu hdw hrf VQ
      go_wp2_with (first|fail|((refine aF rfl ?_);(first|fail))|((fail_if_success (with_reducible refine aB ?_));(first|((with_reducible refine pX ?_);refine lQ (v:= .pointer (some ⟨gw,k+1,none⟩)) rfl (fun _ _ _ h=>h) (fun w=>agO rfl rfl rfl hkw w) ?_;(try simp only [ah,ak,au,ay,aA]))|((with_reducible refine yR (T:=9) ?_);refine ku (v:= .string (B x)) rfl (fun _ _ _ h=>h) (by decide +kernel) (fun X w hS=>GX rfl rfl (acH HW hS (cZ.app (cZ.tail cZ.head) X) HXW)) ?_;(try simp only [ah,ak,au,ay,aA]))|((with_reducible refine aT ?_);refine YW 9 3 10 13 14 rfl rfl rfl _ _ _ jd hS (by kernel_rfl) rfl rfl rfl rfl (by kernel_rfl) _ rfl (by kernel_rfl) (by kernel_rfl) (by kernel_rfl) (by kernel_rfl) (by kernel_rfl) (by decide +kernel) (by decide +kernel) (by kernel_rfl) (by kernel_rfl) (by kernel_rfl) (by kernel_rfl) (by kernel_rfl) (by kernel_rfl) (by kernel_rfl) (by decide +kernel) (by decide +kernel) (by kernel_rfl) (by kernel_rfl) (by kernel_rfl) (by kernel_rfl) (by kernel_rfl) (by kernel_rfl) (by decide +kernel) (by kernel_rfl) ?_;(simp only [List.take_succ_cons,List.take_zero,List.drop_succ_cons,List.drop_zero]))|((with_reducible refine yR ?_);(first|(refine an2 rfl rfl (by decide +kernel) rfl (by repeat constructor) (fun _ _ _ h=>h) ?_));(try simp only [ah,ak,au,ay,aA]))|((with_reducible refine pX ?_);(refine lQ (v:= ?_) rfl (fun _ _ _ h=>h) ?_ ?_;rotate_left;(focus ((intro w;go_simp)<;>with_reducible rfl)));(try simp only [ah,ak,au,ay,aA])))))
      refine pF ⟨Nat.le_of_ble_eq_true rfl,?_,?_⟩
      ·intro w hS
       (try simp only [ah,ak,au,ay,aA])
       refine MF 44 (args:= ?_) rfl rfl ?_ ?_
       rotate_left 1
       ·go_simp
        with_reducible rfl
       refine (Qh e v f HLE (aI U k) hbt x hx8 hS ⟨hS.laid,(((IG.out.cons _).cons _).cons _).at_ hS⟩).mono ?_
       rintro e0 w (⟨hrd,⟨r,rfl⟩,hS⟩|⟨e',v',X,hrd,rfl,hS,(⟨rfl,rfl,hmm⟩|⟨gm,cm,rfl,hmi⟩)⟩)<;>(try simp only [List.cons_append,List.nil_append] at hS)<;>(have Bo:=Lib.hid hrd;clear hrd;(try (have HMM:=Lib.hid hmm;clear hmm));(try (have HMJ:=Lib.hid hmi;clear hmi));refine ⟨_,rfl,_,hS,?_⟩;(try simp only [ah,ak,au,ay,aA]))
       all_goals
        go_wp2_with (first|fail|((refine aF rfl ?_);(first|((with_reducible refine aC (T:=35) ?_);(first|(refine iC rfl hS rfl rfl (by repeat constructor) ?_));(try simp only [ah,ak,au,ay,aA]))|((with_reducible refine qX ?_);refine wu rfl ?_;(try simp only [ah,ak,au,ay,aA]))|((with_reducible refine aN ?_);(first|(refine gJ rfl hS rfl rfl rfl (by repeat constructor) ?_;intro w hS));(try simp only [ah,ak,au,ay,aA]))))|((fail_if_success (with_reducible refine aB ?_));(first|((with_reducible refine sS ?_);refine pF ⟨Nat.le_of_ble_eq_true rfl,?_⟩;intro g w hS;(try simp only [ah,ak,au,ay,aA]))|((with_reducible refine pX ?_);(refine lQ (v:= ?_) rfl (fun _ _ _ h=>h) ?_ ?_;rotate_left;(focus ((intro w;go_simp)<;>with_reducible rfl)));(try simp only [ah,ak,au,ay,aA])))))
       all_goals first
        |(refine jy hS rfl rfl (by repeat constructor) rfl rfl (fun hb=>⟨hb, .inl ⟨by rw [←nX.out,IJ.out,Bo.out];rfl,rfl⟩⟩))
        |(go_roundw
          case rel=>first
           |exact ⟨k+1,e',_,mr,by omega,by go_num,Lib.hid (by rw [IJ.out,Bo.out,Option.bind_some]),Lib.hid (IG.out.same HMM.out),Lib.hid (by rw [Og.out];exact hS.tail)⟩
           |exact ⟨k+1,e',v',[(gm,cm,iw)],by omega,by go_num,Lib.hid (by rw [IJ.out,Bo.out,Option.bind_some]),HMJ,Lib.hid (by rw [Og.out];exact hS.pick (fun x hx=>by simp only [List.mem_cons,List.cons_append,List.nil_append,List.not_mem_nil,or_false] at hx ⊢;rcases hx with rfl|rfl|rfl|rfl<;>simp) (Aq hS.apart).1)⟩
           |exact ⟨k+1,e',v',[(gm,cm,iw)],by omega,by go_num,Lib.hid (by rw [IJ.out,Bo.out,Option.bind_some]),HMJ,Lib.hid (by rw [Og.out];exact hS.pick (fun x hx=>by simp only [List.mem_cons,List.cons_append,List.nil_append,List.not_mem_nil,or_false] at hx ⊢;rcases hx with rfl|rfl|rfl|rfl<;>simp) (Aq hS.apart).2)⟩
          case measure=>simp [intOf];omega)
      ·intro g9 w hS
       (try simp only [ah,ak,au,ay,aA])
       refine MF 44 (args:= ?_) rfl rfl ?_ ?_
       rotate_left 1
       ·go_simp
        with_reducible rfl
       refine (Qh e v f HLE (aI U k) hbt x hx8 hS ⟨hS.laid,((((IG.out.cons _).cons _).cons _).cons _).at_ hS⟩).mono ?_
       rintro e0 w (⟨hrd,⟨r,rfl⟩,hS⟩|⟨e',v',X,hrd,rfl,hS,(⟨rfl,rfl,hmm⟩|⟨gm,cm,rfl,hmi⟩)⟩)<;>(try simp only [List.cons_append,List.nil_append] at hS)<;>(have Bo:=Lib.hid hrd;clear hrd;(try (have HMM:=Lib.hid hmm;clear hmm));(try (have HMJ:=Lib.hid hmi;clear hmi));refine ⟨_,rfl,_,hS,?_⟩;(try simp only [ah,ak,au,ay,aA]))
       all_goals
        go_wp2_with (first|fail|((refine aF rfl ?_);(first|((with_reducible refine aC (T:=35) ?_);(first|(refine iC rfl hS rfl rfl (by repeat constructor) ?_));(try simp only [ah,ak,au,ay,aA]))|((with_reducible refine qX ?_);refine wu rfl ?_;(try simp only [ah,ak,au,ay,aA]))|((with_reducible refine aN ?_);(first|(refine gJ rfl hS rfl rfl rfl (by repeat constructor) ?_;intro w hS));(try simp only [ah,ak,au,ay,aA]))))|((fail_if_success (with_reducible refine aB ?_));(first|((with_reducible refine sS ?_);refine pF ?_;intro w hS)|((with_reducible refine pX ?_);(refine lQ (v:= ?_) rfl (fun _ _ _ h=>h) ?_ ?_;rotate_left;(focus ((intro w;go_simp)<;>with_reducible rfl)));(try simp only [ah,ak,au,ay,aA])))))
       all_goals first
        |(refine jy hS rfl rfl (by repeat constructor) rfl rfl (fun hb=>⟨hb, .inl ⟨by rw [←nX.out,IJ.out,Bo.out];rfl,rfl⟩⟩))
        |(go_roundw
          case rel=>first
           |exact ⟨k+1,e',_,mr,by omega,by go_num,Lib.hid (by rw [IJ.out,Bo.out,Option.bind_some]),Lib.hid (IG.out.same HMM.out),Lib.hid (by rw [Og.out];exact hS.tail)⟩
           |exact ⟨k+1,e',v',[(gm,cm,iw)],by omega,by go_num,Lib.hid (by rw [IJ.out,Bo.out,Option.bind_some]),HMJ,Lib.hid (by rw [Og.out];exact hS.pick (fun x hx=>by simp only [List.mem_cons,List.cons_append,List.nil_append,List.not_mem_nil,or_false] at hx ⊢;rcases hx with rfl|rfl|rfl|rfl<;>simp) (Aq hS.apart).1)⟩
           |exact ⟨k+1,e',v',[(gm,cm,iw)],by omega,by go_num,Lib.hid (by rw [IJ.out,Bo.out,Option.bind_some]),HMJ,Lib.hid (by rw [Og.out];exact hS.pick (fun x hx=>by simp only [List.mem_cons,List.cons_append,List.nil_append,List.not_mem_nil,or_false] at hx ⊢;rcases hx with rfl|rfl|rfl|rfl<;>simp) (Aq hS.apart).2)⟩
          case measure=>simp [intOf];omega)
     ·obtain rfl:k=U.length:=by omega
      have hrf:=VQ.out
      rw [List.drop_length,adp] at hrf
      have hq3:=nX.out
      rw [hrf] at hq3
      simp only at hq3
      cases hv:jl e 4 with
      |false=>
       rw [hv,if_neg (fun h=>by cases h.1)] at hq3
       have HN:=Lib.hid hq3.symm
       have HV:=Lib.hid hv
       clear hq3 hrf hv
       go_wp2_with (first|fail|((refine aF rfl ?_);(first|((with_reducible refine bG ?_);(first|(refine aS rfl ?_));(try simp only [ah,ak,au,ay,aA]))|((with_reducible refine aC (T:=35) ?_);(first|(refine iC rfl hS rfl rfl (by repeat constructor) ?_));(try simp only [ah,ak,au,ay,aA]))|((with_reducible refine qX ?_);refine wu rfl ?_;(try simp only [ah,ak,au,ay,aA]))|((with_reducible refine aN ?_);(first|(refine gJ rfl hS rfl rfl rfl (by repeat constructor) ?_;intro w hS));(try simp only [ah,ak,au,ay,aA]))))|((fail_if_success (with_reducible refine aB ?_));(first|(go_at_call 45;(with_reducible refine (St.call hS fun hl=>zT e v 4 false HV _ ⟨hl,(((IG.out.cons _).cons _).cons _).at_ hS⟩).mono ?_);rintro e w ⟨rfl,hS⟩))))
       all_goals (refine jy hS rfl rfl (by repeat constructor) rfl rfl (fun hb=>⟨hb, .inl ⟨HN.out,rfl⟩⟩))
      |true=>
       rw [hv] at hq3
       have HV:=Lib.hid hv
       obtain ⟨T,hT⟩:∃T,dB e=T:=⟨_,rfl⟩
       rw [hT] at hq3
       have HT:=Lib.hid hT
       clear hrf hv hT
       by_cases hx:T=s
       ·rw [if_pos ⟨rfl,hx⟩] at hq3
        have HN:=Lib.hid hq3.symm
        have ht:(T==s)=true:=by simpa using hx
        clear hq3 hx
        go_wp2_with (first|((first|(with_reducible refine aB ?_)|(with_reducible refine aT ?_));(first|(have hq:=int_eq (by assumption);subst hq)|(have hq:=str_eq (by assumption);subst hq)))|((refine aF rfl ?_);(first|((with_reducible refine aC (T:=35) ?_);(first|(refine iC rfl hS rfl rfl (by repeat constructor) ?_));(try simp only [ah,ak,au,ay,aA]))|((with_reducible refine aN ?_);(first|(refine gJ rfl hS rfl rfl rfl (by repeat constructor) ?_;intro w hS));(try simp only [ah,ak,au,ay,aA]))))|((fail_if_success (with_reducible refine aB ?_));(first|(go_at_call 45;(with_reducible refine (St.call hS fun hl=>zT e v 4 true HV _ ⟨hl,(((IG.out.cons _).cons _).cons _).at_ hS⟩).mono ?_);rintro e w ⟨rfl,hS⟩)|(go_at_call 46;(with_reducible refine (St.call hS fun hl=>EC e v T HT _ ⟨hl,(((IG.out.cons _).cons _).cons _).at_ hS⟩).mono ?_);rintro e w ⟨rfl,hS⟩))))
        all_goals (refine jy hS rfl rfl (by repeat constructor) rfl rfl (fun hb=>⟨hb, .inr ⟨e,v,HN.out,rfl,(((IG.out.cons _).cons _).cons _).aqC hS⟩⟩))
       ·rw [if_neg (fun h=>hx h.2)] at hq3
        have HN:=Lib.hid hq3.symm
        have ht:(T==s)=false:=by simpa using hx
        clear hq3 hx
        go_wp2_with (first|fail|((refine aF rfl ?_);(first|((with_reducible refine aC (T:=35) ?_);(first|(refine iC rfl hS rfl rfl (by repeat constructor) ?_));(try simp only [ah,ak,au,ay,aA]))|((with_reducible refine qX ?_);refine wu rfl ?_;(try simp only [ah,ak,au,ay,aA]))|((with_reducible refine aN ?_);(first|(refine gJ rfl hS rfl rfl rfl (by repeat constructor) ?_;intro w hS));(try simp only [ah,ak,au,ay,aA]))))|((fail_if_success (with_reducible refine aB ?_));(first|(go_at_call 45;(with_reducible refine (St.call hS fun hl=>zT e v 4 true HV _ ⟨hl,(((IG.out.cons _).cons _).cons _).at_ hS⟩).mono ?_);rintro e w ⟨rfl,hS⟩)|(go_at_call 46;(with_reducible refine (St.call hS fun hl=>EC e v T HT _ ⟨hl,(((IG.out.cons _).cons _).cons _).at_ hS⟩).mono ?_);rintro e w ⟨rfl,hS⟩))))
        all_goals (refine jy hS rfl rfl (by repeat constructor) rfl rfl (fun hb=>⟨hb, .inl ⟨HN.out,rfl⟩⟩))
   ·have hz1:((ws.length:Int)==1+(U.length:Int))=false:=by rw [beq_eq_false_iff_ne];omega
    have hz2:((ws.length:Int) != 1+(U.length:Int))=true:=by simp;omega
    rw [if_pos (.inr hlen)] at hq
    have HN:Hid (fC s=none):=Lib.hid hq.symm
    clear hq
    rw [Og.out] at hS
    go_wp2_with (first|fail|((refine aF rfl ?_);(first|((with_reducible refine aC (T:=3) ?_);(first|(refine lq rfl hS rfl rfl (by repeat constructor) ?_));(try simp only [ah,ak,au,ay,aA]))|((with_reducible refine qX ?_);refine wu rfl ?_;(try simp only [ah,ak,au,ay,aA]))|((with_reducible refine aN ?_);(first|(refine gJ rfl hS rfl rfl rfl (by repeat constructor) ?_;intro w hS));(try simp only [ah,ak,au,ay,aA]))))|((fail_if_success (with_reducible refine aB ?_));(first|(go_at_call 43;(with_reducible refine (St.still hS fun hl=>AA _ vV.out _ HU _).mono ?_);rintro e w ⟨rfl,hS⟩))))
    all_goals (refine jy hS rfl rfl (by repeat constructor) rfl rfl (fun hb=>⟨hb, .inl ⟨HN.out,rfl⟩⟩))
end Go.Proofs.YtdnnkgkondkhfaaGreatDoor
