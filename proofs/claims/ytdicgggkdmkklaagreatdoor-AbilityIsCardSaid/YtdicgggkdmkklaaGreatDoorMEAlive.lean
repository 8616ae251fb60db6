/- Walks: the reference of chapter 17: Light, LightList. Conditions: the lists lie in memory. -/
import Derived.Test.YtdicgggkdmkklaaGreatDoorMEParse
import Derived.Test.YtdicgggkdmkklaaGreatDoorQ3
set_option linter.all false
set_option maxRecDepth 100000
set_option maxHeartbeats 16000000
namespace Go.Proofs.YtdicgggkdmkklaaGreatDoor
attribute [local irreducible] wpList Code.wp Calls
open Go.ChangeShapes Go.WideShapes Go.RowKit
theorem ad8 {A:Option Addr} {l:List Md} {w:World} (h:uj A l w) {k:Nat} (hk:k<l.length):∃b off,A=some ⟨b,off,none⟩:=by
 rcases h with rfl|⟨b,off,e,_⟩
 ·simp at hk
 ·exact ⟨b,off,e⟩
theorem Ou {b off:Nat} {l:List Md} {w:World} (h:uj (some ⟨b,off,none⟩) l w) {k:Nat} {m:Md} (hk:Hid (l[k]? =some m)) (j:Nat) {v:Value} (hj:m.cells[j]? =some v):w.cell? ⟨b,off+k * 20+j,none⟩=some v:=by
 rcases h with rfl|⟨b,off,e,hm⟩
 ·have:=hk.out;simp at this
 ·injection e with e
  injection e with e1 e2
  subst e1 e2
  exact hm k m hk.out j v (by simpa using hj)
theorem Vq (op:Int) (ref:Rf) (amt:Am) (ctr zone:Int) (card:ByteArray) (flt:aH) (pool:Po) (mods:List Md) (va:Option Addr) (N vc:Nat) (HN:Hid (mods.length=N)) (w0:World) (hl:mg ⟨op,ref,amt,ctr,zone,card,flt,pool,mods⟩ ⟨va,N,vc⟩ w0):Calls Tryz.prog 67 #[.agg (Em.cells ⟨op,ref,amt,ctr,zone,card,flt,pool,⟨va,N,vc⟩⟩)] w0 fun x w'=>(∃b,x= .returned (.bool b)∧(b=true→N≤20))∧Below w0.heap.size w0 w':=by
 have hS:=St.start (L:=mg ⟨op,ref,amt,ctr,zone,card,flt,pool,mods⟩ ⟨va,N,vc⟩) hl (fun _ _ h hb=>h.keep hb)
 have hmx:N≤9223372036854775807:=by
  have:=hl.2.1
  simp only at this
  rwa [HN.out] at this
 go_enter Tryz.func67,Tryz.ntmps67
 go_wp2_with (first|fail|((refine aF rfl ?_);(first|((with_reducible refine bG ?_);(first|(refine aS rfl ?_)|((fail_if_success refine fJ rfl ?_);refine iZ _ _ rfl rfl (fun hb=> ?_) (fun hb=> ?_)<;>(first|(obtain rfl:=eq_of_beq hb)|(simp only [hb]))));(try simp only [ah,ak,au,ay,aA]))|((with_reducible refine aC (T:=9) ?_);(first|(refine wC rfl hS rfl rfl (by repeat constructor) ?_)|(refine ahZ rfl hS rfl rfl (by repeat constructor) ?_)|(refine ah0 rfl hS rfl rfl (by repeat constructor) ?_)|(refine ah2 rfl hS rfl rfl (by repeat constructor) ?_));(try simp only [ah,ak,au,ay,aA]))|((with_reducible refine aC (T:=26) ?_);(first|(refine sH rfl hS rfl rfl (by repeat constructor) ?_));(try simp only [ah,ak,au,ay,aA]))|((with_reducible refine bI ?_);(first|(refine aG rfl hS rfl rfl ?_;intro g w hS));(try simp only [ah,ak,au,ay,aA]))))|((fail_if_success (with_reducible refine aB ?_));(first|fail)))
 all_goals first
  |(go_ret;exact ⟨⟨_,rfl,by simp⟩,hS.below⟩)
  |skip
 have h20:N≤20:=by omega
 go_loopw [3] (fun iv wr=>∃k:Nat,k≤N∧iv= .int .i64 k∧Hid (St (mg ⟨op,ref,amt,ctr,zone,card,flt,pool,mods⟩ ⟨va,N,vc⟩) w0 [(g,Em.cells ⟨op,ref,amt,ctr,zone,card,flt,pool,⟨va,N,vc⟩⟩,67)] wr)) (fun iv _=>N - (intOf iv).toNat)
 case atStart=>exact ⟨0,by omega,rfl,Lib.hid hS⟩
 case round=>
  clear hS
  obtain ⟨k,hk,rfl,HS⟩:=hrel
  have hS:=HS.out
  clear HS
  by_cases hlt:k<N
  ·obtain ⟨m,hm⟩:∃m,mods[k]? =some m:=⟨mods[k]'(by rw [HN.out];exact hlt),List.getElem?_eq_getElem _⟩
   obtain ⟨mk,mn,mm,ms,mf⟩:=m
   obtain ⟨f1,f2,f3,f4,f5,f6,f7,fs,f9,f10,f11,f12,f13,f14,f15,f16⟩:=mf
   obtain ⟨b1,o1,rfl⟩:=ad8 hS.laid.2.2 (by rw [HN.out];exact hlt)
   have HM:=Lib.hid hm
   clear hm
   go_wp2_with (first|fail|((refine aF rfl ?_);(first|((with_reducible refine bG ?_);(first|(refine aS rfl ?_)|((fail_if_success refine fJ rfl ?_);refine iZ _ _ rfl rfl (fun hb=> ?_) (fun hb=> ?_)<;>(first|(obtain rfl:=eq_of_beq hb)|(simp only [hb]))));(try simp only [ah,ak,au,ay,aA]))|((with_reducible refine aC ?_);refine mJ rfl rfl rfl (Ou (v:= .string ms) hS.laid.2.2 HM 3 rfl) ?_;(try simp only [ah,ak,au,ay,aA]))|((with_reducible refine aC ?_);refine mJ rfl rfl rfl (Ou (v:= .string fs) hS.laid.2.2 HM 11 rfl) ?_;(try simp only [ah,ak,au,ay,aA]))|((with_reducible refine aC (T:=26) ?_);(first|(refine sH rfl hS rfl rfl (by repeat constructor) ?_));(try simp only [ah,ak,au,ay,aA]))))|((fail_if_success (with_reducible refine aB ?_));(first|fail)))
   all_goals first
    |(go_ret;exact ⟨⟨_,rfl,by simp⟩,hS.below⟩)
    |(go_roundw;(case rel=>exact ⟨k+1,by omega,by go_num,Lib.hid hS⟩);(case measure=>simp [intOf];omega))
  ·obtain rfl:k=N:=by omega
   go_wp2_with (first|fail|((refine aF rfl ?_);(first|((with_reducible refine aC (T:=26) ?_);(first|(refine sH rfl hS rfl rfl (by repeat constructor) ?_));(try simp only [ah,ak,au,ay,aA]))))|((fail_if_success (with_reducible refine aB ?_));(first|fail)))
   all_goals go_ret
   all_goals exact ⟨⟨_,rfl,fun _=>h20⟩,hS.below⟩
theorem Yk (e:Ef) (v:Sl) (w:World) (hl:mg e v w):Calls Tryz.prog 67 #[.agg (e.at v).cells] w fun x w'=>(∃b,x= .returned (.bool b)∧(b=true→e.mods.length≤20))∧Below w.heap.size w w':=by
 obtain ⟨op,ref,amt,ctr,zone,card,flt,pool,mods⟩:=e
 obtain ⟨va,vn,vc⟩:=v
 have hvn:=hl.1
 simp only at hvn
 subst hvn
 exact Vq op ref amt ctr zone card flt pool mods va _ vc (Lib.hid rfl) w hl
theorem alz (A:Option Addr) (es:List EV):∀w1 w2:World,og A es w1→Below w1.heap.size w1 w2→og A es w2:=fun _ _ h hb=>h.keep hb
theorem CU (es:List EV) (A:Option Addr) (c:Nat) (w0:World) (hl:og A es w0):Calls Tryz.prog 24 #[.slice A es.length c] w0 fun x w'=>(∃b,x= .returned (.bool b)∧(b=true→es.length≤20∧∀p∈es,p.1.mods.length≤20))∧Below w0.heap.size w0 w':=by
 have hS:=St.start hl (alz A es)
 have hmx:=hl.2.1
 go_enter Tryz.func24,Tryz.ntmps24
 go_wp2_with (first|fail|((refine aF rfl ?_);(first|fail))|((fail_if_success (with_reducible refine aB ?_));(first|fail)))
 go_loopw [3] (fun iv wr=>∃k:Nat,k≤es.length∧iv= .int .i64 k∧Hid (∀p∈es.take k,p.1.mods.length≤20)∧Hid (St (og A es) w0 [] wr)) (fun iv _=>es.length - (intOf iv).toNat)
 case atStart=>exact ⟨0,by omega,rfl,Lib.hid (by simp),Lib.hid hS⟩
 case round=>
  clear hS
  obtain ⟨k,hk,rfl,HT,HS⟩:=hrel
  have hS:=HS.out
  clear HS
  by_cases hlt:k<es.length
  ·obtain ⟨p,hp⟩:∃p,es[k]? =some p:=⟨es[k],List.getElem?_eq_getElem hlt⟩
   obtain ⟨b1,o1,rfl⟩:=hS.laid.zB hlt
   have HN:Hid (p.1.mods.length≤20→∀q∈es.take (k+1),q.1.mods.length≤20):=Lib.hid (fun h q hq=>by
    rw [xW es k p hp] at hq
    rcases List.mem_append.1 hq with hq|hq
    ·exact HT.out q hq
    ·obtain rfl:q=p:=by simpa using hq
     exact h)
   have HP:=Lib.hid hp
   clear hp
   go_wp2_with (first|fail|((refine aF rfl ?_);(first|((with_reducible refine aC (T:=kZ) ?_);refine jk kZ rfl rfl rfl (hS.laid.row HP) Tryz.underlying67 rfl kY ?_;(try simp only [ah,ak,au,ay,aA]))))|((fail_if_success (with_reducible refine aB ?_));(first|(go_at_call 67;(refine (Yk p.1 p.2 _ (hS.laid.mods HP)).mono ?_);rintro e w ⟨⟨b,rfl,h20⟩,hb⟩;have hS:=hS.mono hb;have H20:=Lib.hid h20;clear hb h20;cases b))))
   ·go_ret
    exact ⟨⟨false,rfl,by simp⟩,hS.below⟩
   ·have II:=Lib.hid (HN.out (H20.out (by trivial)))
    go_roundw
    case rel=>exact ⟨k+1,by omega,by go_num,II,Lib.hid hS⟩
    case measure=>simp [intOf];omega
  ·obtain rfl:k=es.length:=by omega
   go_wp2_with (first|fail|((refine aF rfl ?_);(first|fail))|((fail_if_success (with_reducible refine aB ?_));(first|fail)))
   all_goals go_ret
   all_goals exact ⟨⟨decide ((es.length:Int)≤20),rfl,fun h=>⟨by have:=of_decide_eq_true h;omega,by have:=HT.out;rwa [List.take_length] at this⟩⟩,hS.below⟩
end Go.Proofs.YtdicgggkdmkklaaGreatDoor
