/- Walks: package cardgamelaw17: alive: its parts. Conditions: LaidM. Walks: package cardgamelaw17: alive. Conditions: LaidM. Walks: the reference of chapter 17: Light, LightList. Conditions: the list -/
import Derived.Test.YtdnnkgkondkhfaaGreatDoorMEParse
import Derived.Test.YtdnnkgkondkhfaaGreatDoorQ3
set_option linter.all false
set_option maxRecDepth 100000
set_option maxHeartbeats 16000000
namespace Go.Proofs.YtdnnkgkondkhfaaGreatDoor
attribute [local irreducible] wpList Code.wp Calls
open Go.ChangeShapes Go.WideShapes Go.RowKit
def E1:Ef:=⟨1,⟨3,1,aaB⟩,⟨0,3,0,aaB⟩,0,0,⟨#[]⟩,aaB,bn,[]⟩
def E2:Ef:=⟨4,⟨1,0,aaB⟩,⟨0,1,0,aaB⟩,0,0,⟨#[]⟩,aaB,bn,[]⟩
def noS:Sl:=⟨none,0,0⟩
def aix:Str:=[100,97,109,97,103,101,32,116,97,114,103,101,116,49,32,51,59,32,100,114,97,119,32,121,111,117,32,49]
def acS:Str:=[109,111,100,32,101,97,99,104,40,121,111,117,114,115,32,99,114,101,97,116,117,114,101,41,32,91,112,116,43,61,49,47,49,44,32,107,101,121,115,43,61,104,97,115,116,101,93]
theorem abN:jW [E1,E2]=aix:=by kernel_rfl
theorem Om:kH aix=some [E1,E2]:=by rw [←abN];exact BM (by simp) (by decide) (by kernel_rfl)
def wsM:List Str:=[[109,111,100],[101,97,99,104,40,121,111,117,114,115,32,99,114,101,97,116,117,114,101,41],[91,112,116,43,61,49,47,49,44,32,107,101,121,115,43,61,104,97,115,116,101,93]]
theorem Za:eX 32 acS=wsM:=by kernel_rfl
theorem Y9:dB (qM wsM)=acS:=by kernel_rfl
theorem Ls:fC acS=some (qM wsM):=by unfold fC;rw [Za,if_pos ⟨by decide,Y9⟩]
theorem ad5:(qM wsM).mods.length=2:=by kernel_rfl
theorem ad3:jl E1 0=false:=by kernel_rfl
theorem ad4:jl E1 1=true:=by kernel_rfl
theorem abM:Jj [E1,E2] [E1,E2]=true:=(yw _ _).2 rfl
theorem abH (w:World):kL E1 noS w:=⟨rfl,by decide, .inl rfl⟩
theorem aqi (w:World):kL E2 noS w:=⟨rfl,by decide, .inl rfl⟩
def D9:Array Value:=Em.cells (E1.at noS)++Em.cells (E2.at noS)
theorem abD {w:World} {g:Nat} (h:w.heap[g]? =some (.cells D9 kZ (0,0))):qG (some ⟨g,0,none⟩) [(E1,noS),(E2,noS)] w:=by
 refine ⟨.inr ⟨g,0,rfl,fun k p hk j v hj=> ?_⟩,fun p hp=> ?_⟩
 ·rw [Nat.zero_add,cell_of_row w g (k * 64+j) D9 kZ (0,0) h]
  have aoe:j<64:=by
   rcases Nat.lt_or_ge j (EV.cells p).toList.length with h'|h'
   ·exact h'
   ·rw [List.getElem?_eq_none h'] at hj;cases hj
  match k,hk with
  |0,hk=>
   obtain rfl:(E1,noS)=p:=Option.some.inj hk
   unfold D9
   rw [Nat.zero_mul,Nat.zero_add,Array.getElem?_append_left (by exact aoe)]
   simpa [EV.cells] using hj
  |1,hk=>
   obtain rfl:(E2,noS)=p:=Option.some.inj hk
   unfold D9
   rw [Array.getElem?_append_right (by show 64≤1 * 64+j;omega),show 1 * 64+j - (Em.cells (E1.at noS)).size=j from by show 1 * 64+j - 64=j;omega]
   simpa [EV.cells] using hj
 ·rcases List.mem_cons.1 hp with rfl|hp
  ·exact abH w
  ·obtain rfl:p=(E2,noS):=by simpa using hp
   exact aqi w
theorem ae2 (x0:Int) (x1:Rf) (x2:Am):∀w:World,(Instr.build kZ ([(0, .int .i64 x0),(1, .agg (Rf.cells x1)),(2, .agg (Am.cells x2))]:List (Nat × Value)).toArray).run Tryz.prog w= .ok (.agg (Em.cells ⟨x0,x1,x2,0,0,⟨#[]⟩,aaB,bn,⟨none,0,0⟩⟩)) w:=fun _=>by kernel_rfl
theorem ak7 {x0:Int} {x1:Rf} {x2:Am} {y0 y1 y2:Operand} {ops:Array Oper} {rest:List Oper} {a:Act} {w:World} {Q:Exit→Act→World→Prop} {dst:Option Tmp} {ty:TypeId} {pos:String} {af:Array Edge} {gd:Option (Nat × Bool)} (hw:Region.wanted (⟨dst, .build kZ #[(0,y0),(1,y1),(2,y2)],ty,pos,af,gd⟩:Oper) (yielded ops a.tmps)=true) (h0:a.eval y0= .int .i64 x0) (h1:a.eval y1= .agg (Rf.cells x1)) (h2:a.eval y2= .agg (Am.cells x2))
 (h:wpList Tryz.prog ops Q rest (a.put dst (.agg (Em.cells ⟨x0,x1,x2,0,0,⟨#[]⟩,aaB,bn,⟨none,0,0⟩⟩))) w):wpList Tryz.prog ops Q ((⟨dst, .build kZ #[(0,y0),(1,y1),(2,y2)],ty,pos,af,gd⟩:Oper)::rest) a w:=
 gQ (l:=[(0,y0),(1,y1),(2,y2)]) rfl hw (ps:=[(0, .int .i64 x0),(1, .agg (Rf.cells x1)),(2, .agg (Am.cells x2))]) (by simp only [List.map_cons,List.map_nil,h0,h1,h2]) (ae2 x0 x1 x2) h
theorem ak9 (w:World):(Instr.buildSlice Ol 2 #[(0, .agg (Em.cells (E1.at noS))),(1, .agg (Em.cells (E2.at noS)))]).run Tryz.prog w= .ok (.slice (some ⟨w.heap.size,0,none⟩) 2 2) (w.alloc (.cells D9 kZ)):=by kernel_rfl
theorem wpList_want {L:World→Prop} {w0 w:World} {rows:List Row} {ops:Array Oper} {rest:List Oper} {o:Oper} {a:Act} {Q:Exit→Act→World→Prop} {x y:Operand} (ho:o.op= .buildSlice Ol 2 #[(0,x),(1,y)]) (hS:St L w0 rows w) (hw:Region.wanted o (yielded ops a.tmps)=true) (hx:a.eval x= .agg (Em.cells (E1.at noS))) (hy:a.eval y= .agg (Em.cells (E2.at noS)))
 (h:∀g w',St L w0 ((g,D9,kZ)::rows) w'→wpList Tryz.prog ops Q rest (a.put o.dst (.slice (some ⟨g,0,none⟩) 2 2)) w'):wpList Tryz.prog ops Q (o::rest) a w:=
 jc hw fun K hK=>by
  have hr:=ak9 w
  unfold Oper.wp execOp
  simp [ho,hx,hy,Sem.run_bind,hr,Result.andThen]
  exact hK _ _ (h _ _ (hS.alloc _ _))
theorem aqx {α:Type} :∀ {l:List α},l.length=2→∃a b,l=[a,b]
 |[a,b],_=>⟨a,b,rfl⟩
theorem anI {w0 w:World} (hS:St bZ w0 [] w):Calls Tryz.prog 16 #[.string ⟨#[100,97,109,97,103,101,32,116,97,114,103,101,116,49,32,51,59,32,100,114,97,119,32,121,111,117,32,49]⟩] w fun e w'=>∃v1 v2 A c,e= .returned (.tuple #[.slice A 2 c, .int .i64 0])∧St (KO A [(E1,v1),(E2,v2)]) w' [] w'∧Hid (Below w0.heap.size w0 w'):=by
 refine (EO aix (by decide) (fun x hx=>Nat.lt_of_le_of_lt (QA _ x hx) (by decide)) w hS.laid).mono ?_
 rintro e w' ⟨hb,h⟩
 rcases h with ⟨h1,_⟩|⟨es,v,h1,he,own⟩
 ·rw [Om] at h1;cases h1
 ·rw [Om] at h1
  have h2:=(Option.some.inj h1).symm
  have hlen:=congrArg List.length h2
  rw [List.length_map] at hlen
  obtain ⟨p1,p2,rfl⟩:=aqx hlen
  obtain ⟨p1e,v1⟩:=p1
  obtain ⟨p2e,v2⟩:=p2
  simp only [List.map_cons,List.map_nil,List.cons.injEq,and_true] at h2
  obtain ⟨rfl,rfl⟩:=h2
  obtain ⟨A,c,rfl⟩:=own.form
  exact ⟨v1,v2,A,c,he,St.start ⟨(hS.mono hb).laid,own.arg.2⟩ (EW _ _),Lib.hid (hS.mono hb).below⟩
theorem anJ {L:World→Prop} {w0 w:World} {rows:List Row} (hS:St L w0 rows w) (hl:bZ w):Calls Tryz.prog 12 #[.string ⟨#[109,111,100,32,101,97,99,104,40,121,111,117,114,115,32,99,114,101,97,116,117,114,101,41,32,91,112,116,43,61,49,47,49,44,32,107,101,121,115,43,61,104,97,115,116,101,93]⟩] w fun e w'=>∃(m:Ef) (v:Sl),e= .returned (.tuple #[.agg (Ef.at m ⟨v.a,2,v.c⟩).cells, .int .i64 0])∧St L w0 rows w':=by
 refine (Aj acS (by decide) w hl).mono ?_
 rintro e w' ⟨hb,h⟩
 rcases h with ⟨h1,_⟩|⟨m,v,h1,he,hm⟩
 ·rw [Ls] at h1;cases h1
 ·rw [Ls] at h1
  have h2:=ad5
  rw [Option.some.inj h1] at h2
  have hn:=hm.1
  rw [h2] at hn
  obtain ⟨va,vn,vc⟩:=v
  simp only at hn
  subst hn
  exact ⟨m,⟨va,2,vc⟩,he,hS.mono hb⟩
theorem anK (v1 v2:Sl) (A:Option Addr) (c g:Nat) (w:World) (h1:qG A [(E1,v1),(E2,v2)] w) (h2:w.heap[g]? =some (.cells D9 kZ (0,0))):Calls Tryz.prog 20 #[.slice A 2 c, .slice (some ⟨g,0,none⟩) 2 2] w fun e w'=>e= .returned (.bool true)∧Below w.heap.size w w':=
 J7 [(E1,v1),(E2,v2)] [(E1,noS),(E2,noS)] A (some ⟨g,0,none⟩) c 2 true (Lib.hid abM) w ⟨h1,abD h2⟩ (by show 2<100000000;decide) (by show 2<100000000;decide)
theorem anL (w:World):Calls Tryz.prog 36 #[.int .i64 4] w fun e w'=>e= .returned (.string (B [101,120,105,108,101]))∧Below w.heap.size w w':=QH 4 _ (Lib.hid (by decide +kernel)) w
end Go.Proofs.YtdnnkgkondkhfaaGreatDoor
namespace Go.Proofs.YtdnnkgkondkhfaaGreatDoor
attribute [local irreducible] wpList Code.wp Calls D9
open Go.ChangeShapes Go.WideShapes Go.RowKit
theorem wQ (w0:World) (hl:bZ w0):Calls Tryz.prog 11 #[] w0 fun e w'=>e= .returned (.bool true)∧Below w0.heap.size w0 w':=by
 have hS:=St.start hl xA
 go_enter Tryz.func11,Tryz.ntmps11
 go_wp2_with (first|fail|((refine aF rfl ?_);(first|((with_reducible refine ahy (T:=kZ) ?_);refine ak7 rfl rfl rfl rfl ?_;(try simp only [ah,ak,au,ay,aA]))|((with_reducible refine sW ?_);refine wpList_want rfl hS rfl rfl rfl ?_;intro gw w hS;(try simp only [ah,ak,au,ay,aA]))|((with_reducible refine aC (T:=kZ) ?_);refine jk kZ rfl rfl rfl ((abD (hS.row (.tail .head))).row (k:=0) (p:=(E1,noS)) (Lib.hid rfl)) Tryz.underlying35 rfl kY ?_;(try simp only [ah,ak,au,ay,aA]))|((with_reducible refine aC (T:=33) ?_);(first|(refine sH rfl hS rfl rfl (by repeat constructor) ?_));(try simp only [ah,ak,au,ay,aA]))|((with_reducible refine aW ?_);(first|(refine aJ 35 rfl hS rfl _ jd ?_;intro g w hS));(try simp only [ah,ak,au,ay,aA]))|((with_reducible refine aak ?_);refine agJ rfl rfl ?_;(try simp only [ah,ak,au,ay,aA]))|((with_reducible refine Vu ?_);refine aai rfl rfl rfl ?_;(try simp only [ah,ak,au,ay,aA]))|((with_reducible refine Zc ?_);refine ad7 rfl rfl ?_;(try simp only [ah,ak,au,ay,aA]))|((with_reducible refine aN ?_);(first|(refine gJ rfl hS rfl rfl rfl (by repeat constructor) ?_;intro w hS));(try simp only [ah,ak,au,ay,aA]))))|((fail_if_success (with_reducible refine aB ?_));(first|(go_at_call 36;(with_reducible refine (St.call hS fun hl=>anL _).mono ?_);rintro e w ⟨rfl,hS⟩)|(go_at_call 37;(with_reducible refine (St.call hS fun hl=>KT E1 noS 0 false (Lib.hid ad3) _ ⟨hl.1,abH _⟩).mono ?_);rintro e w ⟨rfl,hS⟩)|(go_at_call 37;(with_reducible refine (St.call hS fun hl=>KT E1 noS 1 true (Lib.hid ad4) _ ⟨hl.1,abH _⟩).mono ?_);rintro e w ⟨rfl,hS⟩)|(go_at_call 16;(refine (anI hS).mono ?_);rintro e w1 ⟨v1,v2,A,c,rfl,hS,HB⟩)|(go_at_call 12;(refine (anJ hS hS.laid.1).mono ?_);rintro e w ⟨m,v,rfl,hS⟩)|(go_at_call 20;(refine (St.call hS fun hl=>anK v1 v2 A c gw _ hl.2 (hS.row (by repeat constructor))).mono ?_);rintro e w ⟨rfl,hS⟩))))
 all_goals go_ret
 all_goals exact ⟨aX (by simp),HB.out.trans (hS.below.mono HB.out.size)⟩
end Go.Proofs.YtdnnkgkondkhfaaGreatDoor
namespace Go.Proofs.YtdnnkgkondkhfaaGreatDoor
attribute [local irreducible] wpList Code.wp Calls
open Go.ChangeShapes Go.WideShapes Go.RowKit
theorem ad8 {A:Option Addr} {l:List Md} {w:World} (h:uj A l w) {k:Nat} (hk:k<l.length):∃b off,A=some ⟨b,off,none⟩:=by
 rcases h with rfl|⟨b,off,e,_⟩
 ·simp at hk
 ·exact ⟨b,off,e⟩
theorem Ou {b off:Nat} {l:List Md} {w:World} (h:uj (some ⟨b,off,none⟩) l w) {k:Nat} {m:Md} (hk:Hid (l[k]? =some m)) (j:Nat) {v:Value} (hj:m.cells[j]? =some v):w.cell? ⟨b,off+k * 20+j,none⟩=some v:=by
 rcases h with rfl|⟨b,off,e,hm⟩
 ·have:=hk.out;simp at this
 ·injection e with e
  injection e with e1 e2
  subst e1 e2
  exact hm k m hk.out j v (by simpa using hj)
theorem Vq (op:Int) (ref:Rf) (amt:Am) (ctr zone:Int) (card:ByteArray) (flt:aH) (pool:Po) (mods:List Md) (va:Option Addr) (N vc:Nat) (HN:Hid (mods.length=N)) (w0:World) (hl:mg ⟨op,ref,amt,ctr,zone,card,flt,pool,mods⟩ ⟨va,N,vc⟩ w0):Calls Tryz.prog 48 #[.agg (Em.cells ⟨op,ref,amt,ctr,zone,card,flt,pool,⟨va,N,vc⟩⟩)] w0 fun x w'=>(∃b,x= .returned (.bool b)∧(b=true→N≤20))∧Below w0.heap.size w0 w':=by
 have hS:=St.start (L:=mg ⟨op,ref,amt,ctr,zone,card,flt,pool,mods⟩ ⟨va,N,vc⟩) hl (fun _ _ h hb=>h.keep hb)
 have hmx:N≤9223372036854775807:=by
  have:=hl.2.1
  simp only at this
  rwa [HN.out] at this
 go_enter Tryz.func48,Tryz.ntmps48
 go_wp2_with (first|fail|((refine aF rfl ?_);(first|((with_reducible refine bG ?_);(first|(refine aS rfl ?_)|((fail_if_success refine fJ rfl ?_);refine iZ _ _ rfl rfl (fun hb=> ?_) (fun hb=> ?_)<;>(first|(obtain rfl:=eq_of_beq hb)|(simp only [hb]))));(try simp only [ah,ak,au,ay,aA]))|((with_reducible refine aC (T:=9) ?_);(first|(refine wC rfl hS rfl rfl (by repeat constructor) ?_)|(refine ahZ rfl hS rfl rfl (by repeat constructor) ?_)|(refine ah0 rfl hS rfl rfl (by repeat constructor) ?_)|(refine ah2 rfl hS rfl rfl (by repeat constructor) ?_));(try simp only [ah,ak,au,ay,aA]))|((with_reducible refine aC (T:=33) ?_);(first|(refine sH rfl hS rfl rfl (by repeat constructor) ?_));(try simp only [ah,ak,au,ay,aA]))|((with_reducible refine bI ?_);(first|(refine aG rfl hS rfl rfl ?_;intro g w hS));(try simp only [ah,ak,au,ay,aA]))))|((fail_if_success (with_reducible refine aB ?_));(first|fail)))
 all_goals first
  |(go_ret;exact ⟨⟨_,rfl,by simp⟩,hS.below⟩)
  |skip
 have h20:N≤20:=by omega
 go_loopw [3] (fun iv wr=>∃k:Nat,k≤N∧iv= .int .i64 k∧Hid (St (mg ⟨op,ref,amt,ctr,zone,card,flt,pool,mods⟩ ⟨va,N,vc⟩) w0 [(g,Em.cells ⟨op,ref,amt,ctr,zone,card,flt,pool,⟨va,N,vc⟩⟩,35)] wr)) (fun iv _=>N - (intOf iv).toNat)
 case atStart=>exact ⟨0,by omega,rfl,Lib.hid hS⟩
 case round=>
  clear hS
  obtain ⟨k,hk,rfl,HS⟩:=hrel
  have hS:=HS.out
  clear HS
  by_cases hlt:k<N
  ·obtain ⟨m,hm⟩:∃m,mods[k]? =some m:=⟨mods[k]'(by rw [HN.out];exact hlt),List.getElem?_eq_getElem _⟩
   obtain ⟨mk,mn,mm,ms,mf⟩:=m
   obtain ⟨f1,f2,f3,f4,f5,f6,f7,fs,f9,f10,f11,f12,f13,f14,f15,f16⟩:=mf
   obtain ⟨b1,o1,rfl⟩:=ad8 hS.laid.2.2 (by rw [HN.out];exact hlt)
   have HM:=Lib.hid hm
   clear hm
   go_wp2_with (first|fail|((refine aF rfl ?_);(first|((with_reducible refine bG ?_);(first|(refine aS rfl ?_)|((fail_if_success refine fJ rfl ?_);refine iZ _ _ rfl rfl (fun hb=> ?_) (fun hb=> ?_)<;>(first|(obtain rfl:=eq_of_beq hb)|(simp only [hb]))));(try simp only [ah,ak,au,ay,aA]))|((with_reducible refine aC ?_);refine mJ rfl rfl rfl (Ou (v:= .string ms) hS.laid.2.2 HM 3 rfl) ?_;(try simp only [ah,ak,au,ay,aA]))|((with_reducible refine aC ?_);refine mJ rfl rfl rfl (Ou (v:= .string fs) hS.laid.2.2 HM 11 rfl) ?_;(try simp only [ah,ak,au,ay,aA]))|((with_reducible refine aC (T:=33) ?_);(first|(refine sH rfl hS rfl rfl (by repeat constructor) ?_));(try simp only [ah,ak,au,ay,aA]))))|((fail_if_success (with_reducible refine aB ?_));(first|fail)))
   all_goals first
    |(go_ret;exact ⟨⟨_,rfl,by simp⟩,hS.below⟩)
    |(go_roundw;(case rel=>exact ⟨k+1,by omega,by go_num,Lib.hid hS⟩);(case measure=>simp [intOf];omega))
  ·obtain rfl:k=N:=by omega
   go_wp2_with (first|fail|((refine aF rfl ?_);(first|((with_reducible refine aC (T:=33) ?_);(first|(refine sH rfl hS rfl rfl (by repeat constructor) ?_));(try simp only [ah,ak,au,ay,aA]))))|((fail_if_success (with_reducible refine aB ?_));(first|fail)))
   all_goals go_ret
   all_goals exact ⟨⟨_,rfl,fun _=>h20⟩,hS.below⟩
theorem Yk (e:Ef) (v:Sl) (w:World) (hl:mg e v w):Calls Tryz.prog 48 #[.agg (e.at v).cells] w fun x w'=>(∃b,x= .returned (.bool b)∧(b=true→e.mods.length≤20))∧Below w.heap.size w w':=by
 obtain ⟨op,ref,amt,ctr,zone,card,flt,pool,mods⟩:=e
 obtain ⟨va,vn,vc⟩:=v
 have hvn:=hl.1
 simp only at hvn
 subst hvn
 exact Vq op ref amt ctr zone card flt pool mods va _ vc (Lib.hid rfl) w hl
theorem alz (A:Option Addr) (es:List EV):∀w1 w2:World,og A es w1→Below w1.heap.size w1 w2→og A es w2:=fun _ _ h hb=>h.keep hb
theorem CU (es:List EV) (A:Option Addr) (c:Nat) (w0:World) (hl:og A es w0):Calls Tryz.prog 15 #[.slice A es.length c] w0 fun x w'=>(∃b,x= .returned (.bool b)∧(b=true→es.length≤20∧∀p∈es,p.1.mods.length≤20))∧Below w0.heap.size w0 w':=by
 have hS:=St.start hl (alz A es)
 have hmx:=hl.2.1
 go_enter Tryz.func15,Tryz.ntmps15
 go_wp2_with (first|fail|((refine aF rfl ?_);(first|fail))|((fail_if_success (with_reducible refine aB ?_));(first|fail)))
 go_loopw [3] (fun iv wr=>∃k:Nat,k≤es.length∧iv= .int .i64 k∧Hid (∀p∈es.take k,p.1.mods.length≤20)∧Hid (St (og A es) w0 [] wr)) (fun iv _=>es.length - (intOf iv).toNat)
 case atStart=>exact ⟨0,by omega,rfl,Lib.hid (by simp),Lib.hid hS⟩
 case round=>
  clear hS
  obtain ⟨k,hk,rfl,HT,HS⟩:=hrel
  have hS:=HS.out
  clear HS
  by_cases hlt:k<es.length
  ·obtain ⟨p,hp⟩:∃p,es[k]? =some p:=⟨es[k],List.getElem?_eq_getElem hlt⟩
   obtain ⟨b1,o1,rfl⟩:=hS.laid.in_ hlt
   have HN:Hid (p.1.mods.length≤20→∀q∈es.take (k+1),q.1.mods.length≤20):=Lib.hid (fun h q hq=>by
    rw [xW es k p hp] at hq
    rcases List.mem_append.1 hq with hq|hq
    ·exact HT.out q hq
    ·obtain rfl:q=p:=by simpa using hq
     exact h)
   have HP:=Lib.hid hp
   clear hp
   go_wp2_with (first|fail|((refine aF rfl ?_);(first|((with_reducible refine aC (T:=kZ) ?_);refine jk kZ rfl rfl rfl (hS.laid.row HP) Tryz.underlying35 rfl kY ?_;(try simp only [ah,ak,au,ay,aA]))))|((fail_if_success (with_reducible refine aB ?_));(first|(go_at_call 48;(refine (Yk p.1 p.2 _ (hS.laid.mods HP)).mono ?_);rintro e w ⟨⟨b,rfl,h20⟩,hb⟩;have hS:=hS.mono hb;have H20:=Lib.hid h20;clear hb h20;cases b))))
   ·go_ret
    exact ⟨⟨false,rfl,by simp⟩,hS.below⟩
   ·have II:=Lib.hid (HN.out (H20.out (by trivial)))
    go_roundw
    case rel=>exact ⟨k+1,by omega,by go_num,II,Lib.hid hS⟩
    case measure=>simp [intOf];omega
  ·obtain rfl:k=es.length:=by omega
   go_wp2_with (first|fail|((refine aF rfl ?_);(first|fail))|((fail_if_success (with_reducible refine aB ?_));(first|fail)))
   all_goals go_ret
   all_goals exact ⟨⟨decide ((es.length:Int)≤20),rfl,fun h=>⟨by have:=of_decide_eq_true h;omega,by have:=HT.out;rwa [List.take_length] at this⟩⟩,hS.below⟩
end Go.Proofs.YtdnnkgkondkhfaaGreatDoor
