/- Walks: package effect: whole, Is. Conditions: LaidM; the modifications lie where the slice says. Walks: package effect: Text, whole; inner; the closure of guess. Conditions: LaidM; the modification -/
import Derived.Test.YtdicgggkdmkklaaGreatDoorMEWhW
import Derived.Test.YtdicgggkdmkklaaGreatDoorQ8
import Derived.Test.YtdicgggkdmkklaaGreatDoorQ18
import Derived.Test.YtdicgggkdmkklaaGreatDoorQ17
import Derived.Test.YtdicgggkdmkklaaGreatDoorQ9
import Derived.Test.YtdicgggkdmkklaaGreatDoorQ5
set_option linter.all false
set_option maxRecDepth 100000
set_option maxHeartbeats 16000000
namespace Go.Proofs.YtdicgggkdmkklaaGreatDoor
attribute [local irreducible] wpList Code.wp Calls iY iT dh eH jY dw isName fRef rG rH oC fCard qL oz ou vU sV fK uV textOf
open Go.ChangeShapes Go.WideShapes Go.RowKit
theorem ajD (op:Int) (ref:Rf) (amt:Am) (ctr zone:Int) (card:Str) (flt:aH) (pool:Po) (mods:List Md) (va:Option Addr) (vn vc:Nat) (specs:Int) (R:Bool) (HR:Hid (jw ⟨op,ref,amt,ctr,zone,B card,flt,pool,mods⟩ specs=R)) (U:Us) (HU:Hid (Dk op=U)) (w:World) (hl:bQ ⟨op,ref,amt,ctr,zone,B card,flt,pool,mods⟩ ⟨va,vn,vc⟩ w):
 Calls Tryz.prog 77 #[.agg (Em.cells ⟨op,ref,amt,ctr,zone,B card,flt,pool,⟨va,vn,vc⟩⟩), .agg (Us.cells U), .int .i64 specs] w fun e w'=>e= .returned (.bool R)∧Below w.heap.size w w':=by
 rw [←HU.out,←HR.out]
 exact ahl op ref amt ctr zone card flt pool mods va vn vc specs w hl
theorem ahU (op:Int) (T:Str) (h:Hid (opName op=T)) (w:World) (hl:Laid w):Calls Tryz.prog 76 #[.int .i64 op] w fun e w'=>e= .returned (.string (B T))∧Below w.heap.size w w':=
 (Tv op w hl).mono fun e w' h'=>⟨h'.1.trans (by rw [h.out]),h'.2⟩
theorem ak5 (op:Int) (u:Us) (h:Hid (Dk op=u)) (w:World) (hl:Laid w):Calls Tryz.prog 78 #[.int .i64 op] w fun e w'=>e= .returned (.agg (Us.cells u))∧Below w.heap.size w w':=
 (aaQ op w hl).mono fun e w' h'=>⟨h'.1.trans (by rw [h.out]),h'.2⟩
theorem ahT (op:Int) (ref:Rf) (amt:Am) (ctr zone:Int) (card:Str) (flt:aH) (pool:Po) (mods:List Md) (va:Option Addr) (vn vc:Nat) (specs:Int) (w0:World) (hl:bQ ⟨op,ref,amt,ctr,zone,B card,flt,pool,mods⟩ ⟨va,vn,vc⟩ w0):
 Calls Tryz.prog 29 #[.agg (Em.cells ⟨op,ref,amt,ctr,zone,B card,flt,pool,⟨va,vn,vc⟩⟩), .int .i64 specs] w0 fun e w'=>e= .returned (.bool (jl ⟨op,ref,amt,ctr,zone,B card,flt,pool,mods⟩ specs))∧Below w0.heap.size w0 w':=by
 obtain ⟨U,hU⟩:∃U,Dk op=U:=⟨_,rfl⟩
 obtain ⟨N0,hN⟩:∃T,opName op=T:=⟨_,rfl⟩
 obtain ⟨R,hR⟩:∃R,jw ⟨op,ref,amt,ctr,zone,B card,flt,pool,mods⟩ specs=R:=⟨_,rfl⟩
 have hE:jl ⟨op,ref,amt,ctr,zone,B card,flt,pool,mods⟩ specs=(!(N0==[])&&R):=by unfold jl;simp only;rw [hN,hR]
 rw [hE]
 have GU:=Lib.hid hU
 have GN:=Lib.hid hN
 have GR:=Lib.hid hR
 clear hU hN hR hE
 obtain ⟨q,hq⟩:∃q,(N0==[])=q:=⟨_,rfl⟩
 have hq2:(N0 != [])= !q:=by rw [←hq];rfl
 rw [hq]
 have hS:=St.start hl (jL _ _)
 cases q
 all_goals
  go_enter Tryz.func29,Tryz.ntmps29
  go_wp2_with (first|((first|(with_reducible refine aB ?_)|(with_reducible refine aT ?_));(have hq:=str_eq (by assumption);subst hq))|((with_reducible refine bI ?_);(first|(refine aG rfl hS rfl rfl ?_;intro g w hS));(try simp only [ah,ak,au,ay,aA]))|((with_reducible refine aT ?_);refine bY hS (by kernel_rfl) (by kernel_rfl) ?_)|((with_reducible refine fG ?_);intro w hS)|((with_reducible refine wK ?_);(first|(refine uh rfl (fun _ _ _ h=>h) ?_));(try simp only [ah,ak,au,ay,aA]))|((with_reducible refine gY ?_);(first|(refine ae7 rfl rfl rfl (by repeat constructor) (fun _ _ _ h=>h) ?_)|(refine an0 rfl rfl rfl (by repeat constructor) (fun _ _ _ h=>h) ?_));(try simp only [ah,ak,au,ay,aA]))|((with_reducible refine iH ?_);(first|(refine eu (v:= ?_) (args:= ?_) 76 rfl (fun _ _ _ h=>h) ?_ ?_ ?_;rotate_left 2;(focus ((intro w;go_simp)<;>with_reducible rfl));(focus (intro w hS;refine St.jE hS (fun hl=>ahU _ _ GN _ hl.1.base) ?_;with_reducible rfl)))|(refine eu (v:= ?_) (args:= ?_) 78 rfl (fun _ _ _ h=>h) ?_ ?_ ?_;rotate_left 2;(focus ((intro w;go_simp)<;>with_reducible rfl));(focus (intro w hS;refine St.jE hS (fun hl=>ak5 _ _ GU _ hl.1.base) ?_;with_reducible rfl)))|(refine eu (v:= ?_) (args:= ?_) 77 rfl (fun _ _ _ h=>h) ?_ ?_ ?_;rotate_left 2;(focus ((intro w;go_simp)<;>with_reducible rfl));(focus (intro w hS;refine St.jE hS (fun hl=>ajD op ref amt ctr zone card flt pool mods va vn vc specs R GR _ GU _ hl) ?_;with_reducible rfl))));(try simp only [ah,ak,au,ay,aA]))|((with_reducible refine dS ?_);(refine dn (v:= ?_) rfl (fun _ _ _ h=>h) ?_ ?_;rotate_left;(focus ((intro w hS;go_simp)<;>with_reducible rfl)));(try simp only [ah,ak,au,ay,aA])))
  all_goals go_ret
  all_goals exact ⟨aX (by simp),hS.below⟩
theorem KT (e:Ef) (v:Sl) (specs:Int) (R:Bool) (HR:Hid (jl e specs=R)) (w:World) (hl:bQ e v w):Calls Tryz.prog 29 #[.agg (e.at v).cells, .int .i64 specs] w fun x w'=>x= .returned (.bool R)∧Below w.heap.size w w':=by
 obtain ⟨op,ref,amt,ctr,zone,card,flt,pool,mods⟩:=e
 obtain ⟨va,vn,vc⟩:=v
 obtain ⟨p,rfl⟩:∃p,card=B p:=⟨L card,(qV card).symm⟩
 rw [←HR.out]
 exact ahT op ref amt ctr zone p flt pool mods va vn vc specs w hl
end Go.Proofs.YtdicgggkdmkklaaGreatDoor
namespace Go.Proofs.YtdicgggkdmkklaaGreatDoor
attribute [local irreducible] wpList Code.wp Calls
open Go.ChangeShapes Go.WideShapes Go.RowKit
theorem acj (e:Ef) (v:Sl) (HV:Hid (jl e 4=false)) (w:World) (hl:bQ e v w):Calls Tryz.prog 104 #[.agg (e.at v).cells] w fun x w'=>x= .returned (.string (B []))∧Below w.heap.size w w':=by
 have hS:=St.start hl (jL e v)
 go_enter Tryz.func104,Tryz.ntmps104
 go_wp2_with (first|(go_at_call 29;(with_reducible refine (St.call hS fun hl=>KT e v 4 _ HV _ hl).mono ?_);rintro e w ⟨rfl,hS⟩)|((with_reducible refine bI ?_);(first|(refine aG rfl hS rfl rfl ?_;intro g w hS));(try simp only [ah,ak,au,ay,aA]))|((with_reducible refine aC ?_);(first|(refine iC rfl hS rfl rfl (by repeat constructor) ?_));(try simp only [ah,ak,au,ay,aA])))
 all_goals go_ret
 all_goals exact ⟨rfl,hS.below⟩
theorem zI (e:Ef) (v:Sl) (T:Str) (HT:Hid (dB e=T)) (w:World) (hl:bQ e v w):Calls Tryz.prog 104 #[.agg (e.at v).cells] w fun x w'=>x= .returned (.string (B T))∧Below w.heap.size w w':=by
 rw [←HT.out]
 cases hv:jl e 4 with
 |false=>rw [BL hv];exact acj e v (Lib.hid hv) w hl
 |true=>
  rw [vZ hv]
  have h1:=fun w hl=>KT e v 4 true (Lib.hid hv) w hl
  obtain ⟨op,ref,amt,ctr,zone,card,flt,pool,mods⟩:=e
  obtain ⟨va,vn,vc⟩:=v
  obtain ⟨p,rfl⟩:∃p,card=B p:=⟨L card,(qV card).symm⟩
  exact acn op ref amt ctr zone p flt pool mods va vn vc h1 hv w hl
theorem OJ (s:Str) (T:Str) (HT:Hid (innerS s=T)) (hs:s.length<1000000000) (w:World):Calls Tryz.prog 298 #[.string (B s)] w fun x w'=>x= .returned (.string (B T))∧w=w':=by
 have hsz:=bC s
 by_cases h:s.length<2
 ·obtain rfl:T=[]:=by rw [←HT.out];unfold innerS;rw [if_pos h]
  go_enter Tryz.func298,Tryz.ntmps298
  go_wp2
  go_ret
  exact ⟨rfl,rfl⟩
 ·have E:Hid ((B s).extract 1 (s.length - 1)=B T):=Lib.hid (lC (by
   rw [dM,cO,cO,←HT.out];unfold innerS;rw [if_neg h]))
  go_enter Tryz.func298,Tryz.ntmps298
  go_wp2
  go_ret
  exact ⟨dV (by rw [←E.out]),rfl⟩
abbrev vC (gw:Nat) (ws:List Str) (w:World):Prop:=bZ w∧sD gw 0 ws w
theorem aos (gw:Nat) (ws:List Str):∀w1 w2:World,vC gw ws w1→Below w1.heap.size w1 w2→vC gw ws w2:=fun _ _ h hb=>⟨h.1.below hb,h.2.keep hb⟩
theorem SE {gw:Nat} {ws:List Str} {w:World} (h:vC gw ws w) {k:Nat} {T:Str} (hk:Hid (ws[k]? =some T)):w.cell? ⟨gw,k,none⟩=some (.string (B T)):=by
 have:=h.2 k T hk.out
 rwa [Nat.zero_add] at this
structure NX (ws:List Str) (b:Bool) (off:Nat) (T:Str) (off' n' c':Nat):Prop where
 eq:nx b (ws.drop off)=(T,ws.drop off')
 sum:off'+n'=ws.length
 one:1≤n'
 cap:n'≤c'
 len:T.length<100000000
theorem abm (ws:List Str) (b:Bool) (off n c:Nat) (h:off+n=ws.length) (h1:1≤n) (hc:n≤c) (hb:¬(b=true∧2≤n)):NX ws b off [] off n c:=by
 refine ⟨?_,h,h1,hc,by simp⟩
 unfold nx
 rw [if_neg]
 rw [List.length_drop]
 intro hh;exact hb ⟨hh.1,by omega⟩
theorem alU (ws:List Str) (off n c:Nat) (h:off+n=ws.length) (h2:2≤n) (hc:n≤c) (T:Str) (hT:ws[off+1]? =some T) (hl:T.length<100000000):NX ws true off T (off+1) (n - 1) (c - 1):=by
 refine ⟨?_,by omega,by omega,by omega,hl⟩
 unfold nx
 rw [if_pos ⟨rfl,by rw [List.length_drop];omega⟩,List.drop_drop]
 have:(ws.drop off).getD 1 []=T:=by
  rw [List.getD_eq_getElem?_getD,List.getElem?_drop,hT];rfl
 rw [this]
theorem WR (b:Bool) (gw:Nat) (ws:List Str) (hws:∀x∈ws,x.length<100000000) (g off n c:Nat) (hn:off+n=ws.length) (h1:1≤n) (hc:n≤c) (hbig:ws.length<1000000000) {w0 w:World} {rows:List Row} {R:Nat→Nat→Nat→List Row}
 (hS:St (vC gw ws) w0 rows w) (ha:cZ g #[.slice (some ⟨gw,off,none⟩) n c] mV rows) (h0:R off n c=rows) (hm:jq g #[.slice (some ⟨gw,off,none⟩) n c] #[.slice (some ⟨gw,off+1,none⟩) (n - 1) (c - 1)] mV rows (R (off+1) (n - 1) (c - 1))) (hm2:cZ g #[.slice (some ⟨gw,off+1,none⟩) (n - 1) (c - 1)] mV (R (off+1) (n - 1) (c - 1))):
 Calls Tryz.prog 295 #[.bool b, .pointer (some ⟨g,0,none⟩)] w fun e w'=>∃T off' n' c',e= .returned (.string (B T))∧St (vC gw ws) w0 (R off' n' c') w'∧Hid (NX ws b off T off' n' c'):=by
 cases b with
 |false=>
  have HN:=Lib.hid (abm ws false off n c hn h1 hc (by simp))
  go_enter Tryz.func295,Tryz.ntmps295
  go_wp2_with (first|((with_reducible refine bG ?_);(first|(refine aS rfl ?_));(try simp only [ah,ak,au,ay,aA])))
  all_goals go_ret
  all_goals exact ⟨[],off,n,c,rfl,h0 ▸ hS,HN⟩
 |true=>
  by_cases h2:2≤n
  ·obtain ⟨T,hT⟩:∃T,ws[off+1]? =some T:=⟨ws[off+1]'(by omega),List.getElem?_eq_getElem (by omega)⟩
   have HN:=Lib.hid (alU ws off n c hn h2 hc T hT (hws T (List.mem_of_getElem? hT)))
   have HT:=Lib.hid hT
   have t1:decide ((n:Int)<2)=false:=by simp;omega
   clear hT
   go_enter Tryz.func295,Tryz.ntmps295
   go_wp2_with (first|((with_reducible refine aC (T:=mV) ?_);refine aQ rfl hS rfl rfl ha J8 rfl ?_;(try simp only [ah,ak,au,ay,aA]))|((with_reducible refine aC (T:=mV) ?_);refine aQ rfl hS rfl rfl hm2 J8 rfl ?_;(try simp only [ah,ak,au,ay,aA]))|((with_reducible refine aN ?_);refine QF rfl hS rfl rfl rfl hm ?_;intro w hS)|((with_reducible refine aC ?_);refine mJ rfl rfl rfl (SE hS.laid HT) ?_;(try simp only [ah,ak,au,ay,aA])))
   all_goals go_ret
   all_goals exact ⟨T,off+1,n - 1,c - 1,rfl,hS,HN⟩
  ·have HN:=Lib.hid (abm ws true off n c hn h1 hc (by omega))
   have t1:decide ((n:Int)<2)=true:=by simp;omega
   go_enter Tryz.func295,Tryz.ntmps295
   go_wp2_with (first|((with_reducible refine aC (T:=mV) ?_);refine aQ rfl hS rfl rfl ha J8 rfl ?_;(try simp only [ah,ak,au,ay,aA])))
   all_goals go_ret
   all_goals exact ⟨[],off,n,c,rfl,h0 ▸ hS,HN⟩
def rfE (o:Option Rf):Int:=if o.isSome=true then 0 else 3
theorem Uy (o:Option Rf):zV o= .tuple #[.agg (Rf.cells (o.getD dY)), .int .i64 (rfE o)]:=by cases o<;>rfl
def amE (o:Option Am):Int:=if o.isSome=true then 0 else 3
theorem V7 (o:Option Am):wV o= .tuple #[.agg (Am.cells (o.getD dG)), .int .i64 (amE o)]:=by cases o<;>rfl
def poE (o:Option Po):Int:=if o.isSome=true then 0 else 3
theorem XP (o:Option Po):ac7 o= .tuple #[.agg (Po.cells (o.getD bn)), .int .i64 (poE o)]:=by cases o<;>rfl
theorem amD (x:Str) (X:Rf) (h:Hid ((dX x).getD dY=X)) (hx:x.length<100000000) (w:World) (hl:Laid w):Calls Tryz.prog 296 #[.string (B x)] w fun e w'=>e= .returned (.tuple #[.agg X.cells, .int .i64 (rfE (dX x))])∧Below w.heap.size w w':=
 (aah (B x) w hl (by rw [bC];exact hx)).mono fun e w' ⟨he,hb⟩=>⟨he.trans (by rw [cO,Uy,h.out]),hb⟩
theorem akz (x:Str) (X:Am) (h:Hid ((eY x).getD dG=X)) (hx:x.length<100000000) (w:World) (hl:bZ w):Calls Tryz.prog 297 #[.string (B x)] w fun e w'=>e= .returned (.tuple #[.agg X.cells, .int .i64 (amE (eY x))])∧Below w.heap.size w w':=
 (abL (B x) w hl (by rw [bC];exact hx)).mono fun e w' ⟨he,hb⟩=>⟨he.trans (by rw [cO,V7,h.out]),hb⟩
theorem al1 (x:Str) (X:Po) (h:Hid ((dU x).getD bn=X)) (hx:x.length<100000000) (w:World) (hl:Laid w):Calls Tryz.prog 299 #[.string (B x)] w fun e w'=>e= .returned (.tuple #[.agg X.cells, .int .i64 (poE (dU x))])∧Below w.heap.size w w':=
 (ZU x hx w hl).mono fun e w' ⟨he,hb⟩=>⟨he.trans (by rw [XP,h.out]),hb⟩
theorem aff (x:Str) (X:aH) (h:Hid ((bW x).getD aaB=X)) (hx:x.length<100000000) (w:World) (hl:Laid w):Calls Tryz.prog 123 #[.string (B x)] w fun e w'=>e= .returned (.tuple #[.agg X.cells, .int .i64 (Jm (bW x))])∧Below w.heap.size w w':=
 (WX x hx w hl).mono fun e w' ⟨he,hb⟩=>⟨he.trans (by rw [h.out]),hb⟩
theorem ahF (x:Str) (X:Int) (h:Hid ((((jF x).getD 0:Nat):Int)=X)) (w:World) (hl:bZ w):Calls Tryz.prog 240 #[.string (B x)] w fun e w'=>e= .returned (.tuple #[.int .i64 X, .bool (jF x).isSome])∧Below w.heap.size w w':=
 (Oy (B x) X (jF x).isSome (Lib.hid (by rw [cO];exact ⟨h.out,rfl⟩)) w hl).mono fun e w' h'=>⟨h'.1,by first|exact h'.2|exact h'.2 ▸ Below.refl _ _⟩
def xH (s:Str) (m:Nat):Int:=(List.range' 1 m).foldl (fun (o:Int) (k:Nat)=>if opName (k:Int)=s then (k:Int) else o) 0
theorem Ey (s:Str) (m:Nat):xH s (m+1)=if opName ((m+1:Nat):Int)=s then ((m+1:Nat):Int) else xH s m:=by
 unfold xH
 rw [List.range'_concat,List.foldl_append]
 simp [Nat.add_comm]
theorem Gw (s:Str):xH s 26=yF s:=rfl
def KN (s:Str) (m:Nat):Int:=(List.range' 0 m).foldl (fun (o:Int) (k:Nat)=>if dR (k:Int)=s then (k:Int) else o) 0
theorem aaA (s:Str) (m:Nat):KN s (m+1)=if dR (m:Int)=s then (m:Int) else KN s m:=by
 unfold KN
 rw [List.range'_concat,List.foldl_append]
 simp
theorem adO (s:Str):KN s 6=Oa s:=rfl
theorem Ph (s:Str):(innerS s).length≤s.length:=by
 unfold innerS
 split
 ·simp
 ·simp;omega
structure NS (ws:List Str) (off n c:Nat):Prop where
 sum:off+n=ws.length
 one:1≤n
 cap:n≤c
theorem NX.ns {ws:List Str} {b:Bool} {off off' n' c':Nat} {T:Str} (h:NX ws b off T off' n' c'):NS ws off' n' c':=⟨h.sum,h.one,h.cap⟩
theorem zH (b:Bool) {gw:Nat} {ws:List Str} (hws:∀x∈ws,x.length<100000000) (hbig:ws.length<1000000000) {g off n c:Nat} (hn:Hid (NS ws off n c)) {w0 w:World} {r1 r2 r3:Row} (hS:St (vC gw ws) w0 [r1,r2,r3,(g,#[.slice (some ⟨gw,off,none⟩) n c],mV)] w):
 Calls Tryz.prog 295 #[.bool b, .pointer (some ⟨g,0,none⟩)] w fun e w'=>∃T off' n' c',e= .returned (.string (B T))∧St (vC gw ws) w0 [r1,r2,r3,(g,#[.slice (some ⟨gw,off',none⟩) n' c'],mV)] w'∧Hid (NX ws b off T off' n' c'):=
 WR b gw ws hws g off n c hn.out.sum hn.out.one hn.out.cap hbig (R:=fun o m d=>[r1,r2,r3,(g,#[.slice (some ⟨gw,o,none⟩) m d],mV)]) hS (.tail (.tail (.tail .head))) rfl (.tail (.tail (.tail .head))) (.tail (.tail (.tail .head)))
theorem aeZ (b:Bool) {gw:Nat} {ws:List Str} (hws:∀x∈ws,x.length<100000000) (hbig:ws.length<1000000000) {g off n c:Nat} (hn:Hid (NS ws off n c)) {w0 w:World} {r1 r2 r3 r4:Row} (hS:St (vC gw ws) w0 [r1,r2,r3,r4,(g,#[.slice (some ⟨gw,off,none⟩) n c],mV)] w):
 Calls Tryz.prog 295 #[.bool b, .pointer (some ⟨g,0,none⟩)] w fun e w'=>∃T off' n' c',e= .returned (.string (B T))∧St (vC gw ws) w0 [r1,r2,r3,r4,(g,#[.slice (some ⟨gw,off',none⟩) n' c'],mV)] w'∧Hid (NX ws b off T off' n' c'):=
 WR b gw ws hws g off n c hn.out.sum hn.out.one hn.out.cap hbig (R:=fun o m d=>[r1,r2,r3,r4,(g,#[.slice (some ⟨gw,o,none⟩) m d],mV)]) hS (.tail (.tail (.tail (.tail .head)))) rfl (.tail (.tail (.tail (.tail .head)))) (.tail (.tail (.tail (.tail .head))))
theorem aav {L:World→Prop} {w0 w:World} {rows:List Row} {ops:Array Oper} {rest:List Oper} {o:Oper} {a:Act} {Q:Exit→Act→World→Prop} {T:Nat} {x:Operand} (ho:o.op= .box T x) (hS:St L w0 rows w) (hw:Region.wanted o (yielded ops a.tmps)=true) {A:Option Addr} {n c:Nat} (hx:a.eval x= .slice A n c)
 (h:∀g w',St L w0 ((g,#[.slice A n c],T)::rows) w'→wpList Tryz.prog ops Q rest (a.put o.dst (.pointer (some ⟨g,0,none⟩))) w'):wpList Tryz.prog ops Q (o::rest) a w:=
 SG ho hS hw hx (by simp [Value.oneCell']) h
theorem YG {L:World→Prop} {w0:World} {rows:List Row} {ops:Array Oper} {rest:List Oper} {o:Oper} {a:Act} {Q:Exit→Act→World→Prop} {x:Operand} (ho:o.op= .load mV x) (hw:Region.wanted o (yielded ops a.tmps)=true) {g:Nat} (hx:a.eval x= .pointer (some ⟨g,0,none⟩)) {A:Option Addr} {n c:Nat} {T':Nat} (hm:cZ g #[.slice A n c] T' rows)
 (hq:∀c' a w,Q (.panic c') (a.put o.dst (.slice A n c)) w→Q (.panic c') a w) (h:iR Tryz.prog ops Q (St L w0 rows) rest (a.put o.dst (.slice A n c))):iR Tryz.prog ops Q (St L w0 rows) (o::rest) a:=
 dn hw hq (fun w hS=>gB hS ho hx hm J8 rfl) h
theorem aoS (x:Str) (hx:x.length<100000000) {L:World→Prop} {w0 w:World} {rows:List Row} (hS:St L w0 rows w) (hl:Laid w):Calls Tryz.prog 124 #[.string (B x)] w fun e w'=>
 (fF x=none∧e= .returned (.tuple #[.slice none 0 0, .int .i64 3])∧St L w0 rows w')∨∃ms g cur c,fF x=some ms∧e= .returned (.tuple #[.slice (some ⟨g,0,none⟩) ms.length c, .int .i64 0])∧St L w0 ((g,cur,iw)::rows) w'∧Hid (∀w'':World,w''.heap[g]? =some (.cells cur iw (0,0))→Eb g 0 ms w''):=
 (Vl x hx w hl).mono fun e w' ⟨hb,hr⟩=>by
  rcases hr with ⟨h1,h2⟩|⟨l,v,h1,h2,own⟩
  ·exact .inl ⟨h1,h2,hS.mono hb⟩
  ·have hne:=(tY h1).1
   obtain ⟨o1,o2⟩:=own
   rcases o2 with ⟨_,h0⟩|⟨g,cap,cur,hv,hbg,hh,hrest⟩
   ·exact absurd (List.length_eq_zero_iff.1 h0) hne
   ·refine .inr ⟨l,g,cur,cap,h1,by rw [h2,hv],hS.grow hb hh hbg,Lib.hid fun w'' h''=> ?_⟩
    obtain ⟨g2,c2,e2,hm⟩:=afT (w:=w'') (b:=w.heap.size) (v:=v) ⟨o1, .inr ⟨g,cap,cur,hv,hbg,h'',hrest⟩⟩ hne
    rw [hv] at e2
    injection e2 with e2
    injection e2 with e2
    injection e2 with e2
    subst e2
    exact hm
def oh (e:Ef) (v:Sl) (b:Nat) (w:World):Prop:=v.n=e.mods.length∧e.mods.length<1000000∧((v.a=none∧e.mods=[])∨∃g cur,v.a=some ⟨g,0,none⟩∧b≤g∧w.heap[g]? =some (.cells cur iw (0,0))∧∀w'':World,w''.heap[g]? =some (.cells cur iw (0,0))→Eb g 0 e.mods w'')
theorem oh.at_ {e:Ef} {v:Sl} {b:Nat} {w:World} (h:oh e v b w):kL e v w:=by
 refine ⟨h.1,h.2.1,?_⟩
 rcases h.2.2 with ⟨_,h0⟩|⟨g,cur,ha,_,hg,hm⟩
 ·exact .inl h0
 ·exact .inr ⟨g,0,ha,hm w hg⟩
theorem aik {ws:List Str} {o:Int} {u1 u2 u3 u4 u5 u6 u7 u8:Bool} {T1 T2 T3 T4 T5 T6 T7 T8:Str} {f1 f2 f3 f4 f5 f6 f7 f8:Nat} (hop:yF (ws.getD 0 [])=o) (hU:Dk o=⟨u1,u2,u3,u4,u5,u6,u7,u8⟩) (e1:nx u1 (ws.drop 0)=(T1,ws.drop f1)) (e4:nx u4 (ws.drop f1)=(T4,ws.drop f4)) (e3:nx u3 (ws.drop f4)=(T3,ws.drop f3)) (e5:nx u5 (ws.drop f3)=(T5,ws.drop f5)) (e2:nx u2 (ws.drop f5)=(T2,ws.drop f2)) (e8:nx u8 (ws.drop f2)=(T8,ws.drop f8)) (e7:nx u7 (ws.drop f8)=(T7,ws.drop f7)) (e6:nx u6 (ws.drop f7)=(T6,ws.drop f6)):
 qM ws=⟨o,(dX T1).getD dY,(eY T2).getD dG,(((jF T3).getD 0:Nat):Int),Oa T4,B T5,(bW (innerS T6)).getD aaB,(dU T7).getD bn,(fF (innerS T8)).getD []⟩:=by
 have h1:uR o=u1:=congrArg Us.ref hU
 have h2:uA o=u2:=congrArg Us.amt hU
 have h3:uK o=u3:=congrArg Us.ctr hU
 have h4:uZ o=u4:=congrArg Us.zone hU
 have h5:uC o=u5:=congrArg Us.card hU
 have h6:uF o=u6:=congrArg Us.flt hU
 have h7:uP o=u7:=congrArg Us.pool hU
 have h8:uM o=u8:=congrArg Us.mods hU
 rw [List.drop_zero] at e1
 unfold qM
 rw [hop]
 unfold Rk nx8 nx7 nx6 nx5 nx4 nx3 nx2 nx1
 rw [h1,h2,h3,h4,h5,h6,h7,h8]
 simp only [e1,e2,e3,e4,e5,e6,e7,e8]
theorem Ei (gw:Nat) (ws:List Str) (c0:Nat) (hws:∀x∈ws,x.length<100000000) (hbig:ws.length<100000001) (h1:1≤ws.length) (hc0:ws.length≤c0) (W0:Str) (HW0:Hid (ws[0]? =some W0)) (w0:World) (hl:vC gw ws w0):
 Calls Tryz.prog 249 #[.slice (some ⟨gw,0,none⟩) ws.length c0] w0 fun e w'=>∃v,e= .returned (.agg ((qM ws).at v).cells)∧oh (qM ws) v w0.heap.size w'∧Below w0.heap.size w0 w':=by
 have HN0:Hid (NS ws 0 ws.length c0):=Lib.hid ⟨by omega,h1,hc0⟩
 have LU:ws.length<1000000000:=by omega
 have hS:=St.start hl (aos gw ws)
 obtain ⟨n0,hn0⟩:∃n,ws.length=n:=⟨_,rfl⟩
 rw [hn0] at HN0 ⊢
 have hn1:1≤n0:=HN0.out.one
 have hn2:0<n0:=hn1
 have hn3:(0:Int)<(n0:Int):=by omega
 have hn4:¬n0=0:=by omega
 clear hn0
 go_enter Tryz.func249,Tryz.ntmps249
 go_wp2_with (first|fail|((refine aF rfl ?_);(first|((with_reducible refine bI ?_);refine aav rfl hS rfl rfl ?_;intro g1 w hS)|((with_reducible refine aW ?_);refine aJ 67 rfl hS rfl _ jd ?_;intro g w hS)))|((fail_if_success (with_reducible refine aB ?_));(first|fail)))
 rename_i g2 wq hSq K1 hK1
 clear hSq
 generalize g=g3 at *
 have aoo:ws.getD 0 []=W0:=by rw [List.getD_eq_getElem?_getD,HW0.out];rfl
 have HD0:=Lib.hid aoo
 clear aoo
 go_loopw [4] (fun kv wr=>∃(k:Nat) (o:Int),k≤26∧kv= .int .i64 ((k:Int)+1)∧Hid (xH W0 k=o)∧Hid (St (vC gw ws) w0 [(g3,Em.cells ⟨o,dY,dG,0,0,⟨#[]⟩,aaB,bn,⟨none,0,0⟩⟩,67),(g2,kC.cells,67),(g1,#[.slice (some ⟨gw,0,none⟩) n0 c0],mV)] wr)) (fun kv _=>27 - (intOf kv).toNat)
 case atStart=>exact ⟨0,0,by omega,rfl,Lib.hid rfl,Lib.hid hS⟩
 case round=>
  clear hS
  obtain ⟨k,o,hk,rfl,HO,HS⟩:=hrel
  have hS:=HS.out
  clear HS
  by_cases hlt:k<26
  ·obtain ⟨T0,hT0⟩:∃T,opName ((k:Int)+1)=T:=⟨_,rfl⟩
   have hst:=Ey W0 k
   rw [show ((k+1:Nat):Int)=(k:Int)+1 by omega,hT0,HO.out] at hst
   have GN:=Lib.hid hT0
   clear hT0
   by_cases hx:T0=W0
   ·rw [if_pos hx] at hst
    have HST:=Lib.hid hst
    have ht:(T0==W0)=true:=by rw [hx];simp
    subst hx
    clear hst
    go_wp2_with (first|fail|((refine aF rfl ?_);(first|((with_reducible refine aN ?_);(first|(refine ae8 rfl hS rfl rfl rfl (by repeat constructor) ?_;intro w hS));(try simp only [ah,ak,au,ay,aA]))))|((fail_if_success (with_reducible refine aB ?_));(first|((with_reducible refine gY ?_);refine YG rfl rfl rfl (.tail (.tail .head)) (fun _ _ _ h=>h) ?_;(try simp only [ah,ak,au,ay,aA]))|((with_reducible refine gY ?_);refine zn rfl rfl rfl (fun w hS=>SE hS.laid HW0) (fun _ _ _ h=>h) ?_;(try simp only [ah,ak,au,ay,aA]))|((with_reducible refine aT ?_);refine bY hS (by kernel_rfl) (by kernel_rfl) ?_)|((with_reducible refine fG ?_);intro w hS)|((with_reducible refine iH ?_);(first|(refine eu (v:= ?_) (args:= ?_) 76 rfl (fun _ _ _ h=>h) ?_ ?_ ?_;rotate_left 2;(focus ((intro w;go_simp)<;>with_reducible rfl));(focus (intro w hS;refine St.jE hS (fun hl=>QZ _ _ GN _ hl.1.base) ?_;with_reducible rfl))));(try simp only [ah,ak,au,ay,aA]))|((with_reducible refine dS ?_);(refine dn (v:= ?_) rfl (fun _ _ _ h=>h) ?_ ?_;rotate_left;(focus ((intro w hS;go_simp)<;>with_reducible rfl)));(try simp only [ah,ak,au,ay,aA])))))
    go_roundw
    case rel=>exact ⟨k+1,(k:Int)+1,by omega,by go_num,HST,Lib.hid hS⟩
    case measure=>simp [intOf];omega
   ·rw [if_neg hx] at hst
    have HST:=Lib.hid hst
    have ht:(T0==W0)=false:=by simpa using hx
    clear hst
    go_wp2_with (first|fail|((refine aF rfl ?_);(first|fail))|((fail_if_success (with_reducible refine aB ?_));(first|((with_reducible refine gY ?_);refine YG rfl rfl rfl (.tail (.tail .head)) (fun _ _ _ h=>h) ?_;(try simp only [ah,ak,au,ay,aA]))|((with_reducible refine gY ?_);refine zn rfl rfl rfl (fun w hS=>SE hS.laid HW0) (fun _ _ _ h=>h) ?_;(try simp only [ah,ak,au,ay,aA]))|((with_reducible refine aT ?_);refine bY hS (by kernel_rfl) (by kernel_rfl) ?_)|((with_reducible refine fG ?_);intro w hS)|((with_reducible refine iH ?_);(first|(refine eu (v:= ?_) (args:= ?_) 76 rfl (fun _ _ _ h=>h) ?_ ?_ ?_;rotate_left 2;(focus ((intro w;go_simp)<;>with_reducible rfl));(focus (intro w hS;refine St.jE hS (fun hl=>QZ _ _ GN _ hl.1.base) ?_;with_reducible rfl))));(try simp only [ah,ak,au,ay,aA]))|((with_reducible refine dS ?_);(refine dn (v:= ?_) rfl (fun _ _ _ h=>h) ?_ ?_;rotate_left;(focus ((intro w hS;go_simp)<;>with_reducible rfl)));(try simp only [ah,ak,au,ay,aA])))))
    go_roundw
    case rel=>exact ⟨k+1,o,by omega,by go_num,HST,Lib.hid hS⟩
    case measure=>simp [intOf];omega
  ·obtain rfl:k=26:=by omega
   have hop:yF (ws.getD 0 [])=o:=by rw [HD0.out,←Gw,HO.out]
   have vV:=Lib.hid hop
   obtain ⟨U,hU⟩:∃U,Dk o=U:=⟨_,rfl⟩
   obtain ⟨u1,u2,u3,u4,u5,u6,u7,u8⟩:=U
   have GU:=Lib.hid hU
   clear hop hU HO
   go_wp2_with (first|fail|((refine aF rfl ?_);(first|((with_reducible refine aW ?_);refine aJ 112 rfl hS rfl _ YT ?_;intro g w hS)|((with_reducible refine aN ?_);refine YU rfl hS rfl rfl rfl .head ?_;intro w hS)|((with_reducible refine aC (T:=4) ?_);(first|(refine Kz rfl hS rfl rfl (by repeat constructor) ?_)|(refine KD rfl hS rfl rfl (by repeat constructor) ?_));(try simp only [ah,ak,au,ay,aA]))|((with_reducible refine aC (T:=3) ?_);(first|(refine lq rfl hS rfl rfl (by repeat constructor) ?_));(try simp only [ah,ak,au,ay,aA]))|((with_reducible refine aN ?_);(first|(refine ae9 rfl hS rfl rfl rfl (by repeat constructor) ?_;intro w hS));(try simp only [ah,ak,au,ay,aA]))))|((fail_if_success (with_reducible refine aB ?_));(first|(go_at_call 78;(with_reducible refine (St.call hS fun hl=>ae0 _ _ GU _ hl.1.base).mono ?_);rintro e w ⟨rfl,hS⟩)|(go_at_call 295;(refine (zH u1 hws LU HN0 hS).mono ?_);rintro e w ⟨T1,f1,m1,d1,rfl,hS,HX1⟩;obtain ⟨X1,hX1⟩:∃X,(dX T1).getD dY=X:=⟨_,rfl⟩;have GX1:=Lib.hid hX1;clear hX1;have HN1:=Lib.hid HX1.out.ns)|(go_at_call 296;(with_reducible refine (St.call hS fun hl=>amD T1 X1 GX1 HX1.out.len _ hl.1.base).mono ?_);rintro e w ⟨rfl,hS⟩)|(go_at_call 295;(refine (zH u4 hws LU HN1 hS).mono ?_);rintro e w ⟨T4,f4,m4,d4,rfl,hS,HX4⟩;have HN4:=Lib.hid HX4.out.ns))))
   clear HN0 HN1
   go_loopw [8] (fun zv wr=>∃(z:Nat) (y:Int),z≤6∧zv= .int .i64 z∧Hid (KN T4 z=y)∧Hid (St (vC gw ws) w0 [(g,Us.cells ⟨u1,u2,u3,u4,u5,u6,u7,u8⟩,112),(g3,Em.cells ⟨o,X1,dG,0,y,⟨#[]⟩,aaB,bn,⟨none,0,0⟩⟩,67),(g2,kC.cells,67),(g1,#[.slice (some ⟨gw,f4,none⟩) m4 d4],mV)] wr)) (fun zv _=>6 - (intOf zv).toNat)
   case atStart=>exact ⟨0,0,by omega,rfl,Lib.hid rfl,Lib.hid hS⟩
   case round=>
    clear hS
    obtain ⟨z,y,hz,rfl,HY,HS⟩:=hrel
    have hS:=HS.out
    clear HS
    by_cases hzl:z<6
    ·obtain ⟨TZ,hTZ⟩:∃T,dR (z:Int)=T:=⟨_,rfl⟩
     have hst:=aaA T4 z
     rw [hTZ,HY.out] at hst
     have GZ:=Lib.hid hTZ
     clear hTZ
     by_cases hx:TZ=T4
     ·rw [if_pos hx] at hst
      have HST:=Lib.hid hst
      have ht:(TZ==T4)=true:=by rw [hx];simp
      clear hst hx
      go_wp2_with (first|((first|(with_reducible refine aB ?_)|(with_reducible refine aT ?_));(first|(have hq:=int_eq (by assumption);subst hq)|(have hq:=str_eq (by assumption);subst hq)))|((refine aF rfl ?_);(first|((with_reducible refine aN ?_);(first|(refine aaW rfl hS rfl rfl rfl (by repeat constructor) ?_;intro w hS));(try simp only [ah,ak,au,ay,aA]))))|((fail_if_success (with_reducible refine aB ?_));(first|(go_at_call 183;(with_reducible refine (St.call hS fun hl=>QH _ _ GZ _).mono ?_);rintro e w ⟨rfl,hS⟩))))
      go_roundw
      case rel=>exact ⟨z+1,z,by omega,by go_num,HST,Lib.hid hS⟩
      case measure=>simp [intOf];omega
     ·rw [if_neg hx] at hst
      have HST:=Lib.hid hst
      have ht:(TZ==T4)=false:=by simpa using hx
      clear hst hx
      go_wp2_with (first|fail|((refine aF rfl ?_);(first|fail))|((fail_if_success (with_reducible refine aB ?_));(first|(go_at_call 183;(with_reducible refine (St.call hS fun hl=>QH _ _ GZ _).mono ?_);rintro e w ⟨rfl,hS⟩))))
      go_roundw
      case rel=>exact ⟨z+1,y,by omega,by go_num,HST,Lib.hid hS⟩
      case measure=>simp [intOf];omega
    ·obtain rfl:z=6:=by omega
     have hyz:Oa T4=y:=by rw [←adO,HY.out]
     have HYZ:=Lib.hid hyz
     clear hyz HY
     go_wp2_with (first|fail|((refine aF rfl ?_);(first|((with_reducible refine aC (T:=4) ?_);(first|(refine KA rfl hS rfl rfl (by repeat constructor) ?_)|(refine KC rfl hS rfl rfl (by repeat constructor) ?_)|(refine Fp rfl hS rfl rfl (by repeat constructor) ?_)|(refine KE rfl hS rfl rfl (by repeat constructor) ?_)|(refine KF rfl hS rfl rfl (by repeat constructor) ?_)|(refine KG rfl hS rfl rfl (by repeat constructor) ?_));(try simp only [ah,ak,au,ay,aA]))|((with_reducible refine aC (T:=67) ?_);(first|(refine iC rfl hS rfl rfl (by repeat constructor) ?_));(try simp only [ah,ak,au,ay,aA]))|((with_reducible refine aN ?_);(first|(refine gJ rfl hS rfl rfl rfl (by repeat constructor) ?_;intro w hS)|(refine aaU rfl hS rfl rfl rfl (by repeat constructor) ?_;intro w hS)|(refine aaV rfl hS rfl rfl rfl (by repeat constructor) ?_;intro w hS)|(refine aaX rfl hS rfl rfl rfl (by repeat constructor) ?_;intro w hS)|(refine aaY rfl hS rfl rfl rfl (by repeat constructor) ?_;intro w hS)|(refine aaZ rfl hS rfl rfl rfl (by repeat constructor) ?_;intro w hS)|(refine KU rfl hS rfl rfl rfl (by repeat constructor) ?_;intro w hS));(try simp only [ah,ak,au,ay,aA]))))|((fail_if_success (with_reducible refine aB ?_));(first|(go_at_call 295;(refine (zH u3 hws LU HN4 hS).mono ?_);rintro e w ⟨T3,f3,m3,d3,rfl,hS,HX3⟩;obtain ⟨X3,hX3⟩:∃X:Int,(((jF T3).getD 0:Nat):Int)=X:=⟨_,rfl⟩;have GX3:=Lib.hid hX3;clear hX3;have HN3:=Lib.hid HX3.out.ns)|(go_at_call 240;(with_reducible refine (St.call hS fun hl=>ahF T3 X3 GX3 _ hl.1).mono ?_);rintro e w ⟨rfl,hS⟩)|(go_at_call 295;(refine (zH u5 hws LU HN3 hS).mono ?_);rintro e w ⟨T5,f5,m5,d5,rfl,hS,HX5⟩;have HN5:=Lib.hid HX5.out.ns)|(go_at_call 295;(refine (zH u2 hws LU HN5 hS).mono ?_);rintro e w ⟨T2,f2,m2,d2,rfl,hS,VR⟩;obtain ⟨X2,hX2⟩:∃X,(eY T2).getD dG=X:=⟨_,rfl⟩;have GX2:=Lib.hid hX2;clear hX2;have II:=Lib.hid VR.out.ns)|(go_at_call 297;(with_reducible refine (St.call hS fun hl=>akz T2 X2 GX2 VR.out.len _ hl.1).mono ?_);rintro e w ⟨rfl,hS⟩)|(go_at_call 295;(refine (zH u8 hws LU II hS).mono ?_);rintro e w ⟨T8,f8,m8,d8,rfl,hS,HX8⟩;obtain ⟨I8,hI8⟩:∃X,innerS T8=X:=⟨_,rfl⟩;have arH:Hid (I8.length<100000000):=Lib.hid (by rw [←hI8];exact Nat.lt_of_le_of_lt (Ph T8) HX8.out.len);have GI8:=Lib.hid hI8;clear hI8;have HN8:=Lib.hid HX8.out.ns)|(go_at_call 298;(with_reducible refine (St.still hS fun hl=>OJ T8 I8 GI8 (by have:=HX8.out.len;omega) _).mono ?_);rintro e w ⟨rfl,hS⟩)|(go_at_call 124;(refine (aoS I8 arH.out hS hS.laid.1.base).mono ?_);rintro e w (⟨hp8,rfl,hS⟩|⟨ms,gm,cm,dm,hp8,rfl,hS,HMS⟩)<;>(have HP8:=Lib.hid hp8;clear hp8))|(go_at_call 295;(first|refine (zH u7 hws LU HN8 hS).mono ?_|refine (aeZ u7 hws LU HN8 hS).mono ?_);rintro e w ⟨T7,f7,m7,d7,rfl,hS,HX7⟩;obtain ⟨X7,hX7⟩:∃X,(dU T7).getD bn=X:=⟨_,rfl⟩;have GX7:=Lib.hid hX7;clear hX7;have HN7:=Lib.hid HX7.out.ns)|(go_at_call 299;(with_reducible refine (St.call hS fun hl=>al1 T7 X7 GX7 HX7.out.len _ hl.1.base).mono ?_);rintro e w ⟨rfl,hS⟩)|(go_at_call 295;(first|refine (zH u6 hws LU HN7 hS).mono ?_|refine (aeZ u6 hws LU HN7 hS).mono ?_);rintro e w ⟨T6,f6,m6,d6,rfl,hS,HX6⟩;obtain ⟨I6,hI6⟩:∃X,innerS T6=X:=⟨_,rfl⟩;have arG:Hid (I6.length<100000000):=Lib.hid (by rw [←hI6];exact Nat.lt_of_le_of_lt (Ph T6) HX6.out.len);have GI6:=Lib.hid hI6;clear hI6;obtain ⟨X6,hX6⟩:∃X,(bW I6).getD aaB=X:=⟨_,rfl⟩;have GX6:=Lib.hid hX6;clear hX6)|(go_at_call 298;(with_reducible refine (St.still hS fun hl=>OJ T6 I6 GI6 (by have:=HX6.out.len;omega) _).mono ?_);rintro e w ⟨rfl,hS⟩)|(go_at_call 123;(with_reducible refine (St.call hS fun hl=>aff I6 X6 GX6 arG.out _ hl.1.base).mono ?_);rintro e w ⟨rfl,hS⟩))))
     all_goals
      have hge:=aik vV.out GU.out HX1.out.eq HX4.out.eq HX3.out.eq HX5.out.eq VR.out.eq HX8.out.eq HX7.out.eq HX6.out.eq
      rw [GX1.out,GX2.out,GX3.out,HYZ.out,GI6.out,GX6.out,GX7.out,GI8.out,HP8.out] at hge
     ·simp only [Option.getD_none] at hge
      rw [hge]
      refine ae6 hS rfl rfl (by repeat constructor) rfl (fun hb=>⟨⟨none,0,0⟩,rfl,⟨rfl,Nat.le_of_ble_eq_true rfl, .inl ⟨rfl,rfl⟩⟩,hb⟩)
     ·simp only [Option.getD_some] at hge
      rw [hge]
      have hml:=(tY HP8.out).2.1
      refine ae6 hS rfl rfl (by repeat constructor) rfl (fun hb=>⟨⟨some ⟨gm,0,none⟩,ms.length,dm⟩,rfl,⟨rfl,by simp only;omega, .inr ⟨gm,cm,rfl,(hS.has _ (.head _)).2,hS.row .head,HMS.out⟩⟩,hb⟩)
end Go.Proofs.YtdicgggkdmkklaaGreatDoor
