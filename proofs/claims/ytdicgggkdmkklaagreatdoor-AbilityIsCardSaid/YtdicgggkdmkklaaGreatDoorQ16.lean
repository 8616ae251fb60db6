/- Walks: package instead: Parse. Conditions: LaidM; the text is shorter than a million bytes. Walks: package instead: Parse, the roads by a word for players. Conditions: LaidM; the text is shorter th -/
import Derived.Test.YtdicgggkdmkklaaGreatDoorMIParse
import Derived.Test.YtdicgggkdmkklaaGreatDoorQ2
set_option linter.all false
set_option maxRecDepth 100000
set_option maxHeartbeats 16000000
namespace Go.Proofs.YtdicgggkdmkklaaGreatDoor
attribute [local irreducible] wpList Code.wp Calls
open Go.ChangeShapes Go.WideShapes Go.RowKit
def aA9 (o:Option Rp):Value:=match o with|some r=> .tuple #[.agg r.cells, .int .i64 0]|none=> .tuple #[.agg I5.cells, .int .i64 3]
theorem aeA (x:Str) (w:World):Calls Tryz.prog 120 #[.string (B x), .string ⟨#[40]⟩] w fun e w'=>e= .returned (.tuple #[.string (B (Lib.trimPrefix x [40])), .bool (Lib.hasPrefix x [40])])∧w=w':=rW (B x) ⟨#[40]⟩ w [40] rfl
theorem asv (x:Str) (hx:x.length<1000000000) (w:World):Calls Tryz.prog 194 #[.string (B x), .string ⟨#[41]⟩] w fun e w'=>e= .returned (.string (B (Lib.trimSuffix x [41])))∧w=w':=
 axF (B x) ⟨#[41]⟩ w (by rw [bC];exact hx) [41] rfl _ (Lib.hid rfl)
theorem ark (x:Str) (hx:x.length<100000000) (G:aH) (c:Int) (h:Hid (ER (bW x)= .tuple #[.agg G.cells, .int .i64 c])) (w:World) (hl:Laid w):
 Calls Tryz.prog 123 #[.string (B x)] w fun e w'=>e= .returned (.tuple #[.agg G.cells, .int .i64 c])∧Below w.heap.size w w':=
 (Jo (B x) w hl (by rw [bC];exact hx)).mono fun e w' ⟨he,hb⟩=>⟨he.trans (by rw [cO,h.out]),hb⟩
theorem aes (s:Str) (hs:s.length<100000000) (R:List Str) (h:Hid (eX 32 s=R)) (w:World):Calls Tryz.prog 130 #[.string (B s), .int .u8 32] w (kR w R):=by
 have:=QG (B s) 32 (by omega) (by omega) (by rw [bC];exact hs) w
 rw [cO,h.out] at this
 exact this
theorem ase (b:Nat):∀(s cur:Str) (d:Nat),∀x∈splitAux b d cur s,x.length≤cur.length+s.length
 |[],cur,d,x,h=>by
  rw [splitAux] at h;simp at h;subst h;simp
 |c::r,cur,d,x,h=>by
  rw [splitAux] at h
  split at h
  ·rcases List.mem_cons.1 h with rfl|h
   ·simp
   ·have:=ase b r [] _ x h;simp at this ⊢;omega
  ·have:=ase b r _ _ x h;simp at this ⊢;omega
theorem akc (x p:Str):(Lib.trimPrefix x p).length≤x.length:=by unfold Lib.trimPrefix;split<;>simp
theorem aq6 (x p:Str):(Lib.trimSuffix x p).length≤x.length:=by unfold Lib.trimSuffix;split<;>simp
theorem agG (k:Int):∀w:World,(Instr.build TRp ([(0, .int .i64 k)]:List (Nat × Value)).toArray).run Tryz.prog w= .ok (.agg (Rp.cells ⟨k,0,aaB,0,0,0,0⟩)) w:=fun _=>by kernel_rfl
theorem ara (s:Str) (hs:s.length<90000000) (R:List Str) (hR:eX 32 s=R) (hn:R.length<3) (w:World) (hl:bZ w):
 Calls Tryz.prog 121 #[.string (B s)] w fun e w'=>e= .returned (.tuple #[.agg I5.cells, .int .i64 3])∧Below w.heap.size w w':=by
 have HR:=Lib.hid hR
 clear hR
 generalize hm:R.length=n at hn
 have HM:=Lib.hid hm
 clear hm
 have hn':(n:Int)<3:=by omega
 have hS:=St.start hl xA
 go_enter Tryz.func121,Tryz.ntmps121
 go_wp2_with (first|(go_at_call 130;(with_reducible refine (aes s (by omega) R HR _).mono ?_);rintro e w ⟨A,c,rfl,ht,hbw⟩;have hS:=hS.mono hbw;clear ht;rw [HM.out])|((with_reducible refine aW ?_);(first|(refine aJ 37 rfl hS rfl _ aey ?_;intro g w hS));(try simp only [ah,ak,au,ay,aA]))|((with_reducible refine aer ?_);refine ahh rfl ?_;(try simp only [ah,ak,au,ay,aA]))|((with_reducible refine aN ?_);(first|(refine aez rfl hS rfl rfl rfl (by repeat constructor) ?_;intro w hS));(try simp only [ah,ak,au,ay,aA])))
 all_goals (refine afo hS rfl rfl (by repeat constructor) rfl rfl (fun hb=>⟨rfl,hb⟩))
theorem az8 (on who:Int) (f:aH) (l:List Str) (D:Rp) (h:Hid (adV on who f l=D)) (hne:l≠[]) (hb:∀x∈l,x.length<100000000) (g cap:Nat) (w:World) (hl:bZ w∧sD g 2 l w):
 Calls Tryz.prog 195 #[.agg (Rp.cells ⟨on,who,f,0,0,0,0⟩), .slice (some ⟨g,2,none⟩) l.length cap] w fun e w'=>e= .returned (.agg (Rp.cells D))∧Below w.heap.size w w':=
 (ay8 on who f l hne hb g cap w hl).mono fun e w' h'=>⟨by rw [h'.1,h.out],h'.2⟩
theorem aem {w0 w:World} {rows:List Row} {g cap:Nat} {cur:Array Value} {x y z:Str} {l:List Str} {on who:Int} {f:aH} {D:Rp} (hS:St bZ w0 rows w) (hm:cZ g cur 9 rows) (hw:oZ cur (x::y::z::l)) (h:Hid (adV on who f (z::l)=D)) (hb:∀t∈z::l,t.length<100000000):
 Calls Tryz.prog 195 #[.agg (Rp.cells ⟨on,who,f,0,0,0,0⟩), .slice (some ⟨g,2,none⟩) (l.length+1) cap] w fun e w'=>e= .returned (.agg (Rp.cells D))∧Below w.heap.size w w':=
 az8 on who f (z::l) D h (by simp) hb g cap w ⟨hS.laid,hw.at_ hS hm 2⟩
theorem auE (y:Str):y=[97,110,121]∨y=[121,111,117]∨y=[111,112,112,111,110,101,110,116,115]∨(([97,110,121]==y)=false∧([121,111,117]==y)=false∧([111,112,112,111,110,101,110,116,115]==y)=false∧an8 y=0):=by
 by_cases h0:y=[97,110,121]
 ·exact .inl h0
 by_cases h1:y=[121,111,117]
 ·exact .inr (.inl h1)
 by_cases h2:y=[111,112,112,111,110,101,110,116,115]
 ·exact .inr (.inr (.inl h2))
 ·refine .inr (.inr (.inr ⟨?_,?_,?_,?_⟩))
  ·simp only [beq_eq_false_iff_ne];exact fun e=>h0 e.symm
  ·simp only [beq_eq_false_iff_ne];exact fun e=>h1 e.symm
  ·simp only [beq_eq_false_iff_ne];exact fun e=>h2 e.symm
  ·unfold an8;rw [if_neg (show ¬y=wd pwT 2 from h2),if_neg (show ¬y=wd pwT 1 from h1)]
theorem akb (r:Rp) (T:Str) (h:Hid (aeg r=T)) (w:World) (hl:bZ w):Calls Tryz.prog 39 #[.agg r.cells] w fun e w'=>e= .returned (.string (B T))∧Below w.heap.size w w':=
 (avx r w hl).mono fun e w' h'=>⟨by rw [h'.1,h.out],h'.2⟩
theorem aup {s x y z:Str} {l:List Str} (hs:s.length<90000000) (hR:eX 32 s=x::y::z::l):∀t∈x::y::z::l,t.length<90000000:=fun t ht=>by
 have:=ase 32 s [] 0 t (by rw [show splitAux 32 0 [] s=eX 32 s from rfl,hR];exact ht)
 simp at this;omega
theorem aq1 {s x y z:Str} {l:List Str} (hs:s.length<90000000) (hR:eX 32 s=x::y::z::l):∀t∈z::l,t.length<100000000:=fun t ht=>by
 have:=aup hs hR t (by simp at ht ⊢;rcases ht with h|h<;>simp [h])
 omega
theorem awU (s:Str) (hs:s.length<90000000) (x y z:Str) (l:List Str) (hR:eX 32 s=x::y::z::l) (hp:Lib.hasPrefix y [40]=false) (D:Rp) (hD:adV (kindOf x) (an8 y) aaB (z::l)=D) (T:Str) (HT:Hid (aeg D=T)) (HI:Hid (false=ael D)) (w:World) (hl:bZ w):
 Calls Tryz.prog 121 #[.string (B s)] w fun e w'=>e= .returned (.tuple #[.agg (Rp.cells I5), .int .i64 3])∧Below w.heap.size w w':=by
 have HZ:=Lib.hid (aq1 hs hR)
 have HR:=Lib.hid hR
 clear hR
 have v0:X9 0=[97,110,121]:=rfl
 have v1:X9 1=[121,111,117]:=rfl
 have v2:X9 2=[111,112,112,111,110,101,110,116,115]:=rfl
 have k0:¬(l.length:Int)+1+1+1<3:=by omega
 have k1:(1:Int)<(l.length:Int)+1+1+1:=by omega
 have k2:(0:Int)<(l.length:Int)+1+1+1:=by omega
 have k3:(2:Int)≤(l.length:Int)+1+1+1:=by omega
 rcases auE y with rfl|rfl|rfl|⟨y0,y1,y2,azY⟩
 all_goals first
  |(have HD:Hid (adV (kindOf x) 0 aaB (z::l)=D):=Lib.hid (by rw [←azY];exact hD)
    clear hD azY)
  |(have HD:Hid (adV (kindOf x) 0 aaB (z::l)=D):=Lib.hid hD
    clear hD)
  |(have HD:Hid (adV (kindOf x) 1 aaB (z::l)=D):=Lib.hid hD
    clear hD)
  |(have HD:Hid (adV (kindOf x) 2 aaB (z::l)=D):=Lib.hid hD
    clear hD)
 all_goals
  have hS:=St.start hl xA
  go_enter Tryz.func121,Tryz.ntmps121
  go_wp2_with (first|(go_at_call 193;(with_reducible refine (St.still hS fun hl=>aeB _ _).mono ?_);rintro e w ⟨rfl,hS⟩)|(go_at_call 120;(with_reducible refine (St.still hS fun hl=>aeA _ _).mono ?_);rintro e w ⟨rfl,hS⟩)|(go_at_call 28;(with_reducible refine (St.call hS fun hl=>afn _ _ HI _ hl).mono ?_);rintro e w ⟨rfl,hS⟩)|(go_at_call 130;(with_reducible refine (aes s (by omega) _ HR _).mono ?_);rintro e w ⟨A,c,rfl,ht,hbw⟩;obtain ⟨gw,cur,rfl,hw,hcap,hS⟩:=hS.words ht hbw (by simp);clear ht hbw;simp only [List.length_cons] at hcap;have hc2:¬c=2:=by omega)|((with_reducible refine aC ?_);(first|refine aQ rfl hS rfl rfl (by repeat constructor) GY (hw 0 _ rfl) ?_|refine aQ rfl hS rfl rfl (by repeat constructor) GY (hw 1 _ rfl) ?_);(try simp only [ah,ak,au,ay,aA]))|((with_reducible refine gY ?_);refine dn (v:= .string (B _)) rfl (fun _ _ _ h=>h) (fun w hS=>gB hS rfl rfl (by repeat constructor) GY (hw 1 _ rfl)) ?_;(try simp only [ah,ak,au,ay,aA]))|((with_reducible refine ahy ?_);refine gQ (l:=[(0,_)]) rfl rfl (ps:=[(0, .int .i64 (kindOf x))]) rfl (agG _) ?_;(try simp only [ah,ak,au,ay,aA]))|((with_reducible refine lK ?_);refine wp_loop_rounds 4 ?_)|(with_reducible refine jG ?_)|((with_reducible refine bG ?_);(first|(refine aS rfl ?_));(try simp only [ah,ak,au,ay,aA]))|((with_reducible refine aW ?_);(first|(refine aJ 37 rfl hS rfl _ aey ?_;intro g w hS));(try simp only [ah,ak,au,ay,aA]))|((with_reducible refine aer ?_);refine ahh rfl ?_;(try simp only [ah,ak,au,ay,aA]))|((with_reducible refine aC ?_);(first|(refine aeo rfl hS rfl rfl (by repeat constructor) ?_));(try simp only [ah,ak,au,ay,aA]))|((with_reducible refine aN ?_);(first|(refine aez rfl hS rfl rfl rfl (by repeat constructor) ?_;intro w hS)|(refine akx rfl hS rfl rfl rfl (by repeat constructor) ?_;intro w hS));(try simp only [ah,ak,au,ay,aA]))|((with_reducible refine aT ?_);refine adZ 4 hS rfl (by kernel_rfl) (by kernel_rfl) (by kernel_rfl) ?_)|((with_reducible refine aeI ?_);intro w hS)|((with_reducible refine afm ?_);(first|(refine akh rfl rfl rfl (by repeat constructor) (fun _ _ _ h=>h) ?_));(try simp only [ah,ak,au,ay,aA]))|((with_reducible refine afl ?_);(first|(refine aev (v:= ?_) (args:= ?_) 195 rfl (fun _ _ _ h=>h) ?_ ?_ ?_;rotate_left 2;(focus ((intro w;go_simp)<;>with_reducible rfl));(focus (intro w hS;refine St.jE hS (fun hl=>aem hS (by repeat constructor) hw HD HZ.out) ?_;with_reducible rfl))));(try simp only [ah,ak,au,ay,aA]))|((with_reducible refine ajM ?_);(refine aeD (v:= ?_) rfl (fun _ _ _ h=>h) ?_ ?_;rotate_left;(focus ((intro w hS;go_simp)<;>with_reducible rfl)));(try simp only [ah,ak,au,ay,aA]))|((with_reducible refine aT ?_);refine bY hS (by kernel_rfl) (by kernel_rfl) ?_)|((with_reducible refine fG ?_);intro w hS)|((with_reducible refine iH ?_);(first|(refine eu (v:= ?_) (args:= ?_) 80 rfl (fun _ _ _ h=>h) ?_ ?_ ?_;rotate_left 2;(focus ((intro w;go_simp)<;>with_reducible rfl));(focus (intro w hS;refine St.Kt hS (fun hl=>aeE _ _) ?_;with_reducible rfl))));(try simp only [ah,ak,au,ay,aA]))|((with_reducible refine dS ?_);(refine dn (v:= ?_) rfl (fun _ _ _ h=>h) ?_ ?_;rotate_left;(focus ((intro w hS;go_simp)<;>with_reducible rfl)));(try simp only [ah,ak,au,ay,aA])))
 all_goals (refine afo hS rfl rfl (by repeat constructor) rfl rfl (fun hb=>⟨rfl,hb⟩))
theorem awV (s:Str) (hs:s.length<90000000) (x y z:Str) (l:List Str) (hR:eX 32 s=x::y::z::l) (hp:Lib.hasPrefix y [40]=false) (D:Rp) (hD:adV (kindOf x) (an8 y) aaB (z::l)=D) (T:Str) (HT:Hid (aeg D=T)) (HI:Hid (true=ael D)) (ht:(T==s)=false) (w:World) (hl:bZ w):
 Calls Tryz.prog 121 #[.string (B s)] w fun e w'=>e= .returned (.tuple #[.agg (Rp.cells I5), .int .i64 3])∧Below w.heap.size w w':=by
 have HZ:=Lib.hid (aq1 hs hR)
 have HR:=Lib.hid hR
 clear hR
 have v0:X9 0=[97,110,121]:=rfl
 have v1:X9 1=[121,111,117]:=rfl
 have v2:X9 2=[111,112,112,111,110,101,110,116,115]:=rfl
 have k0:¬(l.length:Int)+1+1+1<3:=by omega
 have k1:(1:Int)<(l.length:Int)+1+1+1:=by omega
 have k2:(0:Int)<(l.length:Int)+1+1+1:=by omega
 have k3:(2:Int)≤(l.length:Int)+1+1+1:=by omega
 rcases auE y with rfl|rfl|rfl|⟨y0,y1,y2,azY⟩
 all_goals first
  |(have HD:Hid (adV (kindOf x) 0 aaB (z::l)=D):=Lib.hid (by rw [←azY];exact hD)
    clear hD azY)
  |(have HD:Hid (adV (kindOf x) 0 aaB (z::l)=D):=Lib.hid hD
    clear hD)
  |(have HD:Hid (adV (kindOf x) 1 aaB (z::l)=D):=Lib.hid hD
    clear hD)
  |(have HD:Hid (adV (kindOf x) 2 aaB (z::l)=D):=Lib.hid hD
    clear hD)
 all_goals
  have hS:=St.start hl xA
  go_enter Tryz.func121,Tryz.ntmps121
  go_wp2_with (first|(go_at_call 193;(with_reducible refine (St.still hS fun hl=>aeB _ _).mono ?_);rintro e w ⟨rfl,hS⟩)|(go_at_call 120;(with_reducible refine (St.still hS fun hl=>aeA _ _).mono ?_);rintro e w ⟨rfl,hS⟩)|(go_at_call 28;(with_reducible refine (St.call hS fun hl=>afn _ _ HI _ hl).mono ?_);rintro e w ⟨rfl,hS⟩)|(go_at_call 39;(with_reducible refine (St.call hS fun hl=>akb _ _ HT _ hl).mono ?_);rintro e w ⟨rfl,hS⟩)|(go_at_call 130;(with_reducible refine (aes s (by omega) _ HR _).mono ?_);rintro e w ⟨A,c,rfl,ht,hbw⟩;obtain ⟨gw,cur,rfl,hw,hcap,hS⟩:=hS.words ht hbw (by simp);clear ht hbw;simp only [List.length_cons] at hcap;have hc2:¬c=2:=by omega)|((with_reducible refine aC ?_);(first|refine aQ rfl hS rfl rfl (by repeat constructor) GY (hw 0 _ rfl) ?_|refine aQ rfl hS rfl rfl (by repeat constructor) GY (hw 1 _ rfl) ?_);(try simp only [ah,ak,au,ay,aA]))|((with_reducible refine gY ?_);refine dn (v:= .string (B _)) rfl (fun _ _ _ h=>h) (fun w hS=>gB hS rfl rfl (by repeat constructor) GY (hw 1 _ rfl)) ?_;(try simp only [ah,ak,au,ay,aA]))|((with_reducible refine ahy ?_);refine gQ (l:=[(0,_)]) rfl rfl (ps:=[(0, .int .i64 (kindOf x))]) rfl (agG _) ?_;(try simp only [ah,ak,au,ay,aA]))|((with_reducible refine lK ?_);refine wp_loop_rounds 4 ?_)|(with_reducible refine jG ?_)|((with_reducible refine aW ?_);(first|(refine aJ 37 rfl hS rfl _ aey ?_;intro g w hS));(try simp only [ah,ak,au,ay,aA]))|((with_reducible refine aer ?_);refine ahh rfl ?_;(try simp only [ah,ak,au,ay,aA]))|((with_reducible refine aC ?_);(first|(refine aeo rfl hS rfl rfl (by repeat constructor) ?_));(try simp only [ah,ak,au,ay,aA]))|((with_reducible refine aN ?_);(first|(refine aez rfl hS rfl rfl rfl (by repeat constructor) ?_;intro w hS)|(refine akx rfl hS rfl rfl rfl (by repeat constructor) ?_;intro w hS));(try simp only [ah,ak,au,ay,aA]))|((with_reducible refine aT ?_);refine adZ 4 hS rfl (by kernel_rfl) (by kernel_rfl) (by kernel_rfl) ?_)|((with_reducible refine aeI ?_);intro w hS)|((with_reducible refine afm ?_);(first|(refine akh rfl rfl rfl (by repeat constructor) (fun _ _ _ h=>h) ?_));(try simp only [ah,ak,au,ay,aA]))|((with_reducible refine afl ?_);(first|(refine aev (v:= ?_) (args:= ?_) 195 rfl (fun _ _ _ h=>h) ?_ ?_ ?_;rotate_left 2;(focus ((intro w;go_simp)<;>with_reducible rfl));(focus (intro w hS;refine St.jE hS (fun hl=>aem hS (by repeat constructor) hw HD HZ.out) ?_;with_reducible rfl))));(try simp only [ah,ak,au,ay,aA]))|((with_reducible refine ajM ?_);(refine aeD (v:= ?_) rfl (fun _ _ _ h=>h) ?_ ?_;rotate_left;(focus ((intro w hS;go_simp)<;>with_reducible rfl)));(try simp only [ah,ak,au,ay,aA]))|((with_reducible refine aT ?_);refine bY hS (by kernel_rfl) (by kernel_rfl) ?_)|((with_reducible refine fG ?_);intro w hS)|((with_reducible refine iH ?_);(first|(refine eu (v:= ?_) (args:= ?_) 80 rfl (fun _ _ _ h=>h) ?_ ?_ ?_;rotate_left 2;(focus ((intro w;go_simp)<;>with_reducible rfl));(focus (intro w hS;refine St.Kt hS (fun hl=>aeE _ _) ?_;with_reducible rfl))));(try simp only [ah,ak,au,ay,aA]))|((with_reducible refine dS ?_);(refine dn (v:= ?_) rfl (fun _ _ _ h=>h) ?_ ?_;rotate_left;(focus ((intro w hS;go_simp)<;>with_reducible rfl)));(try simp only [ah,ak,au,ay,aA])))
 all_goals (refine afo hS rfl rfl (by repeat constructor) rfl rfl (fun hb=>⟨rfl,hb⟩))
theorem awW (s:Str) (hs:s.length<90000000) (x y z:Str) (l:List Str) (hR:eX 32 s=x::y::z::l) (hp:Lib.hasPrefix y [40]=false) (D:Rp) (hD:adV (kindOf x) (an8 y) aaB (z::l)=D) (HT:Hid (aeg D=s)) (HI:Hid (true=ael D)) (w:World) (hl:bZ w):
 Calls Tryz.prog 121 #[.string (B s)] w fun e w'=>e= .returned (.tuple #[.agg (Rp.cells D), .int .i64 0])∧Below w.heap.size w w':=by
 have HZ:=Lib.hid (aq1 hs hR)
 have HR:=Lib.hid hR
 clear hR
 have v0:X9 0=[97,110,121]:=rfl
 have v1:X9 1=[121,111,117]:=rfl
 have v2:X9 2=[111,112,112,111,110,101,110,116,115]:=rfl
 have k0:¬(l.length:Int)+1+1+1<3:=by omega
 have k1:(1:Int)<(l.length:Int)+1+1+1:=by omega
 have k2:(0:Int)<(l.length:Int)+1+1+1:=by omega
 have k3:(2:Int)≤(l.length:Int)+1+1+1:=by omega
 rcases auE y with rfl|rfl|rfl|⟨y0,y1,y2,azY⟩
 all_goals first
  |(have HD:Hid (adV (kindOf x) 0 aaB (z::l)=D):=Lib.hid (by rw [←azY];exact hD)
    clear hD azY)
  |(have HD:Hid (adV (kindOf x) 0 aaB (z::l)=D):=Lib.hid hD
    clear hD)
  |(have HD:Hid (adV (kindOf x) 1 aaB (z::l)=D):=Lib.hid hD
    clear hD)
  |(have HD:Hid (adV (kindOf x) 2 aaB (z::l)=D):=Lib.hid hD
    clear hD)
 all_goals
  have hS:=St.start hl xA
  go_enter Tryz.func121,Tryz.ntmps121
  go_wp2_with (first|(go_at_call 193;(with_reducible refine (St.still hS fun hl=>aeB _ _).mono ?_);rintro e w ⟨rfl,hS⟩)|(go_at_call 120;(with_reducible refine (St.still hS fun hl=>aeA _ _).mono ?_);rintro e w ⟨rfl,hS⟩)|(go_at_call 28;(with_reducible refine (St.call hS fun hl=>afn _ _ HI _ hl).mono ?_);rintro e w ⟨rfl,hS⟩)|(go_at_call 39;(with_reducible refine (St.call hS fun hl=>akb _ _ HT _ hl).mono ?_);rintro e w ⟨rfl,hS⟩)|(go_at_call 130;(with_reducible refine (aes s (by omega) _ HR _).mono ?_);rintro e w ⟨A,c,rfl,ht,hbw⟩;obtain ⟨gw,cur,rfl,hw,hcap,hS⟩:=hS.words ht hbw (by simp);clear ht hbw;simp only [List.length_cons] at hcap;have hc2:¬c=2:=by omega)|((with_reducible refine aC ?_);(first|refine aQ rfl hS rfl rfl (by repeat constructor) GY (hw 0 _ rfl) ?_|refine aQ rfl hS rfl rfl (by repeat constructor) GY (hw 1 _ rfl) ?_);(try simp only [ah,ak,au,ay,aA]))|((with_reducible refine gY ?_);refine dn (v:= .string (B _)) rfl (fun _ _ _ h=>h) (fun w hS=>gB hS rfl rfl (by repeat constructor) GY (hw 1 _ rfl)) ?_;(try simp only [ah,ak,au,ay,aA]))|((with_reducible refine ahy ?_);refine gQ (l:=[(0,_)]) rfl rfl (ps:=[(0, .int .i64 (kindOf x))]) rfl (agG _) ?_;(try simp only [ah,ak,au,ay,aA]))|((with_reducible refine lK ?_);refine wp_loop_rounds 4 ?_)|(with_reducible refine jG ?_)|((with_reducible refine aW ?_);(first|(refine aJ 37 rfl hS rfl _ aey ?_;intro g w hS));(try simp only [ah,ak,au,ay,aA]))|((with_reducible refine aC ?_);(first|(refine aeo rfl hS rfl rfl (by repeat constructor) ?_));(try simp only [ah,ak,au,ay,aA]))|((with_reducible refine aN ?_);(first|(refine aez rfl hS rfl rfl rfl (by repeat constructor) ?_;intro w hS)|(refine akx rfl hS rfl rfl rfl (by repeat constructor) ?_;intro w hS));(try simp only [ah,ak,au,ay,aA]))|((with_reducible refine aT ?_);refine adZ 4 hS rfl (by kernel_rfl) (by kernel_rfl) (by kernel_rfl) ?_)|((with_reducible refine aeI ?_);intro w hS)|((with_reducible refine afm ?_);(first|(refine akh rfl rfl rfl (by repeat constructor) (fun _ _ _ h=>h) ?_));(try simp only [ah,ak,au,ay,aA]))|((with_reducible refine afl ?_);(first|(refine aev (v:= ?_) (args:= ?_) 195 rfl (fun _ _ _ h=>h) ?_ ?_ ?_;rotate_left 2;(focus ((intro w;go_simp)<;>with_reducible rfl));(focus (intro w hS;refine St.jE hS (fun hl=>aem hS (by repeat constructor) hw HD HZ.out) ?_;with_reducible rfl))));(try simp only [ah,ak,au,ay,aA]))|((with_reducible refine ajM ?_);(refine aeD (v:= ?_) rfl (fun _ _ _ h=>h) ?_ ?_;rotate_left;(focus ((intro w hS;go_simp)<;>with_reducible rfl)));(try simp only [ah,ak,au,ay,aA]))|((with_reducible refine aT ?_);refine bY hS (by kernel_rfl) (by kernel_rfl) ?_)|((with_reducible refine fG ?_);intro w hS)|((with_reducible refine iH ?_);(first|(refine eu (v:= ?_) (args:= ?_) 80 rfl (fun _ _ _ h=>h) ?_ ?_ ?_;rotate_left 2;(focus ((intro w;go_simp)<;>with_reducible rfl));(focus (intro w hS;refine St.Kt hS (fun hl=>aeE _ _) ?_;with_reducible rfl))));(try simp only [ah,ak,au,ay,aA]))|((with_reducible refine dS ?_);(refine dn (v:= ?_) rfl (fun _ _ _ h=>h) ?_ ?_;rotate_left;(focus ((intro w hS;go_simp)<;>with_reducible rfl)));(try simp only [ah,ak,au,ay,aA])))
 all_goals (refine afo hS rfl rfl (by repeat constructor) rfl rfl (fun hb=>⟨rfl,hb⟩))
theorem awT (s:Str) (hs:s.length<90000000) (x y z:Str) (l:List Str) (hR:eX 32 s=x::y::z::l) (hp:Lib.hasPrefix y [40]=true) (G:aH) (c:Int) (HG:Hid (ER (bW (Lib.trimSuffix (Lib.trimPrefix y [40]) [41]))= .tuple #[.agg G.cells, .int .i64 c])) (hc:(c != 0)=true) (w:World) (hl:bZ w):
 Calls Tryz.prog 121 #[.string (B s)] w fun e w'=>e= .returned (.tuple #[.agg (Rp.cells I5), .int .i64 3])∧Below w.heap.size w w':=by
 have HZ:=Lib.hid (aq1 hs hR)
 have hym:=aup hs hR y (by simp)
 have HX:=Lib.hid (show (Lib.trimPrefix y [40]).length<1000000000 by have:=akc y [40];omega)
 have HY:=Lib.hid (show (Lib.trimSuffix (Lib.trimPrefix y [40]) [41]).length<100000000 by have:=akc y [40];have:=aq6 (Lib.trimPrefix y [40]) [41];omega)
 have HR:=Lib.hid hR
 clear hym
 clear hR
 have k0:¬(l.length:Int)+1+1+1<3:=by omega
 have k1:(1:Int)<(l.length:Int)+1+1+1:=by omega
 have k2:(0:Int)<(l.length:Int)+1+1+1:=by omega
 have k3:(2:Int)≤(l.length:Int)+1+1+1:=by omega
 have hS:=St.start hl xA
 go_enter Tryz.func121,Tryz.ntmps121
 go_wp2_with (first|(go_at_call 193;(with_reducible refine (St.still hS fun hl=>aeB _ _).mono ?_);rintro e w ⟨rfl,hS⟩)|(go_at_call 120;(with_reducible refine (St.still hS fun hl=>aeA _ _).mono ?_);rintro e w ⟨rfl,hS⟩)|(go_at_call 194;(with_reducible refine (St.still hS fun hl=>asv _ HX.out _).mono ?_);rintro e w ⟨rfl,hS⟩)|(go_at_call 123;(with_reducible refine (St.call hS fun hl=>ark _ HY.out _ _ HG _ hl.base).mono ?_);rintro e w ⟨rfl,hS⟩)|(go_at_call 130;(with_reducible refine (aes s (by omega) _ HR _).mono ?_);rintro e w ⟨A,c,rfl,ht,hbw⟩;obtain ⟨gw,cur,rfl,hw,hcap,hS⟩:=hS.words ht hbw (by simp);clear ht hbw;simp only [List.length_cons] at hcap;have hc2:¬c=2:=by omega)|((with_reducible refine aC ?_);(first|refine aQ rfl hS rfl rfl (by repeat constructor) GY (hw 0 _ rfl) ?_|refine aQ rfl hS rfl rfl (by repeat constructor) GY (hw 1 _ rfl) ?_);(try simp only [ah,ak,au,ay,aA]))|((with_reducible refine ahy ?_);refine gQ (l:=[(0,_)]) rfl rfl (ps:=[(0, .int .i64 (kindOf x))]) rfl (agG _) ?_;(try simp only [ah,ak,au,ay,aA]))|((with_reducible refine aW ?_);(first|(refine aJ 37 rfl hS rfl _ aey ?_;intro g w hS)|(refine aJ 25 rfl hS rfl _ Q8 ?_;intro g w hS));(try simp only [ah,ak,au,ay,aA]))|((with_reducible refine aer ?_);refine ahh rfl ?_;(try simp only [ah,ak,au,ay,aA]))|((with_reducible refine aN ?_);(first|(refine aez rfl hS rfl rfl rfl (by repeat constructor) ?_;intro w hS)|(refine Rh rfl hS rfl rfl rfl (by repeat constructor) ?_;intro w hS));(try simp only [ah,ak,au,ay,aA])))
 all_goals (refine afo hS rfl rfl (by repeat constructor) rfl rfl (fun hb=>⟨rfl,hb⟩))
theorem awQ (s:Str) (hs:s.length<90000000) (x y z:Str) (l:List Str) (hR:eX 32 s=x::y::z::l) (hp:Lib.hasPrefix y [40]=true) (G:aH) (c:Int) (HG:Hid (ER (bW (Lib.trimSuffix (Lib.trimPrefix y [40]) [41]))= .tuple #[.agg G.cells, .int .i64 c])) (hc:c=0) (D:Rp) (hD:Hid (adV (kindOf x) 0 G (z::l)=D)) (T:Str) (HT:Hid (aeg D=T)) (HI:Hid (false=ael D)) (w:World) (hl:bZ w):
 Calls Tryz.prog 121 #[.string (B s)] w fun e w'=>e= .returned (.tuple #[.agg (Rp.cells I5), .int .i64 3])∧Below w.heap.size w w':=by
 have HZ:=Lib.hid (aq1 hs hR)
 have hym:=aup hs hR y (by simp)
 have HX:=Lib.hid (show (Lib.trimPrefix y [40]).length<1000000000 by have:=akc y [40];omega)
 have HY:=Lib.hid (show (Lib.trimSuffix (Lib.trimPrefix y [40]) [41]).length<100000000 by have:=akc y [40];have:=aq6 (Lib.trimPrefix y [40]) [41];omega)
 have HR:=Lib.hid hR
 clear hym
 subst hc
 have HD:=hD
 clear hD
 clear hR
 have k0:¬(l.length:Int)+1+1+1<3:=by omega
 have k1:(1:Int)<(l.length:Int)+1+1+1:=by omega
 have k2:(0:Int)<(l.length:Int)+1+1+1:=by omega
 have k3:(2:Int)≤(l.length:Int)+1+1+1:=by omega
 have hS:=St.start hl xA
 go_enter Tryz.func121,Tryz.ntmps121
 go_wp2_with (first|(go_at_call 193;(with_reducible refine (St.still hS fun hl=>aeB _ _).mono ?_);rintro e w ⟨rfl,hS⟩)|(go_at_call 120;(with_reducible refine (St.still hS fun hl=>aeA _ _).mono ?_);rintro e w ⟨rfl,hS⟩)|(go_at_call 194;(with_reducible refine (St.still hS fun hl=>asv _ HX.out _).mono ?_);rintro e w ⟨rfl,hS⟩)|(go_at_call 123;(with_reducible refine (St.call hS fun hl=>ark _ HY.out _ _ HG _ hl.base).mono ?_);rintro e w ⟨rfl,hS⟩)|(go_at_call 28;(with_reducible refine (St.call hS fun hl=>afn _ _ HI _ hl).mono ?_);rintro e w ⟨rfl,hS⟩)|(go_at_call 130;(with_reducible refine (aes s (by omega) _ HR _).mono ?_);rintro e w ⟨A,c,rfl,ht,hbw⟩;obtain ⟨gw,cur,rfl,hw,hcap,hS⟩:=hS.words ht hbw (by simp);clear ht hbw;simp only [List.length_cons] at hcap;have hc2:¬c=2:=by omega)|((with_reducible refine aC ?_);(first|refine aQ rfl hS rfl rfl (by repeat constructor) GY (hw 0 _ rfl) ?_|refine aQ rfl hS rfl rfl (by repeat constructor) GY (hw 1 _ rfl) ?_);(try simp only [ah,ak,au,ay,aA]))|((with_reducible refine ahy ?_);refine gQ (l:=[(0,_)]) rfl rfl (ps:=[(0, .int .i64 (kindOf x))]) rfl (agG _) ?_;(try simp only [ah,ak,au,ay,aA]))|((with_reducible refine bG ?_);(first|(refine aS rfl ?_));(try simp only [ah,ak,au,ay,aA]))|((with_reducible refine aW ?_);(first|(refine aJ 37 rfl hS rfl _ aey ?_;intro g w hS)|(refine aJ 25 rfl hS rfl _ Q8 ?_;intro g w hS));(try simp only [ah,ak,au,ay,aA]))|((with_reducible refine aer ?_);refine ahh rfl ?_;(try simp only [ah,ak,au,ay,aA]))|((with_reducible refine aC ?_);(first|(refine aeo rfl hS rfl rfl (by repeat constructor) ?_)|(refine ES rfl hS rfl rfl (by repeat constructor) ?_));(try simp only [ah,ak,au,ay,aA]))|((with_reducible refine aN ?_);(first|(refine aez rfl hS rfl rfl rfl (by repeat constructor) ?_;intro w hS)|(refine aq9 rfl hS rfl rfl rfl (by repeat constructor) ?_;intro w hS)|(refine Rh rfl hS rfl rfl rfl (by repeat constructor) ?_;intro w hS));(try simp only [ah,ak,au,ay,aA]))|((with_reducible refine aT ?_);refine adZ 4 hS rfl (by kernel_rfl) (by kernel_rfl) (by kernel_rfl) ?_)|((with_reducible refine aeI ?_);intro w hS)|((with_reducible refine afm ?_);(first|(refine akh rfl rfl rfl (by repeat constructor) (fun _ _ _ h=>h) ?_));(try simp only [ah,ak,au,ay,aA]))|((with_reducible refine afl ?_);(first|(refine aev (v:= ?_) (args:= ?_) 195 rfl (fun _ _ _ h=>h) ?_ ?_ ?_;rotate_left 2;(focus ((intro w;go_simp)<;>with_reducible rfl));(focus (intro w hS;refine St.jE hS (fun hl=>aem hS (by repeat constructor) hw HD HZ.out) ?_;with_reducible rfl))));(try simp only [ah,ak,au,ay,aA]))|((with_reducible refine ajM ?_);(refine aeD (v:= ?_) rfl (fun _ _ _ h=>h) ?_ ?_;rotate_left;(focus ((intro w hS;go_simp)<;>with_reducible rfl)));(try simp only [ah,ak,au,ay,aA])))
 all_goals (refine afo hS rfl rfl (by repeat constructor) rfl rfl (fun hb=>⟨rfl,hb⟩))
theorem awR (s:Str) (hs:s.length<90000000) (x y z:Str) (l:List Str) (hR:eX 32 s=x::y::z::l) (hp:Lib.hasPrefix y [40]=true) (G:aH) (c:Int) (HG:Hid (ER (bW (Lib.trimSuffix (Lib.trimPrefix y [40]) [41]))= .tuple #[.agg G.cells, .int .i64 c])) (hc:c=0) (D:Rp) (hD:Hid (adV (kindOf x) 0 G (z::l)=D)) (T:Str) (HT:Hid (aeg D=T)) (HI:Hid (true=ael D)) (ht:(T==s)=false) (w:World) (hl:bZ w):
 Calls Tryz.prog 121 #[.string (B s)] w fun e w'=>e= .returned (.tuple #[.agg (Rp.cells I5), .int .i64 3])∧Below w.heap.size w w':=by
 have HZ:=Lib.hid (aq1 hs hR)
 have hym:=aup hs hR y (by simp)
 have HX:=Lib.hid (show (Lib.trimPrefix y [40]).length<1000000000 by have:=akc y [40];omega)
 have HY:=Lib.hid (show (Lib.trimSuffix (Lib.trimPrefix y [40]) [41]).length<100000000 by have:=akc y [40];have:=aq6 (Lib.trimPrefix y [40]) [41];omega)
 have HR:=Lib.hid hR
 clear hym
 subst hc
 have HD:=hD
 clear hD
 clear hR
 have k0:¬(l.length:Int)+1+1+1<3:=by omega
 have k1:(1:Int)<(l.length:Int)+1+1+1:=by omega
 have k2:(0:Int)<(l.length:Int)+1+1+1:=by omega
 have k3:(2:Int)≤(l.length:Int)+1+1+1:=by omega
 have hS:=St.start hl xA
 go_enter Tryz.func121,Tryz.ntmps121
 go_wp2_with (first|(go_at_call 193;(with_reducible refine (St.still hS fun hl=>aeB _ _).mono ?_);rintro e w ⟨rfl,hS⟩)|(go_at_call 120;(with_reducible refine (St.still hS fun hl=>aeA _ _).mono ?_);rintro e w ⟨rfl,hS⟩)|(go_at_call 194;(with_reducible refine (St.still hS fun hl=>asv _ HX.out _).mono ?_);rintro e w ⟨rfl,hS⟩)|(go_at_call 123;(with_reducible refine (St.call hS fun hl=>ark _ HY.out _ _ HG _ hl.base).mono ?_);rintro e w ⟨rfl,hS⟩)|(go_at_call 28;(with_reducible refine (St.call hS fun hl=>afn _ _ HI _ hl).mono ?_);rintro e w ⟨rfl,hS⟩)|(go_at_call 39;(with_reducible refine (St.call hS fun hl=>akb _ _ HT _ hl).mono ?_);rintro e w ⟨rfl,hS⟩)|(go_at_call 130;(with_reducible refine (aes s (by omega) _ HR _).mono ?_);rintro e w ⟨A,c,rfl,ht,hbw⟩;obtain ⟨gw,cur,rfl,hw,hcap,hS⟩:=hS.words ht hbw (by simp);clear ht hbw;simp only [List.length_cons] at hcap;have hc2:¬c=2:=by omega)|((with_reducible refine aC ?_);(first|refine aQ rfl hS rfl rfl (by repeat constructor) GY (hw 0 _ rfl) ?_|refine aQ rfl hS rfl rfl (by repeat constructor) GY (hw 1 _ rfl) ?_);(try simp only [ah,ak,au,ay,aA]))|((with_reducible refine ahy ?_);refine gQ (l:=[(0,_)]) rfl rfl (ps:=[(0, .int .i64 (kindOf x))]) rfl (agG _) ?_;(try simp only [ah,ak,au,ay,aA]))|((with_reducible refine aW ?_);(first|(refine aJ 37 rfl hS rfl _ aey ?_;intro g w hS)|(refine aJ 25 rfl hS rfl _ Q8 ?_;intro g w hS));(try simp only [ah,ak,au,ay,aA]))|((with_reducible refine aer ?_);refine ahh rfl ?_;(try simp only [ah,ak,au,ay,aA]))|((with_reducible refine aC ?_);(first|(refine aeo rfl hS rfl rfl (by repeat constructor) ?_)|(refine ES rfl hS rfl rfl (by repeat constructor) ?_));(try simp only [ah,ak,au,ay,aA]))|((with_reducible refine aN ?_);(first|(refine aez rfl hS rfl rfl rfl (by repeat constructor) ?_;intro w hS)|(refine aq9 rfl hS rfl rfl rfl (by repeat constructor) ?_;intro w hS)|(refine Rh rfl hS rfl rfl rfl (by repeat constructor) ?_;intro w hS));(try simp only [ah,ak,au,ay,aA]))|((with_reducible refine aT ?_);refine adZ 4 hS rfl (by kernel_rfl) (by kernel_rfl) (by kernel_rfl) ?_)|((with_reducible refine aeI ?_);intro w hS)|((with_reducible refine afm ?_);(first|(refine akh rfl rfl rfl (by repeat constructor) (fun _ _ _ h=>h) ?_));(try simp only [ah,ak,au,ay,aA]))|((with_reducible refine afl ?_);(first|(refine aev (v:= ?_) (args:= ?_) 195 rfl (fun _ _ _ h=>h) ?_ ?_ ?_;rotate_left 2;(focus ((intro w;go_simp)<;>with_reducible rfl));(focus (intro w hS;refine St.jE hS (fun hl=>aem hS (by repeat constructor) hw HD HZ.out) ?_;with_reducible rfl))));(try simp only [ah,ak,au,ay,aA]))|((with_reducible refine ajM ?_);(refine aeD (v:= ?_) rfl (fun _ _ _ h=>h) ?_ ?_;rotate_left;(focus ((intro w hS;go_simp)<;>with_reducible rfl)));(try simp only [ah,ak,au,ay,aA])))
 all_goals (refine afo hS rfl rfl (by repeat constructor) rfl rfl (fun hb=>⟨rfl,hb⟩))
theorem awS (s:Str) (hs:s.length<90000000) (x y z:Str) (l:List Str) (hR:eX 32 s=x::y::z::l) (hp:Lib.hasPrefix y [40]=true) (G:aH) (c:Int) (HG:Hid (ER (bW (Lib.trimSuffix (Lib.trimPrefix y [40]) [41]))= .tuple #[.agg G.cells, .int .i64 c])) (hc:c=0) (D:Rp) (hD:Hid (adV (kindOf x) 0 G (z::l)=D)) (HT:Hid (aeg D=s)) (HI:Hid (true=ael D)) (w:World) (hl:bZ w):
 Calls Tryz.prog 121 #[.string (B s)] w fun e w'=>e= .returned (.tuple #[.agg (Rp.cells D), .int .i64 0])∧Below w.heap.size w w':=by
 have HZ:=Lib.hid (aq1 hs hR)
 have hym:=aup hs hR y (by simp)
 have HX:=Lib.hid (show (Lib.trimPrefix y [40]).length<1000000000 by have:=akc y [40];omega)
 have HY:=Lib.hid (show (Lib.trimSuffix (Lib.trimPrefix y [40]) [41]).length<100000000 by have:=akc y [40];have:=aq6 (Lib.trimPrefix y [40]) [41];omega)
 have HR:=Lib.hid hR
 clear hym
 subst hc
 have HD:=hD
 clear hD
 clear hR
 have k0:¬(l.length:Int)+1+1+1<3:=by omega
 have k1:(1:Int)<(l.length:Int)+1+1+1:=by omega
 have k2:(0:Int)<(l.length:Int)+1+1+1:=by omega
 have k3:(2:Int)≤(l.length:Int)+1+1+1:=by omega
 have hS:=St.start hl xA
 go_enter Tryz.func121,Tryz.ntmps121
 go_wp2_with (first|(go_at_call 193;(with_reducible refine (St.still hS fun hl=>aeB _ _).mono ?_);rintro e w ⟨rfl,hS⟩)|(go_at_call 120;(with_reducible refine (St.still hS fun hl=>aeA _ _).mono ?_);rintro e w ⟨rfl,hS⟩)|(go_at_call 194;(with_reducible refine (St.still hS fun hl=>asv _ HX.out _).mono ?_);rintro e w ⟨rfl,hS⟩)|(go_at_call 123;(with_reducible refine (St.call hS fun hl=>ark _ HY.out _ _ HG _ hl.base).mono ?_);rintro e w ⟨rfl,hS⟩)|(go_at_call 28;(with_reducible refine (St.call hS fun hl=>afn _ _ HI _ hl).mono ?_);rintro e w ⟨rfl,hS⟩)|(go_at_call 39;(with_reducible refine (St.call hS fun hl=>akb _ _ HT _ hl).mono ?_);rintro e w ⟨rfl,hS⟩)|(go_at_call 130;(with_reducible refine (aes s (by omega) _ HR _).mono ?_);rintro e w ⟨A,c,rfl,ht,hbw⟩;obtain ⟨gw,cur,rfl,hw,hcap,hS⟩:=hS.words ht hbw (by simp);clear ht hbw;simp only [List.length_cons] at hcap;have hc2:¬c=2:=by omega)|((with_reducible refine aC ?_);(first|refine aQ rfl hS rfl rfl (by repeat constructor) GY (hw 0 _ rfl) ?_|refine aQ rfl hS rfl rfl (by repeat constructor) GY (hw 1 _ rfl) ?_);(try simp only [ah,ak,au,ay,aA]))|((with_reducible refine ahy ?_);refine gQ (l:=[(0,_)]) rfl rfl (ps:=[(0, .int .i64 (kindOf x))]) rfl (agG _) ?_;(try simp only [ah,ak,au,ay,aA]))|((with_reducible refine aW ?_);(first|(refine aJ 37 rfl hS rfl _ aey ?_;intro g w hS)|(refine aJ 25 rfl hS rfl _ Q8 ?_;intro g w hS));(try simp only [ah,ak,au,ay,aA]))|((with_reducible refine aC ?_);(first|(refine aeo rfl hS rfl rfl (by repeat constructor) ?_)|(refine ES rfl hS rfl rfl (by repeat constructor) ?_));(try simp only [ah,ak,au,ay,aA]))|((with_reducible refine aN ?_);(first|(refine aez rfl hS rfl rfl rfl (by repeat constructor) ?_;intro w hS)|(refine aq9 rfl hS rfl rfl rfl (by repeat constructor) ?_;intro w hS)|(refine Rh rfl hS rfl rfl rfl (by repeat constructor) ?_;intro w hS));(try simp only [ah,ak,au,ay,aA]))|((with_reducible refine aT ?_);refine adZ 4 hS rfl (by kernel_rfl) (by kernel_rfl) (by kernel_rfl) ?_)|((with_reducible refine aeI ?_);intro w hS)|((with_reducible refine afm ?_);(first|(refine akh rfl rfl rfl (by repeat constructor) (fun _ _ _ h=>h) ?_));(try simp only [ah,ak,au,ay,aA]))|((with_reducible refine afl ?_);(first|(refine aev (v:= ?_) (args:= ?_) 195 rfl (fun _ _ _ h=>h) ?_ ?_ ?_;rotate_left 2;(focus ((intro w;go_simp)<;>with_reducible rfl));(focus (intro w hS;refine St.jE hS (fun hl=>aem hS (by repeat constructor) hw HD HZ.out) ?_;with_reducible rfl))));(try simp only [ah,ak,au,ay,aA]))|((with_reducible refine ajM ?_);(refine aeD (v:= ?_) rfl (fun _ _ _ h=>h) ?_ ?_;rotate_left;(focus ((intro w hS;go_simp)<;>with_reducible rfl)));(try simp only [ah,ak,au,ay,aA])))
 all_goals (refine afo hS rfl rfl (by repeat constructor) rfl rfl (fun hb=>⟨rfl,hb⟩))
theorem axz (s:Str) (hs:s.length<90000000) (w:World) (hl:bZ w):Calls Tryz.prog 121 #[.string (B s)] w fun e w'=>e= .returned (aA9 (am8 s))∧Below w.heap.size w w':=by
 have hgo:∀o,aqO s=o→am8 s=match o with|some r=>if ael r=true∧aeg r=s then some r else none|none=>none:=fun o h=>by unfold am8;rw [h];cases o<;>rfl
 match hR:eX 32 s with
 |[]=>rw [hgo none (by unfold aqO;rw [hR])];exact ara s hs [] hR (by simp) w hl
 |[a]=>rw [hgo none (by unfold aqO;rw [hR])];exact ara s hs _ hR (by simp) w hl
 |[a,b]=>rw [hgo none (by unfold aqO;rw [hR])];exact ara s hs _ hR (by simp) w hl
 |x::y::z::l=>
  have hg:aqO s=(aoP y).map fun p=>adV (kindOf x) p.1 p.2 (z::l):=by unfold aqO;rw [hR]
  cases hp:Lib.hasPrefix y [40] with
  |false=>
   have hw:aoP y=some (an8 y,aaB):=by unfold aoP;rw [hp];rfl
   rw [hw] at hg
   rw [hgo _ hg]
   simp only [Option.map_some]
   obtain ⟨D,hD⟩:∃D,adV (kindOf x) (an8 y) aaB (z::l)=D:=⟨_,rfl⟩
   rw [hD]
   cases hI:ael D with
   |false=>rw [if_neg (fun h=>by cases h.1)];exact awU s hs x y z l hR hp D hD _ (Lib.hid rfl) (Lib.hid hI.symm) w hl
   |true=>
    by_cases ht:aeg D=s
    ·rw [if_pos ⟨rfl,ht⟩];exact awW s hs x y z l hR hp D hD (Lib.hid ht) (Lib.hid hI.symm) w hl
    ·rw [if_neg (fun h=>ht h.2)];exact awV s hs x y z l hR hp D hD _ (Lib.hid rfl) (Lib.hid hI.symm) (by simpa using ht) w hl
  |true=>
   have hw:aoP y=(bW (Lib.trimSuffix (Lib.trimPrefix y [40]) [41])).map fun f=>(0,f):=by unfold aoP;rw [hp];rfl
   rw [hw] at hg
   cases hq:bW (Lib.trimSuffix (Lib.trimPrefix y [40]) [41]) with
   |none=>
    rw [hq] at hg
    rw [hgo _ hg]
    exact awT s hs x y z l hR hp aaB 3 (Lib.hid (by rw [hq];rfl)) rfl w hl
   |some G=>
    rw [hq] at hg
    rw [hgo _ hg]
    simp only [Option.map_some]
    have HG:Hid (ER (bW (Lib.trimSuffix (Lib.trimPrefix y [40]) [41]))= .tuple #[.agg G.cells, .int .i64 0]):=Lib.hid (by rw [hq];rfl)
    obtain ⟨D,hD⟩:∃D,adV (kindOf x) 0 G (z::l)=D:=⟨_,rfl⟩
    rw [hD]
    cases hI:ael D with
    |false=>rw [if_neg (fun h=>by cases h.1)];exact awQ s hs x y z l hR hp G 0 HG rfl D (Lib.hid hD) _ (Lib.hid rfl) (Lib.hid hI.symm) w hl
    |true=>
     by_cases ht:aeg D=s
     ·rw [if_pos ⟨rfl,ht⟩];exact awS s hs x y z l hR hp G 0 HG rfl D (Lib.hid hD) (Lib.hid ht) (Lib.hid hI.symm) w hl
     ·rw [if_neg (fun h=>ht h.2)];exact awR s hs x y z l hR hp G 0 HG rfl D (Lib.hid hD) _ (Lib.hid rfl) (Lib.hid hI.symm) (by simpa using ht) w hl
end Go.Proofs.YtdicgggkdmkklaaGreatDoor
