/- EffectLists: the program answers as the reference. Conditions: LaidM; the list lies in memory. -/
import Derived.Test.YtdnnkgkondkhfaaGreatDoorQ13
set_option linter.all false
set_option maxRecDepth 100000
set_option maxHeartbeats 16000000
namespace Go.Proofs.YtdnnkgkondkhfaaGreatDoor
attribute [local irreducible] wpList Code.wp Calls
open Go.ChangeShapes Go.WideShapes Go.RowKit
theorem OQ (l:List EV) (A:Option Addr) (c:Nat) (s:Str) (w0:World) (hl:bZ w0∧og A l w0):Calls Tryz.prog 4 #[.slice A l.length c, .string (B s)] w0 fun x w'=>x= .returned (.bool true)∧Below w0.heap.size w0 w':=by
 have hsz:(B s).size=s.length:=bC s
 have hS:=St.start (L:=LX A none none l [] []) ⟨hl.1,hl.2,Du _,Du _⟩ (Xk _ _ _ _ _ _)
 have HB:=Lib.hid (Below.refl w0.heap.size w0)
 by_cases hs:2000<s.length
 ·have hz:decide ((s.length:Int) > 2000)=true:=by simp;omega
  have hz':decide (2000<(s.length:Int))=true:=by simp;omega
  go_enter Tryz.func4,Tryz.ntmps4
  go_wp2_with (first|(go_at_call 11;(with_reducible refine (St.call hS fun hl=>wQ _ hl.1).mono ?_);rintro e w ⟨rfl,hS⟩)|(go_at_call 15;(refine (CU l A c _ hS.laid.2.1).mono ?_);rintro e0 w ⟨⟨b,rfl,h20⟩,hb⟩;have hS:=hS.mono hb;clear hb h20;cases b))
  all_goals go_ret
  all_goals exact ⟨aX (by simp),hS.below⟩
 ·have hz:decide ((s.length:Int) > 2000)=false:=by simp;omega
  have hz':decide (2000<(s.length:Int))=false:=by simp;omega
  have hs9:s.length<1000000000:=by omega
  have hs6:s.length<1000000:=by omega
  have hparts:∀x∈lY s,x.length<100000000:=fun x hx=>Nat.lt_of_le_of_lt (QA s x hx) (by omega)
  have SN:=Lib.hid hparts
  obtain ⟨T,hT⟩:∃T,jW (l.map Prod.fst)=T:=⟨_,rfl⟩
  have HT:=Lib.hid hT
  obtain ⟨K,hK⟩:∃K,elK s=K:=⟨_,rfl⟩
  have HK:=Lib.hid hK
  clear hT hK hparts
  go_enter Tryz.func4,Tryz.ntmps4
  go_wp2_with (first|(go_at_call 11;(with_reducible refine (St.call hS fun hl=>wQ _ hl.1).mono ?_);rintro e w ⟨rfl,hS⟩)|(go_at_call 18;(with_reducible refine (St.call hS fun hl=>UY l A c T HT _ ⟨hl.1,hl.2.1.few (H20.out (by trivial)).2⟩ (Nat.lt_of_le_of_lt (H20.out (by trivial)).1 (by decide))).mono ?_);rintro e w ⟨rfl,hS⟩)|(go_at_call 19;(with_reducible refine (St.call hS fun hl=>xO l A c T HT _ ⟨hl.1,hl.2.1.few (H20.out (by trivial)).2⟩ (Nat.lt_of_le_of_lt (H20.out (by trivial)).1 (by decide))).mono ?_);rintro e w ⟨rfl,hS⟩)|(go_at_call 15;(refine (CU l A c _ hS.laid.2.1).mono ?_);rintro e0 w ⟨⟨b,rfl,h20⟩,hb⟩;have hS:=hS.mono hb;have H20:=Lib.hid h20;clear hb h20;cases b)|(go_at_call 16;(refine (EO s hs9 SN.out _ hS.laid.1).mono ?_);rintro e0 w1 h0;obtain ⟨e1,A1,c1,rfl,ha1,hl1,hm1,hb⟩:=TJ h0;clear h0;have HB1:=Lib.hid (hS.below.trans (hb.mono hS.below.size));have hS:=St.start (L:=LX A A1 none l e1 []) ⟨(hS.mono hb).laid.1,(hS.mono hb).laid.2.1,ha1,Du _⟩ (Xk _ _ _ _ _ _);have SL:=Lib.hid hm1;rw [HK.out];clear hb ha1 hm1)|(go_at_call 17;(refine (NU s hs6 _ hS.laid.1).mono ?_);rintro e0 w2 h0;obtain ⟨e2,A2,c2,rfl,ha2,hl2,hm2,hb⟩:=TJ h0;clear h0;have HB2:=Lib.hid (hS.below.trans (hb.mono hS.below.size));have hS:=St.start (L:=LX A A1 A2 l e1 e2) ⟨(hS.mono hb).laid.1,(hS.mono hb).laid.2.1,(hS.mono hb).laid.2.2.1,ha2⟩ (Xk _ _ _ _ _ _);have EI:=Lib.hid hm2;rw [HK.out];have HEQ:=Lib.hid ((yw _ _).2 (SL.out.trans EI.out.symm));clear hb ha2 hm2)|(go_at_call 20;(refine (St.call hS fun hl=>J7 e1 e2 A1 A2 c1 c2 true HEQ _ hl.2.2 (Nat.lt_of_le_of_lt hl1 (by decide)) (Nat.lt_of_le_of_lt hl2 (by decide))).mono ?_);rintro e0 w ⟨rfl,hS⟩))
  all_goals go_ret
  all_goals first
   |exact ⟨aX (by simp),hS.below⟩
   |exact ⟨aX (by simp),HB1.out.trans ((HB2.out.trans (hS.below.mono HB2.out.size)).mono HB1.out.size)⟩
theorem OO (l:List EV) (A:Option Addr) (c:Nat) (s:ByteArray) (w:World) (hl:bZ w∧og A l w):Calls Tryz.prog 4 #[.slice A l.length c, .string s] w fun x w'=>x= .returned (.bool true)∧Below w.heap.size w w':=by
 have:=OQ l A c (L s) w hl
 rwa [qV] at this
end Go.Proofs.YtdnnkgkondkhfaaGreatDoor
