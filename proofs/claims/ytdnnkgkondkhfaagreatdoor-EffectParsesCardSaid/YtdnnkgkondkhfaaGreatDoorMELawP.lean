/- EffectParses: the program reads as the reference. Conditions: LaidM. -/
import Derived.Test.YtdnnkgkondkhfaaGreatDoorQ13
import Derived.Test.YtdnnkgkondkhfaaGreatDoorMERRead
set_option linter.all false
set_option maxRecDepth 100000
set_option maxHeartbeats 16000000
namespace Go.Proofs.YtdnnkgkondkhfaaGreatDoor
attribute [local irreducible] wpList Code.wp Calls
open Go.ChangeShapes Go.WideShapes Go.RowKit
theorem Nz (s:Str) (w:World) (hl:bZ w):Calls Tryz.prog 3 #[.string (B s)] w fun x w'=>x= .returned (.bool true)∧Below w.heap.size w w':=by
 have hsz:(B s).size=s.length:=bC s
 have hS:=St.start hl xA
 by_cases hs:1000<s.length
 ·have hz:decide ((s.length:Int) > 1000)=true:=by simp;omega
  have hz':decide (1000<(s.length:Int))=true:=by simp;omega
  go_enter Tryz.func3,Tryz.ntmps3
  go_wp2_with (first|(go_at_call 11;(with_reducible refine (St.call hS fun hl=>wQ _ hl).mono ?_);rintro e w ⟨rfl,hS⟩))
  all_goals go_ret
  all_goals exact ⟨aX (by simp),hS.below⟩
 ·have hz:decide ((s.length:Int) > 1000)=false:=by simp;omega
  have hz':decide (1000<(s.length:Int))=false:=by simp;omega
  have hs8:s.length<100000000:=by omega
  have HSA:=Lib.hid (fun w hl=>Aj s hs8 w hl)
  have HSB:=Lib.hid (fun w hl=>CV s hs8 w hl)
  cases hp:fC s with
  |none=>
   have HP:=Lib.hid hp
   have HEQ:Hid (wZ zeroE zeroE=true):=Lib.hid ((xg _ _).2 rfl)
   clear hp
   go_enter Tryz.func3,Tryz.ntmps3
   go_wp2_with (first|fail|((refine aF rfl ?_);(first|((with_reducible refine aC (T:=35) ?_);(first|(refine iC rfl hS rfl rfl (by repeat constructor) ?_));(try simp only [ah,ak,au,ay,aA]))|((with_reducible refine aW ?_);(first|(refine aJ 35 rfl hS rfl _ jd ?_;intro g w hS));(try simp only [ah,ak,au,ay,aA]))|((with_reducible refine aN ?_);(first|(refine gJ rfl hS rfl rfl rfl (by repeat constructor) ?_;intro w hS));(try simp only [ah,ak,au,ay,aA]))))|((fail_if_success (with_reducible refine aB ?_));(first|(go_at_call 12;(with_reducible refine (St.call hS fun hl=>Tz s hs8 HP _ hl).mono ?_);rintro e w ⟨rfl,hS⟩)|(go_at_call 11;(with_reducible refine (St.call hS fun hl=>wQ _ hl).mono ?_);rintro e w ⟨rfl,hS⟩)|(go_at_call 13;(refine (HSB.out _ hS.laid).mono ?_);rintro e0 w h0;rcases FX h0 hS with ⟨_,rfl,hS⟩|⟨e9,v9,X9,h9,_⟩<;>clear h0<;>(first|(rw [HP.out] at h9;cases h9;done)|skip))|(go_at_call 14;(refine (St.call hS fun hl=>NZ zeroE zeroE ⟨none,0,0⟩ ⟨none,0,0⟩ true HEQ _ ⟨YZ _,YZ _⟩).mono ?_);rintro e0 w ⟨rfl,hS⟩))))
   all_goals go_ret
   all_goals exact ⟨aX (by simp),hS.below⟩
  |some x=>
   have HP:=Lib.hid hp
   have HEQ:Hid (wZ x x=true):=Lib.hid ((xg _ _).2 rfl)
   clear hp
   go_enter Tryz.func3,Tryz.ntmps3
   go_wp2_with (first|fail|((refine aF rfl ?_);(first|((with_reducible refine aC (T:=35) ?_);(first|(refine iC rfl hS rfl rfl (by repeat constructor) ?_));(try simp only [ah,ak,au,ay,aA]))|((with_reducible refine aW ?_);(first|(refine aJ 35 rfl hS rfl _ jd ?_;intro g w hS));(try simp only [ah,ak,au,ay,aA]))|((with_reducible refine aN ?_);(first|(refine gJ rfl hS rfl rfl rfl (by repeat constructor) ?_;intro w hS));(try simp only [ah,ak,au,ay,aA]))))|((fail_if_success (with_reducible refine aB ?_));(first|(go_at_call 11;(with_reducible refine (St.call hS fun hl=>wQ _ hl).mono ?_);rintro e w ⟨rfl,hS⟩)|(go_at_call 12;(refine (HSA.out _ hS.laid).mono ?_);rintro e0 w h0;rcases FX h0 hS with ⟨h9,_,_⟩|⟨x1,v1,X1,h1,rfl,hS,hm1,(rfl|⟨gm1,cm1,rfl⟩)⟩<;>clear h0<;>(first|(rw [HP.out] at h9;cases h9;done)|(rw [HP.out] at h1;obtain rfl:=Option.some.inj h1;have SL:=Lib.hid hm1;clear hm1;(try simp only [List.nil_append,List.cons_append] at hS))))|(go_at_call 13;(refine (HSB.out _ hS.laid).mono ?_);rintro e0 w h0;rcases FX h0 hS with ⟨h9,_,_⟩|⟨x2,v2,X2,h2,rfl,hS,hm2,(rfl|⟨gm2,cm2,rfl⟩)⟩<;>clear h0<;>(first|(rw [HP.out] at h9;cases h9;done)|(rw [HP.out] at h2;obtain rfl:=Option.some.inj h2;have EI:=Lib.hid hm2;clear hm2;(try simp only [List.nil_append,List.cons_append] at hS))))|(go_at_call 14;(refine (St.call hS fun hl=>NZ x x v1 v2 true HEQ _ ⟨(by first|exact SL.out.nil _|exact SL.out.one (hS.row (by repeat constructor))),(by first|exact EI.out.nil _|exact EI.out.one (hS.row (by repeat constructor)))⟩).mono ?_);rintro e0 w ⟨rfl,hS⟩))))
   all_goals go_ret
   all_goals exact ⟨aX (by simp),hS.below⟩
theorem Ny (s:ByteArray) (w:World) (hl:bZ w):Calls Tryz.prog 3 #[.string s] w fun x w'=>x= .returned (.bool true)∧Below w.heap.size w w':=by
 have:=Nz (L s) w hl
 rwa [qV] at this
end Go.Proofs.YtdnnkgkondkhfaaGreatDoor
