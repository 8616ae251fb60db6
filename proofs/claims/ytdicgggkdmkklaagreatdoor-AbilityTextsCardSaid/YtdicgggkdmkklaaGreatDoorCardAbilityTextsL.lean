/- AbilityTexts: for every input the call returns true and the arguments read as before; the listed package-level variables start as the program text lays them. No other condition. Here: the law at every start. -/
import Derived.Test.YtdicgggkdmkklaaGreatDoorMVLawT
import Derived.Test.YtdicgggkdmkklaaGreatDoorMVOpen
import Derived.Test.YtdicgggkdmkklaaGreatDoorCards
import Derived.Test.YtdicgggkdmkklaaGreatDoorTie
import Derived.Test.YtdicgggkdmkklaaGreatDoorQ14
import Derived.Lib.SmallJoins
import Derived.ChangeMaps5
namespace Go.Proofs.YtdicgggkdmkklaaGreatDoor
set_option linter.all false
open Go.ChangeShapes Go.WideShapes Go.RowKit Go.Joins
theorem Tryz.laidOut:laidOutB Tryz.prog=true:=by kernel_rfl
theorem Tryz.read0:Tryz.prog.readableRec 9=true:=by kernel_rfl
set_option maxRecDepth 100000 in
theorem atz (os:Os) (started:os.Started) (H:Type) (enc:TypeId × Value→H):
 ReturnsInHanded {} Tryz.checked os 7 .any (fun w args=>(Rows.abilityTextsSpec.pre enc Tryz.prog Tryz.f7 [] false w args∧laidMetH Tryz.prog rM w)∧sizedMet enc Tryz.prog Tryz.f7 (OpenSpec.ofChange Rows.abilityTextsSpec) false w args)
  (Rows.abilityTextsSpec.post enc Tryz.prog Tryz.f7 false true false false):=by
 refine Af (C:=Tryz.checked) (X:=fun w _=>laidMetH Tryz.prog rM w) (fun _ _ _ hh h=>h.of_heap hh) Tryz.own started (by kernel_rfl) Tryz.func7
  (ChangeSpec.witness_shaped (enc:=enc) (C:=Tryz.checked) (os:=os) (X:=fun w _=>laidMetH Tryz.prog rM w) false (World.laidAll Tryz.prog os rM) #[.string ⟨#[]⟩] 8 (World.laidAll_os _ _ _)
   (World.shaped_of_ZipB (by kernel_rfl) (by kernel_rfl)) (by kernel_rfl) (by kernel_rfl) (by kernel_rfl)
   (by rw [MakeChecks.laidMetH_plain _ _ _ (by kernel_rfl)];exact laidMet_laidAll _ (by kernel_rfl) (by kernel_rfl))) ?_
 intro W base args ds gs before hval0 hW _ hL hsh
 have hval:∀(j:Nat) t v,Tryz.f7.params[j]? =some t→args[j]? =some v→Value.okWide Tryz.prog W .any base t v:=hval0
 have hW':=hW
 obtain ⟨p,q,hA0,hV,rfl,_,_⟩:=hW
 have hA:DataW.TrodAll enc Tryz.prog W 0 (fun _=>true) true Tryz.f7.params.toList args.toList ds p:=hA0
 rw [Tryz.params7] at hA hval
 obtain ⟨v0,d0,rfl,rfl,h0⟩:=trodAll_one hA
 obtain ⟨rfl,rfl⟩:=trodVars_none hV
 have g0:=h0
 obtain ⟨x0,rfl,_,rfl,hz0⟩:=Go.ChangeMaps.open_string Tryz.underlying9 (hval 0 9 v0 rfl rfl) h0
 (try simp only [List.append_nil,List.nil_append] at hW')
 have hlaid:aew W:=avk hL hsh
 refine (avh x0 W hlaid).mono fun e W' ⟨he,hb⟩=> ?_
 subst he
 exact ⟨_,rfl,_,_,_,[],[],[],hW',trodAll_mk1 (shut_bool Tryz.underlying4 _),trodAll_mk1 (Below.trod Tryz.laidOut Tryz.read0 (by decide +kernel) g0 hb (by simp)),rfl,hb.frame _,fun h=>by cases h⟩
end Go.Proofs.YtdicgggkdmkklaaGreatDoor

