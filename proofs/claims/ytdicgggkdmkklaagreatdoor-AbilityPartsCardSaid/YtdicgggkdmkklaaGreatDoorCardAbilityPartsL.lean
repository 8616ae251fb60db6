/- AbilityParts: for every input the call returns true and the arguments read as before; the listed package-level variables start as the program text lays them. No other condition. Here: the law at every start. -/
import Derived.Test.YtdicgggkdmkklaaGreatDoorMVParts
import Derived.Test.YtdicgggkdmkklaaGreatDoorMVOpen
import Derived.Test.YtdicgggkdmkklaaGreatDoorCards
import Derived.Test.YtdicgggkdmkklaaGreatDoorTie
import Derived.Test.YtdicgggkdmkklaaGreatDoorQ14
import Derived.Lib.SmallJoins
import Derived.ChangeMaps5
namespace Go.Proofs.YtdicgggkdmkklaaGreatDoor
set_option linter.all false
open Go.ChangeShapes Go.WideShapes Go.RowKit Go.Joins
theorem Tryz.laidOut:laidOutB Tryz.prog=true:=by kernel_rfl
theorem Tryz.read0:Tryz.prog.readableRec 49=true:=by kernel_rfl
theorem Tryz.read1:Tryz.prog.readableRec 31=true:=by kernel_rfl
set_option maxRecDepth 100000 in
theorem att (os:Os) (started:os.Started) (H:Type) (enc:TypeId × Value→H):
 ReturnsInHanded {} Tryz.checked os 5 .any (fun w args=>(Rows.abilityPartsSpec.pre enc Tryz.prog Tryz.f5 [] false w args∧laidMetH Tryz.prog rM w)∧sizedMet enc Tryz.prog Tryz.f5 (OpenSpec.ofChange Rows.abilityPartsSpec) false w args)
  (Rows.abilityPartsSpec.post enc Tryz.prog Tryz.f5 false true false false):=by
 refine Af (C:=Tryz.checked) (X:=fun w _=>laidMetH Tryz.prog rM w) (fun _ _ _ hh h=>h.of_heap hh) Tryz.own started (by kernel_rfl) Tryz.func5
  (ChangeSpec.witness_shaped (enc:=enc) (C:=Tryz.checked) (os:=os) (X:=fun w _=>laidMetH Tryz.prog rM w) false (World.laidAll Tryz.prog os rM) #[.agg #[.bool false, .bool false, .int .i64 0, .int .i64 0, .int .i64 0, .int .i64 0, .int .i64 0, .int .i64 0, .int .i64 0, .string ⟨#[]⟩, .int .i64 0, .int .i64 0, .int .i64 0, .int .i64 0, .int .i64 0, .int .i64 0, .int .i64 0, .int .i64 0], .agg #[.int .i64 0, .int .i64 0, .int .i64 0, .int .i64 0, .int .i64 0, .int .i64 0, .int .i64 0, .bool false, .bool false, .int .i64 0]] 8 (World.laidAll_os _ _ _)
   (World.shaped_of_ZipB (by kernel_rfl) (by kernel_rfl)) (by kernel_rfl) (by kernel_rfl) (by kernel_rfl)
   (by rw [MakeChecks.laidMetH_plain _ _ _ (by kernel_rfl)];exact laidMet_laidAll _ (by kernel_rfl) (by kernel_rfl))) ?_
 intro W base args ds gs before hval0 hW _ hL hsh
 have hval:∀(j:Nat) t v,Tryz.f5.params[j]? =some t→args[j]? =some v→Value.okWide Tryz.prog W .any base t v:=hval0
 have hW':=hW
 obtain ⟨p,q,hA0,hV,rfl,_,_⟩:=hW
 have hA:DataW.TrodAll enc Tryz.prog W 0 (fun _=>true) true Tryz.f5.params.toList args.toList ds p:=hA0
 rw [Tryz.params5] at hA hval
 obtain ⟨v0,v1,d0,d1,p0,p1,rfl,rfl,rfl,h0,h1⟩:=trodAll_two hA
 obtain ⟨rfl,rfl⟩:=trodVars_none hV
 have g0:=h0
 have g1:=h1
 obtain ⟨x0,rfl,rfl⟩:=aBz (hval 0 49 v0 rfl rfl) h0
 obtain ⟨x1,rfl,rfl⟩:=aBy (hval 1 31 v1 rfl rfl) h1
 (try simp only [List.append_nil,List.nil_append] at hW')
 have hlaid:aew W:=avk hL hsh
 refine (avg x0 x1 W hlaid).mono fun e W' ⟨he,hb⟩=> ?_
 subst he
 exact ⟨_,rfl,_,_,_,[],[],[],hW',trodAll_mk1 (shut_bool Tryz.underlying4 _),trodAll_mk2 (Below.trod Tryz.laidOut Tryz.read0 (by decide +kernel) g0 hb (by simp)) (Below.trod Tryz.laidOut Tryz.read1 (by decide +kernel) g1 hb (by simp)),rfl,hb.frame _,fun h=>by cases h⟩
end Go.Proofs.YtdicgggkdmkklaaGreatDoor

