/- AbilityIs: for every input the call returns true and the arguments read as before; the listed package-level variables start as the program text lays them. No other condition. Here: the law at every start. -/
import Derived.Test.YtdicgggkdmkklaaGreatDoorMVRText
import Derived.Test.YtdicgggkdmkklaaGreatDoorMVOpen
import Derived.Test.YtdicgggkdmkklaaGreatDoorCards
import Derived.Test.YtdicgggkdmkklaaGreatDoorTie
import Derived.Test.YtdicgggkdmkklaaGreatDoorQ14
import Derived.Lib.SmallJoins
import Derived.ChangeMaps5
namespace Go.Proofs.YtdicgggkdmkklaaGreatDoor
set_option linter.all false
open Go.ChangeShapes Go.WideShapes Go.RowKit Go.Joins
theorem Tryz.laidOut:laidOutB Tryz.prog=true:=by kernel_rfl
theorem Tryz.read0:Tryz.prog.readableRec 39=true:=by kernel_rfl
set_option maxRecDepth 100000 in
theorem ayO (os:Os) (started:os.Started) (H:Type) (enc:TypeId × Value→H):
 ReturnsInHanded {} Tryz.checked os 3 .any (fun w args=>(Rows.abilityIsSpec.pre enc Tryz.prog Tryz.f3 [] false w args∧laidMetH Tryz.prog rM w)∧sizedMet enc Tryz.prog Tryz.f3 (OpenSpec.ofChange Rows.abilityIsSpec) false w args)
  (Rows.abilityIsSpec.post enc Tryz.prog Tryz.f3 false true false false):=by
 refine Af (C:=Tryz.checked) (X:=fun w _=>laidMetH Tryz.prog rM w) (fun _ _ _ hh h=>h.of_heap hh) Tryz.own started (by kernel_rfl) Tryz.func3
  (ChangeSpec.witness_shaped (enc:=enc) (C:=Tryz.checked) (os:=os) (X:=fun w _=>laidMetH Tryz.prog rM w) false (World.laidAll Tryz.prog os rM) #[.agg #[.int .i64 0, .int .i64 0, .int .i64 0, .int .i64 0, .int .i64 0, .int .i64 0, .int .i64 0, .int .i64 0, .string ⟨#[]⟩, .int .i64 0, .int .i64 0, .int .i64 0, .int .i64 0, .int .i64 0, .int .i64 0, .int .i64 0, .int .i64 0, .slice none 0 0, .int .i64 0, .int .i64 0, .int .i64 0, .int .i64 0, .int .i64 0, .int .i64 0, .int .i64 0, .bool false, .bool false, .int .i64 0, .bool false, .int .i64 0, .int .i64 0, .int .i64 0, .int .i64 0, .int .i64 0, .int .i64 0, .int .i64 0, .int .i64 0, .int .i64 0, .string ⟨#[]⟩, .int .i64 0, .int .i64 0, .int .i64 0, .int .i64 0, .int .i64 0, .int .i64 0, .int .i64 0, .int .i64 0, .bool false, .slice none 0 0, .slice none 0 0, .int .i64 0, .int .i64 0, .int .i64 0, .int .i64 0, .int .i64 0, .int .i64 0, .int .i64 0, .int .i64 0, .int .i64 0, .string ⟨#[]⟩, .int .i64 0, .int .i64 0, .int .i64 0, .int .i64 0, .int .i64 0, .int .i64 0, .int .i64 0, .int .i64 0, .int .i64 0, .int .i64 0, .int .i64 0, .int .i64 0]] 8 (World.laidAll_os _ _ _)
   (World.shaped_of_ZipB (by kernel_rfl) (by kernel_rfl)) (by kernel_rfl) (by kernel_rfl) (by kernel_rfl)
   (by rw [MakeChecks.laidMetH_plain _ _ _ (by kernel_rfl)];exact laidMet_laidAll _ (by kernel_rfl) (by kernel_rfl))) ?_
 intro W base args ds gs before hval0 hW _ hL hsh
 have hval:∀(j:Nat) t v,Tryz.f3.params[j]? =some t→args[j]? =some v→Value.okWide Tryz.prog W .any base t v:=hval0
 have hW':=hW
 obtain ⟨p,q,hA0,hV,rfl,_,_⟩:=hW
 have hA:DataW.TrodAll enc Tryz.prog W 0 (fun _=>true) true Tryz.f3.params.toList args.toList ds p:=hA0
 rw [Tryz.params3] at hA hval
 obtain ⟨v0,d0,rfl,rfl,h0⟩:=trodAll_one hA
 obtain ⟨rfl,rfl⟩:=trodVars_none hV
 have g0:=h0
 obtain ⟨x0,xm0,xs0,xe0,rfl,arL,hp0⟩:=aBx (hval 0 39 v0 rfl rfl) h0
 (try simp only [List.append_nil,List.nil_append] at hW')
 have hlaid:aew W:=avk hL hsh
 refine (azg x0 xm0 xs0 xe0 W ⟨hlaid,arL⟩).mono fun e W' ⟨he,hb⟩=> ?_
 subst he
 exact ⟨_,rfl,_,_,_,_,_,_,hW',trodAll_mk1 (shut_bool Tryz.underlying4 _),trodAll_mk1 (Below.trod Tryz.laidOut Tryz.read0 (by decide +kernel) g0 hb hp0),rfl,hb.frame _,fun h=>by cases h⟩
end Go.Proofs.YtdicgggkdmkklaaGreatDoor

