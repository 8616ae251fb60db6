/- AbilityParts: for every input the call returns true and the arguments read as before; the listed package-level variables start as the program text lays them. No other condition. -/
import Derived.Test.YtdicgggkdmkklaaGreatDoorCardAbilityPartsS
namespace Go.Proofs.YtdicgggkdmkklaaGreatDoor
set_option linter.all false
open Go.ChangeShapes Go.WideShapes Go.RowKit Go.Joins
theorem atK:true=Tryz.pinned.checked.prog.looks []:=by kernel_rfl
theorem au4:false=Rows.abilityPartsRow.goesBy Tryz.pinned.checked.prog:=by kernel_rfl
theorem atL:([49,31].all fun u=> !Tryz.prog.wantsStandIn u)=true:=by kernel_rfl
theorem abilityParts_holds:Rows.AbilityPartsCardSaid:=
 Claim7.holds_tied_plain_at .later [] [.data, .data, .data, .data, .sentinel, .sentinel, .widerDeep, .data, .data, .pinned] true (true, "05fc3d028adcd31e7f91ba1f9f04230b17001657fc210040677c40a10c13c810") true au5 (fun _ h=>by cases h) (by kernel_rfl) (fun _ h=>by cases h) abilityParts_row_tie rfl ⟨rfl,rfl⟩ (by kernel_rfl) rfl
  (fun f fn hf hfn=>by
   obtain rfl:f=5:=Option.some.inj ((show Tryz.prog.funcNamed Rows.abilityPartsRow.func=some 5 by kernel_rfl).symm.trans hf) |>.symm
   obtain rfl:fn=Tryz.f5:=(Option.some.inj (Tryz.func5.symm.trans hfn)).symm
   exact ⟨atK,fun j t ht=>by
    rw [Tryz.params5] at ht
    have hm:t∈[49,31]:=by simpa using Array.mem_of_getElem? ht
    have hall:=atL
    exact (show Tryz.prog.wantsStandIn t=false by simpa using List.all_eq_true.1 hall t hm)⟩)
  au4
end Go.Proofs.YtdicgggkdmkklaaGreatDoor

