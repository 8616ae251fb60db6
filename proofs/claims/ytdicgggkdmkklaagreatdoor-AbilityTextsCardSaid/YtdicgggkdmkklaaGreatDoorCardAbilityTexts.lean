/- AbilityTexts: for every input the call returns true and the arguments read as before; the listed package-level variables start as the program text lays them. No other condition. -/
import Derived.Test.YtdicgggkdmkklaaGreatDoorCardAbilityTextsS
namespace Go.Proofs.YtdicgggkdmkklaaGreatDoor
set_option linter.all false
open Go.ChangeShapes Go.WideShapes Go.RowKit Go.Joins
theorem atM:true=Tryz.pinned.checked.prog.looks []:=by kernel_rfl
theorem au6:false=Rows.abilityTextsRow.goesBy Tryz.pinned.checked.prog:=by kernel_rfl
theorem atN:([9].all fun u=> !Tryz.prog.wantsStandIn u)=true:=by kernel_rfl
theorem abilityTexts_holds:Rows.AbilityTextsCardSaid:=
 Claim7.holds_tied_plain_at .later [] [.data, .data, .data, .data, .sentinel, .sentinel, .widerDeep, .data, .data, .pinned] true (true, "05fc3d028adcd31e7f91ba1f9f04230b17001657fc210040677c40a10c13c810") true au7 (fun _ h=>by cases h) (by kernel_rfl) (fun _ h=>by cases h) abilityTexts_row_tie rfl ⟨rfl,rfl⟩ (by kernel_rfl) rfl
  (fun f fn hf hfn=>by
   obtain rfl:f=7:=Option.some.inj ((show Tryz.prog.funcNamed Rows.abilityTextsRow.func=some 7 by kernel_rfl).symm.trans hf) |>.symm
   obtain rfl:fn=Tryz.f7:=(Option.some.inj (Tryz.func7.symm.trans hfn)).symm
   exact ⟨atM,fun j t ht=>by
    rw [Tryz.params7] at ht
    have hm:t∈[9]:=by simpa using Array.mem_of_getElem? ht
    have hall:=atN
    exact (show Tryz.prog.wantsStandIn t=false by simpa using List.all_eq_true.1 hall t hm)⟩)
  au6
end Go.Proofs.YtdicgggkdmkklaaGreatDoor

