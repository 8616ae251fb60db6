/- AbilityIs: for every input the call returns true and the arguments read as before; the listed package-level variables start as the program text lays them. No other condition. -/
import Derived.Test.YtdicgggkdmkklaaGreatDoorCardAbilityIsS
namespace Go.Proofs.YtdicgggkdmkklaaGreatDoor
set_option linter.all false
open Go.ChangeShapes Go.WideShapes Go.RowKit Go.Joins
theorem ay2:true=Tryz.pinned.checked.prog.looks []:=by kernel_rfl
theorem ay9:false=Rows.abilityIsRow.goesBy Tryz.pinned.checked.prog:=by kernel_rfl
theorem ay3:([39].all fun u=> !Tryz.prog.wantsStandIn u)=true:=by kernel_rfl
theorem abilityIs_holds:Rows.AbilityIsCardSaid:=
 Claim7.holds_tied_plain_at .later [] [.data, .data, .data, .data, .sentinel, .sentinel, .widerDeep, .data, .data, .pinned] true (true, "05fc3d028adcd31e7f91ba1f9f04230b17001657fc210040677c40a10c13c810") true azd (fun _ h=>by cases h) (by kernel_rfl) (fun _ h=>by cases h) abilityIs_row_tie rfl ⟨rfl,rfl⟩ (by kernel_rfl) rfl
  (fun f fn hf hfn=>by
   obtain rfl:f=3:=Option.some.inj ((show Tryz.prog.funcNamed Rows.abilityIsRow.func=some 3 by kernel_rfl).symm.trans hf) |>.symm
   obtain rfl:fn=Tryz.f3:=(Option.some.inj (Tryz.func3.symm.trans hfn)).symm
   exact ⟨ay2,fun j t ht=>by
    rw [Tryz.params3] at ht
    have hm:t∈[39]:=by simpa using Array.mem_of_getElem? ht
    have hall:=ay3
    exact (show Tryz.prog.wantsStandIn t=false by simpa using List.all_eq_true.1 hall t hm)⟩)
  ay9
end Go.Proofs.YtdicgggkdmkklaaGreatDoor

