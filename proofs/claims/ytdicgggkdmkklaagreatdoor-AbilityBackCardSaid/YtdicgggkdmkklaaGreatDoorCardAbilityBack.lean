/- AbilityBack: for every input the call returns true and the arguments read as before; the listed package-level variables start as the program text lays them. No other condition. -/
import Derived.Test.YtdicgggkdmkklaaGreatDoorCardAbilityBackS
namespace Go.Proofs.YtdicgggkdmkklaaGreatDoor
set_option linter.all false
open Go.ChangeShapes Go.WideShapes Go.RowKit Go.Joins
theorem au2:true=Tryz.pinned.checked.prog.looks []:=by kernel_rfl
theorem ave:false=Rows.abilityBackRow.goesBy Tryz.pinned.checked.prog:=by kernel_rfl
theorem au3:([39].all fun u=> !Tryz.prog.wantsStandIn u)=true:=by kernel_rfl
theorem abilityBack_holds:Rows.AbilityBackCardSaid:=
 Claim7.holds_tied_plain_at .later [] [.data, .data, .data, .data, .sentinel, .sentinel, .widerDeep, .data, .data, .pinned] true (true, "05fc3d028adcd31e7f91ba1f9f04230b17001657fc210040677c40a10c13c810") true avf (fun _ h=>by cases h) (by kernel_rfl) (fun _ h=>by cases h) abilityBack_row_tie rfl ⟨rfl,rfl⟩ (by kernel_rfl) rfl
  (fun f fn hf hfn=>by
   obtain rfl:f=6:=Option.some.inj ((show Tryz.prog.funcNamed Rows.abilityBackRow.func=some 6 by kernel_rfl).symm.trans hf) |>.symm
   obtain rfl:fn=Tryz.f6:=(Option.some.inj (Tryz.func6.symm.trans hfn)).symm
   exact ⟨au2,fun j t ht=>by
    rw [Tryz.params6] at ht
    have hm:t∈[39]:=by simpa using Array.mem_of_getElem? ht
    have hall:=au3
    exact (show Tryz.prog.wantsStandIn t=false by simpa using List.all_eq_true.1 hall t hm)⟩)
  ave
end Go.Proofs.YtdicgggkdmkklaaGreatDoor

