/- EffectLists: for every input the call returns true and the arguments read as before; the listed package-level variables start as the program text lays them. No other condition. -/
import Derived.Test.YtdnnkgkondkhfaaGreatDoorCardEffectListsS
namespace Go.Proofs.YtdnnkgkondkhfaaGreatDoor
set_option linter.all false
open Go.ChangeShapes Go.WideShapes Go.RowKit Go.Joins
theorem adR:true=Tryz.pinned.checked.prog.looks []:=by kernel_rfl
theorem adU:false=Rows.effectListsRow.goesBy Tryz.pinned.checked.prog:=by kernel_rfl
theorem adS:([41,9].all fun u=> !Tryz.prog.wantsStandIn u)=true:=by kernel_rfl
theorem effectLists_holds:Rows.EffectListsCardSaid:=
 Claim7.holds_tied_plain_at .later [] [.data, .data, .data, .data, .sentinel, .sentinel, .widerDeep, .data, .pinned] true (true, "75eb6217deaf0b1844cb24fbeb4644a9794edeaef4d883a7b9098f040cba6129") true Nw (fun _ h=>by cases h) (by kernel_rfl) (fun _ h=>by cases h) effectLists_row_tie rfl ⟨rfl,rfl⟩ (by kernel_rfl) rfl
  (fun f fn hf hfn=>by
   obtain rfl:f=4:=Option.some.inj ((show Tryz.prog.funcNamed Rows.effectListsRow.func=some 4 by kernel_rfl).symm.trans hf) |>.symm
   obtain rfl:fn=Tryz.f4:=(Option.some.inj (Tryz.func4.symm.trans hfn)).symm
   exact ⟨adR,fun j t ht=>by
    rw [Tryz.params4] at ht
    have hm:t∈[41,9]:=by simpa using Array.mem_of_getElem? ht
    have hall:=adS
    exact (show Tryz.prog.wantsStandIn t=false by simpa using List.all_eq_true.1 hall t hm)⟩)
  adU
end Go.Proofs.YtdnnkgkondkhfaaGreatDoor

