/- EffectParses: for every input the call returns true and the arguments read as before; the listed package-level variables start as the program text lays them. No other condition. -/
import Derived.Test.YtdnnkgkondkhfaaGreatDoorCardEffectParsesS
namespace Go.Proofs.YtdnnkgkondkhfaaGreatDoor
set_option linter.all false
open Go.ChangeShapes Go.WideShapes Go.RowKit Go.Joins
theorem adP:true=Tryz.pinned.checked.prog.looks []:=by kernel_rfl
theorem adT:false=Rows.effectParsesRow.goesBy Tryz.pinned.checked.prog:=by kernel_rfl
theorem adQ:([9].all fun u=> !Tryz.prog.wantsStandIn u)=true:=by kernel_rfl
theorem effectParses_holds:Rows.EffectParsesCardSaid:=
 Claim7.holds_tied_plain_at .later [] [.data, .data, .data, .data, .sentinel, .sentinel, .widerDeep, .data, .pinned] true (true, "75eb6217deaf0b1844cb24fbeb4644a9794edeaef4d883a7b9098f040cba6129") true Lm (fun _ h=>by cases h) (by kernel_rfl) (fun _ h=>by cases h) effectParses_row_tie rfl ⟨rfl,rfl⟩ (by kernel_rfl) rfl
  (fun f fn hf hfn=>by
   obtain rfl:f=3:=Option.some.inj ((show Tryz.prog.funcNamed Rows.effectParsesRow.func=some 3 by kernel_rfl).symm.trans hf) |>.symm
   obtain rfl:fn=Tryz.f3:=(Option.some.inj (Tryz.func3.symm.trans hfn)).symm
   exact ⟨adP,fun j t ht=>by
    rw [Tryz.params3] at ht
    have hm:t∈[9]:=by simpa using Array.mem_of_getElem? ht
    have hall:=adQ
    exact (show Tryz.prog.wantsStandIn t=false by simpa using List.all_eq_true.1 hall t hm)⟩)
  adT
end Go.Proofs.YtdnnkgkondkhfaaGreatDoor

