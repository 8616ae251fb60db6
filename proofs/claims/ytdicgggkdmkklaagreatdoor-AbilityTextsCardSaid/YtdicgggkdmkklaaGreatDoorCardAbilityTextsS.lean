/- AbilityTexts: for every input the call returns true and the arguments read as before; the listed package-level variables start as the program text lays them. No other condition. Here: the row. -/
import Derived.Test.YtdicgggkdmkklaaGreatDoorCardAbilityTextsL
namespace Go.Proofs.YtdicgggkdmkklaaGreatDoor
set_option linter.all false
open Go.ChangeShapes Go.WideShapes Go.RowKit Go.Joins
theorem atA:(Rows.abilityTextsRow.inPlace==Tryz.pinned.checked.prog.inPlace 7)=true:=by kernel_rfl
theorem atB:(Rows.abilityTextsRow.unfollowed==Tryz.pinned.checked.prog.unfollowed 7)=true:=by kernel_rfl
theorem atC:(Rows.abilityTextsRow.recurses==Tryz.pinned.checked.prog.recurses 7)=true:=by kernel_rfl
theorem atD:(Rows.abilityTextsRow.named==Tryz.pinned.checked.prog.varsNamed 7)=true:=by kernel_rfl
theorem aty:joinedFacts Tryz.pinned.checked.prog 7 Tryz.f7 Rows.abilityTextsSpec Rows.abilityTextsRow=true:=by
 unfold joinedFacts
 rw [atA,atB,atC,atD]
 kernel_rfl
theorem au7:Rows.AbilityTextsSaid:=
 OpenClaim.holds_of_wide 7 Tryz.f7 rfl rfl rfl rfl rfl rfl rfl ⟨rfl,rfl,rfl,rfl,rfl⟩ rfl rfl rfl rfl rfl (by kernel_rfl) Tryz.func7 aty
  (of_decide_eq_true (by kernel_rfl)) (by unfold Func.isWrapper;first|(rw [if_pos (by decide +kernel)];kernel_rfl)|(rw [if_neg (by decide +kernel)];exact ⟨rfl,rfl⟩))
  (fun os started H enc _=>atz os started H enc)
end Go.Proofs.YtdicgggkdmkklaaGreatDoor

