/- AbilityParts: for every input the call returns true and the arguments read as before; the listed package-level variables start as the program text lays them. No other condition. Here: the row. -/
import Derived.Test.YtdicgggkdmkklaaGreatDoorCardAbilityPartsL
namespace Go.Proofs.YtdicgggkdmkklaaGreatDoor
set_option linter.all false
open Go.ChangeShapes Go.WideShapes Go.RowKit Go.Joins
theorem atu:(Rows.abilityPartsRow.inPlace==Tryz.pinned.checked.prog.inPlace 5)=true:=by kernel_rfl
theorem atv:(Rows.abilityPartsRow.unfollowed==Tryz.pinned.checked.prog.unfollowed 5)=true:=by kernel_rfl
theorem atw:(Rows.abilityPartsRow.recurses==Tryz.pinned.checked.prog.recurses 5)=true:=by kernel_rfl
theorem atx:(Rows.abilityPartsRow.named==Tryz.pinned.checked.prog.varsNamed 5)=true:=by kernel_rfl
theorem atr:joinedFacts Tryz.pinned.checked.prog 5 Tryz.f5 Rows.abilityPartsSpec Rows.abilityPartsRow=true:=by
 unfold joinedFacts
 rw [atu,atv,atw,atx]
 kernel_rfl
theorem au5:Rows.AbilityPartsSaid:=
 OpenClaim.holds_of_wide 5 Tryz.f5 rfl rfl rfl rfl rfl rfl rfl ⟨rfl,rfl,rfl,rfl,rfl⟩ rfl rfl rfl rfl rfl (by kernel_rfl) Tryz.func5 atr
  (of_decide_eq_true (by kernel_rfl)) (by unfold Func.isWrapper;first|(rw [if_pos (by decide +kernel)];kernel_rfl)|(rw [if_neg (by decide +kernel)];exact ⟨rfl,rfl⟩))
  (fun os started H enc _=>att os started H enc)
end Go.Proofs.YtdicgggkdmkklaaGreatDoor

