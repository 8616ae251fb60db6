/- AbilityIs: for every input the call returns true and the arguments read as before; the listed package-level variables start as the program text lays them. No other condition. Here: the row. -/
import Derived.Test.YtdicgggkdmkklaaGreatDoorCardAbilityIsL
namespace Go.Proofs.YtdicgggkdmkklaaGreatDoor
set_option linter.all false
open Go.ChangeShapes Go.WideShapes Go.RowKit Go.Joins
theorem ayT:(Rows.abilityIsRow.inPlace==Tryz.pinned.checked.prog.inPlace 3)=true:=by kernel_rfl
theorem ayU:(Rows.abilityIsRow.unfollowed==Tryz.pinned.checked.prog.unfollowed 3)=true:=by kernel_rfl
theorem ay0:(Rows.abilityIsRow.recurses==Tryz.pinned.checked.prog.recurses 3)=true:=by kernel_rfl
theorem ay1:(Rows.abilityIsRow.named==Tryz.pinned.checked.prog.varsNamed 3)=true:=by kernel_rfl
theorem ayN:joinedFacts Tryz.pinned.checked.prog 3 Tryz.f3 Rows.abilityIsSpec Rows.abilityIsRow=true:=by
 unfold joinedFacts
 rw [ayT,ayU,ay0,ay1]
 kernel_rfl
theorem azd:Rows.AbilityIsSaid:=
 OpenClaim.holds_of_wide 3 Tryz.f3 rfl rfl rfl rfl rfl rfl rfl ⟨rfl,rfl,rfl,rfl,rfl⟩ rfl rfl rfl rfl rfl (by kernel_rfl) Tryz.func3 ayN
  (of_decide_eq_true (by kernel_rfl)) (by unfold Func.isWrapper;first|(rw [if_pos (by decide +kernel)];kernel_rfl)|(rw [if_neg (by decide +kernel)];exact ⟨rfl,rfl⟩))
  (fun os started H enc _=>ayO os started H enc)
end Go.Proofs.YtdicgggkdmkklaaGreatDoor

