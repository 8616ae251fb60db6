/- AbilityBack: for every input the call returns true and the arguments read as before; the listed package-level variables start as the program text lays them. No other condition. Here: the row. -/
import Derived.Test.YtdicgggkdmkklaaGreatDoorCardAbilityBackL
namespace Go.Proofs.YtdicgggkdmkklaaGreatDoor
set_option linter.all false
open Go.ChangeShapes Go.WideShapes Go.RowKit Go.Joins
theorem atG:(Rows.abilityBackRow.inPlace==Tryz.pinned.checked.prog.inPlace 6)=true:=by kernel_rfl
theorem atH:(Rows.abilityBackRow.unfollowed==Tryz.pinned.checked.prog.unfollowed 6)=true:=by kernel_rfl
theorem atI:(Rows.abilityBackRow.recurses==Tryz.pinned.checked.prog.recurses 6)=true:=by kernel_rfl
theorem atJ:(Rows.abilityBackRow.named==Tryz.pinned.checked.prog.varsNamed 6)=true:=by kernel_rfl
theorem atE:joinedFacts Tryz.pinned.checked.prog 6 Tryz.f6 Rows.abilityBackSpec Rows.abilityBackRow=true:=by
 unfold joinedFacts
 rw [atG,atH,atI,atJ]
 kernel_rfl
theorem avf:Rows.AbilityBackSaid:=
 OpenClaim.holds_of_wide 6 Tryz.f6 rfl rfl rfl rfl rfl rfl rfl ⟨rfl,rfl,rfl,rfl,rfl⟩ rfl rfl rfl rfl rfl (by kernel_rfl) Tryz.func6 atE
  (of_decide_eq_true (by kernel_rfl)) (by unfold Func.isWrapper;first|(rw [if_pos (by decide +kernel)];kernel_rfl)|(rw [if_neg (by decide +kernel)];exact ⟨rfl,rfl⟩))
  (fun os started H enc _=>atF os started H enc)
end Go.Proofs.YtdicgggkdmkklaaGreatDoor

