/- AbilityKinds: for every input the call returns true and the arguments read as before; the listed package-level variables start as the program text lays them. No other condition. Here: the row. -/
import Derived.Test.YtdicgggkdmkklaaGreatDoorCardAbilityKindsL
namespace Go.Proofs.YtdicgggkdmkklaaGreatDoor
set_option linter.all false
open Go.ChangeShapes Go.WideShapes Go.RowKit Go.Joins
theorem aqZ:(Rows.abilityKindsRow.inPlace==Tryz.pinned.checked.prog.inPlace 8)=true:=by kernel_rfl
theorem aq8:(Rows.abilityKindsRow.unfollowed==Tryz.pinned.checked.prog.unfollowed 8)=true:=by kernel_rfl
theorem asl:(Rows.abilityKindsRow.recurses==Tryz.pinned.checked.prog.recurses 8)=true:=by kernel_rfl
theorem atq:(Rows.abilityKindsRow.named==Tryz.pinned.checked.prog.varsNamed 8)=true:=by kernel_rfl
theorem anb:joinedFacts Tryz.pinned.checked.prog 8 Tryz.f8 Rows.abilityKindsSpec Rows.abilityKindsRow=true:=by
 unfold joinedFacts
 rw [aqZ,aq8,asl,atq]
 kernel_rfl
theorem awp:Rows.AbilityKindsSaid:=
 OpenClaim.holds_of_wide 8 Tryz.f8 rfl rfl rfl rfl rfl rfl rfl ⟨rfl,rfl,rfl,rfl,rfl⟩ rfl rfl rfl rfl rfl (by kernel_rfl) Tryz.func8 anb
  (of_decide_eq_true (by kernel_rfl)) (by unfold Func.isWrapper;first|(rw [if_pos (by decide +kernel)];kernel_rfl)|(rw [if_neg (by decide +kernel)];exact ⟨rfl,rfl⟩))
  (fun os started H enc _=>aqM os started H enc)
end Go.Proofs.YtdicgggkdmkklaaGreatDoor

