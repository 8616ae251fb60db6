/- EffectParses: for every input the call returns true and the arguments read as before; the listed package-level variables start as the program text lays them. No other condition. Here: the row. -/
import Derived.Test.YtdnnkgkondkhfaaGreatDoorCardEffectParsesL
namespace Go.Proofs.YtdnnkgkondkhfaaGreatDoor
set_option linter.all false
open Go.ChangeShapes Go.WideShapes Go.RowKit Go.Joins
theorem aaG:(Rows.effectParsesRow.inPlace==Tryz.pinned.checked.prog.inPlace 3)=true:=by kernel_rfl
theorem aa2:(Rows.effectParsesRow.unfollowed==Tryz.pinned.checked.prog.unfollowed 3)=true:=by kernel_rfl
theorem aa3:(Rows.effectParsesRow.recurses==Tryz.pinned.checked.prog.recurses 3)=true:=by kernel_rfl
theorem aa4:(Rows.effectParsesRow.named==Tryz.pinned.checked.prog.varsNamed 3)=true:=by kernel_rfl
theorem aaE:joinedFacts Tryz.pinned.checked.prog 3 Tryz.f3 Rows.effectParsesSpec Rows.effectParsesRow=true:=by
 unfold joinedFacts
 rw [aaG,aa2,aa3,aa4]
 kernel_rfl
theorem Lm:Rows.EffectParsesSaid:=
 OpenClaim.holds_of_wide 3 Tryz.f3 rfl rfl rfl rfl rfl rfl rfl ⟨rfl,rfl,rfl,rfl,rfl⟩ rfl rfl rfl rfl rfl (by kernel_rfl) Tryz.func3 aaE
  (of_decide_eq_true (by kernel_rfl)) (by unfold Func.isWrapper;first|(rw [if_pos (by decide +kernel)];kernel_rfl)|(rw [if_neg (by decide +kernel)];exact ⟨rfl,rfl⟩))
  (fun os started H enc _=>IE os started H enc)
end Go.Proofs.YtdnnkgkondkhfaaGreatDoor

