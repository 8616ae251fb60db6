/- EffectLists: for every input the call returns true and the arguments read as before; the listed package-level variables start as the program text lays them. No other condition. Here: the row. -/
import Derived.Test.YtdnnkgkondkhfaaGreatDoorCardEffectListsL
namespace Go.Proofs.YtdnnkgkondkhfaaGreatDoor
set_option linter.all false
open Go.ChangeShapes Go.WideShapes Go.RowKit Go.Joins
theorem aa8:(Rows.effectListsRow.inPlace==Tryz.pinned.checked.prog.inPlace 4)=true:=by kernel_rfl
theorem abn:(Rows.effectListsRow.unfollowed==Tryz.pinned.checked.prog.unfollowed 4)=true:=by kernel_rfl
theorem abo:(Rows.effectListsRow.recurses==Tryz.pinned.checked.prog.recurses 4)=true:=by kernel_rfl
theorem abC:(Rows.effectListsRow.named==Tryz.pinned.checked.prog.varsNamed 4)=true:=by kernel_rfl
theorem aa5:joinedFacts Tryz.pinned.checked.prog 4 Tryz.f4 Rows.effectListsSpec Rows.effectListsRow=true:=by
 unfold joinedFacts
 rw [aa8,abn,abo,abC]
 kernel_rfl
theorem Nw:Rows.EffectListsSaid:=
 OpenClaim.holds_of_wide 4 Tryz.f4 rfl rfl rfl rfl rfl rfl rfl ⟨rfl,rfl,rfl,rfl,rfl⟩ rfl rfl rfl rfl rfl (by kernel_rfl) Tryz.func4 aa5
  (of_decide_eq_true (by kernel_rfl)) (by unfold Func.isWrapper;first|(rw [if_pos (by decide +kernel)];kernel_rfl)|(rw [if_neg (by decide +kernel)];exact ⟨rfl,rfl⟩))
  (fun os started H enc _=>Jh os started H enc)
end Go.Proofs.YtdnnkgkondkhfaaGreatDoor

