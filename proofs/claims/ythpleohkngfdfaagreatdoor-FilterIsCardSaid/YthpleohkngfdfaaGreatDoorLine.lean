/- Walks: the words of package line. -/
import Derived.Test.YthpleohkngfdfaaGreatDoorProg
import Derived.Test.YthpleohkngfdfaaGreatDoorPure
import Derived.WalkKit
import Derived.WalkSpells
import Derived.Outline
import Derived.Lib.Hide
namespace Go.Proofs.YthpleohkngfdfaaGreatDoor
set_option linter.all false
open Go.ChangeShapes Go.WideShapes Go.RowKit
def superW (i : Nat) : ByteArray := B (superT.getD i [])
def typeW (i : Nat) : ByteArray := B (typeT.getD i [])
theorem superWord_any (i : Nat) (hi : i < 2) (w : World) :
    Calls Tryz.prog 44 #[.int .i64 i] w fun e w' => e = .returned (.string (superW i)) ∧ w = w' := by
  have i0 : ∀ w, (Instr.index 79 (.agg #[.string ⟨#[98, 97, 115, 105, 99]⟩, .string ⟨#[117, 110, 105, 113, 117, 101]⟩]) (.int .i64 i)).run Tryz.prog w = .ok (.string (superW i)) w := by
    intro w; rcases i with _ | _ | i
    · kernel_rfl
    · kernel_rfl
    · omega
  go_enter Tryz.func44, Tryz.ntmps44
  go_wp2
  go_ret
  exact ⟨rfl, rfl⟩
theorem typeWord_any (i : Nat) (hi : i < 6) (w : World) :
    Calls Tryz.prog 45 #[.int .i64 i] w fun e w' => e = .returned (.string (typeW i)) ∧ w = w' := by
  have i0 : ∀ w, (Instr.index 80 (.agg #[.string ⟨#[99, 114, 101, 97, 116, 117, 114, 101]⟩, .string ⟨#[105, 110, 115, 116, 97, 110, 116]⟩, .string ⟨#[114, 105, 116, 117, 97, 108]⟩, .string ⟨#[114, 101, 108, 105, 99]⟩, .string ⟨#[99, 104, 97, 114, 109]⟩, .string ⟨#[108, 97, 110, 100]⟩]) (.int .i64 i)).run Tryz.prog w = .ok (.string (typeW i)) w := by
    intro w; rcases i with _ | _ | _ | _ | _ | _ | i
    · kernel_rfl
    · kernel_rfl
    · kernel_rfl
    · kernel_rfl
    · kernel_rfl
    · kernel_rfl
    · omega
  go_enter Tryz.func45, Tryz.ntmps45
  go_wp2
  go_ret
  exact ⟨rfl, rfl⟩
theorem bitSuper_any (s : ByteArray) (w : World) :
    Calls Tryz.prog 43 #[.string s, .int .i64 2, .func (.func 44) #[] #[]] w fun e w' => e = .returned (.int .i64 (bitFrom superT 0 (L s) : Nat)) ∧ w = w' := by
  go_enter Tryz.func43, Tryz.ntmps43
  go_wp2
  go_step3
  go_wp2
  go_step3
  go_wp2
  go_loop [9] (fun i => ∃ k : Nat, k ≤ 2 ∧ i = .int .i64 k ∧ Hid (bitFrom (superT.drop k) k (L s) = bitFrom superT 0 (L s))) (fun i => 2 - (intOf i).toNat)
  case atStart => exact ⟨0, by omega, rfl, rfl⟩
  case round =>
    obtain ⟨k, hk, rfl, hb⟩ := hrel
    by_cases hlt : k < 2
    · go_wp2_with (go_at_call 44; refine (superWord_any _ hlt _).mono ?_; rintro e w' ⟨rfl, rfl⟩)
      · rename_i ht
        have hb' : Hid (bitFrom (superT.drop (k + 1)) (k + 1) (L s) = bitFrom superT 0 (L s)) := by
          exact (bitFrom_miss (T := superT) (k := k) hlt (by simpa [superW, L_toList] using ht)).symm.trans hb.out
        go_round
        case rel => exact ⟨k + 1, by omega, by go_num, hb'⟩
        case measure => simp [intOf]; omega
      · rename_i ht
        rw [Exit.noGoto_ret]
        go_ret
        refine ⟨ret_int ?_, rfl⟩
        rw [wrap_pow (by omega), ← hb.out, bitFrom_hit (T := superT) (k := k) hlt (by simpa [superW, L_toList] using ht)]
    · go_wp2
      go_ret
      obtain rfl : k = 2 := by omega
      exact ⟨ret_int (by rw [← hb.out]; rfl), rfl⟩
theorem bitType_any (s : ByteArray) (w : World) :
    Calls Tryz.prog 43 #[.string s, .int .i64 6, .func (.func 45) #[] #[]] w fun e w' => e = .returned (.int .i64 (bitFrom typeT 0 (L s) : Nat)) ∧ w = w' := by
  go_enter Tryz.func43, Tryz.ntmps43
  go_wp2
  go_step3
  go_wp2
  go_step3
  go_wp2
  go_loop [9] (fun i => ∃ k : Nat, k ≤ 6 ∧ i = .int .i64 k ∧ Hid (bitFrom (typeT.drop k) k (L s) = bitFrom typeT 0 (L s))) (fun i => 6 - (intOf i).toNat)
  case atStart => exact ⟨0, by omega, rfl, rfl⟩
  case round =>
    obtain ⟨k, hk, rfl, hb⟩ := hrel
    by_cases hlt : k < 6
    · go_wp2_with (go_at_call 45; refine (typeWord_any _ hlt _).mono ?_; rintro e w' ⟨rfl, rfl⟩)
      · rename_i ht
        have hb' : Hid (bitFrom (typeT.drop (k + 1)) (k + 1) (L s) = bitFrom typeT 0 (L s)) := by
          exact (bitFrom_miss (T := typeT) (k := k) hlt (by simpa [typeW, L_toList] using ht)).symm.trans hb.out
        go_round
        case rel => exact ⟨k + 1, by omega, by go_num, hb'⟩
        case measure => simp [intOf]; omega
      · rename_i ht
        rw [Exit.noGoto_ret]
        go_ret
        refine ⟨ret_int ?_, rfl⟩
        rw [wrap_pow (by omega), ← hb.out, bitFrom_hit (T := typeT) (k := k) hlt (by simpa [typeW, L_toList] using ht)]
    · go_wp2
      go_ret
      obtain rfl : k = 6 := by omega
      exact ⟨ret_int (by rw [← hb.out]; rfl), rfl⟩
end Go.Proofs.YthpleohkngfdfaaGreatDoor
