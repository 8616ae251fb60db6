/- Walks: package num. -/
import Derived.Test.YthpleohkngfdfaaGreatDoorWord
namespace Go.Proofs.YthpleohkngfdfaaGreatDoor
set_option linter.all false
open Go.ChangeShapes Go.WideShapes Go.RowKit
theorem info_int : (Tryz.prog.info? 3).map (fun i => (i.zero, i.size, i.bytes)) = some (some (.int .i64 0), 1, 8) := by kernel_rfl
theorem info_str : (Tryz.prog.info? 9).map (fun i => (i.zero, i.size, i.bytes)) = some (some (.string ByteArray.empty), 1, 16) := by kernel_rfl
set_option maxRecDepth 100000 in
/-- Bits returns the indexes of the bits of a mask. -/
theorem bits_any (m : Nat) (w : World) (hm : m < 2 ^ 31) :
    Calls Tryz.prog 50 #[.int .i64 m] w fun e w' => ∃ v, e = .returned v ∧ w'.ownsRow w.heap.size 3 1 v (bitsUpto m 31).length (intCells (bitsUpto m 31)) ∧ Below w.heap.size w w' := by
  obtain ⟨i0, hi, hz0, hz1, hz2⟩ := info_parts info_int
  go_enter Tryz.func50, Tryz.ntmps50
  go_wp2
  go_loopw [3, 8] (fun v i wr => ∃ k : Nat, k ≤ 31 ∧ i = .int .i64 k ∧ wr.ownsRow w.heap.size 3 1 v (bitsUpto m k).length (intCells (bitsUpto m k)) ∧ Below w.heap.size w wr) (fun _ i _ => 31 - (intOf i).toNat)
  case atStart => exact ⟨0, by omega, rfl, World.ownsRow_nil _ _ _ _, Below.refl _ _⟩
  case round =>
    obtain ⟨k, hk, rfl, hown, hb⟩ := hrel
    have hle := bitsUpto_le m k
    have hsz := hb.size
    by_cases hlt : k < 31
    · cases hbit : m.testBit k
      · have ht : (bits .and .i64 ((m : Int) / 2 ^ k) 1 == 1) = false := (bit_test m k hm).trans hbit
        have HX := Lib.hid (bitsUpto_no hbit); clear hbit
        go_wp2
        go_roundw
        case rel => exact ⟨k + 1, by omega, by go_num, by rw [HX.out]; exact hown, hb⟩
        case measure => simp [intOf]; omega
      · have ht : (bits .and .i64 ((m : Int) / 2 ^ k) 1 == 1) = true := (bit_test m k hm).trans hbit
        have HX := Lib.hid (bitsUpto_yes hbit); clear hbit
        have hm1 : (bitsUpto m k).length + 1 ≤ maxLen := by unfold maxLen; omega
        have hm2 : ((bitsUpto m k).length + 1) * 8 ≤ 140737488355328 := by omega
        go_wp2_with (at_builtin; refine wpList_append_own _ rfl (.tmp 16) (.tmp 18) 56 rfl w.heap.size 3 i0 (.int .i64 0) 1 8 Tryz.underlying56 hi hz0 hz1 hz2 rfl (by decide) _ _ _ rfl (hown.alloc _) ⟨_, 0, none⟩ 1 1 [.int .i64 k] rfl rfl (cell_one_new _ _ _) ?c2 hm1 hm2 ?c5 ?_)
        case c2 => intro u hu; simp at hu; subst hu; rfl
        case c5 => simp; omega
        intro v' w1 hown1 hgrow1 _
        have hlen : (bitsUpto m k).length + 1 = (bitsUpto m (k + 1)).length := by rw [HX.out]; simp
        rw [intCells_snoc, ← HX.out, hlen] at hown1
        have hb1 : Below w.heap.size w w1 := (hb.alloc (by omega) _).grown hgrow1 (by simp; omega) (fun g hg => (hown.lt g hg).1)
        clear hm1 hm2 hlen ht hgrow1
        go_wp2
        go_roundw
        case rel => exact ⟨k + 1, by omega, by go_num, hown1, hb1⟩
        case measure => simp [intOf]; omega
    · go_wp2
      go_ret
      obtain rfl : k = 31 := by omega
      exact ⟨_, rfl, hown, hb⟩
end Go.Proofs.YthpleohkngfdfaaGreatDoor
