/- Walks of the reference: package cardgameref02: Depth, Split, Join. Conditions: bounds on lengths. -/
import Derived.Test.YthpleohkngfdfaaGreatDoorRWord
import Derived.Test.YthpleohkngfdfaaGreatDoorRPure
import Derived.Test.YthpleohkngfdfaaGreatDoorNum
namespace Go.Proofs.YthpleohkngfdfaaGreatDoor
set_option linter.all false
open Go.ChangeShapes Go.WideShapes Go.RowKit
theorem depS_le (l : Str) : depS l ≤ l.length := by
  have : ∀ (l : Str) (n : Nat), l.foldl depStep n ≤ n + l.length := by
    intro l
    induction l with
    | nil => intro n; simp
    | cons x r ih =>
      intro n
      have h1 := ih (depStep n x)
      have h2 : depStep n x ≤ n + 1 := by unfold depStep; split; · omega
                                          · split <;> omega
      simp only [List.foldl_cons, List.length_cons]; omega
  have := this l 0; unfold depS; omega
theorem take_snoc1 {s : Str} {k : Nat} (h : k < s.length) : s.take (k + 1) = s.take k ++ [s.getD k 0] := by
  rw [List.take_succ_eq_append_getElem h]; simp [List.getD, h]
theorem byt_val (c : UInt8) (n : Nat) (hn : n < 256) : (c == UInt8.ofNat n) = (c.toNat == n) := by
  rw [Bool.eq_iff_iff, beq_iff_eq, beq_iff_eq]
  constructor
  · intro h; rw [h, UInt8.toNat_ofNat']; omega
  · intro h; apply UInt8.toNat_inj.1; rw [h, UInt8.toNat_ofNat']; omega
theorem depStep_n (n : Nat) (c : UInt8) : depStep n c = if c.toNat = 40 ∨ c.toNat = 91 then n + 1 else if (c.toNat = 41 ∨ c.toNat = 93) ∧ 0 < n then n - 1 else n := by
  unfold depStep
  have h1 := byt_val c 40 (by omega); have h2 := byt_val c 91 (by omega); have h3 := byt_val c 41 (by omega); have h4 := byt_val c 93 (by omega)
  rw [show (40 : UInt8) = UInt8.ofNat 40 from rfl, show (91 : UInt8) = UInt8.ofNat 91 from rfl, show (41 : UInt8) = UInt8.ofNat 41 from rfl, show (93 : UInt8) = UInt8.ofNat 93 from rfl, h1, h2, h3, h4]
  simp only [Bool.or_eq_true, Bool.and_eq_true, beq_iff_eq, decide_eq_true_eq]
theorem eqn (a : Nat) (b : Int) (h : (a : Int) = b) : ((a : Int) == b) = true := by rw [h]; simp
theorem nen (a : Nat) (b : Int) (h : (a : Int) ≠ b) : ((a : Int) == b) = false := by rw [beq_eq_false_iff_ne]; exact h
set_option maxRecDepth 100000 in
theorem depth_any (s : ByteArray) (m : Nat) (w : World) (hm : m ≤ s.size) (hs : s.size < 1000000000) :
    Calls Tryz.prog 67 #[.string s, .int .i64 m] w fun e w' => e = .returned (.int .i64 (depS ((L s).take m) : Nat)) ∧ w = w' := by
  have hg := get_l s
  have hsl := size_l s
  obtain ⟨R, hR⟩ : ∃ R, depS ((L s).take m) = R := ⟨_, rfl⟩
  rw [hR]
  have HR := Lib.hid hR; clear hR
  have HL := Lib.hid hsl; clear hsl
  go_enter Tryz.func67, Tryz.ntmps67
  go_wp2
  go_loop [5, 6] (fun n i => ∃ k d : Nat, k ≤ m ∧ d ≤ k ∧ i = .int .i64 k ∧ n = .int .i64 d ∧ Hid (depS ((L s).take k) = d)) (fun _ i => m - (intOf i).toNat)
  case atStart => exact ⟨0, 0, by omega, by omega, rfl, rfl, rfl⟩
  case round =>
    obtain ⟨k, d, hk, hdk, rfl, rfl, HD⟩ := hrel
    by_cases hlt : k < m
    · have hks : k < s.size := by omega
      have hst : Hid (depS ((L s).take (k + 1)) = if byt (L s) k = 40 ∨ byt (L s) k = 91 then d + 1 else if (byt (L s) k = 41 ∨ byt (L s) k = 93) ∧ 0 < d then d - 1 else d) :=
        Lib.hid (by rw [take_snoc1 (by rw [HL.out]; exact hks), depS_snoc, HD.out]; exact depStep_n d _)
      have hle := depS_le ((L s).take (k + 1))
      have hc : byt (L s) k = 40 ∨ byt (L s) k = 91 ∨ (byt (L s) k = 41 ∧ 0 < d) ∨ (byt (L s) k = 93 ∧ 0 < d) ∨ (byt (L s) k = 41 ∧ ¬ 0 < d) ∨ (byt (L s) k = 93 ∧ ¬ 0 < d) ∨ (byt (L s) k ≠ 40 ∧ byt (L s) k ≠ 91 ∧ byt (L s) k ≠ 41 ∧ byt (L s) k ≠ 93) := by omega
      clear hle
      rcases hc with h | h | ⟨h, hd⟩ | ⟨h, hd⟩ | ⟨h, hd⟩ | ⟨h, hd⟩ | ⟨h1, h2, h3, h4⟩
      · have t1 := eqn (byt (L s) k) 40 (by omega); have t3 := nen (byt (L s) k) 41 (by omega); have t4 := nen (byt (L s) k) 93 (by omega)
        have HN : Hid (depS ((L s).take (k + 1)) = d + 1) := Lib.hid (by rw [hst.out, if_pos (by omega)])
        clear h hst
        go_wp2
        go_round
        case rel => exact ⟨k + 1, d + 1, by omega, by omega, by go_num, by go_num, HN⟩
        case measure => simp [intOf]; omega
      · have t1 := nen (byt (L s) k) 40 (by omega); have t2 := eqn (byt (L s) k) 91 (by omega); have t3 := nen (byt (L s) k) 41 (by omega); have t4 := nen (byt (L s) k) 93 (by omega)
        have HN : Hid (depS ((L s).take (k + 1)) = d + 1) := Lib.hid (by rw [hst.out, if_pos (by omega)])
        clear h hst
        go_wp2
        go_round
        case rel => exact ⟨k + 1, d + 1, by omega, by omega, by go_num, by go_num, HN⟩
        case measure => simp [intOf]; omega
      · have t1 := nen (byt (L s) k) 40 (by omega); have t2 := nen (byt (L s) k) 91 (by omega); have t3 := eqn (byt (L s) k) 41 (by omega)
        have HN : Hid (depS ((L s).take (k + 1)) = d - 1) := Lib.hid (by rw [hst.out, if_neg (by omega), if_pos (by omega)])
        have hd' : (0 : Int) < d := by omega
        clear h hst
        go_wp2
        go_round
        case rel => exact ⟨k + 1, d - 1, by omega, by omega, by go_num, by rw [show ((d - 1 : Nat) : Int) = (d : Int) - 1 by omega], HN⟩
        case measure => simp [intOf]; omega
      · have t1 := nen (byt (L s) k) 40 (by omega); have t2 := nen (byt (L s) k) 91 (by omega); have t3 := nen (byt (L s) k) 41 (by omega); have t4 := eqn (byt (L s) k) 93 (by omega)
        have HN : Hid (depS ((L s).take (k + 1)) = d - 1) := Lib.hid (by rw [hst.out, if_neg (by omega), if_pos (by omega)])
        have hd' : (0 : Int) < d := by omega
        clear h hst
        go_wp2
        go_round
        case rel => exact ⟨k + 1, d - 1, by omega, by omega, by go_num, by rw [show ((d - 1 : Nat) : Int) = (d : Int) - 1 by omega], HN⟩
        case measure => simp [intOf]; omega
      · have t1 := nen (byt (L s) k) 40 (by omega); have t2 := nen (byt (L s) k) 91 (by omega); have t3 := eqn (byt (L s) k) 41 (by omega)
        have HN : Hid (depS ((L s).take (k + 1)) = d) := Lib.hid (by rw [hst.out, if_neg (by omega), if_neg (by omega)])
        have hd' : ¬ (0 : Int) < d := by omega
        clear h hst
        go_wp2
        go_round
        case rel => exact ⟨k + 1, d, by omega, by omega, by go_num, rfl, HN⟩
        case measure => simp [intOf]; omega
      · have t1 := nen (byt (L s) k) 40 (by omega); have t2 := nen (byt (L s) k) 91 (by omega); have t3 := nen (byt (L s) k) 41 (by omega); have t4 := eqn (byt (L s) k) 93 (by omega)
        have HN : Hid (depS ((L s).take (k + 1)) = d) := Lib.hid (by rw [hst.out, if_neg (by omega), if_neg (by omega)])
        have hd' : ¬ (0 : Int) < d := by omega
        clear h hst
        go_wp2
        go_round
        case rel => exact ⟨k + 1, d, by omega, by omega, by go_num, rfl, HN⟩
        case measure => simp [intOf]; omega
      · have t1 := nen (byt (L s) k) 40 (by omega); have t2 := nen (byt (L s) k) 91 (by omega); have t3 := nen (byt (L s) k) 41 (by omega); have t4 := nen (byt (L s) k) 93 (by omega)
        have HN : Hid (depS ((L s).take (k + 1)) = d) := Lib.hid (by rw [hst.out, if_neg (by omega), if_neg (by omega)])
        clear h1 h2 h3 h4 hst
        go_wp2
        go_round
        case rel => exact ⟨k + 1, d, by omega, by omega, by go_num, rfl, HN⟩
        case measure => simp [intOf]; omega
    · obtain rfl : k = m := by omega
      have HE : Hid (d = R) := Lib.hid (by rw [← HD.out, HR.out])
      go_wp2
      go_ret
      exact ⟨ret_int (by rw [HE.out]), rfl⟩
end Go.Proofs.YthpleohkngfdfaaGreatDoor
