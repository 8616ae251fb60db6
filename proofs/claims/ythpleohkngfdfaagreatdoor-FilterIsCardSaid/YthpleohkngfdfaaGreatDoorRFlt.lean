/- Walks of the reference: package cardgameref13: the small functions. Conditions: bounds. -/
import Derived.Test.YthpleohkngfdfaaGreatDoorRLine
import Derived.Test.YthpleohkngfdfaaGreatDoorRNumB
import Derived.Test.YthpleohkngfdfaaGreatDoorFIs
import Derived.Test.YthpleohkngfdfaaGreatDoorRMask
namespace Go.Proofs.YthpleohkngfdfaaGreatDoor
set_option linter.all false
open Go.ChangeShapes Go.WideShapes Go.RowKit
theorem fBit_any (m i : Nat) (w : World) (hm : m < 2 ^ 31) (hi : i < 100) :
    Calls Tryz.prog 32 #[.int .i64 m, .int .i64 i] w fun e w' => e = .returned (.bool (m.testBit i)) ∧ w = w' := by
  have HB : Hid (m.testBit i = decide (m / 2 ^ i % 2 = 1)) := Lib.hid Nat.testBit_eq_decide_div_mod_eq
  generalize m.testBit i = R at *
  go_enter Tryz.func32, Tryz.ntmps32
  go_wp2
  go_loop [0, 5] (fun v k => ∃ j n : Nat, j ≤ i ∧ n < 2 ^ 31 ∧ k = .int .i64 j ∧ v = .int .i64 n ∧ Hid (m / 2 ^ j = n)) (fun _ k => i - (intOf k).toNat)
  case atStart => exact ⟨0, m, by omega, hm, rfl, rfl, by simp [Hid]⟩
  case round =>
    obtain ⟨j, n, hj, hn, rfl, rfl, HN⟩ := hrel
    by_cases hlt : j < i
    · have HX : Hid (m / 2 ^ (j + 1) = n / 2) := Lib.hid (by rw [Nat.pow_succ, ← Nat.div_div_eq_div_mul, HN.out])
      go_wp2
      go_round
      case rel => exact ⟨j + 1, n / 2, by omega, by omega, by go_num, by go_num, HX⟩
      case measure => simp [intOf]; omega
    · obtain rfl : j = i := by omega
      have HE : Hid (R = decide (n % 2 = 1)) := Lib.hid (by rw [HB.out, HN.out])
      go_wp2
      go_ret
      exact ⟨ret_bool (by rw [HE.out, Bool.eq_iff_iff]; simp; omega), rfl⟩
theorem fZones_any (w : World) : Calls Tryz.prog 27 #[] w (RetTexts w zoneT) := by
  go_enter Tryz.func27, Tryz.ntmps27
  go_wp2
  go_ret
  exact ⟨_, _, rfl, texts_lit zoneT _ rfl (by decide) w _ rfl, (Below.refl _ _).alloc (Nat.le_refl _) _⟩
theorem fWhos_any (w : World) : Calls Tryz.prog 28 #[] w (RetTexts w whoT) := by
  go_enter Tryz.func28, Tryz.ntmps28
  go_wp2
  go_ret
  exact ⟨_, _, rfl, texts_lit whoT _ rfl (by decide) w _ rfl, (Below.refl _ _).alloc (Nat.le_refl _) _⟩
theorem fSelves_any (w : World) : Calls Tryz.prog 29 #[] w (RetTexts w selfT) := by
  go_enter Tryz.func29, Tryz.ntmps29
  go_wp2
  go_ret
  exact ⟨_, _, rfl, texts_lit selfT _ rfl (by decide) w _ rfl, (Below.refl _ _).alloc (Nat.le_refl _) _⟩
theorem fTaps_any (w : World) : Calls Tryz.prog 30 #[] w (RetTexts w tapT) := by
  go_enter Tryz.func30, Tryz.ntmps30
  go_wp2
  go_ret
  exact ⟨_, _, rfl, texts_lit tapT _ rfl (by decide) w _ rfl, (Below.refl _ _).alloc (Nat.le_refl _) _⟩
theorem fSigns_any (w : World) : Calls Tryz.prog 59 #[] w (RetTexts w signT) := by
  go_enter Tryz.func59, Tryz.ntmps59
  go_wp2
  go_ret
  exact ⟨_, _, rfl, texts_lit signT _ rfl (by decide) w _ rfl, (Below.refl _ _).alloc (Nat.le_refl _) _⟩
theorem typesText_bit (i : Nat) (hi : i < 6) : typesText (2 ^ i) = wd typeT i := by
  have : ∀ i, i < 6 → typesText (2 ^ i) = wd typeT i := by decide +kernel
  exact this i hi
theorem fTypeWord_any (i : Nat) (hi : i < 6) (w : World) :
    Calls Tryz.prog 33 #[.int .i64 i] w fun e w' => e = .returned (.string (B (wd typeT i))) ∧ Below w.heap.size w w' := by
  have HT := Lib.hid (typesText_bit i hi)
  generalize wd typeT i = R at *
  go_enter Tryz.func33, Tryz.ntmps33
  go_wp2
  go_loop [3, 4] (fun v k => ∃ j n : Nat, j ≤ i ∧ n ≤ 63 ∧ k = .int .i64 j ∧ v = .int .i64 n ∧ Hid (2 ^ j = n)) (fun _ k => i - (intOf k).toNat)
  case atStart => exact ⟨0, 1, by omega, by omega, rfl, rfl, rfl⟩
  case round =>
    obtain ⟨j, n, hj, hn, rfl, rfl, HN⟩ := hrel
    by_cases hlt : j < i
    · have HX : Hid (2 ^ (j + 1) = n * 2) := Lib.hid (by rw [Nat.pow_succ, HN.out])
      have hn2 : n * 2 ≤ 63 := by
        have h1 := HX.out
        have h2 : 2 ^ (j + 1) ≤ 2 ^ 5 := Nat.pow_le_pow_right (by omega) (by omega)
        omega
      go_wp2
      go_round
      case rel => exact ⟨j + 1, n * 2, by omega, hn2, by go_num, by go_num, HX⟩
      case measure => simp [intOf]; omega
    · obtain rfl : j = i := by omega
      have HE : Hid (typesText n = R) := Lib.hid (by rw [← HN.out, HT.out])
      have hpos : 1 ≤ n := by have := HN.out; have h2 : 0 < 2 ^ j := Nat.pow_pos (by omega); omega
      go_wp2_with (go_at_call 57; (with_reducible refine (rTypesText_any _ hpos hn _).mono ?_); rintro e w2 ⟨rfl, hb⟩)
      go_ret
      exact ⟨ret_str (by rw [HE.out]), hb⟩
theorem fMask_any (m i : Nat) (w : World) (hm : m < 2 ^ 31) (hi : i < 31) :
    Calls Tryz.prog 91 #[.int .i64 m, .int .i64 i] w fun e w' => e = .returned (.int .i64 (qMask m i : Nat)) ∧ w = w' := by
  obtain ⟨R, hR⟩ : ∃ R, qMask m i = R := ⟨_, rfl⟩
  rw [hR]
  unfold qMask at hR
  cases hb : m.testBit i
  · rw [hb] at hR
    have HB := Lib.hid hb
    have HR : Hid (m + 2 ^ i = R) := Lib.hid hR
    clear hb hR
    go_enter Tryz.func91, Tryz.ntmps91
    go_wp2_with (go_at_call 32; (with_reducible refine (fBit_any _ _ _ hm (by omega)).mono ?_); rw [HB.out]; rintro e w1 ⟨rfl, rfl⟩)
    go_loop [5, 6] (fun v k => ∃ j n : Nat, j ≤ i ∧ n ≤ 2147483648 ∧ k = .int .i64 j ∧ v = .int .i64 n ∧ Hid (2 ^ j = n)) (fun _ k => i - (intOf k).toNat)
    case atStart => exact ⟨0, 1, by omega, by omega, rfl, rfl, rfl⟩
    case round =>
      obtain ⟨j, n, hj, hn, rfl, rfl, HN⟩ := hrel
      by_cases hlt : j < i
      · have HX : Hid (2 ^ (j + 1) = n * 2) := Lib.hid (by rw [Nat.pow_succ, HN.out])
        have hn2 : n * 2 ≤ 2147483648 := by
          have h1 := HX.out
          have h2 : 2 ^ (j + 1) ≤ 2 ^ 31 := Nat.pow_le_pow_right (by omega) (by omega)
          omega
        go_wp2
        go_round
        case rel => exact ⟨j + 1, n * 2, by omega, hn2, by go_num, by go_num, HX⟩
        case measure => simp [intOf]; omega
      · obtain rfl : j = i := by omega
        have HE : Hid (m + n = R) := Lib.hid (by rw [← HN.out, HR.out])
        go_wp2
        go_ret
        exact ⟨ret_int (by rw [← HE.out]; omega), rfl⟩
  · rw [hb] at hR
    have HB := Lib.hid hb
    have HR : Hid (m = R) := Lib.hid hR
    clear hb hR
    go_enter Tryz.func91, Tryz.ntmps91
    go_wp2_with (go_at_call 32; (with_reducible refine (fBit_any _ _ _ hm (by omega)).mono ?_); rw [HB.out]; rintro e w1 ⟨rfl, rfl⟩)
    go_ret
    exact ⟨ret_int (by rw [HR.out]), rfl⟩
theorem fBound_any (k n : Int) (w : World) :
    Calls Tryz.prog 18 #[.agg #[.int .i64 k, .int .i64 n]] w fun e w' => e = .returned (.bool (bnd k n)) ∧ Below w.heap.size w w' := by
  go_enter Tryz.func18, Tryz.ntmps18
  go_wp2
  all_goals
    go_ret
    exact ⟨ret_bool (by simp [bnd, btw, *] <;> omega), (Below.refl _ _).alloc (Nat.le_refl _) _⟩
theorem fApart_nat (a b : Nat) (m : Int) (w : World) (h1 : (a : Int) ≤ m) (h2 : (b : Int) ≤ m) (h3 : m ≤ 63) (R : Bool) (HR : Hid (R = (a &&& b == 0))) :
    Calls Tryz.prog 16 #[.int .i64 a, .int .i64 b, .int .i64 m] w fun e w' => e = .returned (.bool R) ∧ w = w' := by
  have g1 : a < 64 := by omega
  have g2 : b < 64 := by omega
  have HZ : Hid (a &&& b = 0 ↔ ∀ j, j < 6 → ¬ (a.testBit j = true ∧ b.testBit j = true)) := Lib.hid (andZero a b g1)
  go_enter Tryz.func16, Tryz.ntmps16
  go_wp2
  go_loop [0, 1, 7] (fun u v k => ∃ j n p : Nat, j ≤ 6 ∧ n < 64 ∧ p < 64 ∧ k = .int .i64 j ∧ u = .int .i64 n ∧ v = .int .i64 p ∧ Hid (a / 2 ^ j = n ∧ b / 2 ^ j = p ∧ ∀ i, i < j → ¬ (a.testBit i = true ∧ b.testBit i = true))) (fun _ _ k => 6 - (intOf k).toNat)
  case atStart => exact ⟨0, a, b, by omega, g1, g2, rfl, rfl, rfl, Lib.hid ⟨by simp, by simp, fun i hi => by omega⟩⟩
  case round =>
    obtain ⟨j, n, p, hj, hn, hp, rfl, rfl, rfl, HN⟩ := hrel
    by_cases hlt : j < 6
    · have hstep : ¬ (n % 2 = 1 ∧ p % 2 = 1) → Hid (a / 2 ^ (j + 1) = n / 2 ∧ b / 2 ^ (j + 1) = p / 2 ∧ ∀ i, i < j + 1 → ¬ (a.testBit i = true ∧ b.testBit i = true)) := fun hh => Lib.hid ⟨by rw [Nat.pow_succ, ← Nat.div_div_eq_div_mul, HN.out.1], by rw [Nat.pow_succ, ← Nat.div_div_eq_div_mul, HN.out.2.1], fun i hi => by
        rcases Nat.lt_or_ge i j with h | h
        · exact HN.out.2.2 i h
        · obtain rfl : i = j := by omega
          rw [testBit_half, testBit_half, HN.out.1, HN.out.2.1]; simpa using hh⟩
      by_cases o1 : n % 2 = 1
      · have t1 : ((n : Int) % 2 == 1) = true := by simp; omega
        by_cases o2 : p % 2 = 1
        · have t2 : ((p : Int) % 2 == 1) = true := by simp; omega
          have HF : Hid (R = false) := Lib.hid (by
            rw [HR.out, beq_eq_false_iff_ne]; intro h
            refine (HZ.out.1 h) j hlt ?_
            rw [testBit_half, testBit_half, HN.out.1, HN.out.2.1]; simp [o1, o2])
          clear hstep o1 o2
          go_wp2
          go_ret
          exact ⟨ret_bool HF.out.symm, rfl⟩
        · have t2 : ((p : Int) % 2 == 1) = false := by simp; omega
          have HX := hstep (by omega)
          clear hstep o1 o2
          go_wp2
          go_round
          case rel => exact ⟨j + 1, n / 2, p / 2, by omega, by omega, by omega, by go_num, by go_num, by go_num, HX⟩
          case measure => simp [intOf]; omega
      · have t1 : ((n : Int) % 2 == 1) = false := by simp; omega
        have HX := hstep (by omega)
        clear hstep o1
        go_wp2
        go_round
        case rel => exact ⟨j + 1, n / 2, p / 2, by omega, by omega, by omega, by go_num, by go_num, by go_num, HX⟩
        case measure => simp [intOf]; omega
    · obtain rfl : j = 6 := by omega
      have HT : Hid (R = true) := Lib.hid (by rw [HR.out, beq_iff_eq]; exact HZ.out.2 HN.out.2.2)
      go_wp2
      go_ret
      exact ⟨ret_bool HT.out.symm, rfl⟩
theorem fApart_any (a b m : Int) (w : World) (h3 : m ≤ 63) :
    Calls Tryz.prog 16 #[.int .i64 a, .int .i64 b, .int .i64 m] w fun e w' => e = .returned (.bool (okMasks a b m)) ∧ w = w' := by
  by_cases h : 0 ≤ a ∧ a ≤ m ∧ 0 ≤ b ∧ b ≤ m
  · obtain ⟨x, rfl⟩ : ∃ x : Nat, a = (x : Int) := ⟨a.toNat, by omega⟩
    obtain ⟨y, rfl⟩ : ∃ y : Nat, b = (y : Int) := ⟨b.toNat, by omega⟩
    refine fApart_nat x y m w h.2.1 h.2.2.2 h3 _ (Lib.hid ?_)
    unfold okMasks btw
    rw [i64_and_nat x y (by omega) (by omega), decide_eq_true h.1, decide_eq_true h.2.1, decide_eq_true h.2.2.1, decide_eq_true h.2.2.2, Bool.eq_iff_iff]
    simp
  · have hF : okMasks a b m = false := by
      cases hh : okMasks a b m with
      | false => rfl
      | true =>
        simp only [okMasks, btw, Bool.and_eq_true, decide_eq_true_eq] at hh
        exact absurd ⟨hh.1.1, hh.1.2, hh.2.1.1, hh.2.1.2⟩ h
    rw [hF]
    have hc : a < 0 ∨ (0 ≤ a ∧ m < a) ∨ (0 ≤ a ∧ a ≤ m ∧ b < 0) ∨ (0 ≤ a ∧ a ≤ m ∧ 0 ≤ b ∧ m < b) := by omega
    clear h hF
    rcases hc with h | ⟨h, h1⟩ | ⟨h, h1, h2⟩ | ⟨h, h1, h2, h4⟩
    all_goals
      go_enter Tryz.func16, Tryz.ntmps16
      go_wp2
      go_ret
      exact ⟨rfl, rfl⟩
end Go.Proofs.YthpleohkngfdfaaGreatDoor
