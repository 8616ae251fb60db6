/- Plain words: a bit set in a mask; masks without a common bit. No program in sight. -/
import Derived.Test.YthpleohkngfdfaaGreatDoorPure
namespace Go.Proofs.YthpleohkngfdfaaGreatDoor
set_option linter.all false
/- Masks. -/
def qMask (m i : Nat) : Nat := if m.testBit i then m else m + 2 ^ i
theorem qMask_or {x i : Nat} (hx : x < 2 ^ 31) (hi : i < 31) : qMask x i = x ||| 2 ^ i := by
  unfold qMask; split
  · rename_i h
    apply Nat.eq_of_testBit_eq; intro j
    rw [Nat.testBit_or, Nat.testBit_two_pow]
    by_cases e : i = j
    · subst e; simp [h]
    · simp [e]
  · rename_i h
    have hp : 2 ^ i < 2 ^ 31 := Nat.pow_lt_pow_right (by omega) hi
    have hand : BitVec.ofNat 32 x &&& BitVec.ofNat 32 (2 ^ i) = 0#32 := by
      apply BitVec.eq_of_toNat_eq
      rw [BitVec.toNat_and, BitVec.toNat_ofNat, BitVec.toNat_ofNat, Nat.mod_eq_of_lt (by omega), Nat.mod_eq_of_lt (by omega)]
      show x &&& 2 ^ i = 0
      apply Nat.eq_of_testBit_eq; intro j
      rw [Nat.testBit_and, Nat.testBit_two_pow, Nat.zero_testBit]
      by_cases e : i = j
      · subst e; simp [h]
      · simp [e]
    have := congrArg BitVec.toNat (BitVec.add_eq_or_of_and_eq_zero _ _ hand)
    rw [BitVec.toNat_add, BitVec.toNat_or, BitVec.toNat_ofNat, BitVec.toNat_ofNat, Nat.mod_eq_of_lt (a := x) (by omega), Nat.mod_eq_of_lt (a := 2 ^ i) (by omega), Nat.mod_eq_of_lt (by omega)] at this
    exact this
theorem andZero (a b : Nat) (ha : a < 64) : a &&& b = 0 ↔ ∀ j, j < 6 → ¬ (a.testBit j = true ∧ b.testBit j = true) := by
  constructor
  · intro h j _ ⟨h1, h2⟩
    have := congrArg (fun n => n.testBit j) h
    simp [h1, h2] at this
  · intro h
    apply Nat.eq_of_testBit_eq; intro j
    rw [Nat.testBit_and, Nat.zero_testBit]
    by_cases hj : j < 6
    · have := h j hj
      cases h1 : a.testBit j <;> cases h2 : b.testBit j <;> simp_all
    · rw [Nat.testBit_lt_two_pow (Nat.lt_of_lt_of_le ha (show 2 ^ 6 ≤ 2 ^ j from Nat.pow_le_pow_right (by omega) (by omega)))]; rfl
theorem testBit_half (a k : Nat) : a.testBit k = decide (a / 2 ^ k % 2 = 1) := Nat.testBit_eq_decide_div_mod_eq
end Go.Proofs.YthpleohkngfdfaaGreatDoor
