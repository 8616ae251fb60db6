/- Plain words: numerals. No program in sight. -/
import Derived.Test.YthpleohkngfdfaaDoorPure
import Derived.Lib.ItoaMem
namespace Go.Proofs.YthpleohkngfdfaaDoor
set_option linter.all false
def clampI (n : Int) : Int := if n < -1000000 then -1000000 else if 1000000 < n then 1000000 else n
theorem dig_nat {k : Nat} (h : k < 10) : (UInt8.ofNat (48 + k)).toNat = 48 + k := by
  rw [UInt8.toNat_ofNat']; omega
theorem decDigits_mem : ∀ (u : Nat), ∀ x ∈ Lib.decDigits u, 48 ≤ x.toNat ∧ x.toNat ≤ 57 := by
  intro u
  induction u using Nat.strongRecOn with
  | _ u ih =>
    intro x hx
    by_cases h : u < 10
    · rw [Lib.decDigits, dif_pos h] at hx
      obtain rfl := List.mem_singleton.1 hx
      rw [dig_nat h]; omega
    · rw [Lib.decDigits, dif_neg h] at hx
      rcases List.mem_append.1 hx with hx | hx
      · exact ih _ (by omega) x hx
      · obtain rfl := List.mem_singleton.1 hx
        rw [dig_nat (Nat.mod_lt _ (by omega))]; omega
theorem decDigits_ne (u : Nat) : Lib.decDigits u ≠ [] := by
  rw [Lib.decDigits]; split <;> simp
/- Numerals. -/
def decVal (l : Str) : Nat := l.foldl (fun a c => a * 10 + (c.toNat - 48)) 0
def isDig (c : UInt8) : Bool := decide (48 ≤ c.toNat) && decide (c.toNat ≤ 57)
/-- The number of the game with a text, as the reference finds it. -/
def rdNum (s : Str) : Option Int :=
  if (if byt s 0 == 45 then s.drop 1 else s) = [] ∨ 7 < (if byt s 0 == 45 then s.drop 1 else s).length ∨ (if byt s 0 == 45 then s.drop 1 else s).all isDig = false then none
  else if clampI (if byt s 0 == 45 then -(decVal (s.drop 1) : Int) else decVal s) = (if byt s 0 == 45 then -(decVal (s.drop 1) : Int) else decVal s) ∧ Lib.itoa (if byt s 0 == 45 then -(decVal (s.drop 1) : Int) else decVal s) = s
    then some (if byt s 0 == 45 then -(decVal (s.drop 1) : Int) else decVal s) else none
theorem decVal_snoc (l : Str) (c : UInt8) : decVal (l ++ [c]) = decVal l * 10 + (c.toNat - 48) := by unfold decVal; rw [List.foldl_append]; rfl
theorem decVal_dec : ∀ (u : Nat), decVal (Lib.decDigits u) = u := by
  intro u
  induction u using Nat.strongRecOn with
  | _ u ih =>
    by_cases h : u < 10
    · rw [Lib.decDigits, dif_pos h]; show 0 * 10 + _ = _; rw [dig_nat h]; omega
    · rw [Lib.decDigits, dif_neg h, decVal_snoc, ih (u / 10) (by omega), dig_nat (Nat.mod_lt _ (by omega))]; omega
theorem dec_len : ∀ (k u : Nat), u < 10 ^ (k + 1) → (Lib.decDigits u).length ≤ k + 1
  | 0, u, h => by rw [Lib.decDigits, dif_pos (by omega)]; simp
  | k + 1, u, h => by
    by_cases h' : u < 10
    · rw [Lib.decDigits, dif_pos h']; simp
    · rw [Lib.decDigits, dif_neg h', List.length_append]
      have := dec_len k (u / 10) (by rw [Nat.pow_succ] at h; omega)
      simp; omega
theorem rdNum_itoa (n : Nat) (h : n ≤ 1000000) : rdNum (Lib.itoa (n : Nat)) = some (n : Int) := by
  rw [Lib.itoa_nonneg]
  have h1 := decDigits_mem n
  have h0 : (byt (Lib.decDigits n) 0 == 45) = false := by
    cases hd : Lib.decDigits n with
    | nil => rfl
    | cons x r =>
      have := h1 x (by rw [hd]; simp)
      show (x.toNat == 45) = false
      rw [beq_eq_false_iff_ne]; omega
  have hl := dec_len 6 n (by omega)
  have hv := decVal_dec n
  have hall : (Lib.decDigits n).all isDig = true := List.all_eq_true.2 fun c hc => by
    have := h1 c hc
    unfold isDig; rw [decide_eq_true this.1, decide_eq_true this.2]; rfl
  unfold rdNum
  rw [h0]
  simp only [Bool.false_eq_true, if_false, hv, hall]
  rw [if_neg (by
    intro hh; rcases hh with hh | hh | hh
    · exact decDigits_ne n hh
    · omega
    · cases hh), if_pos ⟨by unfold clampI; rw [if_neg (by omega), if_neg (by omega)], Lib.itoa_nonneg n⟩]
end Go.Proofs.YthpleohkngfdfaaDoor
