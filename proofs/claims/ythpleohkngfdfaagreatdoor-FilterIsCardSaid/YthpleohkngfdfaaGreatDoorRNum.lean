/- Walks of the reference: package cardgameref01: Clamp, Text, Number. Conditions: bounds. -/
import Derived.Test.YthpleohkngfdfaaGreatDoorRList
import Derived.Test.YthpleohkngfdfaaGreatDoorNumB
import Derived.Lib.SmallJoins
import Derived.Lib.SlBytesRow
import Derived.Test.YthpleohkngfdfaaGreatDoorRDec
namespace Go.Proofs.YthpleohkngfdfaaGreatDoor
set_option linter.all false
open Go.ChangeShapes Go.WideShapes Go.RowKit
theorem rClamp_any (n : Int) (w : World) :
    Calls Tryz.prog 108 #[.int .i64 n] w fun e w' => e = .returned (.int .i64 (clampI n)) ∧ w = w' := by
  have HD : Hid (clampI n = if n < -1000000 then -1000000 else if 1000000 < n then 1000000 else n) := rfl
  generalize clampI n = R at *
  by_cases h1 : n < -1000000
  · have h2 : ¬ 1000000 < n := by omega
    go_enter Tryz.func108, Tryz.ntmps108
    go_wp2
    go_ret
    exact ⟨ret_int (by rw [HD.out]; omega), rfl⟩
  · by_cases h2 : 1000000 < n
    · go_enter Tryz.func108, Tryz.ntmps108
      go_wp2
      go_ret
      exact ⟨ret_int (by rw [HD.out]; omega), rfl⟩
    · go_enter Tryz.func108, Tryz.ntmps108
      go_wp2
      go_ret
      exact ⟨ret_int (by rw [HD.out]; omega), rfl⟩
/-- The last digit of a number. -/
def dgt (n : Nat) : UInt8 := UInt8.ofNat (48 + n % 10)
def dgS (n : Nat) : ByteArray := B [dgt n]
theorem conv_digit (wx : World) (n : Nat) : (convert 62 9 (.slice (some ⟨wx.heap.size, 0, none⟩) 1 1)).run Tryz.prog (wx.alloc (.cells #[.int .u8 (48 + (n : Int) % 10)] 5)) = .ok (.string (dgS n)) (wx.alloc (.cells #[.int .u8 (48 + (n : Int) % 10)] 5)) := by
  have hb : Lib.Bytes (wx.alloc (.cells #[.int .u8 (48 + (n : Int) % 10)] 5)) wx.heap.size 0 (B [dgt n]) := by
    intro i hi
    obtain rfl : i = 0 := by rw [B_size] at hi; simpa using hi
    rw [Nat.add_zero, cell_of_row _ _ 0 _ _ _ (heap_alloc_new wx _)]
    have : ((B [dgt n])[0]'hi).toNat = 48 + n % 10 := by
      rw [get_l, L_B]; show (dgt n).toNat = _
      unfold dgt
      rw [UInt8.toNat_ofNat']; omega
    rw [this]; simp
  exact Lib.run_convert_whole _ 62 5 9 Tryz.underlying62 Tryz.underlying5 Tryz.underlying9 _ 0 _ hb 1
/-- What is to be set before a number's last digit. -/
def decPre (u : Nat) : Str := if u = 0 then [] else Lib.decDigits u
theorem decPre_first (u : Nat) : Lib.decDigits u = decPre (u / 10) ++ [dgt u] := by
  unfold decPre; rw [Lib.decDigits]; split
  · rw [if_pos (by omega)]; unfold dgt; rw [Nat.mod_eq_of_lt (by omega)]; rfl
  · rw [if_neg (by omega)]; rfl
theorem decPre_step {u : Nat} (h : u ≠ 0) : decPre u = decPre (u / 10) ++ [dgt u] := by
  rw [← decPre_first]; unfold decPre; rw [if_neg h]
set_option maxRecDepth 100000 in
theorem rDigits_any (u : Nat) (w : World) (hu : u < 100000000) :
    Calls Tryz.prog 79 #[.int .u64 u] w fun e w' => e = .returned (.string (B (Lib.decDigits u))) ∧ Below w.heap.size w w' := by
  have h1 : (0 : Int) ≤ u := by omega
  have h2 : (u : Int) < 100000000 := by omega
  have hcv := fun wx => conv_digit wx
  have HR := Lib.hid (decPre_first u)
  generalize Lib.decDigits u = R at *
  go_enter Tryz.func79, Tryz.ntmps79
  go_wp2
  go_loopw [0, 3] (fun v t wr => ∃ k : Nat, ∃ p : Str, k < 100000000 ∧ p.length + k ≤ 100000100 ∧ v = .int .u64 k ∧ t = .string (B p) ∧ Below w.heap.size w wr ∧ Hid (R = decPre k ++ p)) (fun v _ _ => (intOf v).toNat)
  case atStart => exact ⟨u / 10, _, by omega, by simp; omega, by go_num, rfl, (Below.refl _ _).alloc (Nat.le_refl _) _, HR⟩
  case round =>
    obtain ⟨k, p, hk, hp, rfl, rfl, hb, HP⟩ := hrel
    have hsz := hb.size
    by_cases hlt : 0 < k
    · have HX : Hid (R = decPre (k / 10) ++ ([dgt k] ++ p)) := Lib.hid (by rw [HP.out, decPre_step (by omega), List.append_assoc])
      have b0 : (dgS k).size = 1 := by unfold dgS; rw [B_size]; rfl
      have b1 : (dgS k).size + (B p).size ≤ 9223372036854775807 := by rw [b0, B_size]; omega
      clear b0
      go_wp2
      go_roundw
      case rel => exact ⟨k / 10, [dgt k] ++ p, by omega, by simp; omega, by go_num, by rw [← B_append]; rfl, hb.alloc hsz _, HX⟩
      case measure => simp [intOf]; omega
    · obtain rfl : k = 0 := by omega
      have HE : Hid (p = R) := Lib.hid (by rw [HP.out]; rfl)
      go_wp2
      go_ret
      exact ⟨ret_str (by rw [HE.out]), hb⟩
theorem rText_any (n : Int) (w : World) (h0 : -10000000 < n) (h1 : n < 10000000) :
    Calls Tryz.prog 60 #[.int .i64 n] w fun e w' => e = .returned (.string (B (Lib.itoa n))) ∧ Below w.heap.size w w' := by
  by_cases hn : n < 0
  · obtain ⟨m, rfl⟩ : ∃ m : Nat, n = -(m : Int) := ⟨n.natAbs, by omega⟩
    have HI := Lib.hid (Lib.itoa_neg m (by omega))
    have hcv : IntKind.u64.wrap (-(IntKind.u64.wrap (-(m : Int)))) = (m : Int) := by simp [IntKind.wrap, IntKind.signed, IntKind.bits]; omega
    have hl := dec_len 7 m (by omega)
    generalize Lib.itoa (-(m : Int)) = R at *
    go_enter Tryz.func60, Tryz.ntmps60
    go_wp2_with (go_at_call 79; (with_reducible refine (rDigits_any m _ (by omega)).mono ?_); rintro e w1 ⟨rfl, hb⟩)
    go_ret
    exact ⟨ret_str (by rw [HI.out]; exact B_append [45] _), hb⟩
  · obtain ⟨m, rfl⟩ : ∃ m : Nat, n = (m : Int) := ⟨n.toNat, by omega⟩
    have HI := Lib.hid (Lib.itoa_nonneg m)
    generalize Lib.itoa (m : Int) = R at *
    go_enter Tryz.func60, Tryz.ntmps60
    go_wp2_with (go_at_call 79; (with_reducible refine (rDigits_any m _ (by omega)).mono ?_); rintro e w1 ⟨rfl, hb⟩)
    go_ret
    exact ⟨ret_str (by rw [HI.out]), hb⟩
end Go.Proofs.YthpleohkngfdfaaGreatDoor
