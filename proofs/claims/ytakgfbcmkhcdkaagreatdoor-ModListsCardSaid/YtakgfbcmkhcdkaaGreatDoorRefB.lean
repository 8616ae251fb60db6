/- Walks of the reference: package cardgameref01: Number. Conditions: the text is shorter than 100 million bytes. Walks of the reference: package cardgameref13: the small functions. Conditions: bounds. Plain words: how the reference reads a word. No program in sight. Walks of the reference: package cardgameref13: words and bounds. Conditions: bounds. -/
import Derived.Test.YtakgfbcmkhcdkaaGreatDoorRefA
import Derived.Test.YtakgfbcmkhcdkaaGreatDoorMFIs
import Derived.Test.YtakgfbcmkhcdkaaGreatDoorBase
import Derived.Deep.RegionHeld3
namespace Go.Proofs.YtakgfbcmkhcdkaaGreatDoor
set_option linter.all false
open Go.ChangeShapes Go.WideShapes Go.RowKit
theorem drop_snoc {s : Str} {a k : Nat} (ha : a ≤ k) (h : k < s.length) : (s.take (k + 1)).drop a = (s.take k).drop a ++ [s.getD k 0] := by
  rw [take_snoc1 h, List.drop_append_of_le_length (by rw [List.length_take]; omega)]
theorem not_dig {l : Str} {a k : Nat} (ha : a ≤ k) (hk : k < l.length) (h : isDig (l.getD k 0) = false) : (l.drop a).all isDig = false := by
  cases hh : (l.drop a).all isDig with
  | false => rfl
  | true =>
    have hm : l.getD k 0 ∈ l.drop a := by
      rw [List.mem_iff_getElem]
      refine ⟨k - a, by rw [List.length_drop]; omega, ?_⟩
      rw [List.getElem_drop]; simp [List.getD, show a + (k - a) = k by omega, hk]
    rw [List.all_eq_true.1 hh _ hm] at h; cases h
def rdOf (r s : Str) (v : Int) : Option Int := if r = [] ∨ 7 < r.length ∨ r.all isDig = false then none else if clampI v = v ∧ Lib.itoa v = s then some v else none
theorem rd_neg {s : Str} (h : (byt s 0 == 45) = true) : rdNum s = rdOf (s.drop 1) s (-((decVal (s.drop 1) : Nat) : Int)) := by
  unfold rdNum rdOf; rw [h]; rfl
theorem rd_pos {s : Str} (h : (byt s 0 == 45) = false) : rdNum s = rdOf (s.drop 0) s ((decVal (s.drop 0) : Nat) : Int) := by
  unfold rdNum rdOf; rw [h, List.drop_zero]; rfl
theorem rd_none {r s : Str} {v : Int} (h : r = [] ∨ 7 < r.length ∨ r.all isDig = false) : rdOf r s v = none := if_pos h
theorem rd_some {r s : Str} {v : Int} (h : ¬ (r = [] ∨ 7 < r.length ∨ r.all isDig = false)) (h2 : clampI v = v ∧ Lib.itoa v = s) : rdOf r s v = some v := by unfold rdOf; rw [if_neg h, if_pos h2]
theorem rd_bad {r s : Str} {v : Int} (h2 : ¬ (clampI v = v ∧ Lib.itoa v = s)) : rdOf r s v = none := by
  unfold rdOf; split
  · rfl
  · first | rfl | rw [if_neg h2]
theorem clampI_in {v : Int} (h : clampI v = v) : -1000000 ≤ v ∧ v ≤ 1000000 := by
  unfold clampI at h; split at h
  · omega
  · split at h <;> omega
theorem pow10_le {j : Nat} (h : j ≤ 7) : 10 ^ j ≤ 10000000 := Nat.le_trans (Nat.pow_le_pow_right (by omega) h) (by decide)
set_option maxRecDepth 100000 in
theorem rNumber_no (s : ByteArray) (w : World) (hs : s.size < 100000000) (h0 : 0 < s.size) (hb : (((byt (L s) 0 : Nat) : Int) == 45) = false) (R : Option Int) (HD : Hid (R = rdOf ((L s).drop 0) (L s) ((decVal ((L s).drop 0) : Nat) : Int))) :
    Calls Tryz.prog 143 #[.string s] w fun e w' => e = .returned (numRet R) ∧ Below w.heap.size w w' := by
  have hg := get_l s
  have HL := Lib.hid (size_l s)
  by_cases h1 : s.size = 0
  · have HN : Hid (R = none) := Lib.hid (by rw [HD.out]; exact rd_none (.inl (List.drop_eq_nil_of_le (by rw [HL.out]; omega))))
    have t1 := eqn s.size 0 (by omega)
    clear h1
    go_enter Tryz.func143, Tryz.ntmps143
    go_wp2
    all_goals
      go_ret2
      exact ⟨ret_val (by rw [HN.out]; rfl), Below.refl _ _⟩
  have t1 := nen s.size 0 (by omega)
  by_cases h2 : 7 < s.size
  · have HN : Hid (R = none) := Lib.hid (by rw [HD.out]; exact rd_none (.inr (.inl (by rw [List.length_drop, HL.out]; omega))))
    have t2 : (7 : Int) < s.size := by omega
    clear h1
    go_enter Tryz.func143, Tryz.ntmps143
    go_wp2
    go_ret2
    exact ⟨ret_val (by rw [HN.out]; rfl), Below.refl _ _⟩
  have t2 : ¬ (7 : Int) < s.size := by omega
  have h1' : 0 < s.size := by omega
  clear h1
  go_enter Tryz.func143, Tryz.ntmps143
  go_wp2
  go_loop [5, 6] (fun v i => ∃ k n : Nat, 0 ≤ k ∧ k ≤ s.size ∧ n < 10 ^ (k - 0) ∧ i = .int .i64 k ∧ v = .int .i64 n ∧ Hid ((((L s).take k).drop 0).all isDig = true ∧ decVal (((L s).take k).drop 0) = n)) (fun _ i => s.size - (intOf i).toNat)
  case atStart => exact ⟨0, 0, by omega, by omega, by decide, rfl, rfl, Lib.hid ⟨by rw [List.drop_eq_nil_of_le (by rw [List.length_take]; omega)]; rfl, by rw [List.drop_eq_nil_of_le (by rw [List.length_take]; omega)]; rfl⟩⟩
  case round =>
    obtain ⟨k, n, hak, hk, hn, rfl, rfl, HK⟩ := hrel
    have hp := pow10_le (show k - 0 ≤ 7 by omega)
    by_cases hlt : k < s.size
    · by_cases hd : (48 : Int) ≤ (byt (L s) k : Nat) ∧ ((byt (L s) k : Nat) : Int) ≤ 57
      · obtain ⟨d1, d2⟩ := hd
        have hdig : isDig ((L s).getD k 0) = true := by
          show (decide (48 ≤ byt (L s) k) && decide (byt (L s) k ≤ 57)) = true
          rw [decide_eq_true (by omega), decide_eq_true (by omega)]; rfl
        have HX : Hid ((((L s).take (k + 1)).drop 0).all isDig = true ∧ decVal (((L s).take (k + 1)).drop 0) = n * 10 + (byt (L s) k - 48)) := Lib.hid ⟨by
          rw [drop_snoc hak (by rw [HL.out]; exact hlt), List.all_append, HK.out.1, List.all_cons, hdig]; rfl, by
          rw [drop_snoc hak (by rw [HL.out]; exact hlt), decVal_snoc, HK.out.2]; rfl⟩
        have hpw : 10 ^ (k + 1 - 0) = 10 ^ (k - 0) * 10 := by rw [show k + 1 - 0 = k - 0 + 1 by omega, Nat.pow_succ]
        have hn2 : n * 10 + (byt (L s) k - 48) < 10 ^ (k + 1 - 0) := by rw [hpw]; omega
        have hlim : n ≤ 9999999 := by omega
        have HN2 := Lib.hid hn2
        clear hdig hpw hn hp hn2
        go_wp2
        go_round
        case rel => exact ⟨k + 1, n * 10 + (byt (L s) k - 48), by omega, by omega, HN2.out, by go_num, by rw [show ((n * 10 + (byt (L s) k - 48) : Nat) : Int) = (n : Int) * 10 + (((byt (L s) k : Nat) : Int) - 48) by omega], HX⟩
        case measure => simp [intOf]; omega
      · have HN : Hid (R = none) := Lib.hid (by
          rw [HD.out]; refine rd_none (.inr (.inr (not_dig hak (by rw [HL.out]; exact hlt) ?_)))
          show (decide (48 ≤ byt (L s) k) && decide (byt (L s) k ≤ 57)) = false
          rw [Bool.and_eq_false_iff, decide_eq_false_iff_not, decide_eq_false_iff_not]; omega)
        have hd2 : ((byt (L s) k : Nat) : Int) < 48 ∨ 57 < ((byt (L s) k : Nat) : Int) := by omega
        clear hd hn hp
        rcases hd2 with hd | hd
        all_goals
          go_wp2
          go_ret2
          exact ⟨ret_val (by rw [HN.out]; rfl), Below.refl _ _⟩
    · obtain rfl : k = s.size := by omega
      have hT : (L s).take s.size = L s := List.take_of_length_le (by rw [HL.out]; exact Nat.le_refl _)
      have HK2 : Hid (((L s).drop 0).all isDig = true ∧ decVal ((L s).drop 0) = n) := Lib.hid (by have := HK.out; rwa [hT] at this)
      have hgood : Hid (¬ ((L s).drop 0 = [] ∨ 7 < ((L s).drop 0).length ∨ ((L s).drop 0).all isDig = false)) := Lib.hid (by
        rw [HK2.out.1, List.drop_eq_nil_iff, List.length_drop, HL.out]; intro h; rcases h with h | h | h
        · omega
        · omega
        · cases h)
      have hlim : n ≤ 10000000 := by omega
      clear hT hn hp
      have HV : Hid (R = rdOf ((L s).drop 0) (L s) ((n : Nat) : Int)) := Lib.hid (by rw [HD.out, HK2.out.2])
      by_cases hc : clampI ((n : Nat) : Int) = ((n : Nat) : Int)
      · have hin := clampI_in hc
        have HC := Lib.hid hc
        by_cases hi : Lib.itoa ((n : Nat) : Int) = L s
        · have HN : Hid (R = some ((n : Nat) : Int)) := Lib.hid (by rw [HV.out]; exact rd_some hgood.out ⟨hc, hi⟩)
          have t3 := toList_yes hi
          clear hc hi
          obtain ⟨i1, i2⟩ := hin
          go_wp2_with (first | (go_at_call 55; (with_reducible refine (rClamp_any _ _).mono ?_); rw [HC.out]; rintro e w1 ⟨rfl, rfl⟩) | (go_at_call 45; (with_reducible refine (rText_any _ _ (by omega) (by omega)).mono ?_); rintro e w2 ⟨rfl, hb2⟩))
          go_ret2
          exact ⟨ret_val (by rw [HN.out]; rfl), hb2⟩
        · have HN : Hid (R = none) := Lib.hid (by rw [HV.out]; exact rd_bad fun h => hi h.2)
          have t3 := toList_no hi
          clear hc hi
          obtain ⟨i1, i2⟩ := hin
          go_wp2_with (first | (go_at_call 55; (with_reducible refine (rClamp_any _ _).mono ?_); rw [HC.out]; rintro e w1 ⟨rfl, rfl⟩) | (go_at_call 45; (with_reducible refine (rText_any _ _ (by omega) (by omega)).mono ?_); rintro e w2 ⟨rfl, hb2⟩))
          go_ret2
          exact ⟨ret_val (by rw [HN.out]; rfl), hb2⟩
      · have HN : Hid (R = none) := Lib.hid (by rw [HV.out]; exact rd_bad fun h => hc h.1)
        obtain ⟨c, hcc⟩ : ∃ c, clampI ((n : Nat) : Int) = c := ⟨_, rfl⟩
        rw [hcc] at hc
        have HC := Lib.hid hcc
        have t3 : (c != ((n : Nat) : Int)) = true := by rw [bne_iff_ne]; exact hc
        clear hc hcc
        go_wp2_with (go_at_call 55; (with_reducible refine (rClamp_any _ _).mono ?_); rw [HC.out]; rintro e w1 ⟨rfl, rfl⟩)
        go_ret2
        exact ⟨ret_val (by rw [HN.out]; rfl), Below.refl _ _⟩
set_option maxRecDepth 100000 in
theorem rNumber_yes (s : ByteArray) (w : World) (hs : s.size < 100000000) (h0 : 0 < s.size) (hb : (((byt (L s) 0 : Nat) : Int) == 45) = true) (R : Option Int) (HD : Hid (R = rdOf ((L s).drop 1) (L s) (-((decVal ((L s).drop 1) : Nat) : Int)))) :
    Calls Tryz.prog 143 #[.string s] w fun e w' => e = .returned (numRet R) ∧ Below w.heap.size w w' := by
  have hg := get_l s
  have HL := Lib.hid (size_l s)
  by_cases h1 : s.size = 1
  · have HN : Hid (R = none) := Lib.hid (by rw [HD.out]; exact rd_none (.inl (List.drop_eq_nil_of_le (by rw [HL.out]; omega))))
    have t1 := eqn s.size 1 (by omega)
    clear h1
    go_enter Tryz.func143, Tryz.ntmps143
    go_wp2
    all_goals
      go_ret2
      exact ⟨ret_val (by rw [HN.out]; rfl), Below.refl _ _⟩
  have t1 := nen s.size 1 (by omega)
  by_cases h2 : 8 < s.size
  · have HN : Hid (R = none) := Lib.hid (by rw [HD.out]; exact rd_none (.inr (.inl (by rw [List.length_drop, HL.out]; omega))))
    have t2 : (8 : Int) < s.size := by omega
    clear h1
    go_enter Tryz.func143, Tryz.ntmps143
    go_wp2
    go_ret2
    exact ⟨ret_val (by rw [HN.out]; rfl), Below.refl _ _⟩
  have t2 : ¬ (8 : Int) < s.size := by omega
  have h1' : 1 < s.size := by omega
  clear h1
  go_enter Tryz.func143, Tryz.ntmps143
  go_wp2
  go_loop [5, 6] (fun v i => ∃ k n : Nat, 1 ≤ k ∧ k ≤ s.size ∧ n < 10 ^ (k - 1) ∧ i = .int .i64 k ∧ v = .int .i64 n ∧ Hid ((((L s).take k).drop 1).all isDig = true ∧ decVal (((L s).take k).drop 1) = n)) (fun _ i => s.size - (intOf i).toNat)
  case atStart => exact ⟨1, 0, by omega, by omega, by decide, rfl, rfl, Lib.hid ⟨by rw [List.drop_eq_nil_of_le (by rw [List.length_take]; omega)]; rfl, by rw [List.drop_eq_nil_of_le (by rw [List.length_take]; omega)]; rfl⟩⟩
  case round =>
    obtain ⟨k, n, hak, hk, hn, rfl, rfl, HK⟩ := hrel
    have hp := pow10_le (show k - 1 ≤ 7 by omega)
    by_cases hlt : k < s.size
    · by_cases hd : (48 : Int) ≤ (byt (L s) k : Nat) ∧ ((byt (L s) k : Nat) : Int) ≤ 57
      · obtain ⟨d1, d2⟩ := hd
        have hdig : isDig ((L s).getD k 0) = true := by
          show (decide (48 ≤ byt (L s) k) && decide (byt (L s) k ≤ 57)) = true
          rw [decide_eq_true (by omega), decide_eq_true (by omega)]; rfl
        have HX : Hid ((((L s).take (k + 1)).drop 1).all isDig = true ∧ decVal (((L s).take (k + 1)).drop 1) = n * 10 + (byt (L s) k - 48)) := Lib.hid ⟨by
          rw [drop_snoc hak (by rw [HL.out]; exact hlt), List.all_append, HK.out.1, List.all_cons, hdig]; rfl, by
          rw [drop_snoc hak (by rw [HL.out]; exact hlt), decVal_snoc, HK.out.2]; rfl⟩
        have hpw : 10 ^ (k + 1 - 1) = 10 ^ (k - 1) * 10 := by rw [show k + 1 - 1 = k - 1 + 1 by omega, Nat.pow_succ]
        have hn2 : n * 10 + (byt (L s) k - 48) < 10 ^ (k + 1 - 1) := by rw [hpw]; omega
        have hlim : n ≤ 9999999 := by omega
        have HN2 := Lib.hid hn2
        clear hdig hpw hn hp hn2
        go_wp2
        go_round
        case rel => exact ⟨k + 1, n * 10 + (byt (L s) k - 48), by omega, by omega, HN2.out, by go_num, by rw [show ((n * 10 + (byt (L s) k - 48) : Nat) : Int) = (n : Int) * 10 + (((byt (L s) k : Nat) : Int) - 48) by omega], HX⟩
        case measure => simp [intOf]; omega
      · have HN : Hid (R = none) := Lib.hid (by
          rw [HD.out]; refine rd_none (.inr (.inr (not_dig hak (by rw [HL.out]; exact hlt) ?_)))
          show (decide (48 ≤ byt (L s) k) && decide (byt (L s) k ≤ 57)) = false
          rw [Bool.and_eq_false_iff, decide_eq_false_iff_not, decide_eq_false_iff_not]; omega)
        have hd2 : ((byt (L s) k : Nat) : Int) < 48 ∨ 57 < ((byt (L s) k : Nat) : Int) := by omega
        clear hd hn hp
        rcases hd2 with hd | hd
        all_goals
          go_wp2
          go_ret2
          exact ⟨ret_val (by rw [HN.out]; rfl), Below.refl _ _⟩
    · obtain rfl : k = s.size := by omega
      have hT : (L s).take s.size = L s := List.take_of_length_le (by rw [HL.out]; exact Nat.le_refl _)
      have HK2 : Hid (((L s).drop 1).all isDig = true ∧ decVal ((L s).drop 1) = n) := Lib.hid (by have := HK.out; rwa [hT] at this)
      have hgood : Hid (¬ ((L s).drop 1 = [] ∨ 7 < ((L s).drop 1).length ∨ ((L s).drop 1).all isDig = false)) := Lib.hid (by
        rw [HK2.out.1, List.drop_eq_nil_iff, List.length_drop, HL.out]; intro h; rcases h with h | h | h
        · omega
        · omega
        · cases h)
      have hlim : n ≤ 10000000 := by omega
      clear hT hn hp
      have HV : Hid (R = rdOf ((L s).drop 1) (L s) (-((n : Nat) : Int))) := Lib.hid (by rw [HD.out, HK2.out.2])
      by_cases hc : clampI (-((n : Nat) : Int)) = (-((n : Nat) : Int))
      · have hin := clampI_in hc
        have HC := Lib.hid hc
        by_cases hi : Lib.itoa (-((n : Nat) : Int)) = L s
        · have HN : Hid (R = some (-((n : Nat) : Int))) := Lib.hid (by rw [HV.out]; exact rd_some hgood.out ⟨hc, hi⟩)
          have t3 := toList_yes hi
          clear hc hi
          obtain ⟨i1, i2⟩ := hin
          go_wp2_with (first | (go_at_call 55; (with_reducible refine (rClamp_any _ _).mono ?_); rw [HC.out]; rintro e w1 ⟨rfl, rfl⟩) | (go_at_call 45; (with_reducible refine (rText_any _ _ (by omega) (by omega)).mono ?_); rintro e w2 ⟨rfl, hb2⟩))
          go_ret2
          exact ⟨ret_val (by rw [HN.out]; rfl), hb2⟩
        · have HN : Hid (R = none) := Lib.hid (by rw [HV.out]; exact rd_bad fun h => hi h.2)
          have t3 := toList_no hi
          clear hc hi
          obtain ⟨i1, i2⟩ := hin
          go_wp2_with (first | (go_at_call 55; (with_reducible refine (rClamp_any _ _).mono ?_); rw [HC.out]; rintro e w1 ⟨rfl, rfl⟩) | (go_at_call 45; (with_reducible refine (rText_any _ _ (by omega) (by omega)).mono ?_); rintro e w2 ⟨rfl, hb2⟩))
          go_ret2
          exact ⟨ret_val (by rw [HN.out]; rfl), hb2⟩
      · have HN : Hid (R = none) := Lib.hid (by rw [HV.out]; exact rd_bad fun h => hc h.1)
        obtain ⟨c, hcc⟩ : ∃ c, clampI (-((n : Nat) : Int)) = c := ⟨_, rfl⟩
        rw [hcc] at hc
        have HC := Lib.hid hcc
        have t3 : (c != (-((n : Nat) : Int))) = true := by rw [bne_iff_ne]; exact hc
        clear hc hcc
        go_wp2_with (go_at_call 55; (with_reducible refine (rClamp_any _ _).mono ?_); rw [HC.out]; rintro e w1 ⟨rfl, rfl⟩)
        go_ret2
        exact ⟨ret_val (by rw [HN.out]; rfl), Below.refl _ _⟩
theorem rNumber_any (s : ByteArray) (w : World) (hs : s.size < 100000000) :
    Calls Tryz.prog 143 #[.string s] w fun e w' => e = .returned (numRet (rdNum (L s))) ∧ Below w.heap.size w w' := by
  by_cases h0 : 0 < s.size
  · cases hb : (byt (L s) 0 == 45)
    · exact rNumber_no s w hs h0 (nen _ 45 (by rw [beq_eq_false_iff_ne] at hb; omega)) _ (Lib.hid (rd_pos hb))
    · exact rNumber_yes s w hs h0 (eqn _ 45 (by rw [beq_iff_eq] at hb; omega)) _ (Lib.hid (rd_neg hb))
  · obtain rfl : s = ByteArray.empty := ByteArray.size_eq_zero_iff.1 (by omega)
    have HN : Hid (rdNum (L ByteArray.empty) = none) := Lib.hid rfl
    generalize rdNum (L ByteArray.empty) = R at *
    go_enter Tryz.func143, Tryz.ntmps143
    go_wp2
    go_ret2
    exact ⟨ret_val (by rw [HN.out]; rfl), Below.refl _ _⟩
end Go.Proofs.YtakgfbcmkhcdkaaGreatDoor
namespace Go.Proofs.YtakgfbcmkhcdkaaGreatDoor
set_option linter.all false
open Go.ChangeShapes Go.WideShapes Go.RowKit
theorem fBit_any (m i : Nat) (w : World) (hm : m < 2 ^ 31) (hi : i < 100) :
    Calls Tryz.prog 94 #[.int .i64 m, .int .i64 i] w fun e w' => e = .returned (.bool (m.testBit i)) ∧ w = w' := by
  have HB : Hid (m.testBit i = decide (m / 2 ^ i % 2 = 1)) := Lib.hid Nat.testBit_eq_decide_div_mod_eq
  generalize m.testBit i = R at *
  go_enter Tryz.func94, Tryz.ntmps94
  go_wp2
  go_loop [0, 5] (fun v k => ∃ j n : Nat, j ≤ i ∧ n < 2 ^ 31 ∧ k = .int .i64 j ∧ v = .int .i64 n ∧ Hid (m / 2 ^ j = n)) (fun _ k => i - (intOf k).toNat)
  case atStart => exact ⟨0, m, by omega, hm, rfl, rfl, by simp [Hid]⟩
  case round =>
    obtain ⟨j, n, hj, hn, rfl, rfl, HN⟩ := hrel
    by_cases hlt : j < i
    · have HX : Hid (m / 2 ^ (j + 1) = n / 2) := Lib.hid (by rw [Nat.pow_succ, ← Nat.div_div_eq_div_mul, HN.out])
      go_wp2
      go_round
      case rel => exact ⟨j + 1, n / 2, by omega, by omega, by go_num, by go_num, HX⟩
      case measure => simp [intOf]; omega
    · obtain rfl : j = i := by omega
      have HE : Hid (R = decide (n % 2 = 1)) := Lib.hid (by rw [HB.out, HN.out])
      go_wp2
      go_ret
      exact ⟨ret_bool (by rw [HE.out, Bool.eq_iff_iff]; simp; omega), rfl⟩
theorem fZones_any (w : World) : Calls Tryz.prog 89 #[] w (RetTexts w zoneT) := by
  go_enter Tryz.func89, Tryz.ntmps89
  go_wp2
  go_ret
  exact ⟨_, _, rfl, texts_lit zoneT _ rfl (by decide) w _ rfl, (Below.refl _ _).alloc (Nat.le_refl _) _⟩
theorem fWhos_any (w : World) : Calls Tryz.prog 90 #[] w (RetTexts w whoT) := by
  go_enter Tryz.func90, Tryz.ntmps90
  go_wp2
  go_ret
  exact ⟨_, _, rfl, texts_lit whoT _ rfl (by decide) w _ rfl, (Below.refl _ _).alloc (Nat.le_refl _) _⟩
theorem fSelves_any (w : World) : Calls Tryz.prog 91 #[] w (RetTexts w selfT) := by
  go_enter Tryz.func91, Tryz.ntmps91
  go_wp2
  go_ret
  exact ⟨_, _, rfl, texts_lit selfT _ rfl (by decide) w _ rfl, (Below.refl _ _).alloc (Nat.le_refl _) _⟩
theorem fTaps_any (w : World) : Calls Tryz.prog 92 #[] w (RetTexts w tapT) := by
  go_enter Tryz.func92, Tryz.ntmps92
  go_wp2
  go_ret
  exact ⟨_, _, rfl, texts_lit tapT _ rfl (by decide) w _ rfl, (Below.refl _ _).alloc (Nat.le_refl _) _⟩
theorem fSigns_any (w : World) : Calls Tryz.prog 132 #[] w (RetTexts w signT) := by
  go_enter Tryz.func132, Tryz.ntmps132
  go_wp2
  go_ret
  exact ⟨_, _, rfl, texts_lit signT _ rfl (by decide) w _ rfl, (Below.refl _ _).alloc (Nat.le_refl _) _⟩
theorem typesText_bit (i : Nat) (hi : i < 6) : typesText (2 ^ i) = wd typeT i := by
  have : ∀ i, i < 6 → typesText (2 ^ i) = wd typeT i := by decide +kernel
  exact this i hi
theorem fTypeWord_any (i : Nat) (hi : i < 6) (w : World) :
    Calls Tryz.prog 95 #[.int .i64 i] w fun e w' => e = .returned (.string (B (wd typeT i))) ∧ Below w.heap.size w w' := by
  have HT := Lib.hid (typesText_bit i hi)
  generalize wd typeT i = R at *
  go_enter Tryz.func95, Tryz.ntmps95
  go_wp2
  go_loop [3, 4] (fun v k => ∃ j n : Nat, j ≤ i ∧ n ≤ 63 ∧ k = .int .i64 j ∧ v = .int .i64 n ∧ Hid (2 ^ j = n)) (fun _ k => i - (intOf k).toNat)
  case atStart => exact ⟨0, 1, by omega, by omega, rfl, rfl, rfl⟩
  case round =>
    obtain ⟨j, n, hj, hn, rfl, rfl, HN⟩ := hrel
    by_cases hlt : j < i
    · have HX : Hid (2 ^ (j + 1) = n * 2) := Lib.hid (by rw [Nat.pow_succ, HN.out])
      have hn2 : n * 2 ≤ 63 := by
        have h1 := HX.out
        have h2 : 2 ^ (j + 1) ≤ 2 ^ 5 := Nat.pow_le_pow_right (by omega) (by omega)
        omega
      go_wp2
      go_round
      case rel => exact ⟨j + 1, n * 2, by omega, hn2, by go_num, by go_num, HX⟩
      case measure => simp [intOf]; omega
    · obtain rfl : j = i := by omega
      have HE : Hid (typesText n = R) := Lib.hid (by rw [← HN.out, HT.out])
      have hpos : 1 ≤ n := by have := HN.out; have h2 : 0 < 2 ^ j := Nat.pow_pos (by omega); omega
      go_wp2_with (go_at_call 41; (with_reducible refine (rTypesText_any _ hpos hn _).mono ?_); rintro e w2 ⟨rfl, hb⟩)
      go_ret
      exact ⟨ret_str (by rw [HE.out]), hb⟩
theorem fMask_any (m i : Nat) (w : World) (hm : m < 2 ^ 31) (hi : i < 31) :
    Calls Tryz.prog 187 #[.int .i64 m, .int .i64 i] w fun e w' => e = .returned (.int .i64 (qMask m i : Nat)) ∧ w = w' := by
  obtain ⟨R, hR⟩ : ∃ R, qMask m i = R := ⟨_, rfl⟩
  rw [hR]
  unfold qMask at hR
  cases hb : m.testBit i
  · rw [hb] at hR
    have HB := Lib.hid hb
    have HR : Hid (m + 2 ^ i = R) := Lib.hid hR
    clear hb hR
    go_enter Tryz.func187, Tryz.ntmps187
    go_wp2_with (go_at_call 94; (with_reducible refine (fBit_any _ _ _ hm (by omega)).mono ?_); rw [HB.out]; rintro e w1 ⟨rfl, rfl⟩)
    go_loop [5, 6] (fun v k => ∃ j n : Nat, j ≤ i ∧ n ≤ 2147483648 ∧ k = .int .i64 j ∧ v = .int .i64 n ∧ Hid (2 ^ j = n)) (fun _ k => i - (intOf k).toNat)
    case atStart => exact ⟨0, 1, by omega, by omega, rfl, rfl, rfl⟩
    case round =>
      obtain ⟨j, n, hj, hn, rfl, rfl, HN⟩ := hrel
      by_cases hlt : j < i
      · have HX : Hid (2 ^ (j + 1) = n * 2) := Lib.hid (by rw [Nat.pow_succ, HN.out])
        have hn2 : n * 2 ≤ 2147483648 := by
          have h1 := HX.out
          have h2 : 2 ^ (j + 1) ≤ 2 ^ 31 := Nat.pow_le_pow_right (by omega) (by omega)
          omega
        go_wp2
        go_round
        case rel => exact ⟨j + 1, n * 2, by omega, hn2, by go_num, by go_num, HX⟩
        case measure => simp [intOf]; omega
      · obtain rfl : j = i := by omega
        have HE : Hid (m + n = R) := Lib.hid (by rw [← HN.out, HR.out])
        go_wp2
        go_ret
        exact ⟨ret_int (by rw [← HE.out]; omega), rfl⟩
  · rw [hb] at hR
    have HB := Lib.hid hb
    have HR : Hid (m = R) := Lib.hid hR
    clear hb hR
    go_enter Tryz.func187, Tryz.ntmps187
    go_wp2_with (go_at_call 94; (with_reducible refine (fBit_any _ _ _ hm (by omega)).mono ?_); rw [HB.out]; rintro e w1 ⟨rfl, rfl⟩)
    go_ret
    exact ⟨ret_int (by rw [HR.out]), rfl⟩
theorem fBound_any (k n : Int) (w : World) :
    Calls Tryz.prog 70 #[.agg #[.int .i64 k, .int .i64 n]] w fun e w' => e = .returned (.bool (bnd k n)) ∧ Below w.heap.size w w' := by
  go_enter Tryz.func70, Tryz.ntmps70
  go_wp2
  all_goals
    go_ret
    exact ⟨ret_bool (by simp [bnd, btw, *] <;> omega), (Below.refl _ _).alloc (Nat.le_refl _) _⟩
theorem fApart_nat (a b : Nat) (m : Int) (w : World) (h1 : (a : Int) ≤ m) (h2 : (b : Int) ≤ m) (h3 : m ≤ 63) (R : Bool) (HR : Hid (R = (a &&& b == 0))) :
    Calls Tryz.prog 69 #[.int .i64 a, .int .i64 b, .int .i64 m] w fun e w' => e = .returned (.bool R) ∧ w = w' := by
  have g1 : a < 64 := by omega
  have g2 : b < 64 := by omega
  have HZ : Hid (a &&& b = 0 ↔ ∀ j, j < 6 → ¬ (a.testBit j = true ∧ b.testBit j = true)) := Lib.hid (andZero a b g1)
  go_enter Tryz.func69, Tryz.ntmps69
  go_wp2
  go_loop [0, 1, 7] (fun u v k => ∃ j n p : Nat, j ≤ 6 ∧ n < 64 ∧ p < 64 ∧ k = .int .i64 j ∧ u = .int .i64 n ∧ v = .int .i64 p ∧ Hid (a / 2 ^ j = n ∧ b / 2 ^ j = p ∧ ∀ i, i < j → ¬ (a.testBit i = true ∧ b.testBit i = true))) (fun _ _ k => 6 - (intOf k).toNat)
  case atStart => exact ⟨0, a, b, by omega, g1, g2, rfl, rfl, rfl, Lib.hid ⟨by simp, by simp, fun i hi => by omega⟩⟩
  case round =>
    obtain ⟨j, n, p, hj, hn, hp, rfl, rfl, rfl, HN⟩ := hrel
    by_cases hlt : j < 6
    · have hstep : ¬ (n % 2 = 1 ∧ p % 2 = 1) → Hid (a / 2 ^ (j + 1) = n / 2 ∧ b / 2 ^ (j + 1) = p / 2 ∧ ∀ i, i < j + 1 → ¬ (a.testBit i = true ∧ b.testBit i = true)) := fun hh => Lib.hid ⟨by rw [Nat.pow_succ, ← Nat.div_div_eq_div_mul, HN.out.1], by rw [Nat.pow_succ, ← Nat.div_div_eq_div_mul, HN.out.2.1], fun i hi => by
        rcases Nat.lt_or_ge i j with h | h
        · exact HN.out.2.2 i h
        · obtain rfl : i = j := by omega
          rw [testBit_half, testBit_half, HN.out.1, HN.out.2.1]; simpa using hh⟩
      by_cases o1 : n % 2 = 1
      · have t1 : ((n : Int) % 2 == 1) = true := by simp; omega
        by_cases o2 : p % 2 = 1
        · have t2 : ((p : Int) % 2 == 1) = true := by simp; omega
          have HF : Hid (R = false) := Lib.hid (by
            rw [HR.out, beq_eq_false_iff_ne]; intro h
            refine (HZ.out.1 h) j hlt ?_
            rw [testBit_half, testBit_half, HN.out.1, HN.out.2.1]; simp [o1, o2])
          clear hstep o1 o2
          go_wp2
          go_ret
          exact ⟨ret_bool HF.out.symm, rfl⟩
        · have t2 : ((p : Int) % 2 == 1) = false := by simp; omega
          have HX := hstep (by omega)
          clear hstep o1 o2
          go_wp2
          go_round
          case rel => exact ⟨j + 1, n / 2, p / 2, by omega, by omega, by omega, by go_num, by go_num, by go_num, HX⟩
          case measure => simp [intOf]; omega
      · have t1 : ((n : Int) % 2 == 1) = false := by simp; omega
        have HX := hstep (by omega)
        clear hstep o1
        go_wp2
        go_round
        case rel => exact ⟨j + 1, n / 2, p / 2, by omega, by omega, by omega, by go_num, by go_num, by go_num, HX⟩
        case measure => simp [intOf]; omega
    · obtain rfl : j = 6 := by omega
      have HT : Hid (R = true) := Lib.hid (by rw [HR.out, beq_iff_eq]; exact HZ.out.2 HN.out.2.2)
      go_wp2
      go_ret
      exact ⟨ret_bool HT.out.symm, rfl⟩
theorem fApart_any (a b m : Int) (w : World) (h3 : m ≤ 63) :
    Calls Tryz.prog 69 #[.int .i64 a, .int .i64 b, .int .i64 m] w fun e w' => e = .returned (.bool (okMasks a b m)) ∧ w = w' := by
  by_cases h : 0 ≤ a ∧ a ≤ m ∧ 0 ≤ b ∧ b ≤ m
  · obtain ⟨x, rfl⟩ : ∃ x : Nat, a = (x : Int) := ⟨a.toNat, by omega⟩
    obtain ⟨y, rfl⟩ : ∃ y : Nat, b = (y : Int) := ⟨b.toNat, by omega⟩
    refine fApart_nat x y m w h.2.1 h.2.2.2 h3 _ (Lib.hid ?_)
    unfold okMasks btw
    rw [i64_and_nat x y (by omega) (by omega), decide_eq_true h.1, decide_eq_true h.2.1, decide_eq_true h.2.2.1, decide_eq_true h.2.2.2, Bool.eq_iff_iff]
    simp
  · have hF : okMasks a b m = false := by
      cases hh : okMasks a b m with
      | false => rfl
      | true =>
        simp only [okMasks, btw, Bool.and_eq_true, decide_eq_true_eq] at hh
        exact absurd ⟨hh.1.1, hh.1.2, hh.2.1.1, hh.2.1.2⟩ h
    rw [hF]
    have hc : a < 0 ∨ (0 ≤ a ∧ m < a) ∨ (0 ≤ a ∧ a ≤ m ∧ b < 0) ∨ (0 ≤ a ∧ a ≤ m ∧ 0 ≤ b ∧ m < b) := by omega
    clear h hF
    rcases hc with h | ⟨h, h1⟩ | ⟨h, h1, h2⟩ | ⟨h, h1, h2, h4⟩
    all_goals
      go_enter Tryz.func69, Tryz.ntmps69
      go_wp2
      go_ret
      exact ⟨rfl, rfl⟩
end Go.Proofs.YtakgfbcmkhcdkaaGreatDoor
namespace Go.Proofs.YtakgfbcmkhcdkaaGreatDoor
set_option linter.all false
/- Words. -/
def qIndex (T : List Str) (s : Str) : Nat := ((List.range' 1 (T.length - 1)).find? fun i => wd T i == s).getD 0
def qAfter (s b : Str) : Option Str := if Lib.hasPrefix s b then some (s.drop b.length) else none
/-- The bound of kind k that a word stands for. -/
def qr (w name : Str) (k : Nat) : Option (Nat × Int) := ((qAfter w (name ++ wd signT k)).bind rdNum).map fun n => (k, n)
def qRead (w name : Str) : Nat × Int := ((List.range' 1 3).findSome? (qr w name)).getD (0, 0)
def addBit (m : Int) (i : Nat) : Int := ((qMask m.toNat i : Nat) : Int)
def stType (w : Str) (f : Flt) (i : Nat) : Flt :=
  let f := if w = wd typeT i then { f with types := addBit f.types i } else f
  if w = nonW ++ wd typeT i then { f with ntypes := addBit f.ntypes i } else f
def stColor (w : Str) (f : Flt) (i : Nat) : Flt :=
  let f := if w = wd colorT i then { f with colors := addBit f.colors i } else f
  if w = nonW ++ wd colorT i then { f with ncolors := addBit f.ncolors i } else f
def stKey (w : Str) (f : Flt) (i : Nat) : Flt := if w = withW ++ wd kwT i then { f with keys := addBit f.keys i } else f
def qNamed (f : Flt) (w : Str) : Flt := (List.range 17).foldl (stKey w) ((List.range 5).foldl (stColor w) ((List.range 6).foldl (stType w) f))
def qSet (f : Flt) (zo wh se ta : Nat) (su : Option Str) (p t v : Nat × Int) : Flt :=
  let f := if 0 < zo then { f with zone := (zo : Int) } else f
  let f := if 0 < wh then { f with who := (wh : Int) } else f
  let f := if 0 < se then { f with self := (se : Int) } else f
  let f := if 0 < ta then { f with tap := (ta : Int) } else f
  let f := match su with | some t => { f with sub := B t } | none => f
  let f := if 0 < p.1 then { f with pk := (p.1 : Int), pn := p.2 } else f
  let f := if 0 < t.1 then { f with tk := (t.1 : Int), tn := t.2 } else f
  if 0 < v.1 then { f with vk := (v.1 : Int), vn := v.2 } else f
def qWord (f : Flt) (w : Str) : Flt := qNamed (qSet f (qIndex zoneT w) (qIndex whoT w) (qIndex selfT w) (qIndex tapT w) (qAfter w subW) (qRead w powerW) (qRead w toughW) (qRead w valueW)) w
end Go.Proofs.YtakgfbcmkhcdkaaGreatDoor
namespace Go.Proofs.YtakgfbcmkhcdkaaGreatDoor
set_option linter.all false
open Go.ChangeShapes Go.WideShapes Go.RowKit
theorem fColor_any (i : Nat) (hi : i < 5) (w : World) :
    Calls Tryz.prog 86 #[.int .i64 i] w fun e w' => e = .returned (.string (B (wd colorT i))) ∧ w = w' := by
  rcases i with _ | _ | _ | _ | _ | i
  · go_enter Tryz.func86, Tryz.ntmps86
    go_wp2
    go_ret
    exact ⟨rfl, rfl⟩
  · go_enter Tryz.func86, Tryz.ntmps86
    go_wp2
    go_ret
    exact ⟨rfl, rfl⟩
  · go_enter Tryz.func86, Tryz.ntmps86
    go_wp2
    go_ret
    exact ⟨rfl, rfl⟩
  · go_enter Tryz.func86, Tryz.ntmps86
    go_wp2
    go_ret
    exact ⟨rfl, rfl⟩
  · go_enter Tryz.func86, Tryz.ntmps86
    go_wp2
    go_ret
    exact ⟨rfl, rfl⟩
  · omega
theorem fKeys_any (w : World) : Calls Tryz.prog 131 #[] w (RetTexts w kwT) := by
  go_enter Tryz.func131, Tryz.ntmps131
  go_wp2
  go_ret
  exact ⟨_, _, rfl, texts_lit kwT _ rfl (by decide) w _ rfl, (Below.refl _ _).alloc (Nat.le_refl _) _⟩
theorem wd_at {T : List Str} {i : Nat} (h : i < T.length) : T[i] = wd T i := by simp [wd, List.getD, h]
theorem fKey_any (i : Nat) (hi : i < 17) (w : World) :
    Calls Tryz.prog 88 #[.int .i64 i] w fun e w' => e = .returned (.string (B (wd kwT i))) ∧ Below w.heap.size w w' := by
  have hi2 : i < kwT.length := hi
  have HW := Lib.hid (wd_at hi2)
  go_enter Tryz.func88, Tryz.ntmps88
  go_wp2_with (go_at_call 131; (with_reducible refine (fKeys_any _).mono ?_); rintro e w1 ⟨A, c, rfl, ht, hb⟩; obtain ⟨g, rfl, hg, hcl⟩ := ht.at_ hi2)
  go_ret
  exact ⟨ret_str (by rw [HW.out]), hb⟩
/-- What an append of a word, unless it is empty, hands back. -/
def RetAdd (w : World) (base : Nat) (l : List Str) (e : Ending) (w' : World) : Prop := ∃ A c, e = .returned (.slice A l.length c) ∧ Texts w' base l (.slice A l.length c) ∧ Below base w w'
theorem fAdd_any (l : List Str) (A : Option Addr) (c base : Nat) (s : ByteArray) (sl : Str) (hs : L s = sl) (w : World) (h : Texts w base l (.slice A l.length c)) (hb : base ≤ w.heap.size) (hlen : l.length < 1000000) :
    Calls Tryz.prog 93 #[.slice A l.length c, .string s] w (RetAdd w base (addW l sl)) := by
  subst hs
  by_cases h0 : L s = []
  · have t0 : s.toList = [] := by rw [L_toList]; exact h0
    have HX : Hid (addW l (L s) = l) := Lib.hid (if_pos h0)
    clear h0
    generalize addW l (L s) = R at *
    go_enter Tryz.func93, Tryz.ntmps93
    go_wp2
    go_ret
    have e := HX.out
    subst e
    exact ⟨A, c, rfl, h, Below.refl _ _⟩
  · have t0 : s.toList.isEmpty = false := by rw [L_toList]; simpa using h0
    have t1 : ¬ s.toList = [] := by rw [L_toList]; exact h0
    have HX : Hid (addW l (L s) = l ++ [L s]) := Lib.hid (if_neg h0)
    have hln : l.length < 1000000000 := by omega
    clear h0
    generalize addW l (L s) = R at *
    go_enter Tryz.func93, Tryz.ntmps93
    go_wp2_with (at_builtin; refine wpList_text_push rfl (.tmp 8) (.tmp 10) 40 rfl Tryz.underlying40 info_str rfl rfl h hln hb ?_; intro v' w2 hown2 hb2)
    go_ret
    rw [← HX.out] at hown2
    obtain ⟨A2, c2, rfl, _⟩ := hown2.form
    exact ⟨A2, c2, rfl, hown2, hb2⟩
/-- What a bound's word reads: a sign's cell, the bound's two cells; nothing older has turned. -/
def BWh (w w1 : World) (k n g : Nat) (x : Str) (w' : World) : Prop := w'.cell? ⟨g, k, none⟩ = some (.string (B x)) ∧ w'.cell? ⟨w.heap.size, 0, none⟩ = some (.int .i64 k) ∧ w'.cell? ⟨w.heap.size, 1, none⟩ = some (.int .i64 n) ∧ Below w1.heap.size w1 w'
theorem BWh.out {w w1 w' : World} {k n g : Nat} {x : Str} (h : BWh w w1 k n g x w') : w'.cell? ⟨g, k, none⟩ = some (.string (B x)) ∧ w'.cell? ⟨w.heap.size, 0, none⟩ = some (.int .i64 k) ∧ w'.cell? ⟨w.heap.size, 1, none⟩ = some (.int .i64 n) ∧ Below w1.heap.size w1 w' := h
theorem BWh.below {w w1 w2 w3 : World} {k n g : Nat} {x : Str} (h : BWh w w1 k n g x w2) (hb : Below w2.heap.size w2 w3) : BWh w w1 k n g x w3 := ⟨cell_below hb h.1, cell_below hb h.2.1, cell_below hb h.2.2.1, below_two h.2.2.2 hb⟩
theorem BWh.drew {w w1 w2 : World} {k n g : Nat} {x : Str} (h : BWh w w1 k n g x w2) : BWh w w1 k n g x w2.drew := h.below (Below.refl _ _).drew
theorem fBoundW_any (name : ByteArray) (nl : Str) (hnl : L name = nl) (k n : Nat) (hk : k < 4) (hn : n ≤ 1000000) (hs : name.size ≤ 100) (w : World) :
    Calls Tryz.prog 96 #[.string name, .agg #[.int .i64 k, .int .i64 n]] w fun e w' => e = .returned (.string (B (boundW nl k n))) ∧ Below w.heap.size w w' := by
  subst hnl
  rcases Nat.eq_zero_or_pos k with h0 | h0
  · have HD : Hid (boundW (L name) k n = []) := if_pos h0
    have t0 := eqn k 0 (by omega)
    generalize boundW (L name) k n = R at *
    clear h0
    go_enter Tryz.func96, Tryz.ntmps96
    go_wp2
    go_ret
    exact ⟨ret_str (by rw [HD.out]; rfl), (Below.refl _ _).alloc (Nat.le_refl _) _⟩
  · have t0 := nen k 0 (by omega)
    have hk2 : k < signT.length := hk
    have HD : Hid (boundW (L name) k n = L name ++ signT[k] ++ Lib.itoa n) := Lib.hid (by rw [boundW, if_neg (by omega), wd_at hk2])
    have hwl : (signT[k]).length ≤ 2 := by rw [wd_at hk2]; exact wd_len (by decide) k
    have hil := Lib.itoa_length_le n (by omega) (by omega)
    generalize boundW (L name) k n = R at *
    clear h0
    go_enter Tryz.func96, Tryz.ntmps96
    go_wp2_with (go_at_call 132; (with_reducible refine (fSigns_any _).mono ?_); rintro e w1 ⟨A, c, rfl, ht, hb⟩; obtain ⟨g, rfl, hg, hcl⟩ := ht.at_ hk2; generalize signT[k] = x at *)
    have a1 : ∀ wx : World, (Op.stringOp .add name (B x)).run Tryz.prog wx = .ok (.string (name ++ B x)) wx := fun wx => run_string_add_sum (P := Tryz.prog) (w := wx) _ _ (by rw [B_size]; omega)
    have a2 : ∀ wx : World, (Op.stringOp .add (name ++ B x) (B (Lib.itoa n))).run Tryz.prog wx = .ok (.string (name ++ B x ++ B (Lib.itoa n))) wx := fun wx => run_string_add_sum (P := Tryz.prog) (w := wx) _ _ (by rw [ByteArray.size_append, B_size, B_size]; omega)
    have hB : BWh w w1 k n g x w1 := ⟨hcl, (kept_cells hb 0).trans (by simp), (kept_cells hb 1).trans (by simp), Below.refl _ _⟩
    go_region_held3 (fun w' => w'.cell? ⟨g, k, none⟩ = some (.string (B x)) ∧ w'.cell? ⟨w.heap.size, 0, none⟩ = some (.int .i64 k) ∧ w'.cell? ⟨w.heap.size, 1, none⟩ = some (.int .i64 n) ∧ Below w1.heap.size w1 w') (exact BWh.out (by first | assumption | exact BWh.drew hB)) (first | (go_at_call 45; (with_reducible refine ((rText_any n _ (by omega) (by omega)).mono fun e w' h => ⟨h.1, hB.drew.below h.2⟩ : Calls _ _ _ _ fun e w' => e = .returned (.string (B (Lib.itoa n))) ∧ BWh w w1 k n g x w').mono ?_); rintro e w2 ⟨rfl, hB2⟩))
    go_wp2
    go_ret
    exact ⟨ret_str (L_inj (by simp [L_append, HD.out])), below_two (below_two ((Below.refl _ _).alloc (Nat.le_refl _) _) hb) hB2.2.2.2⟩
theorem fIndex_any (T : List Str) (A : Option Addr) (c base : Nat) (s : ByteArray) (w : World) (h : Texts w base T (.slice A T.length c)) (hT : T.length < 1000000) (h1 : 1 ≤ T.length) :
    Calls Tryz.prog 162 #[.slice A T.length c, .string s] w fun e w' => e = .returned (.int .i64 (qIndex T (L s) : Nat)) ∧ w = w' := by
  obtain ⟨R, hR⟩ : ∃ R, qIndex T (L s) = R := ⟨_, rfl⟩
  rw [hR]
  have HR : Hid (((List.range' 1 (T.length - 1)).find? fun i => wd T i == L s).getD 0 = R) := Lib.hid hR
  clear hR
  go_enter Tryz.func162, Tryz.ntmps162
  go_wp2
  go_loop [5] (fun i => ∃ k : Nat, 1 ≤ k ∧ k ≤ T.length ∧ i = .int .i64 k ∧ Hid (((List.range' k (T.length - k)).find? fun i => wd T i == L s).getD 0 = R)) (fun i => T.length - (intOf i).toNat)
  case atStart => exact ⟨1, by omega, by omega, rfl, HR⟩
  case round =>
    obtain ⟨k, hk1, hk, rfl, HD⟩ := hrel
    by_cases hlt : k < T.length
    · obtain ⟨g, rfl, hg, hcl⟩ := h.at_ hlt
      have hst := HD.out
      rw [show T.length - k = (T.length - (k + 1)) + 1 by omega, List.range'_succ, List.find?_cons, ← wd_at hlt] at hst
      have hbe := beq_toList T[k] s
      rw [B_toList] at hbe
      cases hc : (T[k] == L s)
      · rw [hc] at hst hbe
        have HN : Hid (((List.range' (k + 1) (T.length - (k + 1))).find? fun i => wd T i == L s).getD 0 = R) := Lib.hid hst
        clear hst hc
        generalize T[k] = x at *
        go_wp2
        go_round
        case rel => exact ⟨k + 1, by omega, by omega, by go_num, HN⟩
        case measure => simp [intOf]; omega
      · rw [hc] at hst hbe
        have HN : Hid (k = R) := Lib.hid hst
        clear hst hc
        generalize T[k] = x at *
        go_wp2
        go_ret
        exact ⟨ret_int (by rw [HN.out]), rfl⟩
    · obtain rfl : k = T.length := by omega
      have HE : Hid (0 = R) := Lib.hid (by rw [← HD.out, Nat.sub_self]; rfl)
      go_wp2
      go_ret
      exact ⟨ret_int (by rw [← HE.out]; rfl), rfl⟩
/-- A rest and true, or nothing and false. -/
def aftRet (o : Option Str) : Value := match o with | some r => .tuple #[.string (B r), .bool true] | none => .tuple #[.string ⟨#[]⟩, .bool false]
theorem qAfter_eq (s b : ByteArray) : qAfter (L s) (L b) = if (decide (b.size ≤ s.size) && ((s.extract 0 b.size).toList == b.toList)) = true then some ((L s).drop b.size) else none := by
  unfold qAfter; rw [Lib.hasPrefix_raw, size_l]; rfl
theorem fAfter_any (s b : ByteArray) (w : World) (hs : s.size < 1000000000) (hb : b.size < 1000000000) :
    Calls Tryz.prog 163 #[.string s, .string b] w fun e w' => e = .returned (aftRet (qAfter (L s) (L b))) ∧ w = w' := by
  have hq := qAfter_eq s b
  generalize qAfter (L s) (L b) = R at *
  by_cases h1 : b.size ≤ s.size
  · rw [decide_eq_true h1, Bool.true_and] at hq
    have h1' : ¬ s.size < b.size := by omega
    cases h2 : ((s.extract 0 b.size).toList == b.toList)
    · rw [h2] at hq
      have HQ : Hid (R = none) := Lib.hid hq
      have t2 : (!(s.extract 0 b.size).toList == b.toList) = true := by rw [h2]; rfl
      clear hq
      go_enter Tryz.func163, Tryz.ntmps163
      go_wp2
      go_ret2
      exact ⟨ret_val (by rw [HQ.out]; rfl), rfl⟩
    · rw [h2] at hq
      have HQ : Hid (R = some ((L s).drop b.size)) := Lib.hid hq
      have t2 : (!(s.extract 0 b.size).toList == b.toList) = false := by rw [h2]; rfl
      have HX : Hid (s.extract b.size s.size = B ((L s).drop b.size)) := Lib.hid (L_inj (by rw [L_extract, L_B, List.take_of_length_le (by rw [size_l]; exact Nat.le_refl _)]))
      clear hq
      go_enter Tryz.func163, Tryz.ntmps163
      go_wp2
      go_ret2
      exact ⟨ret_val (by rw [HQ.out, HX.out]; rfl), rfl⟩
  · have HQ : Hid (R = none) := Lib.hid (by rw [hq, decide_eq_false h1]; rfl)
    have h1' : s.size < b.size := by omega
    clear hq
    go_enter Tryz.func163, Tryz.ntmps163
    go_wp2
    go_ret2
    exact ⟨ret_val (by rw [HQ.out]; rfl), rfl⟩
end Go.Proofs.YtakgfbcmkhcdkaaGreatDoor
