/- Walks of the reference: package cardgameref01: Number. Conditions: the text is shorter than 100 million bytes. -/
import Derived.Test.YthpleohkngfdfaaGreatDoorRNum
namespace Go.Proofs.YthpleohkngfdfaaGreatDoor
set_option linter.all false
open Go.ChangeShapes Go.WideShapes Go.RowKit
theorem drop_snoc {s : Str} {a k : Nat} (ha : a ≤ k) (h : k < s.length) : (s.take (k + 1)).drop a = (s.take k).drop a ++ [s.getD k 0] := by
  rw [take_snoc1 h, List.drop_append_of_le_length (by rw [List.length_take]; omega)]
theorem not_dig {l : Str} {a k : Nat} (ha : a ≤ k) (hk : k < l.length) (h : isDig (l.getD k 0) = false) : (l.drop a).all isDig = false := by
  cases hh : (l.drop a).all isDig with
  | false => rfl
  | true =>
    have hm : l.getD k 0 ∈ l.drop a := by
      rw [List.mem_iff_getElem]
      refine ⟨k - a, by rw [List.length_drop]; omega, ?_⟩
      rw [List.getElem_drop]; simp [List.getD, show a + (k - a) = k by omega, hk]
    rw [List.all_eq_true.1 hh _ hm] at h; cases h
def rdOf (r s : Str) (v : Int) : Option Int := if r = [] ∨ 7 < r.length ∨ r.all isDig = false then none else if clampI v = v ∧ Lib.itoa v = s then some v else none
theorem rd_neg {s : Str} (h : (byt s 0 == 45) = true) : rdNum s = rdOf (s.drop 1) s (-((decVal (s.drop 1) : Nat) : Int)) := by
  unfold rdNum rdOf; rw [h]; rfl
theorem rd_pos {s : Str} (h : (byt s 0 == 45) = false) : rdNum s = rdOf (s.drop 0) s ((decVal (s.drop 0) : Nat) : Int) := by
  unfold rdNum rdOf; rw [h, List.drop_zero]; rfl
theorem rd_none {r s : Str} {v : Int} (h : r = [] ∨ 7 < r.length ∨ r.all isDig = false) : rdOf r s v = none := if_pos h
theorem rd_some {r s : Str} {v : Int} (h : ¬ (r = [] ∨ 7 < r.length ∨ r.all isDig = false)) (h2 : clampI v = v ∧ Lib.itoa v = s) : rdOf r s v = some v := by unfold rdOf; rw [if_neg h, if_pos h2]
theorem rd_bad {r s : Str} {v : Int} (h2 : ¬ (clampI v = v ∧ Lib.itoa v = s)) : rdOf r s v = none := by
  unfold rdOf; split
  · rfl
  · first | rfl | rw [if_neg h2]
theorem clampI_in {v : Int} (h : clampI v = v) : -1000000 ≤ v ∧ v ≤ 1000000 := by
  unfold clampI at h; split at h
  · omega
  · split at h <;> omega
theorem pow10_le {j : Nat} (h : j ≤ 7) : 10 ^ j ≤ 10000000 := Nat.le_trans (Nat.pow_le_pow_right (by omega) h) (by decide)
set_option maxRecDepth 100000 in
theorem rNumber_no (s : ByteArray) (w : World) (hs : s.size < 100000000) (h0 : 0 < s.size) (hb : (((byt (L s) 0 : Nat) : Int) == 45) = false) (R : Option Int) (HD : Hid (R = rdOf ((L s).drop 0) (L s) ((decVal ((L s).drop 0) : Nat) : Int))) :
    Calls Tryz.prog 90 #[.string s] w fun e w' => e = .returned (numRet R) ∧ Below w.heap.size w w' := by
  have hg := get_l s
  have HL := Lib.hid (size_l s)
  by_cases h1 : s.size = 0
  · have HN : Hid (R = none) := Lib.hid (by rw [HD.out]; exact rd_none (.inl (List.drop_eq_nil_of_le (by rw [HL.out]; omega))))
    have t1 := eqn s.size 0 (by omega)
    clear h1
    go_enter Tryz.func90, Tryz.ntmps90
    go_wp2
    all_goals
      go_ret2
      exact ⟨ret_val (by rw [HN.out]; rfl), Below.refl _ _⟩
  have t1 := nen s.size 0 (by omega)
  by_cases h2 : 7 < s.size
  · have HN : Hid (R = none) := Lib.hid (by rw [HD.out]; exact rd_none (.inr (.inl (by rw [List.length_drop, HL.out]; omega))))
    have t2 : (7 : Int) < s.size := by omega
    clear h1
    go_enter Tryz.func90, Tryz.ntmps90
    go_wp2
    go_ret2
    exact ⟨ret_val (by rw [HN.out]; rfl), Below.refl _ _⟩
  have t2 : ¬ (7 : Int) < s.size := by omega
  have h1' : 0 < s.size := by omega
  clear h1
  go_enter Tryz.func90, Tryz.ntmps90
  go_wp2
  go_loop [5, 6] (fun v i => ∃ k n : Nat, 0 ≤ k ∧ k ≤ s.size ∧ n < 10 ^ (k - 0) ∧ i = .int .i64 k ∧ v = .int .i64 n ∧ Hid ((((L s).take k).drop 0).all isDig = true ∧ decVal (((L s).take k).drop 0) = n)) (fun _ i => s.size - (intOf i).toNat)
  case atStart => exact ⟨0, 0, by omega, by omega, by decide, rfl, rfl, Lib.hid ⟨by rw [List.drop_eq_nil_of_le (by rw [List.length_take]; omega)]; rfl, by rw [List.drop_eq_nil_of_le (by rw [List.length_take]; omega)]; rfl⟩⟩
  case round =>
    obtain ⟨k, n, hak, hk, hn, rfl, rfl, HK⟩ := hrel
    have hp := pow10_le (show k - 0 ≤ 7 by omega)
    by_cases hlt : k < s.size
    · by_cases hd : (48 : Int) ≤ (byt (L s) k : Nat) ∧ ((byt (L s) k : Nat) : Int) ≤ 57
      · obtain ⟨d1, d2⟩ := hd
        have hdig : isDig ((L s).getD k 0) = true := by
          show (decide (48 ≤ byt (L s) k) && decide (byt (L s) k ≤ 57)) = true
          rw [decide_eq_true (by omega), decide_eq_true (by omega)]; rfl
        have HX : Hid ((((L s).take (k + 1)).drop 0).all isDig = true ∧ decVal (((L s).take (k + 1)).drop 0) = n * 10 + (byt (L s) k - 48)) := Lib.hid ⟨by
          rw [drop_snoc hak (by rw [HL.out]; exact hlt), List.all_append, HK.out.1, List.all_cons, hdig]; rfl, by
          rw [drop_snoc hak (by rw [HL.out]; exact hlt), decVal_snoc, HK.out.2]; rfl⟩
        have hpw : 10 ^ (k + 1 - 0) = 10 ^ (k - 0) * 10 := by rw [show k + 1 - 0 = k - 0 + 1 by omega, Nat.pow_succ]
        have hn2 : n * 10 + (byt (L s) k - 48) < 10 ^ (k + 1 - 0) := by rw [hpw]; omega
        have hlim : n ≤ 9999999 := by omega
        have HN2 := Lib.hid hn2
        clear hdig hpw hn hp hn2
        go_wp2
        go_round
        case rel => exact ⟨k + 1, n * 10 + (byt (L s) k - 48), by omega, by omega, HN2.out, by go_num, by rw [show ((n * 10 + (byt (L s) k - 48) : Nat) : Int) = (n : Int) * 10 + (((byt (L s) k : Nat) : Int) - 48) by omega], HX⟩
        case measure => simp [intOf]; omega
      · have HN : Hid (R = none) := Lib.hid (by
          rw [HD.out]; refine rd_none (.inr (.inr (not_dig hak (by rw [HL.out]; exact hlt) ?_)))
          show (decide (48 ≤ byt (L s) k) && decide (byt (L s) k ≤ 57)) = false
          rw [Bool.and_eq_false_iff, decide_eq_false_iff_not, decide_eq_false_iff_not]; omega)
        have hd2 : ((byt (L s) k : Nat) : Int) < 48 ∨ 57 < ((byt (L s) k : Nat) : Int) := by omega
        clear hd hn hp
        rcases hd2 with hd | hd
        all_goals
          go_wp2
          go_ret2
          exact ⟨ret_val (by rw [HN.out]; rfl), Below.refl _ _⟩
    · obtain rfl : k = s.size := by omega
      have hT : (L s).take s.size = L s := List.take_of_length_le (by rw [HL.out]; exact Nat.le_refl _)
      have HK2 : Hid (((L s).drop 0).all isDig = true ∧ decVal ((L s).drop 0) = n) := Lib.hid (by have := HK.out; rwa [hT] at this)
      have hgood : Hid (¬ ((L s).drop 0 = [] ∨ 7 < ((L s).drop 0).length ∨ ((L s).drop 0).all isDig = false)) := Lib.hid (by
        rw [HK2.out.1, List.drop_eq_nil_iff, List.length_drop, HL.out]; intro h; rcases h with h | h | h
        · omega
        · omega
        · cases h)
      have hlim : n ≤ 10000000 := by omega
      clear hT hn hp
      have HV : Hid (R = rdOf ((L s).drop 0) (L s) ((n : Nat) : Int)) := Lib.hid (by rw [HD.out, HK2.out.2])
      by_cases hc : clampI ((n : Nat) : Int) = ((n : Nat) : Int)
      · have hin := clampI_in hc
        have HC := Lib.hid hc
        by_cases hi : Lib.itoa ((n : Nat) : Int) = L s
        · have HN : Hid (R = some ((n : Nat) : Int)) := Lib.hid (by rw [HV.out]; exact rd_some hgood.out ⟨hc, hi⟩)
          have t3 := toList_yes hi
          clear hc hi
          obtain ⟨i1, i2⟩ := hin
          go_wp2_with (first | (go_at_call 108; (with_reducible refine (rClamp_any _ _).mono ?_); rw [HC.out]; rintro e w1 ⟨rfl, rfl⟩) | (go_at_call 60; (with_reducible refine (rText_any _ _ (by omega) (by omega)).mono ?_); rintro e w2 ⟨rfl, hb2⟩))
          go_ret2
          exact ⟨ret_val (by rw [HN.out]; rfl), hb2⟩
        · have HN : Hid (R = none) := Lib.hid (by rw [HV.out]; exact rd_bad fun h => hi h.2)
          have t3 := toList_no hi
          clear hc hi
          obtain ⟨i1, i2⟩ := hin
          go_wp2_with (first | (go_at_call 108; (with_reducible refine (rClamp_any _ _).mono ?_); rw [HC.out]; rintro e w1 ⟨rfl, rfl⟩) | (go_at_call 60; (with_reducible refine (rText_any _ _ (by omega) (by omega)).mono ?_); rintro e w2 ⟨rfl, hb2⟩))
          go_ret2
          exact ⟨ret_val (by rw [HN.out]; rfl), hb2⟩
      · have HN : Hid (R = none) := Lib.hid (by rw [HV.out]; exact rd_bad fun h => hc h.1)
        obtain ⟨c, hcc⟩ : ∃ c, clampI ((n : Nat) : Int) = c := ⟨_, rfl⟩
        rw [hcc] at hc
        have HC := Lib.hid hcc
        have t3 : (c != ((n : Nat) : Int)) = true := by rw [bne_iff_ne]; exact hc
        clear hc hcc
        go_wp2_with (go_at_call 108; (with_reducible refine (rClamp_any _ _).mono ?_); rw [HC.out]; rintro e w1 ⟨rfl, rfl⟩)
        go_ret2
        exact ⟨ret_val (by rw [HN.out]; rfl), Below.refl _ _⟩
set_option maxRecDepth 100000 in
theorem rNumber_yes (s : ByteArray) (w : World) (hs : s.size < 100000000) (h0 : 0 < s.size) (hb : (((byt (L s) 0 : Nat) : Int) == 45) = true) (R : Option Int) (HD : Hid (R = rdOf ((L s).drop 1) (L s) (-((decVal ((L s).drop 1) : Nat) : Int)))) :
    Calls Tryz.prog 90 #[.string s] w fun e w' => e = .returned (numRet R) ∧ Below w.heap.size w w' := by
  have hg := get_l s
  have HL := Lib.hid (size_l s)
  by_cases h1 : s.size = 1
  · have HN : Hid (R = none) := Lib.hid (by rw [HD.out]; exact rd_none (.inl (List.drop_eq_nil_of_le (by rw [HL.out]; omega))))
    have t1 := eqn s.size 1 (by omega)
    clear h1
    go_enter Tryz.func90, Tryz.ntmps90
    go_wp2
    all_goals
      go_ret2
      exact ⟨ret_val (by rw [HN.out]; rfl), Below.refl _ _⟩
  have t1 := nen s.size 1 (by omega)
  by_cases h2 : 8 < s.size
  · have HN : Hid (R = none) := Lib.hid (by rw [HD.out]; exact rd_none (.inr (.inl (by rw [List.length_drop, HL.out]; omega))))
    have t2 : (8 : Int) < s.size := by omega
    clear h1
    go_enter Tryz.func90, Tryz.ntmps90
    go_wp2
    go_ret2
    exact ⟨ret_val (by rw [HN.out]; rfl), Below.refl _ _⟩
  have t2 : ¬ (8 : Int) < s.size := by omega
  have h1' : 1 < s.size := by omega
  clear h1
  go_enter Tryz.func90, Tryz.ntmps90
  go_wp2
  go_loop [5, 6] (fun v i => ∃ k n : Nat, 1 ≤ k ∧ k ≤ s.size ∧ n < 10 ^ (k - 1) ∧ i = .int .i64 k ∧ v = .int .i64 n ∧ Hid ((((L s).take k).drop 1).all isDig = true ∧ decVal (((L s).take k).drop 1) = n)) (fun _ i => s.size - (intOf i).toNat)
  case atStart => exact ⟨1, 0, by omega, by omega, by decide, rfl, rfl, Lib.hid ⟨by rw [List.drop_eq_nil_of_le (by rw [List.length_take]; omega)]; rfl, by rw [List.drop_eq_nil_of_le (by rw [List.length_take]; omega)]; rfl⟩⟩
  case round =>
    obtain ⟨k, n, hak, hk, hn, rfl, rfl, HK⟩ := hrel
    have hp := pow10_le (show k - 1 ≤ 7 by omega)
    by_cases hlt : k < s.size
    · by_cases hd : (48 : Int) ≤ (byt (L s) k : Nat) ∧ ((byt (L s) k : Nat) : Int) ≤ 57
      · obtain ⟨d1, d2⟩ := hd
        have hdig : isDig ((L s).getD k 0) = true := by
          show (decide (48 ≤ byt (L s) k) && decide (byt (L s) k ≤ 57)) = true
          rw [decide_eq_true (by omega), decide_eq_true (by omega)]; rfl
        have HX : Hid ((((L s).take (k + 1)).drop 1).all isDig = true ∧ decVal (((L s).take (k + 1)).drop 1) = n * 10 + (byt (L s) k - 48)) := Lib.hid ⟨by
          rw [drop_snoc hak (by rw [HL.out]; exact hlt), List.all_append, HK.out.1, List.all_cons, hdig]; rfl, by
          rw [drop_snoc hak (by rw [HL.out]; exact hlt), decVal_snoc, HK.out.2]; rfl⟩
        have hpw : 10 ^ (k + 1 - 1) = 10 ^ (k - 1) * 10 := by rw [show k + 1 - 1 = k - 1 + 1 by omega, Nat.pow_succ]
        have hn2 : n * 10 + (byt (L s) k - 48) < 10 ^ (k + 1 - 1) := by rw [hpw]; omega
        have hlim : n ≤ 9999999 := by omega
        have HN2 := Lib.hid hn2
        clear hdig hpw hn hp hn2
        go_wp2
        go_round
        case rel => exact ⟨k + 1, n * 10 + (byt (L s) k - 48), by omega, by omega, HN2.out, by go_num, by rw [show ((n * 10 + (byt (L s) k - 48) : Nat) : Int) = (n : Int) * 10 + (((byt (L s) k : Nat) : Int) - 48) by omega], HX⟩
        case measure => simp [intOf]; omega
      · have HN : Hid (R = none) := Lib.hid (by
          rw [HD.out]; refine rd_none (.inr (.inr (not_dig hak (by rw [HL.out]; exact hlt) ?_)))
          show (decide (48 ≤ byt (L s) k) && decide (byt (L s) k ≤ 57)) = false
          rw [Bool.and_eq_false_iff, decide_eq_false_iff_not, decide_eq_false_iff_not]; omega)
        have hd2 : ((byt (L s) k : Nat) : Int) < 48 ∨ 57 < ((byt (L s) k : Nat) : Int) := by omega
        clear hd hn hp
        rcases hd2 with hd | hd
        all_goals
          go_wp2
          go_ret2
          exact ⟨ret_val (by rw [HN.out]; rfl), Below.refl _ _⟩
    · obtain rfl : k = s.size := by omega
      have hT : (L s).take s.size = L s := List.take_of_length_le (by rw [HL.out]; exact Nat.le_refl _)
      have HK2 : Hid (((L s).drop 1).all isDig = true ∧ decVal ((L s).drop 1) = n) := Lib.hid (by have := HK.out; rwa [hT] at this)
      have hgood : Hid (¬ ((L s).drop 1 = [] ∨ 7 < ((L s).drop 1).length ∨ ((L s).drop 1).all isDig = false)) := Lib.hid (by
        rw [HK2.out.1, List.drop_eq_nil_iff, List.length_drop, HL.out]; intro h; rcases h with h | h | h
        · omega
        · omega
        · cases h)
      have hlim : n ≤ 10000000 := by omega
      clear hT hn hp
      have HV : Hid (R = rdOf ((L s).drop 1) (L s) (-((n : Nat) : Int))) := Lib.hid (by rw [HD.out, HK2.out.2])
      by_cases hc : clampI (-((n : Nat) : Int)) = (-((n : Nat) : Int))
      · have hin := clampI_in hc
        have HC := Lib.hid hc
        by_cases hi : Lib.itoa (-((n : Nat) : Int)) = L s
        · have HN : Hid (R = some (-((n : Nat) : Int))) := Lib.hid (by rw [HV.out]; exact rd_some hgood.out ⟨hc, hi⟩)
          have t3 := toList_yes hi
          clear hc hi
          obtain ⟨i1, i2⟩ := hin
          go_wp2_with (first | (go_at_call 108; (with_reducible refine (rClamp_any _ _).mono ?_); rw [HC.out]; rintro e w1 ⟨rfl, rfl⟩) | (go_at_call 60; (with_reducible refine (rText_any _ _ (by omega) (by omega)).mono ?_); rintro e w2 ⟨rfl, hb2⟩))
          go_ret2
          exact ⟨ret_val (by rw [HN.out]; rfl), hb2⟩
        · have HN : Hid (R = none) := Lib.hid (by rw [HV.out]; exact rd_bad fun h => hi h.2)
          have t3 := toList_no hi
          clear hc hi
          obtain ⟨i1, i2⟩ := hin
          go_wp2_with (first | (go_at_call 108; (with_reducible refine (rClamp_any _ _).mono ?_); rw [HC.out]; rintro e w1 ⟨rfl, rfl⟩) | (go_at_call 60; (with_reducible refine (rText_any _ _ (by omega) (by omega)).mono ?_); rintro e w2 ⟨rfl, hb2⟩))
          go_ret2
          exact ⟨ret_val (by rw [HN.out]; rfl), hb2⟩
      · have HN : Hid (R = none) := Lib.hid (by rw [HV.out]; exact rd_bad fun h => hc h.1)
        obtain ⟨c, hcc⟩ : ∃ c, clampI (-((n : Nat) : Int)) = c := ⟨_, rfl⟩
        rw [hcc] at hc
        have HC := Lib.hid hcc
        have t3 : (c != (-((n : Nat) : Int))) = true := by rw [bne_iff_ne]; exact hc
        clear hc hcc
        go_wp2_with (go_at_call 108; (with_reducible refine (rClamp_any _ _).mono ?_); rw [HC.out]; rintro e w1 ⟨rfl, rfl⟩)
        go_ret2
        exact ⟨ret_val (by rw [HN.out]; rfl), Below.refl _ _⟩
theorem rNumber_any (s : ByteArray) (w : World) (hs : s.size < 100000000) :
    Calls Tryz.prog 90 #[.string s] w fun e w' => e = .returned (numRet (rdNum (L s))) ∧ Below w.heap.size w w' := by
  by_cases h0 : 0 < s.size
  · cases hb : (byt (L s) 0 == 45)
    · exact rNumber_no s w hs h0 (nen _ 45 (by rw [beq_eq_false_iff_ne] at hb; omega)) _ (Lib.hid (rd_pos hb))
    · exact rNumber_yes s w hs h0 (eqn _ 45 (by rw [beq_iff_eq] at hb; omega)) _ (Lib.hid (rd_neg hb))
  · obtain rfl : s = ByteArray.empty := ByteArray.size_eq_zero_iff.1 (by omega)
    have HN : Hid (rdNum (L ByteArray.empty) = none) := Lib.hid rfl
    generalize rdNum (L ByteArray.empty) = R at *
    go_enter Tryz.func90, Tryz.ntmps90
    go_wp2
    go_ret2
    exact ⟨ret_val (by rw [HN.out]; rfl), Below.refl _ _⟩
end Go.Proofs.YthpleohkngfdfaaGreatDoor
