/- Walks: package word: Cut at a star. Conditions: the text is shorter than 100 million bytes. -/
import Derived.Test.YtcbegdjmopgbbaaGreatDoorMMem
import Derived.Deep.RegionHeld3
import Derived.OwnWalk
namespace Go.Proofs.YtcbegdjmopgbbaaGreatDoor
set_option linter.all false
open Go.ChangeShapes Go.WideShapes Go.RowKit
def cutRet (s : ByteArray) (o : Option (Str × Str)) : Value := match o with | some p => .tuple #[.string (B p.1), .string (B p.2), .bool true] | none => .tuple #[.string s, .string ⟨#[]⟩, .bool false]
theorem hasPre_is (s p : ByteArray) (w : World) (pl : Str) (hp : L p = pl) (b : Bool) (h : Hid (Lib.hasPrefix (L s) pl = b)) :
    Calls Tryz.prog 89 #[.string s, .string p] w fun e w' => e = .returned (.bool b) ∧ w = w' := by
  subst hp
  exact (Tryz.strings_HasPrefix s p w).mono fun _ _ h' => ⟨h'.1.trans (by rw [← h.out]; rfl), h'.2.symm⟩
theorem cutD_at {s : Str} {k d : Nat} (h : k < s.length) : cutD 42 d (s.drop k) = if d = 0 ∧ byt s k = 42 then some ([], s.drop (k + 1)) else (cutD 42 (deeperN d (byt s k)) (s.drop (k + 1))).map fun p => (s.getD k 0 :: p.1, p.2) := by
  rw [List.drop_eq_getElem_cons h, cutD]
  have e : s[k] = s.getD k 0 := by simp [List.getD, h]
  rw [e]; rfl
theorem pre_star {s : Str} {k : Nat} (h : k < s.length) : Lib.hasPrefix (s.drop k) [42] = (byt s k == 42) := by
  rw [List.drop_eq_getElem_cons h]
  have e : s[k] = s.getD k 0 := by simp [List.getD, h]
  rw [e]
  unfold Lib.hasPrefix byt
  rw [Bool.eq_iff_iff]
  simp [List.isPrefixOf]
  exact ⟨fun e => by rw [← e]; rfl, fun e => (UInt8.toNat_inj.1 e).symm⟩
theorem take_one {s : Str} {k : Nat} (h : k < s.length) (l : Str) : s.take k ++ (s.getD k 0 :: l) = s.take (k + 1) ++ l := by
  rw [List.take_succ_eq_append_getElem h, List.append_assoc]
  simp [List.getD, h]
theorem map_take {s : Str} {k : Nat} (h : k < s.length) (o : Option (Str × Str)) : ((o.map fun p => (s.getD k 0 :: p.1, p.2)).map fun p => (s.take k ++ p.1, p.2)) = o.map fun p => (s.take (k + 1) ++ p.1, p.2) := by
  cases o with
  | none => rfl
  | some p => simp only [Option.map_some]; rw [take_one h]
set_option maxRecDepth 100000 in
set_option maxHeartbeats 2000000 in
theorem wcut_any (s : ByteArray) (w : World) (hs : s.size < 100000000) :
    Calls Tryz.prog 60 #[.string s, .string ⟨#[42]⟩] w fun e w' => e = .returned (cutRet s (cutD 42 0 (L s))) ∧ Below w.heap.size w w' := by
  have hg := get_l s
  have HL := Lib.hid (size_l s)
  obtain ⟨R, hR⟩ : ∃ R, cutD 42 0 (L s) = R := ⟨_, rfl⟩
  rw [hR]
  have HR := Lib.hid hR
  clear hR
  go_enter Tryz.func60, Tryz.ntmps60
  go_wp2
  go_loop [7, 8] (fun dv kv => ∃ k d : Nat, k ≤ s.size ∧ d ≤ k ∧ kv = .int .i64 k ∧ dv = .int .i64 d ∧ Hid (R = (cutD 42 d ((L s).drop k)).map fun p => ((L s).take k ++ p.1, p.2))) (fun _ kv => s.size - (intOf kv).toNat)
  case atStart => exact ⟨0, 0, by omega, by omega, rfl, rfl, Lib.hid (by rw [← HR.out]; simp)⟩
  case round =>
    obtain ⟨k, d, hk, hd, rfl, rfl, HD⟩ := hrel
    by_cases hlt : k < s.size
    · have hkl : k < (L s).length := by rw [HL.out]; exact hlt
      have hst := HD.out
      rw [cutD_at hkl] at hst
      have hX : L (s.extract k s.size) = (L s).drop k := by rw [L_extract, List.take_of_length_le (by rw [HL.out]; exact Nat.le_refl _)]
      by_cases h0 : d = 0
      · subst h0
        by_cases h42 : byt (L s) k = 42
        · rw [if_pos ⟨rfl, h42⟩] at hst
          have HP : Hid (Lib.hasPrefix (L (s.extract k s.size)) [42] = true) := Lib.hid (by rw [hX, pre_star hkl, h42]; rfl)
          have HN : Hid (R = some ((L s).take k, (L s).drop (k + 1))) := Lib.hid (by rw [hst]; simp)
          have E1 : Hid (s.extract 0 k = B ((L s).take k)) := Lib.hid (L_inj (by rw [L_extract, L_B]; rfl))
          have E2 : Hid (s.extract (k + 1) s.size = B ((L s).drop (k + 1))) := Lib.hid (L_inj (by rw [L_extract, L_B, List.take_of_length_le (by rw [HL.out]; exact Nat.le_refl _)]))
          have EV : Hid (cutRet s R = .tuple #[.string (s.extract 0 k), .string (s.extract (k + 1) s.size), .bool true]) := Lib.hid (by rw [HN.out, E1.out, E2.out]; rfl)
          have hkI : (0 : Int) ≤ (k : Int) := by omega
          have hkS : (k : Int) ≤ (s.size : Int) := by omega
          have hk1 : (k : Int) + 1 ≤ (s.size : Int) := by omega
          have hkw : IntKind.i64.wrap ((k : Int) + 1) = (k : Int) + 1 := i64_wrap_nat _ (by omega) (by omega)
          have hk0 : (0 : Int) ≤ (k : Int) + 1 := by omega
          clear hst hX h42
          go_wp2_with (go_at_call 89; (with_reducible refine (hasPre_is _ _ _ [42] rfl true HP).mono ?_); rintro e w1 ⟨rfl, rfl⟩)
          go_region_held3 (fun w' => Below w.heap.size w w') (first | exact (Below.refl _ _).drew | assumption) (fail)
          all_goals
            go_wp2
            go_ret3
            exact ⟨by rw [EV.out]; rfl, (Below.refl _ _).drew⟩
        · rw [if_neg (fun h => h42 h.2)] at hst
          have HP : Hid (Lib.hasPrefix (L (s.extract k s.size)) [42] = false) := Lib.hid (by rw [hX, pre_star hkl, beq_eq_false_iff_ne]; exact h42)
          have HN : Hid (R = (cutD 42 (deeperN 0 (byt (L s) k)) ((L s).drop (k + 1))).map fun p => ((L s).take (k + 1) ++ p.1, p.2)) := Lib.hid (by rw [hst, map_take hkl])
          have hdn : deeperN 0 (byt (L s) k) ≤ k + 1 := Nat.le_trans (deeperN_le _ _) (by omega)
          clear hst hX h42
          generalize hdd : deeperN 0 (byt (L s) k) = dd at *
          have HDD := Lib.hid hdd
          clear hdd
          go_wp2_with (first | (go_at_call 89; (with_reducible refine (hasPre_is _ _ _ [42] rfl false HP).mono ?_); rintro e w1 ⟨rfl, rfl⟩) | (go_at_call 90; (refine (deeper_any 0 _ (by omega) _).mono ?_); rw [HDD.out]; rintro e w1 ⟨rfl, rfl⟩))
          go_round
          case rel => exact ⟨k + 1, dd, by omega, hdn, by go_num, rfl, HN⟩
          case measure => simp [intOf]; omega
      · have t0 : ((d : Int) == 0) = false := by rw [beq_eq_false_iff_ne]; omega
        rw [if_neg (fun h => h0 h.1)] at hst
        have HN : Hid (R = (cutD 42 (deeperN d (byt (L s) k)) ((L s).drop (k + 1))).map fun p => ((L s).take (k + 1) ++ p.1, p.2)) := Lib.hid (by rw [hst, map_take hkl])
        have hdn : deeperN d (byt (L s) k) ≤ k + 1 := Nat.le_trans (deeperN_le _ _) (by omega)
        clear hst hX h0
        generalize hdd : deeperN d (byt (L s) k) = dd at *
        have HDD := Lib.hid hdd
        clear hdd
        go_wp2_with (first | (go_at_call 90; (with_reducible refine (deeper_any d _ (by omega) _).mono ?_); rw [HDD.out]; rintro e w1 ⟨rfl, rfl⟩))
        go_round
        case rel => exact ⟨k + 1, dd, by omega, hdn, by go_num, rfl, HN⟩
        case measure => simp [intOf]; omega
    · obtain rfl : k = s.size := by omega
      have HN : Hid (none = R) := Lib.hid (by rw [HD.out, List.drop_of_length_le (by rw [HL.out]; exact Nat.le_refl _)]; rfl)
      go_wp2
      go_ret3
      exact ⟨ret_val (by rw [← HN.out]; rfl), Below.refl _ _⟩
end Go.Proofs.YtcbegdjmopgbbaaGreatDoor
