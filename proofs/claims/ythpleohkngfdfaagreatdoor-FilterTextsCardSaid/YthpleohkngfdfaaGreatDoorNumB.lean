/- Walks: package num: Clamp and Number. Conditions: Laid; the text is shorter than 4 thousand million bytes. -/
import Derived.Test.YthpleohkngfdfaaGreatDoorWriter
import Derived.Test.YthpleohkngfdfaaGreatDoorRDec
namespace Go.Proofs.YthpleohkngfdfaaGreatDoor
set_option linter.all false
open Go.ChangeShapes Go.WideShapes Go.RowKit
theorem clamp_any (n : Int) (w : World) :
    Calls Tryz.prog 103 #[.int .i64 n] w fun e w' => e = .returned (.int .i64 (clampI n)) ∧ w = w' := by
  have HD : Hid (clampI n = if n < -1000000 then -1000000 else if 1000000 < n then 1000000 else n) := rfl
  generalize clampI n = R at *
  by_cases h1 : n < -1000000
  · have h2 : ¬ 1000000 < n := by omega
    go_enter Tryz.func103, Tryz.ntmps103
    go_wp2
    go_ret
    exact ⟨ret_int (by rw [HD.out]; omega), rfl⟩
  · by_cases h2 : 1000000 < n
    · go_enter Tryz.func103, Tryz.ntmps103
      go_wp2
      go_ret
      exact ⟨ret_int (by rw [HD.out]; omega), rfl⟩
    · go_enter Tryz.func103, Tryz.ntmps103
      go_wp2
      go_ret
      exact ⟨ret_int (by rw [HD.out]; omega), rfl⟩
/-- The number of the game with a text. -/
def numOf (s : Str) : Option Int := match Lib.atoiAll s with
  | .ok v => if -1000000 ≤ v ∧ v ≤ 1000000 ∧ Lib.itoa v = s then some v else none
  | _ => none
def numRet (o : Option Int) : Value := match o with | some v => .tuple #[.int .i64 v, .bool true] | none => .tuple #[.int .i64 0, .bool false]
theorem numOf_ok {s : Str} {v : Int} (h : Lib.atoiAll s = .ok v) : numOf s = if -1000000 ≤ v ∧ v ≤ 1000000 ∧ Lib.itoa v = s then some v else none := by unfold numOf; rw [h]
theorem numOf_no {s : Str} (h : ∀ v, Lib.atoiAll s ≠ .ok v) : numOf s = none := by
  unfold numOf; split
  · rename_i v hv; exact absurd hv (h v)
  · rfl
set_option maxRecDepth 100000 in
theorem number_any (s : ByteArray) (w : World) (hl : Laid w) (hs : s.size < 4294967281) :
    Calls Tryz.prog 86 #[.string s] w fun e w' => e = .returned (numRet (numOf (L s))) ∧ Below w.heap.size w w' := by
  by_cases hok : ∃ v, Lib.atoiAll (L s) = .ok v
  · obtain ⟨v, hv⟩ := hok
    have HD := Lib.hid (numOf_ok hv)
    have HV := Lib.hid hv; clear hv
    have hA : Calls Tryz.prog 102 #[.string s] w fun e w' => e = .returned (.tuple #[.int .i64 v, .nilIface]) ∧ Below w.heap.size w w' :=
      (atoi_any s w hl hs).mono fun e w' ⟨hb, h⟩ => ⟨by
        rcases h with ⟨v', h1, he⟩ | ⟨h1, _⟩
        · rw [HV.out] at h1; cases h1; exact he
        · exact absurd HV.out (h1 v), hb⟩
    have HA := Lib.hid hA; clear hA
    generalize numOf (L s) = R at *
    by_cases h1 : -1000000 ≤ v ∧ v ≤ 1000000
    · have hc : Hid (clampI v = v) := Lib.hid (by unfold clampI; rw [if_neg (by omega), if_neg (by omega)])
      obtain ⟨h2, h3⟩ := h1
      by_cases ht : Lib.itoa v = L s
      · have t1 := toList_yes ht
        have HD2 : Hid (R = some v) := Lib.hid (by rw [HD.out, if_pos ⟨h2, h3, ht⟩])
        clear ht HD
        go_enter Tryz.func86, Tryz.ntmps86
        go_wp2_with (first | (go_at_call 102; (with_reducible refine HA.out.mono ?_); rintro e w1 ⟨rfl, hb1⟩; have hl1 := hl.below hb1) | (go_at_call 103; (with_reducible refine (clamp_any _ _).mono ?_); rintro e w2 ⟨rfl, rfl⟩; rw [hc.out]) | (go_at_call 53; (with_reducible refine (numText_any _ (by omega) (by omega) _ hl1).mono ?_); rintro e w3 ⟨rfl, hb3⟩))
        go_ret2
        exact ⟨ret_val (by rw [HD2.out]; rfl), below_two hb1 hb3⟩
      · have t1 := toList_no ht
        have HD2 : Hid (R = none) := Lib.hid (by rw [HD.out, if_neg (fun h => ht h.2.2)])
        clear ht HD
        go_enter Tryz.func86, Tryz.ntmps86
        go_wp2_with (first | (go_at_call 102; (with_reducible refine HA.out.mono ?_); rintro e w1 ⟨rfl, hb1⟩; have hl1 := hl.below hb1) | (go_at_call 103; (with_reducible refine (clamp_any _ _).mono ?_); rintro e w2 ⟨rfl, rfl⟩; rw [hc.out]) | (go_at_call 53; (with_reducible refine (numText_any _ (by omega) (by omega) _ hl1).mono ?_); rintro e w3 ⟨rfl, hb3⟩))
        go_ret2
        exact ⟨ret_val (by rw [HD2.out]; rfl), below_two hb1 hb3⟩
    · have hc : (v == clampI v) = false := by
        simp only [beq_eq_false_iff_ne, ne_eq]; unfold clampI; split
        · omega
        · split <;> omega
      have hc2 : (v != clampI v) = true := by rw [bne, hc]; rfl
      have HD2 : Hid (R = none) := Lib.hid (by rw [HD.out, if_neg (fun h => h1 ⟨h.1, h.2.1⟩)])
      clear h1 HD hc
      go_enter Tryz.func86, Tryz.ntmps86
      go_wp2_with (first | (go_at_call 102; (with_reducible refine HA.out.mono ?_); rintro e w1 ⟨rfl, hb1⟩; have hl1 := hl.below hb1) | (go_at_call 103; (with_reducible refine (clamp_any _ _).mono ?_); rintro e w2 ⟨rfl, rfl⟩))
      go_ret2
      exact ⟨ret_val (by rw [HD2.out]; rfl), hb1⟩
  · have hno : ∀ v, Lib.atoiAll (L s) ≠ .ok v := fun v h => hok ⟨v, h⟩
    have HD : Hid (numOf (L s) = none) := Lib.hid (numOf_no hno)
    have HN := Lib.hid hno; clear hno hok
    have hA : Calls Tryz.prog 102 #[.string s] w fun e w' => (∃ v t p, e = .returned (.tuple #[.int .i64 v, .iface t p])) ∧ Below w.heap.size w w' :=
      (atoi_any s w hl hs).mono fun e w' ⟨hb, h⟩ => ⟨by
        rcases h with ⟨v', h1, he⟩ | ⟨_, v, t, p, he⟩
        · exact absurd h1 (HN.out v')
        · exact ⟨v, t, p, he⟩, hb⟩
    have HA := Lib.hid hA; clear hA
    generalize numOf (L s) = R at *
    go_enter Tryz.func86, Tryz.ntmps86
    go_wp2_with (go_at_call 102; (with_reducible refine HA.out.mono ?_); rintro e w1 ⟨⟨v, t, p, rfl⟩, hb1⟩)
    go_ret2
    exact ⟨ret_val (by rw [HD.out]; rfl), hb1⟩
end Go.Proofs.YthpleohkngfdfaaGreatDoor
