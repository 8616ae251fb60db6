/- Walks: package filter: the reader's fixed words. Conditions: none. -/
import Derived.Test.YthpleohkngfdfaaGreatDoorReader
namespace Go.Proofs.YthpleohkngfdfaaGreatDoor
set_option linter.all false
open Go.ChangeShapes Go.WideShapes Go.RowKit
theorem zoneOf_step {k : Nat} {s : Str} (hk : k ≤ 5) : (List.range' k (6 - k)).find? (fun z => wd zoneT z == s) = if wd zoneT k = s then some k else (List.range' (k + 1) (6 - (k + 1))).find? (fun z => wd zoneT z == s) := by
  rw [show 6 - k = (6 - (k + 1)) + 1 by omega, List.range'_succ, List.find?_cons]
  by_cases h : wd zoneT k = s
  · rw [if_pos h, show (wd zoneT k == s) = true by simpa using h]
  · rw [if_neg h, show (wd zoneT k == s) = false by simpa using h]
theorem toList_lit_yes {a : Str} {s : ByteArray} (h : L s = a) : (s.toList == a) = true := by rw [L_toList]; simpa using h
theorem toList_lit_no {a : Str} {s : ByteArray} (h : ¬ L s = a) : (s.toList == a) = false := by rw [L_toList]; simpa using h
set_option maxRecDepth 100000 in
theorem simple_zone (s : ByteArray) (f : Flt) (z : Nat) (w : World) (b g : Nat) (hw : Rd w b g f) (h : Hid (zoneOf (L s) = some z)) :
    Calls Tryz.prog 63 #[.pointer (some ⟨g, 0, none⟩), .string s] w fun e w' => e = .returned (.bool true) ∧ Rd w' b g { f with zone := (z : Int) } ∧ Fr g b w w' := by
  have c0 : w.cell? ⟨g, 0, none⟩ = some (.int .i64 f.zone) := hw.cell 0
  have f0 := hw.free 0
  go_enter Tryz.func63, Tryz.ntmps63
  go_wp2
  go_loop [5] (fun i => ∃ k : Nat, 1 ≤ k ∧ k ≤ 6 ∧ i = .int .i64 k ∧ Hid (zoneOf (L s) = (List.range' k (6 - k)).find? (fun z => wd zoneT z == L s))) (fun i => 6 - (intOf i).toNat)
  case atStart => exact ⟨1, by omega, by omega, rfl, rfl⟩
  case round =>
    obtain ⟨k, hk1, hk, rfl, HZ⟩ := hrel
    by_cases hlt : k ≤ 5
    · have hst := zoneOf_step (s := L s) hlt
      by_cases hm : wd zoneT k = L s
      · rw [if_pos hm] at hst
        have HM : Hid (zoneOf (L s) = some k) := Lib.hid (HZ.out.trans hst)
        have t1 := toList_yes hm
        clear hst hm
        obtain rfl : k = z := by have := HM.out.symm.trans h.out; injection this
        go_wp2_with (go_at_call 20; (with_reducible refine (zoneWord_any _ hlt _).mono ?_); rintro e w2 ⟨rfl, rfl⟩)
        go_ret
        exact ⟨rfl, hw.set_ 0 _ rfl, (Fr.refl _ _ _).setCell hw.2 _⟩
      · rw [if_neg hm] at hst
        have HN : Hid (zoneOf (L s) = (List.range' (k + 1) (6 - (k + 1))).find? (fun z => wd zoneT z == L s)) := Lib.hid (HZ.out.trans hst)
        have t1 := toList_no hm
        clear hst hm
        go_wp2_with (go_at_call 20; (with_reducible refine (zoneWord_any _ hlt _).mono ?_); rintro e w2 ⟨rfl, rfl⟩)
        go_round
        case rel => exact ⟨k + 1, by omega, by omega, by go_num, HN⟩
        case measure => simp [intOf]; omega
    · obtain rfl : k = 6 := by omega
      exfalso
      have := HZ.out.symm.trans h.out
      simp at this
set_option maxRecDepth 100000 in
theorem simple_w0 (s : ByteArray) (f : Flt) (w : World) (b g : Nat) (hw : Rd w b g f) (hz : Hid (zoneOf (L s) = none))  (h0 : Hid (L s = [121, 111, 117, 114, 115])) :
    Calls Tryz.prog 63 #[.pointer (some ⟨g, 0, none⟩), .string s] w fun e w' => e = .returned (.bool true) ∧ Rd w' b g { f with who := 1 } ∧ Fr g b w w' := by
  have c0 : w.cell? ⟨g, 1, none⟩ = some (.int .i64 f.who) := hw.cell 1
  have f0 := hw.free 1
  have t0 : (s.toList == [121, 111, 117, 114, 115]) = true := toList_lit_yes (h0.out)
  go_enter Tryz.func63, Tryz.ntmps63
  go_wp2
  go_loop [5] (fun i => ∃ k : Nat, 1 ≤ k ∧ k ≤ 6 ∧ i = .int .i64 k ∧ Hid (zoneOf (L s) = (List.range' k (6 - k)).find? (fun z => wd zoneT z == L s))) (fun i => 6 - (intOf i).toNat)
  case atStart => exact ⟨1, by omega, by omega, rfl, rfl⟩
  case round =>
    obtain ⟨k, hk1, hk, rfl, HZ⟩ := hrel
    by_cases hlt : k ≤ 5
    · have hst := zoneOf_step (s := L s) hlt
      by_cases hm : wd zoneT k = L s
      · rw [if_pos hm] at hst
        have HM : Hid (zoneOf (L s) = some k) := Lib.hid (HZ.out.trans hst)
        have t1 := toList_yes hm
        clear hst hm
        exfalso
        have := HM.out.symm.trans hz.out
        cases this
      · rw [if_neg hm] at hst
        have HN : Hid (zoneOf (L s) = (List.range' (k + 1) (6 - (k + 1))).find? (fun z => wd zoneT z == L s)) := Lib.hid (HZ.out.trans hst)
        have t1 := toList_no hm
        clear hst hm
        go_wp2_with (go_at_call 20; (with_reducible refine (zoneWord_any _ hlt _).mono ?_); rintro e w2 ⟨rfl, rfl⟩)
        go_round
        case rel => exact ⟨k + 1, by omega, by omega, by go_num, HN⟩
        case measure => simp [intOf]; omega
    · obtain rfl : k = 6 := by omega
      clear HZ hz
      go_wp2
      go_ret
      exact ⟨rfl, hw.set_ 1 _ rfl, (Fr.refl _ _ _).setCell hw.2 _⟩
set_option maxRecDepth 100000 in
theorem simple_w1 (s : ByteArray) (f : Flt) (w : World) (b g : Nat) (hw : Rd w b g f) (hz : Hid (zoneOf (L s) = none)) (h0 : Hid (¬ L s = [121, 111, 117, 114, 115])) (h1 : Hid (L s = [116, 104, 101, 105, 114, 115])) :
    Calls Tryz.prog 63 #[.pointer (some ⟨g, 0, none⟩), .string s] w fun e w' => e = .returned (.bool true) ∧ Rd w' b g { f with who := 2 } ∧ Fr g b w w' := by
  have c0 : w.cell? ⟨g, 1, none⟩ = some (.int .i64 f.who) := hw.cell 1
  have f0 := hw.free 1
  have t0 : (s.toList == [121, 111, 117, 114, 115]) = false := toList_lit_no (h0.out)
  have t1 : (s.toList == [116, 104, 101, 105, 114, 115]) = true := toList_lit_yes (h1.out)
  go_enter Tryz.func63, Tryz.ntmps63
  go_wp2
  go_loop [5] (fun i => ∃ k : Nat, 1 ≤ k ∧ k ≤ 6 ∧ i = .int .i64 k ∧ Hid (zoneOf (L s) = (List.range' k (6 - k)).find? (fun z => wd zoneT z == L s))) (fun i => 6 - (intOf i).toNat)
  case atStart => exact ⟨1, by omega, by omega, rfl, rfl⟩
  case round =>
    obtain ⟨k, hk1, hk, rfl, HZ⟩ := hrel
    by_cases hlt : k ≤ 5
    · have hst := zoneOf_step (s := L s) hlt
      by_cases hm : wd zoneT k = L s
      · rw [if_pos hm] at hst
        have HM : Hid (zoneOf (L s) = some k) := Lib.hid (HZ.out.trans hst)
        have t1 := toList_yes hm
        clear hst hm
        exfalso
        have := HM.out.symm.trans hz.out
        cases this
      · rw [if_neg hm] at hst
        have HN : Hid (zoneOf (L s) = (List.range' (k + 1) (6 - (k + 1))).find? (fun z => wd zoneT z == L s)) := Lib.hid (HZ.out.trans hst)
        have t1 := toList_no hm
        clear hst hm
        go_wp2_with (go_at_call 20; (with_reducible refine (zoneWord_any _ hlt _).mono ?_); rintro e w2 ⟨rfl, rfl⟩)
        go_round
        case rel => exact ⟨k + 1, by omega, by omega, by go_num, HN⟩
        case measure => simp [intOf]; omega
    · obtain rfl : k = 6 := by omega
      clear HZ hz
      go_wp2
      go_ret
      exact ⟨rfl, hw.set_ 1 _ rfl, (Fr.refl _ _ _).setCell hw.2 _⟩
set_option maxRecDepth 100000 in
theorem simple_w2 (s : ByteArray) (f : Flt) (w : World) (b g : Nat) (hw : Rd w b g f) (hz : Hid (zoneOf (L s) = none)) (h0 : Hid (¬ L s = [121, 111, 117, 114, 115])) (h1 : Hid (¬ L s = [116, 104, 101, 105, 114, 115])) (h2 : Hid (L s = [115, 101, 108, 102])) :
    Calls Tryz.prog 63 #[.pointer (some ⟨g, 0, none⟩), .string s] w fun e w' => e = .returned (.bool true) ∧ Rd w' b g { f with self := 1 } ∧ Fr g b w w' := by
  have c0 : w.cell? ⟨g, 2, none⟩ = some (.int .i64 f.self) := hw.cell 2
  have f0 := hw.free 2
  have t0 : (s.toList == [121, 111, 117, 114, 115]) = false := toList_lit_no (h0.out)
  have t1 : (s.toList == [116, 104, 101, 105, 114, 115]) = false := toList_lit_no (h1.out)
  have t2 : (s.toList == [115, 101, 108, 102]) = true := toList_lit_yes (h2.out)
  go_enter Tryz.func63, Tryz.ntmps63
  go_wp2
  go_loop [5] (fun i => ∃ k : Nat, 1 ≤ k ∧ k ≤ 6 ∧ i = .int .i64 k ∧ Hid (zoneOf (L s) = (List.range' k (6 - k)).find? (fun z => wd zoneT z == L s))) (fun i => 6 - (intOf i).toNat)
  case atStart => exact ⟨1, by omega, by omega, rfl, rfl⟩
  case round =>
    obtain ⟨k, hk1, hk, rfl, HZ⟩ := hrel
    by_cases hlt : k ≤ 5
    · have hst := zoneOf_step (s := L s) hlt
      by_cases hm : wd zoneT k = L s
      · rw [if_pos hm] at hst
        have HM : Hid (zoneOf (L s) = some k) := Lib.hid (HZ.out.trans hst)
        have t1 := toList_yes hm
        clear hst hm
        exfalso
        have := HM.out.symm.trans hz.out
        cases this
      · rw [if_neg hm] at hst
        have HN : Hid (zoneOf (L s) = (List.range' (k + 1) (6 - (k + 1))).find? (fun z => wd zoneT z == L s)) := Lib.hid (HZ.out.trans hst)
        have t1 := toList_no hm
        clear hst hm
        go_wp2_with (go_at_call 20; (with_reducible refine (zoneWord_any _ hlt _).mono ?_); rintro e w2 ⟨rfl, rfl⟩)
        go_round
        case rel => exact ⟨k + 1, by omega, by omega, by go_num, HN⟩
        case measure => simp [intOf]; omega
    · obtain rfl : k = 6 := by omega
      clear HZ hz
      go_wp2
      go_ret
      exact ⟨rfl, hw.set_ 2 _ rfl, (Fr.refl _ _ _).setCell hw.2 _⟩
set_option maxRecDepth 100000 in
theorem simple_w3 (s : ByteArray) (f : Flt) (w : World) (b g : Nat) (hw : Rd w b g f) (hz : Hid (zoneOf (L s) = none)) (h0 : Hid (¬ L s = [121, 111, 117, 114, 115])) (h1 : Hid (¬ L s = [116, 104, 101, 105, 114, 115])) (h2 : Hid (¬ L s = [115, 101, 108, 102])) (h3 : Hid (L s = [111, 116, 104, 101, 114])) :
    Calls Tryz.prog 63 #[.pointer (some ⟨g, 0, none⟩), .string s] w fun e w' => e = .returned (.bool true) ∧ Rd w' b g { f with self := 2 } ∧ Fr g b w w' := by
  have c0 : w.cell? ⟨g, 2, none⟩ = some (.int .i64 f.self) := hw.cell 2
  have f0 := hw.free 2
  have t0 : (s.toList == [121, 111, 117, 114, 115]) = false := toList_lit_no (h0.out)
  have t1 : (s.toList == [116, 104, 101, 105, 114, 115]) = false := toList_lit_no (h1.out)
  have t2 : (s.toList == [115, 101, 108, 102]) = false := toList_lit_no (h2.out)
  have t3 : (s.toList == [111, 116, 104, 101, 114]) = true := toList_lit_yes (h3.out)
  go_enter Tryz.func63, Tryz.ntmps63
  go_wp2
  go_loop [5] (fun i => ∃ k : Nat, 1 ≤ k ∧ k ≤ 6 ∧ i = .int .i64 k ∧ Hid (zoneOf (L s) = (List.range' k (6 - k)).find? (fun z => wd zoneT z == L s))) (fun i => 6 - (intOf i).toNat)
  case atStart => exact ⟨1, by omega, by omega, rfl, rfl⟩
  case round =>
    obtain ⟨k, hk1, hk, rfl, HZ⟩ := hrel
    by_cases hlt : k ≤ 5
    · have hst := zoneOf_step (s := L s) hlt
      by_cases hm : wd zoneT k = L s
      · rw [if_pos hm] at hst
        have HM : Hid (zoneOf (L s) = some k) := Lib.hid (HZ.out.trans hst)
        have t1 := toList_yes hm
        clear hst hm
        exfalso
        have := HM.out.symm.trans hz.out
        cases this
      · rw [if_neg hm] at hst
        have HN : Hid (zoneOf (L s) = (List.range' (k + 1) (6 - (k + 1))).find? (fun z => wd zoneT z == L s)) := Lib.hid (HZ.out.trans hst)
        have t1 := toList_no hm
        clear hst hm
        go_wp2_with (go_at_call 20; (with_reducible refine (zoneWord_any _ hlt _).mono ?_); rintro e w2 ⟨rfl, rfl⟩)
        go_round
        case rel => exact ⟨k + 1, by omega, by omega, by go_num, HN⟩
        case measure => simp [intOf]; omega
    · obtain rfl : k = 6 := by omega
      clear HZ hz
      go_wp2
      go_ret
      exact ⟨rfl, hw.set_ 2 _ rfl, (Fr.refl _ _ _).setCell hw.2 _⟩
set_option maxRecDepth 100000 in
theorem simple_w4 (s : ByteArray) (f : Flt) (w : World) (b g : Nat) (hw : Rd w b g f) (hz : Hid (zoneOf (L s) = none)) (h0 : Hid (¬ L s = [121, 111, 117, 114, 115])) (h1 : Hid (¬ L s = [116, 104, 101, 105, 114, 115])) (h2 : Hid (¬ L s = [115, 101, 108, 102])) (h3 : Hid (¬ L s = [111, 116, 104, 101, 114])) (h4 : Hid (L s = [116, 97, 112, 112, 101, 100])) :
    Calls Tryz.prog 63 #[.pointer (some ⟨g, 0, none⟩), .string s] w fun e w' => e = .returned (.bool true) ∧ Rd w' b g { f with tap := 1 } ∧ Fr g b w w' := by
  have c0 : w.cell? ⟨g, 9, none⟩ = some (.int .i64 f.tap) := hw.cell 9
  have f0 := hw.free 9
  have t0 : (s.toList == [121, 111, 117, 114, 115]) = false := toList_lit_no (h0.out)
  have t1 : (s.toList == [116, 104, 101, 105, 114, 115]) = false := toList_lit_no (h1.out)
  have t2 : (s.toList == [115, 101, 108, 102]) = false := toList_lit_no (h2.out)
  have t3 : (s.toList == [111, 116, 104, 101, 114]) = false := toList_lit_no (h3.out)
  have t4 : (s.toList == [116, 97, 112, 112, 101, 100]) = true := toList_lit_yes (h4.out)
  go_enter Tryz.func63, Tryz.ntmps63
  go_wp2
  go_loop [5] (fun i => ∃ k : Nat, 1 ≤ k ∧ k ≤ 6 ∧ i = .int .i64 k ∧ Hid (zoneOf (L s) = (List.range' k (6 - k)).find? (fun z => wd zoneT z == L s))) (fun i => 6 - (intOf i).toNat)
  case atStart => exact ⟨1, by omega, by omega, rfl, rfl⟩
  case round =>
    obtain ⟨k, hk1, hk, rfl, HZ⟩ := hrel
    by_cases hlt : k ≤ 5
    · have hst := zoneOf_step (s := L s) hlt
      by_cases hm : wd zoneT k = L s
      · rw [if_pos hm] at hst
        have HM : Hid (zoneOf (L s) = some k) := Lib.hid (HZ.out.trans hst)
        have t1 := toList_yes hm
        clear hst hm
        exfalso
        have := HM.out.symm.trans hz.out
        cases this
      · rw [if_neg hm] at hst
        have HN : Hid (zoneOf (L s) = (List.range' (k + 1) (6 - (k + 1))).find? (fun z => wd zoneT z == L s)) := Lib.hid (HZ.out.trans hst)
        have t1 := toList_no hm
        clear hst hm
        go_wp2_with (go_at_call 20; (with_reducible refine (zoneWord_any _ hlt _).mono ?_); rintro e w2 ⟨rfl, rfl⟩)
        go_round
        case rel => exact ⟨k + 1, by omega, by omega, by go_num, HN⟩
        case measure => simp [intOf]; omega
    · obtain rfl : k = 6 := by omega
      clear HZ hz
      go_wp2
      go_ret
      exact ⟨rfl, hw.set_ 9 _ rfl, (Fr.refl _ _ _).setCell hw.2 _⟩
set_option maxRecDepth 100000 in
theorem simple_w5 (s : ByteArray) (f : Flt) (w : World) (b g : Nat) (hw : Rd w b g f) (hz : Hid (zoneOf (L s) = none)) (h0 : Hid (¬ L s = [121, 111, 117, 114, 115])) (h1 : Hid (¬ L s = [116, 104, 101, 105, 114, 115])) (h2 : Hid (¬ L s = [115, 101, 108, 102])) (h3 : Hid (¬ L s = [111, 116, 104, 101, 114])) (h4 : Hid (¬ L s = [116, 97, 112, 112, 101, 100])) (h5 : Hid (L s = [117, 110, 116, 97, 112, 112, 101, 100])) :
    Calls Tryz.prog 63 #[.pointer (some ⟨g, 0, none⟩), .string s] w fun e w' => e = .returned (.bool true) ∧ Rd w' b g { f with tap := 2 } ∧ Fr g b w w' := by
  have c0 : w.cell? ⟨g, 9, none⟩ = some (.int .i64 f.tap) := hw.cell 9
  have f0 := hw.free 9
  have t0 : (s.toList == [121, 111, 117, 114, 115]) = false := toList_lit_no (h0.out)
  have t1 : (s.toList == [116, 104, 101, 105, 114, 115]) = false := toList_lit_no (h1.out)
  have t2 : (s.toList == [115, 101, 108, 102]) = false := toList_lit_no (h2.out)
  have t3 : (s.toList == [111, 116, 104, 101, 114]) = false := toList_lit_no (h3.out)
  have t4 : (s.toList == [116, 97, 112, 112, 101, 100]) = false := toList_lit_no (h4.out)
  have t5 : (s.toList == [117, 110, 116, 97, 112, 112, 101, 100]) = true := toList_lit_yes (h5.out)
  go_enter Tryz.func63, Tryz.ntmps63
  go_wp2
  go_loop [5] (fun i => ∃ k : Nat, 1 ≤ k ∧ k ≤ 6 ∧ i = .int .i64 k ∧ Hid (zoneOf (L s) = (List.range' k (6 - k)).find? (fun z => wd zoneT z == L s))) (fun i => 6 - (intOf i).toNat)
  case atStart => exact ⟨1, by omega, by omega, rfl, rfl⟩
  case round =>
    obtain ⟨k, hk1, hk, rfl, HZ⟩ := hrel
    by_cases hlt : k ≤ 5
    · have hst := zoneOf_step (s := L s) hlt
      by_cases hm : wd zoneT k = L s
      · rw [if_pos hm] at hst
        have HM : Hid (zoneOf (L s) = some k) := Lib.hid (HZ.out.trans hst)
        have t1 := toList_yes hm
        clear hst hm
        exfalso
        have := HM.out.symm.trans hz.out
        cases this
      · rw [if_neg hm] at hst
        have HN : Hid (zoneOf (L s) = (List.range' (k + 1) (6 - (k + 1))).find? (fun z => wd zoneT z == L s)) := Lib.hid (HZ.out.trans hst)
        have t1 := toList_no hm
        clear hst hm
        go_wp2_with (go_at_call 20; (with_reducible refine (zoneWord_any _ hlt _).mono ?_); rintro e w2 ⟨rfl, rfl⟩)
        go_round
        case rel => exact ⟨k + 1, by omega, by omega, by go_num, HN⟩
        case measure => simp [intOf]; omega
    · obtain rfl : k = 6 := by omega
      clear HZ hz
      go_wp2
      go_ret
      exact ⟨rfl, hw.set_ 9 _ rfl, (Fr.refl _ _ _).setCell hw.2 _⟩
set_option maxRecDepth 100000 in
theorem simple_no (s : ByteArray) (w : World) (g : Nat) (hz : Hid (zoneOf (L s) = none)) (h0 : Hid (¬ L s = [121, 111, 117, 114, 115])) (h1 : Hid (¬ L s = [116, 104, 101, 105, 114, 115])) (h2 : Hid (¬ L s = [115, 101, 108, 102])) (h3 : Hid (¬ L s = [111, 116, 104, 101, 114])) (h4 : Hid (¬ L s = [116, 97, 112, 112, 101, 100])) (h5 : Hid (¬ L s = [117, 110, 116, 97, 112, 112, 101, 100])) :
    Calls Tryz.prog 63 #[.pointer (some ⟨g, 0, none⟩), .string s] w fun e w' => e = .returned (.bool false) ∧ w = w' := by
  have t0 : (s.toList == [121, 111, 117, 114, 115]) = false := toList_lit_no (h0.out)
  have t1 : (s.toList == [116, 104, 101, 105, 114, 115]) = false := toList_lit_no (h1.out)
  have t2 : (s.toList == [115, 101, 108, 102]) = false := toList_lit_no (h2.out)
  have t3 : (s.toList == [111, 116, 104, 101, 114]) = false := toList_lit_no (h3.out)
  have t4 : (s.toList == [116, 97, 112, 112, 101, 100]) = false := toList_lit_no (h4.out)
  have t5 : (s.toList == [117, 110, 116, 97, 112, 112, 101, 100]) = false := toList_lit_no (h5.out)
  go_enter Tryz.func63, Tryz.ntmps63
  go_wp2
  go_loop [5] (fun i => ∃ k : Nat, 1 ≤ k ∧ k ≤ 6 ∧ i = .int .i64 k ∧ Hid (zoneOf (L s) = (List.range' k (6 - k)).find? (fun z => wd zoneT z == L s))) (fun i => 6 - (intOf i).toNat)
  case atStart => exact ⟨1, by omega, by omega, rfl, rfl⟩
  case round =>
    obtain ⟨k, hk1, hk, rfl, HZ⟩ := hrel
    by_cases hlt : k ≤ 5
    · have hst := zoneOf_step (s := L s) hlt
      by_cases hm : wd zoneT k = L s
      · rw [if_pos hm] at hst
        have HM : Hid (zoneOf (L s) = some k) := Lib.hid (HZ.out.trans hst)
        have t1 := toList_yes hm
        clear hst hm
        exfalso
        have := HM.out.symm.trans hz.out
        cases this
      · rw [if_neg hm] at hst
        have HN : Hid (zoneOf (L s) = (List.range' (k + 1) (6 - (k + 1))).find? (fun z => wd zoneT z == L s)) := Lib.hid (HZ.out.trans hst)
        have t1 := toList_no hm
        clear hst hm
        go_wp2_with (go_at_call 20; (with_reducible refine (zoneWord_any _ hlt _).mono ?_); rintro e w2 ⟨rfl, rfl⟩)
        go_round
        case rel => exact ⟨k + 1, by omega, by omega, by go_num, HN⟩
        case measure => simp [intOf]; omega
    · obtain rfl : k = 6 := by omega
      clear HZ hz
      go_wp2
      go_ret
      exact ⟨rfl, rfl⟩
theorem simple_some (s : ByteArray) (f f' : Flt) (w : World) (b g : Nat) (hw : Rd w b g f) (h : simpleS f (L s) = some f') :
    Calls Tryz.prog 63 #[.pointer (some ⟨g, 0, none⟩), .string s] w fun e w' => e = .returned (.bool true) ∧ Rd w' b g f' ∧ Fr g b w w' := by
  unfold simpleS at h
  cases hz : zoneOf (L s) with
  | some z => rw [hz] at h; injection h with h; subst h; exact simple_zone s f z w b g hw hz
  | none =>
    rw [hz] at h; simp only at h
    by_cases h0 : L s = wd whoT 1
    · rw [if_pos h0] at h; injection h with h; subst h; exact simple_w0 s f w b g hw hz h0
    · rw [if_neg h0] at h
      by_cases h1 : L s = wd whoT 2
      · rw [if_pos h1] at h; injection h with h; subst h; exact simple_w1 s f w b g hw hz h0 h1
      · rw [if_neg h1] at h
        by_cases h2 : L s = wd selfT 1
        · rw [if_pos h2] at h; injection h with h; subst h; exact simple_w2 s f w b g hw hz h0 h1 h2
        · rw [if_neg h2] at h
          by_cases h3 : L s = wd selfT 2
          · rw [if_pos h3] at h; injection h with h; subst h; exact simple_w3 s f w b g hw hz h0 h1 h2 h3
          · rw [if_neg h3] at h
            by_cases h4 : L s = wd tapT 1
            · rw [if_pos h4] at h; injection h with h; subst h; exact simple_w4 s f w b g hw hz h0 h1 h2 h3 h4
            · rw [if_neg h4] at h
              by_cases h5 : L s = wd tapT 2
              · rw [if_pos h5] at h; injection h with h; subst h; exact simple_w5 s f w b g hw hz h0 h1 h2 h3 h4 h5
              · rw [if_neg h5] at h
                cases h
theorem simple_none (s : ByteArray) (f : Flt) (w : World) (g : Nat) (h : simpleS f (L s) = none) :
    Calls Tryz.prog 63 #[.pointer (some ⟨g, 0, none⟩), .string s] w fun e w' => e = .returned (.bool false) ∧ w = w' := by
  unfold simpleS at h
  cases hz : zoneOf (L s) with
  | some z => rw [hz] at h; cases h
  | none =>
    rw [hz] at h; simp only at h
    by_cases h0 : L s = wd whoT 1
    · rw [if_pos h0] at h; cases h
    · rw [if_neg h0] at h
      by_cases h1 : L s = wd whoT 2
      · rw [if_pos h1] at h; cases h
      · rw [if_neg h1] at h
        by_cases h2 : L s = wd selfT 1
        · rw [if_pos h2] at h; cases h
        · rw [if_neg h2] at h
          by_cases h3 : L s = wd selfT 2
          · rw [if_pos h3] at h; cases h
          · rw [if_neg h3] at h
            by_cases h4 : L s = wd tapT 1
            · rw [if_pos h4] at h; cases h
            · rw [if_neg h4] at h
              by_cases h5 : L s = wd tapT 2
              · rw [if_pos h5] at h; cases h
              · rw [if_neg h5] at h
                exact simple_no s w g hz h0 h1 h2 h3 h4 h5
end Go.Proofs.YthpleohkngfdfaaGreatDoor
