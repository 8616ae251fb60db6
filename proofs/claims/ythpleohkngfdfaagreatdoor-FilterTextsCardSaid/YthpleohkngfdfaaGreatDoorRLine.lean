/- Walks of the reference: package cardgameref10: IsSub, TypesText. Conditions: bounds. -/
import Derived.Test.YthpleohkngfdfaaGreatDoorRList
import Derived.Test.YthpleohkngfdfaaGreatDoorLineB
import Derived.Test.YthpleohkngfdfaaGreatDoorFPure
namespace Go.Proofs.YthpleohkngfdfaaGreatDoor
set_option linter.all false
open Go.ChangeShapes Go.WideShapes Go.RowKit
theorem texts_lit (l : List Str) (n : Nat) (hn : l.length = n) (hm : n < 1000000) (w : World) (cs : Array Value) (hc : cs = (strCells l).toArray) : Texts (w.alloc (.cells cs 9)) w.heap.size l (.slice (some ⟨w.heap.size, 0, none⟩) n n) := by
  subst hc; subst hn
  refine ⟨by rw [strCells_length]; omega, .inr ⟨w.heap.size, l.length, _, rfl, Nat.le_refl _, heap_alloc_new w _, Nat.le_refl _, by unfold maxLen; omega, ?_, ?_⟩⟩
  · simp [strCells]
  · simp only [List.toList_toArray, Nat.mul_one]
    rw [List.take_of_length_le (by simp [strCells])]
/-- The place of a word in a list, from place k on; -1 if it is not there. -/
def idxFrom : List Str → Nat → Str → Int
  | [], _, _ => -1
  | x :: r, k, s => if x == s then (k : Int) else idxFrom r (k + 1) s
theorem idx_step {T : List Str} {k : Nat} {s : Str} (hk : k < T.length) : idxFrom (T.drop k) k s = if T[k] == s then (k : Int) else idxFrom (T.drop (k + 1)) (k + 1) s := by
  rw [List.drop_eq_getElem_cons hk, idxFrom]
theorem idx_bit (T : List Str) (s : Str) : ∀ k, (bitFrom T k s == 0) = decide (idxFrom T k s < 0) := by
  induction T with
  | nil => intro k; rfl
  | cons x r ih =>
    intro k
    unfold bitFrom idxFrom
    split
    · have : 2 ^ k ≠ 0 := Nat.pos_iff_ne_zero.1 (Nat.pow_pos (by omega))
      rw [Bool.eq_iff_iff]; simp [this]
    · exact ih (k + 1)
theorem beq_toList (x : Str) (s : ByteArray) : ((B x).toList == s.toList) = (x == L s) := by rw [B_toList, L_toList]
theorem rIndex_any (T : List Str) (A : Option Addr) (c base : Nat) (s : ByteArray) (w : World) (h : Texts w base T (.slice A T.length c)) (hT : T.length < 1000000) :
    Calls Tryz.prog 47 #[.slice A T.length c, .string s] w fun e w' => e = .returned (.int .i64 (idxFrom T 0 (L s))) ∧ w = w' := by
  obtain ⟨R, hR⟩ : ∃ R, idxFrom T 0 (L s) = R := ⟨_, rfl⟩
  rw [hR]
  have HR := Lib.hid hR; clear hR
  go_enter Tryz.func47, Tryz.ntmps47
  go_wp2
  go_loop [5] (fun i => ∃ k : Nat, k ≤ T.length ∧ i = .int .i64 k ∧ Hid (idxFrom (T.drop k) k (L s) = R)) (fun i => T.length - (intOf i).toNat)
  case atStart => exact ⟨0, by omega, rfl, by rw [List.drop_zero]; exact HR⟩
  case round =>
    obtain ⟨k, hk, rfl, HD⟩ := hrel
    by_cases hlt : k < T.length
    · obtain ⟨g, rfl, hg, hcl⟩ := h.at_ hlt
      have hst := idx_step (s := L s) hlt
      rw [HD.out] at hst
      have hbe := beq_toList T[k] s
      cases hc : (T[k] == L s)
      · rw [hc] at hst hbe
        rw [B_toList] at hbe
        have HN : Hid (idxFrom (T.drop (k + 1)) (k + 1) (L s) = R) := Lib.hid (by rw [hst]; rfl)
        clear hst hc
        generalize T[k] = x at *
        go_wp2
        go_round
        case rel => exact ⟨k + 1, by omega, by go_num, HN⟩
        case measure => simp [intOf]; omega
      · rw [hc] at hst hbe
        rw [B_toList] at hbe
        have HN : Hid (R = k) := Lib.hid (by rw [hst]; rfl)
        clear hst hc
        generalize T[k] = x at *
        go_wp2
        go_ret
        exact ⟨ret_int HN.out.symm, rfl⟩
    · obtain rfl : k = T.length := by omega
      have HE : Hid (R = -1) := Lib.hid (by rw [← HD.out, List.drop_length]; rfl)
      go_wp2
      go_ret
      exact ⟨ret_int HE.out.symm, rfl⟩
theorem rSuper_any (w : World) : Calls Tryz.prog 48 #[] w (RetTexts w superT) := by
  go_enter Tryz.func48, Tryz.ntmps48
  go_wp2
  go_ret
  exact ⟨_, _, rfl, texts_lit superT _ rfl (by decide) w _ rfl, (Below.refl _ _).alloc (Nat.le_refl _) _⟩
theorem rType_any (w : World) : Calls Tryz.prog 49 #[] w (RetTexts w typeT) := by
  go_enter Tryz.func49, Tryz.ntmps49
  go_wp2
  go_ret
  exact ⟨_, _, rfl, texts_lit typeT _ rfl (by decide) w _ rfl, (Below.refl _ _).alloc (Nat.le_refl _) _⟩
theorem superT_len : superT.length = 2 := rfl
theorem typeT_len : typeT.length = 6 := rfl
theorem rIsSub_any (s : ByteArray) (w : World) :
    Calls Tryz.prog 17 #[.string s] w fun e w' => e = .returned (.bool (isSub (L s))) ∧ Below w.heap.size w w' := by
  have HD : Hid (isSub (L s) = (isName (L s) && (decide (idxFrom superT 0 (L s) < 0) && decide (idxFrom typeT 0 (L s) < 0)))) := Lib.hid (by unfold isSub; rw [idx_bit, idx_bit])
  generalize isSub (L s) = R at *
  generalize hi : idxFrom superT 0 (L s) = i1 at *
  generalize hj : idxFrom typeT 0 (L s) = i2 at *
  have Hi := Lib.hid hi; have Hj := Lib.hid hj; clear hi hj
  go_enter Tryz.func17, Tryz.ntmps17
  go_wp2_with (first | (go_at_call 46; (with_reducible refine (rWordIs_any _ _).mono ?_); rintro e w1 ⟨rfl, rfl⟩) | (go_at_call 48; (with_reducible refine (rSuper_any _).mono ?_); rintro e w2 ⟨A, c, rfl, ht, hb1⟩) | (go_at_call 49; (with_reducible refine (rType_any _).mono ?_); rintro e w3 ⟨A2, c2, rfl, ht2, hb2⟩) | (go_at_call 47; (with_reducible refine (rIndex_any superT _ _ _ _ _ ht (by decide)).mono ?_); rw [Hi.out]; rintro e w4 ⟨rfl, rfl⟩) | (go_at_call 47; (with_reducible refine (rIndex_any typeT _ _ _ _ _ ht2 (by decide)).mono ?_); rw [Hj.out]; rintro e w5 ⟨rfl, rfl⟩))
  all_goals
    go_ret
    refine ⟨ret_bool ?_, ?_⟩
    · rw [HD.out]; simp [*] <;> omega
    · first | exact Below.refl _ _ | exact below_two hb1 hb2 | exact hb1
theorem rBit_any (m i : Nat) (w : World) (hm : m < 2 ^ 31) (hi : i < 100) :
    Calls Tryz.prog 95 #[.int .i64 m, .int .i64 i] w fun e w' => e = .returned (.bool (m.testBit i)) ∧ w = w' := by
  have HB : Hid (m.testBit i = decide (m / 2 ^ i % 2 = 1)) := Lib.hid Nat.testBit_eq_decide_div_mod_eq
  generalize m.testBit i = R at *
  go_enter Tryz.func95, Tryz.ntmps95
  go_wp2
  go_loop [0, 5] (fun v k => ∃ j n : Nat, j ≤ i ∧ n < 2 ^ 31 ∧ k = .int .i64 j ∧ v = .int .i64 n ∧ Hid (m / 2 ^ j = n)) (fun _ k => i - (intOf k).toNat)
  case atStart => exact ⟨0, m, by omega, hm, rfl, rfl, by simp [Hid]⟩
  case round =>
    obtain ⟨j, n, hj, hn, rfl, rfl, HN⟩ := hrel
    by_cases hlt : j < i
    · have HX : Hid (m / 2 ^ (j + 1) = n / 2) := Lib.hid (by rw [Nat.pow_succ, ← Nat.div_div_eq_div_mul, HN.out])
      go_wp2
      go_round
      case rel => exact ⟨j + 1, n / 2, by omega, by omega, by go_num, by go_num, HX⟩
      case measure => simp [intOf]; omega
    · obtain rfl : j = i := by omega
      have HE : Hid (R = decide (n % 2 = 1)) := Lib.hid (by rw [HB.out, HN.out])
      go_wp2
      go_ret
      exact ⟨ret_bool (by rw [HE.out, Bool.eq_iff_iff]; simp; omega), rfl⟩
/-- The words of the bits of m below k, joined. -/
def jBits (T : List Str) (m : Nat) (sep : Str) : Nat → Str
  | 0 => []
  | k + 1 => if m.testBit k then (if jBits T m sep k = [] then T.getD k [] else jBits T m sep k ++ sep ++ T.getD k []) else jBits T m sep k
theorem jBits_len (T : List Str) (m : Nat) (sep : Str) (hT : ∀ x ∈ T, x.length ≤ 100) (hs : sep.length ≤ 100) : ∀ k, (jBits T m sep k).length ≤ 200 * k
  | 0 => by simp [jBits]
  | k + 1 => by
    have ih := jBits_len T m sep hT hs k
    have hw := wd_len hT k
    unfold wd at hw
    rw [jBits]; split
    · split
      · omega
      · simp only [List.length_append]; omega
    · omega
set_option maxRecDepth 100000 in
theorem rJoined_any (T : List Str) (A : Option Addr) (c base m : Nat) (sep : ByteArray) (sl : Str) (hsl : L sep = sl) (w : World) (h : Texts w base T (.slice A T.length c)) (hm : m < 2 ^ 31) (hT : T.length ≤ 31) (hw : ∀ x ∈ T, x.length ≤ 100) (hss : sl.length ≤ 100) :
    Calls Tryz.prog 78 #[.slice A T.length c, .int .i64 m, .string sep] w fun e w' => e = .returned (.string (B (jBits T m sl T.length))) ∧ w = w' := by
  subst hsl
  have hsz : sep.size ≤ 100 := by rw [size_l] at hss; exact hss
  have HJ := Lib.hid (jBits_len T m (L sep) hw hss)
  obtain ⟨R, hR⟩ : ∃ R, jBits T m (L sep) T.length = R := ⟨_, rfl⟩
  rw [hR]
  have HR := Lib.hid hR
  have HW := Lib.hid hw
  clear hR hw hss
  go_enter Tryz.func78, Tryz.ntmps78
  go_wp2
  go_loop [7, 8] (fun v i => ∃ k : Nat, ∃ p : Str, k ≤ T.length ∧ i = .int .i64 k ∧ v = .string (B p) ∧ Hid (jBits T m (L sep) k = p)) (fun _ i => T.length - (intOf i).toNat)
  case atStart => exact ⟨0, [], by omega, rfl, rfl, rfl⟩
  case round =>
    obtain ⟨k, p, hk, rfl, rfl, HP⟩ := hrel
    by_cases hlt : k < T.length
    · obtain ⟨g, rfl, hg, hcl⟩ := h.at_ hlt
      have hst : jBits T m (L sep) (k + 1) = if m.testBit k then (if p = [] then T[k] else p ++ L sep ++ T[k]) else p := by
        rw [jBits, HP.out]; simp [List.getD, hlt]
      have hpl : p.length ≤ 10000 := by have := HJ.out k; rw [HP.out] at this; omega
      have hxl : T[k].length ≤ 100 := HW.out _ (List.getElem_mem hlt)
      cases hb : m.testBit k
      · rw [hb] at hst
        have HN : Hid (jBits T m (L sep) (k + 1) = p) := Lib.hid (by rw [hst]; rfl)
        have HB := Lib.hid hb
        clear hst hb hcl
        go_wp2_with (go_at_call 95; (with_reducible refine (rBit_any _ _ _ hm (by omega)).mono ?_); rw [HB.out]; rintro e w1 ⟨rfl, rfl⟩)
        go_round
        case rel => exact ⟨k + 1, p, by omega, by go_num, rfl, HN⟩
        case measure => simp [intOf]; omega
      · rw [hb] at hst
        have HB := Lib.hid hb
        clear hb
        generalize T[k] = x at *
        by_cases hp : p = []
        · subst hp
          have HN : Hid (jBits T m (L sep) (k + 1) = x) := Lib.hid (by rw [hst]; rfl)
          clear hst
          go_wp2_with (go_at_call 95; (with_reducible refine (rBit_any _ _ _ hm (by omega)).mono ?_); rw [HB.out]; rintro e w1 ⟨rfl, rfl⟩)
          go_round
          case rel => exact ⟨k + 1, x, by omega, by go_num, rfl, HN⟩
          case measure => simp [intOf]; omega
        · have HN : Hid (jBits T m (L sep) (k + 1) = p ++ L sep ++ x) := Lib.hid (by rw [hst, if_pos rfl, if_neg hp])
          have e1 : p.isEmpty = false := by simpa using hp
          have b1 : (B p).size + sep.size ≤ 9223372036854775807 := by rw [B_size]; omega
          have b2 : (B p ++ sep).size + (B x).size ≤ 9223372036854775807 := by rw [ByteArray.size_append, B_size, B_size]; omega
          clear hst
          go_wp2_with (go_at_call 95; (with_reducible refine (rBit_any _ _ _ hm (by omega)).mono ?_); rw [HB.out]; rintro e w1 ⟨rfl, rfl⟩)
          go_round
          case rel => exact ⟨k + 1, p ++ L sep ++ x, by omega, by go_num, by rw [show B p ++ sep ++ B x = B (p ++ L sep ++ x) from by rw [← B_append, ← B_append, B_L]], HN⟩
          case measure => simp [intOf]; omega
    · obtain rfl : k = T.length := by omega
      have HE : Hid (p = R) := Lib.hid (by rw [← HP.out, HR.out])
      go_wp2
      go_ret
      exact ⟨ret_str (by rw [HE.out]), rfl⟩
theorem jBits_types (m : Nat) (h : 1 ≤ m) (h2 : m ≤ 63) : jBits typeT m [43] 6 = typesText m := by
  have key : ∀ m : Fin 64, 1 ≤ m.val → jBits typeT m.val [43] 6 = typesText m.val := by decide +kernel
  exact key ⟨m, by omega⟩ h
theorem rTypesText_any (m : Nat) (h1 : 1 ≤ m) (h2 : m ≤ 63) (w : World) :
    Calls Tryz.prog 57 #[.int .i64 m] w fun e w' => e = .returned (.string (B (typesText m))) ∧ Below w.heap.size w w' := by
  have HJ := Lib.hid (jBits_types m h1 h2)
  go_enter Tryz.func57, Tryz.ntmps57
  go_wp2_with (first | (go_at_call 49; (with_reducible refine (rType_any _).mono ?_); rintro e w3 ⟨A2, c2, rfl, ht2, hb2⟩) | (go_at_call 78; (with_reducible refine (rJoined_any typeT _ _ _ m _ [43] rfl _ ht2 (by omega) (by decide) (by decide) (by decide)).mono ?_); rintro e w4 ⟨rfl, rfl⟩))
  go_ret
  exact ⟨ret_str (by rw [← HJ.out]; rfl), hb2⟩
end Go.Proofs.YthpleohkngfdfaaGreatDoor
