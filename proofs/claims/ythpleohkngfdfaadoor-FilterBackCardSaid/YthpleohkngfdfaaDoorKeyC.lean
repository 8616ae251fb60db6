/- Walks: package keyword: Parse. Conditions: the text is shorter than 100 million bytes. -/
import Derived.Test.YthpleohkngfdfaaDoorKeyB
namespace Go.Proofs.YthpleohkngfdfaaDoor
set_option linter.all false
open Go.ChangeShapes Go.WideShapes Go.RowKit
def keyStep (part : Str) (a i : Nat) : Nat := if wd kwT i = part then a ||| 2 ^ i else a
def keyAcc (part : Str) (k acc : Nat) : Nat := (List.range k).foldl (keyStep part) acc
theorem keyAcc_succ (part : Str) (k acc : Nat) : keyAcc part (k + 1) acc = keyStep part (keyAcc part k acc) k := by
  unfold keyAcc; rw [List.range_succ, List.foldl_append]; rfl
theorem keyAcc_lt (part : Str) : ∀ k acc, k ≤ 17 → acc < 2 ^ 17 → keyAcc part k acc < 2 ^ 17
  | 0, acc, _, h => h
  | k + 1, acc, hk, h => by
    rw [keyAcc_succ]; unfold keyStep
    have ih := keyAcc_lt part k acc (by omega) h
    split
    · exact Nat.or_lt_two_pow ih (Nat.pow_lt_pow_right (by omega) (by omega))
    · exact ih
def keyParts (ps : List Str) : Nat := ps.foldl (fun a p => keyAcc p 17 a) 0
theorem keyParts_snoc (l : List Str) (k : Nat) (h : k < l.length) : keyParts (l.take (k + 1)) = keyAcc l[k] 17 (keyParts (l.take k)) := by
  unfold keyParts; rw [List.take_succ_eq_append_getElem h, List.foldl_append]; rfl
theorem keyParts_lt (l : List Str) : keyParts l < 2 ^ 17 := by
  have : ∀ (l : List Str) (a : Nat), a < 2 ^ 17 → l.foldl (fun a p => keyAcc p 17 a) a < 2 ^ 17 := by
    intro l
    induction l with
    | nil => intro a h; exact h
    | cons x r ih => intro a h; exact ih _ (keyAcc_lt x 17 a (Nat.le_refl _) h)
  exact this l 0 (by decide)
/-- The mask of keywords with a text. -/
def pkOf (s : Str) : Option Nat := if keyText (keyParts (splitDep 43 s)) = s then some (keyParts (splitDep 43 s)) else none
theorem toList_B_yes {a : Str} {s : Str} (h : a = s) : (a == s) = true := by simpa using h
theorem toList_B_no {a : Str} {s : Str} (h : ¬ a = s) : (a == s) = false := by simpa using h
theorem wsplit_plus (s : ByteArray) (hs : s.size < 100000000) (w : World) :
    Calls Tryd.prog 45 #[.string s, .int .u8 43] w (RetTexts w (splitDep 43 (L s))) := wsplit_any s 43 (by omega) (by omega) hs w
set_option maxRecDepth 100000 in
theorem keyParse_any (s : ByteArray) (w : World) (hs : s.size < 100000000) :
    Calls Tryd.prog 31 #[.string s] w fun e w' => e = .returned (optRet (pkOf (L s))) ∧ Below w.heap.size w w' := by
  have hlen : (splitDep 43 (L s)).length ≤ s.size + 1 := by have := splitAux_len 43 (L s) 0 []; rw [size_l] at this; exact this
  have HD : Hid (pkOf (L s) = if keyText (keyParts (splitDep 43 (L s))) = L s then some (keyParts (splitDep 43 (L s))) else none) := rfl
  generalize pkOf (L s) = R at *
  go_enter Tryd.func31, Tryd.ntmps31
  go_wp2_with (go_at_call 45; (with_reducible refine (wsplit_plus _ hs _).mono ?_); rintro e w1 ⟨A, c, rfl, ht, hb1⟩)
  generalize splitDep 43 (L s) = ws at *
  have hsz1 := hb1.size
  go_loopw [4, 11] (fun m i wr => ∃ k : Nat, k ≤ ws.length ∧ i = .int .i64 k ∧ m = .int .i64 (keyParts (ws.take k) : Nat) ∧ Below w1.heap.size w1 wr) (fun _ i _ => ws.length - (intOf i).toNat)
  case atStart => exact ⟨0, by omega, rfl, rfl, Below.refl _ _⟩
  case round =>
    obtain ⟨k, hk, rfl, rfl, hb⟩ := hrel
    have hsz := hb.size
    by_cases hlt : k < ws.length
    · obtain ⟨g, rfl, hg, hcl⟩ := ht.at_ hlt
      have hcell := cell_belowB hb hg hcl
      have HX := Lib.hid (keyParts_snoc ws k hlt)
      have hac := keyParts_lt (ws.take k)
      clear hcl ht
      generalize ws[k] = x at *
      generalize keyParts (ws.take k) = acc at *
      go_wp2
      obtain ⟨wo, rfl⟩ : ∃ wo : World, wo = wr := ⟨_, rfl⟩
      go_loopw [4, 15] (fun m i wi => ∃ j : Nat, j ≤ 17 ∧ i = .int .i64 j ∧ m = .int .i64 (keyAcc x j acc : Nat) ∧ Below wo.heap.size wo wi) (fun _ i _ => 17 - (intOf i).toNat)
      case atStart => exact ⟨0, by omega, rfl, rfl, Below.refl _ _⟩
      case round =>
        obtain ⟨j, hj, rfl, rfl, hbi⟩ := hrel
        by_cases hlj : j < 17
        · have HS := Lib.hid (keyAcc_succ x j acc)
          have hacj := keyAcc_lt x j acc (by omega) hac
          have hpw := wrap_pow (k := j) (by omega)
          obtain ⟨pj, hpj⟩ : ∃ pj : Nat, pj = 2 ^ j := ⟨_, rfl⟩
          rw [← hpj] at hpw
          have hpj2 : pj < 2 ^ 17 := by rw [hpj]; exact Nat.pow_lt_pow_right (by omega) (by omega)
          have hor := i64_or_nat (keyAcc x j acc) pj (by omega) (by omega)
          have HPJ := Lib.hid hpj; clear hpj
          by_cases he : wd kwT j = x
          · have t1 := toList_B_yes he
            have HN : Hid (keyAcc x (j + 1) acc = keyAcc x j acc ||| pj) := by rw [HS.out, keyStep, if_pos he, HPJ.out]; rfl
            clear he HS
            generalize keyAcc x j acc = aj at *
            go_wp2_with (go_at_call 15; (with_reducible refine (keyName_w2 _ hlj _).mono ?_); rintro e wn ⟨rfl, hbn⟩)
            have hb3 := below_all hbi hbn hbi.size
            go_roundw
            case rel => exact ⟨j + 1, by omega, by go_num, by rw [HN.out], hb3⟩
            case measure => simp [intOf]; omega
          · have t1 := toList_B_no he
            have HN : Hid (keyAcc x (j + 1) acc = keyAcc x j acc) := by rw [HS.out, keyStep, if_neg he]; rfl
            clear he HS
            generalize keyAcc x j acc = aj at *
            go_wp2_with (go_at_call 15; (with_reducible refine (keyName_w2 _ hlj _).mono ?_); rintro e wn ⟨rfl, hbn⟩)
            have hb3 := below_all hbi hbn hbi.size
            go_roundw
            case rel => exact ⟨j + 1, by omega, by go_num, by rw [HN.out], hb3⟩
            case measure => simp [intOf]; omega
        · obtain rfl : j = 17 := by omega
          have hb4 : Below w1.heap.size w1 wr := below_all hb hbi hsz
          go_wp2
          go_roundw
          case rel => exact ⟨k + 1, by omega, by go_num, by rw [HX.out], hb4⟩
          case measure => simp [intOf]; omega
    · obtain rfl : k = ws.length := by omega
      have hE : ws.take ws.length = ws := List.take_length
      rw [hE]; clear hE
      have hbe := below_all hb1 hb hsz1
      have hkl := keyParts_lt ws
      by_cases h1 : keyText (keyParts ws) = L s
      · have t1 := toList_yes h1
        have HD2 : Hid (R = some (keyParts ws)) := by rw [HD.out, if_pos h1]; rfl
        clear h1 HD
        generalize keyParts ws = m at *
        go_wp2_with (go_at_call 46; (with_reducible refine (keyText_any _ hkl _).mono ?_); rintro e w2 ⟨rfl, hb2⟩)
        go_ret2
        exact ⟨ret_val (by rw [HD2.out]; rfl), below_two hbe hb2⟩
      · have t1 := toList_no h1
        have HD2 : Hid (R = none) := by rw [HD.out, if_neg h1]; rfl
        clear h1 HD
        generalize keyParts ws = m at *
        go_wp2_with (go_at_call 46; (with_reducible refine (keyText_any _ hkl _).mono ?_); rintro e w2 ⟨rfl, hb2⟩)
        go_ret2
        exact ⟨ret_val (by rw [HD2.out]; rfl), below_two hbe hb2⟩
end Go.Proofs.YthpleohkngfdfaaDoor
