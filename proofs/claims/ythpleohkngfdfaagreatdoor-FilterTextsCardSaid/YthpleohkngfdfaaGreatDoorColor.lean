/- Walks: package color. Conditions: Laid. -/
import Derived.Test.YthpleohkngfdfaaGreatDoorLineB
namespace Go.Proofs.YthpleohkngfdfaaGreatDoor
set_option linter.all false
open Go.ChangeShapes Go.WideShapes Go.RowKit
/-- A mask's text: the names joined by +, none for 0. -/
def colorText (m : Nat) : Str := if m = 0 then noneW else Lib.join (maskWords colorT m) [43]
/-- The mask with a text. -/
def pcOf (s : Str) : Option Nat := (List.range 32).find? fun m => colorText m == s
theorem bitsUpto_ge {m k n : Nat} (hm : m < 2 ^ n) (hk : n ≤ k) : bitsUpto m k = bitsUpto m n := by
  induction k with
  | zero => obtain rfl : n = 0 := by omega
            rfl
  | succ k ih =>
    rcases Nat.lt_or_ge k n with h | h
    · obtain rfl : n = k + 1 := by omega
      rfl
    · rw [bitsUpto_no (Nat.testBit_lt_two_pow (Nat.lt_of_lt_of_le hm (Nat.pow_le_pow_right (by omega) h))), ih h]
theorem colorName_any (i : Nat) (hi : i < 5) (w : World) (hl : Laid w) :
    Calls Tryz.prog 23 #[.int .i64 i] w fun e w' => e = .returned (.string (B (colorT.getD i []))) ∧ w = w' := by
  obtain ⟨ty, fr, hh⟩ := hl.names
  have hc : w.cell? ⟨0, i, none⟩ = some (.string (B (colorT.getD i []))) := by
    rw [cell_of_row w _ i colorRow ty fr hh]
    rcases i with _ | _ | _ | _ | _ | i
    · rfl
    · rfl
    · rfl
    · rfl
    · rfl
    · omega
  clear hh
  generalize colorT.getD i [] = R at *
  go_enter Tryz.func23, Tryz.ntmps23
  go_wp2
  go_ret
  exact ⟨rfl, rfl⟩
theorem colorIs_yes (m : Nat) (hm : m < 32) (w : World) :
    Calls Tryz.prog 110 #[.int .i64 m] w fun e w' => e = .returned (.bool true) ∧ w = w' := by
  have h1 : ((m : Nat) : Int) ≤ 31 := by omega
  go_enter Tryz.func110, Tryz.ntmps110
  go_wp2
  go_ret
  exact ⟨rfl, rfl⟩
set_option maxRecDepth 100000 in
theorem colorText_any (m : Nat) (hm : m < 32) (w : World) (hl : Laid w) :
    Calls Tryz.prog 100 #[.int .i64 m] w fun e w' => e = .returned (.string (B (colorText m))) ∧ Below w.heap.size w w' := by
  obtain ⟨ty, fr, hh⟩ := hl.names
  by_cases h0 : m = 0
  · subst h0
    go_enter Tryz.func100, Tryz.ntmps100
    go_wp2
    go_ret
    exact ⟨rfl, Below.refl _ _⟩
  · have HD : Hid (colorText m = Lib.join (maskWords colorT m) [43]) := if_neg h0
    have ht0 : (((m : Nat) : Int) == 0) = false := by simp only [beq_eq_false_iff_ne, ne_eq]; omega
    generalize colorText m = R at *
    go_enter Tryz.func100, Tryz.ntmps100
    go_wp2_with (first | (go_at_call 110; (with_reducible refine (colorIs_yes _ hm _).mono ?_); rintro e w2 ⟨rfl, rfl⟩) | refine wpList_load_row rfl 58 _ rfl 0 rfl ty colorRow fr _ hh Tryz.underlying58 rfl (by kernel_rfl) ?_)
    clear hh hl
    go_loopw [3, 12] (fun v i wr => ∃ k : Nat, k ≤ 5 ∧ i = .int .i64 k ∧ Texts wr w.heap.size ((bitsUpto m k).map (fun i => colorT.getD i [])) v ∧ Below w.heap.size w wr) (fun _ i _ => 5 - (intOf i).toNat)
    case atStart => exact ⟨0, by omega, rfl, Texts.nil _ _, Below.refl _ _⟩
    case round =>
      obtain ⟨k, hk, rfl, hown, hb⟩ := hrel
      have hle := bitsUpto_le m k
      have hsz := hb.size
      by_cases hlt : k < 5
      · have i0 : ∀ w, (Instr.index 58 (.agg colorRow) (.int .i64 k)).run Tryz.prog w = .ok (.string (B (colorT.getD k []))) w := by
          intro w; rcases k with _ | _ | _ | _ | _ | k
          · kernel_rfl
          · kernel_rfl
          · kernel_rfl
          · kernel_rfl
          · kernel_rfl
          · omega
        cases hbit : m.testBit k
        · have ht : (bits .and .i64 ((m : Int) / 2 ^ k) 1 == 1) = false := (bit_test m k (by omega)).trans hbit
          have HX := Lib.hid (bitsUpto_no hbit); clear hbit
          go_wp2
          go_roundw
          case rel => exact ⟨k + 1, by omega, by go_num, by rw [HX.out]; exact hown, hb⟩
          case measure => simp [intOf]; omega
        · have ht : (bits .and .i64 ((m : Int) / 2 ^ k) 1 == 1) = true := (bit_test m k (by omega)).trans hbit
          have HX := Lib.hid (bitsUpto_yes hbit); clear hbit
          have hln : ((bitsUpto m k).map (fun i => colorT.getD i [])).length < 1000000000 := by simp; omega
          go_wp2_with (at_builtin; refine wpList_text_push rfl (.tmp 21) (.tmp 23) 37 rfl Tryz.underlying37 info_str rfl rfl hown hln hsz ?_; intro v' w2 hown2 hb2)
          have hown3 : Texts w2 w.heap.size ((bitsUpto m (k + 1)).map (fun i => colorT.getD i [])) v' := by rw [HX.out, List.map_append]; exact hown2
          have hb3 : Below w.heap.size w w2 := hb.trans hb2
          go_roundw
          case rel => exact ⟨k + 1, by omega, by go_num, hown3, hb3⟩
          case measure => simp [intOf]; omega
      · obtain rfl : k = 5 := by omega
        have hE : (bitsUpto m 5).map (fun i => colorT.getD i []) = maskWords colorT m := by rw [maskWords, bitsUpto_ge (k := 31) (n := 5) (by omega) (by omega)]
        rw [hE] at hown
        have hlen : (Lib.join (maskWords colorT m) [43]).length ≤ 140737488355328 := by
          have h1 := join_le [43] 8 _ (maskWords_le (m := m) (show ∀ x ∈ colorT, x.length ≤ 8 by decide))
          have h2 := maskWords_len colorT m
          simp only [List.length_cons, List.length_nil] at h1; omega
        have hN : (maskWords colorT m).length ≤ 100000000 := by have := maskWords_len colorT m; omega
        obtain ⟨A, c, rfl, hc⟩ := hown.form
        clear hE
        go_wp2_with (go_at_call 26; (with_reducible refine (join_any _ _ _ _ _ _ hown hN [43] rfl hlen).mono ?_); rintro e w2 ⟨rfl, hb2⟩)
        go_ret
        exact ⟨ret_str (by rw [HD.out]), below_two hb hb2⟩
/-- Parse returns the mask with a text. -/
theorem colorParse_any (s : ByteArray) (w : World) (hl : Laid w) :
    Calls Tryz.prog 84 #[.string s] w fun e w' => e = .returned (optRet (pcOf (L s))) ∧ Below w.heap.size w w' := by
  have HD : Hid (pcOf (L s) = (List.range' 0 32).find? fun m => colorText m == L s) := by rw [← List.range_eq_range']; rfl
  generalize pcOf (L s) = R at *
  go_enter Tryz.func84, Tryz.ntmps84
  go_wp2
  go_loopw [5] (fun i wr => ∃ k : Nat, k ≤ 32 ∧ i = .int .i64 k ∧ Below w.heap.size w wr ∧ Hid ((List.range' 0 32).find? (fun m => colorText m == L s) = (List.range' k (32 - k)).find? (fun m => colorText m == L s))) (fun i _ => 32 - (intOf i).toNat)
  case atStart => exact ⟨0, by omega, rfl, Below.refl _ _, rfl⟩
  case round =>
    obtain ⟨k, hk, rfl, hb, HF⟩ := hrel
    by_cases hlt : k < 32
    · have hlr := hl.below hb
      have hr : List.range' k (32 - k) = k :: List.range' (k + 1) (32 - (k + 1)) := by
        rw [show 32 - k = (32 - (k + 1)) + 1 by omega, List.range'_succ]
      by_cases hc : colorText k = L s
      · have t1 := toList_yes hc
        have HX : Hid ((List.range' k (32 - k)).find? (fun m => colorText m == L s) = some k) := by rw [hr, List.find?_cons, show (colorText k == L s) = true by simpa using hc]; rfl
        clear hr hc
        go_wp2_with (go_at_call 100; (with_reducible refine (colorText_any _ hlt _ hlr).mono ?_); rintro e w2 ⟨rfl, hb2⟩)
        go_ret2
        exact ⟨ret_val (by rw [HD.out, HF.out, HX.out]; rfl), below_all hb hb2 hb.size⟩
      · have t1 := toList_no hc
        have HX : Hid ((List.range' 0 32).find? (fun m => colorText m == L s) = (List.range' (k + 1) (32 - (k + 1))).find? (fun m => colorText m == L s)) := by
          rw [HF.out, hr, List.find?_cons, show (colorText k == L s) = false by simpa using hc]; rfl
        clear hr hc
        go_wp2_with (go_at_call 100; (with_reducible refine (colorText_any _ hlt _ hlr).mono ?_); rintro e w2 ⟨rfl, hb2⟩)
        have hb3 := below_all hb hb2 hb.size
        go_roundw
        case rel => exact ⟨k + 1, by omega, by go_num, hb3, HX⟩
        case measure => simp [intOf]; omega
    · obtain rfl : k = 32 := by omega
      go_wp2
      go_ret2
      exact ⟨ret_val (by rw [HD.out, HF.out]; rfl), hb⟩
end Go.Proofs.YthpleohkngfdfaaGreatDoor
