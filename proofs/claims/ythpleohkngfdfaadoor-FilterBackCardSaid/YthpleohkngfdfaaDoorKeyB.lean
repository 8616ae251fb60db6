/- Walks: package keyword: Text and Parse. Conditions: Laid (for the library's words). -/
import Derived.Test.YthpleohkngfdfaaDoorKey
import Derived.Test.YthpleohkngfdfaaDoorFPure
import Derived.Test.YthpleohkngfdfaaDoorWSplit
namespace Go.Proofs.YthpleohkngfdfaaDoor
set_option linter.all false
open Go.ChangeShapes Go.WideShapes Go.RowKit
def keyText (m : Nat) : Str := if m = 0 then noneW else Lib.join (maskWords kwT m) [43]
theorem keyIs_any (m : Nat) (w : World) :
    Calls Tryd.prog 60 #[.int .i64 m] w fun e w' => e = .returned (.bool (decide (m ≤ 131071))) ∧ w = w' := by
  by_cases h : m ≤ 131071
  · have h1 : ((m : Nat) : Int) ≤ 131071 := by omega
    rw [decide_eq_true h]; clear h
    go_enter Tryd.func60, Tryd.ntmps60
    go_wp2
    go_ret
    exact ⟨rfl, rfl⟩
  · have h1 : ¬ ((m : Nat) : Int) ≤ 131071 := by omega
    rw [decide_eq_false h]; clear h
    go_enter Tryd.func60, Tryd.ntmps60
    go_wp2
    go_ret
    exact ⟨ret_bool (by simp), rfl⟩
theorem keyJoin_any (l : List Str) (A : Option Addr) (c base : Nat) (w : World) (h : Texts w base l (.slice A l.length c)) (hN : l.length ≤ 100000000) (hlen : (Lib.join l [43]).length ≤ 140737488355328) :
    Calls Tryd.prog 61 #[.slice A l.length c, .string ⟨#[43]⟩] w fun e w' => e = .returned (.string (B (Lib.join l [43]))) ∧ Below w.heap.size w w' := by
  go_enter Tryd.func61, Tryd.ntmps61
  go_wp2_with (go_at_call 17; (with_reducible refine (join_any _ _ _ _ _ _ h hN [43] rfl hlen).mono ?_); rintro e w2 ⟨rfl, hb2⟩)
  go_ret
  exact ⟨rfl, hb2⟩
theorem keyName_w2 (i : Nat) (hi : i < 17) (w : World) :
    Calls Tryd.prog 15 #[.int .i64 i] w fun e w' => e = .returned (.string (B (wd kwT i))) ∧ Below w.heap.size w w' := keyName_any i hi w
set_option maxRecDepth 100000 in
theorem keyText_any (m : Nat) (hm : m < 2 ^ 17) (w : World) :
    Calls Tryd.prog 46 #[.int .i64 m] w fun e w' => e = .returned (.string (B (keyText m))) ∧ Below w.heap.size w w' := by
  have hall : ∀ k (h : k < (bitsUpto m 31).length), (bitsUpto m 31).getD k 0 < 17 := fun k h => by
    rw [show (bitsUpto m 31).getD k 0 = (bitsUpto m 31)[k] by simp [List.getD, h]]; exact bits_lt hm (List.getElem_mem h)
  have hle := bitsUpto_le m 31
  have hdm : decide (m ≤ 131071) = true := by rw [decide_eq_true_eq]; omega
  have hmw : Hid (maskWords kwT m = (bitsUpto m 31).map (fun i => wd kwT i)) := rfl
  have hjl : Hid ((Lib.join (maskWords kwT m) [43]).length ≤ 140737488355328) := by
    have h1 := join_le [43] 20 _ (maskWords_le (m := m) (show ∀ x ∈ kwT, x.length ≤ 20 by decide))
    have h2 := maskWords_len kwT m
    simp only [List.length_cons, List.length_nil] at h1; show _ ≤ _; omega
  have h0 : Hid (m = 0 ↔ bitsUpto m 31 = []) := ⟨fun h => by subst h; decide, fun h => by
    apply Nat.eq_of_testBit_eq
    intro i
    rw [Nat.zero_testBit]
    cases hb : m.testBit i
    · rfl
    · have hi : i < 31 := by
        rcases Nat.lt_or_ge i 31 with h' | h'
        · exact h'
        · rw [Nat.testBit_lt_two_pow (Nat.lt_of_lt_of_le hm (Nat.pow_le_pow_right (by omega) (by omega)))] at hb; cases hb
      have : i ∈ bitsUpto m 31 := by unfold bitsUpto; simp [hi, hb]
      rw [h] at this; simp at this⟩
  have HD : Hid (keyText m = if m = 0 then noneW else Lib.join (maskWords kwT m) [43]) := rfl
  generalize keyText m = R at *
  go_enter Tryd.func46, Tryd.ntmps46
  go_wp2_with (first | (go_at_call 60; (with_reducible refine (keyIs_any _ _).mono ?_); rintro e w0 ⟨rfl, rfl⟩) | (go_at_call 23; (with_reducible refine (bits_s _ _ (by omega)).mono ?_); rintro e w1 ⟨A, c, rfl, hc, hn1, hb1⟩))
  generalize bitsUpto m 31 = bl at *
  have hsz1 := hb1.size
  go_loopw [3, 12] (fun v i wr => ∃ k : Nat, k ≤ bl.length ∧ i = .int .i64 k ∧ Texts wr w1.heap.size ((bl.take k).map (fun i => wd kwT i)) v ∧ Below w1.heap.size w1 wr) (fun _ i _ => bl.length - (intOf i).toNat)
  case atStart => exact ⟨0, by omega, rfl, Texts.nil _ _, Below.refl _ _⟩
  case round =>
    obtain ⟨k, hk, rfl, hown, hb⟩ := hrel
    have hsz := hb.size
    by_cases hlt : k < bl.length
    · obtain ⟨g, rfl, hg, hcl⟩ := hn1.at_ hlt
      have hcell := cell_belowB hb hg hcl
      have hi6 := hall k hlt
      have HX := Lib.hid (take_snoc_map (fun i => wd kwT i) bl k hlt)
      have hln : ((bl.take k).map (fun i => wd kwT i)).length < 1000000000 := by rw [List.length_map, List.length_take]; omega
      rw [show bl[k] = bl.getD k 0 by simp [List.getD, hlt]] at hcell HX
      clear hcl hall hmw hjl h0 HD
      generalize bl.getD k 0 = j at *
      go_wp2_with (first | (go_at_call 15; (with_reducible refine (keyName_w2 _ hi6 _).mono ?_); rintro e wn ⟨rfl, hbn⟩; have hownn := hown.below hbn; have hszn := Nat.le_trans hsz hbn.size) | (at_builtin; refine wpList_text_push rfl (.tmp 16) (.tmp 19) 36 rfl Tryd.underlying36 info_str rfl rfl hownn hln hszn ?_; intro v' w2 hown2 hb2))
      have hown3 : Texts w2 w1.heap.size ((bl.take (k + 1)).map (fun i => wd kwT i)) v' := by rw [HX.out]; exact hown2
      have hb3 : Below w1.heap.size w1 w2 := (below_all hb hbn hsz).trans hb2
      go_roundw
      case rel => exact ⟨k + 1, by omega, by go_num, hown3, hb3⟩
      case measure => simp [intOf]; omega
    · obtain rfl : k = bl.length := by omega
      rw [List.take_length] at hown
      have hmw2 := hmw.out
      rw [← hmw2] at hown
      have hjl2 := hjl.out
      have hbe := below_all hb1 hb hsz1
      have hmwl : (maskWords kwT m).length = bl.length := by rw [hmw2, List.length_map]
      have hN : (maskWords kwT m).length ≤ 100000000 := by omega
      obtain ⟨A2, c2, rfl, _⟩ := hown.form
      by_cases hm0 : bl = []
      · have hl0 : (maskWords kwT m).length = 0 := by rw [hmwl, hm0]; rfl
        have HD2 : Hid (R = noneW) := by rw [HD.out, if_pos (h0.out.2 hm0)]; rfl
        clear hmw hmw2 HD h0 hm0 hall hjl2 hN hmwl
        go_wp2
        go_ret
        exact ⟨ret_str (by rw [HD2.out]; rfl), hbe⟩
      · have hl0 : (((maskWords kwT m).length : Int) == 0) = false := by
          simp only [beq_eq_false_iff_ne, ne_eq]; intro e; apply hm0; exact List.eq_nil_of_length_eq_zero (by omega)
        have HD2 : Hid (R = Lib.join (maskWords kwT m) [43]) := by rw [HD.out, if_neg (fun e => hm0 (h0.out.1 e))]; rfl
        clear hmw hmw2 HD h0 hm0 hall hmwl
        go_wp2_with (go_at_call 61; (with_reducible refine (keyJoin_any _ _ _ _ _ hown hN hjl2).mono ?_); rintro e w3 ⟨rfl, hb3⟩)
        go_ret
        exact ⟨ret_str (by rw [HD2.out]), below_two hbe hb3⟩
end Go.Proofs.YthpleohkngfdfaaDoor
