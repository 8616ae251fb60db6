/- Walks: lists of words of package line. -/
import Derived.Test.YthpleohkngfdfaaGreatDoorNum
import Derived.Test.YthpleohkngfdfaaGreatDoorPush
namespace Go.Proofs.YthpleohkngfdfaaGreatDoor
set_option linter.all false
open Go.ChangeShapes Go.WideShapes Go.RowKit
theorem bits_s (m : Nat) (w : World) (hm : m < 2 ^ 31) :
    Calls Tryz.prog 50 #[.int .i64 m] w fun e w' => ∃ A c, e = .returned (.slice A (bitsUpto m 31).length c) ∧ (bitsUpto m 31).length ≤ c ∧ Nums w' w.heap.size (bitsUpto m 31) (.slice A (bitsUpto m 31).length c) ∧ Below w.heap.size w w' :=
  (bits_any m w hm).mono fun e w' ⟨v, he, hn, hb⟩ => by
    obtain ⟨A, c, rfl, hc⟩ := Nums.form hn
    exact ⟨A, c, he, hc, hn, hb⟩
set_option maxRecDepth 100000 in
theorem wordsType_any (m : Nat) (w : World) (hm : m < 2 ^ 6) :
    Calls Tryz.prog 74 #[.int .i64 m, .func (.func 45) #[] #[]] w fun e w' => ∃ v, e = .returned v ∧ Texts w' w.heap.size (maskWords typeT m) v ∧ Below w.heap.size w w' := by
  have hall : ∀ k (h : k < (bitsUpto m 31).length), (bitsUpto m 31)[k] < 6 := fun k h => bits_lt hm (List.getElem_mem h)
  have hle := bitsUpto_le m 31
  have HD : Hid (maskWords typeT m = (bitsUpto m 31).map (fun i => typeT.getD i [])) := rfl
  generalize maskWords typeT m = R at *
  go_enter Tryz.func74, Tryz.ntmps74
  go_wp2_with (go_at_call 50; refine (bits_s _ _ (by omega)).mono ?_; rintro e w1 ⟨A, c, rfl, hc, hn1, hb1⟩)
  generalize bitsUpto m 31 = bl at *
  have hsz1 := hb1.size
  go_loopw [5, 11] (fun v i wr => ∃ k : Nat, k ≤ bl.length ∧ i = .int .i64 k ∧ Texts wr w1.heap.size ((bl.take k).map (fun i => typeT.getD i [])) v ∧ Below w1.heap.size w1 wr) (fun _ i _ => bl.length - (intOf i).toNat)
  case atStart => exact ⟨0, by omega, rfl, Texts.nil _ _, Below.refl _ _⟩
  case round =>
    obtain ⟨k, hk, rfl, hown, hb⟩ := hrel
    have hsz := hb.size
    by_cases hlt : k < bl.length
    · obtain ⟨g, rfl, hg, hcl⟩ := hn1.at_ hlt
      have hcell := cell_belowB hb hg hcl
      have hi6 := hall k hlt
      have HX := Lib.hid (take_snoc_map (fun i => typeT.getD i []) bl k hlt)
      have hln : ((bl.take k).map (fun i => typeT.getD i [])).length < 1000000000 := by simp; omega
      clear hcl hall
      generalize bl[k] = j at *
      go_wp2_with (first | (go_at_call 45; refine (typeWord_any _ hi6 _).mono ?_; rintro e w' ⟨rfl, rfl⟩) | (at_builtin; refine wpList_text_push rfl (.tmp 15) (.tmp 19) 37 rfl Tryz.underlying37 info_str rfl rfl hown hln hsz ?_; intro v' w2 hown2 hb2))
      have hown3 : Texts w2 w1.heap.size ((bl.take (k + 1)).map (fun i => typeT.getD i [])) v' := by rw [HX.out]; exact hown2
      have hb3 : Below w1.heap.size w1 w2 := hb.trans hb2
      go_roundw
      case rel => exact ⟨k + 1, by omega, by go_num, hown3, hb3⟩
      case measure => simp [intOf]; omega
    · go_wp2
      go_ret
      obtain rfl : k = bl.length := by omega
      rw [List.take_length] at hown
      exact ⟨_, rfl, by rw [HD.out]; exact hown.base hsz1, below_all hb1 hb hsz1⟩
set_option maxRecDepth 100000 in
theorem wordsSuper_any (m : Nat) (w : World) (hm : m < 2 ^ 2) :
    Calls Tryz.prog 74 #[.int .i64 m, .func (.func 44) #[] #[]] w fun e w' => ∃ v, e = .returned v ∧ Texts w' w.heap.size (maskWords superT m) v ∧ Below w.heap.size w w' := by
  have hall : ∀ k (h : k < (bitsUpto m 31).length), (bitsUpto m 31)[k] < 2 := fun k h => bits_lt hm (List.getElem_mem h)
  have hle := bitsUpto_le m 31
  have HD : Hid (maskWords superT m = (bitsUpto m 31).map (fun i => superT.getD i [])) := rfl
  generalize maskWords superT m = R at *
  go_enter Tryz.func74, Tryz.ntmps74
  go_wp2_with (go_at_call 50; refine (bits_s _ _ (by omega)).mono ?_; rintro e w1 ⟨A, c, rfl, hc, hn1, hb1⟩)
  generalize bitsUpto m 31 = bl at *
  have hsz1 := hb1.size
  go_loopw [5, 11] (fun v i wr => ∃ k : Nat, k ≤ bl.length ∧ i = .int .i64 k ∧ Texts wr w1.heap.size ((bl.take k).map (fun i => superT.getD i [])) v ∧ Below w1.heap.size w1 wr) (fun _ i _ => bl.length - (intOf i).toNat)
  case atStart => exact ⟨0, by omega, rfl, Texts.nil _ _, Below.refl _ _⟩
  case round =>
    obtain ⟨k, hk, rfl, hown, hb⟩ := hrel
    have hsz := hb.size
    by_cases hlt : k < bl.length
    · obtain ⟨g, rfl, hg, hcl⟩ := hn1.at_ hlt
      have hcell := cell_belowB hb hg hcl
      have hi6 := hall k hlt
      have HX := Lib.hid (take_snoc_map (fun i => superT.getD i []) bl k hlt)
      have hln : ((bl.take k).map (fun i => superT.getD i [])).length < 1000000000 := by simp; omega
      clear hcl hall
      generalize bl[k] = j at *
      go_wp2_with (first | (go_at_call 44; refine (superWord_any _ hi6 _).mono ?_; rintro e w' ⟨rfl, rfl⟩) | (at_builtin; refine wpList_text_push rfl (.tmp 15) (.tmp 19) 37 rfl Tryz.underlying37 info_str rfl rfl hown hln hsz ?_; intro v' w2 hown2 hb2))
      have hown3 : Texts w2 w1.heap.size ((bl.take (k + 1)).map (fun i => superT.getD i [])) v' := by rw [HX.out]; exact hown2
      have hb3 : Below w1.heap.size w1 w2 := hb.trans hb2
      go_roundw
      case rel => exact ⟨k + 1, by omega, by go_num, hown3, hb3⟩
      case measure => simp [intOf]; omega
    · go_wp2
      go_ret
      obtain rfl : k = bl.length := by omega
      rw [List.take_length] at hown
      exact ⟨_, rfl, by rw [HD.out]; exact hown.base hsz1, below_all hb1 hb hsz1⟩
end Go.Proofs.YthpleohkngfdfaaGreatDoor
