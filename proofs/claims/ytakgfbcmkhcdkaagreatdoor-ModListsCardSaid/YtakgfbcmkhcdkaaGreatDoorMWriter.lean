/- Walks: package filter: the writer, the words of a mask and of a bound. Conditions: Laid. -/
import Derived.Test.YtakgfbcmkhcdkaaGreatDoorBase
import Derived.Test.YtakgfbcmkhcdkaaGreatDoorOne
import Derived.Test.YtakgfbcmkhcdkaaGreatDoorMKey
namespace Go.Proofs.YtakgfbcmkhcdkaaGreatDoor
set_option linter.all false
open Go.ChangeShapes Go.WideShapes Go.RowKit
abbrev TW : Nat := 102
theorem between_any (n m : Int) (w : World) :
    Calls Tryz.prog 63 #[.int .i64 n, .int .i64 m] w fun e w' => e = .returned (.bool (btw n m)) ∧ w = w' := by
  go_enter Tryz.func63, Tryz.ntmps63
  go_wp2
  all_goals
    go_ret
    exact ⟨ret_bool (by simp [btw, *] <;> omega), rfl⟩
theorem zoneWord_any (n : Nat) (hn : n ≤ 5) (w : World) :
    Calls Tryz.prog 78 #[.int .i64 n] w fun e w' => e = .returned (.string (B (wd zoneT n))) ∧ w = w' := by
  rcases n with _ | _ | _ | _ | _ | _ | n
  · go_enter Tryz.func78, Tryz.ntmps78
    go_wp2
    go_ret
    exact ⟨rfl, rfl⟩
  · go_enter Tryz.func78, Tryz.ntmps78
    go_wp2
    go_ret
    exact ⟨rfl, rfl⟩
  · go_enter Tryz.func78, Tryz.ntmps78
    go_wp2
    go_ret
    exact ⟨rfl, rfl⟩
  · go_enter Tryz.func78, Tryz.ntmps78
    go_wp2
    go_ret
    exact ⟨rfl, rfl⟩
  · go_enter Tryz.func78, Tryz.ntmps78
    go_wp2
    go_ret
    exact ⟨rfl, rfl⟩
  · go_enter Tryz.func78, Tryz.ntmps78
    go_wp2
    go_ret
    exact ⟨rfl, rfl⟩
  · omega
theorem numText_any (n : Int) (h0 : -9223372036854775808 ≤ n) (h1 : n ≤ 9223372036854775807) (w : World) (hl : Laid w) :
    Calls Tryz.prog 40 #[.int .i64 n] w fun e w' => e = .returned (.string (B (Lib.itoa n))) ∧ Below w.heap.size w w' := by
  go_enter Tryz.func40, Tryz.ntmps40
  go_wp2_with (go_at_call 83; (with_reducible refine (itoa_any _ h0 h1 _ hl).mono ?_); rintro e w2 ⟨rfl, hb2⟩)
  go_ret
  exact ⟨rfl, hb2⟩
theorem typeName_any (i : Nat) (hi : i < 6) (w : World) :
    Calls Tryz.prog 80 #[.int .i64 i] w fun e w' => e = .returned (.string (B (typeT.getD i []))) ∧ Below w.heap.size w w' := by
  obtain ⟨n, hn⟩ : ∃ n : Nat, n = 2 ^ i := ⟨_, rfl⟩
  have hw : wrap64 ((2 : Int) ^ i) = (n : Int) := by rw [hn]; exact wrap_pow (by omega)
  have HD : Hid (typesText n = typeT.getD i []) := by
    have : ∀ i, i < 6 → typesText (2 ^ i) = typeT.getD i [] := by decide +kernel
    rw [hn]; exact this i hi
  clear hn
  generalize typeT.getD i [] = R at *
  go_enter Tryz.func80, Tryz.ntmps80
  go_wp2_with (go_at_call 36; (with_reducible refine (typesText_any _ _).mono ?_); rintro e w2 ⟨rfl, hb2⟩)
  go_ret
  exact ⟨ret_str (by rw [HD.out]), hb2⟩
set_option maxRecDepth 100000 in
theorem add_any (s : ByteArray) (w : World) (b g : Nat) (l : List Str) (hw : Wr TW w b g l) (hlen : l.length < 1000000000) :
    Calls Tryz.prog 77 #[.pointer (some ⟨g, 0, none⟩), .string s] w fun e w' => e = .returned (.tuple #[]) ∧ Wr TW w' b g (addW l (L s)) ∧ Below b w w' ∧ Keep g w w' := by
  by_cases h0 : L s = []
  · have t0 : s.toList = [] := by rw [L_toList]; exact h0
    have HX := Lib.hid h0; clear h0
    have HW := Lib.hid hw; clear hw
    go_enter Tryz.func77, Tryz.ntmps77
    go_wp2
    go_end0
    refine ⟨rfl, ?_, Below.refl _ _, Keep.refl _ _⟩
    rw [addW, if_pos HX.out]; exact HW.out
  · have t0 : s.toList.isEmpty = false := by rw [L_toList]; simpa using h0
    have t1 : ¬ s.toList = [] := by rw [L_toList]; exact h0
    have HX := Lib.hid h0; clear h0
    obtain ⟨hgl, hgb⟩ := hw.lt
    obtain ⟨v, hg, hbg, hown⟩ := hw
    have hc := one_cell hg
    have HG := Lib.hid hg; clear hg hgb hgl
    go_enter Tryz.func77, Tryz.ntmps77
    go_wp2_with (at_builtin; refine wpList_wr_push rfl (.tmp 10) (.tmp 12) 40 rfl Tryz.underlying40 info_str (by decide) rfl rfl HG hbg hown hlen ?_; intro A2 c2 w2 hc2 hf2 HS; clear hc hown)
    go_end0
    refine ⟨rfl, ?_, HS.out.2.1, HS.out.2.2⟩
    rw [addW, if_neg HX.out]
    exact HS.out.1
theorem typeName_w (i : Nat) (hi : i < 6) (w : World) :
    Calls Tryz.prog 80 #[.int .i64 i] w fun e w' => e = .returned (.string (B (wd typeT i))) ∧ Below w.heap.size w w' := typeName_any i hi w
theorem colorName_w (i : Nat) (hi : i < 5) (w : World) (hl : Laid w) :
    Calls Tryz.prog 81 #[.int .i64 i] w fun e w' => e = .returned (.string (B (wd colorT i))) ∧ w = w' := colorName_any i hi w hl
theorem keyName_w (i : Nat) (hi : i < 17) (w : World) :
    Calls Tryz.prog 76 #[.int .i64 i] w fun e w' => e = .returned (.string (B (wd kwT i))) ∧ Below w.heap.size w w' := keyName_any i hi w
theorem L_append (a b : ByteArray) : L (a ++ b) = L a ++ L b := by unfold L; simp [ByteArray.data_append]
/-- Laid at a world from which on, below block b, nothing has turned. -/
def LB (b : Nat) (w : World) : Prop := ∃ w0, Laid w0 ∧ w0.heap.size ≤ b ∧ Below w0.heap.size w0 w
theorem LB.laid {b : Nat} {w : World} (h : LB b w) : Laid w := by
  obtain ⟨w0, h0, _, hb⟩ := h; exact h0.below hb
theorem LB.below {b : Nat} {w w' : World} (h : LB b w) (hb : Below b w w') : LB b w' := by
  obtain ⟨w0, h0, h1, h2⟩ := h; exact ⟨w0, h0, h1, h2.trans (hb.mono h1)⟩
theorem LB.start {w : World} {b : Nat} (h : Laid w) (hb : w.heap.size ≤ b) : LB b w := ⟨w, h, hb, Below.refl _ _⟩
theorem addW_all (l : List Str) (p : Str) (T : List Str) : ∀ bl : List Nat, ∀ k, k < bl.length → ((bl.take (k + 1)).map (fun i => p ++ wd T i)).foldl addW l = addW (((bl.take k).map (fun i => p ++ wd T i)).foldl addW l) (p ++ wd T (bl.getD k 0)) := by
  intro bl k h
  rw [take_snoc_map (fun i => p ++ wd T i) bl k h, List.foldl_append]
  simp [List.getD, h]
set_option maxRecDepth 100000 in
theorem maskType_any (m : Nat) (p : ByteArray) (pl : Str) (hp : L p = pl) (w : World) (b g : Nat) (l : List Str) (hw : Wr TW w b g l) (hlen : l.length < 1000000) (hm : m < 2 ^ 6) (hps : p.size ≤ 1000) :
    Calls Tryz.prog 79 #[.pointer (some ⟨g, 0, none⟩), .int .i64 m, .string p, .func (.func 80) #[] #[]] w fun e w' => e = .returned (.tuple #[]) ∧ Wr TW w' b g (addMask l pl typeT m) ∧ Below b w w' ∧ Keep g w w' := by
  subst hp
  have hall : ∀ k (h : k < (bitsUpto m 31).length), (bitsUpto m 31).getD k 0 < 6 := fun k h => by
    rw [show (bitsUpto m 31).getD k 0 = (bitsUpto m 31)[k] by simp [List.getD, h]]; exact bits_lt hm (List.getElem_mem h)
  have hle := bitsUpto_le m 31
  have HD : Hid (addMask l (L p) typeT m = ((bitsUpto m 31).map (fun i => L p ++ wd typeT i)).foldl addW l) := rfl
  generalize addMask l (L p) typeT m = R at *
  go_enter Tryz.func79, Tryz.ntmps79
  go_wp2_with (go_at_call 75; (with_reducible refine (bits_s _ _ (by omega)).mono ?_); rintro e w1 ⟨A, c, rfl, hc, hn1, hb1⟩)
  generalize bitsUpto m 31 = bl at *
  have hw1 := hw.below hb1
  have hsz1 := hb1.size
  have hbw : b ≤ w.heap.size := by have := hw.lt; omega
  clear hw
  have hk1 : Keep g w w1 := Keep.of_below hb1
  have hbb : Below b w w1 := hb1.mono hbw
  go_loopw [13] (fun i wr => ∃ k : Nat, k ≤ bl.length ∧ i = .int .i64 k ∧ Wr TW wr b g (((bl.take k).map (fun i => L p ++ wd typeT i)).foldl addW l) ∧ Below b w wr ∧ Keep g w wr ∧ Nums wr w.heap.size bl (.slice A bl.length c)) (fun i _ => bl.length - (intOf i).toNat)
  case atStart => exact ⟨0, by omega, rfl, hw1, hbb, hk1, hn1⟩
  case round =>
    obtain ⟨k, hk, rfl, hwr, hb, hkp, hn⟩ := hrel
    by_cases hlt : k < bl.length
    · obtain ⟨g2, rfl, hg2, hcl⟩ := hn.at_ hlt
      have hi6 := hall k hlt
      have HX := Lib.hid (addW_all l (L p) typeT bl k hlt)
      have hln : (((bl.take k).map (fun i => L p ++ wd typeT i)).foldl addW l).length < 1000000000 := by
        have := foldl_addW_len ((bl.take k).map (fun i => L p ++ wd typeT i)) l
        rw [List.length_map, List.length_take] at this; omega
      have hbs : b ≤ wr.heap.size := Nat.le_trans hbw hb.size
      rw [show bl[k] = bl.getD k 0 by simp [List.getD, hlt]] at hcl
      clear hall hn1 hw1 hk1 hbb hb1 hsz1
      generalize bl.getD k 0 = j at *
      have hwl : p.size + (wd typeT j).length ≤ 9223372036854775807 := by have := wd_len (T := typeT) (K := 20) (by decide) j; omega
      go_wp2_with (go_at_call 80; (with_reducible refine (typeName_w _ hi6 _).mono ?_); rintro e wn ⟨rfl, hbn⟩)
      have hwn := hwr.below hbn
      have hnn := hn.below hbn
      have hbm := hb.trans (hbn.mono hbs)
      have hkm := hkp.trans (Keep.of_below hbn)
      go_wp2_with (go_at_call 77; (with_reducible refine (add_any _ _ _ _ _ hwn hln).mono ?_); rintro e w3 ⟨rfl, hw3, hb3, hk3⟩)
      have hw4 : Wr TW w3 b g (((bl.take (k + 1)).map (fun i => L p ++ wd typeT i)).foldl addW l) := by rw [HX.out]; simpa [L_append] using hw3
      obtain ⟨vg, hvg⟩ := hwn.block
      have hn4 := Nums.keep hnn hk3 hvg (by decide)
      have hb4 : Below b w w3 := (hbm).trans hb3
      have hk4 : Keep g w w3 := (hkm).trans hk3
      clear hvg
      go_roundw
      case rel => exact ⟨k + 1, by omega, by go_num, hw4, hb4, hk4, hn4⟩
      case measure => simp [intOf]; omega
    · obtain rfl : k = bl.length := by omega
      rw [List.take_length] at hwr
      go_wp2
      go_end0
      exact ⟨rfl, by rw [HD.out]; exact hwr, hb, hkp⟩
set_option maxRecDepth 100000 in
theorem maskColor_any (m : Nat) (p : ByteArray) (pl : Str) (hp : L p = pl) (w : World) (b g : Nat) (l : List Str) (hw : Wr TW w b g l) (hlen : l.length < 1000000) (hm : m < 2 ^ 5) (hps : p.size ≤ 1000) (hl : LB b w) :
    Calls Tryz.prog 79 #[.pointer (some ⟨g, 0, none⟩), .int .i64 m, .string p, .func (.func 81) #[] #[]] w fun e w' => e = .returned (.tuple #[]) ∧ Wr TW w' b g (addMask l pl colorT m) ∧ Below b w w' ∧ Keep g w w' := by
  subst hp
  have hall : ∀ k (h : k < (bitsUpto m 31).length), (bitsUpto m 31).getD k 0 < 5 := fun k h => by
    rw [show (bitsUpto m 31).getD k 0 = (bitsUpto m 31)[k] by simp [List.getD, h]]; exact bits_lt hm (List.getElem_mem h)
  have hle := bitsUpto_le m 31
  have HD : Hid (addMask l (L p) colorT m = ((bitsUpto m 31).map (fun i => L p ++ wd colorT i)).foldl addW l) := rfl
  generalize addMask l (L p) colorT m = R at *
  go_enter Tryz.func79, Tryz.ntmps79
  go_wp2_with (go_at_call 75; (with_reducible refine (bits_s _ _ (by omega)).mono ?_); rintro e w1 ⟨A, c, rfl, hc, hn1, hb1⟩)
  generalize bitsUpto m 31 = bl at *
  have hw1 := hw.below hb1
  have hsz1 := hb1.size
  have hbw : b ≤ w.heap.size := by have := hw.lt; omega
  clear hw
  have hk1 : Keep g w w1 := Keep.of_below hb1
  have hbb : Below b w w1 := hb1.mono hbw
  go_loopw [13] (fun i wr => ∃ k : Nat, k ≤ bl.length ∧ i = .int .i64 k ∧ Wr TW wr b g (((bl.take k).map (fun i => L p ++ wd colorT i)).foldl addW l) ∧ Below b w wr ∧ Keep g w wr ∧ Nums wr w.heap.size bl (.slice A bl.length c)) (fun i _ => bl.length - (intOf i).toNat)
  case atStart => exact ⟨0, by omega, rfl, hw1, hbb, hk1, hn1⟩
  case round =>
    obtain ⟨k, hk, rfl, hwr, hb, hkp, hn⟩ := hrel
    by_cases hlt : k < bl.length
    · obtain ⟨g2, rfl, hg2, hcl⟩ := hn.at_ hlt
      have hi6 := hall k hlt
      have HX := Lib.hid (addW_all l (L p) colorT bl k hlt)
      have hln : (((bl.take k).map (fun i => L p ++ wd colorT i)).foldl addW l).length < 1000000000 := by
        have := foldl_addW_len ((bl.take k).map (fun i => L p ++ wd colorT i)) l
        rw [List.length_map, List.length_take] at this; omega
      have hbs : b ≤ wr.heap.size := Nat.le_trans hbw hb.size
      rw [show bl[k] = bl.getD k 0 by simp [List.getD, hlt]] at hcl
      clear hall hn1 hw1 hk1 hbb hb1 hsz1
      generalize bl.getD k 0 = j at *
      have hwl : p.size + (wd colorT j).length ≤ 9223372036854775807 := by have := wd_len (T := colorT) (K := 20) (by decide) j; omega
      have hlr := (hl.below hb).laid
      go_wp2_with (go_at_call 81; (with_reducible refine (colorName_w _ hi6 _ hlr).mono ?_); rintro e wn ⟨rfl, rfl⟩)
      have hwn := hwr
      go_wp2_with (go_at_call 77; (with_reducible refine (add_any _ _ _ _ _ hwn hln).mono ?_); rintro e w3 ⟨rfl, hw3, hb3, hk3⟩)
      have hw4 : Wr TW w3 b g (((bl.take (k + 1)).map (fun i => L p ++ wd colorT i)).foldl addW l) := by rw [HX.out]; simpa [L_append] using hw3
      obtain ⟨vg, hvg⟩ := hwn.block
      have hn4 := Nums.keep hn hk3 hvg (by decide)
      have hb4 : Below b w w3 := (hb).trans hb3
      have hk4 : Keep g w w3 := (hkp).trans hk3
      clear hvg
      go_roundw
      case rel => exact ⟨k + 1, by omega, by go_num, hw4, hb4, hk4, hn4⟩
      case measure => simp [intOf]; omega
    · obtain rfl : k = bl.length := by omega
      rw [List.take_length] at hwr
      go_wp2
      go_end0
      exact ⟨rfl, by rw [HD.out]; exact hwr, hb, hkp⟩
set_option maxRecDepth 100000 in
theorem maskKey_any (m : Nat) (p : ByteArray) (pl : Str) (hp : L p = pl) (w : World) (b g : Nat) (l : List Str) (hw : Wr TW w b g l) (hlen : l.length < 1000000) (hm : m < 2 ^ 17) (hps : p.size ≤ 1000) :
    Calls Tryz.prog 79 #[.pointer (some ⟨g, 0, none⟩), .int .i64 m, .string p, .func (.func 76) #[] #[]] w fun e w' => e = .returned (.tuple #[]) ∧ Wr TW w' b g (addMask l pl kwT m) ∧ Below b w w' ∧ Keep g w w' := by
  subst hp
  have hall : ∀ k (h : k < (bitsUpto m 31).length), (bitsUpto m 31).getD k 0 < 17 := fun k h => by
    rw [show (bitsUpto m 31).getD k 0 = (bitsUpto m 31)[k] by simp [List.getD, h]]; exact bits_lt hm (List.getElem_mem h)
  have hle := bitsUpto_le m 31
  have HD : Hid (addMask l (L p) kwT m = ((bitsUpto m 31).map (fun i => L p ++ wd kwT i)).foldl addW l) := rfl
  generalize addMask l (L p) kwT m = R at *
  go_enter Tryz.func79, Tryz.ntmps79
  go_wp2_with (go_at_call 75; (with_reducible refine (bits_s _ _ (by omega)).mono ?_); rintro e w1 ⟨A, c, rfl, hc, hn1, hb1⟩)
  generalize bitsUpto m 31 = bl at *
  have hw1 := hw.below hb1
  have hsz1 := hb1.size
  have hbw : b ≤ w.heap.size := by have := hw.lt; omega
  clear hw
  have hk1 : Keep g w w1 := Keep.of_below hb1
  have hbb : Below b w w1 := hb1.mono hbw
  go_loopw [13] (fun i wr => ∃ k : Nat, k ≤ bl.length ∧ i = .int .i64 k ∧ Wr TW wr b g (((bl.take k).map (fun i => L p ++ wd kwT i)).foldl addW l) ∧ Below b w wr ∧ Keep g w wr ∧ Nums wr w.heap.size bl (.slice A bl.length c)) (fun i _ => bl.length - (intOf i).toNat)
  case atStart => exact ⟨0, by omega, rfl, hw1, hbb, hk1, hn1⟩
  case round =>
    obtain ⟨k, hk, rfl, hwr, hb, hkp, hn⟩ := hrel
    by_cases hlt : k < bl.length
    · obtain ⟨g2, rfl, hg2, hcl⟩ := hn.at_ hlt
      have hi6 := hall k hlt
      have HX := Lib.hid (addW_all l (L p) kwT bl k hlt)
      have hln : (((bl.take k).map (fun i => L p ++ wd kwT i)).foldl addW l).length < 1000000000 := by
        have := foldl_addW_len ((bl.take k).map (fun i => L p ++ wd kwT i)) l
        rw [List.length_map, List.length_take] at this; omega
      have hbs : b ≤ wr.heap.size := Nat.le_trans hbw hb.size
      rw [show bl[k] = bl.getD k 0 by simp [List.getD, hlt]] at hcl
      clear hall hn1 hw1 hk1 hbb hb1 hsz1
      generalize bl.getD k 0 = j at *
      have hwl : p.size + (wd kwT j).length ≤ 9223372036854775807 := by have := wd_len (T := kwT) (K := 20) (by decide) j; omega
      go_wp2_with (go_at_call 76; (with_reducible refine (keyName_w _ hi6 _).mono ?_); rintro e wn ⟨rfl, hbn⟩)
      have hwn := hwr.below hbn
      have hnn := hn.below hbn
      have hbm := hb.trans (hbn.mono hbs)
      have hkm := hkp.trans (Keep.of_below hbn)
      go_wp2_with (go_at_call 77; (with_reducible refine (add_any _ _ _ _ _ hwn hln).mono ?_); rintro e w3 ⟨rfl, hw3, hb3, hk3⟩)
      have hw4 : Wr TW w3 b g (((bl.take (k + 1)).map (fun i => L p ++ wd kwT i)).foldl addW l) := by rw [HX.out]; simpa [L_append] using hw3
      obtain ⟨vg, hvg⟩ := hwn.block
      have hn4 := Nums.keep hnn hk3 hvg (by decide)
      have hb4 : Below b w w3 := (hbm).trans hb3
      have hk4 : Keep g w w3 := (hkm).trans hk3
      clear hvg
      go_roundw
      case rel => exact ⟨k + 1, by omega, by go_num, hw4, hb4, hk4, hn4⟩
      case measure => simp [intOf]; omega
    · obtain rfl : k = bl.length := by omega
      rw [List.take_length] at hwr
      go_wp2
      go_end0
      exact ⟨rfl, by rw [HD.out]; exact hwr, hb, hkp⟩
end Go.Proofs.YtakgfbcmkhcdkaaGreatDoor
