/- Walks: package word: Split at a byte that is no bracket. Conditions: none. Walks: package keyword: Text and Parse. Conditions: Laid (for the library's words). Walks: package keyword: Parse. Conditions: the text is shorter than 100 million bytes. -/
import Derived.Test.YtakgfbcmkhcdkaaGreatDoorOne
import Derived.Test.YtakgfbcmkhcdkaaGreatDoorMKey
import Derived.Test.YtakgfbcmkhcdkaaGreatDoorBase
namespace Go.Proofs.YtakgfbcmkhcdkaaGreatDoor
set_option linter.all false
open Go.ChangeShapes Go.WideShapes Go.RowKit
/-- The depth after a byte. -/
def deeperN (d : Nat) (c : Nat) : Nat := if c = 40 ∨ c = 91 then d + 1 else if c = 41 ∨ c = 93 then d - 1 else d
theorem deeper_any (d c : Nat) (hd : d < 1000000000000) (w : World) :
    Calls Tryz.prog 156 #[.int .i64 d, .int .u8 c] w fun e w' => e = .returned (.int .i64 (deeperN d c : Nat)) ∧ w = w' := by
  by_cases h1 : c = 40
  · subst h1
    go_enter Tryz.func156, Tryz.ntmps156
    go_wp2
    go_ret
    exact ⟨ret_int (by simp [deeperN]), rfl⟩
  by_cases h2 : c = 91
  · subst h2
    go_enter Tryz.func156, Tryz.ntmps156
    go_wp2
    go_ret
    exact ⟨ret_int (by simp [deeperN]), rfl⟩
  have n1 : (((c : Nat) : Int) == 40) = false := by simp only [beq_eq_false_iff_ne, ne_eq]; omega
  have n2 : (((c : Nat) : Int) == 91) = false := by simp only [beq_eq_false_iff_ne, ne_eq]; omega
  have H1 := Lib.hid h1; have H2 := Lib.hid h2; clear h1 h2
  by_cases h3 : c = 41 ∨ c = 93
  · have HD : Hid (deeperN d c = d - 1) := by rw [deeperN, if_neg (by have := H1.out; have := H2.out; omega), if_pos h3]; rfl
    have hm : (d = 0 ∧ deeperN d c = 0) ∨ (0 < d ∧ ((deeperN d c : Nat) : Int) = (d : Int) - 1) := by rw [HD.out]; omega
    generalize deeperN d c = R at *
    rcases h3 with rfl | rfl <;> rcases hm with ⟨rfl, rfl⟩ | ⟨hp, hm⟩
    all_goals
      go_enter Tryz.func156, Tryz.ntmps156
      go_wp2
      go_ret
      exact ⟨ret_int (by omega), rfl⟩
  · have n3 : (((c : Nat) : Int) == 41) = false := by simp only [beq_eq_false_iff_ne, ne_eq]; omega
    have n4 : (((c : Nat) : Int) == 93) = false := by simp only [beq_eq_false_iff_ne, ne_eq]; omega
    have HD : Hid (deeperN d c = d) := by rw [deeperN, if_neg (by have := H1.out; have := H2.out; omega), if_neg h3]; rfl
    clear h3
    go_enter Tryz.func156, Tryz.ntmps156
    go_wp2
    go_ret
    exact ⟨ret_int (by rw [HD.out]), rfl⟩
/-- The parts of a text between the occurrences of a byte outside brackets: 'cur': what is read of the part that is begun. -/
def splitAux (b : Nat) : Nat → Str → Str → List Str
  | _, cur, [] => [cur]
  | d, cur, c :: r => if c.toNat = b ∧ d = 0 then cur :: splitAux b (deeperN d c.toNat) [] r else splitAux b (deeperN d c.toNat) (cur ++ [c]) r
def splitDep (b : Nat) (s : Str) : List Str := splitAux b 0 [] s
theorem splitAux_len (b : Nat) : ∀ (s : Str) (d : Nat) (cur : Str), (splitAux b d cur s).length ≤ s.length + 1
  | [], _, _ => by simp [splitAux]
  | c :: r, d, cur => by
    unfold splitAux; split
    · have := splitAux_len b r (deeperN d c.toNat) []; simp; omega
    · have := splitAux_len b r (deeperN d c.toNat) (cur ++ [c]); simp; omega
theorem deeperN_le (d c : Nat) : deeperN d c ≤ d + 1 := by
  unfold deeperN
  by_cases h1 : c = 40 ∨ c = 91
  · rw [if_pos h1]
    exact Nat.le_refl _
  · rw [if_neg h1]
    by_cases h2 : c = 41 ∨ c = 93
    · rw [if_pos h2]; omega
    · rw [if_neg h2]; omega
theorem take_drop_snoc (l : Str) {a k : Nat} (ha : a ≤ k) (hk : k < l.length) : (l.take (k + 1)).drop a = (l.take k).drop a ++ [l[k]] := by
  rw [List.take_succ_eq_append_getElem hk, List.drop_append_of_le_length (by simp; omega)]
theorem L_extract (s : ByteArray) (a b : Nat) : L (s.extract a b) = ((L s).take b).drop a := by
  have h := Lib.extract_data s a b
  show (s.extract a b).data.toList = _
  rw [h, L, List.drop_take]
theorem splitAux_step {b d k : Nat} {cur l : Str} (hk : k < l.length) : splitAux b d cur (l.drop k) = if byt l k = b ∧ d = 0 then cur :: splitAux b (deeperN d (byt l k)) [] (l.drop (k + 1)) else splitAux b (deeperN d (byt l k)) (cur ++ [l[k]]) (l.drop (k + 1)) := by
  rw [List.drop_eq_getElem_cons hk, splitAux]
  simp [byt, List.getD, hk]
set_option maxRecDepth 100000 in
theorem wsplit_any (s : ByteArray) (b : Nat) (hb : b < 256) (hnb : b ≠ 40 ∧ b ≠ 41 ∧ b ≠ 91 ∧ b ≠ 93) (hs : s.size < 100000000) (w : World) :
    Calls Tryz.prog 135 #[.string s, .int .u8 b] w (RetTexts w (splitDep b (L s))) := by
  obtain ⟨c0, rfl⟩ : ∃ c0 : UInt8, b = c0.toNat := ⟨UInt8.ofNat b, by simp; omega⟩
  have hix : Lib.indexByte [40, 41, 91, 93] c0 = -1 := by
    have : ∀ x : Nat, x ≠ c0.toNat → x < 256 → ((UInt8.ofNat x : UInt8) == c0) = false := fun x h1 h2 => by
      simp only [beq_eq_false_iff_ne, ne_eq]; intro e; apply h1; rw [← e]; simp; omega
    have a1 := this 40 (by omega) (by omega); have a2 := this 41 (by omega) (by omega); have a3 := this 91 (by omega) (by omega); have a4 := this 93 (by omega) (by omega)
    simp [Lib.indexByte] at *
    simp [a1, a2, a3, a4]
  have HL := splitAux_len c0.toNat (L s) 0 []
  rw [size_l] at HL
  have HD : Hid (splitDep c0.toNat (L s) = splitAux c0.toNat 0 [] (L s)) := rfl
  have hg := get_l s
  have HS := Lib.hid (show splitAux c0.toNat 0 [] (L s) = [] ++ splitAux c0.toNat 0 ([] : Str) ((L s).drop 0) by simp)
  have hlen : (splitDep c0.toNat (L s)).length ≤ s.size + 1 := HL
  clear HL
  generalize splitDep c0.toNat (L s) = R at *
  go_enter Tryz.func135, Tryz.ntmps135
  go_wp2_with (go_at_call 155; refine (indexByte_any _ c0 _).mono ?_; rintro e w2 ⟨rfl, rfl⟩; have hix2 : Lib.indexByte (L ⟨#[40, 41, 91, 93]⟩) c0 = -1 := hix)
  clear hix
  go_loopw [5, 6, 7, 8] (fun v bg d i wr => ∃ k a dd : Nat, ∃ done : List Str, k ≤ s.size ∧ a ≤ k ∧ dd ≤ k ∧ i = .int .i64 k ∧ bg = .int .i64 a ∧ d = .int .i64 dd ∧ Texts wr w.heap.size done v ∧ Below w.heap.size w wr ∧ done.length ≤ k ∧ Hid (R = done ++ splitAux c0.toNat dd (((L s).take k).drop a) ((L s).drop k))) (fun _ _ _ i _ => s.size - (intOf i).toNat)
  case atStart => exact ⟨0, 0, 0, [], by omega, by omega, by omega, rfl, rfl, rfl, Texts.nil _ _, Below.refl _ _, by simp, Lib.hid (by rw [HD.out]; simp)⟩
  case round =>
    obtain ⟨k, a, dd, done, hk, ha, hdd, rfl, rfl, rfl, hown, hbl, hdl, HR⟩ := hrel
    have hsz := hbl.size
    by_cases hlt : k < s.size
    · have hkl : k < (L s).length := by rw [size_l]; exact hlt
      have HST := Lib.hid (splitAux_step (b := c0.toNat) (d := dd) (cur := ((L s).take k).drop a) hkl)
      have hdn := deeperN_le dd (byt (L s) k)
      by_cases hyes : byt (L s) k = c0.toNat ∧ dd = 0
      · have HR2 : Hid (R = (done ++ [((L s).take k).drop a]) ++ splitAux c0.toNat (deeperN dd (byt (L s) k)) (((L s).take (k + 1)).drop (k + 1)) ((L s).drop (k + 1))) := Lib.hid (by
          rw [HR.out, HST.out, if_pos hyes, show ((L s).take (k + 1)).drop (k + 1) = [] from by simp [List.drop_eq_nil_of_le]]; simp)
        have t1 : (((byt (L s) k : Nat) : Int) == (c0.toNat : Int)) = true := by simp only [beq_iff_eq]; omega
        have t2 : (((dd : Nat) : Int) == 0) = true := by simp only [beq_iff_eq]; omega
        have hexL : Hid (L (s.extract a k) = ((L s).take k).drop a) := L_extract s a k
        have hln : done.length < 1000000000 := by omega
        have hddl : dd < 1000000000000 := by omega
        generalize hdp : deeperN dd (byt (L s) k) = dd' at *
        have Hdp := Lib.hid hdp; clear hdp hyes HST
        go_wp2_with (first | (at_builtin; refine wpList_text_push rfl (.tmp 29) (.tmp 34) 40 rfl Tryz.underlying40 info_str rfl rfl hown hln hsz ?_; intro v' w2 hown2 hb2) | (go_at_call 156; refine (deeper_any dd (byt (L s) k) hddl _).mono ?_; rw [Hdp.out]; rintro e w3 ⟨rfl, rfl⟩))
        have hb3 : Below w.heap.size w w2 := hbl.trans hb2
        have hdn' : dd' ≤ k + 1 := by omega
        have hdl' : (done ++ [L (s.extract a k)]).length ≤ k + 1 := by simp; omega
        rw [← hexL.out] at HR2
        go_roundw
        case rel => exact ⟨k + 1, k + 1, dd', _, by omega, by omega, by omega, by go_num, by go_num, rfl, hown2, hb3, hdl', HR2⟩
        case measure => simp [intOf]; omega
      · have HR2 : Hid (R = done ++ splitAux c0.toNat (deeperN dd (byt (L s) k)) (((L s).take (k + 1)).drop a) ((L s).drop (k + 1))) := Lib.hid (by
          rw [HR.out, HST.out, if_neg hyes, take_drop_snoc (L s) ha hkl])
        have hddl : dd < 1000000000000 := by omega
        have ht : (((byt (L s) k : Nat) : Int) == (c0.toNat : Int)) = false ∨ ((((byt (L s) k : Nat) : Int) == (c0.toNat : Int)) = true ∧ (((dd : Nat) : Int) == 0) = false) := by
          simp only [beq_eq_false_iff_ne, ne_eq, beq_iff_eq]; omega
        generalize hdp : deeperN dd (byt (L s) k) = dd' at *
        have Hdp := Lib.hid hdp; clear hdp hyes HST
        have hdn' : dd' ≤ k + 1 := by omega
        rcases ht with t1 | ⟨t1, t2⟩
        all_goals
          go_wp2_with (go_at_call 156; refine (deeper_any dd (byt (L s) k) hddl _).mono ?_; rw [Hdp.out]; rintro e w3 ⟨rfl, rfl⟩)
          go_roundw
          case rel => exact ⟨k + 1, a, dd', done, by omega, by omega, by omega, by go_num, rfl, rfl, hown, hbl, by omega, HR2⟩
          case measure => simp [intOf]; omega
    · obtain rfl : k = s.size := by omega
      have hexL : Hid (L (s.extract a s.size) = ((L s).take s.size).drop a) := L_extract s a s.size
      have HR2 : Hid (R = done ++ [L (s.extract a s.size)]) := Lib.hid (by
        rw [HR.out, hexL.out, ← size_l, List.drop_length]; rfl)
      have hln : done.length < 1000000000 := by omega
      go_wp2_with (at_builtin; refine wpList_text_push rfl (.tmp 43) (.tmp 47) 40 rfl Tryz.underlying40 info_str rfl rfl hown hln hsz ?_; intro v' w2 hown2 hb2; obtain ⟨A2, c2, rfl, hcc⟩ := hown2.form)
      go_ret
      have hRl : R.length = done.length + 1 := by rw [HR2.out]; simp
      rw [← HR2.out] at hown2
      exact ⟨A2, c2, by rw [hRl]; rfl, hown2, hbl.trans hb2⟩
end Go.Proofs.YtakgfbcmkhcdkaaGreatDoor
namespace Go.Proofs.YtakgfbcmkhcdkaaGreatDoor
set_option linter.all false
open Go.ChangeShapes Go.WideShapes Go.RowKit
def keyText (m : Nat) : Str := if m = 0 then noneW else Lib.join (maskWords kwT m) [43]
theorem keyIs_any (m : Nat) (w : World) :
    Calls Tryz.prog 74 #[.int .i64 m] w fun e w' => e = .returned (.bool (decide (m ≤ 131071))) ∧ w = w' := by
  by_cases h : m ≤ 131071
  · have h1 : ((m : Nat) : Int) ≤ 131071 := by omega
    rw [decide_eq_true h]; clear h
    go_enter Tryz.func74, Tryz.ntmps74
    go_wp2
    go_ret
    exact ⟨rfl, rfl⟩
  · have h1 : ¬ ((m : Nat) : Int) ≤ 131071 := by omega
    rw [decide_eq_false h]; clear h
    go_enter Tryz.func74, Tryz.ntmps74
    go_wp2
    go_ret
    exact ⟨ret_bool (by simp), rfl⟩
theorem keyJoin_any (l : List Str) (A : Option Addr) (c base : Nat) (w : World) (h : Texts w base l (.slice A l.length c)) (hN : l.length ≤ 100000000) (hlen : (Lib.join l [43]).length ≤ 140737488355328) :
    Calls Tryz.prog 58 #[.slice A l.length c, .string ⟨#[43]⟩] w fun e w' => e = .returned (.string (B (Lib.join l [43]))) ∧ Below w.heap.size w w' := by
  go_enter Tryz.func58, Tryz.ntmps58
  go_wp2_with (go_at_call 71; (with_reducible refine (join_any _ _ _ _ _ _ h hN [43] rfl hlen).mono ?_); rintro e w2 ⟨rfl, hb2⟩)
  go_ret
  exact ⟨rfl, hb2⟩
theorem keyName_w2 (i : Nat) (hi : i < 17) (w : World) :
    Calls Tryz.prog 76 #[.int .i64 i] w fun e w' => e = .returned (.string (B (wd kwT i))) ∧ Below w.heap.size w w' := keyName_any i hi w
set_option maxRecDepth 100000 in
theorem keyText_any (m : Nat) (hm : m < 2 ^ 17) (w : World) :
    Calls Tryz.prog 38 #[.int .i64 m] w fun e w' => e = .returned (.string (B (keyText m))) ∧ Below w.heap.size w w' := by
  have hall : ∀ k (h : k < (bitsUpto m 31).length), (bitsUpto m 31).getD k 0 < 17 := fun k h => by
    rw [show (bitsUpto m 31).getD k 0 = (bitsUpto m 31)[k] by simp [List.getD, h]]; exact bits_lt hm (List.getElem_mem h)
  have hle := bitsUpto_le m 31
  have hdm : decide (m ≤ 131071) = true := by rw [decide_eq_true_eq]; omega
  have hmw : Hid (maskWords kwT m = (bitsUpto m 31).map (fun i => wd kwT i)) := rfl
  have hjl : Hid ((Lib.join (maskWords kwT m) [43]).length ≤ 140737488355328) := by
    have h1 := join_le [43] 20 _ (maskWords_le (m := m) (show ∀ x ∈ kwT, x.length ≤ 20 by decide))
    have h2 := maskWords_len kwT m
    simp only [List.length_cons, List.length_nil] at h1; show _ ≤ _; omega
  have h0 : Hid (m = 0 ↔ bitsUpto m 31 = []) := ⟨fun h => by subst h; decide, fun h => by
    apply Nat.eq_of_testBit_eq
    intro i
    rw [Nat.zero_testBit]
    cases hb : m.testBit i
    · rfl
    · have hi : i < 31 := by
        rcases Nat.lt_or_ge i 31 with h' | h'
        · exact h'
        · rw [Nat.testBit_lt_two_pow (Nat.lt_of_lt_of_le hm (Nat.pow_le_pow_right (by omega) (by omega)))] at hb; cases hb
      have : i ∈ bitsUpto m 31 := by unfold bitsUpto; simp [hi, hb]
      rw [h] at this; simp at this⟩
  have HD : Hid (keyText m = if m = 0 then noneW else Lib.join (maskWords kwT m) [43]) := rfl
  generalize keyText m = R at *
  go_enter Tryz.func38, Tryz.ntmps38
  go_wp2_with (first | (go_at_call 74; (with_reducible refine (keyIs_any _ _).mono ?_); rintro e w0 ⟨rfl, rfl⟩) | (go_at_call 75; (with_reducible refine (bits_s _ _ (by omega)).mono ?_); rintro e w1 ⟨A, c, rfl, hc, hn1, hb1⟩))
  generalize bitsUpto m 31 = bl at *
  have hsz1 := hb1.size
  go_loopw [3, 12] (fun v i wr => ∃ k : Nat, k ≤ bl.length ∧ i = .int .i64 k ∧ Texts wr w1.heap.size ((bl.take k).map (fun i => wd kwT i)) v ∧ Below w1.heap.size w1 wr) (fun _ i _ => bl.length - (intOf i).toNat)
  case atStart => exact ⟨0, by omega, rfl, Texts.nil _ _, Below.refl _ _⟩
  case round =>
    obtain ⟨k, hk, rfl, hown, hb⟩ := hrel
    have hsz := hb.size
    by_cases hlt : k < bl.length
    · obtain ⟨g, rfl, hg, hcl⟩ := hn1.at_ hlt
      have hcell := cell_belowB hb hg hcl
      have hi6 := hall k hlt
      have HX := Lib.hid (take_snoc_map (fun i => wd kwT i) bl k hlt)
      have hln : ((bl.take k).map (fun i => wd kwT i)).length < 1000000000 := by rw [List.length_map, List.length_take]; omega
      rw [show bl[k] = bl.getD k 0 by simp [List.getD, hlt]] at hcell HX
      clear hcl hall hmw hjl h0 HD
      generalize bl.getD k 0 = j at *
      go_wp2_with (first | (go_at_call 76; (with_reducible refine (keyName_w2 _ hi6 _).mono ?_); rintro e wn ⟨rfl, hbn⟩; have hownn := hown.below hbn; have hszn := Nat.le_trans hsz hbn.size) | (at_builtin; refine wpList_text_push rfl (.tmp 16) (.tmp 19) 40 rfl Tryz.underlying40 info_str rfl rfl hownn hln hszn ?_; intro v' w2 hown2 hb2))
      have hown3 : Texts w2 w1.heap.size ((bl.take (k + 1)).map (fun i => wd kwT i)) v' := by rw [HX.out]; exact hown2
      have hb3 : Below w1.heap.size w1 w2 := (below_all hb hbn hsz).trans hb2
      go_roundw
      case rel => exact ⟨k + 1, by omega, by go_num, hown3, hb3⟩
      case measure => simp [intOf]; omega
    · obtain rfl : k = bl.length := by omega
      rw [List.take_length] at hown
      have hmw2 := hmw.out
      rw [← hmw2] at hown
      have hjl2 := hjl.out
      have hbe := below_all hb1 hb hsz1
      have hmwl : (maskWords kwT m).length = bl.length := by rw [hmw2, List.length_map]
      have hN : (maskWords kwT m).length ≤ 100000000 := by omega
      obtain ⟨A2, c2, rfl, _⟩ := hown.form
      by_cases hm0 : bl = []
      · have hl0 : (maskWords kwT m).length = 0 := by rw [hmwl, hm0]; rfl
        have HD2 : Hid (R = noneW) := by rw [HD.out, if_pos (h0.out.2 hm0)]; rfl
        clear hmw hmw2 HD h0 hm0 hall hjl2 hN hmwl
        go_wp2
        go_ret
        exact ⟨ret_str (by rw [HD2.out]; rfl), hbe⟩
      · have hl0 : (((maskWords kwT m).length : Int) == 0) = false := by
          simp only [beq_eq_false_iff_ne, ne_eq]; intro e; apply hm0; exact List.eq_nil_of_length_eq_zero (by omega)
        have HD2 : Hid (R = Lib.join (maskWords kwT m) [43]) := by rw [HD.out, if_neg (fun e => hm0 (h0.out.1 e))]; rfl
        clear hmw hmw2 HD h0 hm0 hall hmwl
        go_wp2_with (go_at_call 58; (with_reducible refine (keyJoin_any _ _ _ _ _ hown hN hjl2).mono ?_); rintro e w3 ⟨rfl, hb3⟩)
        go_ret
        exact ⟨ret_str (by rw [HD2.out]), below_two hbe hb3⟩
end Go.Proofs.YtakgfbcmkhcdkaaGreatDoor
namespace Go.Proofs.YtakgfbcmkhcdkaaGreatDoor
set_option linter.all false
open Go.ChangeShapes Go.WideShapes Go.RowKit
def keyStep (part : Str) (a i : Nat) : Nat := if wd kwT i = part then a ||| 2 ^ i else a
def keyAcc (part : Str) (k acc : Nat) : Nat := (List.range k).foldl (keyStep part) acc
theorem keyAcc_succ (part : Str) (k acc : Nat) : keyAcc part (k + 1) acc = keyStep part (keyAcc part k acc) k := by
  unfold keyAcc; rw [List.range_succ, List.foldl_append]; rfl
theorem keyAcc_lt (part : Str) : ∀ k acc, k ≤ 17 → acc < 2 ^ 17 → keyAcc part k acc < 2 ^ 17
  | 0, acc, _, h => h
  | k + 1, acc, hk, h => by
    rw [keyAcc_succ]; unfold keyStep
    have ih := keyAcc_lt part k acc (by omega) h
    split
    · exact Nat.or_lt_two_pow ih (Nat.pow_lt_pow_right (by omega) (by omega))
    · exact ih
def keyParts (ps : List Str) : Nat := ps.foldl (fun a p => keyAcc p 17 a) 0
theorem keyParts_snoc (l : List Str) (k : Nat) (h : k < l.length) : keyParts (l.take (k + 1)) = keyAcc l[k] 17 (keyParts (l.take k)) := by
  unfold keyParts; rw [List.take_succ_eq_append_getElem h, List.foldl_append]; rfl
theorem keyParts_lt (l : List Str) : keyParts l < 2 ^ 17 := by
  have : ∀ (l : List Str) (a : Nat), a < 2 ^ 17 → l.foldl (fun a p => keyAcc p 17 a) a < 2 ^ 17 := by
    intro l
    induction l with
    | nil => intro a h; exact h
    | cons x r ih => intro a h; exact ih _ (keyAcc_lt x 17 a (Nat.le_refl _) h)
  exact this l 0 (by decide)
/-- The mask of keywords with a text. -/
def pkOf (s : Str) : Option Nat := if keyText (keyParts (splitDep 43 s)) = s then some (keyParts (splitDep 43 s)) else none
theorem toList_B_yes {a : Str} {s : Str} (h : a = s) : (a == s) = true := by simpa using h
theorem toList_B_no {a : Str} {s : Str} (h : ¬ a = s) : (a == s) = false := by simpa using h
theorem wsplit_plus (s : ByteArray) (hs : s.size < 100000000) (w : World) :
    Calls Tryz.prog 135 #[.string s, .int .u8 43] w (RetTexts w (splitDep 43 (L s))) := wsplit_any s 43 (by omega) (by omega) hs w
set_option maxRecDepth 100000 in
theorem keyParse_any (s : ByteArray) (w : World) (hs : s.size < 100000000) :
    Calls Tryz.prog 102 #[.string s] w fun e w' => e = .returned (optRet (pkOf (L s))) ∧ Below w.heap.size w w' := by
  have hlen : (splitDep 43 (L s)).length ≤ s.size + 1 := by have := splitAux_len 43 (L s) 0 []; rw [size_l] at this; exact this
  have HD : Hid (pkOf (L s) = if keyText (keyParts (splitDep 43 (L s))) = L s then some (keyParts (splitDep 43 (L s))) else none) := rfl
  generalize pkOf (L s) = R at *
  go_enter Tryz.func102, Tryz.ntmps102
  go_wp2_with (go_at_call 135; (with_reducible refine (wsplit_plus _ hs _).mono ?_); rintro e w1 ⟨A, c, rfl, ht, hb1⟩)
  generalize splitDep 43 (L s) = ws at *
  have hsz1 := hb1.size
  go_loopw [4, 11] (fun m i wr => ∃ k : Nat, k ≤ ws.length ∧ i = .int .i64 k ∧ m = .int .i64 (keyParts (ws.take k) : Nat) ∧ Below w1.heap.size w1 wr) (fun _ i _ => ws.length - (intOf i).toNat)
  case atStart => exact ⟨0, by omega, rfl, rfl, Below.refl _ _⟩
  case round =>
    obtain ⟨k, hk, rfl, rfl, hb⟩ := hrel
    have hsz := hb.size
    by_cases hlt : k < ws.length
    · obtain ⟨g, rfl, hg, hcl⟩ := ht.at_ hlt
      have hcell := cell_belowB hb hg hcl
      have HX := Lib.hid (keyParts_snoc ws k hlt)
      have hac := keyParts_lt (ws.take k)
      clear hcl ht
      generalize ws[k] = x at *
      generalize keyParts (ws.take k) = acc at *
      go_wp2
      obtain ⟨wo, rfl⟩ : ∃ wo : World, wo = wr := ⟨_, rfl⟩
      go_loopw [4, 15] (fun m i wi => ∃ j : Nat, j ≤ 17 ∧ i = .int .i64 j ∧ m = .int .i64 (keyAcc x j acc : Nat) ∧ Below wo.heap.size wo wi) (fun _ i _ => 17 - (intOf i).toNat)
      case atStart => exact ⟨0, by omega, rfl, rfl, Below.refl _ _⟩
      case round =>
        obtain ⟨j, hj, rfl, rfl, hbi⟩ := hrel
        by_cases hlj : j < 17
        · have HS := Lib.hid (keyAcc_succ x j acc)
          have hacj := keyAcc_lt x j acc (by omega) hac
          have hpw := wrap_pow (k := j) (by omega)
          obtain ⟨pj, hpj⟩ : ∃ pj : Nat, pj = 2 ^ j := ⟨_, rfl⟩
          rw [← hpj] at hpw
          have hpj2 : pj < 2 ^ 17 := by rw [hpj]; exact Nat.pow_lt_pow_right (by omega) (by omega)
          have hor := i64_or_nat (keyAcc x j acc) pj (by omega) (by omega)
          have HPJ := Lib.hid hpj; clear hpj
          by_cases he : wd kwT j = x
          · have t1 := toList_B_yes he
            have HN : Hid (keyAcc x (j + 1) acc = keyAcc x j acc ||| pj) := by rw [HS.out, keyStep, if_pos he, HPJ.out]; rfl
            clear he HS
            generalize keyAcc x j acc = aj at *
            go_wp2_with (go_at_call 76; (with_reducible refine (keyName_w2 _ hlj _).mono ?_); rintro e wn ⟨rfl, hbn⟩)
            have hb3 := below_all hbi hbn hbi.size
            go_roundw
            case rel => exact ⟨j + 1, by omega, by go_num, by rw [HN.out], hb3⟩
            case measure => simp [intOf]; omega
          · have t1 := toList_B_no he
            have HN : Hid (keyAcc x (j + 1) acc = keyAcc x j acc) := by rw [HS.out, keyStep, if_neg he]; rfl
            clear he HS
            generalize keyAcc x j acc = aj at *
            go_wp2_with (go_at_call 76; (with_reducible refine (keyName_w2 _ hlj _).mono ?_); rintro e wn ⟨rfl, hbn⟩)
            have hb3 := below_all hbi hbn hbi.size
            go_roundw
            case rel => exact ⟨j + 1, by omega, by go_num, by rw [HN.out], hb3⟩
            case measure => simp [intOf]; omega
        · obtain rfl : j = 17 := by omega
          have hb4 : Below w1.heap.size w1 wr := below_all hb hbi hsz
          go_wp2
          go_roundw
          case rel => exact ⟨k + 1, by omega, by go_num, by rw [HX.out], hb4⟩
          case measure => simp [intOf]; omega
    · obtain rfl : k = ws.length := by omega
      have hE : ws.take ws.length = ws := List.take_length
      rw [hE]; clear hE
      have hbe := below_all hb1 hb hsz1
      have hkl := keyParts_lt ws
      by_cases h1 : keyText (keyParts ws) = L s
      · have t1 := toList_yes h1
        have HD2 : Hid (R = some (keyParts ws)) := by rw [HD.out, if_pos h1]; rfl
        clear h1 HD
        generalize keyParts ws = m at *
        go_wp2_with (go_at_call 38; (with_reducible refine (keyText_any _ hkl _).mono ?_); rintro e w2 ⟨rfl, hb2⟩)
        go_ret2
        exact ⟨ret_val (by rw [HD2.out]; rfl), below_two hbe hb2⟩
      · have t1 := toList_no h1
        have HD2 : Hid (R = none) := by rw [HD.out, if_neg h1]; rfl
        clear h1 HD
        generalize keyParts ws = m at *
        go_wp2_with (go_at_call 38; (with_reducible refine (keyText_any _ hkl _).mono ?_); rintro e w2 ⟨rfl, hb2⟩)
        go_ret2
        exact ⟨ret_val (by rw [HD2.out]; rfl), below_two hbe hb2⟩
end Go.Proofs.YtakgfbcmkhcdkaaGreatDoor
