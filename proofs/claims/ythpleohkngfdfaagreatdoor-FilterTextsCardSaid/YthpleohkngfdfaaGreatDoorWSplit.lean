/- Walks: package word: Split at a byte that is no bracket. Conditions: none. -/
import Derived.Test.YthpleohkngfdfaaGreatDoorLib
import Derived.Test.YthpleohkngfdfaaGreatDoorNum
namespace Go.Proofs.YthpleohkngfdfaaGreatDoor
set_option linter.all false
open Go.ChangeShapes Go.WideShapes Go.RowKit
/-- The depth after a byte. -/
def deeperN (d : Nat) (c : Nat) : Nat := if c = 40 ∨ c = 91 then d + 1 else if c = 41 ∨ c = 93 then d - 1 else d
theorem deeper_any (d c : Nat) (hd : d < 1000000000000) (w : World) :
    Calls Tryz.prog 97 #[.int .i64 d, .int .u8 c] w fun e w' => e = .returned (.int .i64 (deeperN d c : Nat)) ∧ w = w' := by
  by_cases h1 : c = 40
  · subst h1
    go_enter Tryz.func97, Tryz.ntmps97
    go_wp2
    go_ret
    exact ⟨ret_int (by simp [deeperN]), rfl⟩
  by_cases h2 : c = 91
  · subst h2
    go_enter Tryz.func97, Tryz.ntmps97
    go_wp2
    go_ret
    exact ⟨ret_int (by simp [deeperN]), rfl⟩
  have n1 : (((c : Nat) : Int) == 40) = false := by simp only [beq_eq_false_iff_ne, ne_eq]; omega
  have n2 : (((c : Nat) : Int) == 91) = false := by simp only [beq_eq_false_iff_ne, ne_eq]; omega
  have H1 := Lib.hid h1; have H2 := Lib.hid h2; clear h1 h2
  by_cases h3 : c = 41 ∨ c = 93
  · have HD : Hid (deeperN d c = d - 1) := by rw [deeperN, if_neg (by have := H1.out; have := H2.out; omega), if_pos h3]; rfl
    have hm : (d = 0 ∧ deeperN d c = 0) ∨ (0 < d ∧ ((deeperN d c : Nat) : Int) = (d : Int) - 1) := by rw [HD.out]; omega
    generalize deeperN d c = R at *
    rcases h3 with rfl | rfl <;> rcases hm with ⟨rfl, rfl⟩ | ⟨hp, hm⟩
    all_goals
      go_enter Tryz.func97, Tryz.ntmps97
      go_wp2
      go_ret
      exact ⟨ret_int (by omega), rfl⟩
  · have n3 : (((c : Nat) : Int) == 41) = false := by simp only [beq_eq_false_iff_ne, ne_eq]; omega
    have n4 : (((c : Nat) : Int) == 93) = false := by simp only [beq_eq_false_iff_ne, ne_eq]; omega
    have HD : Hid (deeperN d c = d) := by rw [deeperN, if_neg (by have := H1.out; have := H2.out; omega), if_neg h3]; rfl
    clear h3
    go_enter Tryz.func97, Tryz.ntmps97
    go_wp2
    go_ret
    exact ⟨ret_int (by rw [HD.out]), rfl⟩
/-- The parts of a text between the occurrences of a byte outside brackets: 'cur': what is read of the part that is begun. -/
def splitAux (b : Nat) : Nat → Str → Str → List Str
  | _, cur, [] => [cur]
  | d, cur, c :: r => if c.toNat = b ∧ d = 0 then cur :: splitAux b (deeperN d c.toNat) [] r else splitAux b (deeperN d c.toNat) (cur ++ [c]) r
def splitDep (b : Nat) (s : Str) : List Str := splitAux b 0 [] s
theorem splitAux_len (b : Nat) : ∀ (s : Str) (d : Nat) (cur : Str), (splitAux b d cur s).length ≤ s.length + 1
  | [], _, _ => by simp [splitAux]
  | c :: r, d, cur => by
    unfold splitAux; split
    · have := splitAux_len b r (deeperN d c.toNat) []; simp; omega
    · have := splitAux_len b r (deeperN d c.toNat) (cur ++ [c]); simp; omega
theorem deeperN_le (d c : Nat) : deeperN d c ≤ d + 1 := by
  unfold deeperN
  by_cases h1 : c = 40 ∨ c = 91
  · rw [if_pos h1]
    exact Nat.le_refl _
  · rw [if_neg h1]
    by_cases h2 : c = 41 ∨ c = 93
    · rw [if_pos h2]; omega
    · rw [if_neg h2]; omega
theorem take_drop_snoc (l : Str) {a k : Nat} (ha : a ≤ k) (hk : k < l.length) : (l.take (k + 1)).drop a = (l.take k).drop a ++ [l[k]] := by
  rw [List.take_succ_eq_append_getElem hk, List.drop_append_of_le_length (by simp; omega)]
theorem L_extract (s : ByteArray) (a b : Nat) : L (s.extract a b) = ((L s).take b).drop a := by
  have h := Lib.extract_data s a b
  show (s.extract a b).data.toList = _
  rw [h, L, List.drop_take]
theorem splitAux_step {b d k : Nat} {cur l : Str} (hk : k < l.length) : splitAux b d cur (l.drop k) = if byt l k = b ∧ d = 0 then cur :: splitAux b (deeperN d (byt l k)) [] (l.drop (k + 1)) else splitAux b (deeperN d (byt l k)) (cur ++ [l[k]]) (l.drop (k + 1)) := by
  rw [List.drop_eq_getElem_cons hk, splitAux]
  simp [byt, List.getD, hk]
set_option maxRecDepth 100000 in
theorem wsplit_any (s : ByteArray) (b : Nat) (hb : b < 256) (hnb : b ≠ 40 ∧ b ≠ 41 ∧ b ≠ 91 ∧ b ≠ 93) (hs : s.size < 100000000) (w : World) :
    Calls Tryz.prog 81 #[.string s, .int .u8 b] w (RetTexts w (splitDep b (L s))) := by
  obtain ⟨c0, rfl⟩ : ∃ c0 : UInt8, b = c0.toNat := ⟨UInt8.ofNat b, by simp; omega⟩
  have hix : Lib.indexByte [40, 41, 91, 93] c0 = -1 := by
    have : ∀ x : Nat, x ≠ c0.toNat → x < 256 → ((UInt8.ofNat x : UInt8) == c0) = false := fun x h1 h2 => by
      simp only [beq_eq_false_iff_ne, ne_eq]; intro e; apply h1; rw [← e]; simp; omega
    have a1 := this 40 (by omega) (by omega); have a2 := this 41 (by omega) (by omega); have a3 := this 91 (by omega) (by omega); have a4 := this 93 (by omega) (by omega)
    simp [Lib.indexByte] at *
    simp [a1, a2, a3, a4]
  have HL := splitAux_len c0.toNat (L s) 0 []
  rw [size_l] at HL
  have HD : Hid (splitDep c0.toNat (L s) = splitAux c0.toNat 0 [] (L s)) := rfl
  have hg := get_l s
  have HS := Lib.hid (show splitAux c0.toNat 0 [] (L s) = [] ++ splitAux c0.toNat 0 ([] : Str) ((L s).drop 0) by simp)
  have hlen : (splitDep c0.toNat (L s)).length ≤ s.size + 1 := HL
  clear HL
  generalize splitDep c0.toNat (L s) = R at *
  go_enter Tryz.func81, Tryz.ntmps81
  go_wp2_with (go_at_call 85; refine (indexByte_any _ c0 _).mono ?_; rintro e w2 ⟨rfl, rfl⟩; have hix2 : Lib.indexByte (L ⟨#[40, 41, 91, 93]⟩) c0 = -1 := hix)
  clear hix
  go_loopw [5, 6, 7, 8] (fun v bg d i wr => ∃ k a dd : Nat, ∃ done : List Str, k ≤ s.size ∧ a ≤ k ∧ dd ≤ k ∧ i = .int .i64 k ∧ bg = .int .i64 a ∧ d = .int .i64 dd ∧ Texts wr w.heap.size done v ∧ Below w.heap.size w wr ∧ done.length ≤ k ∧ Hid (R = done ++ splitAux c0.toNat dd (((L s).take k).drop a) ((L s).drop k))) (fun _ _ _ i _ => s.size - (intOf i).toNat)
  case atStart => exact ⟨0, 0, 0, [], by omega, by omega, by omega, rfl, rfl, rfl, Texts.nil _ _, Below.refl _ _, by simp, Lib.hid (by rw [HD.out]; simp)⟩
  case round =>
    obtain ⟨k, a, dd, done, hk, ha, hdd, rfl, rfl, rfl, hown, hbl, hdl, HR⟩ := hrel
    have hsz := hbl.size
    by_cases hlt : k < s.size
    · have hkl : k < (L s).length := by rw [size_l]; exact hlt
      have HST := Lib.hid (splitAux_step (b := c0.toNat) (d := dd) (cur := ((L s).take k).drop a) hkl)
      have hdn := deeperN_le dd (byt (L s) k)
      by_cases hyes : byt (L s) k = c0.toNat ∧ dd = 0
      · have HR2 : Hid (R = (done ++ [((L s).take k).drop a]) ++ splitAux c0.toNat (deeperN dd (byt (L s) k)) (((L s).take (k + 1)).drop (k + 1)) ((L s).drop (k + 1))) := Lib.hid (by
          rw [HR.out, HST.out, if_pos hyes, show ((L s).take (k + 1)).drop (k + 1) = [] from by simp [List.drop_eq_nil_of_le]]; simp)
        have t1 : (((byt (L s) k : Nat) : Int) == (c0.toNat : Int)) = true := by simp only [beq_iff_eq]; omega
        have t2 : (((dd : Nat) : Int) == 0) = true := by simp only [beq_iff_eq]; omega
        have hexL : Hid (L (s.extract a k) = ((L s).take k).drop a) := L_extract s a k
        have hln : done.length < 1000000000 := by omega
        have hddl : dd < 1000000000000 := by omega
        generalize hdp : deeperN dd (byt (L s) k) = dd' at *
        have Hdp := Lib.hid hdp; clear hdp hyes HST
        go_wp2_with (first | (at_builtin; refine wpList_text_push rfl (.tmp 29) (.tmp 34) 37 rfl Tryz.underlying37 info_str rfl rfl hown hln hsz ?_; intro v' w2 hown2 hb2) | (go_at_call 97; refine (deeper_any dd (byt (L s) k) hddl _).mono ?_; rw [Hdp.out]; rintro e w3 ⟨rfl, rfl⟩))
        have hb3 : Below w.heap.size w w2 := hbl.trans hb2
        have hdn' : dd' ≤ k + 1 := by omega
        have hdl' : (done ++ [L (s.extract a k)]).length ≤ k + 1 := by simp; omega
        rw [← hexL.out] at HR2
        go_roundw
        case rel => exact ⟨k + 1, k + 1, dd', _, by omega, by omega, by omega, by go_num, by go_num, rfl, hown2, hb3, hdl', HR2⟩
        case measure => simp [intOf]; omega
      · have HR2 : Hid (R = done ++ splitAux c0.toNat (deeperN dd (byt (L s) k)) (((L s).take (k + 1)).drop a) ((L s).drop (k + 1))) := Lib.hid (by
          rw [HR.out, HST.out, if_neg hyes, take_drop_snoc (L s) ha hkl])
        have hddl : dd < 1000000000000 := by omega
        have ht : (((byt (L s) k : Nat) : Int) == (c0.toNat : Int)) = false ∨ ((((byt (L s) k : Nat) : Int) == (c0.toNat : Int)) = true ∧ (((dd : Nat) : Int) == 0) = false) := by
          simp only [beq_eq_false_iff_ne, ne_eq, beq_iff_eq]; omega
        generalize hdp : deeperN dd (byt (L s) k) = dd' at *
        have Hdp := Lib.hid hdp; clear hdp hyes HST
        have hdn' : dd' ≤ k + 1 := by omega
        rcases ht with t1 | ⟨t1, t2⟩
        all_goals
          go_wp2_with (go_at_call 97; refine (deeper_any dd (byt (L s) k) hddl _).mono ?_; rw [Hdp.out]; rintro e w3 ⟨rfl, rfl⟩)
          go_roundw
          case rel => exact ⟨k + 1, a, dd', done, by omega, by omega, by omega, by go_num, rfl, rfl, hown, hbl, by omega, HR2⟩
          case measure => simp [intOf]; omega
    · obtain rfl : k = s.size := by omega
      have hexL : Hid (L (s.extract a s.size) = ((L s).take s.size).drop a) := L_extract s a s.size
      have HR2 : Hid (R = done ++ [L (s.extract a s.size)]) := Lib.hid (by
        rw [HR.out, hexL.out, ← size_l, List.drop_length]; rfl)
      have hln : done.length < 1000000000 := by omega
      go_wp2_with (at_builtin; refine wpList_text_push rfl (.tmp 43) (.tmp 47) 37 rfl Tryz.underlying37 info_str rfl rfl hown hln hsz ?_; intro v' w2 hown2 hb2; obtain ⟨A2, c2, rfl, hcc⟩ := hown2.form)
      go_ret
      have hRl : R.length = done.length + 1 := by rw [HR2.out]; simp
      rw [← HR2.out] at hown2
      exact ⟨A2, c2, by rw [hRl]; rfl, hown2, hbl.trans hb2⟩
end Go.Proofs.YthpleohkngfdfaaGreatDoor
