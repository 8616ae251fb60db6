/- Walks of the reference: package cardgameref02: low, Is, Depth. Conditions: none. Plain words: a text cut at a byte outside brackets. No program in sight. Walks of the reference: package cardgameref02: Depth, Split, Join. Conditions: bounds on lengths. Walks of the reference: package cardgameref02: Split, Join. Conditions: bounds on lengths. Walks of the reference: package cardgameref10: IsSub, TypesText. Conditions: bounds. Walks of the reference: package cardgameref01: Clamp, Text, Number. Conditions: bounds. Plain words: a bit set in a mask; masks without a common bit. No program in sight. -/
import Derived.Test.YtakgfbcmkhcdkaaGreatDoorOne
import Derived.Test.YtakgfbcmkhcdkaaGreatDoorBase
import Derived.Test.YtakgfbcmkhcdkaaGreatDoorKeys
import Derived.Test.YtakgfbcmkhcdkaaGreatDoorRdr
import Derived.Lib.SmallJoins
import Derived.Lib.SlBytesRow
namespace Go.Proofs.YtakgfbcmkhcdkaaGreatDoor
set_option linter.all false
open Go.ChangeShapes Go.WideShapes Go.RowKit
def lowB (n : Nat) : Bool := decide (97 ≤ n) && decide (n ≤ 122)
theorem low_yes (n : Nat) (h : lowB n = true) (w : World) : Calls Tryz.prog 124 #[.int .u8 n] w fun e w' => e = .returned (.bool true) ∧ w = w' := by
  unfold lowB at h; simp only [Bool.and_eq_true, decide_eq_true_eq] at h
  obtain ⟨h1, h2⟩ : (97 : Int) ≤ n ∧ (n : Int) ≤ 122 := by omega
  go_enter Tryz.func124, Tryz.ntmps124
  go_wp2
  go_ret
  exact ⟨rfl, rfl⟩
theorem low_no (n : Nat) (h : lowB n = false) (w : World) : Calls Tryz.prog 124 #[.int .u8 n] w fun e w' => e = .returned (.bool false) ∧ w = w' := by
  unfold lowB at h; simp only [Bool.and_eq_false_iff, decide_eq_false_iff_not] at h
  by_cases h1 : (97 : Int) ≤ n
  · have h2 : ¬ (n : Int) ≤ 122 := by omega
    go_enter Tryz.func124, Tryz.ntmps124
    go_wp2
    go_ret
    exact ⟨rfl, rfl⟩
  · go_enter Tryz.func124, Tryz.ntmps124
    go_wp2
    go_ret
    exact ⟨rfl, rfl⟩
/-- The loop's test of place k: a byte of a name, no second hyphen. -/
def rOk (l : Str) (k : Nat) : Bool := okb (byt l k) && !(decide (0 < k) && (byt l k == 45 && byt l (k - 1) == 45))
def rHead (l : Str) : Bool := decide (0 < l.length) && (decide (l.length ≤ 32) && (lowB (byt l 0) && !(byt l (l.length - 1) == 45)))
def rName (l : Str) : Bool := rHead l && (List.range l.length).all (rOk l)
def dbl : Str → Bool
  | a :: b :: r => (a == 45 && b == 45) || dbl (b :: r)
  | _ => false
theorem contains_cons (a : UInt8) (r : Str) : Lib.contains (a :: r) [45, 45] = (([45, 45] : Str).isPrefixOf (a :: r) || Lib.contains r [45, 45]) := by
  have hge := Lib.index_ge r [45, 45]
  unfold Lib.contains
  rw [Lib.index]
  cases hp : ([45, 45] : Str).isPrefixOf (a :: r) with
  | true => simp
  | false =>
    simp only [Bool.false_eq_true, if_false, Bool.false_or]
    by_cases h : Lib.index r [45, 45] = -1
    · rw [h]; rfl
    · have hb : (Lib.index r [45, 45] == -1) = false := by rw [beq_eq_false_iff_ne]; exact h
      rw [hb, Bool.eq_iff_iff]; simp; omega
theorem contains_dbl : ∀ l : Str, Lib.contains l [45, 45] = dbl l
  | [] => rfl
  | [a] => by rw [contains_cons]; simp [List.isPrefixOf, dbl, Lib.contains, Lib.index]
  | a :: b :: r => by
    rw [contains_cons, contains_dbl (b :: r)]
    have e : ([45, 45] : Str).isPrefixOf (a :: b :: r) = (a == 45 && b == 45) := by
      rw [Bool.eq_iff_iff]; simp [List.isPrefixOf]; exact ⟨fun h => ⟨h.1.symm, h.2.symm⟩, fun h => ⟨h.1.symm, h.2.symm⟩⟩
    rw [e]; rfl
theorem byt_cons (a : UInt8) (r : Str) (k : Nat) : byt (a :: r) (k + 1) = byt r k := rfl
theorem dbl_at : ∀ l : Str, dbl l = true ↔ ∃ k, k + 1 < l.length ∧ byt l k = 45 ∧ byt l (k + 1) = 45
  | [] => by simp [dbl]
  | [a] => by simp [dbl]
  | a :: b :: r => by
    have ih := dbl_at (b :: r)
    have ha : ∀ c : UInt8, (c == 45) = true ↔ c.toNat = 45 := fun c => by
      rw [beq_iff_eq]; exact ⟨fun h => by rw [h]; rfl, fun h => by apply UInt8.toNat_inj.1; exact h⟩
    unfold dbl; rw [Bool.or_eq_true, Bool.and_eq_true, ih]
    constructor
    · rintro (⟨h1, h2⟩ | ⟨k, h1, h2, h3⟩)
      · exact ⟨0, by simp, (ha a).1 h1, (ha b).1 h2⟩
      · exact ⟨k + 1, by simp at h1 ⊢; omega, by rw [byt_cons]; exact h2, by rw [byt_cons]; exact h3⟩
    · rintro ⟨k, h1, h2, h3⟩
      cases k with
      | zero => exact .inl ⟨(ha a).2 h2, (ha b).2 h3⟩
      | succ k => exact .inr ⟨k, by simp at h1 ⊢; omega, by rw [byt_cons] at h2; exact h2, by rw [byt_cons] at h3; exact h3⟩
theorem all_ok (l : Str) : allOk l = (List.range l.length).all (fun k => okb (byt l k)) := by
  unfold allOk; rw [Bool.eq_iff_iff, List.all_eq_true, List.all_eq_true]
  constructor
  · intro h k hk
    have hk' : k < l.length := by simpa using hk
    have := h l[k] (List.getElem_mem hk')
    simpa [okc, byt, List.getD, hk'] using this
  · intro h x hx
    obtain ⟨k, hk, rfl⟩ := List.mem_iff_getElem.1 hx
    have := h k (by simpa using hk)
    simpa [okc, byt, List.getD, hk] using this
/-- The two tests of a name agree. -/
theorem rName_eq (l : Str) : rName l = isName l := by
  unfold rName isName nmHead rHead
  rw [contains_dbl, all_ok]
  have e : (List.range l.length).all (rOk l) = (((List.range l.length).all fun k => okb (byt l k)) && !dbl l) := by
    rw [Bool.eq_iff_iff, Bool.and_eq_true, List.all_eq_true, List.all_eq_true]
    constructor
    · intro h
      refine ⟨fun k hk => ?_, ?_⟩
      · have := h k hk; unfold rOk at this; rw [Bool.and_eq_true] at this; exact this.1
      · rw [Bool.not_eq_true']
        cases hd : dbl l with
        | false => rfl
        | true =>
          obtain ⟨k, h1, h2, h3⟩ := (dbl_at l).1 hd
          have := h (k + 1) (by simpa using h1)
          unfold rOk at this; rw [Nat.add_sub_cancel, h2, h3] at this; simp at this
    · rintro ⟨h1, h2⟩ k hk
      unfold rOk; rw [h1 k hk, Bool.true_and, Bool.not_eq_true']
      rw [Bool.not_eq_true'] at h2
      cases hb : (decide (0 < k) && (byt l k == 45 && byt l (k - 1) == 45)) with
      | false => rfl
      | true =>
        simp only [Bool.and_eq_true, decide_eq_true_eq, beq_iff_eq] at hb
        have hkl : k < l.length := by simpa using hk
        have := (dbl_at l).2 ⟨k - 1, by omega, hb.2.2, by rw [show k - 1 + 1 = k by omega]; exact hb.2.1⟩
        rw [this] at h2; cases h2
  rw [e]
  unfold lowB
  generalize (List.range l.length).all (fun k => okb (byt l k)) = A
  generalize dbl l = D
  cases A <;> cases D <;> simp [Bool.and_assoc]
theorem rHead_yes {s : ByteArray} (h : rHead (L s) = true) : 0 < s.size ∧ (s.size : Int) ≤ 32 ∧ lowB (byt (L s) 0) = true ∧ (((byt (L s) (s.size - 1) : Nat) : Int) == 45) = false := by
  rw [rHead, size_l] at h
  simp only [Bool.and_eq_true, decide_eq_true_eq, Bool.not_eq_true', beq_eq_false_iff_ne] at h ⊢
  exact ⟨h.1, by omega, h.2.2.1, by simp; omega⟩
set_option maxRecDepth 100000 in
theorem rWordHead_no (s : ByteArray) (w : World) (hn : rHead (L s) = false) :
    Calls Tryz.prog 65 #[.string s] w fun e w' => e = .returned (.bool false) ∧ w = w' := by
  rw [rHead, size_l] at hn
  by_cases h0 : 0 < s.size
  · have hg := get_l s
    by_cases h1 : (s.size : Int) ≤ 32
    · cases hlo : lowB (byt (L s) 0)
      · have H := Lib.hid hlo; clear hlo hn
        go_enter Tryz.func65, Tryz.ntmps65
        go_wp2_with (go_at_call 124; (with_reducible refine (low_no _ H.out _).mono ?_); rintro e w1 ⟨rfl, rfl⟩)
        go_ret
        exact ⟨rfl, rfl⟩
      · have t : (((byt (L s) (s.size - 1) : Nat) : Int) == 45) = true := by
          rw [hlo, decide_eq_true h0, decide_eq_true (by omega : s.size ≤ 32)] at hn
          have hb : byt (L s) (s.size - 1) = 45 := by simpa using hn
          rw [hb]; rfl
        have H := Lib.hid hlo; clear hlo hn
        go_enter Tryz.func65, Tryz.ntmps65
        go_wp2_with (go_at_call 124; (with_reducible refine (low_yes _ H.out _).mono ?_); rintro e w1 ⟨rfl, rfl⟩)
        go_ret
        exact ⟨rfl, rfl⟩
    · clear hn
      go_enter Tryz.func65, Tryz.ntmps65
      go_wp2
      go_ret
      exact ⟨rfl, rfl⟩
  · obtain rfl : s = ByteArray.empty := ByteArray.size_eq_zero_iff.1 (by omega)
    clear hn
    go_enter Tryz.func65, Tryz.ntmps65
    go_wp2
    go_ret
    exact ⟨rfl, rfl⟩
theorem all_range_step {f : Nat → Bool} {k : Nat} (h : (List.range k).all f = true) (hk : f k = true) : (List.range (k + 1)).all f = true := by
  rw [List.range_succ, List.all_append, h]; simp [hk]
theorem all_range_no {f : Nat → Bool} {k n : Nat} (hk : k < n) (h : f k = false) : (List.range n).all f = false := by
  cases hh : (List.range n).all f with
  | false => rfl
  | true => rw [List.all_eq_true.1 hh k (by simpa using hk)] at h; cases h
theorem low_of_ok {n : Nat} (h : okb n = true) : lowB n = true ∨ (lowB n = false ∧ (48 : Int) ≤ n ∧ (n : Int) ≤ 57) ∨ (lowB n = false ∧ (n : Int) < 48 ∧ ((n : Int) != 45) = false) := by
  unfold lowB
  simp only [okb, Bool.or_eq_true, Bool.and_eq_true, decide_eq_true_eq, beq_iff_eq, bne_eq_false_iff_eq, Bool.and_eq_false_iff, decide_eq_false_iff_not] at h ⊢; omega
theorem low_of_no {n : Nat} (h : okb n = false) : lowB n = false ∧ ((n : Int) < 48 ∨ 57 < (n : Int)) ∧ ((n : Int) != 45) = true := by
  obtain ⟨h1, h2, h3⟩ := okb_no h
  refine ⟨?_, h2, h3⟩
  unfold lowB; simp only [Bool.and_eq_false_iff, decide_eq_false_iff_not]; omega
set_option maxRecDepth 100000 in
theorem rWordIs_any (s : ByteArray) (w : World) :
    Calls Tryz.prog 65 #[.string s] w fun e w' => e = .returned (.bool (isName (L s))) ∧ w = w' := by
  rw [← rName_eq]; unfold rName
  cases hh : rHead (L s)
  · exact rWordHead_no s w hh
  obtain ⟨h0, h1, h2, t1⟩ := rHead_yes hh
  rw [Bool.true_and, size_l]
  obtain ⟨R, hR⟩ : ∃ R, (List.range s.size).all (rOk (L s)) = R := ⟨_, rfl⟩
  rw [hR]
  have HR := Lib.hid hR; clear hR hh
  have H2 := Lib.hid h2; clear h2
  have hg := get_l s
  go_enter Tryz.func65, Tryz.ntmps65
  go_wp2_with (go_at_call 124; (with_reducible refine (low_yes _ H2.out _).mono ?_); rintro e w1 ⟨rfl, rfl⟩)
  go_loop [3] (fun i => ∃ k : Nat, k ≤ s.size ∧ i = .int .i64 k ∧ Hid ((List.range k).all (rOk (L s)) = true)) (fun i => s.size - (intOf i).toNat)
  case atStart => exact ⟨0, by omega, rfl, rfl⟩
  case round =>
    obtain ⟨k, hk, rfl, hal⟩ := hrel
    by_cases hlt : k < s.size
    · have HN : rOk (L s) k = false → Hid (R = false) := fun h => Lib.hid (by rw [← HR.out]; exact all_range_no hlt h)
      have HY : rOk (L s) k = true → Hid ((List.range (k + 1)).all (rOk (L s)) = true) := fun h => Lib.hid (all_range_step hal.out h)
      unfold rOk at HN HY
      cases hok : okb (byt (L s) k)
      · have HRF := HN (by rw [hok]; rfl)
        obtain ⟨x1, x2, x3⟩ := low_of_no hok
        have X1 := Lib.hid x1
        clear hok HN HY x1
        rcases x2 with x2 | x2
        all_goals
          go_wp2_with (go_at_call 124; (with_reducible refine (low_no _ X1.out _).mono ?_); rintro e w1 ⟨rfl, rfl⟩)
          go_ret
          exact ⟨ret_bool HRF.out.symm, rfl⟩
      · by_cases hd : 0 < k ∧ byt (L s) k = 45 ∧ byt (L s) (k - 1) = 45
        · have HRF := HN (by rw [hok, decide_eq_true hd.1, hd.2.1, hd.2.2]; rfl)
          obtain ⟨d1, d2, d3⟩ := hd
          have lo : lowB (byt (L s) k) = false := by rw [d2]; rfl
          have y1 : (((byt (L s) k : Nat) : Int) == 45) = true := by simp only [beq_iff_eq]; omega
          have y3 : (((byt (L s) k : Nat) : Int) != 45) = false := by rw [bne, y1]; rfl
          have y2 : (((byt (L s) (k - 1) : Nat) : Int) == 45) = true := by simp only [beq_iff_eq]; omega
          have y4 : ((byt (L s) k : Nat) : Int) < 48 := by omega
          have d1' : (0 : Int) < k := by omega
          have ek : ((k : Int) - 1).toNat = k - 1 := by omega
          have X1 := Lib.hid lo
          clear hok HN HY lo d2 d3
          go_wp2_with (go_at_call 124; (with_reducible refine (low_no _ X1.out _).mono ?_); rintro e w1 ⟨rfl, rfl⟩)
          go_ret
          exact ⟨ret_bool HRF.out.symm, rfl⟩
        · have HNX := HY (by
            rw [hok, Bool.true_and, Bool.not_eq_true', Bool.and_eq_false_iff, Bool.and_eq_false_iff, decide_eq_false_iff_not, beq_eq_false_iff_ne, beq_eq_false_iff_ne]
            omega)
          have hd2 : ¬ 0 < k ∨ (0 < k ∧ (((byt (L s) k : Nat) : Int) == 45) = false) ∨ (0 < k ∧ (((byt (L s) k : Nat) : Int) == 45) = true ∧ (((byt (L s) (k - 1) : Nat) : Int) == 45) = false) := by
            simp only [beq_eq_false_iff_ne, beq_iff_eq, ne_eq]; omega
          have hlo := low_of_ok hok
          have ek : 0 < k → ((k : Int) - 1).toNat = k - 1 := by omega
          clear hok HN HY hd
          rcases hd2 with d1 | ⟨d1, d2⟩ | ⟨d1, d2, d3⟩
          · obtain rfl : k = 0 := by omega
            rcases hlo with lo | ⟨lo, l1, l2⟩ | ⟨lo, l1, l2⟩
            all_goals
              have X1 := Lib.hid lo
              clear lo
              go_wp2_with (go_at_call 124; (with_reducible first | refine (low_yes _ X1.out _).mono ?_ | refine (low_no _ X1.out _).mono ?_); rintro e w1 ⟨rfl, rfl⟩)
              go_round
              case rel => exact ⟨1, by omega, by go_num, HNX⟩
              case measure => simp [intOf]; omega
          all_goals
            have d1' : (0 : Int) < k := by omega
            have ek := ek d1
            rcases hlo with lo | ⟨lo, l1, l2⟩ | ⟨lo, l1, l2⟩
            all_goals
              have X1 := Lib.hid lo
              clear lo
              go_wp2_with (go_at_call 124; (with_reducible first | refine (low_yes _ X1.out _).mono ?_ | refine (low_no _ X1.out _).mono ?_); rintro e w1 ⟨rfl, rfl⟩)
              go_round
              case rel => exact ⟨k + 1, by omega, by go_num, HNX⟩
              case measure => simp [intOf]; omega
    · go_wp2
      go_ret
      obtain rfl : k = s.size := by omega
      exact ⟨ret_bool (by rw [← HR.out, hal.out]), rfl⟩
end Go.Proofs.YtakgfbcmkhcdkaaGreatDoor
namespace Go.Proofs.YtakgfbcmkhcdkaaGreatDoor
set_option linter.all false
/- A text cut at a byte outside brackets. -/
def depStep (n : Nat) (c : UInt8) : Nat := if c == 40 || c == 91 then n + 1 else if (c == 41 || c == 93) && 0 < n then n - 1 else n
def depS (l : Str) : Nat := l.foldl depStep 0
theorem depS_snoc (l : Str) (c : UInt8) : depS (l ++ [c]) = depStep (depS l) c := by unfold depS; rw [List.foldl_append]; rfl
def dst (c : UInt8) (s : Str) : Nat → List Str × Nat
  | 0 => ([], 0)
  | i + 1 => if s.getD i 0 == c && depS (s.take i) == 0 then ((dst c s i).1 ++ [(s.take i).drop (dst c s i).2], i + 1) else dst c s i
def dsplit (c : UInt8) (s : Str) : List Str := (dst c s s.length).1 ++ [s.drop (dst c s s.length).2]
/-- No bracket. -/
def Flat (s : Str) : Prop := s.all (fun c => !(c == 40 || (c == 41 || (c == 91 || c == 93)))) = true
theorem dep_flat : ∀ (l : Str), Flat l → ∀ n, l.foldl depStep n = n
  | [], _, n => rfl
  | x :: r, h, n => by
    unfold Flat at h; rw [List.all_cons, Bool.and_eq_true] at h
    have hx : depStep n x = n := by
      have := h.1
      simp only [Bool.not_eq_true', Bool.or_eq_false_iff, beq_eq_false_iff_ne] at this
      unfold depStep; simp [this]
    rw [List.foldl_cons, hx]; exact dep_flat r h.2 n
theorem Flat.take {s : Str} (h : Flat s) (i : Nat) : Flat (s.take i) := List.all_eq_true.2 fun c hc => List.all_eq_true.1 h c (List.mem_of_mem_take hc)
theorem dst_inv (c : UInt8) (s : Str) (h : Flat s) : ∀ i, i ≤ s.length → (dst c s i).2 ≤ i ∧ c ∉ (s.take i).drop (dst c s i).2 ∧ (dst c s i).1 ++ splitOn c (s.drop (dst c s i).2) = splitOn c s
  | 0, _ => by simp [dst]
  | i + 1, hi => by
    obtain ⟨h1, h2, h3⟩ := dst_inv c s h i (by omega)
    have hd : depS (s.take i) = 0 := dep_flat _ (h.take i) 0
    have hsi : s.getD i 0 = s[i] := by simp [List.getD, List.getElem?_eq_getElem (show i < s.length by omega)]
    have ht : s.take (i + 1) = s.take i ++ [s[i]] := List.take_succ_eq_append_getElem (by omega)
    rw [dst, hd, hsi]
    by_cases hc : s[i] = c
    · rw [if_pos (by simp [hc])]
      refine ⟨Nat.le_refl _, ?_, ?_⟩
      · rw [List.drop_eq_nil_of_le (by simp; omega)]; simp
      · rw [← h3]
        have e : ∀ q, q ≤ i → s.drop q = (s.take i).drop q ++ c :: s.drop (i + 1) := by
          intro q hq
          have e1 : s = s.take i ++ s[i] :: s.drop (i + 1) := by rw [← List.drop_eq_getElem_cons (by omega), List.take_append_drop]
          have e2 := congrArg (List.drop q) e1
          rw [List.drop_append_of_le_length (by simp; omega), hc] at e2
          exact e2
        rw [e _ h1, splitOn_word c _ _ h2, List.append_assoc]; rfl
    · rw [if_neg (by simp [hc])]
      refine ⟨by omega, ?_, h3⟩
      rw [ht, List.drop_append_of_le_length (by simp; omega)]
      intro hm; rcases List.mem_append.1 hm with hm | hm
      · exact h2 hm
      · rw [List.mem_singleton] at hm; exact hc hm.symm
theorem dsplit_flat (c : UInt8) (s : Str) (h : Flat s) : dsplit c s = splitOn c s := by
  obtain ⟨h1, h2, h3⟩ := dst_inv c s h s.length (Nat.le_refl _)
  rw [List.take_length] at h2
  rw [← h3, splitOn_none c _ h2]; rfl
end Go.Proofs.YtakgfbcmkhcdkaaGreatDoor
namespace Go.Proofs.YtakgfbcmkhcdkaaGreatDoor
set_option linter.all false
open Go.ChangeShapes Go.WideShapes Go.RowKit
theorem depS_le (l : Str) : depS l ≤ l.length := by
  have : ∀ (l : Str) (n : Nat), l.foldl depStep n ≤ n + l.length := by
    intro l
    induction l with
    | nil => intro n; simp
    | cons x r ih =>
      intro n
      have h1 := ih (depStep n x)
      have h2 : depStep n x ≤ n + 1 := by unfold depStep; split; · omega
                                          · split <;> omega
      simp only [List.foldl_cons, List.length_cons]; omega
  have := this l 0; unfold depS; omega
theorem take_snoc1 {s : Str} {k : Nat} (h : k < s.length) : s.take (k + 1) = s.take k ++ [s.getD k 0] := by
  rw [List.take_succ_eq_append_getElem h]; simp [List.getD, h]
theorem byt_val (c : UInt8) (n : Nat) (hn : n < 256) : (c == UInt8.ofNat n) = (c.toNat == n) := by
  rw [Bool.eq_iff_iff, beq_iff_eq, beq_iff_eq]
  constructor
  · intro h; rw [h, UInt8.toNat_ofNat']; omega
  · intro h; apply UInt8.toNat_inj.1; rw [h, UInt8.toNat_ofNat']; omega
theorem depStep_n (n : Nat) (c : UInt8) : depStep n c = if c.toNat = 40 ∨ c.toNat = 91 then n + 1 else if (c.toNat = 41 ∨ c.toNat = 93) ∧ 0 < n then n - 1 else n := by
  unfold depStep
  have h1 := byt_val c 40 (by omega); have h2 := byt_val c 91 (by omega); have h3 := byt_val c 41 (by omega); have h4 := byt_val c 93 (by omega)
  rw [show (40 : UInt8) = UInt8.ofNat 40 from rfl, show (91 : UInt8) = UInt8.ofNat 91 from rfl, show (41 : UInt8) = UInt8.ofNat 41 from rfl, show (93 : UInt8) = UInt8.ofNat 93 from rfl, h1, h2, h3, h4]
  simp only [Bool.or_eq_true, Bool.and_eq_true, beq_iff_eq, decide_eq_true_eq]
theorem eqn (a : Nat) (b : Int) (h : (a : Int) = b) : ((a : Int) == b) = true := by rw [h]; simp
theorem nen (a : Nat) (b : Int) (h : (a : Int) ≠ b) : ((a : Int) == b) = false := by rw [beq_eq_false_iff_ne]; exact h
set_option maxRecDepth 100000 in
theorem depth_any (s : ByteArray) (m : Nat) (w : World) (hm : m ≤ s.size) (hs : s.size < 1000000000) :
    Calls Tryz.prog 161 #[.string s, .int .i64 m] w fun e w' => e = .returned (.int .i64 (depS ((L s).take m) : Nat)) ∧ w = w' := by
  have hg := get_l s
  have hsl := size_l s
  obtain ⟨R, hR⟩ : ∃ R, depS ((L s).take m) = R := ⟨_, rfl⟩
  rw [hR]
  have HR := Lib.hid hR; clear hR
  have HL := Lib.hid hsl; clear hsl
  go_enter Tryz.func161, Tryz.ntmps161
  go_wp2
  go_loop [5, 6] (fun n i => ∃ k d : Nat, k ≤ m ∧ d ≤ k ∧ i = .int .i64 k ∧ n = .int .i64 d ∧ Hid (depS ((L s).take k) = d)) (fun _ i => m - (intOf i).toNat)
  case atStart => exact ⟨0, 0, by omega, by omega, rfl, rfl, rfl⟩
  case round =>
    obtain ⟨k, d, hk, hdk, rfl, rfl, HD⟩ := hrel
    by_cases hlt : k < m
    · have hks : k < s.size := by omega
      have hst : Hid (depS ((L s).take (k + 1)) = if byt (L s) k = 40 ∨ byt (L s) k = 91 then d + 1 else if (byt (L s) k = 41 ∨ byt (L s) k = 93) ∧ 0 < d then d - 1 else d) :=
        Lib.hid (by rw [take_snoc1 (by rw [HL.out]; exact hks), depS_snoc, HD.out]; exact depStep_n d _)
      have hle := depS_le ((L s).take (k + 1))
      have hc : byt (L s) k = 40 ∨ byt (L s) k = 91 ∨ (byt (L s) k = 41 ∧ 0 < d) ∨ (byt (L s) k = 93 ∧ 0 < d) ∨ (byt (L s) k = 41 ∧ ¬ 0 < d) ∨ (byt (L s) k = 93 ∧ ¬ 0 < d) ∨ (byt (L s) k ≠ 40 ∧ byt (L s) k ≠ 91 ∧ byt (L s) k ≠ 41 ∧ byt (L s) k ≠ 93) := by omega
      clear hle
      rcases hc with h | h | ⟨h, hd⟩ | ⟨h, hd⟩ | ⟨h, hd⟩ | ⟨h, hd⟩ | ⟨h1, h2, h3, h4⟩
      · have t1 := eqn (byt (L s) k) 40 (by omega); have t3 := nen (byt (L s) k) 41 (by omega); have t4 := nen (byt (L s) k) 93 (by omega)
        have HN : Hid (depS ((L s).take (k + 1)) = d + 1) := Lib.hid (by rw [hst.out, if_pos (by omega)])
        clear h hst
        go_wp2
        go_round
        case rel => exact ⟨k + 1, d + 1, by omega, by omega, by go_num, by go_num, HN⟩
        case measure => simp [intOf]; omega
      · have t1 := nen (byt (L s) k) 40 (by omega); have t2 := eqn (byt (L s) k) 91 (by omega); have t3 := nen (byt (L s) k) 41 (by omega); have t4 := nen (byt (L s) k) 93 (by omega)
        have HN : Hid (depS ((L s).take (k + 1)) = d + 1) := Lib.hid (by rw [hst.out, if_pos (by omega)])
        clear h hst
        go_wp2
        go_round
        case rel => exact ⟨k + 1, d + 1, by omega, by omega, by go_num, by go_num, HN⟩
        case measure => simp [intOf]; omega
      · have t1 := nen (byt (L s) k) 40 (by omega); have t2 := nen (byt (L s) k) 91 (by omega); have t3 := eqn (byt (L s) k) 41 (by omega)
        have HN : Hid (depS ((L s).take (k + 1)) = d - 1) := Lib.hid (by rw [hst.out, if_neg (by omega), if_pos (by omega)])
        have hd' : (0 : Int) < d := by omega
        clear h hst
        go_wp2
        go_round
        case rel => exact ⟨k + 1, d - 1, by omega, by omega, by go_num, by rw [show ((d - 1 : Nat) : Int) = (d : Int) - 1 by omega], HN⟩
        case measure => simp [intOf]; omega
      · have t1 := nen (byt (L s) k) 40 (by omega); have t2 := nen (byt (L s) k) 91 (by omega); have t3 := nen (byt (L s) k) 41 (by omega); have t4 := eqn (byt (L s) k) 93 (by omega)
        have HN : Hid (depS ((L s).take (k + 1)) = d - 1) := Lib.hid (by rw [hst.out, if_neg (by omega), if_pos (by omega)])
        have hd' : (0 : Int) < d := by omega
        clear h hst
        go_wp2
        go_round
        case rel => exact ⟨k + 1, d - 1, by omega, by omega, by go_num, by rw [show ((d - 1 : Nat) : Int) = (d : Int) - 1 by omega], HN⟩
        case measure => simp [intOf]; omega
      · have t1 := nen (byt (L s) k) 40 (by omega); have t2 := nen (byt (L s) k) 91 (by omega); have t3 := eqn (byt (L s) k) 41 (by omega)
        have HN : Hid (depS ((L s).take (k + 1)) = d) := Lib.hid (by rw [hst.out, if_neg (by omega), if_neg (by omega)])
        have hd' : ¬ (0 : Int) < d := by omega
        clear h hst
        go_wp2
        go_round
        case rel => exact ⟨k + 1, d, by omega, by omega, by go_num, rfl, HN⟩
        case measure => simp [intOf]; omega
      · have t1 := nen (byt (L s) k) 40 (by omega); have t2 := nen (byt (L s) k) 91 (by omega); have t3 := nen (byt (L s) k) 41 (by omega); have t4 := eqn (byt (L s) k) 93 (by omega)
        have HN : Hid (depS ((L s).take (k + 1)) = d) := Lib.hid (by rw [hst.out, if_neg (by omega), if_neg (by omega)])
        have hd' : ¬ (0 : Int) < d := by omega
        clear h hst
        go_wp2
        go_round
        case rel => exact ⟨k + 1, d, by omega, by omega, by go_num, rfl, HN⟩
        case measure => simp [intOf]; omega
      · have t1 := nen (byt (L s) k) 40 (by omega); have t2 := nen (byt (L s) k) 91 (by omega); have t3 := nen (byt (L s) k) 41 (by omega); have t4 := nen (byt (L s) k) 93 (by omega)
        have HN : Hid (depS ((L s).take (k + 1)) = d) := Lib.hid (by rw [hst.out, if_neg (by omega), if_neg (by omega)])
        clear h1 h2 h3 h4 hst
        go_wp2
        go_round
        case rel => exact ⟨k + 1, d, by omega, by omega, by go_num, rfl, HN⟩
        case measure => simp [intOf]; omega
    · obtain rfl : k = m := by omega
      have HE : Hid (d = R) := Lib.hid (by rw [← HD.out, HR.out])
      go_wp2
      go_ret
      exact ⟨ret_int (by rw [HE.out]), rfl⟩
end Go.Proofs.YtakgfbcmkhcdkaaGreatDoor
namespace Go.Proofs.YtakgfbcmkhcdkaaGreatDoor
set_option linter.all false
open Go.ChangeShapes Go.WideShapes Go.RowKit
theorem depth_is (s : ByteArray) (m : Nat) (w : World) (hm : m ≤ s.size) (hs : s.size < 1000000000) (d : Nat) (hd : Hid (depS ((L s).take m) = d)) :
    Calls Tryz.prog 161 #[.string s, .int .i64 m] w fun e w' => e = .returned (.int .i64 (d : Nat)) ∧ w = w' :=
  (depth_any s m w hm hs).mono fun _ _ h => ⟨by rw [h.1, hd.out], h.2⟩
theorem dst_le (c : UInt8) (s : Str) : ∀ i, (dst c s i).2 ≤ i ∧ (dst c s i).1.length ≤ i
  | 0 => by simp [dst]
  | i + 1 => by
    obtain ⟨h1, h2⟩ := dst_le c s i
    rw [dst]; split
    · simp; omega
    · omega
theorem byt_castR (c : UInt8) (n : Nat) : (((n : Nat) : Int) == ((c.toNat : Nat) : Int)) = (n == c.toNat) := by
  rw [Bool.eq_iff_iff]; simp; omega
set_option maxRecDepth 100000 in
theorem rSplit_any (s : ByteArray) (c : UInt8) (w : World) (hs : s.size < 100000000) (hc : c.toNat ≠ 40 ∧ c.toNat ≠ 41 ∧ c.toNat ≠ 91 ∧ c.toNat ≠ 93) :
    Calls Tryz.prog 141 #[.string s, .int .u8 c.toNat] w (RetTexts w (dsplit c (L s))) := by
  have hg := get_l s
  obtain ⟨h1, h2, h3, h4⟩ := hc
  have u1 := nen c.toNat 40 (by omega); have u2 := nen c.toNat 41 (by omega); have u3 := nen c.toNat 91 (by omega); have u4 := nen c.toNat 93 (by omega)
  have HL := Lib.hid (size_l s)
  obtain ⟨R, hR⟩ : ∃ R, dsplit c (L s) = R := ⟨_, rfl⟩
  rw [hR]
  have HR := Lib.hid hR; clear hR h1 h2 h3 h4
  go_enter Tryz.func141, Tryz.ntmps141
  go_wp2
  go_loopw [5, 6, 7] (fun v f i wr => ∃ k : Nat, ∃ q : Nat, ∃ l : List Str, k ≤ s.size ∧ q ≤ k ∧ l.length ≤ k ∧ i = .int .i64 k ∧ f = .int .i64 q ∧ Hid (dst c (L s) k = (l, q)) ∧ Texts wr w.heap.size l v ∧ Below w.heap.size w wr) (fun _ _ i _ => s.size - (intOf i).toNat)
  case atStart => exact ⟨0, 0, [], by omega, by omega, by simp, rfl, rfl, rfl, Texts.nil _ _, Below.refl _ _⟩
  case round =>
    obtain ⟨k, q, l, hk, hq, hl, rfl, rfl, HD, hown, hb⟩ := hrel
    have hsz := hb.size
    by_cases hlt : k < s.size
    · have hst : dst c (L s) (k + 1) = if (L s).getD k 0 == c && depS ((L s).take k) == 0 then (l ++ [((L s).take k).drop q], k + 1) else (l, q) := by rw [dst, HD.out]
      obtain ⟨d, hd⟩ : ∃ d, depS ((L s).take k) = d := ⟨_, rfl⟩
      rw [hd] at hst
      have Hd := Lib.hid hd; clear hd
      have hcb : ((L s).getD k 0 == c) = (byt (L s) k == c.toNat) := by
        rw [Bool.eq_iff_iff, beq_iff_eq, beq_iff_eq]; exact ⟨fun h => by unfold byt; rw [h], fun h => UInt8.toNat_inj.1 h⟩
      rw [hcb] at hst; clear hcb
      have htc := byt_castR c (byt (L s) k)
      cases hcc : (byt (L s) k == c.toNat)
      · rw [hcc] at hst htc
        have HN : Hid (dst c (L s) (k + 1) = (l, q)) := Lib.hid (by rw [hst]; rfl)
        clear hst hcc
        go_wp2
        go_roundw
        case rel => exact ⟨k + 1, q, l, by omega, by omega, by omega, by go_num, rfl, HN, hown, hb⟩
        case measure => simp [intOf]; omega
      · rw [hcc] at hst htc
        by_cases h0 : d = 0
        · have HN : Hid (dst c (L s) (k + 1) = (l ++ [((L s).take k).drop q], k + 1)) := Lib.hid (by rw [hst, h0]; rfl)
          have t0 := eqn d 0 (by omega)
          have hex := Lib.hid (L_extract s q k)
          have hln : l.length < 1000000000 := by omega
          clear hst hcc h0
          go_wp2_with (first | (go_at_call 161; (with_reducible refine (depth_is s k _ (by omega) (by omega) d Hd).mono ?_); rintro e w2 ⟨rfl, rfl⟩) | (at_builtin; refine wpList_text_push rfl (.tmp 41) (.tmp 46) 40 rfl Tryz.underlying40 info_str rfl rfl hown hln hsz ?_; intro v' w2 hown2 hb2))
          rw [hex.out] at hown2
          have hb3 := hb.trans hb2
          go_roundw
          case rel => exact ⟨k + 1, k + 1, _, by omega, by omega, by simp; omega, by go_num, by go_num, HN, hown2, hb3⟩
          case measure => simp [intOf]; omega
        · have HN : Hid (dst c (L s) (k + 1) = (l, q)) := Lib.hid (by rw [hst, Bool.true_and, if_neg (by simpa using h0)])
          have t0 := nen d 0 (by omega)
          clear hst hcc h0
          go_wp2_with (go_at_call 161; (with_reducible refine (depth_is s k _ (by omega) (by omega) d Hd).mono ?_); rintro e w2 ⟨rfl, rfl⟩)
          go_roundw
          case rel => exact ⟨k + 1, q, l, by omega, by omega, by omega, by go_num, rfl, HN, hown, hb⟩
          case measure => simp [intOf]; omega
    · obtain rfl : k = s.size := by omega
      have hex : Hid (L (s.extract q s.size) = (L s).drop q) := Lib.hid (by rw [L_extract, List.take_of_length_le (by rw [size_l]; exact Nat.le_refl _)])
      have HE : Hid (l ++ [(L s).drop q] = R) := Lib.hid (by rw [← HR.out, dsplit, HL.out, HD.out])
      have hln : l.length < 1000000000 := by omega
      go_wp2_with (at_builtin; refine wpList_text_push rfl (.tmp 50) (.tmp 54) 40 rfl Tryz.underlying40 info_str rfl rfl hown hln hsz ?_; intro v' w2 hown2 hb2)
      rw [hex.out, HE.out] at hown2
      go_ret
      obtain ⟨A, cc, rfl, _⟩ := hown2.form
      exact ⟨A, cc, rfl, hown2, hb.trans hb2⟩
theorem join_snoc (sep x : Str) : ∀ (l : List Str), Lib.join (l ++ [x]) sep = if l = [] then x else Lib.join l sep ++ sep ++ x
  | [] => by simp [Lib.join_one]
  | [a] => by simp [join_cons2, Lib.join_one]
  | a :: b :: r => by
    have ih := join_snoc sep x (b :: r)
    rw [if_neg (by simp)] at ih
    rw [if_neg (by simp), List.cons_append, List.cons_append, join_cons2, join_cons2, ← List.cons_append, ih]; simp
theorem join_take_le (sep : Str) : ∀ (l : List Str) (k : Nat), (Lib.join (l.take k) sep).length ≤ (Lib.join l sep).length
  | [], k => by simp
  | [a], k => by
    cases k with
    | zero => simp [Lib.join_nil]
    | succ k => simp
  | a :: b :: r, k => by
    cases k with
    | zero => simp [Lib.join_nil]
    | succ k =>
      cases k with
      | zero => simp only [List.take_succ_cons, List.take_zero]; rw [Lib.join_one, join_cons2]; simp
      | succ k =>
        have ih := join_take_le sep (b :: r) (k + 1)
        simp only [List.take_succ_cons] at ih ⊢
        rw [join_cons2, join_cons2]; simp only [List.length_append]; omega
set_option maxRecDepth 100000 in
theorem rJoin_any (l : List Str) (A : Option Addr) (c base : Nat) (sep : ByteArray) (w : World) (h : Texts w base l (.slice A l.length c)) (sl : Str) (hsl : L sep = sl) (hlen : (Lib.join l sl).length ≤ 140737488355328) (hN : l.length ≤ 100000000) :
    Calls Tryz.prog 97 #[.slice A l.length c, .string sep] w fun e w' => e = .returned (.string (B (Lib.join l sl))) ∧ w = w' := by
  have HS := Lib.hid hsl
  obtain ⟨R, hR⟩ : ∃ R, Lib.join l sl = R := ⟨_, rfl⟩
  have hss : sep.size = sl.length := by rw [← hsl, size_l]
  have htl := join_take_le sl l
  rw [hR] at htl hlen ⊢
  have HR := Lib.hid hR; clear hR hsl
  have HSS := Lib.hid hss; clear hss
  have HT := Lib.hid htl; clear htl
  go_enter Tryz.func97, Tryz.ntmps97
  go_wp2
  go_loop [5, 6] (fun v i => ∃ k : Nat, ∃ p : Str, k ≤ l.length ∧ i = .int .i64 k ∧ v = .string (B p) ∧ Hid (Lib.join (l.take k) sl = p)) (fun _ i => l.length - (intOf i).toNat)
  case atStart => exact ⟨0, [], by omega, rfl, rfl, by rw [List.take_zero]; exact Lib.join_nil _⟩
  case round =>
    obtain ⟨k, p, hk, rfl, rfl, HP⟩ := hrel
    by_cases hlt : k < l.length
    · obtain ⟨g, rfl, hg, hcl⟩ := h.at_ hlt
      have hjs := join_snoc sl l[k] (l.take k)
      have ht : l.take (k + 1) = l.take k ++ [l[k]] := List.take_succ_eq_append_getElem hlt
      rw [← ht, HP.out] at hjs
      have hle := HT.out (k + 1)
      rw [hjs] at hle
      by_cases h0 : k = 0
      · subst h0
        have hp : p = [] := by rw [← HP.out, List.take_zero]; exact Lib.join_nil _
        subst hp
        rw [if_pos (by simp)] at hjs hle
        have HN := Lib.hid hjs; clear hjs ht
        generalize l[0] = x at *
        have hxl : x.length ≤ 140737488355328 := by omega
        clear HP
        go_wp2
        go_round
        case rel => exact ⟨1, x, by omega, by go_num, rfl, HN⟩
        case measure => simp [intOf]; omega
      · rw [if_neg (by rw [List.take_eq_nil_iff]; rintro (h | h); · exact h0 h
                       · rw [h] at hlt; simp at hlt)] at hjs hle
        have HN := Lib.hid hjs; clear hjs ht
        generalize l[k] = x at *
        simp only [List.length_append] at hle
        have hk0 : (0 : Int) < k := by omega
        have b1 : (B p).size + sep.size ≤ 9223372036854775807 := by rw [B_size, HSS.out]; omega
        have b2 : p.length + sep.size ≤ 9223372036854775807 := by rw [HSS.out]; omega
        have b3 : p.length + sep.size + x.length ≤ 9223372036854775807 := by rw [HSS.out]; omega
        have b4 : (B p ++ sep).size + (B x).size ≤ 9223372036854775807 := by rw [ByteArray.size_append, B_size, B_size]; omega
        clear HP hle
        go_wp2
        go_round
        case rel => exact ⟨k + 1, p ++ sl ++ x, by omega, by go_num, by rw [show B p ++ sep ++ B x = B (p ++ sl ++ x) from by rw [← B_append, ← B_append, ← HS.out, B_L]], HN⟩
        case measure => simp [intOf]; omega
    · obtain rfl : k = l.length := by omega
      have HE : Hid (p = R) := Lib.hid (by rw [← HP.out, List.take_length, HR.out])
      go_wp2
      go_ret
      exact ⟨ret_str (by rw [HE.out]), rfl⟩
end Go.Proofs.YtakgfbcmkhcdkaaGreatDoor
namespace Go.Proofs.YtakgfbcmkhcdkaaGreatDoor
set_option linter.all false
open Go.ChangeShapes Go.WideShapes Go.RowKit
theorem texts_lit (l : List Str) (n : Nat) (hn : l.length = n) (hm : n < 1000000) (w : World) (cs : Array Value) (hc : cs = (strCells l).toArray) : Texts (w.alloc (.cells cs 9)) w.heap.size l (.slice (some ⟨w.heap.size, 0, none⟩) n n) := by
  subst hc; subst hn
  refine ⟨by rw [strCells_length]; omega, .inr ⟨w.heap.size, l.length, _, rfl, Nat.le_refl _, heap_alloc_new w _, Nat.le_refl _, by unfold maxLen; omega, ?_, ?_⟩⟩
  · simp [strCells]
  · simp only [List.toList_toArray, Nat.mul_one]
    rw [List.take_of_length_le (by simp [strCells])]
/-- The place of a word in a list, from place k on; -1 if it is not there. -/
def idxFrom : List Str → Nat → Str → Int
  | [], _, _ => -1
  | x :: r, k, s => if x == s then (k : Int) else idxFrom r (k + 1) s
theorem idx_step {T : List Str} {k : Nat} {s : Str} (hk : k < T.length) : idxFrom (T.drop k) k s = if T[k] == s then (k : Int) else idxFrom (T.drop (k + 1)) (k + 1) s := by
  rw [List.drop_eq_getElem_cons hk, idxFrom]
theorem idx_bit (T : List Str) (s : Str) : ∀ k, (bitFrom T k s == 0) = decide (idxFrom T k s < 0) := by
  induction T with
  | nil => intro k; rfl
  | cons x r ih =>
    intro k
    unfold bitFrom idxFrom
    split
    · have : 2 ^ k ≠ 0 := Nat.pos_iff_ne_zero.1 (Nat.pow_pos (by omega))
      rw [Bool.eq_iff_iff]; simp [this]
    · exact ih (k + 1)
theorem beq_toList (x : Str) (s : ByteArray) : ((B x).toList == s.toList) = (x == L s) := by rw [B_toList, L_toList]
theorem rIndex_any (T : List Str) (A : Option Addr) (c base : Nat) (s : ByteArray) (w : World) (h : Texts w base T (.slice A T.length c)) (hT : T.length < 1000000) :
    Calls Tryz.prog 66 #[.slice A T.length c, .string s] w fun e w' => e = .returned (.int .i64 (idxFrom T 0 (L s))) ∧ w = w' := by
  obtain ⟨R, hR⟩ : ∃ R, idxFrom T 0 (L s) = R := ⟨_, rfl⟩
  rw [hR]
  have HR := Lib.hid hR; clear hR
  go_enter Tryz.func66, Tryz.ntmps66
  go_wp2
  go_loop [5] (fun i => ∃ k : Nat, k ≤ T.length ∧ i = .int .i64 k ∧ Hid (idxFrom (T.drop k) k (L s) = R)) (fun i => T.length - (intOf i).toNat)
  case atStart => exact ⟨0, by omega, rfl, by rw [List.drop_zero]; exact HR⟩
  case round =>
    obtain ⟨k, hk, rfl, HD⟩ := hrel
    by_cases hlt : k < T.length
    · obtain ⟨g, rfl, hg, hcl⟩ := h.at_ hlt
      have hst := idx_step (s := L s) hlt
      rw [HD.out] at hst
      have hbe := beq_toList T[k] s
      cases hc : (T[k] == L s)
      · rw [hc] at hst hbe
        rw [B_toList] at hbe
        have HN : Hid (idxFrom (T.drop (k + 1)) (k + 1) (L s) = R) := Lib.hid (by rw [hst]; rfl)
        clear hst hc
        generalize T[k] = x at *
        go_wp2
        go_round
        case rel => exact ⟨k + 1, by omega, by go_num, HN⟩
        case measure => simp [intOf]; omega
      · rw [hc] at hst hbe
        rw [B_toList] at hbe
        have HN : Hid (R = k) := Lib.hid (by rw [hst]; rfl)
        clear hst hc
        generalize T[k] = x at *
        go_wp2
        go_ret
        exact ⟨ret_int HN.out.symm, rfl⟩
    · obtain rfl : k = T.length := by omega
      have HE : Hid (R = -1) := Lib.hid (by rw [← HD.out, List.drop_length]; rfl)
      go_wp2
      go_ret
      exact ⟨ret_int HE.out.symm, rfl⟩
theorem rSuper_any (w : World) : Calls Tryz.prog 67 #[] w (RetTexts w superT) := by
  go_enter Tryz.func67, Tryz.ntmps67
  go_wp2
  go_ret
  exact ⟨_, _, rfl, texts_lit superT _ rfl (by decide) w _ rfl, (Below.refl _ _).alloc (Nat.le_refl _) _⟩
theorem rType_any (w : World) : Calls Tryz.prog 68 #[] w (RetTexts w typeT) := by
  go_enter Tryz.func68, Tryz.ntmps68
  go_wp2
  go_ret
  exact ⟨_, _, rfl, texts_lit typeT _ rfl (by decide) w _ rfl, (Below.refl _ _).alloc (Nat.le_refl _) _⟩
theorem superT_len : superT.length = 2 := rfl
theorem typeT_len : typeT.length = 6 := rfl
theorem rIsSub_any (s : ByteArray) (w : World) :
    Calls Tryz.prog 34 #[.string s] w fun e w' => e = .returned (.bool (isSub (L s))) ∧ Below w.heap.size w w' := by
  have HD : Hid (isSub (L s) = (isName (L s) && (decide (idxFrom superT 0 (L s) < 0) && decide (idxFrom typeT 0 (L s) < 0)))) := Lib.hid (by unfold isSub; rw [idx_bit, idx_bit])
  generalize isSub (L s) = R at *
  generalize hi : idxFrom superT 0 (L s) = i1 at *
  generalize hj : idxFrom typeT 0 (L s) = i2 at *
  have Hi := Lib.hid hi; have Hj := Lib.hid hj; clear hi hj
  go_enter Tryz.func34, Tryz.ntmps34
  go_wp2_with (first | (go_at_call 65; (with_reducible refine (rWordIs_any _ _).mono ?_); rintro e w1 ⟨rfl, rfl⟩) | (go_at_call 67; (with_reducible refine (rSuper_any _).mono ?_); rintro e w2 ⟨A, c, rfl, ht, hb1⟩) | (go_at_call 68; (with_reducible refine (rType_any _).mono ?_); rintro e w3 ⟨A2, c2, rfl, ht2, hb2⟩) | (go_at_call 66; (with_reducible refine (rIndex_any superT _ _ _ _ _ ht (by decide)).mono ?_); rw [Hi.out]; rintro e w4 ⟨rfl, rfl⟩) | (go_at_call 66; (with_reducible refine (rIndex_any typeT _ _ _ _ _ ht2 (by decide)).mono ?_); rw [Hj.out]; rintro e w5 ⟨rfl, rfl⟩))
  all_goals
    go_ret
    refine ⟨ret_bool ?_, ?_⟩
    · rw [HD.out]; simp [*] <;> omega
    · first | exact Below.refl _ _ | exact below_two hb1 hb2 | exact hb1
theorem rBit_any (m i : Nat) (w : World) (hm : m < 2 ^ 31) (hi : i < 100) :
    Calls Tryz.prog 130 #[.int .i64 m, .int .i64 i] w fun e w' => e = .returned (.bool (m.testBit i)) ∧ w = w' := by
  have HB : Hid (m.testBit i = decide (m / 2 ^ i % 2 = 1)) := Lib.hid Nat.testBit_eq_decide_div_mod_eq
  generalize m.testBit i = R at *
  go_enter Tryz.func130, Tryz.ntmps130
  go_wp2
  go_loop [0, 5] (fun v k => ∃ j n : Nat, j ≤ i ∧ n < 2 ^ 31 ∧ k = .int .i64 j ∧ v = .int .i64 n ∧ Hid (m / 2 ^ j = n)) (fun _ k => i - (intOf k).toNat)
  case atStart => exact ⟨0, m, by omega, hm, rfl, rfl, by simp [Hid]⟩
  case round =>
    obtain ⟨j, n, hj, hn, rfl, rfl, HN⟩ := hrel
    by_cases hlt : j < i
    · have HX : Hid (m / 2 ^ (j + 1) = n / 2) := Lib.hid (by rw [Nat.pow_succ, ← Nat.div_div_eq_div_mul, HN.out])
      go_wp2
      go_round
      case rel => exact ⟨j + 1, n / 2, by omega, by omega, by go_num, by go_num, HX⟩
      case measure => simp [intOf]; omega
    · obtain rfl : j = i := by omega
      have HE : Hid (R = decide (n % 2 = 1)) := Lib.hid (by rw [HB.out, HN.out])
      go_wp2
      go_ret
      exact ⟨ret_bool (by rw [HE.out, Bool.eq_iff_iff]; simp; omega), rfl⟩
/-- The words of the bits of m below k, joined. -/
def jBits (T : List Str) (m : Nat) (sep : Str) : Nat → Str
  | 0 => []
  | k + 1 => if m.testBit k then (if jBits T m sep k = [] then T.getD k [] else jBits T m sep k ++ sep ++ T.getD k []) else jBits T m sep k
theorem jBits_len (T : List Str) (m : Nat) (sep : Str) (hT : ∀ x ∈ T, x.length ≤ 100) (hs : sep.length ≤ 100) : ∀ k, (jBits T m sep k).length ≤ 200 * k
  | 0 => by simp [jBits]
  | k + 1 => by
    have ih := jBits_len T m sep hT hs k
    have hw := wd_len hT k
    unfold wd at hw
    rw [jBits]; split
    · split
      · omega
      · simp only [List.length_append]; omega
    · omega
set_option maxRecDepth 100000 in
theorem rJoined_any (T : List Str) (A : Option Addr) (c base m : Nat) (sep : ByteArray) (sl : Str) (hsl : L sep = sl) (w : World) (h : Texts w base T (.slice A T.length c)) (hm : m < 2 ^ 31) (hT : T.length ≤ 31) (hw : ∀ x ∈ T, x.length ≤ 100) (hss : sl.length ≤ 100) :
    Calls Tryz.prog 84 #[.slice A T.length c, .int .i64 m, .string sep] w fun e w' => e = .returned (.string (B (jBits T m sl T.length))) ∧ w = w' := by
  subst hsl
  have hsz : sep.size ≤ 100 := by rw [size_l] at hss; exact hss
  have HJ := Lib.hid (jBits_len T m (L sep) hw hss)
  obtain ⟨R, hR⟩ : ∃ R, jBits T m (L sep) T.length = R := ⟨_, rfl⟩
  rw [hR]
  have HR := Lib.hid hR
  have HW := Lib.hid hw
  clear hR hw hss
  go_enter Tryz.func84, Tryz.ntmps84
  go_wp2
  go_loop [7, 8] (fun v i => ∃ k : Nat, ∃ p : Str, k ≤ T.length ∧ i = .int .i64 k ∧ v = .string (B p) ∧ Hid (jBits T m (L sep) k = p)) (fun _ i => T.length - (intOf i).toNat)
  case atStart => exact ⟨0, [], by omega, rfl, rfl, rfl⟩
  case round =>
    obtain ⟨k, p, hk, rfl, rfl, HP⟩ := hrel
    by_cases hlt : k < T.length
    · obtain ⟨g, rfl, hg, hcl⟩ := h.at_ hlt
      have hst : jBits T m (L sep) (k + 1) = if m.testBit k then (if p = [] then T[k] else p ++ L sep ++ T[k]) else p := by
        rw [jBits, HP.out]; simp [List.getD, hlt]
      have hpl : p.length ≤ 10000 := by have := HJ.out k; rw [HP.out] at this; omega
      have hxl : T[k].length ≤ 100 := HW.out _ (List.getElem_mem hlt)
      cases hb : m.testBit k
      · rw [hb] at hst
        have HN : Hid (jBits T m (L sep) (k + 1) = p) := Lib.hid (by rw [hst]; rfl)
        have HB := Lib.hid hb
        clear hst hb hcl
        go_wp2_with (go_at_call 130; (with_reducible refine (rBit_any _ _ _ hm (by omega)).mono ?_); rw [HB.out]; rintro e w1 ⟨rfl, rfl⟩)
        go_round
        case rel => exact ⟨k + 1, p, by omega, by go_num, rfl, HN⟩
        case measure => simp [intOf]; omega
      · rw [hb] at hst
        have HB := Lib.hid hb
        clear hb
        generalize T[k] = x at *
        by_cases hp : p = []
        · subst hp
          have HN : Hid (jBits T m (L sep) (k + 1) = x) := Lib.hid (by rw [hst]; rfl)
          clear hst
          go_wp2_with (go_at_call 130; (with_reducible refine (rBit_any _ _ _ hm (by omega)).mono ?_); rw [HB.out]; rintro e w1 ⟨rfl, rfl⟩)
          go_round
          case rel => exact ⟨k + 1, x, by omega, by go_num, rfl, HN⟩
          case measure => simp [intOf]; omega
        · have HN : Hid (jBits T m (L sep) (k + 1) = p ++ L sep ++ x) := Lib.hid (by rw [hst, if_pos rfl, if_neg hp])
          have e1 : p.isEmpty = false := by simpa using hp
          have b1 : (B p).size + sep.size ≤ 9223372036854775807 := by rw [B_size]; omega
          have b2 : (B p ++ sep).size + (B x).size ≤ 9223372036854775807 := by rw [ByteArray.size_append, B_size, B_size]; omega
          clear hst
          go_wp2_with (go_at_call 130; (with_reducible refine (rBit_any _ _ _ hm (by omega)).mono ?_); rw [HB.out]; rintro e w1 ⟨rfl, rfl⟩)
          go_round
          case rel => exact ⟨k + 1, p ++ L sep ++ x, by omega, by go_num, by rw [show B p ++ sep ++ B x = B (p ++ L sep ++ x) from by rw [← B_append, ← B_append, B_L]], HN⟩
          case measure => simp [intOf]; omega
    · obtain rfl : k = T.length := by omega
      have HE : Hid (p = R) := Lib.hid (by rw [← HP.out, HR.out])
      go_wp2
      go_ret
      exact ⟨ret_str (by rw [HE.out]), rfl⟩
theorem jBits_types (m : Nat) (h : 1 ≤ m) (h2 : m ≤ 63) : jBits typeT m [43] 6 = typesText m := by
  have key : ∀ m : Fin 64, 1 ≤ m.val → jBits typeT m.val [43] 6 = typesText m.val := by decide +kernel
  exact key ⟨m, by omega⟩ h
theorem rTypesText_any (m : Nat) (h1 : 1 ≤ m) (h2 : m ≤ 63) (w : World) :
    Calls Tryz.prog 41 #[.int .i64 m] w fun e w' => e = .returned (.string (B (typesText m))) ∧ Below w.heap.size w w' := by
  have HJ := Lib.hid (jBits_types m h1 h2)
  go_enter Tryz.func41, Tryz.ntmps41
  go_wp2_with (first | (go_at_call 68; (with_reducible refine (rType_any _).mono ?_); rintro e w3 ⟨A2, c2, rfl, ht2, hb2⟩) | (go_at_call 84; (with_reducible refine (rJoined_any typeT _ _ _ m _ [43] rfl _ ht2 (by omega) (by decide) (by decide) (by decide)).mono ?_); rintro e w4 ⟨rfl, rfl⟩))
  go_ret
  exact ⟨ret_str (by rw [← HJ.out]; rfl), hb2⟩
end Go.Proofs.YtakgfbcmkhcdkaaGreatDoor
namespace Go.Proofs.YtakgfbcmkhcdkaaGreatDoor
set_option linter.all false
open Go.ChangeShapes Go.WideShapes Go.RowKit
theorem rClamp_any (n : Int) (w : World) :
    Calls Tryz.prog 55 #[.int .i64 n] w fun e w' => e = .returned (.int .i64 (clampI n)) ∧ w = w' := by
  have HD : Hid (clampI n = if n < -1000000 then -1000000 else if 1000000 < n then 1000000 else n) := rfl
  generalize clampI n = R at *
  by_cases h1 : n < -1000000
  · have h2 : ¬ 1000000 < n := by omega
    go_enter Tryz.func55, Tryz.ntmps55
    go_wp2
    go_ret
    exact ⟨ret_int (by rw [HD.out]; omega), rfl⟩
  · by_cases h2 : 1000000 < n
    · go_enter Tryz.func55, Tryz.ntmps55
      go_wp2
      go_ret
      exact ⟨ret_int (by rw [HD.out]; omega), rfl⟩
    · go_enter Tryz.func55, Tryz.ntmps55
      go_wp2
      go_ret
      exact ⟨ret_int (by rw [HD.out]; omega), rfl⟩
/-- The last digit of a number. -/
def dgt (n : Nat) : UInt8 := UInt8.ofNat (48 + n % 10)
def dgS (n : Nat) : ByteArray := B [dgt n]
theorem conv_digit (wx : World) (n : Nat) : (convert 134 9 (.slice (some ⟨wx.heap.size, 0, none⟩) 1 1)).run Tryz.prog (wx.alloc (.cells #[.int .u8 (48 + (n : Int) % 10)] 5)) = .ok (.string (dgS n)) (wx.alloc (.cells #[.int .u8 (48 + (n : Int) % 10)] 5)) := by
  have hb : Lib.Bytes (wx.alloc (.cells #[.int .u8 (48 + (n : Int) % 10)] 5)) wx.heap.size 0 (B [dgt n]) := by
    intro i hi
    obtain rfl : i = 0 := by rw [B_size] at hi; simpa using hi
    rw [Nat.add_zero, cell_of_row _ _ 0 _ _ _ (heap_alloc_new wx _)]
    have : ((B [dgt n])[0]'hi).toNat = 48 + n % 10 := by
      rw [get_l, L_B]; show (dgt n).toNat = _
      unfold dgt
      rw [UInt8.toNat_ofNat']; omega
    rw [this]; simp
  exact Lib.run_convert_whole _ 134 5 9 Tryz.underlying134 Tryz.underlying5 Tryz.underlying9 _ 0 _ hb 1
/-- What is to be set before a number's last digit. -/
def decPre (u : Nat) : Str := if u = 0 then [] else Lib.decDigits u
theorem decPre_first (u : Nat) : Lib.decDigits u = decPre (u / 10) ++ [dgt u] := by
  unfold decPre; rw [Lib.decDigits]; split
  · rw [if_pos (by omega)]; unfold dgt; rw [Nat.mod_eq_of_lt (by omega)]; rfl
  · rw [if_neg (by omega)]; rfl
theorem decPre_step {u : Nat} (h : u ≠ 0) : decPre u = decPre (u / 10) ++ [dgt u] := by
  rw [← decPre_first]; unfold decPre; rw [if_neg h]
set_option maxRecDepth 100000 in
theorem rDigits_any (u : Nat) (w : World) (hu : u < 100000000) :
    Calls Tryz.prog 98 #[.int .u64 u] w fun e w' => e = .returned (.string (B (Lib.decDigits u))) ∧ Below w.heap.size w w' := by
  have h1 : (0 : Int) ≤ u := by omega
  have h2 : (u : Int) < 100000000 := by omega
  have hcv := fun wx => conv_digit wx
  have HR := Lib.hid (decPre_first u)
  generalize Lib.decDigits u = R at *
  go_enter Tryz.func98, Tryz.ntmps98
  go_wp2
  go_loopw [0, 3] (fun v t wr => ∃ k : Nat, ∃ p : Str, k < 100000000 ∧ p.length + k ≤ 100000100 ∧ v = .int .u64 k ∧ t = .string (B p) ∧ Below w.heap.size w wr ∧ Hid (R = decPre k ++ p)) (fun v _ _ => (intOf v).toNat)
  case atStart => exact ⟨u / 10, _, by omega, by simp; omega, by go_num, rfl, (Below.refl _ _).alloc (Nat.le_refl _) _, HR⟩
  case round =>
    obtain ⟨k, p, hk, hp, rfl, rfl, hb, HP⟩ := hrel
    have hsz := hb.size
    by_cases hlt : 0 < k
    · have HX : Hid (R = decPre (k / 10) ++ ([dgt k] ++ p)) := Lib.hid (by rw [HP.out, decPre_step (by omega), List.append_assoc])
      have b0 : (dgS k).size = 1 := by unfold dgS; rw [B_size]; rfl
      have b1 : (dgS k).size + (B p).size ≤ 9223372036854775807 := by rw [b0, B_size]; omega
      clear b0
      go_wp2
      go_roundw
      case rel => exact ⟨k / 10, [dgt k] ++ p, by omega, by simp; omega, by go_num, by rw [← B_append]; rfl, hb.alloc hsz _, HX⟩
      case measure => simp [intOf]; omega
    · obtain rfl : k = 0 := by omega
      have HE : Hid (p = R) := Lib.hid (by rw [HP.out]; rfl)
      go_wp2
      go_ret
      exact ⟨ret_str (by rw [HE.out]), hb⟩
theorem rText_any (n : Int) (w : World) (h0 : -10000000 < n) (h1 : n < 10000000) :
    Calls Tryz.prog 45 #[.int .i64 n] w fun e w' => e = .returned (.string (B (Lib.itoa n))) ∧ Below w.heap.size w w' := by
  by_cases hn : n < 0
  · obtain ⟨m, rfl⟩ : ∃ m : Nat, n = -(m : Int) := ⟨n.natAbs, by omega⟩
    have HI := Lib.hid (Lib.itoa_neg m (by omega))
    have hcv : IntKind.u64.wrap (-(IntKind.u64.wrap (-(m : Int)))) = (m : Int) := by simp [IntKind.wrap, IntKind.signed, IntKind.bits]; omega
    have hl := dec_len 7 m (by omega)
    generalize Lib.itoa (-(m : Int)) = R at *
    go_enter Tryz.func45, Tryz.ntmps45
    go_wp2_with (go_at_call 98; (with_reducible refine (rDigits_any m _ (by omega)).mono ?_); rintro e w1 ⟨rfl, hb⟩)
    go_ret
    exact ⟨ret_str (by rw [HI.out]; exact B_append [45] _), hb⟩
  · obtain ⟨m, rfl⟩ : ∃ m : Nat, n = (m : Int) := ⟨n.toNat, by omega⟩
    have HI := Lib.hid (Lib.itoa_nonneg m)
    generalize Lib.itoa (m : Int) = R at *
    go_enter Tryz.func45, Tryz.ntmps45
    go_wp2_with (go_at_call 98; (with_reducible refine (rDigits_any m _ (by omega)).mono ?_); rintro e w1 ⟨rfl, hb⟩)
    go_ret
    exact ⟨ret_str (by rw [HI.out]), hb⟩
end Go.Proofs.YtakgfbcmkhcdkaaGreatDoor
namespace Go.Proofs.YtakgfbcmkhcdkaaGreatDoor
set_option linter.all false
/- Masks. -/
def qMask (m i : Nat) : Nat := if m.testBit i then m else m + 2 ^ i
theorem qMask_or {x i : Nat} (hx : x < 2 ^ 31) (hi : i < 31) : qMask x i = x ||| 2 ^ i := by
  unfold qMask; split
  · rename_i h
    apply Nat.eq_of_testBit_eq; intro j
    rw [Nat.testBit_or, Nat.testBit_two_pow]
    by_cases e : i = j
    · subst e; simp [h]
    · simp [e]
  · rename_i h
    have hp : 2 ^ i < 2 ^ 31 := Nat.pow_lt_pow_right (by omega) hi
    have hand : BitVec.ofNat 32 x &&& BitVec.ofNat 32 (2 ^ i) = 0#32 := by
      apply BitVec.eq_of_toNat_eq
      rw [BitVec.toNat_and, BitVec.toNat_ofNat, BitVec.toNat_ofNat, Nat.mod_eq_of_lt (by omega), Nat.mod_eq_of_lt (by omega)]
      show x &&& 2 ^ i = 0
      apply Nat.eq_of_testBit_eq; intro j
      rw [Nat.testBit_and, Nat.testBit_two_pow, Nat.zero_testBit]
      by_cases e : i = j
      · subst e; simp [h]
      · simp [e]
    have := congrArg BitVec.toNat (BitVec.add_eq_or_of_and_eq_zero _ _ hand)
    rw [BitVec.toNat_add, BitVec.toNat_or, BitVec.toNat_ofNat, BitVec.toNat_ofNat, Nat.mod_eq_of_lt (a := x) (by omega), Nat.mod_eq_of_lt (a := 2 ^ i) (by omega), Nat.mod_eq_of_lt (by omega)] at this
    exact this
theorem andZero (a b : Nat) (ha : a < 64) : a &&& b = 0 ↔ ∀ j, j < 6 → ¬ (a.testBit j = true ∧ b.testBit j = true) := by
  constructor
  · intro h j _ ⟨h1, h2⟩
    have := congrArg (fun n => n.testBit j) h
    simp [h1, h2] at this
  · intro h
    apply Nat.eq_of_testBit_eq; intro j
    rw [Nat.testBit_and, Nat.zero_testBit]
    by_cases hj : j < 6
    · have := h j hj
      cases h1 : a.testBit j <;> cases h2 : b.testBit j <;> simp_all
    · rw [Nat.testBit_lt_two_pow (Nat.lt_of_lt_of_le ha (show 2 ^ 6 ≤ 2 ^ j from Nat.pow_le_pow_right (by omega) (by omega)))]; rfl
theorem testBit_half (a k : Nat) : a.testBit k = decide (a / 2 ^ k % 2 = 1) := Nat.testBit_eq_decide_div_mod_eq
end Go.Proofs.YtakgfbcmkhcdkaaGreatDoor
