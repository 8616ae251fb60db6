/- Walks of the reference: package cardgameref02: low, Is, Depth. Conditions: none. -/
import Derived.Test.YthpleohkngfdfaaGreatDoorLine
import Derived.Test.YthpleohkngfdfaaGreatDoorSplit
namespace Go.Proofs.YthpleohkngfdfaaGreatDoor
set_option linter.all false
open Go.ChangeShapes Go.WideShapes Go.RowKit
def lowB (n : Nat) : Bool := decide (97 ≤ n) && decide (n ≤ 122)
theorem low_yes (n : Nat) (h : lowB n = true) (w : World) : Calls Tryz.prog 73 #[.int .u8 n] w fun e w' => e = .returned (.bool true) ∧ w = w' := by
  unfold lowB at h; simp only [Bool.and_eq_true, decide_eq_true_eq] at h
  obtain ⟨h1, h2⟩ : (97 : Int) ≤ n ∧ (n : Int) ≤ 122 := by omega
  go_enter Tryz.func73, Tryz.ntmps73
  go_wp2
  go_ret
  exact ⟨rfl, rfl⟩
theorem low_no (n : Nat) (h : lowB n = false) (w : World) : Calls Tryz.prog 73 #[.int .u8 n] w fun e w' => e = .returned (.bool false) ∧ w = w' := by
  unfold lowB at h; simp only [Bool.and_eq_false_iff, decide_eq_false_iff_not] at h
  by_cases h1 : (97 : Int) ≤ n
  · have h2 : ¬ (n : Int) ≤ 122 := by omega
    go_enter Tryz.func73, Tryz.ntmps73
    go_wp2
    go_ret
    exact ⟨rfl, rfl⟩
  · go_enter Tryz.func73, Tryz.ntmps73
    go_wp2
    go_ret
    exact ⟨rfl, rfl⟩
/-- The loop's test of place k: a byte of a name, no second hyphen. -/
def rOk (l : Str) (k : Nat) : Bool := okb (byt l k) && !(decide (0 < k) && (byt l k == 45 && byt l (k - 1) == 45))
def rHead (l : Str) : Bool := decide (0 < l.length) && (decide (l.length ≤ 32) && (lowB (byt l 0) && !(byt l (l.length - 1) == 45)))
def rName (l : Str) : Bool := rHead l && (List.range l.length).all (rOk l)
def dbl : Str → Bool
  | a :: b :: r => (a == 45 && b == 45) || dbl (b :: r)
  | _ => false
theorem contains_cons (a : UInt8) (r : Str) : Lib.contains (a :: r) [45, 45] = (([45, 45] : Str).isPrefixOf (a :: r) || Lib.contains r [45, 45]) := by
  have hge := Lib.index_ge r [45, 45]
  unfold Lib.contains
  rw [Lib.index]
  cases hp : ([45, 45] : Str).isPrefixOf (a :: r) with
  | true => simp
  | false =>
    simp only [Bool.false_eq_true, if_false, Bool.false_or]
    by_cases h : Lib.index r [45, 45] = -1
    · rw [h]; rfl
    · have hb : (Lib.index r [45, 45] == -1) = false := by rw [beq_eq_false_iff_ne]; exact h
      rw [hb, Bool.eq_iff_iff]; simp; omega
theorem contains_dbl : ∀ l : Str, Lib.contains l [45, 45] = dbl l
  | [] => rfl
  | [a] => by rw [contains_cons]; simp [List.isPrefixOf, dbl, Lib.contains, Lib.index]
  | a :: b :: r => by
    rw [contains_cons, contains_dbl (b :: r)]
    have e : ([45, 45] : Str).isPrefixOf (a :: b :: r) = (a == 45 && b == 45) := by
      rw [Bool.eq_iff_iff]; simp [List.isPrefixOf]; exact ⟨fun h => ⟨h.1.symm, h.2.symm⟩, fun h => ⟨h.1.symm, h.2.symm⟩⟩
    rw [e]; rfl
theorem byt_cons (a : UInt8) (r : Str) (k : Nat) : byt (a :: r) (k + 1) = byt r k := rfl
theorem dbl_at : ∀ l : Str, dbl l = true ↔ ∃ k, k + 1 < l.length ∧ byt l k = 45 ∧ byt l (k + 1) = 45
  | [] => by simp [dbl]
  | [a] => by simp [dbl]
  | a :: b :: r => by
    have ih := dbl_at (b :: r)
    have ha : ∀ c : UInt8, (c == 45) = true ↔ c.toNat = 45 := fun c => by
      rw [beq_iff_eq]; exact ⟨fun h => by rw [h]; rfl, fun h => by apply UInt8.toNat_inj.1; exact h⟩
    unfold dbl; rw [Bool.or_eq_true, Bool.and_eq_true, ih]
    constructor
    · rintro (⟨h1, h2⟩ | ⟨k, h1, h2, h3⟩)
      · exact ⟨0, by simp, (ha a).1 h1, (ha b).1 h2⟩
      · exact ⟨k + 1, by simp at h1 ⊢; omega, by rw [byt_cons]; exact h2, by rw [byt_cons]; exact h3⟩
    · rintro ⟨k, h1, h2, h3⟩
      cases k with
      | zero => exact .inl ⟨(ha a).2 h2, (ha b).2 h3⟩
      | succ k => exact .inr ⟨k, by simp at h1 ⊢; omega, by rw [byt_cons] at h2; exact h2, by rw [byt_cons] at h3; exact h3⟩
theorem all_ok (l : Str) : allOk l = (List.range l.length).all (fun k => okb (byt l k)) := by
  unfold allOk; rw [Bool.eq_iff_iff, List.all_eq_true, List.all_eq_true]
  constructor
  · intro h k hk
    have hk' : k < l.length := by simpa using hk
    have := h l[k] (List.getElem_mem hk')
    simpa [okc, byt, List.getD, hk'] using this
  · intro h x hx
    obtain ⟨k, hk, rfl⟩ := List.mem_iff_getElem.1 hx
    have := h k (by simpa using hk)
    simpa [okc, byt, List.getD, hk] using this
/-- The two tests of a name agree. -/
theorem rName_eq (l : Str) : rName l = isName l := by
  unfold rName isName nmHead rHead
  rw [contains_dbl, all_ok]
  have e : (List.range l.length).all (rOk l) = (((List.range l.length).all fun k => okb (byt l k)) && !dbl l) := by
    rw [Bool.eq_iff_iff, Bool.and_eq_true, List.all_eq_true, List.all_eq_true]
    constructor
    · intro h
      refine ⟨fun k hk => ?_, ?_⟩
      · have := h k hk; unfold rOk at this; rw [Bool.and_eq_true] at this; exact this.1
      · rw [Bool.not_eq_true']
        cases hd : dbl l with
        | false => rfl
        | true =>
          obtain ⟨k, h1, h2, h3⟩ := (dbl_at l).1 hd
          have := h (k + 1) (by simpa using h1)
          unfold rOk at this; rw [Nat.add_sub_cancel, h2, h3] at this; simp at this
    · rintro ⟨h1, h2⟩ k hk
      unfold rOk; rw [h1 k hk, Bool.true_and, Bool.not_eq_true']
      rw [Bool.not_eq_true'] at h2
      cases hb : (decide (0 < k) && (byt l k == 45 && byt l (k - 1) == 45)) with
      | false => rfl
      | true =>
        simp only [Bool.and_eq_true, decide_eq_true_eq, beq_iff_eq] at hb
        have hkl : k < l.length := by simpa using hk
        have := (dbl_at l).2 ⟨k - 1, by omega, hb.2.2, by rw [show k - 1 + 1 = k by omega]; exact hb.2.1⟩
        rw [this] at h2; cases h2
  rw [e]
  unfold lowB
  generalize (List.range l.length).all (fun k => okb (byt l k)) = A
  generalize dbl l = D
  cases A <;> cases D <;> simp [Bool.and_assoc]
theorem rHead_yes {s : ByteArray} (h : rHead (L s) = true) : 0 < s.size ∧ (s.size : Int) ≤ 32 ∧ lowB (byt (L s) 0) = true ∧ (((byt (L s) (s.size - 1) : Nat) : Int) == 45) = false := by
  rw [rHead, size_l] at h
  simp only [Bool.and_eq_true, decide_eq_true_eq, Bool.not_eq_true', beq_eq_false_iff_ne] at h ⊢
  exact ⟨h.1, by omega, h.2.2.1, by simp; omega⟩
set_option maxRecDepth 100000 in
theorem rWordHead_no (s : ByteArray) (w : World) (hn : rHead (L s) = false) :
    Calls Tryz.prog 46 #[.string s] w fun e w' => e = .returned (.bool false) ∧ w = w' := by
  rw [rHead, size_l] at hn
  by_cases h0 : 0 < s.size
  · have hg := get_l s
    by_cases h1 : (s.size : Int) ≤ 32
    · cases hlo : lowB (byt (L s) 0)
      · have H := Lib.hid hlo; clear hlo hn
        go_enter Tryz.func46, Tryz.ntmps46
        go_wp2_with (go_at_call 73; (with_reducible refine (low_no _ H.out _).mono ?_); rintro e w1 ⟨rfl, rfl⟩)
        go_ret
        exact ⟨rfl, rfl⟩
      · have t : (((byt (L s) (s.size - 1) : Nat) : Int) == 45) = true := by
          rw [hlo, decide_eq_true h0, decide_eq_true (by omega : s.size ≤ 32)] at hn
          have hb : byt (L s) (s.size - 1) = 45 := by simpa using hn
          rw [hb]; rfl
        have H := Lib.hid hlo; clear hlo hn
        go_enter Tryz.func46, Tryz.ntmps46
        go_wp2_with (go_at_call 73; (with_reducible refine (low_yes _ H.out _).mono ?_); rintro e w1 ⟨rfl, rfl⟩)
        go_ret
        exact ⟨rfl, rfl⟩
    · clear hn
      go_enter Tryz.func46, Tryz.ntmps46
      go_wp2
      go_ret
      exact ⟨rfl, rfl⟩
  · obtain rfl : s = ByteArray.empty := ByteArray.size_eq_zero_iff.1 (by omega)
    clear hn
    go_enter Tryz.func46, Tryz.ntmps46
    go_wp2
    go_ret
    exact ⟨rfl, rfl⟩
theorem all_range_step {f : Nat → Bool} {k : Nat} (h : (List.range k).all f = true) (hk : f k = true) : (List.range (k + 1)).all f = true := by
  rw [List.range_succ, List.all_append, h]; simp [hk]
theorem all_range_no {f : Nat → Bool} {k n : Nat} (hk : k < n) (h : f k = false) : (List.range n).all f = false := by
  cases hh : (List.range n).all f with
  | false => rfl
  | true => rw [List.all_eq_true.1 hh k (by simpa using hk)] at h; cases h
theorem low_of_ok {n : Nat} (h : okb n = true) : lowB n = true ∨ (lowB n = false ∧ (48 : Int) ≤ n ∧ (n : Int) ≤ 57) ∨ (lowB n = false ∧ (n : Int) < 48 ∧ ((n : Int) != 45) = false) := by
  unfold lowB
  simp only [okb, Bool.or_eq_true, Bool.and_eq_true, decide_eq_true_eq, beq_iff_eq, bne_eq_false_iff_eq, Bool.and_eq_false_iff, decide_eq_false_iff_not] at h ⊢; omega
theorem low_of_no {n : Nat} (h : okb n = false) : lowB n = false ∧ ((n : Int) < 48 ∨ 57 < (n : Int)) ∧ ((n : Int) != 45) = true := by
  obtain ⟨h1, h2, h3⟩ := okb_no h
  refine ⟨?_, h2, h3⟩
  unfold lowB; simp only [Bool.and_eq_false_iff, decide_eq_false_iff_not]; omega
set_option maxRecDepth 100000 in
theorem rWordIs_any (s : ByteArray) (w : World) :
    Calls Tryz.prog 46 #[.string s] w fun e w' => e = .returned (.bool (isName (L s))) ∧ w = w' := by
  rw [← rName_eq]; unfold rName
  cases hh : rHead (L s)
  · exact rWordHead_no s w hh
  obtain ⟨h0, h1, h2, t1⟩ := rHead_yes hh
  rw [Bool.true_and, size_l]
  obtain ⟨R, hR⟩ : ∃ R, (List.range s.size).all (rOk (L s)) = R := ⟨_, rfl⟩
  rw [hR]
  have HR := Lib.hid hR; clear hR hh
  have H2 := Lib.hid h2; clear h2
  have hg := get_l s
  go_enter Tryz.func46, Tryz.ntmps46
  go_wp2_with (go_at_call 73; (with_reducible refine (low_yes _ H2.out _).mono ?_); rintro e w1 ⟨rfl, rfl⟩)
  go_loop [3] (fun i => ∃ k : Nat, k ≤ s.size ∧ i = .int .i64 k ∧ Hid ((List.range k).all (rOk (L s)) = true)) (fun i => s.size - (intOf i).toNat)
  case atStart => exact ⟨0, by omega, rfl, rfl⟩
  case round =>
    obtain ⟨k, hk, rfl, hal⟩ := hrel
    by_cases hlt : k < s.size
    · have HN : rOk (L s) k = false → Hid (R = false) := fun h => Lib.hid (by rw [← HR.out]; exact all_range_no hlt h)
      have HY : rOk (L s) k = true → Hid ((List.range (k + 1)).all (rOk (L s)) = true) := fun h => Lib.hid (all_range_step hal.out h)
      unfold rOk at HN HY
      cases hok : okb (byt (L s) k)
      · have HRF := HN (by rw [hok]; rfl)
        obtain ⟨x1, x2, x3⟩ := low_of_no hok
        have X1 := Lib.hid x1
        clear hok HN HY x1
        rcases x2 with x2 | x2
        all_goals
          go_wp2_with (go_at_call 73; (with_reducible refine (low_no _ X1.out _).mono ?_); rintro e w1 ⟨rfl, rfl⟩)
          go_ret
          exact ⟨ret_bool HRF.out.symm, rfl⟩
      · by_cases hd : 0 < k ∧ byt (L s) k = 45 ∧ byt (L s) (k - 1) = 45
        · have HRF := HN (by rw [hok, decide_eq_true hd.1, hd.2.1, hd.2.2]; rfl)
          obtain ⟨d1, d2, d3⟩ := hd
          have lo : lowB (byt (L s) k) = false := by rw [d2]; rfl
          have y1 : (((byt (L s) k : Nat) : Int) == 45) = true := by simp only [beq_iff_eq]; omega
          have y3 : (((byt (L s) k : Nat) : Int) != 45) = false := by rw [bne, y1]; rfl
          have y2 : (((byt (L s) (k - 1) : Nat) : Int) == 45) = true := by simp only [beq_iff_eq]; omega
          have y4 : ((byt (L s) k : Nat) : Int) < 48 := by omega
          have d1' : (0 : Int) < k := by omega
          have ek : ((k : Int) - 1).toNat = k - 1 := by omega
          have X1 := Lib.hid lo
          clear hok HN HY lo d2 d3
          go_wp2_with (go_at_call 73; (with_reducible refine (low_no _ X1.out _).mono ?_); rintro e w1 ⟨rfl, rfl⟩)
          go_ret
          exact ⟨ret_bool HRF.out.symm, rfl⟩
        · have HNX := HY (by
            rw [hok, Bool.true_and, Bool.not_eq_true', Bool.and_eq_false_iff, Bool.and_eq_false_iff, decide_eq_false_iff_not, beq_eq_false_iff_ne, beq_eq_false_iff_ne]
            omega)
          have hd2 : ¬ 0 < k ∨ (0 < k ∧ (((byt (L s) k : Nat) : Int) == 45) = false) ∨ (0 < k ∧ (((byt (L s) k : Nat) : Int) == 45) = true ∧ (((byt (L s) (k - 1) : Nat) : Int) == 45) = false) := by
            simp only [beq_eq_false_iff_ne, beq_iff_eq, ne_eq]; omega
          have hlo := low_of_ok hok
          have ek : 0 < k → ((k : Int) - 1).toNat = k - 1 := by omega
          clear hok HN HY hd
          rcases hd2 with d1 | ⟨d1, d2⟩ | ⟨d1, d2, d3⟩
          · obtain rfl : k = 0 := by omega
            rcases hlo with lo | ⟨lo, l1, l2⟩ | ⟨lo, l1, l2⟩
            all_goals
              have X1 := Lib.hid lo
              clear lo
              go_wp2_with (go_at_call 73; (with_reducible first | refine (low_yes _ X1.out _).mono ?_ | refine (low_no _ X1.out _).mono ?_); rintro e w1 ⟨rfl, rfl⟩)
              go_round
              case rel => exact ⟨1, by omega, by go_num, HNX⟩
              case measure => simp [intOf]; omega
          all_goals
            have d1' : (0 : Int) < k := by omega
            have ek := ek d1
            rcases hlo with lo | ⟨lo, l1, l2⟩ | ⟨lo, l1, l2⟩
            all_goals
              have X1 := Lib.hid lo
              clear lo
              go_wp2_with (go_at_call 73; (with_reducible first | refine (low_yes _ X1.out _).mono ?_ | refine (low_no _ X1.out _).mono ?_); rintro e w1 ⟨rfl, rfl⟩)
              go_round
              case rel => exact ⟨k + 1, by omega, by go_num, HNX⟩
              case measure => simp [intOf]; omega
    · go_wp2
      go_ret
      obtain rfl : k = s.size := by omega
      exact ⟨ret_bool (by rw [← HR.out, hal.out]), rfl⟩
end Go.Proofs.YthpleohkngfdfaaGreatDoor
