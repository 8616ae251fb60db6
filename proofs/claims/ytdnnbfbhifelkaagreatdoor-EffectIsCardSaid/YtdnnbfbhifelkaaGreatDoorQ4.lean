/- Walks of the reference: package cardgameref02: low, Is, Depth. Conditions: none. Plain words: a text cut at a byte outside brackets. No program in sight. Walks of the reference: package cardgameref -/
import Derived.Test.YtdnnbfbhifelkaaGreatDoorQ1
import Derived.Test.YtdnnbfbhifelkaaGreatDoorQ2
import Derived.Lib.SmallJoins
import Derived.Lib.SlBytesRow
import Derived.Deep.RegionHeld3
import Derived.Deep.DeepCutAuto
import Derived.Test.YtdnnbfbhifelkaaGreatDoorQ3
import Derived.StillTailTactics
set_option linter.all false
set_option maxRecDepth 100000
set_option maxHeartbeats 16000000
namespace Go.Proofs.YtdnnbfbhifelkaaGreatDoor
open Go.ChangeShapes Go.WideShapes Go.RowKit
def lowB (n : Nat) : Bool := decide (97 ≤ n) && decide (n ≤ 122)
theorem low_yes (n : Nat) (h : lowB n = true) (w : World) : Calls Tryz.prog 60 #[.int .u8 n] w fun e w' => e = .returned (.bool true) ∧ w = w' := by
 unfold lowB at h; simp only [Bool.and_eq_true, decide_eq_true_eq] at h
 obtain ⟨h1, h2⟩ : (97 : Int) ≤ n ∧ (n : Int) ≤ 122 := by omega
 go_enter Tryz.func60, Tryz.ntmps60
 go_wp2
 go_ret
 exact ⟨rfl, rfl⟩
theorem low_no (n : Nat) (h : lowB n = false) (w : World) : Calls Tryz.prog 60 #[.int .u8 n] w fun e w' => e = .returned (.bool false) ∧ w = w' := by
 unfold lowB at h; simp only [Bool.and_eq_false_iff, decide_eq_false_iff_not] at h
 by_cases h1 : (97 : Int) ≤ n
 ·have h2 : ¬ (n : Int) ≤ 122 := by omega
  go_enter Tryz.func60, Tryz.ntmps60
  go_wp2
  go_ret
  exact ⟨rfl, rfl⟩
 ·go_enter Tryz.func60, Tryz.ntmps60
  go_wp2
  go_ret
  exact ⟨rfl, rfl⟩
def rOk (l : Str) (k : Nat) : Bool := okb (byt l k) && !(decide (0 < k) && (byt l k == 45 && byt l (k - 1) == 45))
def rHead (l : Str) : Bool := decide (0 < l.length) && (decide (l.length ≤ 32) && (lowB (byt l 0) && !(byt l (l.length - 1) == 45)))
def rName (l : Str) : Bool := rHead l && (List.range l.length).all (rOk l)
def dbl : Str → Bool
 | a :: b :: r => (a == 45 && b == 45) || dbl (b :: r)
 | _ => false
theorem contains_cons (a : UInt8) (r : Str) : Lib.contains (a :: r) [45, 45] = (([45, 45] : Str).isPrefixOf (a :: r) || Lib.contains r [45, 45]) := by
 have hge := Lib.index_ge r [45, 45]
 unfold Lib.contains
 rw [Lib.index]
 cases hp : ([45, 45] : Str).isPrefixOf (a :: r) with
 | true => simp
 | false =>
   simp only [Bool.false_eq_true, if_false, Bool.false_or]
   by_cases h : Lib.index r [45, 45] = -1
   ·rw [h]; rfl
   ·have hb : (Lib.index r [45, 45] == -1) = false := by rw [beq_eq_false_iff_ne]; exact h
    rw [hb, Bool.eq_iff_iff]; simp; omega
theorem contains_dbl : ∀ l : Str, Lib.contains l [45, 45] = dbl l
 | [] => rfl
 | [a] => by rw [contains_cons]; simp [List.isPrefixOf, dbl, Lib.contains, Lib.index]
 | a :: b :: r => by
   rw [contains_cons, contains_dbl (b :: r)]
   have e : ([45, 45] : Str).isPrefixOf (a :: b :: r) = (a == 45 && b == 45) := by
    rw [Bool.eq_iff_iff]; simp [List.isPrefixOf]; exact ⟨fun h => ⟨h.1.symm, h.2.symm⟩, fun h => ⟨h.1.symm, h.2.symm⟩⟩
   rw [e]; rfl
theorem byt_cons (a : UInt8) (r : Str) (k : Nat) : byt (a :: r) (k + 1) = byt r k := rfl
theorem dbl_at : ∀ l : Str, dbl l = true ↔ ∃ k, k + 1 < l.length ∧ byt l k = 45 ∧ byt l (k + 1) = 45
 | [] => by simp [dbl]
 | [a] => by simp [dbl]
 | a :: b :: r => by
   have ih := dbl_at (b :: r)
   have ha : ∀ c : UInt8, (c == 45) = true ↔ c.toNat = 45 := fun c => by
    rw [beq_iff_eq]; exact ⟨fun h => by rw [h]; rfl, fun h => by apply UInt8.toNat_inj.1; exact h⟩
   unfold dbl; rw [Bool.or_eq_true, Bool.and_eq_true, ih]
   constructor
   ·rintro (⟨h1, h2⟩ | ⟨k, h1, h2, h3⟩)
    ·exact ⟨0, by simp, (ha a).1 h1, (ha b).1 h2⟩
    ·exact ⟨k + 1, by simp at h1 ⊢; omega, by rw [byt_cons]; exact h2, by rw [byt_cons]; exact h3⟩
   ·rintro ⟨k, h1, h2, h3⟩
    cases k with
    | zero => exact .inl ⟨(ha a).2 h2, (ha b).2 h3⟩
    | succ k => exact .inr ⟨k, by simp at h1 ⊢; omega, by rw [byt_cons] at h2; exact h2, by rw [byt_cons] at h3; exact h3⟩
theorem all_ok (l : Str) : allOk l = (List.range l.length).all (fun k => okb (byt l k)) := by
 unfold allOk; rw [Bool.eq_iff_iff, List.all_eq_true, List.all_eq_true]
 constructor
 ·intro h k hk
  have hk' : k < l.length := by simpa using hk
  have := h l[k] (List.getElem_mem hk')
  simpa [okc, byt, List.getD, hk'] using this
 ·intro h x hx
  obtain ⟨k, hk, rfl⟩ := List.mem_iff_getElem.1 hx
  have := h k (by simpa using hk)
  simpa [okc, byt, List.getD, hk] using this
theorem rName_eq (l : Str) : rName l = isName l := by
 unfold rName isName nmHead rHead
 rw [contains_dbl, all_ok]
 have e : (List.range l.length).all (rOk l) = (((List.range l.length).all fun k => okb (byt l k)) && !dbl l) := by
  rw [Bool.eq_iff_iff, Bool.and_eq_true, List.all_eq_true, List.all_eq_true]
  constructor
  ·intro h
   refine ⟨fun k hk => ?_, ?_⟩
   ·have := h k hk; unfold rOk at this; rw [Bool.and_eq_true] at this; exact this.1
   ·rw [Bool.not_eq_true']
    cases hd : dbl l with
    | false => rfl
    | true =>
      obtain ⟨k, h1, h2, h3⟩ := (dbl_at l).1 hd
      have := h (k + 1) (by simpa using h1)
      unfold rOk at this; rw [Nat.add_sub_cancel, h2, h3] at this; simp at this
  ·rintro ⟨h1, h2⟩ k hk
   unfold rOk; rw [h1 k hk, Bool.true_and, Bool.not_eq_true']
   rw [Bool.not_eq_true'] at h2
   cases hb : (decide (0 < k) && (byt l k == 45 && byt l (k - 1) == 45)) with
   | false => rfl
   | true =>
     simp only [Bool.and_eq_true, decide_eq_true_eq, beq_iff_eq] at hb
     have hkl : k < l.length := by simpa using hk
     have := (dbl_at l).2 ⟨k - 1, by omega, hb.2.2, by rw [show k - 1 + 1 = k by omega]; exact hb.2.1⟩
     rw [this] at h2; cases h2
 rw [e]
 unfold lowB
 generalize (List.range l.length).all (fun k => okb (byt l k)) = A
 generalize dbl l = D
 cases A <;> cases D <;> simp [Bool.and_assoc]
theorem rHead_yes {s : ByteArray} (h : rHead (L s) = true) : 0 < s.size ∧ (s.size : Int) ≤ 32 ∧ lowB (byt (L s) 0) = true ∧ (((byt (L s) (s.size - 1) : Nat) : Int) == 45) = false := by
 rw [rHead, size_l] at h
 simp only [Bool.and_eq_true, decide_eq_true_eq, Bool.not_eq_true', beq_eq_false_iff_ne] at h ⊢
 exact ⟨h.1, by omega, h.2.2.1, by simp; omega⟩
theorem rWordHead_no (s : ByteArray) (w : World) (hn : rHead (L s) = false) :
 Calls Tryz.prog 33 #[.string s] w fun e w' => e = .returned (.bool false) ∧ w = w' := by
 rw [rHead, size_l] at hn
 by_cases h0 : 0 < s.size
 ·have hg := get_l s
  by_cases h1 : (s.size : Int) ≤ 32
  ·cases hlo : lowB (byt (L s) 0)
   ·have H := Lib.hid hlo; clear hlo hn
    go_enter Tryz.func33, Tryz.ntmps33
    go_wp2_with (go_at_call 60; (with_reducible refine (low_no _ H.out _).mono ?_); rintro e w1 ⟨rfl, rfl⟩)
    go_ret
    exact ⟨rfl, rfl⟩
   ·have t : (((byt (L s) (s.size - 1) : Nat) : Int) == 45) = true := by
     rw [hlo, decide_eq_true h0, decide_eq_true (by omega : s.size ≤ 32)] at hn
     have hb : byt (L s) (s.size - 1) = 45 := by simpa using hn
     rw [hb]; rfl
    have H := Lib.hid hlo; clear hlo hn
    go_enter Tryz.func33, Tryz.ntmps33
    go_wp2_with (go_at_call 60; (with_reducible refine (low_yes _ H.out _).mono ?_); rintro e w1 ⟨rfl, rfl⟩)
    go_ret
    exact ⟨rfl, rfl⟩
  ·clear hn
   go_enter Tryz.func33, Tryz.ntmps33
   go_wp2
   go_ret
   exact ⟨rfl, rfl⟩
 ·obtain rfl : s = ByteArray.empty := ByteArray.size_eq_zero_iff.1 (by omega)
  clear hn
  go_enter Tryz.func33, Tryz.ntmps33
  go_wp2
  go_ret
  exact ⟨rfl, rfl⟩
theorem all_range_step {f : Nat → Bool} {k : Nat} (h : (List.range k).all f = true) (hk : f k = true) : (List.range (k + 1)).all f = true := by
 rw [List.range_succ, List.all_append, h]; simp [hk]
theorem all_range_no {f : Nat → Bool} {k n : Nat} (hk : k < n) (h : f k = false) : (List.range n).all f = false := by
 cases hh : (List.range n).all f with
 | false => rfl
 | true => rw [List.all_eq_true.1 hh k (by simpa using hk)] at h; cases h
theorem low_of_ok {n : Nat} (h : okb n = true) : lowB n = true ∨ (lowB n = false ∧ (48 : Int) ≤ n ∧ (n : Int) ≤ 57) ∨ (lowB n = false ∧ (n : Int) < 48 ∧ ((n : Int) != 45) = false) := by
 unfold lowB
 simp only [okb, Bool.or_eq_true, Bool.and_eq_true, decide_eq_true_eq, beq_iff_eq, bne_eq_false_iff_eq, Bool.and_eq_false_iff, decide_eq_false_iff_not] at h ⊢; omega
theorem low_of_no {n : Nat} (h : okb n = false) : lowB n = false ∧ ((n : Int) < 48 ∨ 57 < (n : Int)) ∧ ((n : Int) != 45) = true := by
 obtain ⟨h1, h2, h3⟩ := okb_no h
 refine ⟨?_, h2, h3⟩
 unfold lowB; simp only [Bool.and_eq_false_iff, decide_eq_false_iff_not]; omega
theorem rWordIs_any (s : ByteArray) (w : World) :
 Calls Tryz.prog 33 #[.string s] w fun e w' => e = .returned (.bool (isName (L s))) ∧ w = w' := by
 rw [← rName_eq]; unfold rName
 cases hh : rHead (L s)
 ·exact rWordHead_no s w hh
 obtain ⟨h0, h1, h2, t1⟩ := rHead_yes hh
 rw [Bool.true_and, size_l]
 obtain ⟨R, hR⟩ : ∃ R, (List.range s.size).all (rOk (L s)) = R := ⟨_, rfl⟩
 rw [hR]
 have HR := Lib.hid hR; clear hR hh
 have H2 := Lib.hid h2; clear h2
 have hg := get_l s
 go_enter Tryz.func33, Tryz.ntmps33
 go_wp2_with (go_at_call 60; (with_reducible refine (low_yes _ H2.out _).mono ?_); rintro e w1 ⟨rfl, rfl⟩)
 go_loop [3] (fun i => ∃ k : Nat, k ≤ s.size ∧ i = .int .i64 k ∧ Hid ((List.range k).all (rOk (L s)) = true)) (fun i => s.size - (intOf i).toNat)
 case atStart => exact ⟨0, by omega, rfl, rfl⟩
 case round =>
  obtain ⟨k, hk, rfl, hal⟩ := hrel
  by_cases hlt : k < s.size
  ·have HN : rOk (L s) k = false → Hid (R = false) := fun h => Lib.hid (by rw [← HR.out]; exact all_range_no hlt h)
   have HY : rOk (L s) k = true → Hid ((List.range (k + 1)).all (rOk (L s)) = true) := fun h => Lib.hid (all_range_step hal.out h)
   unfold rOk at HN HY
   cases hok : okb (byt (L s) k)
   ·have HRF := HN (by rw [hok]; rfl)
    obtain ⟨x1, x2, x3⟩ := low_of_no hok
    have X1 := Lib.hid x1
    clear hok HN HY x1
    rcases x2 with x2 | x2
    all_goals
     go_wp2_with (go_at_call 60; (with_reducible refine (low_no _ X1.out _).mono ?_); rintro e w1 ⟨rfl, rfl⟩)
     go_ret
     exact ⟨ret_bool HRF.out.symm, rfl⟩
   ·by_cases hd : 0 < k ∧ byt (L s) k = 45 ∧ byt (L s) (k - 1) = 45
    ·have HRF := HN (by rw [hok, decide_eq_true hd.1, hd.2.1, hd.2.2]; rfl)
     obtain ⟨d1, d2, d3⟩ := hd
     have lo : lowB (byt (L s) k) = false := by rw [d2]; rfl
     have y1 : (((byt (L s) k : Nat) : Int) == 45) = true := by simp only [beq_iff_eq]; omega
     have y3 : (((byt (L s) k : Nat) : Int) != 45) = false := by rw [bne, y1]; rfl
     have y2 : (((byt (L s) (k - 1) : Nat) : Int) == 45) = true := by simp only [beq_iff_eq]; omega
     have y4 : ((byt (L s) k : Nat) : Int) < 48 := by omega
     have d1' : (0 : Int) < k := by omega
     have ek : ((k : Int) - 1).toNat = k - 1 := by omega
     have X1 := Lib.hid lo
     clear hok HN HY lo d2 d3
     go_wp2_with (go_at_call 60; (with_reducible refine (low_no _ X1.out _).mono ?_); rintro e w1 ⟨rfl, rfl⟩)
     go_ret
     exact ⟨ret_bool HRF.out.symm, rfl⟩
    ·have HNX := HY (by
      rw [hok, Bool.true_and, Bool.not_eq_true', Bool.and_eq_false_iff, Bool.and_eq_false_iff, decide_eq_false_iff_not, beq_eq_false_iff_ne, beq_eq_false_iff_ne]
      omega)
     have hd2 : ¬ 0 < k ∨ (0 < k ∧ (((byt (L s) k : Nat) : Int) == 45) = false) ∨ (0 < k ∧ (((byt (L s) k : Nat) : Int) == 45) = true ∧ (((byt (L s) (k - 1) : Nat) : Int) == 45) = false) := by
      simp only [beq_eq_false_iff_ne, beq_iff_eq, ne_eq]; omega
     have hlo := low_of_ok hok
     have ek : 0 < k → ((k : Int) - 1).toNat = k - 1 := by omega
     clear hok HN HY hd
     rcases hd2 with d1 | ⟨d1, d2⟩ | ⟨d1, d2, d3⟩
     ·obtain rfl : k = 0 := by omega
      rcases hlo with lo | ⟨lo, l1, l2⟩ | ⟨lo, l1, l2⟩
      all_goals
       have X1 := Lib.hid lo
       clear lo
       go_wp2_with (go_at_call 60; (with_reducible first | refine (low_yes _ X1.out _).mono ?_ | refine (low_no _ X1.out _).mono ?_); rintro e w1 ⟨rfl, rfl⟩)
       go_round
       case rel => exact ⟨1, by omega, by go_num, HNX⟩
       case measure => simp [intOf]; omega
     all_goals
      have d1' : (0 : Int) < k := by omega
      have ek := ek d1
      rcases hlo with lo | ⟨lo, l1, l2⟩ | ⟨lo, l1, l2⟩
      all_goals
       have X1 := Lib.hid lo
       clear lo
       go_wp2_with (go_at_call 60; (with_reducible first | refine (low_yes _ X1.out _).mono ?_ | refine (low_no _ X1.out _).mono ?_); rintro e w1 ⟨rfl, rfl⟩)
       go_round
       case rel => exact ⟨k + 1, by omega, by go_num, HNX⟩
       case measure => simp [intOf]; omega
  ·go_wp2
   go_ret
   obtain rfl : k = s.size := by omega
   exact ⟨ret_bool (by rw [← HR.out, hal.out]), rfl⟩
end Go.Proofs.YtdnnbfbhifelkaaGreatDoor
namespace Go.Proofs.YtdnnbfbhifelkaaGreatDoor
def depStep (n : Nat) (c : UInt8) : Nat := if c == 40 || c == 91 then n + 1 else if (c == 41 || c == 93) && 0 < n then n - 1 else n
def depS (l : Str) : Nat := l.foldl depStep 0
theorem depS_snoc (l : Str) (c : UInt8) : depS (l ++ [c]) = depStep (depS l) c := by unfold depS; rw [List.foldl_append]; rfl
def dst (c : UInt8) (s : Str) : Nat → List Str × Nat
 | 0 => ([], 0)
 | i + 1 => if s.getD i 0 == c && depS (s.take i) == 0 then ((dst c s i).1 ++ [(s.take i).drop (dst c s i).2], i + 1) else dst c s i
def dsplit (c : UInt8) (s : Str) : List Str := (dst c s s.length).1 ++ [s.drop (dst c s s.length).2]
def Flat (s : Str) : Prop := s.all (fun c => !(c == 40 || (c == 41 || (c == 91 || c == 93)))) = true
theorem dep_flat : ∀ (l : Str), Flat l → ∀ n, l.foldl depStep n = n
 | [], _, n => rfl
 | x :: r, h, n => by
   unfold Flat at h; rw [List.all_cons, Bool.and_eq_true] at h
   have hx : depStep n x = n := by
    have := h.1
    simp only [Bool.not_eq_true', Bool.or_eq_false_iff, beq_eq_false_iff_ne] at this
    unfold depStep; simp [this]
   rw [List.foldl_cons, hx]; exact dep_flat r h.2 n
theorem Flat.take {s : Str} (h : Flat s) (i : Nat) : Flat (s.take i) := List.all_eq_true.2 fun c hc => List.all_eq_true.1 h c (List.mem_of_mem_take hc)
theorem dst_inv (c : UInt8) (s : Str) (h : Flat s) : ∀ i, i ≤ s.length → (dst c s i).2 ≤ i ∧ c ∉ (s.take i).drop (dst c s i).2 ∧ (dst c s i).1 ++ splitOn c (s.drop (dst c s i).2) = splitOn c s
 | 0, _ => by simp [dst]
 | i + 1, hi => by
   obtain ⟨h1, h2, h3⟩ := dst_inv c s h i (by omega)
   have hd : depS (s.take i) = 0 := dep_flat _ (h.take i) 0
   have hsi : s.getD i 0 = s[i] := by simp [List.getD, List.getElem?_eq_getElem (show i < s.length by omega)]
   have ht : s.take (i + 1) = s.take i ++ [s[i]] := List.take_succ_eq_append_getElem (by omega)
   rw [dst, hd, hsi]
   by_cases hc : s[i] = c
   ·rw [if_pos (by simp [hc])]
    refine ⟨Nat.le_refl _, ?_, ?_⟩
    ·rw [List.drop_eq_nil_of_le (by simp; omega)]; simp
    ·rw [← h3]
     have e : ∀ q, q ≤ i → s.drop q = (s.take i).drop q ++ c :: s.drop (i + 1) := by
      intro q hq
      have e1 : s = s.take i ++ s[i] :: s.drop (i + 1) := by rw [← List.drop_eq_getElem_cons (by omega), List.take_append_drop]
      have e2 := congrArg (List.drop q) e1
      rw [List.drop_append_of_le_length (by simp; omega), hc] at e2
      exact e2
     rw [e _ h1, splitOn_word c _ _ h2, List.append_assoc]; rfl
   ·rw [if_neg (by simp [hc])]
    refine ⟨by omega, ?_, h3⟩
    rw [ht, List.drop_append_of_le_length (by simp; omega)]
    intro hm; rcases List.mem_append.1 hm with hm | hm
    ·exact h2 hm
    ·rw [List.mem_singleton] at hm; exact hc hm.symm
theorem dsplit_flat (c : UInt8) (s : Str) (h : Flat s) : dsplit c s = splitOn c s := by
 obtain ⟨h1, h2, h3⟩ := dst_inv c s h s.length (Nat.le_refl _)
 rw [List.take_length] at h2
 rw [← h3, splitOn_none c _ h2]; rfl
end Go.Proofs.YtdnnbfbhifelkaaGreatDoor
namespace Go.Proofs.YtdnnbfbhifelkaaGreatDoor
open Go.ChangeShapes Go.WideShapes Go.RowKit
theorem depS_le (l : Str) : depS l ≤ l.length := by
 have : ∀ (l : Str) (n : Nat), l.foldl depStep n ≤ n + l.length := by
  intro l
  induction l with
  | nil => intro n; simp
  | cons x r ih =>
    intro n
    have h1 := ih (depStep n x)
    have h2 : depStep n x ≤ n + 1 := by unfold depStep; split; · omega
                                        ·split <;> omega
    simp only [List.foldl_cons, List.length_cons]; omega
 have := this l 0; unfold depS; omega
theorem take_snoc1 {s : Str} {k : Nat} (h : k < s.length) : s.take (k + 1) = s.take k ++ [s.getD k 0] := by
 rw [List.take_succ_eq_append_getElem h]; simp [List.getD, h]
theorem byt_val (c : UInt8) (n : Nat) (hn : n < 256) : (c == UInt8.ofNat n) = (c.toNat == n) := by
 rw [Bool.eq_iff_iff, beq_iff_eq, beq_iff_eq]
 constructor
 ·intro h; rw [h, UInt8.toNat_ofNat']; omega
 ·intro h; apply UInt8.toNat_inj.1; rw [h, UInt8.toNat_ofNat']; omega
theorem depStep_n (n : Nat) (c : UInt8) : depStep n c = if c.toNat = 40 ∨ c.toNat = 91 then n + 1 else if (c.toNat = 41 ∨ c.toNat = 93) ∧ 0 < n then n - 1 else n := by
 unfold depStep
 have h1 := byt_val c 40 (by omega); have h2 := byt_val c 91 (by omega); have h3 := byt_val c 41 (by omega); have h4 := byt_val c 93 (by omega)
 rw [show (40 : UInt8) = UInt8.ofNat 40 from rfl, show (91 : UInt8) = UInt8.ofNat 91 from rfl, show (41 : UInt8) = UInt8.ofNat 41 from rfl, show (93 : UInt8) = UInt8.ofNat 93 from rfl, h1, h2, h3, h4]
 simp only [Bool.or_eq_true, Bool.and_eq_true, beq_iff_eq, decide_eq_true_eq]
theorem eqn (a : Nat) (b : Int) (h : (a : Int) = b) : ((a : Int) == b) = true := by rw [h]; simp
theorem nen (a : Nat) (b : Int) (h : (a : Int) ≠ b) : ((a : Int) == b) = false := by rw [beq_eq_false_iff_ne]; exact h
theorem depth_any (s : ByteArray) (m : Nat) (w : World) (hm : m ≤ s.size) (hs : s.size < 1000000000) :
 Calls Tryz.prog 91 #[.string s, .int .i64 m] w fun e w' => e = .returned (.int .i64 (depS ((L s).take m) : Nat)) ∧ w = w' := by
 have hg := get_l s
 have hsl := size_l s
 obtain ⟨R, hR⟩ : ∃ R, depS ((L s).take m) = R := ⟨_, rfl⟩
 rw [hR]
 have HR := Lib.hid hR; clear hR
 have HL := Lib.hid hsl; clear hsl
 go_enter Tryz.func91, Tryz.ntmps91
 go_wp2
 go_loop [5, 6] (fun n i => ∃ k d : Nat, k ≤ m ∧ d ≤ k ∧ i = .int .i64 k ∧ n = .int .i64 d ∧ Hid (depS ((L s).take k) = d)) (fun _ i => m - (intOf i).toNat)
 case atStart => exact ⟨0, 0, by omega, by omega, rfl, rfl, rfl⟩
 case round =>
  obtain ⟨k, d, hk, hdk, rfl, rfl, HD⟩ := hrel
  by_cases hlt : k < m
  ·have hks : k < s.size := by omega
   have hst : Hid (depS ((L s).take (k + 1)) = if byt (L s) k = 40 ∨ byt (L s) k = 91 then d + 1 else if (byt (L s) k = 41 ∨ byt (L s) k = 93) ∧ 0 < d then d - 1 else d) :=
    Lib.hid (by rw [take_snoc1 (by rw [HL.out]; exact hks), depS_snoc, HD.out]; exact depStep_n d _)
   have hle := depS_le ((L s).take (k + 1))
   have hc : byt (L s) k = 40 ∨ byt (L s) k = 91 ∨ (byt (L s) k = 41 ∧ 0 < d) ∨ (byt (L s) k = 93 ∧ 0 < d) ∨ (byt (L s) k = 41 ∧ ¬ 0 < d) ∨ (byt (L s) k = 93 ∧ ¬ 0 < d) ∨ (byt (L s) k ≠ 40 ∧ byt (L s) k ≠ 91 ∧ byt (L s) k ≠ 41 ∧ byt (L s) k ≠ 93) := by omega
   clear hle
   rcases hc with h | h | ⟨h, hd⟩ | ⟨h, hd⟩ | ⟨h, hd⟩ | ⟨h, hd⟩ | ⟨h1, h2, h3, h4⟩
   ·have t1 := eqn (byt (L s) k) 40 (by omega); have t3 := nen (byt (L s) k) 41 (by omega); have t4 := nen (byt (L s) k) 93 (by omega)
    have HN : Hid (depS ((L s).take (k + 1)) = d + 1) := Lib.hid (by rw [hst.out, if_pos (by omega)])
    clear h hst
    go_wp2
    go_round
    case rel => exact ⟨k + 1, d + 1, by omega, by omega, by go_num, by go_num, HN⟩
    case measure => simp [intOf]; omega
   ·have t1 := nen (byt (L s) k) 40 (by omega); have t2 := eqn (byt (L s) k) 91 (by omega); have t3 := nen (byt (L s) k) 41 (by omega); have t4 := nen (byt (L s) k) 93 (by omega)
    have HN : Hid (depS ((L s).take (k + 1)) = d + 1) := Lib.hid (by rw [hst.out, if_pos (by omega)])
    clear h hst
    go_wp2
    go_round
    case rel => exact ⟨k + 1, d + 1, by omega, by omega, by go_num, by go_num, HN⟩
    case measure => simp [intOf]; omega
   ·have t1 := nen (byt (L s) k) 40 (by omega); have t2 := nen (byt (L s) k) 91 (by omega); have t3 := eqn (byt (L s) k) 41 (by omega)
    have HN : Hid (depS ((L s).take (k + 1)) = d - 1) := Lib.hid (by rw [hst.out, if_neg (by omega), if_pos (by omega)])
    have hd' : (0 : Int) < d := by omega
    clear h hst
    go_wp2
    go_round
    case rel => exact ⟨k + 1, d - 1, by omega, by omega, by go_num, by rw [show ((d - 1 : Nat) : Int) = (d : Int) - 1 by omega], HN⟩
    case measure => simp [intOf]; omega
   ·have t1 := nen (byt (L s) k) 40 (by omega); have t2 := nen (byt (L s) k) 91 (by omega); have t3 := nen (byt (L s) k) 41 (by omega); have t4 := eqn (byt (L s) k) 93 (by omega)
    have HN : Hid (depS ((L s).take (k + 1)) = d - 1) := Lib.hid (by rw [hst.out, if_neg (by omega), if_pos (by omega)])
    have hd' : (0 : Int) < d := by omega
    clear h hst
    go_wp2
    go_round
    case rel => exact ⟨k + 1, d - 1, by omega, by omega, by go_num, by rw [show ((d - 1 : Nat) : Int) = (d : Int) - 1 by omega], HN⟩
    case measure => simp [intOf]; omega
   ·have t1 := nen (byt (L s) k) 40 (by omega); have t2 := nen (byt (L s) k) 91 (by omega); have t3 := eqn (byt (L s) k) 41 (by omega)
    have HN : Hid (depS ((L s).take (k + 1)) = d) := Lib.hid (by rw [hst.out, if_neg (by omega), if_neg (by omega)])
    have hd' : ¬ (0 : Int) < d := by omega
    clear h hst
    go_wp2
    go_round
    case rel => exact ⟨k + 1, d, by omega, by omega, by go_num, rfl, HN⟩
    case measure => simp [intOf]; omega
   ·have t1 := nen (byt (L s) k) 40 (by omega); have t2 := nen (byt (L s) k) 91 (by omega); have t3 := nen (byt (L s) k) 41 (by omega); have t4 := eqn (byt (L s) k) 93 (by omega)
    have HN : Hid (depS ((L s).take (k + 1)) = d) := Lib.hid (by rw [hst.out, if_neg (by omega), if_neg (by omega)])
    have hd' : ¬ (0 : Int) < d := by omega
    clear h hst
    go_wp2
    go_round
    case rel => exact ⟨k + 1, d, by omega, by omega, by go_num, rfl, HN⟩
    case measure => simp [intOf]; omega
   ·have t1 := nen (byt (L s) k) 40 (by omega); have t2 := nen (byt (L s) k) 91 (by omega); have t3 := nen (byt (L s) k) 41 (by omega); have t4 := nen (byt (L s) k) 93 (by omega)
    have HN : Hid (depS ((L s).take (k + 1)) = d) := Lib.hid (by rw [hst.out, if_neg (by omega), if_neg (by omega)])
    clear h1 h2 h3 h4 hst
    go_wp2
    go_round
    case rel => exact ⟨k + 1, d, by omega, by omega, by go_num, rfl, HN⟩
    case measure => simp [intOf]; omega
  ·obtain rfl : k = m := by omega
   have HE : Hid (d = R) := Lib.hid (by rw [← HD.out, HR.out])
   go_wp2
   go_ret
   exact ⟨ret_int (by rw [HE.out]), rfl⟩
theorem depth_is (s : ByteArray) (m : Nat) (w : World) (hm : m ≤ s.size) (hs : s.size < 1000000000) (d : Nat) (hd : Hid (depS ((L s).take m) = d)) :
 Calls Tryz.prog 91 #[.string s, .int .i64 m] w fun e w' => e = .returned (.int .i64 (d : Nat)) ∧ w = w' :=
 (depth_any s m w hm hs).mono fun _ _ h => ⟨by rw [h.1, hd.out], h.2⟩
theorem dst_le (c : UInt8) (s : Str) : ∀ i, (dst c s i).2 ≤ i ∧ (dst c s i).1.length ≤ i
 | 0 => by simp [dst]
 | i + 1 => by
   obtain ⟨h1, h2⟩ := dst_le c s i
   rw [dst]; split
   ·simp; omega
   ·omega
theorem byt_castR (c : UInt8) (n : Nat) : (((n : Nat) : Int) == ((c.toNat : Nat) : Int)) = (n == c.toNat) := by
 rw [Bool.eq_iff_iff]; simp; omega
theorem rSplit_any (s : ByteArray) (c : UInt8) (w : World) (hs : s.size < 100000000) (hc : c.toNat ≠ 40 ∧ c.toNat ≠ 41 ∧ c.toNat ≠ 91 ∧ c.toNat ≠ 93) :
 Calls Tryz.prog 50 #[.string s, .int .u8 c.toNat] w (RetTexts w (dsplit c (L s))) := by
 have hg := get_l s
 obtain ⟨h1, h2, h3, h4⟩ := hc
 have u1 := nen c.toNat 40 (by omega); have u2 := nen c.toNat 41 (by omega); have u3 := nen c.toNat 91 (by omega); have u4 := nen c.toNat 93 (by omega)
 have HL := Lib.hid (size_l s)
 obtain ⟨R, hR⟩ : ∃ R, dsplit c (L s) = R := ⟨_, rfl⟩
 rw [hR]
 have HR := Lib.hid hR; clear hR h1 h2 h3 h4
 go_enter Tryz.func50, Tryz.ntmps50
 go_wp2
 go_loopw [5, 6, 7] (fun v f i wr => ∃ k : Nat, ∃ q : Nat, ∃ l : List Str, k ≤ s.size ∧ q ≤ k ∧ l.length ≤ k ∧ i = .int .i64 k ∧ f = .int .i64 q ∧ Hid (dst c (L s) k = (l, q)) ∧ Texts wr w.heap.size l v ∧ Below w.heap.size w wr) (fun _ _ i _ => s.size - (intOf i).toNat)
 case atStart => exact ⟨0, 0, [], by omega, by omega, by simp, rfl, rfl, rfl, Texts.nil _ _, Below.refl _ _⟩
 case round =>
  obtain ⟨k, q, l, hk, hq, hl, rfl, rfl, HD, hown, hb⟩ := hrel
  have hsz := hb.size
  by_cases hlt : k < s.size
  ·have hst : dst c (L s) (k + 1) = if (L s).getD k 0 == c && depS ((L s).take k) == 0 then (l ++ [((L s).take k).drop q], k + 1) else (l, q) := by rw [dst, HD.out]
   obtain ⟨d, hd⟩ : ∃ d, depS ((L s).take k) = d := ⟨_, rfl⟩
   rw [hd] at hst
   have Hd := Lib.hid hd; clear hd
   have hcb : ((L s).getD k 0 == c) = (byt (L s) k == c.toNat) := by
    rw [Bool.eq_iff_iff, beq_iff_eq, beq_iff_eq]; exact ⟨fun h => by unfold byt; rw [h], fun h => UInt8.toNat_inj.1 h⟩
   rw [hcb] at hst; clear hcb
   have htc := byt_castR c (byt (L s) k)
   cases hcc : (byt (L s) k == c.toNat)
   ·rw [hcc] at hst htc
    have HN : Hid (dst c (L s) (k + 1) = (l, q)) := Lib.hid (by rw [hst]; rfl)
    clear hst hcc
    go_wp2
    go_roundw
    case rel => exact ⟨k + 1, q, l, by omega, by omega, by omega, by go_num, rfl, HN, hown, hb⟩
    case measure => simp [intOf]; omega
   ·rw [hcc] at hst htc
    by_cases h0 : d = 0
    ·have HN : Hid (dst c (L s) (k + 1) = (l ++ [((L s).take k).drop q], k + 1)) := Lib.hid (by rw [hst, h0]; rfl)
     have t0 := eqn d 0 (by omega)
     have hex := Lib.hid (L_extract s q k)
     have hln : l.length < 1000000000 := by omega
     clear hst hcc h0
     go_wp2_with (first | (go_at_call 91; (with_reducible refine (depth_is s k _ (by omega) (by omega) d Hd).mono ?_); rintro e w2 ⟨rfl, rfl⟩) | (at_builtin; refine wpList_text_push rfl (.tmp 41) (.tmp 46) 65 rfl Tryz.underlying65 info_str rfl rfl hown hln hsz ?_; intro v' w2 hown2 hb2))
     rw [hex.out] at hown2
     have hb3 := hb.trans hb2
     go_roundw
     case rel => exact ⟨k + 1, k + 1, _, by omega, by omega, by simp; omega, by go_num, by go_num, HN, hown2, hb3⟩
     case measure => simp [intOf]; omega
    ·have HN : Hid (dst c (L s) (k + 1) = (l, q)) := Lib.hid (by rw [hst, Bool.true_and, if_neg (by simpa using h0)])
     have t0 := nen d 0 (by omega)
     clear hst hcc h0
     go_wp2_with (go_at_call 91; (with_reducible refine (depth_is s k _ (by omega) (by omega) d Hd).mono ?_); rintro e w2 ⟨rfl, rfl⟩)
     go_roundw
     case rel => exact ⟨k + 1, q, l, by omega, by omega, by omega, by go_num, rfl, HN, hown, hb⟩
     case measure => simp [intOf]; omega
  ·obtain rfl : k = s.size := by omega
   have hex : Hid (L (s.extract q s.size) = (L s).drop q) := Lib.hid (by rw [L_extract, List.take_of_length_le (by rw [size_l]; exact Nat.le_refl _)])
   have HE : Hid (l ++ [(L s).drop q] = R) := Lib.hid (by rw [← HR.out, dsplit, HL.out, HD.out])
   have hln : l.length < 1000000000 := by omega
   go_wp2_with (at_builtin; refine wpList_text_push rfl (.tmp 50) (.tmp 54) 65 rfl Tryz.underlying65 info_str rfl rfl hown hln hsz ?_; intro v' w2 hown2 hb2)
   rw [hex.out, HE.out] at hown2
   go_ret
   obtain ⟨A, cc, rfl, _⟩ := hown2.form
   exact ⟨A, cc, rfl, hown2, hb.trans hb2⟩
theorem join_snoc (sep x : Str) : ∀ (l : List Str), Lib.join (l ++ [x]) sep = if l = [] then x else Lib.join l sep ++ sep ++ x
 | [] => by simp [Lib.join_one]
 | [a] => by simp [join_cons2, Lib.join_one]
 | a :: b :: r => by
   have ih := join_snoc sep x (b :: r)
   rw [if_neg (by simp)] at ih
   rw [if_neg (by simp), List.cons_append, List.cons_append, join_cons2, join_cons2, ← List.cons_append, ih]; simp
theorem join_take_le (sep : Str) : ∀ (l : List Str) (k : Nat), (Lib.join (l.take k) sep).length ≤ (Lib.join l sep).length
 | [], k => by simp
 | [a], k => by
   cases k with
   | zero => simp [Lib.join_nil]
   | succ k => simp
 | a :: b :: r, k => by
   cases k with
   | zero => simp [Lib.join_nil]
   | succ k =>
     cases k with
     | zero => simp only [List.take_succ_cons, List.take_zero]; rw [Lib.join_one, join_cons2]; simp
     | succ k =>
       have ih := join_take_le sep (b :: r) (k + 1)
       simp only [List.take_succ_cons] at ih ⊢
       rw [join_cons2, join_cons2]; simp only [List.length_append]; omega
theorem rJoin_any (l : List Str) (A : Option Addr) (c base : Nat) (sep : ByteArray) (w : World) (h : Texts w base l (.slice A l.length c)) (sl : Str) (hsl : L sep = sl) (hlen : (Lib.join l sl).length ≤ 140737488355328) (hN : l.length ≤ 100000000) :
 Calls Tryz.prog 136 #[.slice A l.length c, .string sep] w fun e w' => e = .returned (.string (B (Lib.join l sl))) ∧ w = w' := by
 have HS := Lib.hid hsl
 obtain ⟨R, hR⟩ : ∃ R, Lib.join l sl = R := ⟨_, rfl⟩
 have hss : sep.size = sl.length := by rw [← hsl, size_l]
 have htl := join_take_le sl l
 rw [hR] at htl hlen ⊢
 have HR := Lib.hid hR; clear hR hsl
 have HSS := Lib.hid hss; clear hss
 have HT := Lib.hid htl; clear htl
 go_enter Tryz.func136, Tryz.ntmps136
 go_wp2
 go_loop [5, 6] (fun v i => ∃ k : Nat, ∃ p : Str, k ≤ l.length ∧ i = .int .i64 k ∧ v = .string (B p) ∧ Hid (Lib.join (l.take k) sl = p)) (fun _ i => l.length - (intOf i).toNat)
 case atStart => exact ⟨0, [], by omega, rfl, rfl, by rw [List.take_zero]; exact Lib.join_nil _⟩
 case round =>
  obtain ⟨k, p, hk, rfl, rfl, HP⟩ := hrel
  by_cases hlt : k < l.length
  ·obtain ⟨g, rfl, hg, hcl⟩ := h.at_ hlt
   have hjs := join_snoc sl l[k] (l.take k)
   have ht : l.take (k + 1) = l.take k ++ [l[k]] := List.take_succ_eq_append_getElem hlt
   rw [← ht, HP.out] at hjs
   have hle := HT.out (k + 1)
   rw [hjs] at hle
   by_cases h0 : k = 0
   ·subst h0
    have hp : p = [] := by rw [← HP.out, List.take_zero]; exact Lib.join_nil _
    subst hp
    rw [if_pos (by simp)] at hjs hle
    have HN := Lib.hid hjs; clear hjs ht
    generalize l[0] = x at *
    have hxl : x.length ≤ 140737488355328 := by omega
    clear HP
    go_wp2
    go_round
    case rel => exact ⟨1, x, by omega, by go_num, rfl, HN⟩
    case measure => simp [intOf]; omega
   ·rw [if_neg (by rw [List.take_eq_nil_iff]; rintro (h | h); · exact h0 h
                   ·rw [h] at hlt; simp at hlt)] at hjs hle
    have HN := Lib.hid hjs; clear hjs ht
    generalize l[k] = x at *
    simp only [List.length_append] at hle
    have hk0 : (0 : Int) < k := by omega
    have b1 : (B p).size + sep.size ≤ 9223372036854775807 := by rw [B_size, HSS.out]; omega
    have b2 : p.length + sep.size ≤ 9223372036854775807 := by rw [HSS.out]; omega
    have b3 : p.length + sep.size + x.length ≤ 9223372036854775807 := by rw [HSS.out]; omega
    have b4 : (B p ++ sep).size + (B x).size ≤ 9223372036854775807 := by rw [ByteArray.size_append, B_size, B_size]; omega
    clear HP hle
    go_wp2
    go_round
    case rel => exact ⟨k + 1, p ++ sl ++ x, by omega, by go_num, by rw [show B p ++ sep ++ B x = B (p ++ sl ++ x) from by rw [← B_append, ← B_append, ← HS.out, B_L]], HN⟩
    case measure => simp [intOf]; omega
  ·obtain rfl : k = l.length := by omega
   have HE : Hid (p = R) := Lib.hid (by rw [← HP.out, List.take_length, HR.out])
   go_wp2
   go_ret
   exact ⟨ret_str (by rw [HE.out]), rfl⟩
theorem texts_lit (l : List Str) (n : Nat) (hn : l.length = n) (hm : n < 1000000) (w : World) (cs : Array Value) (hc : cs = (strCells l).toArray) : Texts (w.alloc (.cells cs 9)) w.heap.size l (.slice (some ⟨w.heap.size, 0, none⟩) n n) := by
 subst hc; subst hn
 refine ⟨by rw [strCells_length]; omega, .inr ⟨w.heap.size, l.length, _, rfl, Nat.le_refl _, heap_alloc_new w _, Nat.le_refl _, by unfold maxLen; omega, ?_, ?_⟩⟩
 ·simp [strCells]
 ·simp only [List.toList_toArray, Nat.mul_one]
  rw [List.take_of_length_le (by simp [strCells])]
def idxFrom : List Str → Nat → Str → Int
 | [], _, _ => -1
 | x :: r, k, s => if x == s then (k : Int) else idxFrom r (k + 1) s
theorem idx_step {T : List Str} {k : Nat} {s : Str} (hk : k < T.length) : idxFrom (T.drop k) k s = if T[k] == s then (k : Int) else idxFrom (T.drop (k + 1)) (k + 1) s := by
 rw [List.drop_eq_getElem_cons hk, idxFrom]
theorem idx_bit (T : List Str) (s : Str) : ∀ k, (bitFrom T k s == 0) = decide (idxFrom T k s < 0) := by
 induction T with
 | nil => intro k; rfl
 | cons x r ih =>
   intro k
   unfold bitFrom idxFrom
   split
   ·have : 2 ^ k ≠ 0 := Nat.pos_iff_ne_zero.1 (Nat.pow_pos (by omega))
    rw [Bool.eq_iff_iff]; simp [this]
   ·exact ih (k + 1)
theorem beq_toList (x : Str) (s : ByteArray) : ((B x).toList == s.toList) = (x == L s) := by rw [B_toList, L_toList]
theorem rIndex_any (T : List Str) (A : Option Addr) (c base : Nat) (s : ByteArray) (w : World) (h : Texts w base T (.slice A T.length c)) (hT : T.length < 1000000) :
 Calls Tryz.prog 156 #[.slice A T.length c, .string s] w fun e w' => e = .returned (.int .i64 (idxFrom T 0 (L s))) ∧ w = w' := by
 obtain ⟨R, hR⟩ : ∃ R, idxFrom T 0 (L s) = R := ⟨_, rfl⟩
 rw [hR]
 have HR := Lib.hid hR; clear hR
 go_enter Tryz.func156, Tryz.ntmps156
 go_wp2
 go_loop [5] (fun i => ∃ k : Nat, k ≤ T.length ∧ i = .int .i64 k ∧ Hid (idxFrom (T.drop k) k (L s) = R)) (fun i => T.length - (intOf i).toNat)
 case atStart => exact ⟨0, by omega, rfl, by rw [List.drop_zero]; exact HR⟩
 case round =>
  obtain ⟨k, hk, rfl, HD⟩ := hrel
  by_cases hlt : k < T.length
  ·obtain ⟨g, rfl, hg, hcl⟩ := h.at_ hlt
   have hst := idx_step (s := L s) hlt
   rw [HD.out] at hst
   have hbe := beq_toList T[k] s
   cases hc : (T[k] == L s)
   ·rw [hc] at hst hbe
    rw [B_toList] at hbe
    have HN : Hid (idxFrom (T.drop (k + 1)) (k + 1) (L s) = R) := Lib.hid (by rw [hst]; rfl)
    clear hst hc
    generalize T[k] = x at *
    go_wp2
    go_round
    case rel => exact ⟨k + 1, by omega, by go_num, HN⟩
    case measure => simp [intOf]; omega
   ·rw [hc] at hst hbe
    rw [B_toList] at hbe
    have HN : Hid (R = k) := Lib.hid (by rw [hst]; rfl)
    clear hst hc
    generalize T[k] = x at *
    go_wp2
    go_ret
    exact ⟨ret_int HN.out.symm, rfl⟩
  ·obtain rfl : k = T.length := by omega
   have HE : Hid (R = -1) := Lib.hid (by rw [← HD.out, List.drop_length]; rfl)
   go_wp2
   go_ret
   exact ⟨ret_int HE.out.symm, rfl⟩
theorem rSuper_any (w : World) : Calls Tryz.prog 157 #[] w (RetTexts w superT) := by
 go_enter Tryz.func157, Tryz.ntmps157
 go_wp2
 go_ret
 exact ⟨_, _, rfl, texts_lit superT _ rfl (by decide) w _ rfl, (Below.refl _ _).alloc (Nat.le_refl _) _⟩
theorem rType_any (w : World) : Calls Tryz.prog 158 #[] w (RetTexts w typeT) := by
 go_enter Tryz.func158, Tryz.ntmps158
 go_wp2
 go_ret
 exact ⟨_, _, rfl, texts_lit typeT _ rfl (by decide) w _ rfl, (Below.refl _ _).alloc (Nat.le_refl _) _⟩
theorem rIsSub_any (s : ByteArray) (w : World) :
 Calls Tryz.prog 106 #[.string s] w fun e w' => e = .returned (.bool (isSub (L s))) ∧ Below w.heap.size w w' := by
 have HD : Hid (isSub (L s) = (isName (L s) && (decide (idxFrom superT 0 (L s) < 0) && decide (idxFrom typeT 0 (L s) < 0)))) := Lib.hid (by unfold isSub; rw [idx_bit, idx_bit])
 generalize isSub (L s) = R at *
 generalize hi : idxFrom superT 0 (L s) = i1 at *
 generalize hj : idxFrom typeT 0 (L s) = i2 at *
 have Hi := Lib.hid hi; have Hj := Lib.hid hj; clear hi hj
 go_enter Tryz.func106, Tryz.ntmps106
 go_wp2_with (first | (go_at_call 33; (with_reducible refine (rWordIs_any _ _).mono ?_); rintro e w1 ⟨rfl, rfl⟩) | (go_at_call 157; (with_reducible refine (rSuper_any _).mono ?_); rintro e w2 ⟨A, c, rfl, ht, hb1⟩) | (go_at_call 158; (with_reducible refine (rType_any _).mono ?_); rintro e w3 ⟨A2, c2, rfl, ht2, hb2⟩) | (go_at_call 156; (with_reducible refine (rIndex_any superT _ _ _ _ _ ht (by decide)).mono ?_); rw [Hi.out]; rintro e w4 ⟨rfl, rfl⟩) | (go_at_call 156; (with_reducible refine (rIndex_any typeT _ _ _ _ _ ht2 (by decide)).mono ?_); rw [Hj.out]; rintro e w5 ⟨rfl, rfl⟩))
 all_goals
  go_ret
  refine ⟨ret_bool ?_, ?_⟩
  ·rw [HD.out]; simp [*] <;> omega
  ·first | exact Below.refl _ _ | exact below_two hb1 hb2 | exact hb1
theorem rBit_any (m i : Nat) (w : World) (hm : m < 2 ^ 31) (hi : i < 100) :
 Calls Tryz.prog 237 #[.int .i64 m, .int .i64 i] w fun e w' => e = .returned (.bool (m.testBit i)) ∧ w = w' := by
 have HB : Hid (m.testBit i = decide (m / 2 ^ i % 2 = 1)) := Lib.hid Nat.testBit_eq_decide_div_mod_eq
 generalize m.testBit i = R at *
 go_enter Tryz.func237, Tryz.ntmps237
 go_wp2
 go_loop [0, 5] (fun v k => ∃ j n : Nat, j ≤ i ∧ n < 2 ^ 31 ∧ k = .int .i64 j ∧ v = .int .i64 n ∧ Hid (m / 2 ^ j = n)) (fun _ k => i - (intOf k).toNat)
 case atStart => exact ⟨0, m, by omega, hm, rfl, rfl, by simp [Hid]⟩
 case round =>
  obtain ⟨j, n, hj, hn, rfl, rfl, HN⟩ := hrel
  by_cases hlt : j < i
  ·have HX : Hid (m / 2 ^ (j + 1) = n / 2) := Lib.hid (by rw [Nat.pow_succ, ← Nat.div_div_eq_div_mul, HN.out])
   go_wp2
   go_round
   case rel => exact ⟨j + 1, n / 2, by omega, by omega, by go_num, by go_num, HX⟩
   case measure => simp [intOf]; omega
  ·obtain rfl : j = i := by omega
   have HE : Hid (R = decide (n % 2 = 1)) := Lib.hid (by rw [HB.out, HN.out])
   go_wp2
   go_ret
   exact ⟨ret_bool (by rw [HE.out, Bool.eq_iff_iff]; simp; omega), rfl⟩
def jBits (T : List Str) (m : Nat) (sep : Str) : Nat → Str
 | 0 => []
 | k + 1 => if m.testBit k then (if jBits T m sep k = [] then T.getD k [] else jBits T m sep k ++ sep ++ T.getD k []) else jBits T m sep k
theorem jBits_len (T : List Str) (m : Nat) (sep : Str) (hT : ∀ x ∈ T, x.length ≤ 100) (hs : sep.length ≤ 100) : ∀ k, (jBits T m sep k).length ≤ 200 * k
 | 0 => by simp [jBits]
 | k + 1 => by
   have ih := jBits_len T m sep hT hs k
   have hw := wd_len hT k
   unfold wd at hw
   rw [jBits]; split
   ·split
    ·omega
    ·simp only [List.length_append]; omega
   ·omega
theorem rJoined_any (T : List Str) (A : Option Addr) (c base m : Nat) (sep : ByteArray) (sl : Str) (hsl : L sep = sl) (w : World) (h : Texts w base T (.slice A T.length c)) (hm : m < 2 ^ 31) (hT : T.length ≤ 31) (hw : ∀ x ∈ T, x.length ≤ 100) (hss : sl.length ≤ 100) :
 Calls Tryz.prog 202 #[.slice A T.length c, .int .i64 m, .string sep] w fun e w' => e = .returned (.string (B (jBits T m sl T.length))) ∧ w = w' := by
 subst hsl
 have hsz : sep.size ≤ 100 := by rw [size_l] at hss; exact hss
 have HJ := Lib.hid (jBits_len T m (L sep) hw hss)
 obtain ⟨R, hR⟩ : ∃ R, jBits T m (L sep) T.length = R := ⟨_, rfl⟩
 rw [hR]
 have HR := Lib.hid hR
 have HW := Lib.hid hw
 clear hR hw hss
 go_enter Tryz.func202, Tryz.ntmps202
 go_wp2
 go_loop [7, 8] (fun v i => ∃ k : Nat, ∃ p : Str, k ≤ T.length ∧ i = .int .i64 k ∧ v = .string (B p) ∧ Hid (jBits T m (L sep) k = p)) (fun _ i => T.length - (intOf i).toNat)
 case atStart => exact ⟨0, [], by omega, rfl, rfl, rfl⟩
 case round =>
  obtain ⟨k, p, hk, rfl, rfl, HP⟩ := hrel
  by_cases hlt : k < T.length
  ·obtain ⟨g, rfl, hg, hcl⟩ := h.at_ hlt
   have hst : jBits T m (L sep) (k + 1) = if m.testBit k then (if p = [] then T[k] else p ++ L sep ++ T[k]) else p := by
    rw [jBits, HP.out]; simp [List.getD, hlt]
   have hpl : p.length ≤ 10000 := by have := HJ.out k; rw [HP.out] at this; omega
   have hxl : T[k].length ≤ 100 := HW.out _ (List.getElem_mem hlt)
   cases hb : m.testBit k
   ·rw [hb] at hst
    have HN : Hid (jBits T m (L sep) (k + 1) = p) := Lib.hid (by rw [hst]; rfl)
    have HB := Lib.hid hb
    clear hst hb hcl
    go_wp2_with (go_at_call 237; (with_reducible refine (rBit_any _ _ _ hm (by omega)).mono ?_); rw [HB.out]; rintro e w1 ⟨rfl, rfl⟩)
    go_round
    case rel => exact ⟨k + 1, p, by omega, by go_num, rfl, HN⟩
    case measure => simp [intOf]; omega
   ·rw [hb] at hst
    have HB := Lib.hid hb
    clear hb
    generalize T[k] = x at *
    by_cases hp : p = []
    ·subst hp
     have HN : Hid (jBits T m (L sep) (k + 1) = x) := Lib.hid (by rw [hst]; rfl)
     clear hst
     go_wp2_with (go_at_call 237; (with_reducible refine (rBit_any _ _ _ hm (by omega)).mono ?_); rw [HB.out]; rintro e w1 ⟨rfl, rfl⟩)
     go_round
     case rel => exact ⟨k + 1, x, by omega, by go_num, rfl, HN⟩
     case measure => simp [intOf]; omega
    ·have HN : Hid (jBits T m (L sep) (k + 1) = p ++ L sep ++ x) := Lib.hid (by rw [hst, if_pos rfl, if_neg hp])
     have e1 : p.isEmpty = false := by simpa using hp
     have b1 : (B p).size + sep.size ≤ 9223372036854775807 := by rw [B_size]; omega
     have b2 : (B p ++ sep).size + (B x).size ≤ 9223372036854775807 := by rw [ByteArray.size_append, B_size, B_size]; omega
     clear hst
     go_wp2_with (go_at_call 237; (with_reducible refine (rBit_any _ _ _ hm (by omega)).mono ?_); rw [HB.out]; rintro e w1 ⟨rfl, rfl⟩)
     go_round
     case rel => exact ⟨k + 1, p ++ L sep ++ x, by omega, by go_num, by rw [show B p ++ sep ++ B x = B (p ++ L sep ++ x) from by rw [← B_append, ← B_append, B_L]], HN⟩
     case measure => simp [intOf]; omega
  ·obtain rfl : k = T.length := by omega
   have HE : Hid (p = R) := Lib.hid (by rw [← HP.out, HR.out])
   go_wp2
   go_ret
   exact ⟨ret_str (by rw [HE.out]), rfl⟩
theorem jBits_types (m : Nat) (h : 1 ≤ m) (h2 : m ≤ 63) : jBits typeT m [43] 6 = typesText m := by
 have key : ∀ m : Fin 64, 1 ≤ m.val → jBits typeT m.val [43] 6 = typesText m.val := by decide +kernel
 exact key ⟨m, by omega⟩ h
theorem rTypesText_any (m : Nat) (h1 : 1 ≤ m) (h2 : m ≤ 63) (w : World) :
 Calls Tryz.prog 161 #[.int .i64 m] w fun e w' => e = .returned (.string (B (typesText m))) ∧ Below w.heap.size w w' := by
 have HJ := Lib.hid (jBits_types m h1 h2)
 go_enter Tryz.func161, Tryz.ntmps161
 go_wp2_with (first | (go_at_call 158; (with_reducible refine (rType_any _).mono ?_); rintro e w3 ⟨A2, c2, rfl, ht2, hb2⟩) | (go_at_call 202; (with_reducible refine (rJoined_any typeT _ _ _ m _ [43] rfl _ ht2 (by omega) (by decide) (by decide) (by decide)).mono ?_); rintro e w4 ⟨rfl, rfl⟩))
 go_ret
 exact ⟨ret_str (by rw [← HJ.out]; rfl), hb2⟩
theorem rClamp_any (n : Int) (w : World) :
 Calls Tryz.prog 191 #[.int .i64 n] w fun e w' => e = .returned (.int .i64 (clampI n)) ∧ w = w' := by
 have HD : Hid (clampI n = if n < -1000000 then -1000000 else if 1000000 < n then 1000000 else n) := rfl
 generalize clampI n = R at *
 by_cases h1 : n < -1000000
 ·have h2 : ¬ 1000000 < n := by omega
  go_enter Tryz.func191, Tryz.ntmps191
  go_wp2
  go_ret
  exact ⟨ret_int (by rw [HD.out]; omega), rfl⟩
 ·by_cases h2 : 1000000 < n
  ·go_enter Tryz.func191, Tryz.ntmps191
   go_wp2
   go_ret
   exact ⟨ret_int (by rw [HD.out]; omega), rfl⟩
  ·go_enter Tryz.func191, Tryz.ntmps191
   go_wp2
   go_ret
   exact ⟨ret_int (by rw [HD.out]; omega), rfl⟩
def dgt (n : Nat) : UInt8 := UInt8.ofNat (48 + n % 10)
def dgS (n : Nat) : ByteArray := B [dgt n]
theorem conv_digit (wx : World) (n : Nat) : (convert 119 9 (.slice (some ⟨wx.heap.size, 0, none⟩) 1 1)).run Tryz.prog (wx.alloc (.cells #[.int .u8 (48 + (n : Int) % 10)] 5)) = .ok (.string (dgS n)) (wx.alloc (.cells #[.int .u8 (48 + (n : Int) % 10)] 5)) := by
 have hb : Lib.Bytes (wx.alloc (.cells #[.int .u8 (48 + (n : Int) % 10)] 5)) wx.heap.size 0 (B [dgt n]) := by
  intro i hi
  obtain rfl : i = 0 := by rw [B_size] at hi; simpa using hi
  rw [Nat.add_zero, cell_of_row _ _ 0 _ _ _ (heap_alloc_new wx _)]
  have : ((B [dgt n])[0]'hi).toNat = 48 + n % 10 := by
   rw [get_l, L_B]; show (dgt n).toNat = _
   unfold dgt
   rw [UInt8.toNat_ofNat']; omega
  rw [this]; simp
 exact Lib.run_convert_whole _ 119 5 9 Tryz.underlying119 Tryz.underlying5 Tryz.underlying9 _ 0 _ hb 1
def decPre (u : Nat) : Str := if u = 0 then [] else Lib.decDigits u
theorem decPre_first (u : Nat) : Lib.decDigits u = decPre (u / 10) ++ [dgt u] := by
 unfold decPre; rw [Lib.decDigits]; split
 ·rw [if_pos (by omega)]; unfold dgt; rw [Nat.mod_eq_of_lt (by omega)]; rfl
 ·rw [if_neg (by omega)]; rfl
theorem decPre_step {u : Nat} (h : u ≠ 0) : decPre u = decPre (u / 10) ++ [dgt u] := by
 rw [← decPre_first]; unfold decPre; rw [if_neg h]
theorem rDigits_any (u : Nat) (w : World) (hu : u < 100000000) :
 Calls Tryz.prog 164 #[.int .u64 u] w fun e w' => e = .returned (.string (B (Lib.decDigits u))) ∧ Below w.heap.size w w' := by
 have h1 : (0 : Int) ≤ u := by omega
 have h2 : (u : Int) < 100000000 := by omega
 have hcv := fun wx => conv_digit wx
 have HR := Lib.hid (decPre_first u)
 generalize Lib.decDigits u = R at *
 go_enter Tryz.func164, Tryz.ntmps164
 go_wp2
 go_loopw [0, 3] (fun v t wr => ∃ k : Nat, ∃ p : Str, k < 100000000 ∧ p.length + k ≤ 100000100 ∧ v = .int .u64 k ∧ t = .string (B p) ∧ Below w.heap.size w wr ∧ Hid (R = decPre k ++ p)) (fun v _ _ => (intOf v).toNat)
 case atStart => exact ⟨u / 10, _, by omega, by simp; omega, by go_num, rfl, (Below.refl _ _).alloc (Nat.le_refl _) _, HR⟩
 case round =>
  obtain ⟨k, p, hk, hp, rfl, rfl, hb, HP⟩ := hrel
  have hsz := hb.size
  by_cases hlt : 0 < k
  ·have HX : Hid (R = decPre (k / 10) ++ ([dgt k] ++ p)) := Lib.hid (by rw [HP.out, decPre_step (by omega), List.append_assoc])
   have b0 : (dgS k).size = 1 := by unfold dgS; rw [B_size]; rfl
   have b1 : (dgS k).size + (B p).size ≤ 9223372036854775807 := by rw [b0, B_size]; omega
   clear b0
   go_wp2
   go_roundw
   case rel => exact ⟨k / 10, [dgt k] ++ p, by omega, by simp; omega, by go_num, by rw [← B_append]; rfl, hb.alloc hsz _, HX⟩
   case measure => simp [intOf]; omega
  ·obtain rfl : k = 0 := by omega
   have HE : Hid (p = R) := Lib.hid (by rw [HP.out]; rfl)
   go_wp2
   go_ret
   exact ⟨ret_str (by rw [HE.out]), hb⟩
theorem rText_any (n : Int) (w : World) (h0 : -10000000 < n) (h1 : n < 10000000) :
 Calls Tryz.prog 111 #[.int .i64 n] w fun e w' => e = .returned (.string (B (Lib.itoa n))) ∧ Below w.heap.size w w' := by
 by_cases hn : n < 0
 ·obtain ⟨m, rfl⟩ : ∃ m : Nat, n = -(m : Int) := ⟨n.natAbs, by omega⟩
  have HI := Lib.hid (Lib.itoa_neg m (by omega))
  have hcv : IntKind.u64.wrap (-(IntKind.u64.wrap (-(m : Int)))) = (m : Int) := by simp [IntKind.wrap, IntKind.signed, IntKind.bits]; omega
  have hl := dec_len 7 m (by omega)
  generalize Lib.itoa (-(m : Int)) = R at *
  go_enter Tryz.func111, Tryz.ntmps111
  go_wp2_with (go_at_call 164; (with_reducible refine (rDigits_any m _ (by omega)).mono ?_); rintro e w1 ⟨rfl, hb⟩)
  go_ret
  exact ⟨ret_str (by rw [HI.out]; exact B_append [45] _), hb⟩
 ·obtain ⟨m, rfl⟩ : ∃ m : Nat, n = (m : Int) := ⟨n.toNat, by omega⟩
  have HI := Lib.hid (Lib.itoa_nonneg m)
  generalize Lib.itoa (m : Int) = R at *
  go_enter Tryz.func111, Tryz.ntmps111
  go_wp2_with (go_at_call 164; (with_reducible refine (rDigits_any m _ (by omega)).mono ?_); rintro e w1 ⟨rfl, hb⟩)
  go_ret
  exact ⟨ret_str (by rw [HI.out]), hb⟩
theorem drop_snoc {s : Str} {a k : Nat} (ha : a ≤ k) (h : k < s.length) : (s.take (k + 1)).drop a = (s.take k).drop a ++ [s.getD k 0] := by
 rw [take_snoc1 h, List.drop_append_of_le_length (by rw [List.length_take]; omega)]
theorem not_dig {l : Str} {a k : Nat} (ha : a ≤ k) (hk : k < l.length) (h : isDig (l.getD k 0) = false) : (l.drop a).all isDig = false := by
 cases hh : (l.drop a).all isDig with
 | false => rfl
 | true =>
   have hm : l.getD k 0 ∈ l.drop a := by
    rw [List.mem_iff_getElem]
    refine ⟨k - a, by rw [List.length_drop]; omega, ?_⟩
    rw [List.getElem_drop]; simp [List.getD, show a + (k - a) = k by omega, hk]
   rw [List.all_eq_true.1 hh _ hm] at h; cases h
def rdOf (r s : Str) (v : Int) : Option Int := if r = [] ∨ 7 < r.length ∨ r.all isDig = false then none else if clampI v = v ∧ Lib.itoa v = s then some v else none
theorem rd_neg {s : Str} (h : (byt s 0 == 45) = true) : rdNum s = rdOf (s.drop 1) s (-((decVal (s.drop 1) : Nat) : Int)) := by
 unfold rdNum rdOf; rw [h]; rfl
theorem rd_pos {s : Str} (h : (byt s 0 == 45) = false) : rdNum s = rdOf (s.drop 0) s ((decVal (s.drop 0) : Nat) : Int) := by
 unfold rdNum rdOf; rw [h, List.drop_zero]; rfl
theorem rd_none {r s : Str} {v : Int} (h : r = [] ∨ 7 < r.length ∨ r.all isDig = false) : rdOf r s v = none := if_pos h
theorem rd_some {r s : Str} {v : Int} (h : ¬ (r = [] ∨ 7 < r.length ∨ r.all isDig = false)) (h2 : clampI v = v ∧ Lib.itoa v = s) : rdOf r s v = some v := by unfold rdOf; rw [if_neg h, if_pos h2]
theorem rd_bad {r s : Str} {v : Int} (h2 : ¬ (clampI v = v ∧ Lib.itoa v = s)) : rdOf r s v = none := by
 unfold rdOf; split
 ·rfl
 ·first | rfl | rw [if_neg h2]
theorem clampI_in {v : Int} (h : clampI v = v) : -1000000 ≤ v ∧ v ≤ 1000000 := by
 unfold clampI at h; split at h
 ·omega
 ·split at h <;> omega
theorem pow10_le {j : Nat} (h : j ≤ 7) : 10 ^ j ≤ 10000000 := Nat.le_trans (Nat.pow_le_pow_right (by omega) h) (by decide)
theorem rNumber_no (s : ByteArray) (w : World) (hs : s.size < 100000000) (h0 : 0 < s.size) (hb : (((byt (L s) 0 : Nat) : Int) == 45) = false) (R : Option Int) (HD : Hid (R = rdOf ((L s).drop 0) (L s) ((decVal ((L s).drop 0) : Nat) : Int))) :
 Calls Tryz.prog 145 #[.string s] w fun e w' => e = .returned (numRet R) ∧ Below w.heap.size w w' := by
 have hg := get_l s
 have HL := Lib.hid (size_l s)
 by_cases h1 : s.size = 0
 ·have HN : Hid (R = none) := Lib.hid (by rw [HD.out]; exact rd_none (.inl (List.drop_eq_nil_of_le (by rw [HL.out]; omega))))
  have t1 := eqn s.size 0 (by omega)
  clear h1
  go_enter Tryz.func145, Tryz.ntmps145
  go_wp2
  all_goals
   go_ret2
   exact ⟨ret_val (by rw [HN.out]; rfl), Below.refl _ _⟩
 have t1 := nen s.size 0 (by omega)
 by_cases h2 : 7 < s.size
 ·have HN : Hid (R = none) := Lib.hid (by rw [HD.out]; exact rd_none (.inr (.inl (by rw [List.length_drop, HL.out]; omega))))
  have t2 : (7 : Int) < s.size := by omega
  clear h1
  go_enter Tryz.func145, Tryz.ntmps145
  go_wp2
  go_ret2
  exact ⟨ret_val (by rw [HN.out]; rfl), Below.refl _ _⟩
 have t2 : ¬ (7 : Int) < s.size := by omega
 have h1' : 0 < s.size := by omega
 clear h1
 go_enter Tryz.func145, Tryz.ntmps145
 go_wp2
 go_loop [5, 6] (fun v i => ∃ k n : Nat, 0 ≤ k ∧ k ≤ s.size ∧ n < 10 ^ (k - 0) ∧ i = .int .i64 k ∧ v = .int .i64 n ∧ Hid ((((L s).take k).drop 0).all isDig = true ∧ decVal (((L s).take k).drop 0) = n)) (fun _ i => s.size - (intOf i).toNat)
 case atStart => exact ⟨0, 0, by omega, by omega, by decide, rfl, rfl, Lib.hid ⟨by rw [List.drop_eq_nil_of_le (by rw [List.length_take]; omega)]; rfl, by rw [List.drop_eq_nil_of_le (by rw [List.length_take]; omega)]; rfl⟩⟩
 case round =>
  obtain ⟨k, n, hak, hk, hn, rfl, rfl, HK⟩ := hrel
  have hp := pow10_le (show k - 0 ≤ 7 by omega)
  by_cases hlt : k < s.size
  ·by_cases hd : (48 : Int) ≤ (byt (L s) k : Nat) ∧ ((byt (L s) k : Nat) : Int) ≤ 57
   ·obtain ⟨d1, d2⟩ := hd
    have hdig : isDig ((L s).getD k 0) = true := by
     show (decide (48 ≤ byt (L s) k) && decide (byt (L s) k ≤ 57)) = true
     rw [decide_eq_true (by omega), decide_eq_true (by omega)]; rfl
    have HX : Hid ((((L s).take (k + 1)).drop 0).all isDig = true ∧ decVal (((L s).take (k + 1)).drop 0) = n * 10 + (byt (L s) k - 48)) := Lib.hid ⟨by
     rw [drop_snoc hak (by rw [HL.out]; exact hlt), List.all_append, HK.out.1, List.all_cons, hdig]; rfl, by
     rw [drop_snoc hak (by rw [HL.out]; exact hlt), decVal_snoc, HK.out.2]; rfl⟩
    have hpw : 10 ^ (k + 1 - 0) = 10 ^ (k - 0) * 10 := by rw [show k + 1 - 0 = k - 0 + 1 by omega, Nat.pow_succ]
    have hn2 : n * 10 + (byt (L s) k - 48) < 10 ^ (k + 1 - 0) := by rw [hpw]; omega
    have hlim : n ≤ 9999999 := by omega
    have HN2 := Lib.hid hn2
    clear hdig hpw hn hp hn2
    go_wp2
    go_round
    case rel => exact ⟨k + 1, n * 10 + (byt (L s) k - 48), by omega, by omega, HN2.out, by go_num, by rw [show ((n * 10 + (byt (L s) k - 48) : Nat) : Int) = (n : Int) * 10 + (((byt (L s) k : Nat) : Int) - 48) by omega], HX⟩
    case measure => simp [intOf]; omega
   ·have HN : Hid (R = none) := Lib.hid (by
     rw [HD.out]; refine rd_none (.inr (.inr (not_dig hak (by rw [HL.out]; exact hlt) ?_)))
     show (decide (48 ≤ byt (L s) k) && decide (byt (L s) k ≤ 57)) = false
     rw [Bool.and_eq_false_iff, decide_eq_false_iff_not, decide_eq_false_iff_not]; omega)
    have hd2 : ((byt (L s) k : Nat) : Int) < 48 ∨ 57 < ((byt (L s) k : Nat) : Int) := by omega
    clear hd hn hp
    rcases hd2 with hd | hd
    all_goals
     go_wp2
     go_ret2
     exact ⟨ret_val (by rw [HN.out]; rfl), Below.refl _ _⟩
  ·obtain rfl : k = s.size := by omega
   have hT : (L s).take s.size = L s := List.take_of_length_le (by rw [HL.out]; exact Nat.le_refl _)
   have HK2 : Hid (((L s).drop 0).all isDig = true ∧ decVal ((L s).drop 0) = n) := Lib.hid (by have := HK.out; rwa [hT] at this)
   have hgood : Hid (¬ ((L s).drop 0 = [] ∨ 7 < ((L s).drop 0).length ∨ ((L s).drop 0).all isDig = false)) := Lib.hid (by
    rw [HK2.out.1, List.drop_eq_nil_iff, List.length_drop, HL.out]; intro h; rcases h with h | h | h
    ·omega
    ·omega
    ·cases h)
   have hlim : n ≤ 10000000 := by omega
   clear hT hn hp
   have HV : Hid (R = rdOf ((L s).drop 0) (L s) ((n : Nat) : Int)) := Lib.hid (by rw [HD.out, HK2.out.2])
   by_cases hc : clampI ((n : Nat) : Int) = ((n : Nat) : Int)
   ·have hin := clampI_in hc
    have HC := Lib.hid hc
    by_cases hi : Lib.itoa ((n : Nat) : Int) = L s
    ·have HN : Hid (R = some ((n : Nat) : Int)) := Lib.hid (by rw [HV.out]; exact rd_some hgood.out ⟨hc, hi⟩)
     have t3 := toList_yes hi
     clear hc hi
     obtain ⟨i1, i2⟩ := hin
     go_wp2_with (first | (go_at_call 191; (with_reducible refine (rClamp_any _ _).mono ?_); rw [HC.out]; rintro e w1 ⟨rfl, rfl⟩) | (go_at_call 111; (with_reducible refine (rText_any _ _ (by omega) (by omega)).mono ?_); rintro e w2 ⟨rfl, hb2⟩))
     go_ret2
     exact ⟨ret_val (by rw [HN.out]; rfl), hb2⟩
    ·have HN : Hid (R = none) := Lib.hid (by rw [HV.out]; exact rd_bad fun h => hi h.2)
     have t3 := toList_no hi
     clear hc hi
     obtain ⟨i1, i2⟩ := hin
     go_wp2_with (first | (go_at_call 191; (with_reducible refine (rClamp_any _ _).mono ?_); rw [HC.out]; rintro e w1 ⟨rfl, rfl⟩) | (go_at_call 111; (with_reducible refine (rText_any _ _ (by omega) (by omega)).mono ?_); rintro e w2 ⟨rfl, hb2⟩))
     go_ret2
     exact ⟨ret_val (by rw [HN.out]; rfl), hb2⟩
   ·have HN : Hid (R = none) := Lib.hid (by rw [HV.out]; exact rd_bad fun h => hc h.1)
    obtain ⟨c, hcc⟩ : ∃ c, clampI ((n : Nat) : Int) = c := ⟨_, rfl⟩
    rw [hcc] at hc
    have HC := Lib.hid hcc
    have t3 : (c != ((n : Nat) : Int)) = true := by rw [bne_iff_ne]; exact hc
    clear hc hcc
    go_wp2_with (go_at_call 191; (with_reducible refine (rClamp_any _ _).mono ?_); rw [HC.out]; rintro e w1 ⟨rfl, rfl⟩)
    go_ret2
    exact ⟨ret_val (by rw [HN.out]; rfl), Below.refl _ _⟩
theorem rNumber_yes (s : ByteArray) (w : World) (hs : s.size < 100000000) (h0 : 0 < s.size) (hb : (((byt (L s) 0 : Nat) : Int) == 45) = true) (R : Option Int) (HD : Hid (R = rdOf ((L s).drop 1) (L s) (-((decVal ((L s).drop 1) : Nat) : Int)))) :
 Calls Tryz.prog 145 #[.string s] w fun e w' => e = .returned (numRet R) ∧ Below w.heap.size w w' := by
 have hg := get_l s
 have HL := Lib.hid (size_l s)
 by_cases h1 : s.size = 1
 ·have HN : Hid (R = none) := Lib.hid (by rw [HD.out]; exact rd_none (.inl (List.drop_eq_nil_of_le (by rw [HL.out]; omega))))
  have t1 := eqn s.size 1 (by omega)
  clear h1
  go_enter Tryz.func145, Tryz.ntmps145
  go_wp2
  all_goals
   go_ret2
   exact ⟨ret_val (by rw [HN.out]; rfl), Below.refl _ _⟩
 have t1 := nen s.size 1 (by omega)
 by_cases h2 : 8 < s.size
 ·have HN : Hid (R = none) := Lib.hid (by rw [HD.out]; exact rd_none (.inr (.inl (by rw [List.length_drop, HL.out]; omega))))
  have t2 : (8 : Int) < s.size := by omega
  clear h1
  go_enter Tryz.func145, Tryz.ntmps145
  go_wp2
  go_ret2
  exact ⟨ret_val (by rw [HN.out]; rfl), Below.refl _ _⟩
 have t2 : ¬ (8 : Int) < s.size := by omega
 have h1' : 1 < s.size := by omega
 clear h1
 go_enter Tryz.func145, Tryz.ntmps145
 go_wp2
 go_loop [5, 6] (fun v i => ∃ k n : Nat, 1 ≤ k ∧ k ≤ s.size ∧ n < 10 ^ (k - 1) ∧ i = .int .i64 k ∧ v = .int .i64 n ∧ Hid ((((L s).take k).drop 1).all isDig = true ∧ decVal (((L s).take k).drop 1) = n)) (fun _ i => s.size - (intOf i).toNat)
 case atStart => exact ⟨1, 0, by omega, by omega, by decide, rfl, rfl, Lib.hid ⟨by rw [List.drop_eq_nil_of_le (by rw [List.length_take]; omega)]; rfl, by rw [List.drop_eq_nil_of_le (by rw [List.length_take]; omega)]; rfl⟩⟩
 case round =>
  obtain ⟨k, n, hak, hk, hn, rfl, rfl, HK⟩ := hrel
  have hp := pow10_le (show k - 1 ≤ 7 by omega)
  by_cases hlt : k < s.size
  ·by_cases hd : (48 : Int) ≤ (byt (L s) k : Nat) ∧ ((byt (L s) k : Nat) : Int) ≤ 57
   ·obtain ⟨d1, d2⟩ := hd
    have hdig : isDig ((L s).getD k 0) = true := by
     show (decide (48 ≤ byt (L s) k) && decide (byt (L s) k ≤ 57)) = true
     rw [decide_eq_true (by omega), decide_eq_true (by omega)]; rfl
    have HX : Hid ((((L s).take (k + 1)).drop 1).all isDig = true ∧ decVal (((L s).take (k + 1)).drop 1) = n * 10 + (byt (L s) k - 48)) := Lib.hid ⟨by
     rw [drop_snoc hak (by rw [HL.out]; exact hlt), List.all_append, HK.out.1, List.all_cons, hdig]; rfl, by
     rw [drop_snoc hak (by rw [HL.out]; exact hlt), decVal_snoc, HK.out.2]; rfl⟩
    have hpw : 10 ^ (k + 1 - 1) = 10 ^ (k - 1) * 10 := by rw [show k + 1 - 1 = k - 1 + 1 by omega, Nat.pow_succ]
    have hn2 : n * 10 + (byt (L s) k - 48) < 10 ^ (k + 1 - 1) := by rw [hpw]; omega
    have hlim : n ≤ 9999999 := by omega
    have HN2 := Lib.hid hn2
    clear hdig hpw hn hp hn2
    go_wp2
    go_round
    case rel => exact ⟨k + 1, n * 10 + (byt (L s) k - 48), by omega, by omega, HN2.out, by go_num, by rw [show ((n * 10 + (byt (L s) k - 48) : Nat) : Int) = (n : Int) * 10 + (((byt (L s) k : Nat) : Int) - 48) by omega], HX⟩
    case measure => simp [intOf]; omega
   ·have HN : Hid (R = none) := Lib.hid (by
     rw [HD.out]; refine rd_none (.inr (.inr (not_dig hak (by rw [HL.out]; exact hlt) ?_)))
     show (decide (48 ≤ byt (L s) k) && decide (byt (L s) k ≤ 57)) = false
     rw [Bool.and_eq_false_iff, decide_eq_false_iff_not, decide_eq_false_iff_not]; omega)
    have hd2 : ((byt (L s) k : Nat) : Int) < 48 ∨ 57 < ((byt (L s) k : Nat) : Int) := by omega
    clear hd hn hp
    rcases hd2 with hd | hd
    all_goals
     go_wp2
     go_ret2
     exact ⟨ret_val (by rw [HN.out]; rfl), Below.refl _ _⟩
  ·obtain rfl : k = s.size := by omega
   have hT : (L s).take s.size = L s := List.take_of_length_le (by rw [HL.out]; exact Nat.le_refl _)
   have HK2 : Hid (((L s).drop 1).all isDig = true ∧ decVal ((L s).drop 1) = n) := Lib.hid (by have := HK.out; rwa [hT] at this)
   have hgood : Hid (¬ ((L s).drop 1 = [] ∨ 7 < ((L s).drop 1).length ∨ ((L s).drop 1).all isDig = false)) := Lib.hid (by
    rw [HK2.out.1, List.drop_eq_nil_iff, List.length_drop, HL.out]; intro h; rcases h with h | h | h
    ·omega
    ·omega
    ·cases h)
   have hlim : n ≤ 10000000 := by omega
   clear hT hn hp
   have HV : Hid (R = rdOf ((L s).drop 1) (L s) (-((n : Nat) : Int))) := Lib.hid (by rw [HD.out, HK2.out.2])
   by_cases hc : clampI (-((n : Nat) : Int)) = (-((n : Nat) : Int))
   ·have hin := clampI_in hc
    have HC := Lib.hid hc
    by_cases hi : Lib.itoa (-((n : Nat) : Int)) = L s
    ·have HN : Hid (R = some (-((n : Nat) : Int))) := Lib.hid (by rw [HV.out]; exact rd_some hgood.out ⟨hc, hi⟩)
     have t3 := toList_yes hi
     clear hc hi
     obtain ⟨i1, i2⟩ := hin
     go_wp2_with (first | (go_at_call 191; (with_reducible refine (rClamp_any _ _).mono ?_); rw [HC.out]; rintro e w1 ⟨rfl, rfl⟩) | (go_at_call 111; (with_reducible refine (rText_any _ _ (by omega) (by omega)).mono ?_); rintro e w2 ⟨rfl, hb2⟩))
     go_ret2
     exact ⟨ret_val (by rw [HN.out]; rfl), hb2⟩
    ·have HN : Hid (R = none) := Lib.hid (by rw [HV.out]; exact rd_bad fun h => hi h.2)
     have t3 := toList_no hi
     clear hc hi
     obtain ⟨i1, i2⟩ := hin
     go_wp2_with (first | (go_at_call 191; (with_reducible refine (rClamp_any _ _).mono ?_); rw [HC.out]; rintro e w1 ⟨rfl, rfl⟩) | (go_at_call 111; (with_reducible refine (rText_any _ _ (by omega) (by omega)).mono ?_); rintro e w2 ⟨rfl, hb2⟩))
     go_ret2
     exact ⟨ret_val (by rw [HN.out]; rfl), hb2⟩
   ·have HN : Hid (R = none) := Lib.hid (by rw [HV.out]; exact rd_bad fun h => hc h.1)
    obtain ⟨c, hcc⟩ : ∃ c, clampI (-((n : Nat) : Int)) = c := ⟨_, rfl⟩
    rw [hcc] at hc
    have HC := Lib.hid hcc
    have t3 : (c != (-((n : Nat) : Int))) = true := by rw [bne_iff_ne]; exact hc
    clear hc hcc
    go_wp2_with (go_at_call 191; (with_reducible refine (rClamp_any _ _).mono ?_); rw [HC.out]; rintro e w1 ⟨rfl, rfl⟩)
    go_ret2
    exact ⟨ret_val (by rw [HN.out]; rfl), Below.refl _ _⟩
theorem rNumber_any (s : ByteArray) (w : World) (hs : s.size < 100000000) :
 Calls Tryz.prog 145 #[.string s] w fun e w' => e = .returned (numRet (rdNum (L s))) ∧ Below w.heap.size w w' := by
 by_cases h0 : 0 < s.size
 ·cases hb : (byt (L s) 0 == 45)
  ·exact rNumber_no s w hs h0 (nen _ 45 (by rw [beq_eq_false_iff_ne] at hb; omega)) _ (Lib.hid (rd_pos hb))
  ·exact rNumber_yes s w hs h0 (eqn _ 45 (by rw [beq_iff_eq] at hb; omega)) _ (Lib.hid (rd_neg hb))
 ·obtain rfl : s = ByteArray.empty := ByteArray.size_eq_zero_iff.1 (by omega)
  have HN : Hid (rdNum (L ByteArray.empty) = none) := Lib.hid rfl
  generalize rdNum (L ByteArray.empty) = R at *
  go_enter Tryz.func145, Tryz.ntmps145
  go_wp2
  go_ret2
  exact ⟨ret_val (by rw [HN.out]; rfl), Below.refl _ _⟩
end Go.Proofs.YtdnnbfbhifelkaaGreatDoor
namespace Go.Proofs.YtdnnbfbhifelkaaGreatDoor
def qMask (m i : Nat) : Nat := if m.testBit i then m else m + 2 ^ i
theorem qMask_or {x i : Nat} (hx : x < 2 ^ 31) (hi : i < 31) : qMask x i = x ||| 2 ^ i := by
 unfold qMask; split
 ·rename_i h
  apply Nat.eq_of_testBit_eq; intro j
  rw [Nat.testBit_or, Nat.testBit_two_pow]
  by_cases e : i = j
  ·subst e; simp [h]
  ·simp [e]
 ·rename_i h
  have hp : 2 ^ i < 2 ^ 31 := Nat.pow_lt_pow_right (by omega) hi
  have hand : BitVec.ofNat 32 x &&& BitVec.ofNat 32 (2 ^ i) = 0#32 := by
   apply BitVec.eq_of_toNat_eq
   rw [BitVec.toNat_and, BitVec.toNat_ofNat, BitVec.toNat_ofNat, Nat.mod_eq_of_lt (by omega), Nat.mod_eq_of_lt (by omega)]
   show x &&& 2 ^ i = 0
   apply Nat.eq_of_testBit_eq; intro j
   rw [Nat.testBit_and, Nat.testBit_two_pow, Nat.zero_testBit]
   by_cases e : i = j
   ·subst e; simp [h]
   ·simp [e]
  have := congrArg BitVec.toNat (BitVec.add_eq_or_of_and_eq_zero _ _ hand)
  rw [BitVec.toNat_add, BitVec.toNat_or, BitVec.toNat_ofNat, BitVec.toNat_ofNat, Nat.mod_eq_of_lt (a := x) (by omega), Nat.mod_eq_of_lt (a := 2 ^ i) (by omega), Nat.mod_eq_of_lt (by omega)] at this
  exact this
theorem andZero (a b : Nat) (ha : a < 64) : a &&& b = 0 ↔ ∀ j, j < 6 → ¬ (a.testBit j = true ∧ b.testBit j = true) := by
 constructor
 ·intro h j _ ⟨h1, h2⟩
  have := congrArg (fun n => n.testBit j) h
  simp [h1, h2] at this
 ·intro h
  apply Nat.eq_of_testBit_eq; intro j
  rw [Nat.testBit_and, Nat.zero_testBit]
  by_cases hj : j < 6
  ·have := h j hj
   cases h1 : a.testBit j <;> cases h2 : b.testBit j <;> simp_all
  ·rw [Nat.testBit_lt_two_pow (Nat.lt_of_lt_of_le ha (show 2 ^ 6 ≤ 2 ^ j from Nat.pow_le_pow_right (by omega) (by omega)))]; rfl
theorem testBit_half (a k : Nat) : a.testBit k = decide (a / 2 ^ k % 2 = 1) := Nat.testBit_eq_decide_div_mod_eq
end Go.Proofs.YtdnnbfbhifelkaaGreatDoor
namespace Go.Proofs.YtdnnbfbhifelkaaGreatDoor
open Go.ChangeShapes Go.WideShapes Go.RowKit
theorem fBit_any (m i : Nat) (w : World) (hm : m < 2 ^ 31) (hi : i < 100) :
 Calls Tryz.prog 131 #[.int .i64 m, .int .i64 i] w fun e w' => e = .returned (.bool (m.testBit i)) ∧ w = w' := by
 have HB : Hid (m.testBit i = decide (m / 2 ^ i % 2 = 1)) := Lib.hid Nat.testBit_eq_decide_div_mod_eq
 generalize m.testBit i = R at *
 go_enter Tryz.func131, Tryz.ntmps131
 go_wp2
 go_loop [0, 5] (fun v k => ∃ j n : Nat, j ≤ i ∧ n < 2 ^ 31 ∧ k = .int .i64 j ∧ v = .int .i64 n ∧ Hid (m / 2 ^ j = n)) (fun _ k => i - (intOf k).toNat)
 case atStart => exact ⟨0, m, by omega, hm, rfl, rfl, by simp [Hid]⟩
 case round =>
  obtain ⟨j, n, hj, hn, rfl, rfl, HN⟩ := hrel
  by_cases hlt : j < i
  ·have HX : Hid (m / 2 ^ (j + 1) = n / 2) := Lib.hid (by rw [Nat.pow_succ, ← Nat.div_div_eq_div_mul, HN.out])
   go_wp2
   go_round
   case rel => exact ⟨j + 1, n / 2, by omega, by omega, by go_num, by go_num, HX⟩
   case measure => simp [intOf]; omega
  ·obtain rfl : j = i := by omega
   have HE : Hid (R = decide (n % 2 = 1)) := Lib.hid (by rw [HB.out, HN.out])
   go_wp2
   go_ret
   exact ⟨ret_bool (by rw [HE.out, Bool.eq_iff_iff]; simp; omega), rfl⟩
theorem fZones_any (w : World) : Calls Tryz.prog 126 #[] w (RetTexts w zoneT) := by
 go_enter Tryz.func126, Tryz.ntmps126
 go_wp2
 go_ret
 exact ⟨_, _, rfl, texts_lit zoneT _ rfl (by decide) w _ rfl, (Below.refl _ _).alloc (Nat.le_refl _) _⟩
theorem fWhos_any (w : World) : Calls Tryz.prog 127 #[] w (RetTexts w whoT) := by
 go_enter Tryz.func127, Tryz.ntmps127
 go_wp2
 go_ret
 exact ⟨_, _, rfl, texts_lit whoT _ rfl (by decide) w _ rfl, (Below.refl _ _).alloc (Nat.le_refl _) _⟩
theorem fSelves_any (w : World) : Calls Tryz.prog 128 #[] w (RetTexts w selfT) := by
 go_enter Tryz.func128, Tryz.ntmps128
 go_wp2
 go_ret
 exact ⟨_, _, rfl, texts_lit selfT _ rfl (by decide) w _ rfl, (Below.refl _ _).alloc (Nat.le_refl _) _⟩
theorem fTaps_any (w : World) : Calls Tryz.prog 129 #[] w (RetTexts w tapT) := by
 go_enter Tryz.func129, Tryz.ntmps129
 go_wp2
 go_ret
 exact ⟨_, _, rfl, texts_lit tapT _ rfl (by decide) w _ rfl, (Below.refl _ _).alloc (Nat.le_refl _) _⟩
theorem fSigns_any (w : World) : Calls Tryz.prog 175 #[] w (RetTexts w signT) := by
 go_enter Tryz.func175, Tryz.ntmps175
 go_wp2
 go_ret
 exact ⟨_, _, rfl, texts_lit signT _ rfl (by decide) w _ rfl, (Below.refl _ _).alloc (Nat.le_refl _) _⟩
theorem typesText_bit (i : Nat) (hi : i < 6) : typesText (2 ^ i) = wd typeT i := by
 have : ∀ i, i < 6 → typesText (2 ^ i) = wd typeT i := by decide +kernel
 exact this i hi
theorem fTypeWord_any (i : Nat) (hi : i < 6) (w : World) :
 Calls Tryz.prog 132 #[.int .i64 i] w fun e w' => e = .returned (.string (B (wd typeT i))) ∧ Below w.heap.size w w' := by
 have HT := Lib.hid (typesText_bit i hi)
 generalize wd typeT i = R at *
 go_enter Tryz.func132, Tryz.ntmps132
 go_wp2
 go_loop [3, 4] (fun v k => ∃ j n : Nat, j ≤ i ∧ n ≤ 63 ∧ k = .int .i64 j ∧ v = .int .i64 n ∧ Hid (2 ^ j = n)) (fun _ k => i - (intOf k).toNat)
 case atStart => exact ⟨0, 1, by omega, by omega, rfl, rfl, rfl⟩
 case round =>
  obtain ⟨j, n, hj, hn, rfl, rfl, HN⟩ := hrel
  by_cases hlt : j < i
  ·have HX : Hid (2 ^ (j + 1) = n * 2) := Lib.hid (by rw [Nat.pow_succ, HN.out])
   have hn2 : n * 2 ≤ 63 := by
    have h1 := HX.out
    have h2 : 2 ^ (j + 1) ≤ 2 ^ 5 := Nat.pow_le_pow_right (by omega) (by omega)
    omega
   go_wp2
   go_round
   case rel => exact ⟨j + 1, n * 2, by omega, hn2, by go_num, by go_num, HX⟩
   case measure => simp [intOf]; omega
  ·obtain rfl : j = i := by omega
   have HE : Hid (typesText n = R) := Lib.hid (by rw [← HN.out, HT.out])
   have hpos : 1 ≤ n := by have := HN.out; have h2 : 0 < 2 ^ j := Nat.pow_pos (by omega); omega
   go_wp2_with (go_at_call 161; (with_reducible refine (rTypesText_any _ hpos hn _).mono ?_); rintro e w2 ⟨rfl, hb⟩)
   go_ret
   exact ⟨ret_str (by rw [HE.out]), hb⟩
theorem fMask_any (m i : Nat) (w : World) (hm : m < 2 ^ 31) (hi : i < 31) :
 Calls Tryz.prog 232 #[.int .i64 m, .int .i64 i] w fun e w' => e = .returned (.int .i64 (qMask m i : Nat)) ∧ w = w' := by
 obtain ⟨R, hR⟩ : ∃ R, qMask m i = R := ⟨_, rfl⟩
 rw [hR]
 unfold qMask at hR
 cases hb : m.testBit i
 ·rw [hb] at hR
  have HB := Lib.hid hb
  have HR : Hid (m + 2 ^ i = R) := Lib.hid hR
  clear hb hR
  go_enter Tryz.func232, Tryz.ntmps232
  go_wp2_with (go_at_call 131; (with_reducible refine (fBit_any _ _ _ hm (by omega)).mono ?_); rw [HB.out]; rintro e w1 ⟨rfl, rfl⟩)
  go_loop [5, 6] (fun v k => ∃ j n : Nat, j ≤ i ∧ n ≤ 2147483648 ∧ k = .int .i64 j ∧ v = .int .i64 n ∧ Hid (2 ^ j = n)) (fun _ k => i - (intOf k).toNat)
  case atStart => exact ⟨0, 1, by omega, by omega, rfl, rfl, rfl⟩
  case round =>
   obtain ⟨j, n, hj, hn, rfl, rfl, HN⟩ := hrel
   by_cases hlt : j < i
   ·have HX : Hid (2 ^ (j + 1) = n * 2) := Lib.hid (by rw [Nat.pow_succ, HN.out])
    have hn2 : n * 2 ≤ 2147483648 := by
     have h1 := HX.out
     have h2 : 2 ^ (j + 1) ≤ 2 ^ 31 := Nat.pow_le_pow_right (by omega) (by omega)
     omega
    go_wp2
    go_round
    case rel => exact ⟨j + 1, n * 2, by omega, hn2, by go_num, by go_num, HX⟩
    case measure => simp [intOf]; omega
   ·obtain rfl : j = i := by omega
    have HE : Hid (m + n = R) := Lib.hid (by rw [← HN.out, HR.out])
    go_wp2
    go_ret
    exact ⟨ret_int (by rw [← HE.out]; omega), rfl⟩
 ·rw [hb] at hR
  have HB := Lib.hid hb
  have HR : Hid (m = R) := Lib.hid hR
  clear hb hR
  go_enter Tryz.func232, Tryz.ntmps232
  go_wp2_with (go_at_call 131; (with_reducible refine (fBit_any _ _ _ hm (by omega)).mono ?_); rw [HB.out]; rintro e w1 ⟨rfl, rfl⟩)
  go_ret
  exact ⟨ret_int (by rw [HR.out]), rfl⟩
theorem fBound_any (k n : Int) (w : World) :
 Calls Tryz.prog 107 #[.agg #[.int .i64 k, .int .i64 n]] w fun e w' => e = .returned (.bool (bnd k n)) ∧ Below w.heap.size w w' := by
 go_enter Tryz.func107, Tryz.ntmps107
 go_wp2
 all_goals
  go_ret
  exact ⟨ret_bool (by simp [bnd, btw, *] <;> omega), (Below.refl _ _).alloc (Nat.le_refl _) _⟩
theorem fApart_nat (a b : Nat) (m : Int) (w : World) (h1 : (a : Int) ≤ m) (h2 : (b : Int) ≤ m) (h3 : m ≤ 63) (R : Bool) (HR : Hid (R = (a &&& b == 0))) :
 Calls Tryz.prog 105 #[.int .i64 a, .int .i64 b, .int .i64 m] w fun e w' => e = .returned (.bool R) ∧ w = w' := by
 have g1 : a < 64 := by omega
 have g2 : b < 64 := by omega
 have HZ : Hid (a &&& b = 0 ↔ ∀ j, j < 6 → ¬ (a.testBit j = true ∧ b.testBit j = true)) := Lib.hid (andZero a b g1)
 go_enter Tryz.func105, Tryz.ntmps105
 go_wp2
 go_loop [0, 1, 7] (fun u v k => ∃ j n p : Nat, j ≤ 6 ∧ n < 64 ∧ p < 64 ∧ k = .int .i64 j ∧ u = .int .i64 n ∧ v = .int .i64 p ∧ Hid (a / 2 ^ j = n ∧ b / 2 ^ j = p ∧ ∀ i, i < j → ¬ (a.testBit i = true ∧ b.testBit i = true))) (fun _ _ k => 6 - (intOf k).toNat)
 case atStart => exact ⟨0, a, b, by omega, g1, g2, rfl, rfl, rfl, Lib.hid ⟨by simp, by simp, fun i hi => by omega⟩⟩
 case round =>
  obtain ⟨j, n, p, hj, hn, hp, rfl, rfl, rfl, HN⟩ := hrel
  by_cases hlt : j < 6
  ·have hstep : ¬ (n % 2 = 1 ∧ p % 2 = 1) → Hid (a / 2 ^ (j + 1) = n / 2 ∧ b / 2 ^ (j + 1) = p / 2 ∧ ∀ i, i < j + 1 → ¬ (a.testBit i = true ∧ b.testBit i = true)) := fun hh => Lib.hid ⟨by rw [Nat.pow_succ, ← Nat.div_div_eq_div_mul, HN.out.1], by rw [Nat.pow_succ, ← Nat.div_div_eq_div_mul, HN.out.2.1], fun i hi => by
    rcases Nat.lt_or_ge i j with h | h
    ·exact HN.out.2.2 i h
    ·obtain rfl : i = j := by omega
     rw [testBit_half, testBit_half, HN.out.1, HN.out.2.1]; simpa using hh⟩
   by_cases o1 : n % 2 = 1
   ·have t1 : ((n : Int) % 2 == 1) = true := by simp; omega
    by_cases o2 : p % 2 = 1
    ·have t2 : ((p : Int) % 2 == 1) = true := by simp; omega
     have HF : Hid (R = false) := Lib.hid (by
      rw [HR.out, beq_eq_false_iff_ne]; intro h
      refine (HZ.out.1 h) j hlt ?_
      rw [testBit_half, testBit_half, HN.out.1, HN.out.2.1]; simp [o1, o2])
     clear hstep o1 o2
     go_wp2
     go_ret
     exact ⟨ret_bool HF.out.symm, rfl⟩
    ·have t2 : ((p : Int) % 2 == 1) = false := by simp; omega
     have HX := hstep (by omega)
     clear hstep o1 o2
     go_wp2
     go_round
     case rel => exact ⟨j + 1, n / 2, p / 2, by omega, by omega, by omega, by go_num, by go_num, by go_num, HX⟩
     case measure => simp [intOf]; omega
   ·have t1 : ((n : Int) % 2 == 1) = false := by simp; omega
    have HX := hstep (by omega)
    clear hstep o1
    go_wp2
    go_round
    case rel => exact ⟨j + 1, n / 2, p / 2, by omega, by omega, by omega, by go_num, by go_num, by go_num, HX⟩
    case measure => simp [intOf]; omega
  ·obtain rfl : j = 6 := by omega
   have HT : Hid (R = true) := Lib.hid (by rw [HR.out, beq_iff_eq]; exact HZ.out.2 HN.out.2.2)
   go_wp2
   go_ret
   exact ⟨ret_bool HT.out.symm, rfl⟩
theorem fApart_any (a b m : Int) (w : World) (h3 : m ≤ 63) :
 Calls Tryz.prog 105 #[.int .i64 a, .int .i64 b, .int .i64 m] w fun e w' => e = .returned (.bool (okMasks a b m)) ∧ w = w' := by
 by_cases h : 0 ≤ a ∧ a ≤ m ∧ 0 ≤ b ∧ b ≤ m
 ·obtain ⟨x, rfl⟩ : ∃ x : Nat, a = (x : Int) := ⟨a.toNat, by omega⟩
  obtain ⟨y, rfl⟩ : ∃ y : Nat, b = (y : Int) := ⟨b.toNat, by omega⟩
  refine fApart_nat x y m w h.2.1 h.2.2.2 h3 _ (Lib.hid ?_)
  unfold okMasks btw
  rw [i64_and_nat x y (by omega) (by omega), decide_eq_true h.1, decide_eq_true h.2.1, decide_eq_true h.2.2.1, decide_eq_true h.2.2.2, Bool.eq_iff_iff]
  simp
 ·have hF : okMasks a b m = false := by
   cases hh : okMasks a b m with
   | false => rfl
   | true =>
     simp only [okMasks, btw, Bool.and_eq_true, decide_eq_true_eq] at hh
     exact absurd ⟨hh.1.1, hh.1.2, hh.2.1.1, hh.2.1.2⟩ h
  rw [hF]
  have hc : a < 0 ∨ (0 ≤ a ∧ m < a) ∨ (0 ≤ a ∧ a ≤ m ∧ b < 0) ∨ (0 ≤ a ∧ a ≤ m ∧ 0 ≤ b ∧ m < b) := by omega
  clear h hF
  rcases hc with h | ⟨h, h1⟩ | ⟨h, h1, h2⟩ | ⟨h, h1, h2, h4⟩
  all_goals
   go_enter Tryz.func105, Tryz.ntmps105
   go_wp2
   go_ret
   exact ⟨rfl, rfl⟩
end Go.Proofs.YtdnnbfbhifelkaaGreatDoor
namespace Go.Proofs.YtdnnbfbhifelkaaGreatDoor
def qIndex (T : List Str) (s : Str) : Nat := ((List.range' 1 (T.length - 1)).find? fun i => wd T i == s).getD 0
def qAfter (s b : Str) : Option Str := if Lib.hasPrefix s b then some (s.drop b.length) else none
def qr (w name : Str) (k : Nat) : Option (Nat × Int) := ((qAfter w (name ++ wd signT k)).bind rdNum).map fun n => (k, n)
def qRead (w name : Str) : Nat × Int := ((List.range' 1 3).findSome? (qr w name)).getD (0, 0)
def addBit (m : Int) (i : Nat) : Int := ((qMask m.toNat i : Nat) : Int)
def stType (w : Str) (f : Flt) (i : Nat) : Flt :=
 let f := if w = wd typeT i then { f with types := addBit f.types i } else f
 if w = nonW ++ wd typeT i then { f with ntypes := addBit f.ntypes i } else f
def stColor (w : Str) (f : Flt) (i : Nat) : Flt :=
 let f := if w = wd colorT i then { f with colors := addBit f.colors i } else f
 if w = nonW ++ wd colorT i then { f with ncolors := addBit f.ncolors i } else f
def stKey (w : Str) (f : Flt) (i : Nat) : Flt := if w = withW ++ wd kwT i then { f with keys := addBit f.keys i } else f
def qNamed (f : Flt) (w : Str) : Flt := (List.range 17).foldl (stKey w) ((List.range 5).foldl (stColor w) ((List.range 6).foldl (stType w) f))
def qSet (f : Flt) (zo wh se ta : Nat) (su : Option Str) (p t v : Nat × Int) : Flt :=
 let f := if 0 < zo then { f with zone := (zo : Int) } else f
 let f := if 0 < wh then { f with who := (wh : Int) } else f
 let f := if 0 < se then { f with self := (se : Int) } else f
 let f := if 0 < ta then { f with tap := (ta : Int) } else f
 let f := match su with | some t => { f with sub := B t } | none => f
 let f := if 0 < p.1 then { f with pk := (p.1 : Int), pn := p.2 } else f
 let f := if 0 < t.1 then { f with tk := (t.1 : Int), tn := t.2 } else f
 if 0 < v.1 then { f with vk := (v.1 : Int), vn := v.2 } else f
def qWord (f : Flt) (w : Str) : Flt := qNamed (qSet f (qIndex zoneT w) (qIndex whoT w) (qIndex selfT w) (qIndex tapT w) (qAfter w subW) (qRead w powerW) (qRead w toughW) (qRead w valueW)) w
end Go.Proofs.YtdnnbfbhifelkaaGreatDoor
namespace Go.Proofs.YtdnnbfbhifelkaaGreatDoor
open Go.ChangeShapes Go.WideShapes Go.RowKit
theorem fColor_any (i : Nat) (hi : i < 5) (w : World) :
 Calls Tryz.prog 133 #[.int .i64 i] w fun e w' => e = .returned (.string (B (wd colorT i))) ∧ w = w' := by
 rcases i with _ | _ | _ | _ | _ | i
 ·go_enter Tryz.func133, Tryz.ntmps133
  go_wp2
  go_ret
  exact ⟨rfl, rfl⟩
 ·go_enter Tryz.func133, Tryz.ntmps133
  go_wp2
  go_ret
  exact ⟨rfl, rfl⟩
 ·go_enter Tryz.func133, Tryz.ntmps133
  go_wp2
  go_ret
  exact ⟨rfl, rfl⟩
 ·go_enter Tryz.func133, Tryz.ntmps133
  go_wp2
  go_ret
  exact ⟨rfl, rfl⟩
 ·go_enter Tryz.func133, Tryz.ntmps133
  go_wp2
  go_ret
  exact ⟨rfl, rfl⟩
 ·omega
theorem fKeys_any (w : World) : Calls Tryz.prog 174 #[] w (RetTexts w kwT) := by
 go_enter Tryz.func174, Tryz.ntmps174
 go_wp2
 go_ret
 exact ⟨_, _, rfl, texts_lit kwT _ rfl (by decide) w _ rfl, (Below.refl _ _).alloc (Nat.le_refl _) _⟩
theorem wd_at {T : List Str} {i : Nat} (h : i < T.length) : T[i] = wd T i := by simp [wd, List.getD, h]
theorem fKey_any (i : Nat) (hi : i < 17) (w : World) :
 Calls Tryz.prog 134 #[.int .i64 i] w fun e w' => e = .returned (.string (B (wd kwT i))) ∧ Below w.heap.size w w' := by
 have hi2 : i < kwT.length := hi
 have HW := Lib.hid (wd_at hi2)
 go_enter Tryz.func134, Tryz.ntmps134
 go_wp2_with (go_at_call 174; (with_reducible refine (fKeys_any _).mono ?_); rintro e w1 ⟨A, c, rfl, ht, hb⟩; obtain ⟨g, rfl, hg, hcl⟩ := ht.at_ hi2)
 go_ret
 exact ⟨ret_str (by rw [HW.out]), hb⟩
def RetAdd (w : World) (base : Nat) (l : List Str) (e : Ending) (w' : World) : Prop := ∃ A c, e = .returned (.slice A l.length c) ∧ Texts w' base l (.slice A l.length c) ∧ Below base w w'
theorem fAdd_any (l : List Str) (A : Option Addr) (c base : Nat) (s : ByteArray) (sl : Str) (hs : L s = sl) (w : World) (h : Texts w base l (.slice A l.length c)) (hb : base ≤ w.heap.size) (hlen : l.length < 1000000) :
 Calls Tryz.prog 130 #[.slice A l.length c, .string s] w (RetAdd w base (addW l sl)) := by
 subst hs
 by_cases h0 : L s = []
 ·have t0 : s.toList = [] := by rw [L_toList]; exact h0
  have HX : Hid (addW l (L s) = l) := Lib.hid (if_pos h0)
  clear h0
  generalize addW l (L s) = R at *
  go_enter Tryz.func130, Tryz.ntmps130
  go_wp2
  go_ret
  have e := HX.out
  subst e
  exact ⟨A, c, rfl, h, Below.refl _ _⟩
 ·have t0 : s.toList.isEmpty = false := by rw [L_toList]; simpa using h0
  have t1 : ¬ s.toList = [] := by rw [L_toList]; exact h0
  have HX : Hid (addW l (L s) = l ++ [L s]) := Lib.hid (if_neg h0)
  have hln : l.length < 1000000000 := by omega
  clear h0
  generalize addW l (L s) = R at *
  go_enter Tryz.func130, Tryz.ntmps130
  go_wp2_with (at_builtin; refine wpList_text_push rfl (.tmp 8) (.tmp 10) 65 rfl Tryz.underlying65 info_str rfl rfl h hln hb ?_; intro v' w2 hown2 hb2)
  go_ret
  rw [← HX.out] at hown2
  obtain ⟨A2, c2, rfl, _⟩ := hown2.form
  exact ⟨A2, c2, rfl, hown2, hb2⟩
def BWh (w w1 : World) (k n g : Nat) (x : Str) (w' : World) : Prop := w'.cell? ⟨g, k, none⟩ = some (.string (B x)) ∧ w'.cell? ⟨w.heap.size, 0, none⟩ = some (.int .i64 k) ∧ w'.cell? ⟨w.heap.size, 1, none⟩ = some (.int .i64 n) ∧ Below w1.heap.size w1 w'
theorem BWh.out {w w1 w' : World} {k n g : Nat} {x : Str} (h : BWh w w1 k n g x w') : w'.cell? ⟨g, k, none⟩ = some (.string (B x)) ∧ w'.cell? ⟨w.heap.size, 0, none⟩ = some (.int .i64 k) ∧ w'.cell? ⟨w.heap.size, 1, none⟩ = some (.int .i64 n) ∧ Below w1.heap.size w1 w' := h
theorem BWh.below {w w1 w2 w3 : World} {k n g : Nat} {x : Str} (h : BWh w w1 k n g x w2) (hb : Below w2.heap.size w2 w3) : BWh w w1 k n g x w3 := ⟨cell_below hb h.1, cell_below hb h.2.1, cell_below hb h.2.2.1, below_two h.2.2.2 hb⟩
theorem BWh.drew {w w1 w2 : World} {k n g : Nat} {x : Str} (h : BWh w w1 k n g x w2) : BWh w w1 k n g x w2.drew := h.below (Below.refl _ _).drew
theorem fBoundW_any (name : ByteArray) (nl : Str) (hnl : L name = nl) (k n : Nat) (hk : k < 4) (hn : n ≤ 1000000) (hs : name.size ≤ 100) (w : World) :
 Calls Tryz.prog 135 #[.string name, .agg #[.int .i64 k, .int .i64 n]] w fun e w' => e = .returned (.string (B (boundW nl k n))) ∧ Below w.heap.size w w' := by
 subst hnl
 rcases Nat.eq_zero_or_pos k with h0 | h0
 ·have HD : Hid (boundW (L name) k n = []) := if_pos h0
  have t0 := eqn k 0 (by omega)
  generalize boundW (L name) k n = R at *
  clear h0
  go_enter Tryz.func135, Tryz.ntmps135
  go_wp2
  go_ret
  exact ⟨ret_str (by rw [HD.out]; rfl), (Below.refl _ _).alloc (Nat.le_refl _) _⟩
 ·have t0 := nen k 0 (by omega)
  have hk2 : k < signT.length := hk
  have HD : Hid (boundW (L name) k n = L name ++ signT[k] ++ Lib.itoa n) := Lib.hid (by rw [boundW, if_neg (by omega), wd_at hk2])
  have hwl : (signT[k]).length ≤ 2 := by rw [wd_at hk2]; exact wd_len (by decide) k
  have hil := Lib.itoa_length_le n (by omega) (by omega)
  generalize boundW (L name) k n = R at *
  clear h0
  go_enter Tryz.func135, Tryz.ntmps135
  go_wp2_with (go_at_call 175; (with_reducible refine (fSigns_any _).mono ?_); rintro e w1 ⟨A, c, rfl, ht, hb⟩; obtain ⟨g, rfl, hg, hcl⟩ := ht.at_ hk2; generalize signT[k] = x at *)
  have a1 : ∀ wx : World, (Op.stringOp .add name (B x)).run Tryz.prog wx = .ok (.string (name ++ B x)) wx := fun wx => run_string_add_sum (P := Tryz.prog) (w := wx) _ _ (by rw [B_size]; omega)
  have a2 : ∀ wx : World, (Op.stringOp .add (name ++ B x) (B (Lib.itoa n))).run Tryz.prog wx = .ok (.string (name ++ B x ++ B (Lib.itoa n))) wx := fun wx => run_string_add_sum (P := Tryz.prog) (w := wx) _ _ (by rw [ByteArray.size_append, B_size, B_size]; omega)
  have hB : BWh w w1 k n g x w1 := ⟨hcl, (kept_cells hb 0).trans (by simp), (kept_cells hb 1).trans (by simp), Below.refl _ _⟩
  go_region_held3 (fun w' => w'.cell? ⟨g, k, none⟩ = some (.string (B x)) ∧ w'.cell? ⟨w.heap.size, 0, none⟩ = some (.int .i64 k) ∧ w'.cell? ⟨w.heap.size, 1, none⟩ = some (.int .i64 n) ∧ Below w1.heap.size w1 w') (exact BWh.out (by first | assumption | exact BWh.drew hB)) (first | (go_at_call 111; (with_reducible refine ((rText_any n _ (by omega) (by omega)).mono fun e w' h => ⟨h.1, hB.drew.below h.2⟩ : Calls _ _ _ _ fun e w' => e = .returned (.string (B (Lib.itoa n))) ∧ BWh w w1 k n g x w').mono ?_); rintro e w2 ⟨rfl, hB2⟩))
  go_wp2
  go_ret
  exact ⟨ret_str (L_inj (by simp [L_append, HD.out])), below_two (below_two ((Below.refl _ _).alloc (Nat.le_refl _) _) hb) hB2.2.2.2⟩
theorem fIndex_any (T : List Str) (A : Option Addr) (c base : Nat) (s : ByteArray) (w : World) (h : Texts w base T (.slice A T.length c)) (hT : T.length < 1000000) (h1 : 1 ≤ T.length) :
 Calls Tryz.prog 194 #[.slice A T.length c, .string s] w fun e w' => e = .returned (.int .i64 (qIndex T (L s) : Nat)) ∧ w = w' := by
 obtain ⟨R, hR⟩ : ∃ R, qIndex T (L s) = R := ⟨_, rfl⟩
 rw [hR]
 have HR : Hid (((List.range' 1 (T.length - 1)).find? fun i => wd T i == L s).getD 0 = R) := Lib.hid hR
 clear hR
 go_enter Tryz.func194, Tryz.ntmps194
 go_wp2
 go_loop [5] (fun i => ∃ k : Nat, 1 ≤ k ∧ k ≤ T.length ∧ i = .int .i64 k ∧ Hid (((List.range' k (T.length - k)).find? fun i => wd T i == L s).getD 0 = R)) (fun i => T.length - (intOf i).toNat)
 case atStart => exact ⟨1, by omega, by omega, rfl, HR⟩
 case round =>
  obtain ⟨k, hk1, hk, rfl, HD⟩ := hrel
  by_cases hlt : k < T.length
  ·obtain ⟨g, rfl, hg, hcl⟩ := h.at_ hlt
   have hst := HD.out
   rw [show T.length - k = (T.length - (k + 1)) + 1 by omega, List.range'_succ, List.find?_cons, ← wd_at hlt] at hst
   have hbe := beq_toList T[k] s
   rw [B_toList] at hbe
   cases hc : (T[k] == L s)
   ·rw [hc] at hst hbe
    have HN : Hid (((List.range' (k + 1) (T.length - (k + 1))).find? fun i => wd T i == L s).getD 0 = R) := Lib.hid hst
    clear hst hc
    generalize T[k] = x at *
    go_wp2
    go_round
    case rel => exact ⟨k + 1, by omega, by omega, by go_num, HN⟩
    case measure => simp [intOf]; omega
   ·rw [hc] at hst hbe
    have HN : Hid (k = R) := Lib.hid hst
    clear hst hc
    generalize T[k] = x at *
    go_wp2
    go_ret
    exact ⟨ret_int (by rw [HN.out]), rfl⟩
  ·obtain rfl : k = T.length := by omega
   have HE : Hid (0 = R) := Lib.hid (by rw [← HD.out, Nat.sub_self]; rfl)
   go_wp2
   go_ret
   exact ⟨ret_int (by rw [← HE.out]; rfl), rfl⟩
def aftRet (o : Option Str) : Value := match o with | some r => .tuple #[.string (B r), .bool true] | none => .tuple #[.string ⟨#[]⟩, .bool false]
theorem qAfter_eq (s b : ByteArray) : qAfter (L s) (L b) = if (decide (b.size ≤ s.size) && ((s.extract 0 b.size).toList == b.toList)) = true then some ((L s).drop b.size) else none := by
 unfold qAfter; rw [Lib.hasPrefix_raw, size_l]; rfl
theorem fAfter_any (s b : ByteArray) (w : World) (hs : s.size < 1000000000) (hb : b.size < 1000000000) :
 Calls Tryz.prog 195 #[.string s, .string b] w fun e w' => e = .returned (aftRet (qAfter (L s) (L b))) ∧ w = w' := by
 have hq := qAfter_eq s b
 generalize qAfter (L s) (L b) = R at *
 by_cases h1 : b.size ≤ s.size
 ·rw [decide_eq_true h1, Bool.true_and] at hq
  have h1' : ¬ s.size < b.size := by omega
  cases h2 : ((s.extract 0 b.size).toList == b.toList)
  ·rw [h2] at hq
   have HQ : Hid (R = none) := Lib.hid hq
   have t2 : (!(s.extract 0 b.size).toList == b.toList) = true := by rw [h2]; rfl
   clear hq
   go_enter Tryz.func195, Tryz.ntmps195
   go_wp2
   go_ret2
   exact ⟨ret_val (by rw [HQ.out]; rfl), rfl⟩
  ·rw [h2] at hq
   have HQ : Hid (R = some ((L s).drop b.size)) := Lib.hid hq
   have t2 : (!(s.extract 0 b.size).toList == b.toList) = false := by rw [h2]; rfl
   have HX : Hid (s.extract b.size s.size = B ((L s).drop b.size)) := Lib.hid (L_inj (by rw [L_extract, L_B, List.take_of_length_le (by rw [size_l]; exact Nat.le_refl _)]))
   clear hq
   go_enter Tryz.func195, Tryz.ntmps195
   go_wp2
   go_ret2
   exact ⟨ret_val (by rw [HQ.out, HX.out]; rfl), rfl⟩
 ·have HQ : Hid (R = none) := Lib.hid (by rw [hq, decide_eq_false h1]; rfl)
  have h1' : s.size < b.size := by omega
  clear hq
  go_enter Tryz.func195, Tryz.ntmps195
  go_wp2
  go_ret2
  exact ⟨ret_val (by rw [HQ.out]; rfl), rfl⟩
abbrev TB : Nat := 23
theorem infoTB : (Tryz.prog.info? TB).map (·.size) = some 2 := by kernel_rfl
theorem fAfter_none (s b : ByteArray) (w : World) (hs : s.size < 1000000000) (hb : b.size < 1000000000) (h : qAfter (L s) (L b) = none) :
 Calls Tryz.prog 195 #[.string s, .string b] w fun e w' => e = .returned (.tuple #[.string ⟨#[]⟩, .bool false]) ∧ w = w' :=
 (fAfter_any s b w hs hb).mono fun e w' h' => ⟨by rw [h'.1, h]; rfl, h'.2⟩
theorem fAfter_some (s b : ByteArray) (r : Str) (w : World) (hs : s.size < 1000000000) (hb : b.size < 1000000000) (h : qAfter (L s) (L b) = some r) :
 Calls Tryz.prog 195 #[.string s, .string b] w fun e w' => e = .returned (.tuple #[.string (B r), .bool true]) ∧ w = w' :=
 (fAfter_any s b w hs hb).mono fun e w' h' => ⟨by rw [h'.1, h]; rfl, h'.2⟩
theorem rNumber_none (s : ByteArray) (w : World) (hs : s.size < 100000000) (h : rdNum (L s) = none) :
 Calls Tryz.prog 145 #[.string s] w fun e w' => e = .returned (.tuple #[.int .i64 0, .bool false]) ∧ Below w.heap.size w w' :=
 (rNumber_any s w hs).mono fun e w' h' => ⟨by rw [h'.1, h]; rfl, h'.2⟩
theorem rNumber_some (s : ByteArray) (n : Int) (w : World) (hs : s.size < 100000000) (h : rdNum (L s) = some n) :
 Calls Tryz.prog 145 #[.string s] w fun e w' => e = .returned (.tuple #[.int .i64 n, .bool true]) ∧ Below w.heap.size w w' :=
 (rNumber_any s w hs).mono fun e w' h' => ⟨by rw [h'.1, h]; rfl, h'.2⟩
def bCells (k n : Int) : Array Value := #[.int .i64 k, .int .i64 n]
def RetBnd (w : World) (x : Nat × Int) (e : Ending) (w' : World) : Prop := e = .returned (.agg (bCells (x.1 : Nat) x.2)) ∧ Below w.heap.size w w'
theorem bCells_one (k n : Int) : (bCells k n).all (·.oneCell') = true := by simp [bCells, Value.oneCell']
theorem qAfter_len {s b r : Str} (h : qAfter s b = some r) : r.length ≤ s.length := by
 unfold qAfter at h; split at h
 ·injection h with h; rw [← h]; simp
 ·cases h
theorem new_kept {w w2 : World} {o : Obj} (hb : Below (w.alloc o).heap.size (w.alloc o) w2) : w2.heap[w.heap.size]? = some o := (hb.block _ (by simp)).trans (heap_alloc_new w o)
theorem fRead_any (s name : ByteArray) (nl : Str) (hnl : L name = nl) (hs : s.size < 100000000) (hn : name.size ≤ 100) (w : World) :
 Calls Tryz.prog 196 #[.string s, .string name] w (RetBnd w (qRead (L s) nl)) := by
 subst hnl
 obtain ⟨R, hR⟩ : ∃ R, qRead (L s) (L name) = R := ⟨_, rfl⟩
 rw [hR]
 have HR : Hid (((List.range' 1 (4 - 1)).findSome? (qr (L s) (L name))).getD (0, 0) = R) := Lib.hid hR
 clear hR
 go_enter Tryz.func196, Tryz.ntmps196
 go_wp2_with (go_at_call 175; (with_reducible refine (fSigns_any _).mono ?_); rintro e w1 ⟨A, c, rfl, ht, hb1⟩)
 obtain ⟨g, rfl, _, hg, hc⟩ := own_at ht (k := 0) (by decide)
 have HC := Lib.hid hc
 have hr1 := Lib.hid (new_kept hb1)
 have hB1 : Hid (Below w.heap.size w w1) := Lib.hid (below_two ((Below.refl _ _).alloc (Nat.le_refl _) _) hb1)
 have hlt1 : w.heap.size < w1.heap.size := by have := hb1.size; simp at this; omega
 clear hc hb1 ht
 have hsl : signT.length = 4 := rfl
 have hs4 : signT.length ≤ 4 := by decide
 have HSL := Lib.hid hsl; clear hsl
 go_loopw [6] (fun i wr => ∃ k : Nat, 1 ≤ k ∧ k ≤ signT.length ∧ i = .int .i64 k ∧ Below w1.heap.size w1 wr ∧ Hid (((List.range' k (4 - k)).findSome? (qr (L s) (L name))).getD (0, 0) = R)) (fun i _ => signT.length - (intOf i).toNat)
 case atStart => exact ⟨1, by omega, by decide, rfl, Below.refl _ _, HR⟩
 case round =>
  obtain ⟨k, hk1, hk, rfl, hq, HK⟩ := hrel
  have hrr : Hid (wr.heap[w.heap.size]? = some (.cells #[.int .i64 0, .int .i64 0] TB (0, 0))) := Lib.hid ((hq.block _ hlt1).trans hr1.out)
  have hBr : Hid (Below w.heap.size w wr) := Lib.hid (hB1.out.trans (hq.mono (by omega)))
  have hwr := Nat.lt_of_lt_of_le hlt1 hq.size
  by_cases hlt : k < signT.length
  ·have hcl : wr.cell? ⟨g, k, none⟩ = some (.string (B signT[k])) := (hq.cell (p := ⟨g, k, none⟩) hg).trans ((HC.out k hlt).trans (strCells_at hlt))
   have hst : ((qr (L s) (L name) k).orElse fun _ => (List.range' (k + 1) (4 - (k + 1))).findSome? (qr (L s) (L name))).getD (0, 0) = R := by
    have := HK.out
    rw [show 4 - k = (4 - (k + 1)) + 1 by rw [HSL.out] at hlt; omega, List.range'_succ, List.findSome?_cons] at this
    cases hq : qr (L s) (L name) k with
    | none => rw [hq] at this; exact this
    | some x => rw [hq] at this; exact this
   have hqr : qr (L s) (L name) k = ((qAfter (L s) (L (name ++ B signT[k]))).bind rdNum).map fun n => (k, n) := by
    unfold qr; rw [L_append, L_B, wd_at hlt]
   have hxl : signT[k].length ≤ 2 := by rw [wd_at hlt]; exact wd_len (by decide) k
   generalize signT[k] = x at *
   have b1 : name.size + (B x).size ≤ 9223372036854775807 := by rw [B_size]; omega
   have hbn : (name ++ B x).size < 1000000000 := by rw [ByteArray.size_append, B_size]; omega
   have HBN := Lib.hid hbn
   clear hbn
   cases ha : qAfter (L s) (L (name ++ B x)) with
   | none =>
     rw [ha] at hqr
     rw [hqr] at hst
     have HA := Lib.hid ha
     have HN : Hid (((List.range' (k + 1) (4 - (k + 1))).findSome? (qr (L s) (L name))).getD (0, 0) = R) := Lib.hid hst
     clear ha hqr hst
     go_wp2_with (first | (go_at_call 195; (with_reducible refine (fAfter_none _ _ _ (by omega) HBN.out HA.out).mono ?_); rintro e w2 ⟨rfl, rfl⟩) | (go_at_call 145; (with_reducible refine (rNumber_none _ _ (by decide) rfl).mono ?_); rintro e w3 ⟨rfl, hb3⟩))
     have hq3 := below_two hq hb3
     go_roundw
     case rel => exact ⟨k + 1, by omega, by omega, by go_num, hq3, HN⟩
     case measure => simp [intOf]; omega
   | some r =>
     have hrl : r.length < 100000000 := by have := qAfter_len ha; rw [size_l] at this; omega
     rw [ha] at hqr
     have HA := Lib.hid ha
     cases hm : rdNum r with
     | none =>
       have hqr2 : qr (L s) (L name) k = none := by rw [hqr]; simp [hm]
       rw [hqr2] at hst
       have HM : Hid (rdNum (L (B r)) = none) := Lib.hid hm
       have HN : Hid (((List.range' (k + 1) (4 - (k + 1))).findSome? (qr (L s) (L name))).getD (0, 0) = R) := Lib.hid hst
       have HRL : Hid ((B r).size < 100000000) := Lib.hid (by rw [B_size]; exact hrl)
       clear ha hqr hst hqr2 hm
       go_wp2_with (first | (go_at_call 195; (with_reducible refine (fAfter_some _ _ r _ (by omega) HBN.out HA.out).mono ?_); rintro e w2 ⟨rfl, rfl⟩) | (go_at_call 145; (with_reducible refine (rNumber_none _ _ HRL.out HM.out).mono ?_); rintro e w3 ⟨rfl, hb3⟩))
       have hq3 := below_two hq hb3
       go_roundw
       case rel => exact ⟨k + 1, by omega, by omega, by go_num, hq3, HN⟩
       case measure => simp [intOf]; omega
     | some n =>
       have hqr2 : qr (L s) (L name) k = some (k, n) := by rw [hqr]; simp [hm]
       rw [hqr2] at hst
       have HM : Hid (rdNum (L (B r)) = some n) := Lib.hid hm
       have HN : Hid ((k, n) = R) := Lib.hid hst
       have HRL : Hid ((B r).size < 100000000) := Lib.hid (by rw [B_size]; exact hrl)
       clear ha hqr hst hqr2 hm
       go_wp2_with (first | (go_at_call 195; (with_reducible refine (fAfter_some _ _ r _ (by omega) HBN.out HA.out).mono ?_); rintro e w2 ⟨rfl, rfl⟩) | (go_at_call 145; (with_reducible refine (rNumber_some _ n _ HRL.out HM.out).mono ?_); rintro e w3 ⟨rfl, hb3⟩; have hr3 := Lib.hid ((hb3.block _ hwr).trans hrr.out)) | refine wpList_store_row rfl TB (.tmp 4) (.tmp 40) rfl w.heap.size (bCells k n) rfl rfl TB #[.int .i64 0, .int .i64 0] hr3 infoTB rfl (bCells_one _ _) ?_)
       refine bodyPost_ret (results_cell_row rfl _ _ w.heap.size TB (bCells k n) (0, 0) _ rfl (row_set hr3) Tryz.underlying23 rfl infoTB) rfl ⟨?_, below_setRow (below_two hBr.out hb3) (Nat.le_refl _) _⟩
       rw [← HN.out]
  ·have hk4 : k = 4 := by have := HSL.out; omega
   have HE : Hid ((0, 0) = R) := Lib.hid (by rw [← HK.out, hk4]; rfl)
   clear hk4
   go_wp2_with (refine wpList_store_row rfl TB (.tmp 4) (.tmp 41) rfl w.heap.size (bCells 0 0) rfl rfl TB #[.int .i64 0, .int .i64 0] hrr infoTB rfl (bCells_one _ _) ?_)
   refine bodyPost_ret (results_cell_row rfl _ _ w.heap.size TB (bCells 0 0) (0, 0) _ rfl (row_set hrr) Tryz.underlying23 rfl infoTB) rfl ⟨?_, below_setRow hBr.out (Nat.le_refl _) _⟩
   rw [← HE.out]; rfl
def RB (w : World) (g : Nat) (f : Flt) : Prop := w.heap[g]? = some (.cells f.cells TF (0, 0))
theorem RB.lt {w : World} {g : Nat} {f : Flt} (h : RB w g f) : g < w.heap.size := (Array.getElem?_eq_some_iff.1 h).1
theorem RB.cell {w : World} {g : Nat} {f : Flt} (h : RB w g f) (j : Nat) : w.cell? ⟨g, j, none⟩ = f.cells[j]? := cell_of_row w g j f.cells TF (0, 0) h
theorem RB.free {w : World} {g : Nat} {f : Flt} (h : RB w g f) (j : Nat) : w.frozen? ⟨g, j, none⟩ = false := by unfold RB at h; simp [World.frozen?, h]
theorem RB.set_ {w : World} {g : Nat} {f f' : Flt} (h : RB w g f) (j : Nat) (u : Value) (hf : f.cells.setIfInBounds j u = f'.cells) : RB (w.setCell ⟨g, j, none⟩ u) g f' := by
 unfold RB at *
 rw [← hf]; simp [World.setCell, Array.getElem?_modify, h]
theorem RB.below {w w' : World} {g : Nat} {f : Flt} (h : RB w g f) (hb : Below w.heap.size w w') : RB w' g f := (hb.block g h.lt).trans h
def fM (f : Flt) (a b c d e : Nat) : Flt := { f with types := (a : Int), ntypes := (b : Int), colors := (c : Int), ncolors := (d : Int), keys := (e : Int) }
theorem qMask_lt {m i : Nat} (hm : m < 2 ^ 17) (hi : i < 17) : qMask m i < 2 ^ 17 := by
 rw [qMask_or (Nat.lt_of_lt_of_le hm (by decide)) (by omega)]
 exact Nat.or_lt_two_pow hm (Nat.pow_lt_pow_right (by omega) hi)
theorem foldl_range_succ {α : Type} (st : α → Nat → α) (f : α) (k : Nat) : (List.range (k + 1)).foldl st f = st ((List.range k).foldl st f) k := by
 rw [List.range_succ, List.foldl_append]; rfl
theorem beq_app (s : ByteArray) (p : ByteArray) (pl x : Str) (hp : L p = pl) : (s.toList == (p ++ B x).toList) = decide (L s = pl ++ x) := by
 subst hp; rw [L_toList, L_toList, L_append, L_B, Bool.eq_iff_iff]; simp
theorem beq_w (s : ByteArray) (x : Str) : (s.toList == x) = decide (L s = x) := by rw [L_toList, Bool.eq_iff_iff]; simp
def RetFlt (f : Flt) (w : World) (Q : Flt) (e : Ending) (w' : World) : Prop := e = .returned (.agg Q.cells) ∧ Below w.heap.size w w' ∧ ∃ a2 b2 c2 d2 e2, Q = fM f a2 b2 c2 d2 e2 ∧ a2 < 2 ^ 17 ∧ b2 < 2 ^ 17 ∧ c2 < 2 ^ 17 ∧ d2 < 2 ^ 17 ∧ e2 < 2 ^ 17
theorem fNamed_any (s : ByteArray) (f : Flt) (a b c d e : Nat) (ha : a < 2 ^ 17) (hb : b < 2 ^ 17) (hc : c < 2 ^ 17) (hd : d < 2 ^ 17) (he : e < 2 ^ 17) (hs : s.size < 100000000) (w : World) :
 Calls Tryz.prog 197 #[.agg (fM f a b c d e).cells, .string s] w (RetFlt f w (qNamed (fM f a b c d e) (L s))) := by
 have W0 : RB ((w.alloc (.cells (fM f a b c d e).cells TF)).alloc (.cells zeroF.cells TF)) w.heap.size (fM f a b c d e) := by
  unfold RB; rw [Below.heap_alloc _ _ _ (by simp)]; exact heap_alloc_new w _
 have HZ : Hid (((w.alloc (.cells (fM f a b c d e).cells TF)).alloc (.cells zeroF.cells TF)).heap[w.heap.size + 1]? = some (.cells zeroF.cells TF (0, 0)) ∧ w.heap.size + 1 < ((w.alloc (.cells (fM f a b c d e).cells TF)).alloc (.cells zeroF.cells TF)).heap.size) := Lib.hid ⟨by have := heap_alloc_new (w.alloc (.cells (fM f a b c d e).cells TF)) (.cells zeroF.cells TF); simpa using this, by simp⟩
 have HB1 : Hid (Below w.heap.size w ((w.alloc (.cells (fM f a b c d e).cells TF)).alloc (.cells zeroF.cells TF))) := Lib.hid (((Below.refl _ _).alloc (Nat.le_refl _) _).alloc (by simp) _)
 have HW := Lib.hid W0
 clear W0
 obtain ⟨Q, hQ⟩ : ∃ q, qNamed (fM f a b c d e) (L s) = q := ⟨_, rfl⟩
 rw [hQ]
 have HQ := Lib.hid hQ
 clear hQ
 go_enter Tryz.func197, Tryz.ntmps197
 go_wp2_with fail
 have R0 := HW.out
 obtain ⟨W1, hW1⟩ : ∃ W, (w.alloc (.cells (fM f a b c d e).cells TF)).alloc (.cells zeroF.cells TF) = W := ⟨_, rfl⟩
 rw [hW1] at R0 HZ HB1
 change Code.wp _ _ _ _ ((w.alloc (.cells (fM f a b c d e).cells TF)).alloc (.cells zeroF.cells TF))
 rw [hW1]
 have F0 : Fr w.heap.size w.heap.size W1 W1 := Fr.refl _ _ _
 clear hW1 HW
 go_loopw [5] (fun i wr => ∃ k x y : Nat, k ≤ 6 ∧ x < 2 ^ 17 ∧ y < 2 ^ 17 ∧ i = .int .i64 k ∧ RB wr w.heap.size (fM f x y c d e) ∧ Fr w.heap.size w.heap.size W1 wr ∧ Hid ((List.range k).foldl (stType (L s)) (fM f a b c d e) = fM f x y c d e)) (fun i _ => 6 - (intOf i).toNat)
 case atStart => exact ⟨0, a, b, by omega, ha, hb, rfl, R0, F0, rfl⟩
 case round =>
  clear R0 F0
  obtain ⟨k, x, y, hk, hx, hy, rfl, R1, F1, HK⟩ := hrel
  have hgw := R1.lt
  have hgl := Nat.le_of_lt hgw
  by_cases hlt : k < 6
  ·have hst : (List.range (k + 1)).foldl (stType (L s)) (fM f a b c d e) = stType (L s) (fM f x y c d e) k := by rw [foldl_range_succ, HK.out]
   have hxl := wd_len (T := typeT) (K := 20) (by decide) k
   have qx := qMask_lt (i := k) hx (by omega)
   have hx31 : x < 2 ^ 31 := Nat.lt_of_lt_of_le hx (by decide)
   have qy := qMask_lt (i := k) hy (by omega)
   have hy31 : y < 2 ^ 31 := Nat.lt_of_lt_of_le hy (by decide)
   have hpx : (⟨#[110, 111, 110, 45]⟩ : ByteArray).size + (B (wd typeT k)).size ≤ 9223372036854775807 := by rw [B_size]; show 4 + _ ≤ _; omega
   by_cases hX : L s = wd typeT k
   ·have t1 : (s.toList == wd typeT k) = true := by rw [beq_w]; exact decide_eq_true hX
    have HX := Lib.hid hX; clear hX
    by_cases hY : L s = nonW ++ wd typeT k
    ·have t2 : (s.toList == (⟨#[110, 111, 110, 45]⟩ ++ B (wd typeT k)).toList) = true := by rw [beq_app s _ nonW _ rfl]; exact decide_eq_true hY
     have HN : Hid ((List.range (k + 1)).foldl (stType (L s)) (fM f a b c d e) = fM f (qMask x k) (qMask y k) c d e) := Lib.hid (by rw [hst]; simp only [stType, if_pos HX.out, if_pos hY]; try rfl)
     clear hst hY
     go_wp2_with fail
     refine (fTypeWord_any k hlt _).mono ?_
     rintro e0 w2 ⟨rfl, hb2⟩
     have R2 := R1.below hb2
     have F2 := F1.trans (Fr.of hb2 hgl)
     have cA : World.cell? _ ⟨w.heap.size, 3, none⟩ = some (.int .i64 ((x : Nat) : Int)) := R2.cell 3
     have zA := R2.free 3
     dsimp only
     go_wp2_with (go_at_call 232; (with_reducible refine (fMask_any x k _ hx31 (by omega)).mono ?_); rintro e0 wm ⟨rfl, rfl⟩)
     have R3 := R2.set_ 3 (.int .i64 ((qMask x k : Nat) : Int)) (f' := fM f (qMask x k) y c d e) rfl
     have F3 := F2.setCell (o := 3) (Nat.le_refl _) (.int .i64 ((qMask x k : Nat) : Int))
     have hg3 := Nat.le_of_lt R3.lt
     refine (fTypeWord_any k hlt _).mono ?_
     rintro e0 w4 ⟨rfl, hb4⟩
     have R4 := R3.below hb4
     have F4 := F3.trans (Fr.of hb4 hg3)
     clear cA zA
     have cB : World.cell? _ ⟨w.heap.size, 4, none⟩ = some (.int .i64 ((y : Nat) : Int)) := R4.cell 4
     have zB := R4.free 4
     dsimp only
     go_wp2_with (go_at_call 232; (with_reducible refine (fMask_any y k _ hy31 (by omega)).mono ?_); rintro e0 wm ⟨rfl, rfl⟩)
     have R5 := R4.set_ 4 (.int .i64 ((qMask y k : Nat) : Int)) (f' := fM f (qMask x k) (qMask y k) c d e) rfl
     have F5 := F4.setCell (o := 4) (Nat.le_refl _) (.int .i64 ((qMask y k : Nat) : Int))
     clear cB zB R4 F4
     go_roundw
     case rel => exact ⟨k + 1, qMask x k, qMask y k, by omega, qx, qy, by go_num, R5, F5, HN⟩
     case measure => simp [intOf]; omega
    ·have t2 : (s.toList == (⟨#[110, 111, 110, 45]⟩ ++ B (wd typeT k)).toList) = false := by rw [beq_app s _ nonW _ rfl]; exact decide_eq_false hY
     have HN : Hid ((List.range (k + 1)).foldl (stType (L s)) (fM f a b c d e) = fM f (qMask x k) y c d e) := Lib.hid (by rw [hst]; simp only [stType, if_pos HX.out, if_neg hY]; try rfl)
     clear hst hY
     go_wp2_with fail
     refine (fTypeWord_any k hlt _).mono ?_
     rintro e0 w2 ⟨rfl, hb2⟩
     have R2 := R1.below hb2
     have F2 := F1.trans (Fr.of hb2 hgl)
     have cA : World.cell? _ ⟨w.heap.size, 3, none⟩ = some (.int .i64 ((x : Nat) : Int)) := R2.cell 3
     have zA := R2.free 3
     dsimp only
     go_wp2_with (go_at_call 232; (with_reducible refine (fMask_any x k _ hx31 (by omega)).mono ?_); rintro e0 wm ⟨rfl, rfl⟩)
     have R3 := R2.set_ 3 (.int .i64 ((qMask x k : Nat) : Int)) (f' := fM f (qMask x k) y c d e) rfl
     have F3 := F2.setCell (o := 3) (Nat.le_refl _) (.int .i64 ((qMask x k : Nat) : Int))
     have hg3 := Nat.le_of_lt R3.lt
     refine (fTypeWord_any k hlt _).mono ?_
     rintro e0 w4 ⟨rfl, hb4⟩
     have R4 := R3.below hb4
     have F4 := F3.trans (Fr.of hb4 hg3)
     clear cA zA
     have cB : World.cell? _ ⟨w.heap.size, 4, none⟩ = some (.int .i64 ((y : Nat) : Int)) := R4.cell 4
     have zB := R4.free 4
     dsimp only
     go_wp2_with (go_at_call 232; (with_reducible refine (fMask_any y k _ hy31 (by omega)).mono ?_); rintro e0 wm ⟨rfl, rfl⟩)
     have R5 := R4
     have F5 := F4
     clear cB zB R4 F4
     go_roundw
     case rel => exact ⟨k + 1, qMask x k, y, by omega, qx, hy, by go_num, R5, F5, HN⟩
     case measure => simp [intOf]; omega
   ·have t1 : (s.toList == wd typeT k) = false := by rw [beq_w]; exact decide_eq_false hX
    have HX := Lib.hid hX; clear hX
    by_cases hY : L s = nonW ++ wd typeT k
    ·have t2 : (s.toList == (⟨#[110, 111, 110, 45]⟩ ++ B (wd typeT k)).toList) = true := by rw [beq_app s _ nonW _ rfl]; exact decide_eq_true hY
     have HN : Hid ((List.range (k + 1)).foldl (stType (L s)) (fM f a b c d e) = fM f x (qMask y k) c d e) := Lib.hid (by rw [hst]; simp only [stType, if_neg HX.out, if_pos hY]; try rfl)
     clear hst hY
     go_wp2_with fail
     refine (fTypeWord_any k hlt _).mono ?_
     rintro e0 w2 ⟨rfl, hb2⟩
     have R2 := R1.below hb2
     have F2 := F1.trans (Fr.of hb2 hgl)
     have cA : World.cell? _ ⟨w.heap.size, 3, none⟩ = some (.int .i64 ((x : Nat) : Int)) := R2.cell 3
     have zA := R2.free 3
     dsimp only
     go_wp2_with (go_at_call 232; (with_reducible refine (fMask_any x k _ hx31 (by omega)).mono ?_); rintro e0 wm ⟨rfl, rfl⟩)
     have hg3 := Nat.le_of_lt R2.lt
     refine (fTypeWord_any k hlt _).mono ?_
     rintro e0 w4 ⟨rfl, hb4⟩
     have R4 := R2.below hb4
     have F4 := F2.trans (Fr.of hb4 hg3)
     clear cA zA
     have cB : World.cell? _ ⟨w.heap.size, 4, none⟩ = some (.int .i64 ((y : Nat) : Int)) := R4.cell 4
     have zB := R4.free 4
     dsimp only
     go_wp2_with (go_at_call 232; (with_reducible refine (fMask_any y k _ hy31 (by omega)).mono ?_); rintro e0 wm ⟨rfl, rfl⟩)
     have R5 := R4.set_ 4 (.int .i64 ((qMask y k : Nat) : Int)) (f' := fM f x (qMask y k) c d e) rfl
     have F5 := F4.setCell (o := 4) (Nat.le_refl _) (.int .i64 ((qMask y k : Nat) : Int))
     clear cB zB R4 F4
     go_roundw
     case rel => exact ⟨k + 1, x, qMask y k, by omega, hx, qy, by go_num, R5, F5, HN⟩
     case measure => simp [intOf]; omega
    ·have t2 : (s.toList == (⟨#[110, 111, 110, 45]⟩ ++ B (wd typeT k)).toList) = false := by rw [beq_app s _ nonW _ rfl]; exact decide_eq_false hY
     have HN : Hid ((List.range (k + 1)).foldl (stType (L s)) (fM f a b c d e) = fM f x y c d e) := Lib.hid (by rw [hst]; simp only [stType, if_neg HX.out, if_neg hY]; try rfl)
     clear hst hY
     go_wp2_with fail
     refine (fTypeWord_any k hlt _).mono ?_
     rintro e0 w2 ⟨rfl, hb2⟩
     have R2 := R1.below hb2
     have F2 := F1.trans (Fr.of hb2 hgl)
     have cA : World.cell? _ ⟨w.heap.size, 3, none⟩ = some (.int .i64 ((x : Nat) : Int)) := R2.cell 3
     have zA := R2.free 3
     dsimp only
     go_wp2_with (go_at_call 232; (with_reducible refine (fMask_any x k _ hx31 (by omega)).mono ?_); rintro e0 wm ⟨rfl, rfl⟩)
     have hg3 := Nat.le_of_lt R2.lt
     refine (fTypeWord_any k hlt _).mono ?_
     rintro e0 w4 ⟨rfl, hb4⟩
     have R4 := R2.below hb4
     have F4 := F2.trans (Fr.of hb4 hg3)
     clear cA zA
     have cB : World.cell? _ ⟨w.heap.size, 4, none⟩ = some (.int .i64 ((y : Nat) : Int)) := R4.cell 4
     have zB := R4.free 4
     dsimp only
     go_wp2_with (go_at_call 232; (with_reducible refine (fMask_any y k _ hy31 (by omega)).mono ?_); rintro e0 wm ⟨rfl, rfl⟩)
     have R5 := R4
     have F5 := F4
     clear cB zB R4 F4
     go_roundw
     case rel => exact ⟨k + 1, x, y, by omega, hx, hy, by go_num, R5, F5, HN⟩
     case measure => simp [intOf]; omega
  ·have HKN : Hid (k = 6) := Lib.hid (by omega)
   have HK2 : Hid ((List.range 6).foldl (stType (L s)) (fM f a b c d e) = fM f x y c d e) := Lib.hid (by rw [← HKN.out]; exact HK.out)
   have R0 := R1; have F0 := F1
   have ha2 := hx; have hb2 := hy
   clear R1 F1 HK HKN hx hy hgl hgw ha hb
   obtain ⟨a1, ea⟩ : ∃ z, x = z := ⟨_, rfl⟩
   obtain ⟨b1, eb⟩ : ∃ z, y = z := ⟨_, rfl⟩
   subst ea; subst eb
   go_wp2_with fail
   go_loopw [6] (fun i wr => ∃ k u v : Nat, k ≤ 5 ∧ u < 2 ^ 17 ∧ v < 2 ^ 17 ∧ i = .int .i64 k ∧ RB wr w.heap.size (fM f x y u v e) ∧ Fr w.heap.size w.heap.size W1 wr ∧ Hid ((List.range k).foldl (stColor (L s)) (fM f x y c d e) = fM f x y u v e)) (fun i _ => 5 - (intOf i).toNat)
   case atStart => exact ⟨0, c, d, by omega, hc, hd, rfl, R0, F0, rfl⟩
   case round =>
    clear R0 F0
    obtain ⟨k, u, v, hk, hx, hy, rfl, R1, F1, HK⟩ := hrel
    have hgw := R1.lt
    have hgl := Nat.le_of_lt hgw
    by_cases hlt : k < 5
    ·have hst : (List.range (k + 1)).foldl (stColor (L s)) (fM f x y c d e) = stColor (L s) (fM f x y u v e) k := by rw [foldl_range_succ, HK.out]
     have hxl := wd_len (T := colorT) (K := 20) (by decide) k
     have qx := qMask_lt (i := k) hx (by omega)
     have hx31 : u < 2 ^ 31 := Nat.lt_of_lt_of_le hx (by decide)
     have qy := qMask_lt (i := k) hy (by omega)
     have hy31 : v < 2 ^ 31 := Nat.lt_of_lt_of_le hy (by decide)
     have hpx : (⟨#[110, 111, 110, 45]⟩ : ByteArray).size + (B (wd colorT k)).size ≤ 9223372036854775807 := by rw [B_size]; show 4 + _ ≤ _; omega
     by_cases hX : L s = wd colorT k
     ·have t1 : (s.toList == wd colorT k) = true := by rw [beq_w]; exact decide_eq_true hX
      have HX := Lib.hid hX; clear hX
      by_cases hY : L s = nonW ++ wd colorT k
      ·have t2 : (s.toList == (⟨#[110, 111, 110, 45]⟩ ++ B (wd colorT k)).toList) = true := by rw [beq_app s _ nonW _ rfl]; exact decide_eq_true hY
       have HN : Hid ((List.range (k + 1)).foldl (stColor (L s)) (fM f x y c d e) = fM f x y (qMask u k) (qMask v k) e) := Lib.hid (by rw [hst]; simp only [stColor, if_pos HX.out, if_pos hY]; try rfl)
       clear hst hY
       go_wp2_with fail
       refine (fColor_any k hlt _).mono ?_
       rintro e0 w2 ⟨rfl, rfl⟩
       have R2 := R1
       have F2 := F1
       have cA : World.cell? _ ⟨w.heap.size, 5, none⟩ = some (.int .i64 ((u : Nat) : Int)) := R2.cell 5
       have zA := R2.free 5
       dsimp only
       go_wp2_with (go_at_call 232; (with_reducible refine (fMask_any u k _ hx31 (by omega)).mono ?_); rintro e0 wm ⟨rfl, rfl⟩)
       have R3 := R2.set_ 5 (.int .i64 ((qMask u k : Nat) : Int)) (f' := fM f x y (qMask u k) v e) rfl
       have F3 := F2.setCell (o := 5) (Nat.le_refl _) (.int .i64 ((qMask u k : Nat) : Int))
       have hg3 := Nat.le_of_lt R3.lt
       refine (fColor_any k hlt _).mono ?_
       rintro e0 w4 ⟨rfl, rfl⟩
       have R4 := R3
       have F4 := F3
       clear cA zA
       have cB : World.cell? _ ⟨w.heap.size, 6, none⟩ = some (.int .i64 ((v : Nat) : Int)) := R4.cell 6
       have zB := R4.free 6
       dsimp only
       go_wp2_with (go_at_call 232; (with_reducible refine (fMask_any v k _ hy31 (by omega)).mono ?_); rintro e0 wm ⟨rfl, rfl⟩)
       have R5 := R4.set_ 6 (.int .i64 ((qMask v k : Nat) : Int)) (f' := fM f x y (qMask u k) (qMask v k) e) rfl
       have F5 := F4.setCell (o := 6) (Nat.le_refl _) (.int .i64 ((qMask v k : Nat) : Int))
       clear cB zB R4 F4
       go_roundw
       case rel => exact ⟨k + 1, qMask u k, qMask v k, by omega, qx, qy, by go_num, R5, F5, HN⟩
       case measure => simp [intOf]; omega
      ·have t2 : (s.toList == (⟨#[110, 111, 110, 45]⟩ ++ B (wd colorT k)).toList) = false := by rw [beq_app s _ nonW _ rfl]; exact decide_eq_false hY
       have HN : Hid ((List.range (k + 1)).foldl (stColor (L s)) (fM f x y c d e) = fM f x y (qMask u k) v e) := Lib.hid (by rw [hst]; simp only [stColor, if_pos HX.out, if_neg hY]; try rfl)
       clear hst hY
       go_wp2_with fail
       refine (fColor_any k hlt _).mono ?_
       rintro e0 w2 ⟨rfl, rfl⟩
       have R2 := R1
       have F2 := F1
       have cA : World.cell? _ ⟨w.heap.size, 5, none⟩ = some (.int .i64 ((u : Nat) : Int)) := R2.cell 5
       have zA := R2.free 5
       dsimp only
       go_wp2_with (go_at_call 232; (with_reducible refine (fMask_any u k _ hx31 (by omega)).mono ?_); rintro e0 wm ⟨rfl, rfl⟩)
       have R3 := R2.set_ 5 (.int .i64 ((qMask u k : Nat) : Int)) (f' := fM f x y (qMask u k) v e) rfl
       have F3 := F2.setCell (o := 5) (Nat.le_refl _) (.int .i64 ((qMask u k : Nat) : Int))
       have hg3 := Nat.le_of_lt R3.lt
       refine (fColor_any k hlt _).mono ?_
       rintro e0 w4 ⟨rfl, rfl⟩
       have R4 := R3
       have F4 := F3
       clear cA zA
       have cB : World.cell? _ ⟨w.heap.size, 6, none⟩ = some (.int .i64 ((v : Nat) : Int)) := R4.cell 6
       have zB := R4.free 6
       dsimp only
       go_wp2_with (go_at_call 232; (with_reducible refine (fMask_any v k _ hy31 (by omega)).mono ?_); rintro e0 wm ⟨rfl, rfl⟩)
       have R5 := R4
       have F5 := F4
       clear cB zB R4 F4
       go_roundw
       case rel => exact ⟨k + 1, qMask u k, v, by omega, qx, hy, by go_num, R5, F5, HN⟩
       case measure => simp [intOf]; omega
     ·have t1 : (s.toList == wd colorT k) = false := by rw [beq_w]; exact decide_eq_false hX
      have HX := Lib.hid hX; clear hX
      by_cases hY : L s = nonW ++ wd colorT k
      ·have t2 : (s.toList == (⟨#[110, 111, 110, 45]⟩ ++ B (wd colorT k)).toList) = true := by rw [beq_app s _ nonW _ rfl]; exact decide_eq_true hY
       have HN : Hid ((List.range (k + 1)).foldl (stColor (L s)) (fM f x y c d e) = fM f x y u (qMask v k) e) := Lib.hid (by rw [hst]; simp only [stColor, if_neg HX.out, if_pos hY]; try rfl)
       clear hst hY
       go_wp2_with fail
       refine (fColor_any k hlt _).mono ?_
       rintro e0 w2 ⟨rfl, rfl⟩
       have R2 := R1
       have F2 := F1
       have cA : World.cell? _ ⟨w.heap.size, 5, none⟩ = some (.int .i64 ((u : Nat) : Int)) := R2.cell 5
       have zA := R2.free 5
       dsimp only
       go_wp2_with (go_at_call 232; (with_reducible refine (fMask_any u k _ hx31 (by omega)).mono ?_); rintro e0 wm ⟨rfl, rfl⟩)
       have hg3 := Nat.le_of_lt R2.lt
       refine (fColor_any k hlt _).mono ?_
       rintro e0 w4 ⟨rfl, rfl⟩
       have R4 := R2
       have F4 := F2
       clear cA zA
       have cB : World.cell? _ ⟨w.heap.size, 6, none⟩ = some (.int .i64 ((v : Nat) : Int)) := R4.cell 6
       have zB := R4.free 6
       dsimp only
       go_wp2_with (go_at_call 232; (with_reducible refine (fMask_any v k _ hy31 (by omega)).mono ?_); rintro e0 wm ⟨rfl, rfl⟩)
       have R5 := R4.set_ 6 (.int .i64 ((qMask v k : Nat) : Int)) (f' := fM f x y u (qMask v k) e) rfl
       have F5 := F4.setCell (o := 6) (Nat.le_refl _) (.int .i64 ((qMask v k : Nat) : Int))
       clear cB zB R4 F4
       go_roundw
       case rel => exact ⟨k + 1, u, qMask v k, by omega, hx, qy, by go_num, R5, F5, HN⟩
       case measure => simp [intOf]; omega
      ·have t2 : (s.toList == (⟨#[110, 111, 110, 45]⟩ ++ B (wd colorT k)).toList) = false := by rw [beq_app s _ nonW _ rfl]; exact decide_eq_false hY
       have HN : Hid ((List.range (k + 1)).foldl (stColor (L s)) (fM f x y c d e) = fM f x y u v e) := Lib.hid (by rw [hst]; simp only [stColor, if_neg HX.out, if_neg hY]; try rfl)
       clear hst hY
       go_wp2_with fail
       refine (fColor_any k hlt _).mono ?_
       rintro e0 w2 ⟨rfl, rfl⟩
       have R2 := R1
       have F2 := F1
       have cA : World.cell? _ ⟨w.heap.size, 5, none⟩ = some (.int .i64 ((u : Nat) : Int)) := R2.cell 5
       have zA := R2.free 5
       dsimp only
       go_wp2_with (go_at_call 232; (with_reducible refine (fMask_any u k _ hx31 (by omega)).mono ?_); rintro e0 wm ⟨rfl, rfl⟩)
       have hg3 := Nat.le_of_lt R2.lt
       refine (fColor_any k hlt _).mono ?_
       rintro e0 w4 ⟨rfl, rfl⟩
       have R4 := R2
       have F4 := F2
       clear cA zA
       have cB : World.cell? _ ⟨w.heap.size, 6, none⟩ = some (.int .i64 ((v : Nat) : Int)) := R4.cell 6
       have zB := R4.free 6
       dsimp only
       go_wp2_with (go_at_call 232; (with_reducible refine (fMask_any v k _ hy31 (by omega)).mono ?_); rintro e0 wm ⟨rfl, rfl⟩)
       have R5 := R4
       have F5 := F4
       clear cB zB R4 F4
       go_roundw
       case rel => exact ⟨k + 1, u, v, by omega, hx, hy, by go_num, R5, F5, HN⟩
       case measure => simp [intOf]; omega
    ·have HKN : Hid (k = 5) := Lib.hid (by omega)
     have HK3 : Hid ((List.range 5).foldl (stColor (L s)) (fM f x y c d e) = fM f x y u v e) := Lib.hid (by rw [← HKN.out]; exact HK.out)
     have R0 := R1; have F0 := F1
     have hc2 := hx; have hd2 := hy
     clear R1 F1 HK HKN hx hy hgl hgw hc hd
     go_wp2_with fail
     go_loopw [7] (fun i wr => ∃ k t : Nat, k ≤ 17 ∧ t < 2 ^ 17 ∧ i = .int .i64 k ∧ RB wr w.heap.size (fM f x y u v t) ∧ Fr w.heap.size w.heap.size W1 wr ∧ Hid ((List.range k).foldl (stKey (L s)) (fM f x y u v e) = fM f x y u v t)) (fun i _ => 17 - (intOf i).toNat)
     case atStart => exact ⟨0, e, by omega, he, rfl, R0, F0, rfl⟩
     case round =>
      clear R0 F0
      obtain ⟨k, t, hk, hx, rfl, R1, F1, HK⟩ := hrel
      have hgw := R1.lt
      have hgl := Nat.le_of_lt hgw
      by_cases hlt : k < 17
      ·have hst : (List.range (k + 1)).foldl (stKey (L s)) (fM f x y u v e) = stKey (L s) (fM f x y u v t) k := by rw [foldl_range_succ, HK.out]
       have hxl := wd_len (T := kwT) (K := 20) (by decide) k
       have qx := qMask_lt (i := k) hx (by omega)
       have hx31 : t < 2 ^ 31 := Nat.lt_of_lt_of_le hx (by decide)
       have hpx : (⟨#[119, 105, 116, 104, 58]⟩ : ByteArray).size + (B (wd kwT k)).size ≤ 9223372036854775807 := by rw [B_size]; show 5 + _ ≤ _; omega
       by_cases hY : L s = withW ++ wd kwT k
       ·have t2 : (s.toList == (⟨#[119, 105, 116, 104, 58]⟩ ++ B (wd kwT k)).toList) = true := by rw [beq_app s _ withW _ rfl]; exact decide_eq_true hY
        have HN : Hid ((List.range (k + 1)).foldl (stKey (L s)) (fM f x y u v e) = fM f x y u v (qMask t k)) := Lib.hid (by rw [hst]; simp only [stKey, if_pos hY]; try rfl)
        clear hst hY
        go_wp2_with fail
        refine (fKey_any k hlt _).mono ?_
        rintro e0 w4 ⟨rfl, hb4⟩
        have R4 := R1.below hb4
        have F4 := F1.trans (Fr.of hb4 hgl)
        have cB : World.cell? _ ⟨w.heap.size, 8, none⟩ = some (.int .i64 ((t : Nat) : Int)) := R4.cell 8
        have zB := R4.free 8
        dsimp only
        go_wp2_with (go_at_call 232; (with_reducible refine (fMask_any t k _ hx31 (by omega)).mono ?_); rintro e0 wm ⟨rfl, rfl⟩)
        have R5 := R4.set_ 8 (.int .i64 ((qMask t k : Nat) : Int)) (f' := fM f x y u v (qMask t k)) rfl
        have F5 := F4.setCell (o := 8) (Nat.le_refl _) (.int .i64 ((qMask t k : Nat) : Int))
        clear cB zB R4 F4
        go_roundw
        case rel => exact ⟨k + 1, qMask t k, by omega, qx, by go_num, R5, F5, HN⟩
        case measure => simp [intOf]; omega
       ·have t2 : (s.toList == (⟨#[119, 105, 116, 104, 58]⟩ ++ B (wd kwT k)).toList) = false := by rw [beq_app s _ withW _ rfl]; exact decide_eq_false hY
        have HN : Hid ((List.range (k + 1)).foldl (stKey (L s)) (fM f x y u v e) = fM f x y u v t) := Lib.hid (by rw [hst]; simp only [stKey, if_neg hY]; try rfl)
        clear hst hY
        go_wp2_with fail
        refine (fKey_any k hlt _).mono ?_
        rintro e0 w4 ⟨rfl, hb4⟩
        have R4 := R1.below hb4
        have F4 := F1.trans (Fr.of hb4 hgl)
        have cB : World.cell? _ ⟨w.heap.size, 8, none⟩ = some (.int .i64 ((t : Nat) : Int)) := R4.cell 8
        have zB := R4.free 8
        dsimp only
        go_wp2_with (go_at_call 232; (with_reducible refine (fMask_any t k _ hx31 (by omega)).mono ?_); rintro e0 wm ⟨rfl, rfl⟩)
        have R5 := R4
        have F5 := F4
        clear cB zB R4 F4
        go_roundw
        case rel => exact ⟨k + 1, t, by omega, hx, by go_num, R5, F5, HN⟩
        case measure => simp [intOf]; omega
      ·have HKN : Hid (k = 17) := Lib.hid (by omega)
       have HK4 : Hid ((List.range 17).foldl (stKey (L s)) (fM f x y u v e) = fM f x y u v t) := Lib.hid (by rw [← HKN.out]; exact HK.out)
       have HQQ : Hid (Q = fM f x y u v t) := Lib.hid (by rw [← HQ.out]; unfold qNamed; rw [HK2.out, HK3.out, HK4.out])
       have hrr : Hid (wr.heap[w.heap.size + 1]? = some (.cells zeroF.cells TF (0, 0))) := Lib.hid ((F1.keep _ HZ.out.2 (by omega)).trans HZ.out.1)
       have R1h := Lib.hid R1
       have hbW : Below w.heap.size w wr := HB1.out.trans F1.bel
       clear HQ HK hgl
       go_wp2_with (first | refine wpList_load_row rfl TF (.tmp 2) rfl w.heap.size rfl TF (fM f x y u v t).cells (0, 0) _ R1h.out Tryz.underlying25 rfl infoTF ?_ | refine wpList_store_row rfl TF (.tmp 4) (.tmp 68) rfl (w.heap.size + 1) (fM f x y u v t).cells rfl rfl TF zeroF.cells hrr.out infoTF rfl (cells_one _) ?_)
       exact bodyPost_ret (results_cell_row rfl _ _ (w.heap.size + 1) TF (fM f x y u v t).cells (0, 0) _ rfl (row_set hrr.out) Tryz.underlying25 rfl infoTF) rfl (by rw [HQQ.out]; exact ⟨rfl, below_setRow hbW (by omega) _, x, y, u, v, t, rfl, ha2, hb2, hc2, hd2, hx⟩)
theorem fRead_lit (s name : ByteArray) (nl : Str) (hnl : L name = nl) (hs : s.size < 100000000) (hn : name.size ≤ 100) (w : World) (k : Nat) (n : Int) (h : qRead (L s) nl = (k, n)) :
 Calls Tryz.prog 196 #[.string s, .string name] w fun e w' => e = .returned (.agg #[.int .i64 k, .int .i64 n]) ∧ Below w.heap.size w w' :=
 (fRead_any s name nl hnl hs hn w).mono fun e w' ⟨he, hb⟩ => ⟨by rw [he, h]; rfl, hb⟩
theorem run_fieldB (k n : Int) (wx : World) : (Instr.field TB (.agg #[.int .i64 k, .int .i64 n]) 0).run Tryz.prog wx = .ok (.int .i64 k) wx := by kernel_rfl
def selZ (z : Nat) (f : Flt) : Flt := if 0 < z then { f with zone := (z : Int) } else f
def selW (z : Nat) (f : Flt) : Flt := if 0 < z then { f with who := (z : Int) } else f
def selS (z : Nat) (f : Flt) : Flt := if 0 < z then { f with self := (z : Int) } else f
def selT (z : Nat) (f : Flt) : Flt := if 0 < z then { f with tap := (z : Int) } else f
def selSub (b : Bool) (t : Str) (f : Flt) : Flt := if b = true then { f with sub := B t } else f
theorem fAfter_opt (s b : ByteArray) (pl : Str) (hpl : L b = pl) (o : Option Str) (w : World) (hs : s.size < 1000000000) (hb : b.size < 1000000000) (t : Str) (p : Bool) (h : Hid (qAfter (L s) pl = o ∧ o.getD [] = t ∧ o.isSome = p)) :
 Calls Tryz.prog 195 #[.string s, .string b] w fun e w' => e = .returned (.tuple #[.string (B t), .bool p]) ∧ w = w' :=
 (fAfter_any s b w hs hb).mono fun e w' h' => ⟨by
  obtain ⟨h1, h2, h3⟩ := h.out
  rw [h'.1, hpl, h1, ← h2, ← h3]; cases o <;> rfl, h'.2⟩
def selP (k : Nat) (n : Int) (f : Flt) : Flt := if 0 < k then { f with pk := (k : Int), pn := n } else f
def selTo (k : Nat) (n : Int) (f : Flt) : Flt := if 0 < k then { f with tk := (k : Int), tn := n } else f
def selV (k : Nat) (n : Int) (f : Flt) : Flt := if 0 < k then { f with vk := (k : Int), vn := n } else f
theorem qSet_sel (f : Flt) (a b c d e zo wh se ta : Nat) (su : Option Str) (p t v : Nat × Int) : qSet (fM f a b c d e) zo wh se ta su p t v = fM (selV v.1 v.2 (selTo t.1 t.2 (selP p.1 p.2 (selSub su.isSome (su.getD []) (selT ta (selS se (selW wh (selZ zo f)))))))) a b c d e := by
 unfold qSet selV selTo selP selT selS selW selZ
 cases su <;> by_cases h1 : 0 < zo <;> by_cases h2 : 0 < wh <;> by_cases h3 : 0 < se <;> by_cases h4 : 0 < ta <;> by_cases h5 : 0 < p.1 <;> by_cases h6 : 0 < t.1 <;> by_cases h7 : 0 < v.1 <;> simp only [h1, h2, h3, h4, h5, h6, h7, if_true, if_false, selSub, fM, Option.isSome_none, Option.isSome_some, Option.getD_some, Bool.false_eq_true]
theorem fWord_at (s : ByteArray) (f0 : Flt) (a b c d e : Nat) (ha : a < 2 ^ 17) (hb : b < 2 ^ 17) (hc : c < 2 ^ 17) (hd : d < 2 ^ 17) (he : e < 2 ^ 17) (hs : s.size < 100000000) (w : World)
 (zo wh se ta : Nat) (so : Option Str) (st : Str) (sb : Bool) (pk : Nat) (pn : Int) (tk : Nat) (tn : Int) (vk : Nat) (vn : Int)
 (Hzo : Hid (qIndex zoneT (L s) = zo)) (Hwh : Hid (qIndex whoT (L s) = wh)) (Hse : Hid (qIndex selfT (L s) = se)) (Hta : Hid (qIndex tapT (L s) = ta)) (Hsu : Hid (qAfter (L s) subW = so ∧ so.getD [] = st ∧ so.isSome = sb))
 (Hp : Hid (qRead (L s) powerW = (pk, pn))) (Ht : Hid (qRead (L s) toughW = (tk, tn))) (Hv : Hid (qRead (L s) valueW = (vk, vn)))
 (Q : Flt) (HQ : Hid (qNamed (fM (selV vk vn (selTo tk tn (selP pk pn (selSub sb st (selT ta (selS se (selW wh (selZ zo f0)))))))) a b c d e) (L s) = Q)) :
 Calls Tryz.prog 149 #[.agg (fM f0 a b c d e).cells, .string s] w (RetFlt (selV vk vn (selTo tk tn (selP pk pn (selSub sb st (selT ta (selS se (selW wh (selZ zo f0)))))))) w Q) := by
 have W0 : RB ((w.alloc (.cells (fM f0 a b c d e).cells TF)).alloc (.cells zeroF.cells TF)) w.heap.size (fM f0 a b c d e) := by
  unfold RB; rw [Below.heap_alloc _ _ _ (by simp)]; exact heap_alloc_new w _
 have HZ : Hid (((w.alloc (.cells (fM f0 a b c d e).cells TF)).alloc (.cells zeroF.cells TF)).heap[w.heap.size + 1]? = some (.cells zeroF.cells TF (0, 0)) ∧ w.heap.size + 1 < ((w.alloc (.cells (fM f0 a b c d e).cells TF)).alloc (.cells zeroF.cells TF)).heap.size) := Lib.hid ⟨by have := heap_alloc_new (w.alloc (.cells (fM f0 a b c d e).cells TF)) (.cells zeroF.cells TF); simpa using this, by simp⟩
 have HB1 : Hid (Below w.heap.size w ((w.alloc (.cells (fM f0 a b c d e).cells TF)).alloc (.cells zeroF.cells TF))) := Lib.hid (((Below.refl _ _).alloc (Nat.le_refl _) _).alloc (by simp) _)
 have HW := Lib.hid W0
 clear W0
 go_enter Tryz.func149, Tryz.ntmps149
 go_upto_region 1 with fail
 have R1 := HW.out
 obtain ⟨W1, hW1⟩ : ∃ W, (w.alloc (.cells (fM f0 a b c d e).cells TF)).alloc (.cells zeroF.cells TF) = W := ⟨_, rfl⟩
 rw [hW1] at R1 HZ HB1
 change Code.wp _ _ _ _ ((w.alloc (.cells (fM f0 a b c d e).cells TF)).alloc (.cells zeroF.cells TF))
 rw [hW1]
 have F1 : Fr w.heap.size w.heap.size W1 W1 := Fr.refl _ _ _
 clear hW1 HW
 have hfb := fun (k n : Int) (wx : World) => run_fieldB k n wx
 go_upto_if 10 with (first | (go_at_call 126; (with_reducible refine (fZones_any _).mono ?_); rintro e0 wa ⟨A, cc, rfl, ht, hba⟩) | (go_at_call 194; (with_reducible refine (fIndex_any zoneT _ _ _ s _ ht (by decide) (by decide)).mono ?_); rw [Hzo.out]; rintro e0 wb ⟨rfl, rfl⟩))
 have R2 := R1.below hba
 have F2 := F1.trans (Fr.of hba (Nat.le_of_lt R1.lt))
 clear R1 F1 hba ht
 go_cut [] (fun wc => ∃ F, RB wc w.heap.size (fM F a b c d e) ∧ Fr w.heap.size w.heap.size W1 wc ∧ Hid (F = selZ zo f0))
 case first =>
  go_wp2_with (first | (go_at_call 126; (with_reducible refine (fZones_any _).mono ?_); rintro e0 wa2 ⟨A, cc, rfl, ht2, hba2⟩) | (go_at_call 194; (with_reducible refine (fIndex_any zoneT _ _ _ s _ ht2 (by decide) (by decide)).mono ?_); rw [Hzo.out]; rintro e0 wb ⟨rfl, rfl⟩; have R3 := R2.below hba2; have c3 : World.cell? _ ⟨w.heap.size, 0, none⟩ = some (.int .i64 f0.zone) := R3.cell 0; have z3 := R3.free 0))
  all_goals go_meet
  all_goals first
   | exact ⟨_, RB.set_ (f' := fM ({ f0 with zone := (zo : Int) }) a b c d e) R3 0 _ rfl, (F2.trans (Fr.of hba2 (Nat.le_of_lt R2.lt))).setCell (Nat.le_refl _) _, Lib.hid (if_pos (by omega)).symm⟩
   | exact ⟨f0, R2, F2, Lib.hid (if_neg (by omega)).symm⟩
 case rest =>
  clear R2 F2
  obtain ⟨f1, R1, F1, HF1⟩ := hcut
  go_upto_if 18 with (first | (go_at_call 127; (with_reducible refine (fWhos_any _).mono ?_); rintro e0 wa ⟨A, cc, rfl, ht, hba⟩) | (go_at_call 194; (with_reducible refine (fIndex_any whoT _ _ _ s _ ht (by decide) (by decide)).mono ?_); rw [Hwh.out]; rintro e0 wb ⟨rfl, rfl⟩))
  have R2 := R1.below hba
  have F2 := F1.trans (Fr.of hba (Nat.le_of_lt R1.lt))
  clear R1 F1 hba ht
  go_cut [] (fun wc => ∃ F, RB wc w.heap.size (fM F a b c d e) ∧ Fr w.heap.size w.heap.size W1 wc ∧ Hid (F = selW wh f1))
  case first =>
   go_wp2_with (first | (go_at_call 127; (with_reducible refine (fWhos_any _).mono ?_); rintro e0 wa2 ⟨A, cc, rfl, ht2, hba2⟩) | (go_at_call 194; (with_reducible refine (fIndex_any whoT _ _ _ s _ ht2 (by decide) (by decide)).mono ?_); rw [Hwh.out]; rintro e0 wb ⟨rfl, rfl⟩; have R3 := R2.below hba2; have c3 : World.cell? _ ⟨w.heap.size, 1, none⟩ = some (.int .i64 f1.who) := R3.cell 1; have z3 := R3.free 1))
   all_goals go_meet
   all_goals first
    | exact ⟨_, RB.set_ (f' := fM ({ f1 with who := (wh : Int) }) a b c d e) R3 1 _ rfl, (F2.trans (Fr.of hba2 (Nat.le_of_lt R2.lt))).setCell (Nat.le_refl _) _, Lib.hid (if_pos (by omega)).symm⟩
    | exact ⟨f1, R2, F2, Lib.hid (if_neg (by omega)).symm⟩
  case rest =>
   clear R2 F2
   obtain ⟨f2, R1, F1, HF2⟩ := hcut
   go_upto_if 26 with (first | (go_at_call 128; (with_reducible refine (fSelves_any _).mono ?_); rintro e0 wa ⟨A, cc, rfl, ht, hba⟩) | (go_at_call 194; (with_reducible refine (fIndex_any selfT _ _ _ s _ ht (by decide) (by decide)).mono ?_); rw [Hse.out]; rintro e0 wb ⟨rfl, rfl⟩))
   have R2 := R1.below hba
   have F2 := F1.trans (Fr.of hba (Nat.le_of_lt R1.lt))
   clear R1 F1 hba ht
   go_cut [] (fun wc => ∃ F, RB wc w.heap.size (fM F a b c d e) ∧ Fr w.heap.size w.heap.size W1 wc ∧ Hid (F = selS se f2))
   case first =>
    go_wp2_with (first | (go_at_call 128; (with_reducible refine (fSelves_any _).mono ?_); rintro e0 wa2 ⟨A, cc, rfl, ht2, hba2⟩) | (go_at_call 194; (with_reducible refine (fIndex_any selfT _ _ _ s _ ht2 (by decide) (by decide)).mono ?_); rw [Hse.out]; rintro e0 wb ⟨rfl, rfl⟩; have R3 := R2.below hba2; have c3 : World.cell? _ ⟨w.heap.size, 2, none⟩ = some (.int .i64 f2.self) := R3.cell 2; have z3 := R3.free 2))
    all_goals go_meet
    all_goals first
     | exact ⟨_, RB.set_ (f' := fM ({ f2 with self := (se : Int) }) a b c d e) R3 2 _ rfl, (F2.trans (Fr.of hba2 (Nat.le_of_lt R2.lt))).setCell (Nat.le_refl _) _, Lib.hid (if_pos (by omega)).symm⟩
     | exact ⟨f2, R2, F2, Lib.hid (if_neg (by omega)).symm⟩
   case rest =>
    clear R2 F2
    obtain ⟨f3, R1, F1, HF3⟩ := hcut
    go_upto_if 34 with (first | (go_at_call 129; (with_reducible refine (fTaps_any _).mono ?_); rintro e0 wa ⟨A, cc, rfl, ht, hba⟩) | (go_at_call 194; (with_reducible refine (fIndex_any tapT _ _ _ s _ ht (by decide) (by decide)).mono ?_); rw [Hta.out]; rintro e0 wb ⟨rfl, rfl⟩))
    have R2 := R1.below hba
    have F2 := F1.trans (Fr.of hba (Nat.le_of_lt R1.lt))
    clear R1 F1 hba ht
    go_cut [] (fun wc => ∃ F, RB wc w.heap.size (fM F a b c d e) ∧ Fr w.heap.size w.heap.size W1 wc ∧ Hid (F = selT ta f3))
    case first =>
     go_wp2_with (first | (go_at_call 129; (with_reducible refine (fTaps_any _).mono ?_); rintro e0 wa2 ⟨A, cc, rfl, ht2, hba2⟩) | (go_at_call 194; (with_reducible refine (fIndex_any tapT _ _ _ s _ ht2 (by decide) (by decide)).mono ?_); rw [Hta.out]; rintro e0 wb ⟨rfl, rfl⟩; have R3 := R2.below hba2; have c3 : World.cell? _ ⟨w.heap.size, 9, none⟩ = some (.int .i64 f3.tap) := R3.cell 9; have z3 := R3.free 9))
     all_goals go_meet
     all_goals first
      | exact ⟨_, RB.set_ (f' := fM ({ f3 with tap := (ta : Int) }) a b c d e) R3 9 _ rfl, (F2.trans (Fr.of hba2 (Nat.le_of_lt R2.lt))).setCell (Nat.le_refl _) _, Lib.hid (if_pos (by omega)).symm⟩
      | exact ⟨f3, R2, F2, Lib.hid (if_neg (by omega)).symm⟩
    case rest =>
     clear R2 F2
     obtain ⟨f4, R1, F1, HF4⟩ := hcut
     go_upto_if 44 with (go_at_call 195; (with_reducible refine (fAfter_opt s ⟨#[115, 117, 98, 58]⟩ subW rfl so _ (by omega) (by decide) st sb Hsu).mono ?_); rintro e0 wb ⟨rfl, rfl⟩)
     go_cut [] (fun wc => ∃ F, RB wc w.heap.size (fM F a b c d e) ∧ Fr w.heap.size w.heap.size W1 wc ∧ Hid (F = selSub sb st f4))
     case first =>
      have c3 : World.cell? _ ⟨w.heap.size, 7, none⟩ = some (.string f4.sub) := R1.cell 7
      have z3 := R1.free 7
      go_wp2_with fail
      all_goals go_meet
      all_goals first
       | exact ⟨_, RB.set_ (f' := fM { f4 with sub := B st } a b c d e) R1 7 _ rfl, F1.setCell (Nat.le_refl _) _, Lib.hid (if_pos (by assumption)).symm⟩
       | exact ⟨f4, R1, F1, Lib.hid (by rw [selSub, if_neg]; simp [*])⟩
     case rest =>
      clear R1 F1
      obtain ⟨f5, R1, F1, HF5⟩ := hcut
      go_upto_if 50 with (go_at_call 196; (with_reducible refine (fRead_lit s ⟨#[112, 111, 119, 101, 114]⟩ powerW rfl hs (by decide) _ pk pn Hp.out).mono ?_); rintro e0 wa ⟨rfl, hba⟩)
      have R2 := R1.below hba
      have F2 := F1.trans (Fr.of hba (Nat.le_of_lt R1.lt))
      clear R1 F1 hba
      go_cut [] (fun wc => ∃ F, RB wc w.heap.size (fM F a b c d e) ∧ Fr w.heap.size w.heap.size W1 wc ∧ Hid (F = selP pk pn f5))
      case first =>
       go_wp2_with (go_at_call 196; (with_reducible refine (fRead_lit s ⟨#[112, 111, 119, 101, 114]⟩ powerW rfl hs (by decide) _ pk pn Hp.out).mono ?_); rintro e0 wa2 ⟨rfl, hba2⟩; have R3 := R2.below hba2; have c3 : World.cell? _ ⟨w.heap.size, 10, none⟩ = some (.int .i64 f5.pk) := R3.cell 10; have z3 := R3.free 10; have c4 : World.cell? _ ⟨w.heap.size, 11, none⟩ = some (.int .i64 f5.pn) := R3.cell 11; have z4 := R3.free 11)
       all_goals go_meet
       all_goals first
        | exact ⟨_, RB.set_ (f' := fM { f5 with pk := (pk : Int), pn := pn } a b c d e) (RB.set_ (f' := fM { f5 with pk := (pk : Int) } a b c d e) R3 10 _ rfl) 11 _ rfl, ((F2.trans (Fr.of hba2 (Nat.le_of_lt R2.lt))).setCell (Nat.le_refl _) _).setCell (Nat.le_refl _) _, Lib.hid (if_pos (by omega)).symm⟩
        | exact ⟨f5, R2, F2, Lib.hid (if_neg (by omega)).symm⟩
      case rest =>
       clear R2 F2
       obtain ⟨f6, R1, F1, HF6⟩ := hcut
       go_upto_if 57 with (go_at_call 196; (with_reducible refine (fRead_lit s ⟨#[116, 111, 117, 103, 104]⟩ toughW rfl hs (by decide) _ tk tn Ht.out).mono ?_); rintro e0 wa ⟨rfl, hba⟩)
       have R2 := R1.below hba
       have F2 := F1.trans (Fr.of hba (Nat.le_of_lt R1.lt))
       clear R1 F1 hba
       go_cut [] (fun wc => ∃ F, RB wc w.heap.size (fM F a b c d e) ∧ Fr w.heap.size w.heap.size W1 wc ∧ Hid (F = selTo tk tn f6))
       case first =>
        go_wp2_with (go_at_call 196; (with_reducible refine (fRead_lit s ⟨#[116, 111, 117, 103, 104]⟩ toughW rfl hs (by decide) _ tk tn Ht.out).mono ?_); rintro e0 wa2 ⟨rfl, hba2⟩; have R3 := R2.below hba2; have c3 : World.cell? _ ⟨w.heap.size, 12, none⟩ = some (.int .i64 f6.tk) := R3.cell 12; have z3 := R3.free 12; have c4 : World.cell? _ ⟨w.heap.size, 13, none⟩ = some (.int .i64 f6.tn) := R3.cell 13; have z4 := R3.free 13)
        all_goals go_meet
        all_goals first
         | exact ⟨_, RB.set_ (f' := fM { f6 with tk := (tk : Int), tn := tn } a b c d e) (RB.set_ (f' := fM { f6 with tk := (tk : Int) } a b c d e) R3 12 _ rfl) 13 _ rfl, ((F2.trans (Fr.of hba2 (Nat.le_of_lt R2.lt))).setCell (Nat.le_refl _) _).setCell (Nat.le_refl _) _, Lib.hid (if_pos (by omega)).symm⟩
         | exact ⟨f6, R2, F2, Lib.hid (if_neg (by omega)).symm⟩
       case rest =>
        clear R2 F2
        obtain ⟨f7, R1, F1, HF7⟩ := hcut
        go_upto_if 64 with (go_at_call 196; (with_reducible refine (fRead_lit s ⟨#[118, 97, 108, 117, 101]⟩ valueW rfl hs (by decide) _ vk vn Hv.out).mono ?_); rintro e0 wa ⟨rfl, hba⟩)
        have R2 := R1.below hba
        have F2 := F1.trans (Fr.of hba (Nat.le_of_lt R1.lt))
        clear R1 F1 hba
        go_cut [] (fun wc => ∃ F, RB wc w.heap.size (fM F a b c d e) ∧ Fr w.heap.size w.heap.size W1 wc ∧ Hid (F = selV vk vn f7))
        case first =>
         go_wp2_with (go_at_call 196; (with_reducible refine (fRead_lit s ⟨#[118, 97, 108, 117, 101]⟩ valueW rfl hs (by decide) _ vk vn Hv.out).mono ?_); rintro e0 wa2 ⟨rfl, hba2⟩; have R3 := R2.below hba2; have c3 : World.cell? _ ⟨w.heap.size, 14, none⟩ = some (.int .i64 f7.vk) := R3.cell 14; have z3 := R3.free 14; have c4 : World.cell? _ ⟨w.heap.size, 15, none⟩ = some (.int .i64 f7.vn) := R3.cell 15; have z4 := R3.free 15)
         all_goals go_meet
         all_goals first
          | exact ⟨_, RB.set_ (f' := fM { f7 with vk := (vk : Int), vn := vn } a b c d e) (RB.set_ (f' := fM { f7 with vk := (vk : Int) } a b c d e) R3 14 _ rfl) 15 _ rfl, ((F2.trans (Fr.of hba2 (Nat.le_of_lt R2.lt))).setCell (Nat.le_refl _) _).setCell (Nat.le_refl _) _, Lib.hid (if_pos (by omega)).symm⟩
          | exact ⟨f7, R2, F2, Lib.hid (if_neg (by omega)).symm⟩
        case rest =>
         clear R2 F2
         obtain ⟨f8, R1, F1, HF8⟩ := hcut
         have HA : f8 = selV vk vn (selTo tk tn (selP pk pn (selSub sb st (selT ta (selS se (selW wh (selZ zo f0))))))) := by rw [HF8.out, HF7.out, HF6.out, HF5.out, HF4.out, HF3.out, HF2.out, HF1.out]
         rw [← HA] at HQ
         have HAA := Lib.hid HA
         have R1h := Lib.hid R1
         have hg8 := R1.lt
         have hrr : Hid (wc.heap[w.heap.size + 1]? = some (.cells zeroF.cells TF (0, 0))) := Lib.hid ((F1.keep _ HZ.out.2 (by omega)).trans HZ.out.1)
         have hlt2 : w.heap.size + 1 < wc.heap.size := Nat.lt_of_lt_of_le HZ.out.2 F1.bel.size
         have hbW := Lib.hid (HB1.out.trans F1.bel)
         clear HA R1 F1
         go_wp2_with (first | refine wpList_load_row rfl TF (.tmp 2) rfl w.heap.size rfl TF (fM f8 a b c d e).cells (0, 0) _ R1h.out Tryz.underlying25 rfl infoTF ?_ | (go_at_call 197; (with_reducible refine (fNamed_any s f8 a b c d e ha hb hc hd he hs _).mono ?_); rw [HQ.out]; rintro e0 wz ⟨rfl, hbz, hform⟩; have hrz := Lib.hid ((hbz.block _ hlt2).trans hrr.out); have HFO := Lib.hid hform; clear hform) | refine wpList_store_row rfl TF (.tmp 4) (.tmp 70) rfl (w.heap.size + 1) Q.cells rfl rfl TF zeroF.cells hrz.out infoTF rfl (cells_one _) ?_)
         exact bodyPost_ret (results_cell_row rfl _ _ (w.heap.size + 1) TF Q.cells (0, 0) _ rfl (row_set hrz.out) Tryz.underlying25 rfl infoTF) rfl (by rw [← HAA.out]; exact ⟨rfl, below_setRow (below_two hbW.out hbz) (by omega) _, HFO.out⟩)
theorem fWord_any (s : ByteArray) (f0 : Flt) (a b c d e : Nat) (ha : a < 2 ^ 17) (hb : b < 2 ^ 17) (hc : c < 2 ^ 17) (hd : d < 2 ^ 17) (he : e < 2 ^ 17) (hs : s.size < 100000000) (w : World) :
 ∃ F, Calls Tryz.prog 149 #[.agg (fM f0 a b c d e).cells, .string s] w (RetFlt F w (qWord (fM f0 a b c d e) (L s))) :=
 ⟨_, fWord_at s f0 a b c d e ha hb hc hd he hs w (qIndex zoneT (L s)) (qIndex whoT (L s)) (qIndex selfT (L s)) (qIndex tapT (L s)) (qAfter (L s) subW) ((qAfter (L s) subW).getD []) (qAfter (L s) subW).isSome (qRead (L s) powerW).1 (qRead (L s) powerW).2 (qRead (L s) toughW).1 (qRead (L s) toughW).2 (qRead (L s) valueW).1 (qRead (L s) valueW).2 (Lib.hid rfl) (Lib.hid rfl) (Lib.hid rfl) (Lib.hid rfl) (Lib.hid ⟨rfl, rfl, rfl⟩) (Lib.hid rfl) (Lib.hid rfl) (Lib.hid rfl) _ (Lib.hid (by unfold qWord; rw [qSet_sel]))⟩
theorem fltIs_ref (f : Flt) : fltIs f = (btw f.zone 5 && (btw f.who 2 && (btw f.self 2 && (btw f.tap 2 && (okMasks f.types f.ntypes 63 && (okMasks f.colors f.ncolors 31 && ((decide (f.sub.toList = []) || isSub (L f.sub)) && (btw f.keys 131071 && (bnd f.pk f.pn && (bnd f.tk f.tn && bnd f.vk f.vn)))))))))) := by
 have e : decide (f.sub.toList = []) = (L f.sub == []) := by rw [L_toList, Bool.eq_iff_iff]; simp
 unfold fltIs
 rw [e]
 cases btw f.zone 5 <;> cases btw f.who 2 <;> cases btw f.self 2 <;> cases btw f.tap 2 <;> cases btw f.keys 131071 <;> simp
theorem rIs_any (zone who self types ntypes colors ncolors : Int) (sub : ByteArray) (keys tap pk pn tk tn vk vn : Int) (w : World) (R : Bool) (HR : Hid (fltIs ⟨zone, who, self, types, ntypes, colors, ncolors, sub, keys, tap, pk, pn, tk, tn, vk, vn⟩ = R)) :
 Calls Tryz.prog 59 #[.agg #[.int .i64 zone, .int .i64 who, .int .i64 self, .int .i64 types, .int .i64 ntypes, .int .i64 colors, .int .i64 ncolors, .string sub, .int .i64 keys, .int .i64 tap, .int .i64 pk, .int .i64 pn, .int .i64 tk, .int .i64 tn, .int .i64 vk, .int .i64 vn]] w fun e w' => e = .returned (.bool R) ∧ Below w.heap.size w w' := by
 obtain ⟨b1, H1⟩ : ∃ b, Hid (okMasks types ntypes 63 = b) := ⟨_, rfl⟩
 obtain ⟨b2, H2⟩ : ∃ b, Hid (okMasks colors ncolors 31 = b) := ⟨_, rfl⟩
 obtain ⟨b3, H3⟩ : ∃ b, Hid (isSub (L sub) = b) := ⟨_, rfl⟩
 obtain ⟨b5, H5⟩ : ∃ b, Hid (bnd pk pn = b) := ⟨_, rfl⟩
 obtain ⟨b6, H6⟩ : ∃ b, Hid (bnd tk tn = b) := ⟨_, rfl⟩
 obtain ⟨b7, H7⟩ : ∃ b, Hid (bnd vk vn = b) := ⟨_, rfl⟩
 have HD : Hid (R = (btw zone 5 && (btw who 2 && (btw self 2 && (btw tap 2 && (b1 && (b2 && ((decide (sub.toList = []) || b3) && (btw keys 131071 && (b5 && (b6 && b7))))))))))) := Lib.hid (by rw [← HR.out, fltIs_ref, ← H1.out, ← H2.out, ← H3.out, ← H5.out, ← H6.out, ← H7.out])
 clear HR
 have hb : Hid (Below w.heap.size w (w.alloc (.cells #[.int .i64 zone, .int .i64 who, .int .i64 self, .int .i64 types, .int .i64 ntypes, .int .i64 colors, .int .i64 ncolors, .string sub, .int .i64 keys, .int .i64 tap, .int .i64 pk, .int .i64 pn, .int .i64 tk, .int .i64 tn, .int .i64 vk, .int .i64 vn] 25))) := Lib.hid ((Below.refl _ _).alloc (Nat.le_refl _) _)
 go_enter Tryz.func59, Tryz.ntmps59
 go_wp2_with (first | (go_at_call 105; (with_reducible refine (fApart_any types ntypes 63 _ (by decide)).mono ?_); rw [H1.out]; rintro e w1 ⟨rfl, rfl⟩) | (go_at_call 105; (with_reducible refine (fApart_any colors ncolors 31 _ (by decide)).mono ?_); rw [H2.out]; rintro e w1 ⟨rfl, rfl⟩) | (go_at_call 106; (with_reducible refine (carry (rIsSub_any sub _) (Below.refl _ _)).mono ?_); rw [H3.out]; rintro e w2 ⟨rfl, hb2⟩; have hc2 := kept_cells hb2) | (go_at_call 107; (with_reducible refine (carry (fBound_any _ _ _) (by first | assumption | exact Below.refl _ _)).mono ?_); (first | rw [H5.out] | rw [H6.out] | rw [H7.out]); rintro e w2 ⟨rfl, hb2⟩; have hc2 := kept_cells hb2))
 all_goals
  go_ret
  refine ⟨ret_bool ?_, ?_⟩
  ·rw [HD.out]; first | (simp [btw, *]; done) | (simp [btw, *]; omega) | (simp_all [btw]; done) | (simp_all [btw]; omega)
  ·first | exact hb.out | exact below_two hb.out (by assumption)
theorem bitsU_ge {m N : Nat} (h : m < 2 ^ N) : ∀ k, N ≤ k → bitsUpto m k = bitsUpto m N
 | 0, hk => by
   obtain rfl : N = 0 := by omega
   rfl
 | k + 1, hk => by
   by_cases e : N = k + 1
   ·rw [e]
   ·have hb : m.testBit k = false := Nat.testBit_lt_two_pow (Nat.lt_of_lt_of_le h (Nat.pow_le_pow_right (by omega) (by omega)))
    rw [bitsUpto_no hb]; exact bitsU_ge h k (by omega)
theorem foldl_addW_app (l m : List Str) (h : ∀ x ∈ m, x ≠ []) : m.foldl addW l = l ++ m := by
 induction m generalizing l with
 | nil => simp
 | cons x r ih =>
   rw [List.foldl_cons, ih _ (fun y hy => h y (List.mem_cons_of_mem _ hy)), addW, if_neg (h x (by simp))]; simp
theorem addMask_eq (l : List Str) (p : Str) (T : List Str) {m N : Nat} (hm : m < 2 ^ N) (hN : N ≤ 31) (hne : ∀ i, i < N → p ++ wd T i ≠ []) : addMask l p T m = l ++ (bitsUpto m N).map fun i => p ++ wd T i := by
 unfold addMask
 rw [bitsU_ge hm 31 hN, foldl_addW_app]
 intro x hx
 obtain ⟨i, hi, rfl⟩ := List.mem_map.1 hx
 exact hne i (bitsUpto_lt hi)
theorem mask_no {l L0 : List Str} {p : Str} {T : List Str} {m k : Nat} (h : l = L0 ++ (bitsUpto m k).map fun i => p ++ wd T i) (hb : m.testBit k = false) : l = L0 ++ (bitsUpto m (k + 1)).map fun i => p ++ wd T i := by rw [bitsUpto_no hb]; exact h
theorem mask_yes {l L0 : List Str} {p : Str} {T : List Str} {m k : Nat} (h : l = L0 ++ (bitsUpto m k).map fun i => p ++ wd T i) (hb : m.testBit k = true) : l ++ [p ++ wd T k] = L0 ++ (bitsUpto m (k + 1)).map fun i => p ++ wd T i := by rw [bitsUpto_yes hb, List.map_append, h]; simp
theorem type_neR : ∀ i, i < 6 → [] ++ wd typeT i ≠ [] := by decide
theorem ntype_neR : ∀ i, i < 6 → nonW ++ wd typeT i ≠ [] := by decide
theorem color_neR : ∀ i, i < 5 → [] ++ wd colorT i ≠ [] := by decide
theorem ncolor_neR : ∀ i, i < 5 → nonW ++ wd colorT i ≠ [] := by decide
theorem key_neR : ∀ i, i < 17 → withW ++ wd kwT i ≠ [] := by decide
def At (b : Nat) (W : World) (g j : Nat) (v : Value) : Prop := g < b ∧ W.cell? ⟨g, j, none⟩ = some v
theorem At.of {W : World} {g j : Nat} {v : Value} (h : W.cell? ⟨g, j, none⟩ = some v) : At W.heap.size W g j v := ⟨World.block_lt_of_cell? W _ h, h⟩
theorem At.get {b : Nat} {W w' : World} {g j : Nat} {v : Value} (h : At b W g j v) (hb : Below b W w') : w'.cell? ⟨g, j, none⟩ = some v := cell_belowB hb h.1 h.2
theorem box_of {w w1 w2 : World} {cs : Array Value} {t : Nat} (h : Below (w.alloc (.cells cs t)).heap.size (w.alloc (.cells cs t)) w1) (hb : Below w1.heap.size w1 w2) (j : Nat) : w2.cell? ⟨w.heap.size, j, none⟩ = cs[j]? := by
 have hs := h.size; simp at hs
 rw [hb.cell (p := ⟨w.heap.size, j, none⟩) (by show w.heap.size < _; omega), kept_cells h j, cell_of_row _ _ j cs t (0, 0) (heap_alloc_new w _)]
theorem rText_yes (z wh se ty nt co nc : Nat) (sub : ByteArray) (ke ta pk pn tk tn vk vn : Nat) (w : World) (HV : Hid (fltIs ⟨z, wh, se, ty, nt, co, nc, sub, ke, ta, pk, pn, tk, tn, vk, vn⟩ = true))
 (hz : z ≤ 5) (hwh : wh < 3) (hse : se < 3) (hty : ty < 2 ^ 6) (hnt : nt < 2 ^ 6) (hco : co < 2 ^ 5) (hnc : nc < 2 ^ 5) (hsub : sub.size ≤ 32) (hke : ke < 2 ^ 17) (hta : ta < 3)
 (hpk : pk < 4) (hpn : pn ≤ 1000000) (htk : tk < 4) (htn : tn ≤ 1000000) (hvk : vk < 4) (hvn : vn ≤ 1000000)
 (hjl : Hid ((Lib.join (fltWords (mkFN z wh se ty nt co nc sub ke ta pk pn tk tn vk vn)) [32]).length ≤ 140737488355328)) :
 Calls Tryz.prog 80 #[.agg #[.int .i64 z, .int .i64 wh, .int .i64 se, .int .i64 ty, .int .i64 nt, .int .i64 co, .int .i64 nc, .string sub, .int .i64 ke, .int .i64 ta, .int .i64 pk, .int .i64 pn, .int .i64 tk, .int .i64 tn, .int .i64 vk, .int .i64 vn]] w fun e w' => e = .returned (.string (B (fltText (mkFN z wh se ty nt co nc sub ke ta pk pn tk tn vk vn)))) ∧ Below w.heap.size w w' := by
 have hz' : z < zoneT.length := by show z < 6; omega
 have hw' : wh < whoT.length := hwh
 have hs' : se < selfT.length := hse
 have ht' : ta < tapT.length := hta
 have HZ := Lib.hid (wd_at hz'); have HW := Lib.hid (wd_at hw'); have HS := Lib.hid (wd_at hs'); have HT := Lib.hid (wd_at ht')
 have HFT : Hid (fltText (mkFN z wh se ty nt co nc sub ke ta pk pn tk tn vk vn) = if fltWords (mkFN z wh se ty nt co nc sub ke ta pk pn tk tn vk vn) = [] then anyW else Lib.join (fltWords (mkFN z wh se ty nt co nc sub ke ta pk pn tk tn vk vn)) [32]) := rfl
 have HFW : Hid (fltWords (mkFN z wh se ty nt co nc sub ke ta pk pn tk tn vk vn) = addW (addW (addW (addW (addMask (bif L sub == [] then addMask (addMask (addMask (addMask (addW (addW (addW [] (wd zoneT z)) (wd whoT wh)) (wd selfT se)) [] typeT ty) nonW typeT nt) [] colorT co) nonW colorT nc else addW (addMask (addMask (addMask (addMask (addW (addW (addW [] (wd zoneT z)) (wd whoT wh)) (wd selfT se)) [] typeT ty) nonW typeT nt) [] colorT co) nonW colorT nc) (subW ++ L sub)) withW kwT ke) (wd tapT ta)) (boundW powerW pk pn)) (boundW toughW tk tn)) (boundW valueW vk vn)) := rfl
 generalize fltText (mkFN z wh se ty nt co nc sub ke ta pk pn tk tn vk vn) = R at *
 generalize fltWords (mkFN z wh se ty nt co nc sub ke ta pk pn tk tn vk vn) = FW at *
 go_enter Tryz.func80, Tryz.ntmps80
 go_wp2_with (first | (go_at_call 59; (with_reducible refine (rIs_any _ _ _ _ _ _ _ _ _ _ _ _ _ _ _ _ _ true HV).mono ?_); rintro e w1 ⟨rfl, hb1⟩) | (go_at_call 126; (with_reducible refine (fZones_any _).mono ?_); rintro e w2 ⟨A1, c1, rfl, ht1, hb2⟩; obtain ⟨g1, rfl, _, cz⟩ := ht1.at_ hz'; rw [HZ.out] at cz) | (go_at_call 127; (with_reducible refine (fWhos_any _).mono ?_); rintro e w3 ⟨A2, c2, rfl, ht2, hb3⟩; obtain ⟨g2, rfl, _, cw⟩ := ht2.at_ hw'; rw [HW.out] at cw; have cz := cell_below hb3 cz) | (go_at_call 128; (with_reducible refine (fSelves_any _).mono ?_); rintro e w4 ⟨A3, c3, rfl, ht3, hb4⟩; obtain ⟨g3, rfl, _, cs⟩ := ht3.at_ hs'; rw [HS.out] at cs; have cz := cell_below hb4 cz; have cw := cell_below hb4 cw) | (go_at_call 129; (with_reducible refine (fTaps_any _).mono ?_); rintro e w5 ⟨A4, c4, rfl, ht4, hb5⟩; obtain ⟨g4, rfl, _, ct⟩ := ht4.at_ ht'; rw [HT.out] at ct; have AT := At.of ct; have AZ := At.of (cell_below hb5 cz); have AW := At.of (cell_below hb5 cw); have AS := At.of (cell_below hb5 cs); have hb6 := below_two (below_two (below_two hb2 hb3) hb4) hb5; have BX := box_of hb1 hb6; have AB : Hid (∀ j v, (#[.int .i64 z, .int .i64 wh, .int .i64 se, .int .i64 ty, .int .i64 nt, .int .i64 co, .int .i64 nc, .string sub, .int .i64 ke, .int .i64 ta, .int .i64 pk, .int .i64 pn, .int .i64 tk, .int .i64 tn, .int .i64 vk, .int .i64 vn] : Array Value)[j]? = some v → At w5.heap.size w5 w.heap.size j v) := Lib.hid (fun j v h => At.of ((BX j).trans h)); have HB5 : Hid (Below w.heap.size w w5) := Lib.hid (below_two (below_two ((Below.refl _ _).alloc (Nat.le_refl _) _) hb1) hb6); have x0 := (AB.out 0 _ rfl).get (Below.refl _ _); have cz := AZ.get (Below.refl _ _); clear BX hb2 hb3 hb4 hb5 hb6 hb1 ht1 ht2 ht3 ht4 ct cw cs))
 clear cz x0
 obtain ⟨b, hb⟩ : ∃ b, w5.heap.size = b := ⟨_, rfl⟩
 rw [hb] at AT AZ AW AS AB
 have hbl : b ≤ w5.heap.size := Nat.le_of_eq hb.symm
 have HBB := Lib.hid hb
 clear hb
 refine (fAdd_any [] none 0 b (B (wd zoneT z)) (wd zoneT z) rfl w5 (Texts.nil _ _) hbl (by simp)).mono ?_
 rintro e w6 ⟨A5, c5, rfl, HO, HQ⟩
 obtain ⟨la, hla⟩ : ∃ l, addW [] (wd zoneT z) = l := ⟨_, rfl⟩
 have hll := addW_len [] (wd zoneT z)
 rw [hla] at HO hll
 rw [hla]
 have HLA := Lib.hid hla; clear hla
 simp only [List.length_nil, Nat.zero_add] at hll
 have cw := AW.get HQ
 have x1 := (AB.out 1 (.int .i64 wh) rfl).get HQ
 dsimp only
 go_wp2_with fail
 refine (fAdd_any la A5 c5 b (B (wd whoT wh)) (wd whoT wh) rfl w6 HO (Nat.le_trans hbl HQ.size) (by omega)).mono ?_
 rintro e w7 ⟨A6, c6, rfl, HO2, HQ2⟩
 have hlm := addW_len la (wd whoT wh)
 obtain ⟨lb, hlb⟩ : ∃ l, addW la (wd whoT wh) = l := ⟨_, rfl⟩
 rw [hlb] at HO2 hlm
 rw [hlb]
 have HLB := Lib.hid hlb
 have HQ := HQ.trans HQ2
 clear hlb cw x1 HO HQ2
 have cs := AS.get HQ
 have x2 := (AB.out 2 (.int .i64 se) rfl).get HQ
 dsimp only
 go_wp2_with fail
 refine (fAdd_any lb A6 c6 b (B (wd selfT se)) (wd selfT se) rfl w7 HO2 (Nat.le_trans hbl HQ.size) (by omega)).mono ?_
 rintro e w8 ⟨A7, c7, rfl, HO, HQ2⟩
 have hln := addW_len lb (wd selfT se)
 obtain ⟨l0, hl0⟩ : ∃ l, addW lb (wd selfT se) = l := ⟨_, rfl⟩
 rw [hl0] at HO hln
 rw [hl0]
 have HL0 := Lib.hid hl0
 have HQ := HQ.trans HQ2
 have hlen0 : l0.length ≤ 3 := by omega
 clear hl0 cs x2 HO2 HQ2 hll hlm hln HZ HW HS hz' hw' hs'
 dsimp only
 go_wp2_with fail
 go_loopw [7, 8] (fun v i wr => ∃ k : Nat, ∃ l : List Str, k ≤ 6 ∧ l.length ≤ 3 + k ∧ i = .int .i64 k ∧ Texts wr b l v ∧ Below b w5 wr ∧ Hid (l = l0 ++ (bitsUpto ty k).map fun i => [] ++ wd typeT i)) (fun _ i _ => 6 - (intOf i).toNat)
 case atStart => exact ⟨0, l0, by omega, by omega, rfl, HO, HQ, by simp [bitsUpto, Hid]⟩
 case round =>
  clear HQ HO
  obtain ⟨k, l1, hk, hlen, rfl, hown, hq, HL⟩ := hrel
  have hbs := Nat.le_trans hbl hq.size
  have xm := (AB.out 3 (.int .i64 ty) rfl).get hq
  by_cases hlt : k < 6
  ·cases hbit : ty.testBit k
   ·have HN := Lib.hid (mask_no HL.out hbit)
    have HB := Lib.hid hbit; clear hbit
    go_wp2_with (go_at_call 131; (with_reducible refine (fBit_any ty k _ (by omega) (by omega)).mono ?_); rw [HB.out]; rintro e wn ⟨rfl, rfl⟩)
    go_roundw
    case rel => exact ⟨k + 1, l1, by omega, by omega, by go_num, hown, hq, HN⟩
    case measure => simp [intOf]; omega
   ·have HN := Lib.hid (mask_yes HL.out hbit)
    have HB := Lib.hid hbit; clear hbit
    have hwl : (wd typeT k).length ≤ 20 := wd_len (by decide) k
    have hln : l1.length < 1000000000 := by omega
    go_wp2_with (first | (go_at_call 131; (with_reducible refine (fBit_any ty k _ (by omega) (by omega)).mono ?_); rw [HB.out]; rintro e wn ⟨rfl, rfl⟩) | (go_at_call 132; (with_reducible refine (fTypeWord_any k hlt _).mono ?_); rintro e wn ⟨rfl, hbn⟩; have hown2 := hown.below hbn; have hq2 := hq.trans (hbn.mono hbs); have hbs2 := Nat.le_trans hbl hq2.size; clear hown hbs xm) | (at_builtin; refine wpList_text_push rfl (.tmp 49) (.tmp 52) 65 rfl Tryz.underlying65 info_str rfl rfl hown2 hln hbs2 ?_; intro v' w8 hown3 hb3))
    have hq3 := hq2.trans hb3
    rw [L_B] at hown3
    go_roundw
    case rel => exact ⟨k + 1, _, by omega, by simp; omega, by go_num, hown3, hq3, HN⟩
    case measure => simp [intOf]; omega
  ·have HK : Hid (k = 6) := Lib.hid (by omega)
   have HA1 : Hid (addMask l0 [] typeT ty = l1) := Lib.hid ((addMask_eq l0 [] typeT hty (by decide) type_neR).trans (by rw [HL.out, HK.out]))
   have hlen1 : l1.length ≤ 9 := by omega
   clear HL xm hk hlen hbs HK
   have HO := hown; have HQ := hq; clear hown hq
   go_wp2_with fail
   go_loopw [7, 9] (fun v i wr => ∃ k : Nat, ∃ l : List Str, k ≤ 6 ∧ l.length ≤ 9 + k ∧ i = .int .i64 k ∧ Texts wr b l v ∧ Below b w5 wr ∧ Hid (l = l1 ++ (bitsUpto nt k).map fun i => nonW ++ wd typeT i)) (fun _ i _ => 6 - (intOf i).toNat)
   case atStart => exact ⟨0, l1, by omega, by omega, rfl, HO, HQ, by simp [bitsUpto, Hid]⟩
   case round =>
    clear HQ HO
    obtain ⟨k, l2, hk, hlen, rfl, hown, hq, HL⟩ := hrel
    have hbs := Nat.le_trans hbl hq.size
    have xm := (AB.out 4 (.int .i64 nt) rfl).get hq
    by_cases hlt : k < 6
    ·cases hbit : nt.testBit k
     ·have HN := Lib.hid (mask_no HL.out hbit)
      have HB := Lib.hid hbit; clear hbit
      go_wp2_with (go_at_call 131; (with_reducible refine (fBit_any nt k _ (by omega) (by omega)).mono ?_); rw [HB.out]; rintro e wn ⟨rfl, rfl⟩)
      go_roundw
      case rel => exact ⟨k + 1, l2, by omega, by omega, by go_num, hown, hq, HN⟩
      case measure => simp [intOf]; omega
     ·have HN := Lib.hid (mask_yes HL.out hbit)
      have HB := Lib.hid hbit; clear hbit
      have hwl : (wd typeT k).length ≤ 20 := wd_len (by decide) k
      have hln : l2.length < 1000000000 := by omega
      have HP : Hid (L (⟨#[110, 111, 110, 45]⟩ ++ B (wd typeT k)) = nonW ++ wd typeT k) := Lib.hid (L_append _ _)
      go_wp2_with (first | (go_at_call 131; (with_reducible refine (fBit_any nt k _ (by omega) (by omega)).mono ?_); rw [HB.out]; rintro e wn ⟨rfl, rfl⟩) | (go_at_call 132; (with_reducible refine (fTypeWord_any k hlt _).mono ?_); rintro e wn ⟨rfl, hbn⟩; have hown2 := hown.below hbn; have hq2 := hq.trans (hbn.mono hbs); have hbs2 := Nat.le_trans hbl hq2.size; clear hown hbs xm) | (at_builtin; refine wpList_text_push rfl (.tmp 62) (.tmp 66) 65 rfl Tryz.underlying65 info_str rfl rfl hown2 hln hbs2 ?_; intro v' w8 hown3 hb3))
      have hq3 := hq2.trans hb3
      rw [HP.out] at hown3
      go_roundw
      case rel => exact ⟨k + 1, _, by omega, by simp; omega, by go_num, hown3, hq3, HN⟩
      case measure => simp [intOf]; omega
    ·have HK : Hid (k = 6) := Lib.hid (by omega)
     have HA2 : Hid (addMask l1 nonW typeT nt = l2) := Lib.hid ((addMask_eq l1 nonW typeT hnt (by decide) ntype_neR).trans (by rw [HL.out, HK.out]))
     have hlen2 : l2.length ≤ 15 := by omega
     clear HL xm hk hlen hbs HK
     have HO := hown; have HQ := hq; clear hown hq
     go_wp2_with fail
     go_loopw [7, 10] (fun v i wr => ∃ k : Nat, ∃ l : List Str, k ≤ 5 ∧ l.length ≤ 15 + k ∧ i = .int .i64 k ∧ Texts wr b l v ∧ Below b w5 wr ∧ Hid (l = l2 ++ (bitsUpto co k).map fun i => [] ++ wd colorT i)) (fun _ i _ => 5 - (intOf i).toNat)
     case atStart => exact ⟨0, l2, by omega, by omega, rfl, HO, HQ, by simp [bitsUpto, Hid]⟩
     case round =>
      clear HQ HO
      obtain ⟨k, l3, hk, hlen, rfl, hown, hq, HL⟩ := hrel
      have hbs := Nat.le_trans hbl hq.size
      have xm := (AB.out 5 (.int .i64 co) rfl).get hq
      by_cases hlt : k < 5
      ·cases hbit : co.testBit k
       ·have HN := Lib.hid (mask_no HL.out hbit)
        have HB := Lib.hid hbit; clear hbit
        go_wp2_with (go_at_call 131; (with_reducible refine (fBit_any co k _ (by omega) (by omega)).mono ?_); rw [HB.out]; rintro e wn ⟨rfl, rfl⟩)
        go_roundw
        case rel => exact ⟨k + 1, l3, by omega, by omega, by go_num, hown, hq, HN⟩
        case measure => simp [intOf]; omega
       ·have HN := Lib.hid (mask_yes HL.out hbit)
        have HB := Lib.hid hbit; clear hbit
        have hwl : (wd colorT k).length ≤ 20 := wd_len (by decide) k
        have hln : l3.length < 1000000000 := by omega
        go_wp2_with (first | (go_at_call 131; (with_reducible refine (fBit_any co k _ (by omega) (by omega)).mono ?_); rw [HB.out]; rintro e wn ⟨rfl, rfl⟩) | (go_at_call 133; (with_reducible refine (fColor_any k hlt _).mono ?_); rintro e wn ⟨rfl, rfl⟩; have hown2 := hown; have hq2 := hq; have hbs2 := hbs; clear hown hbs xm) | (at_builtin; refine wpList_text_push rfl (.tmp 76) (.tmp 79) 65 rfl Tryz.underlying65 info_str rfl rfl hown2 hln hbs2 ?_; intro v' w8 hown3 hb3))
        have hq3 := hq2.trans hb3
        rw [L_B] at hown3
        go_roundw
        case rel => exact ⟨k + 1, _, by omega, by simp; omega, by go_num, hown3, hq3, HN⟩
        case measure => simp [intOf]; omega
      ·have HK : Hid (k = 5) := Lib.hid (by omega)
       have HA3 : Hid (addMask l2 [] colorT co = l3) := Lib.hid ((addMask_eq l2 [] colorT hco (by decide) color_neR).trans (by rw [HL.out, HK.out]))
       have hlen3 : l3.length ≤ 20 := by omega
       clear HL xm hk hlen hbs HK
       have HO := hown; have HQ := hq; clear hown hq
       go_wp2_with fail
       go_loopw [7, 11] (fun v i wr => ∃ k : Nat, ∃ l : List Str, k ≤ 5 ∧ l.length ≤ 20 + k ∧ i = .int .i64 k ∧ Texts wr b l v ∧ Below b w5 wr ∧ Hid (l = l3 ++ (bitsUpto nc k).map fun i => nonW ++ wd colorT i)) (fun _ i _ => 5 - (intOf i).toNat)
       case atStart => exact ⟨0, l3, by omega, by omega, rfl, HO, HQ, by simp [bitsUpto, Hid]⟩
       case round =>
        clear HQ HO
        obtain ⟨k, l4, hk, hlen, rfl, hown, hq, HL⟩ := hrel
        have hbs := Nat.le_trans hbl hq.size
        have xm := (AB.out 6 (.int .i64 nc) rfl).get hq
        by_cases hlt : k < 5
        ·cases hbit : nc.testBit k
         ·have HN := Lib.hid (mask_no HL.out hbit)
          have HB := Lib.hid hbit; clear hbit
          go_wp2_with (go_at_call 131; (with_reducible refine (fBit_any nc k _ (by omega) (by omega)).mono ?_); rw [HB.out]; rintro e wn ⟨rfl, rfl⟩)
          go_roundw
          case rel => exact ⟨k + 1, l4, by omega, by omega, by go_num, hown, hq, HN⟩
          case measure => simp [intOf]; omega
         ·have HN := Lib.hid (mask_yes HL.out hbit)
          have HB := Lib.hid hbit; clear hbit
          have hwl : (wd colorT k).length ≤ 20 := wd_len (by decide) k
          have hln : l4.length < 1000000000 := by omega
          have HP : Hid (L (⟨#[110, 111, 110, 45]⟩ ++ B (wd colorT k)) = nonW ++ wd colorT k) := Lib.hid (L_append _ _)
          go_wp2_with (first | (go_at_call 131; (with_reducible refine (fBit_any nc k _ (by omega) (by omega)).mono ?_); rw [HB.out]; rintro e wn ⟨rfl, rfl⟩) | (go_at_call 133; (with_reducible refine (fColor_any k hlt _).mono ?_); rintro e wn ⟨rfl, rfl⟩; have hown2 := hown; have hq2 := hq; have hbs2 := hbs; clear hown hbs xm) | (at_builtin; refine wpList_text_push rfl (.tmp 89) (.tmp 93) 65 rfl Tryz.underlying65 info_str rfl rfl hown2 hln hbs2 ?_; intro v' w8 hown3 hb3))
          have hq3 := hq2.trans hb3
          rw [HP.out] at hown3
          go_roundw
          case rel => exact ⟨k + 1, _, by omega, by simp; omega, by go_num, hown3, hq3, HN⟩
          case measure => simp [intOf]; omega
        ·have HK : Hid (k = 5) := Lib.hid (by omega)
         have HA4 : Hid (addMask l3 nonW colorT nc = l4) := Lib.hid ((addMask_eq l3 nonW colorT hnc (by decide) ncolor_neR).trans (by rw [HL.out, HK.out]))
         have hlen4 : l4.length ≤ 25 := by omega
         clear HL xm hk hlen hbs HK
         have HO := hown; have HQ := hq; clear hown hq
         have xs := (AB.out 7 (.string sub) rfl).get HQ
         have hln : l4.length < 1000000000 := by omega
         have hbs := Nat.le_trans hbl HQ.size
         by_cases hs : L sub = []
         ·have s0 : sub.toList = [] := by rw [L_toList]; exact hs
          obtain ⟨l5, hl5⟩ : ∃ l, l4 = l := ⟨_, rfl⟩
          have HSB : Hid (l5 = bif L sub == [] then l4 else addW l4 (subW ++ L sub)) := Lib.hid (by rw [hs, ← hl5]; rfl)
          rw [hl5] at HO
          have hlen : l5.length ≤ 26 := by rw [← hl5]; omega
          clear hs hl5
          go_wp2_with fail
          go_loopw [7, 12] (fun v i wr => ∃ k : Nat, ∃ l : List Str, k ≤ 17 ∧ l.length ≤ 26 + k ∧ i = .int .i64 k ∧ Texts wr b l v ∧ Below b w5 wr ∧ Hid (l = l5 ++ (bitsUpto ke k).map fun i => withW ++ wd kwT i)) (fun _ i _ => 17 - (intOf i).toNat)
          case atStart => exact ⟨0, l5, by omega, by omega, rfl, HO, HQ, by simp [bitsUpto, Hid]⟩
          case round =>
           clear HQ HO
           obtain ⟨k, l6, hk, hlen, rfl, hown, hq, HL⟩ := hrel
           have hbs := Nat.le_trans hbl hq.size
           have xm := (AB.out 8 (.int .i64 ke) rfl).get hq
           by_cases hlt : k < 17
           ·cases hbit : ke.testBit k
            ·have HN := Lib.hid (mask_no HL.out hbit)
             have HB := Lib.hid hbit; clear hbit
             go_wp2_with (go_at_call 131; (with_reducible refine (fBit_any ke k _ (by omega) (by omega)).mono ?_); rw [HB.out]; rintro e wn ⟨rfl, rfl⟩)
             go_roundw
             case rel => exact ⟨k + 1, l6, by omega, by omega, by go_num, hown, hq, HN⟩
             case measure => simp [intOf]; omega
            ·have HN := Lib.hid (mask_yes HL.out hbit)
             have HB := Lib.hid hbit; clear hbit
             have hwl : (wd kwT k).length ≤ 20 := wd_len (by decide) k
             have hln : l6.length < 1000000000 := by omega
             have HP : Hid (L (⟨#[119, 105, 116, 104, 58]⟩ ++ B (wd kwT k)) = withW ++ wd kwT k) := Lib.hid (L_append _ _)
             go_wp2_with (first | (go_at_call 131; (with_reducible refine (fBit_any ke k _ (by omega) (by omega)).mono ?_); rw [HB.out]; rintro e wn ⟨rfl, rfl⟩) | (go_at_call 134; (with_reducible refine (fKey_any k hlt _).mono ?_); rintro e wn ⟨rfl, hbn⟩; have hown2 := hown.below hbn; have hq2 := hq.trans (hbn.mono hbs); have hbs2 := Nat.le_trans hbl hq2.size; clear hown hbs xm) | (at_builtin; refine wpList_text_push rfl (.tmp 112) (.tmp 116) 65 rfl Tryz.underlying65 info_str rfl rfl hown2 hln hbs2 ?_; intro v' w8 hown3 hb3))
             have hq3 := hq2.trans hb3
             rw [HP.out] at hown3
             go_roundw
             case rel => exact ⟨k + 1, _, by omega, by simp; omega, by go_num, hown3, hq3, HN⟩
             case measure => simp [intOf]; omega
           ·have HK : Hid (k = 17) := Lib.hid (by omega)
            have HA5 : Hid (addMask l5 withW kwT ke = l6) := Lib.hid ((addMask_eq l5 withW kwT hke (by decide) key_neR).trans (by rw [HL.out, HK.out]))
            have hlen5 : l6.length ≤ 43 := by omega
            clear HL xm hk hlen hbs HK
            have HO := hown; have HQ := hq; clear hown hq
            have ct := AT.get HQ
            have x9 := (AB.out 9 (.int .i64 ta) rfl).get HQ
            obtain ⟨A8, c8, rfl, _⟩ := HO.form
            go_wp2_with fail
            refine (fAdd_any l6 A8 c8 b (B (wd tapT ta)) (wd tapT ta) rfl _ HO (Nat.le_trans hbl HQ.size) (by omega)).mono ?_
            rintro e wa ⟨A9, c9, rfl, HO2, HQ2⟩
            have hlm := addW_len l6 (wd tapT ta)
            obtain ⟨m0, hm0⟩ : ∃ l, addW l6 (wd tapT ta) = l := ⟨_, rfl⟩
            rw [hm0] at HO2 hlm
            rw [hm0]
            have HM0 := Lib.hid hm0
            have HQ := HQ.trans HQ2
            have hm0l : m0.length ≤ 44 := by omega
            clear hm0 ct x9 HO HQ2 hlm HT ht'
            dsimp only
            have x10 := (AB.out 10 (.int .i64 pk) rfl).get HQ
            have x11 := (AB.out 11 (.int .i64 pn) rfl).get HQ
            go_wp2_with fail
            refine (fBoundW_any ⟨#[112, 111, 119, 101, 114]⟩ powerW rfl pk pn hpk hpn (by decide) _).mono ?_
            rintro e wb0 ⟨rfl, hbb⟩
            have HO3 := HO2.below hbb
            have HQ := HQ.trans (hbb.mono (Nat.le_trans hbl HQ.size))
            clear x10 x11 HO2 hbb
            dsimp only
            go_wp2_with fail
            refine (fAdd_any m0 A9 c9 b (B (boundW powerW pk pn)) (boundW powerW pk pn) rfl _ HO3 (Nat.le_trans hbl HQ.size) (by omega)).mono ?_
            rintro e wd0 ⟨A10, c10, rfl, HO2, HQ2⟩
            have hlm := addW_len m0 (boundW powerW pk pn)
            obtain ⟨m1, hm1⟩ : ∃ l, addW m0 (boundW powerW pk pn) = l := ⟨_, rfl⟩
            rw [hm1] at HO2 hlm
            rw [hm1]
            have HM1 := Lib.hid hm1
            have HQ := HQ.trans HQ2
            have hm1l : m1.length ≤ 45 := by omega
            clear hm1 HO3 HQ2 hlm
            dsimp only
            have x12 := (AB.out 12 (.int .i64 tk) rfl).get HQ
            have x13 := (AB.out 13 (.int .i64 tn) rfl).get HQ
            go_wp2_with fail
            refine (fBoundW_any ⟨#[116, 111, 117, 103, 104]⟩ toughW rfl tk tn htk htn (by decide) _).mono ?_
            rintro e wb1 ⟨rfl, hbb⟩
            have HO3 := HO2.below hbb
            have HQ := HQ.trans (hbb.mono (Nat.le_trans hbl HQ.size))
            clear x12 x13 HO2 hbb
            dsimp only
            go_wp2_with fail
            refine (fAdd_any m1 A10 c10 b (B (boundW toughW tk tn)) (boundW toughW tk tn) rfl _ HO3 (Nat.le_trans hbl HQ.size) (by omega)).mono ?_
            rintro e wd1 ⟨A11, c11, rfl, HO2, HQ2⟩
            have hlm := addW_len m1 (boundW toughW tk tn)
            obtain ⟨m2, hm2⟩ : ∃ l, addW m1 (boundW toughW tk tn) = l := ⟨_, rfl⟩
            rw [hm2] at HO2 hlm
            rw [hm2]
            have HM2 := Lib.hid hm2
            have HQ := HQ.trans HQ2
            have hm2l : m2.length ≤ 46 := by omega
            clear hm2 HO3 HQ2 hlm
            dsimp only
            have x14 := (AB.out 14 (.int .i64 vk) rfl).get HQ
            have x15 := (AB.out 15 (.int .i64 vn) rfl).get HQ
            go_wp2_with fail
            refine (fBoundW_any ⟨#[118, 97, 108, 117, 101]⟩ valueW rfl vk vn hvk hvn (by decide) _).mono ?_
            rintro e wb2 ⟨rfl, hbb⟩
            have HO3 := HO2.below hbb
            have HQ := HQ.trans (hbb.mono (Nat.le_trans hbl HQ.size))
            clear x14 x15 HO2 hbb
            dsimp only
            go_wp2_with fail
            refine (fAdd_any m2 A11 c11 b (B (boundW valueW vk vn)) (boundW valueW vk vn) rfl _ HO3 (Nat.le_trans hbl HQ.size) (by omega)).mono ?_
            rintro e wd2 ⟨A12, c12, rfl, HO2, HQ2⟩
            have hlm := addW_len m2 (boundW valueW vk vn)
            obtain ⟨m3, hm3⟩ : ∃ l, addW m2 (boundW valueW vk vn) = l := ⟨_, rfl⟩
            rw [hm3] at HO2 hlm
            rw [hm3]
            have HM3 := Lib.hid hm3
            have HQ := HQ.trans HQ2
            have hm3l : m3.length ≤ 47 := by omega
            clear hm3 HO3 HQ2 hlm
            dsimp only
            have HFE : Hid (FW = m3) := Lib.hid (by rw [HFW.out, HLA.out, HLB.out, HL0.out, HA1.out, HA2.out, HA3.out, HA4.out, ← HSB.out, HA5.out, HM0.out, HM1.out, HM2.out, HM3.out])
            have HFI := HB5.out.trans (HQ.mono (by have h1 := HB5.out.size; have h2 := HBB.out; omega))
            by_cases hm : m3 = []
            ·have HR : Hid (R = anyW) := Lib.hid (by rw [HFT.out, HFE.out, if_pos hm])
             have t0 := eqn m3.length 0 (by rw [hm]; rfl)
             clear hm
             go_wp2
             go_ret
             exact ⟨ret_str (by rw [HR.out]; rfl), HFI⟩
            ·have HR : Hid (R = Lib.join m3 [32]) := Lib.hid (by rw [HFT.out, HFE.out, if_neg hm])
             have t0 := nen m3.length 0 (by intro h; exact hm (List.eq_nil_of_length_eq_zero (by omega)))
             have hj : (Lib.join m3 [32]).length ≤ 140737488355328 := by rw [← HFE.out]; exact hjl.out
             have HJ := Lib.hid hj
             clear hm hj
             go_wp2_with (go_at_call 136; (with_reducible refine (rJoin_any m3 A12 c12 b _ _ HO2 [32] rfl HJ.out (by omega)).mono ?_); rintro e wz ⟨rfl, rfl⟩)
             go_ret
             exact ⟨ret_str (by rw [HR.out]), HFI⟩
         ·have s0 : sub.toList.isEmpty = false := by rw [L_toList]; simpa using hs
          have s1 : ¬ sub.toList = [] := by rw [L_toList]; exact hs
          obtain ⟨l5, hl5⟩ : ∃ l, l4 ++ [subW ++ L sub] = l := ⟨_, rfl⟩
          have HSB : Hid (l5 = bif L sub == [] then l4 else addW l4 (subW ++ L sub)) := Lib.hid (by rw [beq_eq_false_iff_ne.2 hs, ← hl5]; show _ = addW l4 _; rw [addW, if_neg (by simp [subW])])
          have HP : Hid (L (⟨#[115, 117, 98, 58]⟩ ++ sub) = subW ++ L sub) := Lib.hid (L_append _ _)
          have hlen : l5.length ≤ 26 := by rw [← hl5, List.length_append]; simp; omega
          have HL5 := Lib.hid hl5
          clear hs hl5
          go_wp2_with (at_builtin; refine wpList_text_push rfl (.tmp 98) (.tmp 102) 65 rfl Tryz.underlying65 info_str rfl rfl HO hln hbs ?_; intro v' w8 hown3 hb3)
          rw [HP.out, HL5.out] at hown3
          have hq3 := HQ.trans hb3
          clear HO HQ HL5
          have HO := hown3; have HQ := hq3; clear hown3 hq3
          go_loopw [7, 12] (fun v i wr => ∃ k : Nat, ∃ l : List Str, k ≤ 17 ∧ l.length ≤ 26 + k ∧ i = .int .i64 k ∧ Texts wr b l v ∧ Below b w5 wr ∧ Hid (l = l5 ++ (bitsUpto ke k).map fun i => withW ++ wd kwT i)) (fun _ i _ => 17 - (intOf i).toNat)
          case atStart => exact ⟨0, l5, by omega, by omega, rfl, HO, HQ, by simp [bitsUpto, Hid]⟩
          case round =>
           clear HQ HO
           obtain ⟨k, l6, hk, hlen, rfl, hown, hq, HL⟩ := hrel
           have hbs := Nat.le_trans hbl hq.size
           have xm := (AB.out 8 (.int .i64 ke) rfl).get hq
           by_cases hlt : k < 17
           ·cases hbit : ke.testBit k
            ·have HN := Lib.hid (mask_no HL.out hbit)
             have HB := Lib.hid hbit; clear hbit
             go_wp2_with (go_at_call 131; (with_reducible refine (fBit_any ke k _ (by omega) (by omega)).mono ?_); rw [HB.out]; rintro e wn ⟨rfl, rfl⟩)
             go_roundw
             case rel => exact ⟨k + 1, l6, by omega, by omega, by go_num, hown, hq, HN⟩
             case measure => simp [intOf]; omega
            ·have HN := Lib.hid (mask_yes HL.out hbit)
             have HB := Lib.hid hbit; clear hbit
             have hwl : (wd kwT k).length ≤ 20 := wd_len (by decide) k
             have hln : l6.length < 1000000000 := by omega
             have HP : Hid (L (⟨#[119, 105, 116, 104, 58]⟩ ++ B (wd kwT k)) = withW ++ wd kwT k) := Lib.hid (L_append _ _)
             go_wp2_with (first | (go_at_call 131; (with_reducible refine (fBit_any ke k _ (by omega) (by omega)).mono ?_); rw [HB.out]; rintro e wn ⟨rfl, rfl⟩) | (go_at_call 134; (with_reducible refine (fKey_any k hlt _).mono ?_); rintro e wn ⟨rfl, hbn⟩; have hown2 := hown.below hbn; have hq2 := hq.trans (hbn.mono hbs); have hbs2 := Nat.le_trans hbl hq2.size; clear hown hbs xm) | (at_builtin; refine wpList_text_push rfl (.tmp 112) (.tmp 116) 65 rfl Tryz.underlying65 info_str rfl rfl hown2 hln hbs2 ?_; intro v' w8 hown3 hb3))
             have hq3 := hq2.trans hb3
             rw [HP.out] at hown3
             go_roundw
             case rel => exact ⟨k + 1, _, by omega, by simp; omega, by go_num, hown3, hq3, HN⟩
             case measure => simp [intOf]; omega
           ·have HK : Hid (k = 17) := Lib.hid (by omega)
            have HA5 : Hid (addMask l5 withW kwT ke = l6) := Lib.hid ((addMask_eq l5 withW kwT hke (by decide) key_neR).trans (by rw [HL.out, HK.out]))
            have hlen5 : l6.length ≤ 43 := by omega
            clear HL xm hk hlen hbs HK
            have HO := hown; have HQ := hq; clear hown hq
            have ct := AT.get HQ
            have x9 := (AB.out 9 (.int .i64 ta) rfl).get HQ
            obtain ⟨A8, c8, rfl, _⟩ := HO.form
            go_wp2_with fail
            refine (fAdd_any l6 A8 c8 b (B (wd tapT ta)) (wd tapT ta) rfl _ HO (Nat.le_trans hbl HQ.size) (by omega)).mono ?_
            rintro e wa ⟨A9, c9, rfl, HO2, HQ2⟩
            have hlm := addW_len l6 (wd tapT ta)
            obtain ⟨m0, hm0⟩ : ∃ l, addW l6 (wd tapT ta) = l := ⟨_, rfl⟩
            rw [hm0] at HO2 hlm
            rw [hm0]
            have HM0 := Lib.hid hm0
            have HQ := HQ.trans HQ2
            have hm0l : m0.length ≤ 44 := by omega
            clear hm0 ct x9 HO HQ2 hlm HT ht'
            dsimp only
            have x10 := (AB.out 10 (.int .i64 pk) rfl).get HQ
            have x11 := (AB.out 11 (.int .i64 pn) rfl).get HQ
            go_wp2_with fail
            refine (fBoundW_any ⟨#[112, 111, 119, 101, 114]⟩ powerW rfl pk pn hpk hpn (by decide) _).mono ?_
            rintro e wb0 ⟨rfl, hbb⟩
            have HO3 := HO2.below hbb
            have HQ := HQ.trans (hbb.mono (Nat.le_trans hbl HQ.size))
            clear x10 x11 HO2 hbb
            dsimp only
            go_wp2_with fail
            refine (fAdd_any m0 A9 c9 b (B (boundW powerW pk pn)) (boundW powerW pk pn) rfl _ HO3 (Nat.le_trans hbl HQ.size) (by omega)).mono ?_
            rintro e wd0 ⟨A10, c10, rfl, HO2, HQ2⟩
            have hlm := addW_len m0 (boundW powerW pk pn)
            obtain ⟨m1, hm1⟩ : ∃ l, addW m0 (boundW powerW pk pn) = l := ⟨_, rfl⟩
            rw [hm1] at HO2 hlm
            rw [hm1]
            have HM1 := Lib.hid hm1
            have HQ := HQ.trans HQ2
            have hm1l : m1.length ≤ 45 := by omega
            clear hm1 HO3 HQ2 hlm
            dsimp only
            have x12 := (AB.out 12 (.int .i64 tk) rfl).get HQ
            have x13 := (AB.out 13 (.int .i64 tn) rfl).get HQ
            go_wp2_with fail
            refine (fBoundW_any ⟨#[116, 111, 117, 103, 104]⟩ toughW rfl tk tn htk htn (by decide) _).mono ?_
            rintro e wb1 ⟨rfl, hbb⟩
            have HO3 := HO2.below hbb
            have HQ := HQ.trans (hbb.mono (Nat.le_trans hbl HQ.size))
            clear x12 x13 HO2 hbb
            dsimp only
            go_wp2_with fail
            refine (fAdd_any m1 A10 c10 b (B (boundW toughW tk tn)) (boundW toughW tk tn) rfl _ HO3 (Nat.le_trans hbl HQ.size) (by omega)).mono ?_
            rintro e wd1 ⟨A11, c11, rfl, HO2, HQ2⟩
            have hlm := addW_len m1 (boundW toughW tk tn)
            obtain ⟨m2, hm2⟩ : ∃ l, addW m1 (boundW toughW tk tn) = l := ⟨_, rfl⟩
            rw [hm2] at HO2 hlm
            rw [hm2]
            have HM2 := Lib.hid hm2
            have HQ := HQ.trans HQ2
            have hm2l : m2.length ≤ 46 := by omega
            clear hm2 HO3 HQ2 hlm
            dsimp only
            have x14 := (AB.out 14 (.int .i64 vk) rfl).get HQ
            have x15 := (AB.out 15 (.int .i64 vn) rfl).get HQ
            go_wp2_with fail
            refine (fBoundW_any ⟨#[118, 97, 108, 117, 101]⟩ valueW rfl vk vn hvk hvn (by decide) _).mono ?_
            rintro e wb2 ⟨rfl, hbb⟩
            have HO3 := HO2.below hbb
            have HQ := HQ.trans (hbb.mono (Nat.le_trans hbl HQ.size))
            clear x14 x15 HO2 hbb
            dsimp only
            go_wp2_with fail
            refine (fAdd_any m2 A11 c11 b (B (boundW valueW vk vn)) (boundW valueW vk vn) rfl _ HO3 (Nat.le_trans hbl HQ.size) (by omega)).mono ?_
            rintro e wd2 ⟨A12, c12, rfl, HO2, HQ2⟩
            have hlm := addW_len m2 (boundW valueW vk vn)
            obtain ⟨m3, hm3⟩ : ∃ l, addW m2 (boundW valueW vk vn) = l := ⟨_, rfl⟩
            rw [hm3] at HO2 hlm
            rw [hm3]
            have HM3 := Lib.hid hm3
            have HQ := HQ.trans HQ2
            have hm3l : m3.length ≤ 47 := by omega
            clear hm3 HO3 HQ2 hlm
            dsimp only
            have HFE : Hid (FW = m3) := Lib.hid (by rw [HFW.out, HLA.out, HLB.out, HL0.out, HA1.out, HA2.out, HA3.out, HA4.out, ← HSB.out, HA5.out, HM0.out, HM1.out, HM2.out, HM3.out])
            have HFI := HB5.out.trans (HQ.mono (by have h1 := HB5.out.size; have h2 := HBB.out; omega))
            by_cases hm : m3 = []
            ·have HR : Hid (R = anyW) := Lib.hid (by rw [HFT.out, HFE.out, if_pos hm])
             have t0 := eqn m3.length 0 (by rw [hm]; rfl)
             clear hm
             go_wp2
             go_ret
             exact ⟨ret_str (by rw [HR.out]; rfl), HFI⟩
            ·have HR : Hid (R = Lib.join m3 [32]) := Lib.hid (by rw [HFT.out, HFE.out, if_neg hm])
             have t0 := nen m3.length 0 (by intro h; exact hm (List.eq_nil_of_length_eq_zero (by omega)))
             have hj : (Lib.join m3 [32]).length ≤ 140737488355328 := by rw [← HFE.out]; exact hjl.out
             have HJ := Lib.hid hj
             clear hm hj
             go_wp2_with (go_at_call 136; (with_reducible refine (rJoin_any m3 A12 c12 b _ _ HO2 [32] rfl HJ.out (by omega)).mono ?_); rintro e wz ⟨rfl, rfl⟩)
             go_ret
             exact ⟨ret_str (by rw [HR.out]), HFI⟩
theorem rText_no (zone who self types ntypes colors ncolors : Int) (sub : ByteArray) (keys tap pk pn tk tn vk vn : Int) (w : World) (HV : Hid (fltIs ⟨zone, who, self, types, ntypes, colors, ncolors, sub, keys, tap, pk, pn, tk, tn, vk, vn⟩ = false)) :
 Calls Tryz.prog 80 #[.agg #[.int .i64 zone, .int .i64 who, .int .i64 self, .int .i64 types, .int .i64 ntypes, .int .i64 colors, .int .i64 ncolors, .string sub, .int .i64 keys, .int .i64 tap, .int .i64 pk, .int .i64 pn, .int .i64 tk, .int .i64 tn, .int .i64 vk, .int .i64 vn]] w fun e w' => e = .returned (.string ⟨#[]⟩) ∧ Below w.heap.size w w' := by
 go_enter Tryz.func80, Tryz.ntmps80
 go_wp2_with (go_at_call 59; (with_reducible refine (rIs_any _ _ _ _ _ _ _ _ _ _ _ _ _ _ _ _ _ false HV).mono ?_); rintro e w1 ⟨rfl, hb1⟩)
 go_ret
 exact ⟨rfl, below_two ((Below.refl _ _).alloc (Nat.le_refl _) _) hb1⟩
theorem rFltText_any (f : Flt) (w : World) :
 Calls Tryz.prog 80 #[.agg f.cells] w fun e w' => e = .returned (.string (B (textOf f))) ∧ Below w.heap.size w w' := by
 obtain ⟨zone, who, self, types, ntypes, colors, ncolors, sub, keys, tap, pk, pn, tk, tn, vk, vn⟩ := f
 cases hv : fltIs ⟨zone, who, self, types, ntypes, colors, ncolors, sub, keys, tap, pk, pn, tk, tn, vk, vn⟩ with
 | false =>
   refine (rText_no _ _ _ _ _ _ _ _ _ _ _ _ _ _ _ _ w (Lib.hid hv)).mono fun e w' ⟨he, hb⟩ => ⟨?_, hb⟩
   rw [he, textOf, hv]; rfl
 | true =>
   have hv2 := hv
   simp only [fltIs, okMasks, Bool.and_eq_true, Bool.or_eq_true, beq_iff_eq] at hv2
   obtain ⟨⟨g1, g2, g3, g4, g5⟩, ⟨g6, g7, g8⟩, ⟨g9, g10, g11⟩, g12, g13, g14, g15⟩ := hv2
   obtain ⟨z, rfl, hz⟩ := btw_nat g1
   obtain ⟨wh, rfl, hwh⟩ := btw_nat g2
   obtain ⟨se, rfl, hse⟩ := btw_nat g3
   obtain ⟨ta, rfl, hta⟩ := btw_nat g4
   obtain ⟨ke, rfl, hke⟩ := btw_nat g5
   obtain ⟨ty, rfl, hty⟩ := btw_nat g6
   obtain ⟨nt, rfl, hnt⟩ := btw_nat g7
   obtain ⟨co, rfl, hco⟩ := btw_nat g9
   obtain ⟨nc, rfl, hnc⟩ := btw_nat g10
   obtain ⟨pk, pn, rfl, rfl, hpk, hpn⟩ := bnd_nat g13
   obtain ⟨tk, tn, rfl, rfl, htk, htn⟩ := bnd_nat g14
   obtain ⟨vk, vn, rfl, rfl, hvk, hvn⟩ := bnd_nat g15
   have hsub : sub.size ≤ 32 := by
    rw [← size_l]
    rcases g12 with h | h
    ·rw [h]; simp
    ·exact isSub_len h
   have hj := fltJoin_len (mkFN z wh se ty nt co nc sub ke ta pk pn tk tn vk vn) (by show (L sub).length ≤ 32; rw [size_l]; exact hsub) hpn htn hvn
   refine (rText_yes z wh se ty nt co nc sub ke ta pk pn tk tn vk vn w (Lib.hid hv) (by omega) (by omega) (by omega) (by omega) (by omega) (by omega) (by omega) hsub (by omega) (by omega) hpk hpn htk htn hvk hvn (Lib.hid (by omega))).mono fun e w' ⟨he, hb⟩ => ⟨?_, hb⟩
   rw [he, textOf, hv]; rfl
section words
variable (a b c d e f g : Int) (s : ByteArray) (k t p q u v y z : Int)
theorem qk_type (i x : Nat) (hi : i < 6) (hx : x < 2 ^ 31) : some (qWord ⟨a, b, c, (x : Int), e, f, g, s, k, t, p, q, u, v, y, z⟩ ([] ++ wd typeT i)) = some ⟨a, b, c, ((x ||| 2 ^ i : Nat) : Int), e, f, g, s, k, t, p, q, u, v, y, z⟩ := by
 rw [← qMask_or hx (by omega : i < 31)]
 rcases i with _ | _ | _ | _ | _ | _ | i
 all_goals first | omega | kernel_rfl
theorem qk_ntype (i x : Nat) (hi : i < 6) (hx : x < 2 ^ 31) : some (qWord ⟨a, b, c, d, (x : Int), f, g, s, k, t, p, q, u, v, y, z⟩ (nonW ++ wd typeT i)) = some ⟨a, b, c, d, ((x ||| 2 ^ i : Nat) : Int), f, g, s, k, t, p, q, u, v, y, z⟩ := by
 rw [← qMask_or hx (by omega : i < 31)]
 rcases i with _ | _ | _ | _ | _ | _ | i
 all_goals first | omega | kernel_rfl
theorem qk_color (i x : Nat) (hi : i < 5) (hx : x < 2 ^ 31) : some (qWord ⟨a, b, c, d, e, (x : Int), g, s, k, t, p, q, u, v, y, z⟩ ([] ++ wd colorT i)) = some ⟨a, b, c, d, e, ((x ||| 2 ^ i : Nat) : Int), g, s, k, t, p, q, u, v, y, z⟩ := by
 rw [← qMask_or hx (by omega : i < 31)]
 rcases i with _ | _ | _ | _ | _ | i
 all_goals first | omega | kernel_rfl
theorem qk_ncolor (i x : Nat) (hi : i < 5) (hx : x < 2 ^ 31) : some (qWord ⟨a, b, c, d, e, f, (x : Int), s, k, t, p, q, u, v, y, z⟩ (nonW ++ wd colorT i)) = some ⟨a, b, c, d, e, f, ((x ||| 2 ^ i : Nat) : Int), s, k, t, p, q, u, v, y, z⟩ := by
 rw [← qMask_or hx (by omega : i < 31)]
 rcases i with _ | _ | _ | _ | _ | i
 all_goals first | omega | kernel_rfl
theorem qk_key (i x : Nat) (hi : i < 17) (hx : x < 2 ^ 31) : some (qWord ⟨a, b, c, d, e, f, g, s, (x : Int), t, p, q, u, v, y, z⟩ (withW ++ wd kwT i)) = some ⟨a, b, c, d, e, f, g, s, ((x ||| 2 ^ i : Nat) : Int), t, p, q, u, v, y, z⟩ := by
 rw [← qMask_or hx (by omega : i < 31)]
 rcases i with _ | _ | _ | _ | _ | _ | _ | _ | _ | _ | _ | _ | _ | _ | _ | _ | _ | i
 all_goals first | omega | kernel_rfl
theorem qk_zone (i : Nat) (hi : i < 6) (h0 : wd zoneT i ≠ []) : some (qWord ⟨a, b, c, d, e, f, g, s, k, t, p, q, u, v, y, z⟩ (wd zoneT i)) = some ⟨(i : Nat), b, c, d, e, f, g, s, k, t, p, q, u, v, y, z⟩ := by
 rcases i with _ | _ | _ | _ | _ | _ | i
 ·exact absurd rfl h0
 all_goals first | omega | kernel_rfl
theorem qk_who (i : Nat) (hi : i < 3) (h0 : wd whoT i ≠ []) : some (qWord ⟨a, b, c, d, e, f, g, s, k, t, p, q, u, v, y, z⟩ (wd whoT i)) = some ⟨a, (i : Nat), c, d, e, f, g, s, k, t, p, q, u, v, y, z⟩ := by
 rcases i with _ | _ | _ | i
 ·exact absurd rfl h0
 all_goals first | omega | kernel_rfl
theorem qk_self (i : Nat) (hi : i < 3) (h0 : wd selfT i ≠ []) : some (qWord ⟨a, b, c, d, e, f, g, s, k, t, p, q, u, v, y, z⟩ (wd selfT i)) = some ⟨a, b, (i : Nat), d, e, f, g, s, k, t, p, q, u, v, y, z⟩ := by
 rcases i with _ | _ | _ | i
 ·exact absurd rfl h0
 all_goals first | omega | kernel_rfl
theorem qk_tap (i : Nat) (hi : i < 3) (h0 : wd tapT i ≠ []) : some (qWord ⟨a, b, c, d, e, f, g, s, k, t, p, q, u, v, y, z⟩ (wd tapT i)) = some ⟨a, b, c, d, e, f, g, s, k, (i : Nat), p, q, u, v, y, z⟩ := by
 rcases i with _ | _ | _ | i
 ·exact absurd rfl h0
 all_goals first | omega | kernel_rfl
theorem qr_some {w name r : Str} {n : Int} {k : Nat} (h : qAfter w (name ++ wd signT k) = some r) (hn : rdNum r = some n) : qr w name k = some (k, n) := by unfold qr; rw [h]; simp [hn]
theorem qr_none {w name : Str} {k : Nat} (h : qAfter w (name ++ wd signT k) = none) : qr w name k = none := by unfold qr; rw [h]; rfl
theorem qRead_eq (w name : Str) : qRead w name = (match qr w name 1 with | some x => x | none => match qr w name 2 with | some x => x | none => match qr w name 3 with | some x => x | none => (0, 0)) := by
 show ((([1, 2, 3] : List Nat)).findSome? (qr w name)).getD (0, 0) = _
 simp only [List.findSome?]
 cases qr w name 1 with
 | some x => rfl
 | none => cases qr w name 2 with
   | some x => rfl
   | none => cases qr w name 3 with
     | some x => rfl
     | none => rfl
theorem qRead1 {w name r : Str} {n : Int} (h : qAfter w (name ++ wd signT 1) = some r) (hn : rdNum r = some n) : qRead w name = (1, n) := by rw [qRead_eq, qr_some h hn]
theorem qRead2 {w name r : Str} {n : Int} (h1 : qAfter w (name ++ wd signT 1) = none) (h : qAfter w (name ++ wd signT 2) = some r) (hn : rdNum r = some n) : qRead w name = (2, n) := by rw [qRead_eq, qr_none h1, qr_some h hn]
theorem qRead3 {w name r : Str} {n : Int} (h1 : qAfter w (name ++ wd signT 1) = none) (h2 : qAfter w (name ++ wd signT 2) = none) (h : qAfter w (name ++ wd signT 3) = some r) (hn : rdNum r = some n) : qRead w name = (3, n) := by rw [qRead_eq, qr_none h1, qr_none h2, qr_some h hn]
theorem qGo {F G : Flt} {w : Str} {p t v : Nat × Int} (h0 : qIndex zoneT w = 0) (h1 : qIndex whoT w = 0) (h2 : qIndex selfT w = 0) (h3 : qIndex tapT w = 0) (h4 : qAfter w subW = none) (hp : qRead w powerW = p) (ht : qRead w toughW = t) (hv : qRead w valueW = v)
 (hn : ∀ F, qNamed F w = F) (hG : qSet F 0 0 0 0 none p t v = G) : qWord F w = G := by unfold qWord; rw [h0, h1, h2, h3, h4, hp, ht, hv, hn, hG]
theorem qk_power (i n : Nat) (hi : i < 4) (h0 : i ≠ 0) (hn : n ≤ 1000000) : some (qWord ⟨a, b, c, d, e, f, g, s, k, t, p, q, u, v, y, z⟩ (powerW ++ wd signT i ++ Lib.itoa n)) = some ⟨a, b, c, d, e, f, g, s, k, t, (i : Nat), (n : Nat), u, v, y, z⟩ := by
 have hno := rdNum_itoa n hn
 generalize Lib.itoa (n : Nat) = r at *
 rcases i with _ | _ | _ | _ | i
 ·exact absurd rfl h0
 ·exact congrArg some (qGo rfl rfl rfl rfl rfl (qRead1 (r := r) rfl hno) rfl rfl (fun _ => rfl) rfl)
 ·exact congrArg some (qGo rfl rfl rfl rfl rfl (qRead2 (r := r) rfl rfl hno) rfl rfl (fun _ => rfl) rfl)
 ·exact congrArg some (qGo rfl rfl rfl rfl rfl (qRead3 (r := r) rfl rfl rfl hno) rfl rfl (fun _ => rfl) rfl)
 ·omega
theorem qk_tough (i n : Nat) (hi : i < 4) (h0 : i ≠ 0) (hn : n ≤ 1000000) : some (qWord ⟨a, b, c, d, e, f, g, s, k, t, p, q, u, v, y, z⟩ (toughW ++ wd signT i ++ Lib.itoa n)) = some ⟨a, b, c, d, e, f, g, s, k, t, p, q, (i : Nat), (n : Nat), y, z⟩ := by
 have hno := rdNum_itoa n hn
 generalize Lib.itoa (n : Nat) = r at *
 rcases i with _ | _ | _ | _ | i
 ·exact absurd rfl h0
 ·exact congrArg some (qGo rfl rfl rfl rfl rfl rfl (qRead1 (r := r) rfl hno) rfl (fun _ => rfl) rfl)
 ·exact congrArg some (qGo rfl rfl rfl rfl rfl rfl (qRead2 (r := r) rfl rfl hno) rfl (fun _ => rfl) rfl)
 ·exact congrArg some (qGo rfl rfl rfl rfl rfl rfl (qRead3 (r := r) rfl rfl rfl hno) rfl (fun _ => rfl) rfl)
 ·omega
theorem qk_value (i n : Nat) (hi : i < 4) (h0 : i ≠ 0) (hn : n ≤ 1000000) : some (qWord ⟨a, b, c, d, e, f, g, s, k, t, p, q, u, v, y, z⟩ (valueW ++ wd signT i ++ Lib.itoa n)) = some ⟨a, b, c, d, e, f, g, s, k, t, p, q, u, v, (i : Nat), (n : Nat)⟩ := by
 have hno := rdNum_itoa n hn
 generalize Lib.itoa (n : Nat) = r at *
 rcases i with _ | _ | _ | _ | i
 ·exact absurd rfl h0
 ·exact congrArg some (qGo rfl rfl rfl rfl rfl rfl rfl (qRead1 (r := r) rfl hno) (fun _ => rfl) rfl)
 ·exact congrArg some (qGo rfl rfl rfl rfl rfl rfl rfl (qRead2 (r := r) rfl rfl hno) (fun _ => rfl) rfl)
 ·exact congrArg some (qGo rfl rfl rfl rfl rfl rfl rfl (qRead3 (r := r) rfl rfl rfl hno) (fun _ => rfl) rfl)
 ·omega
end words
theorem qk_sub (F : Flt) (r : Str) : some (qWord F (subW ++ r)) = some { F with sub := B r } := by
 refine congrArg some ?_
 unfold qWord
 rw [show qIndex zoneT (subW ++ r) = 0 from rfl, show qIndex whoT (subW ++ r) = 0 from rfl, show qIndex selfT (subW ++ r) = 0 from rfl, show qIndex tapT (subW ++ r) = 0 from rfl, show qAfter (subW ++ r) subW = some r from rfl,
  show qRead (subW ++ r) powerW = (0, 0) from rfl, show qRead (subW ++ r) toughW = (0, 0) from rfl, show qRead (subW ++ r) valueW = (0, 0) from rfl, show ∀ F, qNamed F (subW ++ r) = F from fun _ => rfl]
 rfl
theorem qWord_ok : StepOk (fun f w => some (qWord f w)) := ⟨qk_type, qk_ntype, qk_color, qk_ncolor, qk_key, qk_zone, qk_who, qk_self, qk_tap, qk_sub, qk_power, qk_tough, qk_value⟩
theorem foldG_total (st : Flt → Str → Flt) (l : List Str) : ∀ f, foldG (fun f w => some (st f w)) f l = some (l.foldl st f) := by
 induction l with
 | nil => intro f; rfl
 | cons x r ih => intro f; exact ih _
def qParse (s : Str) : Option Flt := if textOf ((dsplit 32 s).foldl qWord zeroF) = s ∧ fltIs ((dsplit 32 s).foldl qWord zeroF) = true then some ((dsplit 32 s).foldl qWord zeroF) else none
theorem flat_word {w : Str} (h : NoB w) : Flat w := List.all_eq_true.2 fun c hc => by
 have h1 := List.all_eq_true.1 h c hc
 have key : ∀ n : Fin 256, okB (UInt8.ofNat n.val) = true → (!(UInt8.ofNat n.val == 40 || (UInt8.ofNat n.val == 41 || (UInt8.ofNat n.val == 91 || UInt8.ofNat n.val == 93)))) = true := by decide +kernel
 have := key ⟨c.toNat, c.toNat_lt⟩
 rw [UInt8.ofNat_toNat] at this
 exact this h1
theorem Flat.app {a b : Str} (ha : Flat a) (hb : Flat b) : Flat (a ++ b) := by
 unfold Flat at *; rw [List.all_append, ha, hb]; rfl
theorem flat_join : ∀ (l : List Str), (∀ x ∈ l, Flat x) → Flat (Lib.join l [32])
 | [], _ => by rw [Lib.join_nil]; rfl
 | [x], h => by rw [Lib.join_one]; exact h x (by simp)
 | x :: y :: r, h => by
   rw [join_cons2]
   exact ((h x (by simp)).app (by rfl)).app (flat_join (y :: r) (fun z hz => h z (List.mem_cons_of_mem _ hz)))
theorem qParse_text {f : Flt} (h : fltIs f = true) : qParse (textOf f) = some f := by
 obtain ⟨hf, hok⟩ := fltIs_fn h
 have ht : textOf f = fltText (toFN f) := by unfold textOf; rw [if_pos h]
 have hfold := fold_gn _ qWord_ok _ hok
 rw [hf, foldG_total] at hfold
 injection hfold with hfold
 have hF : Flat (fltText (toFN f)) := by
  unfold fltText; split
  ·rfl
  ·exact flat_join _ fun x hx => flat_word (words_noB _ hok x hx)
 have hE : (dsplit 32 (textOf f)).foldl qWord zeroF = f := by
  rw [ht, dsplit_flat _ _ hF]
  by_cases hw : fltWords (toFN f) = []
  ·rw [hw] at hfold
   have : fltText (toFN f) = anyW := by unfold fltText; rw [if_pos hw]
   rw [this, show splitOn 32 anyW = [anyW] from by decide]
   exact (show [anyW].foldl qWord zeroF = zeroF from by kernel_rfl).trans hfold
  ·rw [text_splits _ hok hw]; exact hfold
 unfold qParse; rw [hE, if_pos ⟨rfl, h⟩]
theorem qParse_eq (s : Str) : qParse s = parseS s := by
 cases hp : parseS s with
 | some h =>
   obtain ⟨h1, h2⟩ := parse_back hp
   rw [← h2]; exact qParse_text h1
 | none =>
   cases hq : qParse s with
   | none => rfl
   | some g =>
     unfold qParse at hq; split at hq
     ·rename_i hh
      injection hq with hq
      rw [hq] at hh
      have := parse_text hh.2
      rw [hh.1, hp] at this; cases this
     ·cases hq
end Go.Proofs.YtdnnbfbhifelkaaGreatDoor
namespace Go.Proofs.YtdnnbfbhifelkaaGreatDoor
open Go.ChangeShapes Go.WideShapes Go.RowKit
theorem rSplit32 (s : ByteArray) (w : World) (hs : s.size < 100000000) : Calls Tryz.prog 50 #[.string s, .int .u8 32] w (RetTexts w (dsplit 32 (L s))) :=
 rSplit_any s 32 w hs (by decide)
theorem rIs_v (f : Flt) (R : Bool) (HR : Hid (fltIs f = R)) (w : World) : Calls Tryz.prog 59 #[.agg f.cells] w fun e w' => e = .returned (.bool R) ∧ Below w.heap.size w w' :=
 rIs_any f.zone f.who f.self f.types f.ntypes f.colors f.ncolors f.sub f.keys f.tap f.pk f.pn f.tk f.tn f.vk f.vn w R HR
theorem Fr.setRow {g b : Nat} {w w' : World} (h : Fr g b w w') (cs : Array Value) (hg : b ≤ g := by exact Nat.le_refl _) : Fr g b w (w'.setRow g cs) := ⟨below_setRow h.bel hg cs, fun k hk hkg => (setRow_other w' g k cs (by omega)).trans (h.keep k hk hkg)⟩
theorem dst_mem (c : UInt8) (s : Str) : ∀ i, ∀ x ∈ (dst c s i).1, x.length ≤ s.length
 | 0, x, h => by simp [dst] at h
 | i + 1, x, h => by
   rw [dst] at h; split at h
   ·rcases List.mem_append.1 h with h | h
    ·exact dst_mem c s i x h
    ·rw [List.mem_singleton.1 h]; simp; omega
   ·exact dst_mem c s i x h
theorem dsplit_mem (c : UInt8) (s : Str) : ∀ x ∈ dsplit c s, x.length ≤ s.length := by
 intro x h
 unfold dsplit at h
 rcases List.mem_append.1 h with h | h
 ·exact dst_mem c s _ x h
 ·rw [List.mem_singleton.1 h]; simp
theorem dsplit_len (c : UInt8) (s : Str) : (dsplit c s).length ≤ s.length + 1 := by
 unfold dsplit; have := (dst_le c s s.length).2; simp; omega
theorem drop_foldl {α β : Type} (st : α → β → α) (f : α) (l : List β) (k : Nat) (h : k < l.length) : (l.drop k).foldl st f = (l.drop (k + 1)).foldl st (st f l[k]) := by
 rw [List.drop_eq_getElem_cons h]; rfl
theorem rParse_any (s : ByteArray) (w : World) (hs : s.size < 100000000) :
 Calls Tryz.prog 98 #[.string s] w fun e w' => e = .returned (fltRet (qParse (L s))) ∧ Below w.heap.size w w' := by
 obtain ⟨R, hR⟩ : ∃ R, qParse (L s) = R := ⟨_, rfl⟩
 rw [hR]
 have HR : Hid ((if textOf ((dsplit 32 (L s)).foldl qWord zeroF) = L s ∧ fltIs ((dsplit 32 (L s)).foldl qWord zeroF) = true then some ((dsplit 32 (L s)).foldl qWord zeroF) else none) = R) := Lib.hid hR
 clear hR
 have hlen := dsplit_len 32 (L s)
 have hmem : Hid (∀ x ∈ dsplit 32 (L s), x.length < 100000000) := fun x hx => by have := dsplit_mem 32 (L s) x hx; rw [size_l] at this; omega
 rw [size_l] at hlen
 have HB0 : Hid (Below w.heap.size w ((w.alloc (.cells zeroF.cells TF)).alloc (.cells zeroF.cells TF))) := Lib.hid (((Below.refl _ _).alloc (Nat.le_refl _) _).alloc (by simp) _)
 go_enter Tryz.func98, Tryz.ntmps98
 go_wp2_with (go_at_call 50; refine (rSplit32 _ ((w.alloc (.cells zeroF.cells TF)).alloc (.cells zeroF.cells TF)) hs).mono ?_; rintro e w3 ⟨A, c, rfl, ht, hb3⟩)
 have hr3 := Lib.hid (first_block hb3)
 have R1 : RB w3 (w.heap.size + 1) (fM zeroF 0 0 0 0 0) := second_block hb3
 have HB3 : Hid (Below w.heap.size w w3) := Lib.hid (two_allocs hb3)
 generalize dsplit 32 (L s) = ws at *
 have hbase : Hid (w.heap.size + 2 = ((w.alloc (.cells zeroF.cells TF)).alloc (.cells zeroF.cells TF)).heap.size) := by show _ = _; simp
 have F1 := Fr.refl (w.heap.size + 1) (w.heap.size + 1) w3
 clear hb3
 go_loopw [6] (fun i wr => ∃ k : Nat, ∃ f : Flt, ∃ a b c d e : Nat, k ≤ ws.length ∧ i = .int .i64 k ∧ RB wr (w.heap.size + 1) (fM f a b c d e) ∧ Fr (w.heap.size + 1) (w.heap.size + 1) w3 wr ∧ Hid ((a < 2 ^ 17 ∧ b < 2 ^ 17 ∧ c < 2 ^ 17 ∧ d < 2 ^ 17 ∧ e < 2 ^ 17) ∧ ws.foldl qWord zeroF = (ws.drop k).foldl qWord (fM f a b c d e))) (fun i _ => ws.length - (intOf i).toNat)
 case atStart => exact ⟨0, zeroF, 0, 0, 0, 0, 0, by omega, rfl, R1, F1, Lib.hid ⟨by decide, rfl⟩⟩
 case round =>
  clear R1 F1
  obtain ⟨k, f, a, b, c2, d, e, hk, rfl, R1, F1, HK⟩ := hrel
  have hsz := F1.bel.size
  by_cases hlt : k < ws.length
  ·obtain ⟨g3, rfl, hge, hg3l, hcl⟩ := ht.at3 hlt
   have hcell : wr.cell? ⟨g3, k, none⟩ = some (.string (B ws[k])) := (World.cell?_of_block (w := w3) (a := ⟨g3, k, none⟩) (F1.keep g3 hg3l (by have := hbase.out; omega))).trans hcl
   have hxs : (B ws[k]).size < 100000000 := by rw [B_size]; exact hmem.out _ (List.getElem_mem hlt)
   have HST := Lib.hid (drop_foldl qWord (fM f a b c2 d e) ws k hlt)
   clear hcl ht
   generalize ws[k] = x at *
   have hgw := R1.lt
   have q0 : wr.cell? ⟨w.heap.size + 1, 0, none⟩ = some (.int .i64 f.zone) := R1.cell 0
   have q1 : wr.cell? ⟨w.heap.size + 1, 1, none⟩ = some (.int .i64 f.who) := R1.cell 1
   have q2 : wr.cell? ⟨w.heap.size + 1, 2, none⟩ = some (.int .i64 f.self) := R1.cell 2
   have q3 : wr.cell? ⟨w.heap.size + 1, 3, none⟩ = some (.int .i64 ((a : Nat) : Int)) := R1.cell 3
   have q4 : wr.cell? ⟨w.heap.size + 1, 4, none⟩ = some (.int .i64 ((b : Nat) : Int)) := R1.cell 4
   have q5 : wr.cell? ⟨w.heap.size + 1, 5, none⟩ = some (.int .i64 ((c2 : Nat) : Int)) := R1.cell 5
   have q6 : wr.cell? ⟨w.heap.size + 1, 6, none⟩ = some (.int .i64 ((d : Nat) : Int)) := R1.cell 6
   have q7 : wr.cell? ⟨w.heap.size + 1, 7, none⟩ = some (.string f.sub) := R1.cell 7
   have q8 : wr.cell? ⟨w.heap.size + 1, 8, none⟩ = some (.int .i64 ((e : Nat) : Int)) := R1.cell 8
   have q9 : wr.cell? ⟨w.heap.size + 1, 9, none⟩ = some (.int .i64 f.tap) := R1.cell 9
   have q10 : wr.cell? ⟨w.heap.size + 1, 10, none⟩ = some (.int .i64 f.pk) := R1.cell 10
   have q11 : wr.cell? ⟨w.heap.size + 1, 11, none⟩ = some (.int .i64 f.pn) := R1.cell 11
   have q12 : wr.cell? ⟨w.heap.size + 1, 12, none⟩ = some (.int .i64 f.tk) := R1.cell 12
   have q13 : wr.cell? ⟨w.heap.size + 1, 13, none⟩ = some (.int .i64 f.tn) := R1.cell 13
   have q14 : wr.cell? ⟨w.heap.size + 1, 14, none⟩ = some (.int .i64 f.vk) := R1.cell 14
   have q15 : wr.cell? ⟨w.heap.size + 1, 15, none⟩ = some (.int .i64 f.vn) := R1.cell 15
   go_upto_region 6 with fail
   go_still_tail 5, (by kernel_rfl)
   clear q0 q1 q2 q3 q4 q5 q6 q7 q8 q9 q10 q11 q12 q13 q14 q15
   change wpList _ _ _ _ _ wr.drew
   have R2 : RB wr.drew (w.heap.size + 1) (fM f a b c2 d e) := R1
   have F2 := F1.drew
   have hgl : w.heap.size + 1 ≤ wr.drew.heap.size := Nat.le_of_lt hgw
   obtain ⟨b1, b2, b3, b4, b5⟩ := HK.out.1
   obtain ⟨FF, hF⟩ := fWord_any (B x) f a b c2 d e b1 b2 b3 b4 b5 hxs wr.drew
   have HF := Lib.hid hF
   clear hF R1 F1 hgw hsz b1 b2 b3 b4 b5
   generalize wr.drew = w4 at *
   go_wp2_with fail
   refine HF.out.mono ?_
   rw [L_B]
   rintro e0 w5 ⟨rfl, hb5, a2, bb2, cc2, d2, e2, hform, hbnd⟩
   have HN : Hid ((a2 < 2 ^ 17 ∧ bb2 < 2 ^ 17 ∧ cc2 < 2 ^ 17 ∧ d2 < 2 ^ 17 ∧ e2 < 2 ^ 17) ∧ ws.foldl qWord zeroF = (ws.drop (k + 1)).foldl qWord (fM FF a2 bb2 cc2 d2 e2)) := Lib.hid ⟨hbnd, by rw [HK.out.2, HST.out, hform]⟩
   rw [hform]
   have R3 := Lib.hid (R2.below hb5)
   have F3 := F2.trans (Fr.of hb5 hgl)
   clear hform hbnd HST HK HF R2 F2 hb5
   dsimp only
   go_wp2_with (refine wpList_store_row rfl TF (.tmp 4) (.tmp 20) rfl (w.heap.size + 1) (fM FF a2 bb2 cc2 d2 e2).cells rfl rfl TF (fM f a b c2 d e).cells R3.out infoTF rfl (cells_one _) ?_)
   have R4 : RB (w5.setRow (w.heap.size + 1) (fM FF a2 bb2 cc2 d2 e2).cells) (w.heap.size + 1) (fM FF a2 bb2 cc2 d2 e2) := row_set R3.out
   have F4 := F3.setRow (fM FF a2 bb2 cc2 d2 e2).cells
   clear F3 R3
   go_roundw
   case rel => exact ⟨k + 1, FF, a2, bb2, cc2, d2, e2, by omega, by go_num, R4, F4, HN⟩
   case measure => simp [intOf]; omega
  ·obtain rfl : k = ws.length := by omega
   have HE : Hid (ws.foldl qWord zeroF = fM f a b c2 d e) := Lib.hid (by rw [HK.out.2, List.drop_length]; rfl)
   have HR2 : Hid ((if textOf (fM f a b c2 d e) = L s ∧ fltIs (fM f a b c2 d e) = true then some (fM f a b c2 d e) else none) = R) := Lib.hid (by rw [← HR.out, HE.out])
   have hBr := Lib.hid (HB3.out.trans (F1.bel.mono (Nat.le_succ _)))
   have hrr : Hid (wr.heap[w.heap.size]? = some (.cells zeroF.cells TF (0, 0))) := Lib.hid ((F1.bel.block _ (Nat.lt_succ_self _)).trans hr3.out)
   have hg := Lib.hid R1
   have hgl := R1.lt
   have hwl : w.heap.size < wr.heap.size := by omega
   clear HK HR HE R1 F1
   generalize fM f a b c2 d e = G at *
   cases hv : fltIs G with
   | false =>
     have HV := Lib.hid hv
     have HN : Hid (none = R) := Lib.hid (by rw [← HR2.out, if_neg (by rw [hv]; simp)])
     clear hv
     go_wp2_with (first | refine wpList_load_row rfl TF (.tmp 4) rfl (w.heap.size + 1) rfl TF G.cells (0, 0) _ hg.out Tryz.underlying25 rfl infoTF ?_ | (go_at_call 59; (with_reducible refine (rIs_v G false HV _).mono ?_); rintro e0 w4 ⟨rfl, hb4⟩; have hr4 := Lib.hid ((hb4.block _ hwl).trans hrr.out)) | refine wpList_store_row rfl TF (.tmp 2) (.tmp 30) rfl w.heap.size zeroF.cells rfl rfl TF zeroF.cells hr4.out infoTF rfl (cells_one _) ?_)
     refine bodyPost_ret (results_row_tmp rfl _ _ w.heap.size TF zeroF.cells (0, 0) _ rfl (row_set hr4.out) Tryz.underlying25 rfl infoTF) rfl ⟨?_, below_setRow (below_two hBr.out hb4) (Nat.le_refl _) _⟩
     exact ret_val (by rw [← HN.out]; rfl)
   | true =>
     have HV := Lib.hid hv
     by_cases hT : textOf G = L s
     ·have t3 := toList_yes hT
      have HN : Hid (some G = R) := Lib.hid (by rw [← HR2.out, if_pos ⟨hT, hv⟩])
      clear hT hv
      go_wp2_with (first | refine wpList_load_row rfl TF (.tmp 4) rfl (w.heap.size + 1) rfl TF G.cells (0, 0) _ hg5.out Tryz.underlying25 rfl infoTF ?_ | refine wpList_load_row_g rfl TF (.tmp 4) rfl (w.heap.size + 1) rfl TF G.cells (0, 0) _ hg4.out Tryz.underlying25 rfl infoTF ?_ | refine wpList_load_row rfl TF (.tmp 4) rfl (w.heap.size + 1) rfl TF G.cells (0, 0) _ hg.out Tryz.underlying25 rfl infoTF ?_ | (go_at_call 59; (with_reducible refine (rIs_v G true HV _).mono ?_); rintro e0 w4 ⟨rfl, hb4⟩; have hr4 := Lib.hid ((hb4.block _ hwl).trans hrr.out); have hg4 := Lib.hid ((hb4.block _ hgl).trans hg.out)) | (go_at_call 80; (with_reducible refine (rFltText_any G _).mono ?_); rintro e0 w5 ⟨rfl, hb5⟩; have hr5 := Lib.hid (blk_below2 hb5 hr4.out); have hg5 := Lib.hid (blk_below2 hb5 hg4.out)) | refine wpList_store_row rfl TF (.tmp 2) (.tmp 31) rfl w.heap.size G.cells rfl rfl TF zeroF.cells hr5.out infoTF rfl (cells_one _) ?_)
      refine bodyPost_ret (results_row_tmp rfl _ _ w.heap.size TF G.cells (0, 0) _ rfl (row_set hr5.out) Tryz.underlying25 rfl infoTF) rfl ⟨?_, below_setRow (below_two (below_two hBr.out hb4) hb5) (Nat.le_refl _) _⟩
      exact ret_val (by rw [← HN.out]; rfl)
     ·have t3 := toList_no hT
      have t4 : (!textOf G == s.toList) = true := by rw [t3]; rfl
      have HN : Hid (none = R) := Lib.hid (by rw [← HR2.out, if_neg (fun h => hT h.1)])
      clear hT hv
      go_wp2_with (first | refine wpList_load_row_g rfl TF (.tmp 4) rfl (w.heap.size + 1) rfl TF G.cells (0, 0) _ hg4.out Tryz.underlying25 rfl infoTF ?_ | refine wpList_load_row rfl TF (.tmp 4) rfl (w.heap.size + 1) rfl TF G.cells (0, 0) _ hg.out Tryz.underlying25 rfl infoTF ?_ | (go_at_call 59; (with_reducible refine (rIs_v G true HV _).mono ?_); rintro e0 w4 ⟨rfl, hb4⟩; have hr4 := Lib.hid ((hb4.block _ hwl).trans hrr.out); have hg4 := Lib.hid ((hb4.block _ hgl).trans hg.out)) | (go_at_call 80; (with_reducible refine (rFltText_any G _).mono ?_); rintro e0 w5 ⟨rfl, hb5⟩; have hr5 := Lib.hid (blk_below2 hb5 hr4.out)) | refine wpList_store_row rfl TF (.tmp 2) (.tmp 30) rfl w.heap.size zeroF.cells rfl rfl TF zeroF.cells hr5.out infoTF rfl (cells_one _) ?_)
      refine bodyPost_ret (results_row_tmp rfl _ _ w.heap.size TF zeroF.cells (0, 0) _ rfl (row_set hr5.out) Tryz.underlying25 rfl infoTF) rfl ⟨?_, below_setRow (below_two (below_two hBr.out hb4) hb5) (Nat.le_refl _) _⟩
      exact ret_val (by rw [← HN.out]; rfl)
theorem rCnt_any (c : Int) (w : World) : Calls Tryz.prog 32 #[.int .i64 c] w fun e w' => e = .returned (.string (B (cntText c))) ∧ w = w' := by
 by_cases h0 : c = 0
 ·subst h0
  go_enter Tryz.func32, Tryz.ntmps32
  go_wp2
  go_ret
  exact ⟨rfl, rfl⟩
 by_cases h1 : c = 1
 ·subst h1
  go_enter Tryz.func32, Tryz.ntmps32
  go_wp2
  go_ret
  exact ⟨rfl, rfl⟩
 by_cases h2 : c = 2
 ·subst h2
  go_enter Tryz.func32, Tryz.ntmps32
  go_wp2
  go_ret
  exact ⟨rfl, rfl⟩
 ·have HR : Hid (cntText c = []) := Lib.hid (by unfold cntText; rw [if_neg h0, if_neg h1, if_neg h2])
  have t0 : (c == 0) = false := by simpa using h0
  have t1 : (c == 1) = false := by simpa using h1
  have t2 : (c == 2) = false := by simpa using h2
  generalize cntText c = R at *
  clear h0 h1 h2
  go_enter Tryz.func32, Tryz.ntmps32
  go_wp2
  go_ret
  exact ⟨ret_str (by rw [HR.out]; rfl), rfl⟩
end Go.Proofs.YtdnnbfbhifelkaaGreatDoor
