/- Plain words: a text cut at a byte outside brackets. No program in sight. -/
import Derived.Test.YthpleohkngfdfaaGreatDoorSplit
namespace Go.Proofs.YthpleohkngfdfaaGreatDoor
set_option linter.all false
/- A text cut at a byte outside brackets. -/
def depStep (n : Nat) (c : UInt8) : Nat := if c == 40 || c == 91 then n + 1 else if (c == 41 || c == 93) && 0 < n then n - 1 else n
def depS (l : Str) : Nat := l.foldl depStep 0
theorem depS_snoc (l : Str) (c : UInt8) : depS (l ++ [c]) = depStep (depS l) c := by unfold depS; rw [List.foldl_append]; rfl
def dst (c : UInt8) (s : Str) : Nat → List Str × Nat
  | 0 => ([], 0)
  | i + 1 => if s.getD i 0 == c && depS (s.take i) == 0 then ((dst c s i).1 ++ [(s.take i).drop (dst c s i).2], i + 1) else dst c s i
def dsplit (c : UInt8) (s : Str) : List Str := (dst c s s.length).1 ++ [s.drop (dst c s s.length).2]
/-- No bracket. -/
def Flat (s : Str) : Prop := s.all (fun c => !(c == 40 || (c == 41 || (c == 91 || c == 93)))) = true
theorem dep_flat : ∀ (l : Str), Flat l → ∀ n, l.foldl depStep n = n
  | [], _, n => rfl
  | x :: r, h, n => by
    unfold Flat at h; rw [List.all_cons, Bool.and_eq_true] at h
    have hx : depStep n x = n := by
      have := h.1
      simp only [Bool.not_eq_true', Bool.or_eq_false_iff, beq_eq_false_iff_ne] at this
      unfold depStep; simp [this]
    rw [List.foldl_cons, hx]; exact dep_flat r h.2 n
theorem Flat.take {s : Str} (h : Flat s) (i : Nat) : Flat (s.take i) := List.all_eq_true.2 fun c hc => List.all_eq_true.1 h c (List.mem_of_mem_take hc)
theorem dst_inv (c : UInt8) (s : Str) (h : Flat s) : ∀ i, i ≤ s.length → (dst c s i).2 ≤ i ∧ c ∉ (s.take i).drop (dst c s i).2 ∧ (dst c s i).1 ++ splitOn c (s.drop (dst c s i).2) = splitOn c s
  | 0, _ => by simp [dst]
  | i + 1, hi => by
    obtain ⟨h1, h2, h3⟩ := dst_inv c s h i (by omega)
    have hd : depS (s.take i) = 0 := dep_flat _ (h.take i) 0
    have hsi : s.getD i 0 = s[i] := by simp [List.getD, List.getElem?_eq_getElem (show i < s.length by omega)]
    have ht : s.take (i + 1) = s.take i ++ [s[i]] := List.take_succ_eq_append_getElem (by omega)
    rw [dst, hd, hsi]
    by_cases hc : s[i] = c
    · rw [if_pos (by simp [hc])]
      refine ⟨Nat.le_refl _, ?_, ?_⟩
      · rw [List.drop_eq_nil_of_le (by simp; omega)]; simp
      · rw [← h3]
        have e : ∀ q, q ≤ i → s.drop q = (s.take i).drop q ++ c :: s.drop (i + 1) := by
          intro q hq
          have e1 : s = s.take i ++ s[i] :: s.drop (i + 1) := by rw [← List.drop_eq_getElem_cons (by omega), List.take_append_drop]
          have e2 := congrArg (List.drop q) e1
          rw [List.drop_append_of_le_length (by simp; omega), hc] at e2
          exact e2
        rw [e _ h1, splitOn_word c _ _ h2, List.append_assoc]; rfl
    · rw [if_neg (by simp [hc])]
      refine ⟨by omega, ?_, h3⟩
      rw [ht, List.drop_append_of_le_length (by simp; omega)]
      intro hm; rcases List.mem_append.1 hm with hm | hm
      · exact h2 hm
      · rw [List.mem_singleton] at hm; exact hc hm.symm
theorem dsplit_flat (c : UInt8) (s : Str) (h : Flat s) : dsplit c s = splitOn c s := by
  obtain ⟨h1, h2, h3⟩ := dst_inv c s h s.length (Nat.le_refl _)
  rw [List.take_length] at h2
  rw [← h3, splitOn_none c _ h2]; rfl
end Go.Proofs.YthpleohkngfdfaaGreatDoor
