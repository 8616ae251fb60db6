/- Plain words: how the reference reads a reference (chapter 16); it reads as the program does. No program in sight. -/
import Derived.Test.YtbiakbogpbncfaaGreatDoorSPure
namespace Go.Proofs.YtbiakbogpbncfaaGreatDoor
set_option linter.all false
open Go.ChangeShapes Go.WideShapes Go.RowKit
def rowOf (k n : Nat) : Rf := ⟨(k : Int), (n : Int), zeroF⟩
/-- The test of the reference's loops. -/
def qHit (s : Str) (p : Nat × Nat) : Bool := !(p.1 == 4) && (refIs (rowOf p.1 p.2) 4 && refText (rowOf p.1 p.2) == s)
def candN (k n : Nat) : List (Nat × Nat) := (List.range' n (5 - n)).map fun m => (k, m)
def candK : Nat → Nat → List (Nat × Nat)
  | _, 0 => []
  | k, j + 1 => candN k 0 ++ candK (k + 1) j
def qLoop (s : Str) : Option (Nat × Nat) := (candK 1 8).find? (qHit s)
def qInner (s : Str) : Str := (s.take (s.length - 1)).drop 5
def qShape (s : Str) : Bool := !decide (s.length < 6) && (s.take 5 == eachW && byt s (s.length - 1) == 41)
def qRefParse (s : Str) : Option Rf := match qLoop s with
  | some p => some (rowOf p.1 p.2)
  | none => if qShape s = true then (match parseS (qInner s) with | some f => some ⟨4, 0, f⟩ | none => none) else none
theorem qLoop_some {s : Str} {p : Nat × Nat} (h : qLoop s = some p) : refIs (rowOf p.1 p.2) 4 = true ∧ refText (rowOf p.1 p.2) = s := by
  have := List.find?_some h
  unfold qHit at this
  simp only [Bool.and_eq_true, beq_iff_eq] at this
  exact this.2
theorem cand_mem {k n : Nat} (h1 : 1 ≤ k) (h2 : k ≤ 8) (h3 : n ≤ 4) : (k, n) ∈ candK 1 8 := by
  have : ∀ k : Fin 9, ∀ n : Fin 5, 1 ≤ k.val → (k.val, n.val) ∈ candK 1 8 := by decide +kernel
  exact this ⟨k, by omega⟩ ⟨n, by omega⟩ h1
theorem shape_each (l : Str) (h : l ≠ []) : qShape (eachW ++ l ++ [41]) = true := by
  unfold qShape
  have hl : 0 < l.length := List.length_pos_iff.2 h
  have e1 : (eachW ++ l ++ [41]).length = l.length + 6 := by simp [eachW]
  have e2 : (eachW ++ l ++ [41]).take 5 = eachW := by rw [List.append_assoc]; rfl
  have e3 : byt (eachW ++ l ++ [41]) (l.length + 6 - 1) = 41 := by
    unfold byt
    have : (eachW ++ l ++ [41]).getD (l.length + 6 - 1) 0 = 41 := by
      rw [List.getD, List.getElem?_append_right (by simp [eachW])]
      simp [eachW]
    rw [this]; rfl
  rw [e1, e2, e3]; simp
theorem inner_each (l : Str) : qInner (eachW ++ l ++ [41]) = l := by
  unfold qInner
  have e1 : (eachW ++ l ++ [41]).length - 1 = (eachW ++ l).length := by simp
  rw [e1, List.take_left]
  rfl
theorem shape_split {s : Str} (h : qShape s = true) : s = eachW ++ qInner s ++ [41] := by
  unfold qShape at h
  simp only [Bool.and_eq_true, Bool.not_eq_true', decide_eq_false_iff_not, beq_iff_eq] at h
  obtain ⟨h1, h2, h3⟩ := h
  have a1 : s.take (s.length - 1) ++ [s.getD (s.length - 1) 0] = s := by
    have := List.take_succ_eq_append_getElem (l := s) (i := s.length - 1) (by omega)
    rw [show s.length - 1 + 1 = s.length by omega, List.take_length] at this
    rw [show s.getD (s.length - 1) 0 = s[s.length - 1] from by simp [List.getD, show s.length - 1 < s.length by omega]]
    exact this.symm
  have a2 : s.getD (s.length - 1) 0 = 41 := by
    unfold byt at h3
    exact UInt8.toNat_inj.1 h3
  rw [a2] at a1
  have a3 : s.take (s.length - 1) = eachW ++ qInner s := by
    unfold qInner
    have := List.take_append_drop 5 (s.take (s.length - 1))
    rw [List.take_take, show min 5 (s.length - 1) = 5 by omega, h2] at this
    exact this.symm
  rw [a3] at a1
  exact a1.symm
theorem qRefParse_eq (s : Str) : qRefParse s = refParse s := by
  have sound : ∀ r, qRefParse s = some r → refIs r 4 = true ∧ refText r = s := by
    intro r h
    unfold qRefParse at h
    cases hl : qLoop s with
    | some p => rw [hl] at h; injection h with h; rw [← h]; exact qLoop_some hl
    | none =>
      rw [hl] at h; simp only at h
      split at h
      · rename_i hs
        cases hp : parseS (qInner s) with
        | some f =>
          rw [hp] at h; injection h with h
          obtain ⟨g1, g2⟩ := parse_back hp
          have hv : refIs ⟨4, 0, f⟩ 4 = true := by
            unfold refIs kNum; simp [g1]
          rw [← h]
          refine ⟨hv, ?_⟩
          have e : refText ⟨4, 0, f⟩ = eachW ++ textOf f ++ [41] := if_pos hv
          rw [e, g2]; exact (shape_split hs).symm
        | none => rw [hp] at h; cases h
      · cases h
  cases hp : refParse s with
  | some r =>
    obtain ⟨h1, h2⟩ := refParse_back hp
    cases hq : qRefParse s with
    | some q =>
      obtain ⟨g1, g2⟩ := sound q hq
      have a := refParse_text g1
      rw [g2, hp] at a
      exact a.symm
    | none =>
      exfalso
      have hit : ∀ k n : Nat, 1 ≤ k → k ≤ 8 → k ≠ 4 → n ≤ 4 → r = rowOf k n → False := by
        intro k n k1 k2 k4 n4 e
        have hm := cand_mem k1 k2 n4
        unfold qRefParse at hq
        cases hl : qLoop s with
        | some p => rw [hl] at hq; cases hq
        | none =>
          have := List.find?_eq_none.1 hl _ hm
          apply this
          unfold qHit
          rw [e] at h1 h2
          simp [k4, h1, h2]
      rcases refIs_cases h1 with e | e | e | e | e | (e | e | e | e) | (e | e | e | e) | ⟨f, hf, e⟩
      · exact hit 1 0 (by omega) (by omega) (by omega) (by omega) e
      · exact hit 2 0 (by omega) (by omega) (by omega) (by omega) e
      · exact hit 5 0 (by omega) (by omega) (by omega) (by omega) e
      · exact hit 6 0 (by omega) (by omega) (by omega) (by omega) e
      · exact hit 7 0 (by omega) (by omega) (by omega) (by omega) e
      · exact hit 3 1 (by omega) (by omega) (by omega) (by omega) e
      · exact hit 3 2 (by omega) (by omega) (by omega) (by omega) e
      · exact hit 3 3 (by omega) (by omega) (by omega) (by omega) e
      · exact hit 3 4 (by omega) (by omega) (by omega) (by omega) e
      · exact hit 8 1 (by omega) (by omega) (by omega) (by omega) e
      · exact hit 8 2 (by omega) (by omega) (by omega) (by omega) e
      · exact hit 8 3 (by omega) (by omega) (by omega) (by omega) e
      · exact hit 8 4 (by omega) (by omega) (by omega) (by omega) e
      · subst e
        have e : refText ⟨4, 0, f⟩ = eachW ++ textOf f ++ [41] := if_pos h1
        rw [e] at h2
        subst h2
        unfold qRefParse at hq
        cases hl : qLoop (eachW ++ textOf f ++ [41]) with
        | some p => rw [hl] at hq; cases hq
        | none =>
          rw [hl] at hq; simp only at hq
          rw [if_pos (shape_each _ (text_ne hf)), inner_each, parse_text hf] at hq
          cases hq
  | none =>
    cases hq : qRefParse s with
    | none => rfl
    | some q =>
      obtain ⟨g1, g2⟩ := sound q hq
      have a := refParse_text g1
      rw [g2, hp] at a
      cases a
end Go.Proofs.YtbiakbogpbncfaaGreatDoor
