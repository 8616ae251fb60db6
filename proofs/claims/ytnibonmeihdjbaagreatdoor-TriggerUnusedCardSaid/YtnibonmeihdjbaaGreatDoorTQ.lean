/- Plain words: how the reference reads a trigger (chapter 18); it reads as the program does. No program in sight. -/
import Derived.Test.YtnibonmeihdjbaaGreatDoorTPure
namespace Go.Proofs.YtnibonmeihdjbaaGreatDoor
set_option linter.all false
open Go.ChangeShapes Go.WideShapes Go.RowKit
def tgBegin (k who : Nat) : Str := tgHead k who ++ [32, 40]
def tgGo (s : Str) (k who : Nat) : Bool := usesF k && (decide ((tgBegin k who).length < s.length) && (s.take (tgBegin k who).length == tgBegin k who))
def tgMid (s : Str) (k who : Nat) : Str := (s.take (s.length - 1)).drop (tgBegin k who).length
/-- What the reference tries for a kind and a player. -/
def candT (s : Str) (p : Nat × Nat) : Tg := if tgGo s p.1 p.2 = true then ⟨(p.1 : Int), (p.2 : Int), (parseS (tgMid s p.1 p.2)).getD zeroF⟩ else ⟨(p.1 : Int), (p.2 : Int), zeroF⟩
def hitT (s : Str) (p : Nat × Nat) : Bool := tgIs (candT s p) && tgText (candT s p) == s
def candN3 (k n : Nat) : List (Nat × Nat) := (List.range' n (3 - n)).map fun m => (k, m)
def candK3 : Nat → Nat → List (Nat × Nat)
  | _, 0 => []
  | k, j + 1 => candN3 k 0 ++ candK3 (k + 1) j
def findT (s : Str) : Option (Nat × Nat) := (candK3 1 14).find? (hitT s)
def qTg (s : Str) : Option Tg := match findT s with | some p => some (candT s p) | none => none
theorem cand3_step {k n : Nat} (h : n < 3) : candN3 k n = (k, n) :: candN3 k (n + 1) := by
  unfold candN3; rw [show 3 - n = (3 - (n + 1)) + 1 by omega, List.range'_succ]; rfl
theorem cand3_no {s : Str} {k n : Nat} {o : Option (Nat × Nat)} {m : List (Nat × Nat)} (h : n < 3) (hq : hitT s (k, n) = false) (ho : o = (candN3 k n ++ m).find? (hitT s)) : o = (candN3 k (n + 1) ++ m).find? (hitT s) := by
  rw [ho, cand3_step h, List.cons_append, List.find?_cons, hq]
theorem cand3_yes {s : Str} {k n : Nat} {o : Option (Nat × Nat)} {m : List (Nat × Nat)} (h : n < 3) (hq : hitT s (k, n) = true) (ho : o = (candN3 k n ++ m).find? (hitT s)) : o = some (k, n) := by
  rw [ho, cand3_step h, List.cons_append, List.find?_cons, hq]
theorem cand3_mem {k n : Nat} (h1 : 1 ≤ k) (h2 : k ≤ 14) (h3 : n ≤ 2) : (k, n) ∈ candK3 1 14 := by
  have : ∀ k : Fin 15, ∀ n : Fin 3, 1 ≤ k.val → (k.val, n.val) ∈ candK3 1 14 := by decide +kernel
  exact this ⟨k, by omega⟩ ⟨n, by omega⟩ h1
theorem tg_range {t : Tg} (h : tgIs t = true) : ∃ k n : Nat, 1 ≤ k ∧ k ≤ 14 ∧ n ≤ 2 ∧ t.k = k ∧ t.who = n := by
  unfold tgIs at h
  simp only [Bool.and_eq_true, Bool.or_eq_true, decide_eq_true_eq, beq_iff_eq] at h
  obtain ⟨⟨h1, h2⟩, _, h4, _⟩ := h
  exact ⟨t.k.toNat, t.who.toNat, by omega, by omega, by omega, by omega, by omega⟩
theorem cand_self {t : Tg} (h : tgIs t = true) {k n : Nat} (hk : t.k = k) (hn : t.who = n) : candT (tgText t) (k, n) = t := by
  have ht : tgText t = tgBody t := if_pos h
  obtain ⟨a, b, f⟩ := t
  simp only at hk hn
  subst hk hn
  cases hF : usesF (k : Int) with
  | false =>
    have hf : f = zeroF := by
      have h' := h
      unfold tgIs at h'
      simp only [Bool.and_eq_true] at h'
      have h5 := h'.2.2.2
      rw [if_neg (by rw [hF]; simp)] at h5
      exact (fltEq_iff _ _).1 h5
    subst hf
    unfold candT tgGo; rw [hF]; rfl
  | true =>
    have hf : fltIs f = true := by
      have h' := h
      unfold tgIs at h'
      simp only [Bool.and_eq_true] at h'
      have h5 := h'.2.2.2
      rw [if_pos hF] at h5
      exact (Bool.and_eq_true _ _ |>.mp h5).1
    have hb : tgText ⟨(k : Int), (n : Int), f⟩ = tgBegin k n ++ (textOf f ++ [41]) := by
      rw [ht]; unfold tgBody tgBegin tgTail; rw [if_pos hF]; simp
    have hg : tgGo (tgText ⟨(k : Int), (n : Int), f⟩) k n = true := by
      unfold tgGo
      rw [hb, hF, List.take_left, decide_eq_true (by simp)]; simp
    have hm : tgMid (tgText ⟨(k : Int), (n : Int), f⟩) k n = textOf f := by
      unfold tgMid
      rw [hb, ← List.append_assoc]
      have e : (tgBegin k n ++ textOf f ++ [41]).length - 1 = (tgBegin k n ++ textOf f).length := by simp
      rw [e, List.take_left, List.drop_left]
    unfold candT
    rw [if_pos hg, hm, parse_text hf]; rfl
theorem qTg_eq (s : Str) : qTg s = tgParse s := by
  apply tgParse_only
  · intro t h
    unfold qTg at h
    cases hf : findT s with
    | none => rw [hf] at h; cases h
    | some p =>
      rw [hf] at h
      have := List.find?_some hf
      unfold hitT at this
      simp only [Bool.and_eq_true, beq_iff_eq] at this
      injection h with h; rw [← h]; exact this
  · intro h t hv ht
    unfold qTg at h
    cases hf : findT s with
    | some p => rw [hf] at h; cases h
    | none =>
      obtain ⟨k, n, h1, h2, h3, hk, hn⟩ := tg_range hv
      have := List.find?_eq_none.1 hf _ (cand3_mem h1 h2 h3)
      apply this
      have hc := cand_self hv hk hn
      rw [ht] at hc
      unfold hitT
      rw [hc, hv, ht]; simp
end Go.Proofs.YtnibonmeihdjbaaGreatDoor
