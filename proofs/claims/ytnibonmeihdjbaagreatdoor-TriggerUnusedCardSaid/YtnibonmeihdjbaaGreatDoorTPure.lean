/- Plain words: conditions of triggered abilities (chapter 18); Parse inverts Text. No program in sight. -/
import Derived.Test.YtnibonmeihdjbaaGreatDoorSPure
import Derived.Lib.CutLaws
namespace Go.Proofs.YtnibonmeihdjbaaGreatDoor
set_option linter.all false
open Go.ChangeShapes Go.WideShapes Go.RowKit
structure Tg where
  k : Int
  who : Int
  f : Flt
def Tg.cells (r : Tg) : Array Value := #[.int .i64 r.k, .int .i64 r.who, .int .i64 r.f.zone, .int .i64 r.f.who, .int .i64 r.f.self, .int .i64 r.f.types, .int .i64 r.f.ntypes, .int .i64 r.f.colors, .int .i64 r.f.ncolors, .string r.f.sub, .int .i64 r.f.keys, .int .i64 r.f.tap, .int .i64 r.f.pk, .int .i64 r.f.pn, .int .i64 r.f.tk, .int .i64 r.f.tn, .int .i64 r.f.vk, .int .i64 r.f.vn]
def zeroT : Tg := ⟨0, 0, zeroF⟩
def verbT : List Str := [[], [101, 110, 116, 101, 114, 115], [108, 101, 97, 118, 101, 115], [100, 105, 101, 115], [97, 116, 116, 97, 99, 107, 115], [98, 108, 111, 99, 107, 115], [100, 101, 97, 108, 115], [100, 101, 97, 108, 116], [100, 114, 97, 119, 115], [99, 97, 115, 116, 115], [117, 112, 107, 101, 101, 112], [101, 110, 100], [103, 97, 105, 110, 115], [108, 111, 115, 101, 115], [112, 108, 97, 99, 101, 100]]
def pwT : List Str := [[97, 110, 121], [121, 111, 117], [111, 112, 112, 111, 110, 101, 110, 116, 115]]
def cutAt (c : UInt8) : Str → Str × Str
  | [] => ([], [])
  | x :: r => if x == c then ([], r) else (x :: (cutAt c r).1, (cutAt c r).2)
theorem index_one (c : UInt8) (s : Str) : (Lib.index s [c] = -1 ∧ cutAt c s = (s, [])) ∨ (∃ i : Nat, Lib.index s [c] = i ∧ cutAt c s = (s.take i, s.drop (i + 1))) := by
  induction s with
  | nil => exact Or.inl ⟨rfl, rfl⟩
  | cons x r ih =>
    by_cases h : x = c
    · subst h
      refine Or.inr ⟨0, ?_, ?_⟩
      · unfold Lib.index; simp [List.isPrefixOf]
      · simp [cutAt]
    · have h1 : (x == c) = false := by simpa using h
      have h2 : List.isPrefixOf [c] (x :: r) = false := by simp [List.isPrefixOf]; exact fun e => h e.symm
      rcases ih with ⟨a, b⟩ | ⟨i, a, b⟩
      · refine Or.inl ⟨?_, ?_⟩
        · unfold Lib.index; rw [h2, a]; rfl
        · rw [cutAt, h1, b]; rfl
      · refine Or.inr ⟨i + 1, ?_, ?_⟩
        · unfold Lib.index; rw [h2, a]
          have : ((i : Int) == -1) = false := by rw [beq_eq_false_iff_ne]; omega
          simp [this]
        · rw [cutAt, h1, b]; simp
theorem cut_one (c : UInt8) (s : Str) : (Lib.cut s [c]).1 = (cutAt c s).1 ∧ (Lib.cut s [c]).2.1 = (cutAt c s).2 := by
  unfold Lib.cut
  rcases index_one c s with ⟨a, b⟩ | ⟨i, a, b⟩
  · rw [a, b, if_neg (by omega)]; exact ⟨rfl, rfl⟩
  · rw [a, b, if_pos (by omega)]; exact ⟨rfl, rfl⟩
theorem cut_len (c : UInt8) (s : Str) : (cutAt c s).1.length ≤ s.length ∧ (cutAt c s).2.length ≤ s.length := by
  rcases index_one c s with ⟨_, b⟩ | ⟨i, _, b⟩
  · rw [b]; simp
  · rw [b]; simp; omega
def usesW (k : Int) : Bool := k == 8 || (k == 9 || (k == 10 || (k == 11 || (k == 12 || k == 13))))
def usesF (k : Int) : Bool := k == 1 || (k == 2 || (k == 3 || (k == 4 || (k == 5 || (k == 6 || (k == 7 || (k == 9 || k == 14)))))))
def whoText (who : Int) : Str := if who = 0 then wd pwT 0 else if who = 1 then wd pwT 1 else if who = 2 then wd pwT 2 else []
/-- A trigger is valid. -/
def tgIs (t : Tg) : Bool :=
  (decide (1 ≤ t.k) && decide (t.k ≤ 14)) && ((usesW t.k || t.who == 0) && ((t.who == 0 || (t.who == 1 || t.who == 2)) && (if usesF t.k = true then fltIs t.f && t.f.zone == (if t.k = 9 then 5 else 0) else fltEq t.f zeroF)))
def tgHead (k who : Int) : Str := wd verbT k.toNat ++ (if usesW k = true then [32] ++ whoText who else [])
def tgTail (f : Flt) : Str := [32, 40] ++ textOf f ++ [41]
def tgBody (t : Tg) : Str := tgHead t.k t.who ++ (if usesF t.k = true then tgTail t.f else [])
/-- A trigger's text; empty if it is not valid. -/
def tgText (t : Tg) : Str := if tgIs t = true then tgBody t else []
def verbIx (v : Str) : Option Nat := (List.range' 1 14).find? fun k => wd verbT k == v
def whoIx (n : Str) : Int := if n = wd pwT 2 then 2 else if n = wd pwT 1 then 1 else 0
/-- Behind the words: the filter in brackets, for the kinds that have one. -/
def readF (k who : Int) (rest : Str) : Option Tg :=
  if usesF k = true then (match parseS (Lib.trimSuffix (Lib.trimPrefix rest [40]) [41]) with | some f => some ⟨k, who, f⟩ | none => none) else some ⟨k, who, zeroF⟩
def readW (k : Int) (rest : Str) : Option Tg := if usesW k = true then readF k (whoIx (cutAt 32 rest).1) (cutAt 32 rest).2 else readF k 0 rest
/-- A trigger whose text may be s. -/
def readTg (s : Str) : Option Tg := match verbIx (cutAt 32 s).1 with | some k => readW k (cutAt 32 s).2 | none => none
def tgParse (s : Str) : Option Tg := match readTg s with | some t => if tgIs t = true ∧ tgText t = s then some t else none | none => none
theorem pre_open (l : Str) : Lib.trimPrefix ([40] ++ l) [40] = l := by
  unfold Lib.trimPrefix
  have : Lib.hasPrefix ([40] ++ l) [40] = true := by unfold Lib.hasPrefix; simp [List.isPrefixOf]
  rw [if_pos this]; simp
theorem readF_tail (k who : Int) (f : Flt) (hk : usesF k = true) (h : fltIs f = true) : readF k who ([40] ++ textOf f ++ [41]) = some ⟨k, who, f⟩ := by
  unfold readF
  rw [if_pos hk, List.append_assoc, pre_open, trim_snoc, parse_text h]
/-- The valid triggers, kind for kind. -/
theorem tgIs_cases {t : Tg} (h : tgIs t = true) :
    (∃ k, (k = 1 ∨ k = 2 ∨ k = 3 ∨ k = 4 ∨ k = 5 ∨ k = 6 ∨ k = 7 ∨ k = 14) ∧ ∃ f, fltIs f = true ∧ f.zone = 0 ∧ t = ⟨k, 0, f⟩) ∨
    (∃ k, (k = 8 ∨ k = 10 ∨ k = 11 ∨ k = 12 ∨ k = 13) ∧ ∃ who, (who = 0 ∨ who = 1 ∨ who = 2) ∧ t = ⟨k, who, zeroF⟩) ∨
    (∃ who, (who = 0 ∨ who = 1 ∨ who = 2) ∧ ∃ f, fltIs f = true ∧ f.zone = 5 ∧ t = ⟨9, who, f⟩) := by
  obtain ⟨k, who, f⟩ := t
  unfold tgIs at h
  simp only [Bool.and_eq_true, decide_eq_true_eq] at h
  obtain ⟨⟨h1, h2⟩, h3, h4, h5⟩ := h
  have hw : who = 0 ∨ who = 1 ∨ who = 2 := by simpa using h4
  by_cases hF : usesF k = true
  · rw [if_pos hF] at h5
    simp only [Bool.and_eq_true, beq_iff_eq] at h5
    obtain ⟨hf, hz⟩ := h5
    by_cases h9 : k = 9
    · subst h9; right; right
      exact ⟨who, hw, f, hf, by simpa using hz, rfl⟩
    · left
      rw [if_neg h9] at hz
      have hW : usesW k = false := by
        unfold usesF at hF; unfold usesW; simp at hF; simp; omega
      rw [hW] at h3
      have h0 : who = 0 := by simpa using h3
      subst h0
      refine ⟨k, ?_, f, hf, hz, rfl⟩
      unfold usesF at hF; simp at hF; omega
  · rw [if_neg hF] at h5
    have hz := (fltEq_iff _ _).1 h5; subst hz
    right; left
    refine ⟨k, ?_, who, hw, rfl⟩
    unfold usesF at hF; simp at hF; omega
theorem readTg_nil : readTg [] = none := by kernel_rfl
theorem rd_1 (f : Flt) : readTg (tgBody ⟨1, 0, f⟩) = readF 1 0 ([40] ++ textOf f ++ [41]) := by kernel_rfl
theorem rd_2 (f : Flt) : readTg (tgBody ⟨2, 0, f⟩) = readF 2 0 ([40] ++ textOf f ++ [41]) := by kernel_rfl
theorem rd_3 (f : Flt) : readTg (tgBody ⟨3, 0, f⟩) = readF 3 0 ([40] ++ textOf f ++ [41]) := by kernel_rfl
theorem rd_4 (f : Flt) : readTg (tgBody ⟨4, 0, f⟩) = readF 4 0 ([40] ++ textOf f ++ [41]) := by kernel_rfl
theorem rd_5 (f : Flt) : readTg (tgBody ⟨5, 0, f⟩) = readF 5 0 ([40] ++ textOf f ++ [41]) := by kernel_rfl
theorem rd_6 (f : Flt) : readTg (tgBody ⟨6, 0, f⟩) = readF 6 0 ([40] ++ textOf f ++ [41]) := by kernel_rfl
theorem rd_7 (f : Flt) : readTg (tgBody ⟨7, 0, f⟩) = readF 7 0 ([40] ++ textOf f ++ [41]) := by kernel_rfl
theorem rd_14 (f : Flt) : readTg (tgBody ⟨14, 0, f⟩) = readF 14 0 ([40] ++ textOf f ++ [41]) := by kernel_rfl
theorem rd_90 (f : Flt) : readTg (tgBody ⟨9, 0, f⟩) = readF 9 0 ([40] ++ textOf f ++ [41]) := by kernel_rfl
theorem rd_91 (f : Flt) : readTg (tgBody ⟨9, 1, f⟩) = readF 9 1 ([40] ++ textOf f ++ [41]) := by kernel_rfl
theorem rd_92 (f : Flt) : readTg (tgBody ⟨9, 2, f⟩) = readF 9 2 ([40] ++ textOf f ++ [41]) := by kernel_rfl
theorem read_tg {t : Tg} (h : tgIs t = true) : readTg (tgText t) = some t := by
  have ht : tgText t = tgBody t := if_pos h
  rw [ht]
  rcases tgIs_cases h with ⟨k, hk, f, hf, _, rfl⟩ | ⟨k, hk, who, hw, rfl⟩ | ⟨who, hw, f, hf, _, rfl⟩
  · rcases hk with rfl | rfl | rfl | rfl | rfl | rfl | rfl | rfl
    · exact (rd_1 f).trans (readF_tail 1 0 f (by decide) hf)
    · exact (rd_2 f).trans (readF_tail 2 0 f (by decide) hf)
    · exact (rd_3 f).trans (readF_tail 3 0 f (by decide) hf)
    · exact (rd_4 f).trans (readF_tail 4 0 f (by decide) hf)
    · exact (rd_5 f).trans (readF_tail 5 0 f (by decide) hf)
    · exact (rd_6 f).trans (readF_tail 6 0 f (by decide) hf)
    · exact (rd_7 f).trans (readF_tail 7 0 f (by decide) hf)
    · exact (rd_14 f).trans (readF_tail 14 0 f (by decide) hf)
  · rcases hk with rfl | rfl | rfl | rfl | rfl <;> rcases hw with rfl | rfl | rfl
    all_goals exact (show readTg _ = some _ from by kernel_rfl)
  · rcases hw with rfl | rfl | rfl
    · exact (rd_90 f).trans (readF_tail 9 0 f (by decide) hf)
    · exact (rd_91 f).trans (readF_tail 9 1 f (by decide) hf)
    · exact (rd_92 f).trans (readF_tail 9 2 f (by decide) hf)
theorem tgParse_text {t : Tg} (h : tgIs t = true) : tgParse (tgText t) = some t := by
  unfold tgParse; rw [read_tg h]; exact if_pos ⟨h, rfl⟩
theorem tgText_ne {t : Tg} (h : tgIs t = true) : tgText t ≠ [] := fun e => by
  have := read_tg h
  rw [e, readTg_nil] at this; cases this
theorem tgText_no {t : Tg} (h : tgIs t = false) : tgText t = [] := if_neg (by rw [h]; decide)
theorem tgParse_back {s : Str} {t : Tg} (h : tgParse s = some t) : tgIs t = true ∧ tgText t = s := by
  unfold tgParse at h; split at h
  · split at h
    · rename_i hh; injection h with h; rw [← h]; exact hh
    · cases h
  · cases h
theorem tgParse_empty : tgParse [] = none := by kernel_rfl
/-- A reading that gives only what has that text, and something where there is such a thing, is tgParse. -/
theorem tgParse_only {s : Str} {o : Option Tg} (h1 : ∀ t, o = some t → tgIs t = true ∧ tgText t = s) (h2 : o = none → ∀ t, tgIs t = true → tgText t = s → False) : o = tgParse s := by
  cases ho : o with
  | some t =>
    obtain ⟨a, b⟩ := h1 t ho
    rw [← b, tgParse_text a]
  | none =>
    cases hp : tgParse s with
    | none => rfl
    | some t => obtain ⟨a, b⟩ := tgParse_back hp; exact absurd b (fun b => h2 ho t a b)
end Go.Proofs.YtnibonmeihdjbaaGreatDoor
