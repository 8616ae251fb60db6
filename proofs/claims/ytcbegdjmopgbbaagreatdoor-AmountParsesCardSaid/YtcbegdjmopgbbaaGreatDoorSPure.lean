/- Plain words: references to players and objects (chapter 16); Parse inverts Text. No program in sight. -/
import Derived.Test.YtcbegdjmopgbbaaGreatDoorPlain
import Derived.Test.YtcbegdjmopgbbaaGreatDoorFil
import Derived.Lib.Strings
namespace Go.Proofs.YtcbegdjmopgbbaaGreatDoor
set_option linter.all false
open Go.ChangeShapes Go.WideShapes Go.RowKit
structure Rf where
  kind : Int
  n : Int
  f : Flt
def Rf.cells (r : Rf) : Array Value := #[.int .i64 r.kind, .int .i64 r.n, .int .i64 r.f.zone, .int .i64 r.f.who, .int .i64 r.f.self, .int .i64 r.f.types, .int .i64 r.f.ntypes, .int .i64 r.f.colors, .int .i64 r.f.ncolors, .string r.f.sub, .int .i64 r.f.keys, .int .i64 r.f.tap, .int .i64 r.f.pk, .int .i64 r.f.pn, .int .i64 r.f.tk, .int .i64 r.f.tn, .int .i64 r.f.vk, .int .i64 r.f.vn]
def zeroR : Rf := ⟨0, 0, zeroF⟩
def refT : List Str := [[], [121, 111, 117], [115, 101, 108, 102], [116, 97, 114, 103, 101, 116], [101, 97, 99, 104, 40], [111, 112, 112, 111, 110, 101, 110, 116, 115], [112, 108, 97, 121, 101, 114, 115], [105, 116], [111, 119, 110, 101, 114]]
def eachW : Str := [101, 97, 99, 104, 40]
def targetW : Str := [116, 97, 114, 103, 101, 116]
def ownerW : Str := [111, 119, 110, 101, 114]
def kNum (k : Int) : Bool := k == 3 || k == 8
def kBare (k : Int) : Bool := k == 1 || (k == 2 || (k == 5 || (k == 6 || k == 7)))
/-- A reference is valid for a number of targets. -/
def refIs (r : Rf) (specs : Int) : Bool :=
  if kNum r.kind = true then decide (1 ≤ r.n) && (decide (r.n ≤ specs) && (decide (r.n ≤ 4) && fltEq r.f zeroF))
  else if r.kind = 4 then r.n == 0 && fltIs r.f
  else kBare r.kind && (r.n == 0 && fltEq r.f zeroF)
def refBody (r : Rf) : Str :=
  if kNum r.kind = true then wd refT r.kind.toNat ++ Lib.itoa r.n
  else if r.kind = 4 then eachW ++ textOf r.f ++ [41] else wd refT r.kind.toNat
/-- A reference's text; empty if it is not valid. -/
def refText (r : Rf) : Str := if refIs r 4 = true then refBody r else []
/-- The filter in brackets. -/
def readEach (s : Str) : Option Flt := if Lib.hasPrefix s eachW = true ∧ Lib.hasSuffix (Lib.trimPrefix s eachW) [41] = true then parseS (Lib.trimSuffix (Lib.trimPrefix s eachW) [41]) else none
def readNum (s p : Str) : Option Int := if Lib.hasPrefix s p = true then numOf (Lib.trimPrefix s p) else none
/-- A reference whose text may be s. -/
def readR (s : Str) : Rf :=
  if s = wd refT 1 then ⟨1, 0, zeroF⟩ else if s = wd refT 2 then ⟨2, 0, zeroF⟩ else if s = wd refT 5 then ⟨5, 0, zeroF⟩ else if s = wd refT 6 then ⟨6, 0, zeroF⟩ else if s = wd refT 7 then ⟨7, 0, zeroF⟩
  else match readNum s targetW with
    | some n => ⟨3, n, zeroF⟩
    | none => match readNum s ownerW with
      | some n => ⟨8, n, zeroF⟩
      | none => match readEach s with
        | some f => ⟨4, 0, f⟩
        | none => zeroR
def refParse (s : Str) : Option Rf := if refIs (readR s) 4 = true ∧ refText (readR s) = s then some (readR s) else none
theorem itoa_1 : Lib.itoa 1 = [49] := by unfold Lib.itoa; rw [if_neg (by decide)]; exact Lib.decDigits_one (by decide)
theorem itoa_2 : Lib.itoa 2 = [50] := by unfold Lib.itoa; rw [if_neg (by decide)]; exact Lib.decDigits_one (by decide)
theorem itoa_3 : Lib.itoa 3 = [51] := by unfold Lib.itoa; rw [if_neg (by decide)]; exact Lib.decDigits_one (by decide)
theorem itoa_4 : Lib.itoa 4 = [52] := by unfold Lib.itoa; rw [if_neg (by decide)]; exact Lib.decDigits_one (by decide)
theorem suffix_snoc (l : Str) : Lib.hasSuffix (l ++ [41]) [41] = true := by unfold Lib.hasSuffix; simp [List.isSuffixOf]
theorem trim_snoc (l : Str) : Lib.trimSuffix (l ++ [41]) [41] = l := by unfold Lib.trimSuffix; rw [if_pos (suffix_snoc l)]; simp
theorem pre_each (l : Str) : Lib.hasPrefix (eachW ++ l) eachW = true := by unfold Lib.hasPrefix; simp [List.isPrefixOf, eachW]
theorem trim_each (l : Str) : Lib.trimPrefix (eachW ++ l) eachW = l := by unfold Lib.trimPrefix; rw [if_pos (pre_each l)]; simp [eachW]
theorem readEach_text (l : Str) : readEach (eachW ++ l ++ [41]) = parseS l := by
  unfold readEach; rw [List.append_assoc, pre_each, trim_each, suffix_snoc, trim_snoc, if_pos ⟨rfl, rfl⟩]
/-- The valid references, kind for kind. -/
theorem refIs_cases {r : Rf} (h : refIs r 4 = true) : r = ⟨1, 0, zeroF⟩ ∨ r = ⟨2, 0, zeroF⟩ ∨ r = ⟨5, 0, zeroF⟩ ∨ r = ⟨6, 0, zeroF⟩ ∨ r = ⟨7, 0, zeroF⟩ ∨ (r = ⟨3, 1, zeroF⟩ ∨ r = ⟨3, 2, zeroF⟩ ∨ r = ⟨3, 3, zeroF⟩ ∨ r = ⟨3, 4, zeroF⟩) ∨ (r = ⟨8, 1, zeroF⟩ ∨ r = ⟨8, 2, zeroF⟩ ∨ r = ⟨8, 3, zeroF⟩ ∨ r = ⟨8, 4, zeroF⟩) ∨ ∃ f, fltIs f = true ∧ r = ⟨4, 0, f⟩ := by
  obtain ⟨k, n, f⟩ := r
  unfold refIs kNum kBare at h
  simp only at h
  by_cases h3 : k = 3
  · subst h3
    simp only [beq_self_eq_true, Bool.true_or, if_true, Bool.and_eq_true, decide_eq_true_eq] at h
    obtain ⟨h1, h2, _, hf⟩ := h
    have hf := (fltEq_iff _ _).1 hf; subst hf
    have : n = 1 ∨ n = 2 ∨ n = 3 ∨ n = 4 := by omega
    rcases this with rfl | rfl | rfl | rfl <;> simp
  · by_cases h8 : k = 8
    · subst h8
      simp only [beq_self_eq_true, Bool.or_true, if_true, Bool.and_eq_true, decide_eq_true_eq] at h
      obtain ⟨h1, h2, _, hf⟩ := h
      have hf := (fltEq_iff _ _).1 hf; subst hf
      have : n = 1 ∨ n = 2 ∨ n = 3 ∨ n = 4 := by omega
      rcases this with rfl | rfl | rfl | rfl <;> simp
    · rw [if_neg (by simp [h3, h8])] at h
      by_cases h4 : k = 4
      · subst h4
        rw [if_pos rfl, Bool.and_eq_true, beq_iff_eq] at h
        obtain ⟨rfl, hf⟩ := h
        right; right; right; right; right; right; right
        exact ⟨f, hf, rfl⟩
      · rw [if_neg h4] at h
        simp only [Bool.and_eq_true, Bool.or_eq_true, beq_iff_eq] at h
        obtain ⟨hk, rfl, hf⟩ := h
        have hf := (fltEq_iff _ _).1 hf; subst hf
        rcases hk with rfl | rfl | rfl | rfl | rfl <;> simp
theorem read_each (f : Flt) (h : fltIs f = true) : readR (eachW ++ textOf f ++ [41]) = ⟨4, 0, f⟩ := by
  have e1 : readEach (eachW ++ textOf f ++ [41]) = some f := by rw [readEach_text, parse_text h]
  unfold readR
  rw [e1]
  have n1 : readNum (eachW ++ textOf f ++ [41]) targetW = none := rfl
  have n2 : readNum (eachW ++ textOf f ++ [41]) ownerW = none := rfl
  rw [n1, n2]
  rw [if_neg (by simp [eachW, refT, wd]), if_neg (by simp [eachW, refT, wd]), if_neg (by simp [eachW, refT, wd]), if_neg (by simp [eachW, refT, wd]), if_neg (by simp [eachW, refT, wd])]
/-- P16.3: what is read of a valid reference's text is the reference. -/
theorem read_text {r : Rf} (h : refIs r 4 = true) : readR (refText r) = r ∧ refText r ≠ [] := by
  have ht : refText r = refBody r := if_pos h
  rw [ht]
  rcases refIs_cases h with rfl | rfl | rfl | rfl | rfl | (rfl | rfl | rfl | rfl) | (rfl | rfl | rfl | rfl) | ⟨f, hf, rfl⟩
  · exact ⟨by kernel_rfl, by decide⟩
  · exact ⟨by kernel_rfl, by decide⟩
  · exact ⟨by kernel_rfl, by decide⟩
  · exact ⟨by kernel_rfl, by decide⟩
  · exact ⟨by kernel_rfl, by decide⟩
  · exact ⟨by kernel_rfl, by decide +kernel⟩
  · exact ⟨by kernel_rfl, by decide +kernel⟩
  · exact ⟨by kernel_rfl, by decide +kernel⟩
  · exact ⟨by kernel_rfl, by decide +kernel⟩
  · exact ⟨by kernel_rfl, by decide +kernel⟩
  · exact ⟨by kernel_rfl, by decide +kernel⟩
  · exact ⟨by kernel_rfl, by decide +kernel⟩
  · exact ⟨by kernel_rfl, by decide +kernel⟩
  · have e : refBody ⟨4, 0, f⟩ = eachW ++ textOf f ++ [41] := rfl
    rw [e]
    exact ⟨read_each f hf, by simp [eachW]⟩
theorem refParse_text {r : Rf} (h : refIs r 4 = true) : refParse (refText r) = some r := by
  unfold refParse; rw [(read_text h).1, if_pos ⟨h, rfl⟩]
theorem refText_ne {r : Rf} (h : refIs r 4 = true) : refText r ≠ [] := (read_text h).2
theorem refText_no {r : Rf} (h : refIs r 4 = false) : refText r = [] := if_neg (by rw [h]; decide)
theorem refParse_back {s : Str} {r : Rf} (h : refParse s = some r) : refIs r 4 = true ∧ refText r = s := by
  unfold refParse at h; split at h
  · rename_i hh; injection h with h; rw [← h]; exact hh
  · cases h
theorem refParse_empty : refParse [] = none := by kernel_rfl
end Go.Proofs.YtcbegdjmopgbbaaGreatDoor
