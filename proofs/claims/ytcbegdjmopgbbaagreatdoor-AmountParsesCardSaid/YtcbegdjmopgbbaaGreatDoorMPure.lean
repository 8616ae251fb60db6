/- Plain words: amounts (chapter 14); Parse inverts Text. No program in sight. -/
import Derived.Test.YtcbegdjmopgbbaaGreatDoorSPure
import Derived.Test.YtcbegdjmopgbbaaGreatDoorKeys
namespace Go.Proofs.YtcbegdjmopgbbaaGreatDoor
set_option linter.all false
open Go.ChangeShapes Go.WideShapes Go.RowKit
structure Am where
  k : Int
  n : Int
  c : Int
  f : Flt
def Am.cells (r : Am) : Array Value := #[.int .i64 r.k, .int .i64 r.n, .int .i64 r.c, .int .i64 r.f.zone, .int .i64 r.f.who, .int .i64 r.f.self, .int .i64 r.f.types, .int .i64 r.f.ntypes, .int .i64 r.f.colors, .int .i64 r.f.ncolors, .string r.f.sub, .int .i64 r.f.keys, .int .i64 r.f.tap, .int .i64 r.f.pk, .int .i64 r.f.pn, .int .i64 r.f.tk, .int .i64 r.f.tn, .int .i64 r.f.vk, .int .i64 r.f.vn]
def zeroA : Am := ⟨0, 0, 0, zeroF⟩
def simT : List Str := [[], [120], [], [112, 111, 119, 101, 114], [], [108, 105, 102, 101], [104, 97, 110, 100], [116, 104, 97, 116]]
def cntT : List Str := [[112, 108, 117, 115], [109, 105, 110, 117, 115], [99, 104, 97, 114, 103, 101]]
def cntsW : Str := [99, 111, 117, 110, 116, 101, 114, 115, 40]
def countW : Str := [99, 111, 117, 110, 116, 40]
def bareA (k : Int) : Bool := k == 1 || (k == 3 || (k == 5 || (k == 6 || k == 7)))
/-- An amount is valid. -/
def amIs (a : Am) : Bool :=
  if a.k = 0 then decide (0 ≤ a.n) && (decide (a.n ≤ 1000000) && (a.c == 0 && fltEq a.f zeroF))
  else if a.k = 2 then decide (1 ≤ a.n) && (decide (a.n ≤ 99) && (a.c == 0 && fltIs a.f))
  else if a.k = 4 then a.n == 0 && ((a.c == 0 || (a.c == 1 || a.c == 2)) && fltEq a.f zeroF)
  else bareA a.k && (a.n == 0 && (a.c == 0 && fltEq a.f zeroF))
def cntText (c : Int) : Str := if c = 0 then wd cntT 0 else if c = 1 then wd cntT 1 else if c = 2 then wd cntT 2 else []
def countS (f : Flt) : Str := countW ++ (textOf f ++ [41])
def amBody (a : Am) : Str :=
  if a.k = 0 then Lib.itoa a.n
  else if a.k = 2 then (if 1 < a.n then Lib.itoa a.n ++ 42 :: countS a.f else countS a.f)
  else if a.k = 4 then cntsW ++ (cntText a.c ++ [41])
  else wd simT a.k.toNat
/-- An amount's text; empty if it is not valid. -/
def amText (a : Am) : Str := if amIs a = true then amBody a else []
/-- A text is cut at a byte outside all brackets. -/
def cutD (b : Nat) : Nat → Str → Option (Str × Str)
  | _, [] => none
  | d, c :: r => if d = 0 ∧ c.toNat = b then some ([], r) else (cutD b (deeperN d c.toNat) r).map fun p => (c :: p.1, p.2)
def simIx (s : Str) : Option Nat := (List.range' 0 8).find? fun k => wd simT k == s
def cntIx (s : Str) : Option Nat := (List.range' 0 3).find? fun k => wd cntT k == s
def inCount (s : Str) : Str := Lib.trimSuffix (Lib.trimPrefix s countW) [41]
/-- The amount whose text s would be. -/
def guessA (s : Str) : Am := match numOf s with
  | some n => ⟨0, n, 0, zeroF⟩
  | none => match simIx s with
    | some k => ⟨(k : Int), 0, 0, zeroF⟩
    | none => if Lib.hasPrefix s cntsW = true then ⟨4, 0, (((cntIx (Lib.trimSuffix (Lib.trimPrefix s cntsW) [41])).getD 0 : Nat) : Int), zeroF⟩
      else match cutD 42 0 s with
        | some (a, r) => ⟨2, (numOf a).getD 0, 0, (parseS (inCount r)).getD zeroF⟩
        | none => ⟨2, 1, 0, (parseS (inCount s)).getD zeroF⟩
def amParse (s : Str) : Option Am := if s ≠ [] ∧ amText (guessA s) = s then some (guessA s) else none
theorem numOf_text {s : Str} {v : Int} (h : numOf s = some v) : Lib.itoa v = s := by
  unfold numOf at h
  split at h
  · split at h
    · rename_i hh; injection h with h; rw [← h]; exact hh.2.2
    · cases h
  · cases h
theorem itoa_mem {v : Int} {c : UInt8} (h : c ∈ Lib.itoa v) : c.toNat = 45 ∨ (48 ≤ c.toNat ∧ c.toNat ≤ 57) := by
  rcases (by omega : v < 0 ∨ 0 ≤ v) with hv | hv
  · obtain ⟨u, rfl⟩ : ∃ u : Nat, v = -(u : Int) := ⟨v.natAbs, by omega⟩
    rw [Lib.itoa_neg u (by omega)] at h
    rcases List.mem_cons.1 h with rfl | h
    · exact .inl rfl
    · exact .inr (decDigits_mem u c h)
  · obtain ⟨u, rfl⟩ : ∃ u : Nat, v = (u : Int) := ⟨v.toNat, by omega⟩
    rw [Lib.itoa_nonneg] at h
    exact .inr (decDigits_mem u c h)
theorem numOf_bracket {s : Str} (h : (41 : UInt8) ∈ s) : numOf s = none := by
  cases hn : numOf s with
  | none => rfl
  | some v =>
    rw [← numOf_text hn] at h
    have := itoa_mem h
    simp at this
theorem simIx_bracket {s : Str} (h : (41 : UInt8) ∈ s) : simIx s = none := by
  unfold simIx
  rw [List.find?_eq_none]
  intro k hk e
  have e := beq_iff_eq.1 e
  rw [← e] at h
  have hall : ∀ k, k < 8 → (41 : UInt8) ∉ wd simT k := by decide
  exact hall k (by simp at hk; omega) h
theorem cutD_skip (l r : Str) (h : ∀ c ∈ l, c.toNat ≠ 42 ∧ c.toNat ≠ 40 ∧ c.toNat ≠ 41 ∧ c.toNat ≠ 91 ∧ c.toNat ≠ 93) : cutD 42 0 (l ++ 42 :: r) = some (l, r) := by
  induction l with
  | nil => rfl
  | cons x t ih =>
    have hx := h x (by simp)
    have hd : deeperN 0 x.toNat = 0 := by unfold deeperN; rw [if_neg (by omega), if_neg (by omega)]
    rw [List.cons_append, cutD, if_neg (by omega), hd, ih (fun c hc => h c (List.mem_cons_of_mem _ hc))]; rfl
theorem cutD_none : ∀ (s : Str) (d : Nat), (42 : UInt8) ∉ s → cutD 42 d s = none
  | [], _, _ => rfl
  | x :: t, d, h => by
    have hx : ¬ x.toNat = 42 := fun e => h (by rw [show x = 42 from UInt8.toNat_inj.1 e]; simp)
    rw [cutD, if_neg (by omega), cutD_none t _ (fun hm => h (List.mem_cons_of_mem _ hm))]; rfl
theorem cutD_len : ∀ {s : Str} {d b : Nat} {p q : Str}, cutD b d s = some (p, q) → p.length ≤ s.length ∧ q.length ≤ s.length
  | [], _, _, _, _, h => by cases h
  | x :: t, d, b, p, q, h => by
    rw [cutD] at h
    split at h
    · injection h with h; injection h with h1 h2; subst h1 h2; simp
    · cases hc : cutD b (deeperN d x.toNat) t with
      | none => rw [hc] at h; cases h
      | some pr =>
        rw [hc] at h
        obtain ⟨p', q'⟩ := pr
        have := cutD_len hc
        simp at h
        obtain ⟨rfl, rfl⟩ := h
        simp; omega
theorem join_mem {c : UInt8} {sep : Str} : ∀ {l : List Str}, c ∈ Lib.join l sep → (∃ w ∈ l, c ∈ w) ∨ c ∈ sep
  | [], h => by simp [Lib.join_nil] at h
  | [x], h => by rw [Lib.join_one] at h; exact .inl ⟨x, by simp, h⟩
  | x :: y :: r, h => by
    have e : Lib.join (x :: y :: r) sep = x ++ (sep ++ Lib.join (y :: r) sep) := by simp [Lib.join, List.intercalate, List.intersperse]
    rw [e] at h
    rcases List.mem_append.1 h with h | h
    · exact .inl ⟨x, by simp, h⟩
    rcases List.mem_append.1 h with h | h
    · exact .inr h
    · rcases join_mem h with ⟨w, hw, hc⟩ | h
      · exact .inl ⟨w, List.mem_cons_of_mem _ hw, hc⟩
      · exact .inr h
/-- The bytes of a filter's text. -/
theorem textOf_mem {f : Flt} {c : UInt8} (h : c ∈ textOf f) : okB c = true ∨ c = 32 := by
  unfold textOf at h
  split at h
  · rename_i hv
    obtain ⟨_, hok⟩ := fltIs_fn hv
    unfold fltText at h
    split at h
    · have : ∀ c ∈ anyW, okB c = true := by decide
      exact .inl (this c h)
    · rcases join_mem h with ⟨w, hw, hc⟩ | h
      · exact .inl (List.all_eq_true.1 (words_noB _ hok w hw) c hc)
      · right; simpa using h
  · cases h
theorem countS_mem {f : Flt} : (41 : UInt8) ∈ countS f ∧ (42 : UInt8) ∉ countS f := by
  refine ⟨by simp [countS], fun h => ?_⟩
  unfold countS at h
  rcases List.mem_append.1 h with h | h
  · revert h; decide
  rcases List.mem_append.1 h with h | h
  · rcases textOf_mem h with h | h
    · revert h; decide
    · revert h; decide
  · revert h; decide
theorem inCount_text (f : Flt) : inCount (countS f) = textOf f := by
  unfold inCount countS
  have h1 : Lib.hasPrefix (countW ++ (textOf f ++ [41])) countW = true := by unfold Lib.hasPrefix; simp [List.isPrefixOf, countW]
  have h2 : Lib.trimPrefix (countW ++ (textOf f ++ [41])) countW = textOf f ++ [41] := by unfold Lib.trimPrefix; rw [if_pos h1]; simp [countW]
  rw [h2, trim_snoc]
theorem dig_small : ∀ n : Fin 100, 1 ≤ n.val → (∃ x r, Lib.itoa (n.val : Nat) = x :: r ∧ x.toNat ≠ 99) := fun n h => by
  have h1 : Lib.itoa (n.val : Nat) = Lib.decDigits n.val := Lib.itoa_nonneg _
  cases hd : Lib.decDigits n.val with
  | nil => exact absurd hd (decDigits_ne _)
  | cons x r =>
    refine ⟨x, r, by rw [h1, hd], ?_⟩
    have := decDigits_mem n.val x (by rw [hd]; simp)
    omega
theorem amBody_two (n c : Int) (f : Flt) : amBody ⟨2, n, c, f⟩ = if 1 < n then Lib.itoa n ++ 42 :: countS f else countS f := rfl
/-- The valid amounts, kind for kind. -/
theorem amIs_cases {a : Am} (h : amIs a = true) : (∃ n : Nat, n ≤ 1000000 ∧ a = ⟨0, n, 0, zeroF⟩) ∨ (∃ n : Nat, 1 ≤ n ∧ n ≤ 99 ∧ ∃ f, fltIs f = true ∧ a = ⟨2, n, 0, f⟩) ∨ (∃ c, (c = 0 ∨ c = 1 ∨ c = 2) ∧ a = ⟨4, 0, c, zeroF⟩) ∨ (∃ k, (k = 1 ∨ k = 3 ∨ k = 5 ∨ k = 6 ∨ k = 7) ∧ a = ⟨k, 0, 0, zeroF⟩) := by
  obtain ⟨k, n, c, f⟩ := a
  unfold amIs at h
  simp only at h
  by_cases h0 : k = 0
  · rw [if_pos h0] at h
    simp only [Bool.and_eq_true, decide_eq_true_eq, beq_iff_eq] at h
    obtain ⟨a1, a2, rfl, hf⟩ := h
    have := (fltEq_iff _ _).1 hf; subst this; subst h0
    exact .inl ⟨n.toNat, by omega, by rw [Int.toNat_of_nonneg a1]⟩
  rw [if_neg h0] at h
  by_cases h2 : k = 2
  · rw [if_pos h2] at h
    simp only [Bool.and_eq_true, decide_eq_true_eq, beq_iff_eq] at h
    obtain ⟨a1, a2, rfl, hf⟩ := h
    subst h2
    exact .inr (.inl ⟨n.toNat, by omega, by omega, f, hf, by rw [Int.toNat_of_nonneg (by omega)]⟩)
  rw [if_neg h2] at h
  by_cases h4 : k = 4
  · rw [if_pos h4] at h
    simp only [Bool.and_eq_true, Bool.or_eq_true, beq_iff_eq] at h
    obtain ⟨rfl, hc, hf⟩ := h
    have := (fltEq_iff _ _).1 hf; subst this; subst h4
    exact .inr (.inr (.inl ⟨c, hc, rfl⟩))
  · rw [if_neg h4] at h
    unfold bareA at h
    simp only [Bool.and_eq_true, Bool.or_eq_true, beq_iff_eq] at h
    obtain ⟨hk, rfl, rfl, hf⟩ := h
    have := (fltEq_iff _ _).1 hf; subst this
    exact .inr (.inr (.inr ⟨k, hk, rfl⟩))
theorem guess_count (f : Flt) (hf : fltIs f = true) : guessA (countS f) = ⟨2, 1, 0, f⟩ := by
  unfold guessA
  rw [numOf_bracket countS_mem.1]
  simp only
  rw [simIx_bracket countS_mem.1]
  simp only
  rw [if_neg (by unfold Lib.hasPrefix countS; simp [List.isPrefixOf, countW, cntsW]), cutD_none _ _ countS_mem.2]
  simp only
  rw [inCount_text, parse_text hf]; rfl
theorem guess_times (n : Nat) (h1 : 2 ≤ n) (h2 : n ≤ 99) (f : Flt) (hf : fltIs f = true) : guessA (Lib.itoa n ++ 42 :: countS f) = ⟨2, n, 0, f⟩ := by
  have hm : (41 : UInt8) ∈ Lib.itoa n ++ 42 :: countS f := List.mem_append_right _ (List.mem_cons_of_mem _ countS_mem.1)
  obtain ⟨x, r, hx, h99⟩ := dig_small ⟨n, by omega⟩ (by show 1 ≤ n; omega)
  have hp : Lib.hasPrefix (Lib.itoa n ++ 42 :: countS f) cntsW = false := by
    simp only at hx
    rw [hx]
    unfold Lib.hasPrefix
    have : ¬ (99 : UInt8) = x := fun e => h99 (by rw [← e]; rfl)
    simp [List.isPrefixOf, cntsW, this]
  have hc := cutD_skip (Lib.itoa n) (countS f) (fun c hc => by have := itoa_mem hc; omega)
  unfold guessA
  rw [numOf_bracket hm]
  simp only
  rw [simIx_bracket hm]
  simp only
  rw [if_neg (by rw [hp]; simp), hc]
  simp only
  rw [inCount_text, parse_text hf, numOf_itoa n (by omega)]; rfl
/-- What is guessed of a valid amount's text is the amount. -/
theorem guess_text {a : Am} (h : amIs a = true) : guessA (amText a) = a ∧ amText a ≠ [] := by
  have ht : amText a = amBody a := if_pos h
  rw [ht]
  rcases amIs_cases h with ⟨n, hn, rfl⟩ | ⟨n, h1, h2, f, hf, rfl⟩ | ⟨c, hc, rfl⟩ | ⟨k, hk, rfl⟩
  · have e : amBody ⟨0, (n : Int), 0, zeroF⟩ = Lib.itoa n := rfl
    rw [e]
    refine ⟨by unfold guessA; rw [numOf_itoa n hn], ?_⟩
    rw [Lib.itoa_nonneg]; exact decDigits_ne n
  · by_cases hn : n = 1
    · subst hn
      have e : amBody ⟨2, ((1 : Nat) : Int), 0, f⟩ = countS f := rfl
      rw [e]
      exact ⟨guess_count f hf, by simp [countS]⟩
    · have e : amBody ⟨2, (n : Int), 0, f⟩ = Lib.itoa n ++ 42 :: countS f := by
        rw [amBody_two, if_pos (by omega)]
      rw [e]
      exact ⟨guess_times n (by omega) h2 f hf, by simp⟩
  · rcases hc with rfl | rfl | rfl
    all_goals exact ⟨by kernel_rfl, by decide +kernel⟩
  · rcases hk with rfl | rfl | rfl | rfl | rfl
    all_goals exact ⟨by kernel_rfl, by decide +kernel⟩
theorem amText_ne {a : Am} (h : amIs a = true) : amText a ≠ [] := (guess_text h).2
theorem amText_no {a : Am} (h : amIs a = false) : amText a = [] := if_neg (by rw [h]; decide)
theorem amParse_text {a : Am} (h : amIs a = true) : amParse (amText a) = some a := by
  unfold amParse; rw [(guess_text h).1]; exact if_pos ⟨(guess_text h).2, rfl⟩
theorem amParse_back {s : Str} {a : Am} (h : amParse s = some a) : amIs a = true ∧ amText a = s := by
  unfold amParse at h
  split at h
  · rename_i hh
    injection h with h
    rw [← h]
    refine ⟨?_, hh.2⟩
    cases hv : amIs (guessA s) with
    | true => rfl
    | false => rw [amText_no hv] at hh; exact absurd hh.2.symm hh.1
  · cases h
theorem amParse_empty : amParse [] = none := if_neg (fun h => h.1 rfl)
/-- A reading that gives only what has that text, and something where there is such a thing, is amParse. -/
theorem amParse_only {s : Str} {o : Option Am} (h1 : ∀ t, o = some t → amIs t = true ∧ amText t = s) (h2 : o = none → ∀ t, amIs t = true → amText t = s → False) : o = amParse s := by
  cases ho : o with
  | some t =>
    obtain ⟨a, b⟩ := h1 t ho
    rw [← b, amParse_text a]
  | none =>
    cases hp : amParse s with
    | none => rfl
    | some t => obtain ⟨a, b⟩ := amParse_back hp; exact absurd b (fun b => h2 ho t a b)
end Go.Proofs.YtcbegdjmopgbbaaGreatDoor
