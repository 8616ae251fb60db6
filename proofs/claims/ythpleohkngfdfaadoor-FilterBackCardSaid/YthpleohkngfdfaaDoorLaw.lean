/- Plain law: reading a valid filter's words gives the filter. No program in sight. -/
import Derived.Test.YthpleohkngfdfaaDoorParse
import Derived.Test.YthpleohkngfdfaaDoorRDec
import Derived.KernelRfl
import Derived.Lib.ItoaMem
namespace Go.Proofs.YthpleohkngfdfaaDoor
set_option linter.all false
open Go.ChangeShapes Go.WideShapes Go.RowKit
/-- Words read one by one, by whatever reader of one word. -/
def foldG (st : Flt → Str → Option Flt) : Flt → List Str → Option Flt
  | f, [] => some f
  | f, x :: r => match st f x with | some f' => foldG st f' r | none => none
theorem foldT_eq (l : List Str) : ∀ f, foldT f l = foldG takeS f l := by
  induction l with
  | nil => intro f; rfl
  | cons x r ih =>
    intro f; rw [foldT, foldG]
    cases takeS f x with
    | none => rfl
    | some g => exact ih g
theorem foldG_append {st : Flt → Str → Option Flt} (l m : List Str) : ∀ f, foldG st f (l ++ m) = (match foldG st f l with | some g => foldG st g m | none => none) := by
  induction l with
  | nil => intro f; rfl
  | cons x r ih =>
    intro f
    rw [List.cons_append, foldG, foldG]
    cases st f x with
    | none => rfl
    | some g => exact ih g
theorem foldG_addW {st : Flt → Str → Option Flt} {f g g' : Flt} {l : List Str} {s : Str} (h : foldG st f l = some g) (h0 : s = [] → g' = g) (h1 : s ≠ [] → st g s = some g') : foldG st f (addW l s) = some g' := by
  unfold addW; split
  · rename_i e; rw [h0 e]; exact h
  · rename_i e; rw [foldG_append, h]; simp only [foldG, h1 e]
theorem mod_bit_yes {m k : Nat} (h : m.testBit k = true) : m % 2 ^ (k + 1) = m % 2 ^ k ||| 2 ^ k := by
  apply Nat.eq_of_testBit_eq; intro i
  rw [Nat.testBit_or, Nat.testBit_mod_two_pow, Nat.testBit_mod_two_pow, Nat.testBit_two_pow]
  rcases Nat.lt_trichotomy i k with c | c | c
  · have a1 : i < k + 1 := by omega
    have a2 : ¬ k = i := by omega
    simp [a1, a2, c]
  · subst c; simp [h]
  · have a1 : ¬ i < k + 1 := by omega
    have a2 : ¬ i < k := by omega
    have a3 : ¬ k = i := by omega
    simp [a1, a2, a3]
theorem mod_bit_no {m k : Nat} (h : m.testBit k = false) : m % 2 ^ (k + 1) = m % 2 ^ k := by
  apply Nat.eq_of_testBit_eq; intro i
  rw [Nat.testBit_mod_two_pow, Nat.testBit_mod_two_pow]
  rcases Nat.lt_trichotomy i k with c | c | c
  · have a1 : i < k + 1 := by omega
    simp [a1, c]
  · subst c; simp [h]
  · have a1 : ¬ i < k + 1 := by omega
    have a2 : ¬ i < k := by omega
    simp [a1, a2]
theorem foldl_addW_ne (l m : List Str) (h : ∀ x ∈ m, x ≠ []) : m.foldl addW l = l ++ m := by
  induction m generalizing l with
  | nil => simp
  | cons x r ih =>
    rw [List.foldl_cons, ih _ (fun y hy => h y (List.mem_cons_of_mem _ hy)), addW, if_neg (h x (by simp))]; simp
theorem foldG_mask {st : Flt → Str → Option Flt} {n : Nat} (p : Str) (T : List Str) (set : Nat → Flt) (m : Nat) (hm : m < 2 ^ n) (hn : n ≤ 31)
    (hw : ∀ i, i < n → ∀ x, x < 2 ^ 31 → st (set x) (p ++ wd T i) = some (set (x ||| 2 ^ i))) :
    ∀ k, k ≤ 31 → foldG st (set 0) ((bitsUpto m k).map fun i => p ++ wd T i) = some (set (m % 2 ^ k))
  | 0, _ => by simp [bitsUpto, foldG, Nat.mod_one]
  | k + 1, hk => by
    have ih := foldG_mask p T set m hm hn hw k (by omega)
    cases hb : m.testBit k with
    | false => rw [bitsUpto_no hb, mod_bit_no hb]; exact ih
    | true =>
      have hkn : k < n := by
        rcases Nat.lt_or_ge k n with h' | h'
        · exact h'
        · rw [Nat.testBit_lt_two_pow (Nat.lt_of_lt_of_le hm (Nat.pow_le_pow_right (by omega) h'))] at hb; cases hb
      have hlt : m % 2 ^ k < 2 ^ 31 := Nat.lt_of_lt_of_le (Nat.mod_lt _ (Nat.pow_pos (by omega))) (Nat.pow_le_pow_right (by omega) (by omega))
      rw [bitsUpto_yes hb, mod_bit_yes hb, List.map_append, foldG_append, ih]
      simp only [List.map_cons, List.map_nil, foldG, hw k hkn _ hlt]
theorem foldG_addMask {st : Flt → Str → Option Flt} {n : Nat} {f : Flt} {l : List Str} (p : Str) (T : List Str) (set : Nat → Flt) (m : Nat) (hm : m < 2 ^ n) (hn : n ≤ 31) (h : foldG st f l = some (set 0))
    (hne : ∀ i, i < n → p ++ wd T i ≠ [])
    (hw : ∀ i, i < n → ∀ x, x < 2 ^ 31 → st (set x) (p ++ wd T i) = some (set (x ||| 2 ^ i))) :
    foldG st f (addMask l p T m) = some (set m) := by
  have e := foldG_mask p T set m hm hn hw 31 (Nat.le_refl _)
  have hm31 : m % 2 ^ 31 = m := Nat.mod_eq_of_lt (Nat.lt_of_lt_of_le hm (Nat.pow_le_pow_right (by omega) hn))
  rw [hm31] at e
  unfold addMask
  rw [foldl_addW_ne, foldG_append, h]
  · exact e
  · intro x hx
    obtain ⟨i, hi, rfl⟩ := List.mem_map.1 hx
    exact hne i (bits_lt hm hi)
theorem or_cast {x i : Nat} (hx : x < 2 ^ 31) (hi : i < 31) : bits .or .i64 (x : Int) ((2 ^ i : Nat) : Int) = ((x ||| 2 ^ i : Nat) : Int) :=
  i64_or_nat _ _ (Nat.lt_of_lt_of_le hx (by decide)) (Nat.lt_of_le_of_lt (Nat.pow_le_pow_right (by omega) (Nat.le_of_lt hi)) (by decide))
/- The single words. -/
section words
variable (a b c d e f g : Int) (s : ByteArray) (k t p q u v y z : Int)
theorem tk_type (i x : Nat) (hi : i < 6) (hx : x < 2 ^ 31) : takeS ⟨a, b, c, (x : Int), e, f, g, s, k, t, p, q, u, v, y, z⟩ ([] ++ wd typeT i) = some ⟨a, b, c, ((x ||| 2 ^ i : Nat) : Int), e, f, g, s, k, t, p, q, u, v, y, z⟩ := by
  rw [← or_cast hx (by omega : i < 31)]
  rcases i with _ | _ | _ | _ | _ | _ | i
  all_goals first | omega | kernel_rfl
theorem tk_ntype (i x : Nat) (hi : i < 6) (hx : x < 2 ^ 31) : takeS ⟨a, b, c, d, (x : Int), f, g, s, k, t, p, q, u, v, y, z⟩ (nonW ++ wd typeT i) = some ⟨a, b, c, d, ((x ||| 2 ^ i : Nat) : Int), f, g, s, k, t, p, q, u, v, y, z⟩ := by
  rw [← or_cast hx (by omega : i < 31)]
  rcases i with _ | _ | _ | _ | _ | _ | i
  all_goals first | omega | kernel_rfl
theorem tk_color (i x : Nat) (hi : i < 5) (hx : x < 2 ^ 31) : takeS ⟨a, b, c, d, e, (x : Int), g, s, k, t, p, q, u, v, y, z⟩ ([] ++ wd colorT i) = some ⟨a, b, c, d, e, ((x ||| 2 ^ i : Nat) : Int), g, s, k, t, p, q, u, v, y, z⟩ := by
  rw [← or_cast hx (by omega : i < 31)]
  rcases i with _ | _ | _ | _ | _ | i
  all_goals first | omega | kernel_rfl
theorem tk_ncolor (i x : Nat) (hi : i < 5) (hx : x < 2 ^ 31) : takeS ⟨a, b, c, d, e, f, (x : Int), s, k, t, p, q, u, v, y, z⟩ (nonW ++ wd colorT i) = some ⟨a, b, c, d, e, f, ((x ||| 2 ^ i : Nat) : Int), s, k, t, p, q, u, v, y, z⟩ := by
  rw [← or_cast hx (by omega : i < 31)]
  rcases i with _ | _ | _ | _ | _ | i
  all_goals first | omega | kernel_rfl
set_option maxRecDepth 100000 in
theorem tk_key (i x : Nat) (hi : i < 17) (hx : x < 2 ^ 31) : takeS ⟨a, b, c, d, e, f, g, s, (x : Int), t, p, q, u, v, y, z⟩ (withW ++ wd kwT i) = some ⟨a, b, c, d, e, f, g, s, ((x ||| 2 ^ i : Nat) : Int), t, p, q, u, v, y, z⟩ := by
  rw [← or_cast hx (by omega : i < 31)]
  rcases i with _ | _ | _ | _ | _ | _ | _ | _ | _ | _ | _ | _ | _ | _ | _ | _ | _ | i
  all_goals first | omega | kernel_rfl
theorem tk_zone (i : Nat) (hi : i < 6) (h0 : wd zoneT i ≠ []) : takeS ⟨a, b, c, d, e, f, g, s, k, t, p, q, u, v, y, z⟩ (wd zoneT i) = some ⟨(i : Nat), b, c, d, e, f, g, s, k, t, p, q, u, v, y, z⟩ := by
  rcases i with _ | _ | _ | _ | _ | _ | i
  · exact absurd rfl h0
  all_goals first | omega | kernel_rfl
theorem tk_who (i : Nat) (hi : i < 3) (h0 : wd whoT i ≠ []) : takeS ⟨a, b, c, d, e, f, g, s, k, t, p, q, u, v, y, z⟩ (wd whoT i) = some ⟨a, (i : Nat), c, d, e, f, g, s, k, t, p, q, u, v, y, z⟩ := by
  rcases i with _ | _ | _ | i
  · exact absurd rfl h0
  all_goals first | omega | kernel_rfl
theorem tk_self (i : Nat) (hi : i < 3) (h0 : wd selfT i ≠ []) : takeS ⟨a, b, c, d, e, f, g, s, k, t, p, q, u, v, y, z⟩ (wd selfT i) = some ⟨a, b, (i : Nat), d, e, f, g, s, k, t, p, q, u, v, y, z⟩ := by
  rcases i with _ | _ | _ | i
  · exact absurd rfl h0
  all_goals first | omega | kernel_rfl
theorem tk_tap (i : Nat) (hi : i < 3) (h0 : wd tapT i ≠ []) : takeS ⟨a, b, c, d, e, f, g, s, k, t, p, q, u, v, y, z⟩ (wd tapT i) = some ⟨a, b, c, d, e, f, g, s, k, (i : Nat), p, q, u, v, y, z⟩ := by
  rcases i with _ | _ | _ | i
  · exact absurd rfl h0
  all_goals first | omega | kernel_rfl
end words
theorem tk_sub (F : Flt) (r : Str) : takeS F (subW ++ r) = some { F with sub := B r } := by
  have h1 : Lib.hasPrefix (subW ++ r) subW = true := by unfold Lib.hasPrefix; simp [List.isPrefixOf, subW]
  have h2 : Lib.trimPrefix (subW ++ r) subW = r := by unfold Lib.trimPrefix; rw [if_pos h1]; simp [subW]
  unfold takeS; rw [if_pos h1, h2]
/- Numerals. -/
theorem parseUint_snoc (l : Str) (c : UInt8) : ∀ (a v : Nat), Lib.parseUint10 a l = .ok v → Lib.parseUint10 a (l ++ [c]) = Lib.parseUint10 v [c] := by
  induction l with
  | nil => intro a v h; simp only [Lib.parseUint10] at h; injection h with h; subst h; rfl
  | cons x r ih =>
    intro a v h
    rw [List.cons_append]
    simp only [Lib.parseUint10] at h ⊢
    split at h
    · rename_i h1; rw [if_pos h1]
      split at h
      · cases h
      · rename_i h2; rw [if_neg h2]
        split at h
        · cases h
        · rename_i h3; rw [if_neg h3]
          have := ih _ _ h
          simpa only [Lib.parseUint10] using this
    · cases h
theorem parse_dec : ∀ (u : Nat), u < 10000000 → Lib.parseUint10 0 (Lib.decDigits u) = .ok u := by
  intro u
  induction u using Nat.strongRecOn with
  | _ u ih =>
    intro hu
    by_cases h : u < 10
    · rw [Lib.decDigits, dif_pos h, Lib.parseUint10, dig_nat h, if_pos (by omega), if_neg (by omega), if_neg (by omega), Lib.parseUint10]
      congr 1; omega
    · have h1 := ih (u / 10) (by omega) (by omega)
      rw [Lib.decDigits, dif_neg h, parseUint_snoc _ _ _ _ h1, Lib.parseUint10, dig_nat (Nat.mod_lt _ (by omega)), if_pos (by omega), if_neg (by omega), if_neg (by omega), Lib.parseUint10]
      congr 1; omega
theorem atoi_dec (u : Nat) (hu : u < 10000000) : Lib.atoiAll (Lib.decDigits u) = .ok (u : Int) := by
  have h1 := parse_dec u hu
  have h2 := decDigits_mem u
  cases hd : Lib.decDigits u with
  | nil => exact absurd hd (decDigits_ne u)
  | cons x r =>
    rw [hd] at h1
    have hx := h2 x (by rw [hd]; simp)
    have hp : Lib.parseMag (x :: r) = .ok u := by unfold Lib.parseMag; rw [if_neg (by simp)]; exact h1
    have hs : ¬ (x.toNat = 43 ∨ x.toNat = 45) := by omega
    have hs2 : ¬ x.toNat = 45 := by omega
    unfold Lib.atoiAll
    have hs3 : ¬ x.toNat = 43 := by omega
    simp only [hs2, hs3, or_self, not_false_eq_true, true_and, false_and, if_false, hp]
    rw [if_neg (by omega)]
theorem numOf_itoa (n : Nat) (h : n ≤ 1000000) : numOf (Lib.itoa (n : Nat)) = some (n : Int) := by
  rw [numOf_ok (v := (n : Int)) (by rw [Lib.itoa_nonneg]; exact atoi_dec n (by omega)), if_pos ⟨by omega, by omega, rfl⟩]
end Go.Proofs.YthpleohkngfdfaaDoor
