/- Plain law: reading a valid filter's words gives the filter. No program in sight. Plain law: a bound's word; Parse inverts Text on the valid filters. No program in sight. Plain law: Parse inverts Text on the valid filters; Text inverts Parse. No program in sight. -/
import Derived.Test.YtakgfbcmkhcdkaaGreatDoorFil
import Derived.Test.YtakgfbcmkhcdkaaGreatDoorBase
import Derived.KernelRfl
import Derived.Lib.ItoaMem
namespace Go.Proofs.YtakgfbcmkhcdkaaGreatDoor
set_option linter.all false
open Go.ChangeShapes Go.WideShapes Go.RowKit
/-- Words read one by one, by whatever reader of one word. -/
def foldG (st : Flt → Str → Option Flt) : Flt → List Str → Option Flt
  | f, [] => some f
  | f, x :: r => match st f x with | some f' => foldG st f' r | none => none
theorem foldT_eq (l : List Str) : ∀ f, foldT f l = foldG takeS f l := by
  induction l with
  | nil => intro f; rfl
  | cons x r ih =>
    intro f; rw [foldT, foldG]
    cases takeS f x with
    | none => rfl
    | some g => exact ih g
theorem foldG_append {st : Flt → Str → Option Flt} (l m : List Str) : ∀ f, foldG st f (l ++ m) = (match foldG st f l with | some g => foldG st g m | none => none) := by
  induction l with
  | nil => intro f; rfl
  | cons x r ih =>
    intro f
    rw [List.cons_append, foldG, foldG]
    cases st f x with
    | none => rfl
    | some g => exact ih g
theorem foldG_addW {st : Flt → Str → Option Flt} {f g g' : Flt} {l : List Str} {s : Str} (h : foldG st f l = some g) (h0 : s = [] → g' = g) (h1 : s ≠ [] → st g s = some g') : foldG st f (addW l s) = some g' := by
  unfold addW; split
  · rename_i e; rw [h0 e]; exact h
  · rename_i e; rw [foldG_append, h]; simp only [foldG, h1 e]
theorem mod_bit_yes {m k : Nat} (h : m.testBit k = true) : m % 2 ^ (k + 1) = m % 2 ^ k ||| 2 ^ k := by
  apply Nat.eq_of_testBit_eq; intro i
  rw [Nat.testBit_or, Nat.testBit_mod_two_pow, Nat.testBit_mod_two_pow, Nat.testBit_two_pow]
  rcases Nat.lt_trichotomy i k with c | c | c
  · have a1 : i < k + 1 := by omega
    have a2 : ¬ k = i := by omega
    simp [a1, a2, c]
  · subst c; simp [h]
  · have a1 : ¬ i < k + 1 := by omega
    have a2 : ¬ i < k := by omega
    have a3 : ¬ k = i := by omega
    simp [a1, a2, a3]
theorem mod_bit_no {m k : Nat} (h : m.testBit k = false) : m % 2 ^ (k + 1) = m % 2 ^ k := by
  apply Nat.eq_of_testBit_eq; intro i
  rw [Nat.testBit_mod_two_pow, Nat.testBit_mod_two_pow]
  rcases Nat.lt_trichotomy i k with c | c | c
  · have a1 : i < k + 1 := by omega
    simp [a1, c]
  · subst c; simp [h]
  · have a1 : ¬ i < k + 1 := by omega
    have a2 : ¬ i < k := by omega
    simp [a1, a2]
theorem foldl_addW_ne (l m : List Str) (h : ∀ x ∈ m, x ≠ []) : m.foldl addW l = l ++ m := by
  induction m generalizing l with
  | nil => simp
  | cons x r ih =>
    rw [List.foldl_cons, ih _ (fun y hy => h y (List.mem_cons_of_mem _ hy)), addW, if_neg (h x (by simp))]; simp
theorem foldG_mask {st : Flt → Str → Option Flt} {n : Nat} (p : Str) (T : List Str) (set : Nat → Flt) (m : Nat) (hm : m < 2 ^ n) (hn : n ≤ 31)
    (hw : ∀ i, i < n → ∀ x, x < 2 ^ 31 → st (set x) (p ++ wd T i) = some (set (x ||| 2 ^ i))) :
    ∀ k, k ≤ 31 → foldG st (set 0) ((bitsUpto m k).map fun i => p ++ wd T i) = some (set (m % 2 ^ k))
  | 0, _ => by simp [bitsUpto, foldG, Nat.mod_one]
  | k + 1, hk => by
    have ih := foldG_mask p T set m hm hn hw k (by omega)
    cases hb : m.testBit k with
    | false => rw [bitsUpto_no hb, mod_bit_no hb]; exact ih
    | true =>
      have hkn : k < n := by
        rcases Nat.lt_or_ge k n with h' | h'
        · exact h'
        · rw [Nat.testBit_lt_two_pow (Nat.lt_of_lt_of_le hm (Nat.pow_le_pow_right (by omega) h'))] at hb; cases hb
      have hlt : m % 2 ^ k < 2 ^ 31 := Nat.lt_of_lt_of_le (Nat.mod_lt _ (Nat.pow_pos (by omega))) (Nat.pow_le_pow_right (by omega) (by omega))
      rw [bitsUpto_yes hb, mod_bit_yes hb, List.map_append, foldG_append, ih]
      simp only [List.map_cons, List.map_nil, foldG, hw k hkn _ hlt]
theorem foldG_addMask {st : Flt → Str → Option Flt} {n : Nat} {f : Flt} {l : List Str} (p : Str) (T : List Str) (set : Nat → Flt) (m : Nat) (hm : m < 2 ^ n) (hn : n ≤ 31) (h : foldG st f l = some (set 0))
    (hne : ∀ i, i < n → p ++ wd T i ≠ [])
    (hw : ∀ i, i < n → ∀ x, x < 2 ^ 31 → st (set x) (p ++ wd T i) = some (set (x ||| 2 ^ i))) :
    foldG st f (addMask l p T m) = some (set m) := by
  have e := foldG_mask p T set m hm hn hw 31 (Nat.le_refl _)
  have hm31 : m % 2 ^ 31 = m := Nat.mod_eq_of_lt (Nat.lt_of_lt_of_le hm (Nat.pow_le_pow_right (by omega) hn))
  rw [hm31] at e
  unfold addMask
  rw [foldl_addW_ne, foldG_append, h]
  · exact e
  · intro x hx
    obtain ⟨i, hi, rfl⟩ := List.mem_map.1 hx
    exact hne i (bits_lt hm hi)
theorem or_cast {x i : Nat} (hx : x < 2 ^ 31) (hi : i < 31) : bits .or .i64 (x : Int) ((2 ^ i : Nat) : Int) = ((x ||| 2 ^ i : Nat) : Int) :=
  i64_or_nat _ _ (Nat.lt_of_lt_of_le hx (by decide)) (Nat.lt_of_le_of_lt (Nat.pow_le_pow_right (by omega) (Nat.le_of_lt hi)) (by decide))
/- The single words. -/
section words
variable (a b c d e f g : Int) (s : ByteArray) (k t p q u v y z : Int)
theorem tk_type (i x : Nat) (hi : i < 6) (hx : x < 2 ^ 31) : takeS ⟨a, b, c, (x : Int), e, f, g, s, k, t, p, q, u, v, y, z⟩ ([] ++ wd typeT i) = some ⟨a, b, c, ((x ||| 2 ^ i : Nat) : Int), e, f, g, s, k, t, p, q, u, v, y, z⟩ := by
  rw [← or_cast hx (by omega : i < 31)]
  rcases i with _ | _ | _ | _ | _ | _ | i
  all_goals first | omega | kernel_rfl
theorem tk_ntype (i x : Nat) (hi : i < 6) (hx : x < 2 ^ 31) : takeS ⟨a, b, c, d, (x : Int), f, g, s, k, t, p, q, u, v, y, z⟩ (nonW ++ wd typeT i) = some ⟨a, b, c, d, ((x ||| 2 ^ i : Nat) : Int), f, g, s, k, t, p, q, u, v, y, z⟩ := by
  rw [← or_cast hx (by omega : i < 31)]
  rcases i with _ | _ | _ | _ | _ | _ | i
  all_goals first | omega | kernel_rfl
theorem tk_color (i x : Nat) (hi : i < 5) (hx : x < 2 ^ 31) : takeS ⟨a, b, c, d, e, (x : Int), g, s, k, t, p, q, u, v, y, z⟩ ([] ++ wd colorT i) = some ⟨a, b, c, d, e, ((x ||| 2 ^ i : Nat) : Int), g, s, k, t, p, q, u, v, y, z⟩ := by
  rw [← or_cast hx (by omega : i < 31)]
  rcases i with _ | _ | _ | _ | _ | i
  all_goals first | omega | kernel_rfl
theorem tk_ncolor (i x : Nat) (hi : i < 5) (hx : x < 2 ^ 31) : takeS ⟨a, b, c, d, e, f, (x : Int), s, k, t, p, q, u, v, y, z⟩ (nonW ++ wd colorT i) = some ⟨a, b, c, d, e, f, ((x ||| 2 ^ i : Nat) : Int), s, k, t, p, q, u, v, y, z⟩ := by
  rw [← or_cast hx (by omega : i < 31)]
  rcases i with _ | _ | _ | _ | _ | i
  all_goals first | omega | kernel_rfl
set_option maxRecDepth 100000 in
theorem tk_key (i x : Nat) (hi : i < 17) (hx : x < 2 ^ 31) : takeS ⟨a, b, c, d, e, f, g, s, (x : Int), t, p, q, u, v, y, z⟩ (withW ++ wd kwT i) = some ⟨a, b, c, d, e, f, g, s, ((x ||| 2 ^ i : Nat) : Int), t, p, q, u, v, y, z⟩ := by
  rw [← or_cast hx (by omega : i < 31)]
  rcases i with _ | _ | _ | _ | _ | _ | _ | _ | _ | _ | _ | _ | _ | _ | _ | _ | _ | i
  all_goals first | omega | kernel_rfl
theorem tk_zone (i : Nat) (hi : i < 6) (h0 : wd zoneT i ≠ []) : takeS ⟨a, b, c, d, e, f, g, s, k, t, p, q, u, v, y, z⟩ (wd zoneT i) = some ⟨(i : Nat), b, c, d, e, f, g, s, k, t, p, q, u, v, y, z⟩ := by
  rcases i with _ | _ | _ | _ | _ | _ | i
  · exact absurd rfl h0
  all_goals first | omega | kernel_rfl
theorem tk_who (i : Nat) (hi : i < 3) (h0 : wd whoT i ≠ []) : takeS ⟨a, b, c, d, e, f, g, s, k, t, p, q, u, v, y, z⟩ (wd whoT i) = some ⟨a, (i : Nat), c, d, e, f, g, s, k, t, p, q, u, v, y, z⟩ := by
  rcases i with _ | _ | _ | i
  · exact absurd rfl h0
  all_goals first | omega | kernel_rfl
theorem tk_self (i : Nat) (hi : i < 3) (h0 : wd selfT i ≠ []) : takeS ⟨a, b, c, d, e, f, g, s, k, t, p, q, u, v, y, z⟩ (wd selfT i) = some ⟨a, b, (i : Nat), d, e, f, g, s, k, t, p, q, u, v, y, z⟩ := by
  rcases i with _ | _ | _ | i
  · exact absurd rfl h0
  all_goals first | omega | kernel_rfl
theorem tk_tap (i : Nat) (hi : i < 3) (h0 : wd tapT i ≠ []) : takeS ⟨a, b, c, d, e, f, g, s, k, t, p, q, u, v, y, z⟩ (wd tapT i) = some ⟨a, b, c, d, e, f, g, s, k, (i : Nat), p, q, u, v, y, z⟩ := by
  rcases i with _ | _ | _ | i
  · exact absurd rfl h0
  all_goals first | omega | kernel_rfl
end words
theorem tk_sub (F : Flt) (r : Str) : takeS F (subW ++ r) = some { F with sub := B r } := by
  have h1 : Lib.hasPrefix (subW ++ r) subW = true := by unfold Lib.hasPrefix; simp [List.isPrefixOf, subW]
  have h2 : Lib.trimPrefix (subW ++ r) subW = r := by unfold Lib.trimPrefix; rw [if_pos h1]; simp [subW]
  unfold takeS; rw [if_pos h1, h2]
/- Numerals. -/
theorem parseUint_snoc (l : Str) (c : UInt8) : ∀ (a v : Nat), Lib.parseUint10 a l = .ok v → Lib.parseUint10 a (l ++ [c]) = Lib.parseUint10 v [c] := by
  induction l with
  | nil => intro a v h; simp only [Lib.parseUint10] at h; injection h with h; subst h; rfl
  | cons x r ih =>
    intro a v h
    rw [List.cons_append]
    simp only [Lib.parseUint10] at h ⊢
    split at h
    · rename_i h1; rw [if_pos h1]
      split at h
      · cases h
      · rename_i h2; rw [if_neg h2]
        split at h
        · cases h
        · rename_i h3; rw [if_neg h3]
          have := ih _ _ h
          simpa only [Lib.parseUint10] using this
    · cases h
theorem parse_dec : ∀ (u : Nat), u < 10000000 → Lib.parseUint10 0 (Lib.decDigits u) = .ok u := by
  intro u
  induction u using Nat.strongRecOn with
  | _ u ih =>
    intro hu
    by_cases h : u < 10
    · rw [Lib.decDigits, dif_pos h, Lib.parseUint10, dig_nat h, if_pos (by omega), if_neg (by omega), if_neg (by omega), Lib.parseUint10]
      congr 1; omega
    · have h1 := ih (u / 10) (by omega) (by omega)
      rw [Lib.decDigits, dif_neg h, parseUint_snoc _ _ _ _ h1, Lib.parseUint10, dig_nat (Nat.mod_lt _ (by omega)), if_pos (by omega), if_neg (by omega), if_neg (by omega), Lib.parseUint10]
      congr 1; omega
theorem atoi_dec (u : Nat) (hu : u < 10000000) : Lib.atoiAll (Lib.decDigits u) = .ok (u : Int) := by
  have h1 := parse_dec u hu
  have h2 := decDigits_mem u
  cases hd : Lib.decDigits u with
  | nil => exact absurd hd (decDigits_ne u)
  | cons x r =>
    rw [hd] at h1
    have hx := h2 x (by rw [hd]; simp)
    have hp : Lib.parseMag (x :: r) = .ok u := by unfold Lib.parseMag; rw [if_neg (by simp)]; exact h1
    have hs : ¬ (x.toNat = 43 ∨ x.toNat = 45) := by omega
    have hs2 : ¬ x.toNat = 45 := by omega
    unfold Lib.atoiAll
    have hs3 : ¬ x.toNat = 43 := by omega
    simp only [hs2, hs3, or_self, not_false_eq_true, true_and, false_and, if_false, hp]
    rw [if_neg (by omega)]
theorem numOf_itoa (n : Nat) (h : n ≤ 1000000) : numOf (Lib.itoa (n : Nat)) = some (n : Int) := by
  rw [numOf_ok (v := (n : Int)) (by rw [Lib.itoa_nonneg]; exact atoi_dec n (by omega)), if_pos ⟨by omega, by omega, rfl⟩]
end Go.Proofs.YtakgfbcmkhcdkaaGreatDoor
namespace Go.Proofs.YtakgfbcmkhcdkaaGreatDoor
set_option linter.all false
open Go.ChangeShapes Go.WideShapes Go.RowKit
/-- The first byte of a text is p, t or v. -/
def bh (s : Str) : Bool := byt s 0 == 112 || (byt s 0 == 116 || byt s 0 == 118)
theorem types_head (m : Nat) (h : m < 64) : bh (typesText m) = false := by
  have : ∀ m : Fin 64, bh (typesText m.val) = false := by decide +kernel
  exact this ⟨m, h⟩
theorem colors_head (m : Nat) (h : m < 32) : bh (colorText m) = false := by
  have : ∀ m : Fin 32, bh (colorText m.val) = false := by decide +kernel
  exact this ⟨m, h⟩
theorem pt_none {s : Str} (h : bh s = true) : ptOf s = none := by
  unfold ptOf; split
  · rfl
  · split
    · rename_i h1 h2
      by_cases hb : 1 ≤ orBits (splitOn 43 s) ∧ orBits (splitOn 43 s) ≤ 63
      · have := types_head _ (Nat.lt_succ_of_le hb.2); rw [h2, h] at this; cases this
      · unfold typesText at h2; rw [if_neg hb] at h2; rw [← h2] at h; cases h
    · rfl
theorem pc_none {s : Str} (h : bh s = true) : pcOf s = none := by
  unfold pcOf; rw [List.find?_eq_none]
  intro m hm hc
  have := colors_head m (by simpa using hm)
  rw [eq_of_beq hc, h] at this; cases this
theorem take_bound {F : Flt} {s : Str} (h : bh s = true) (h1 : Lib.hasPrefix s subW = false) (h2 : Lib.hasPrefix s withW = false) (h3 : Lib.hasPrefix s nonW = false) (h4 : simpleS F s = none) (h5 : (s == noneW) = false) : takeS F s = boundS F s := by
  have ht : Lib.trimPrefix s nonW = s := by unfold Lib.trimPrefix; rw [if_neg (by rw [h3]; decide)]
  have hn : s ≠ noneW := by intro e; rw [e] at h5; simp at h5
  have hty : typesS F s = none := by unfold typesS; rw [ht, pt_none h, pc_none h]; simp [hn]
  unfold takeS; rw [if_neg (by rw [h1]; decide), if_neg (by rw [h2]; decide), h4, hty]
theorem bound_go (F : Flt) (s : Str) (at_ : Nat) (r nm nm2 : Str) (k n : Nat) (G : Flt) (h1 : Lib.indexByte s 61 = ((at_ : Nat) : Int)) (h0 : 1 ≤ at_) (h2 : s.drop (at_ + 1) = r) (h3 : s.take at_ = nm) (h4 : boundHead nm = (k, nm2)) (h5 : numOf r = some (n : Int))
    (h6 : setBound F nm2 (k : Nat) (n : Nat) = some G) : boundS F s = some G := by
  unfold boundS
  have e : (Lib.indexByte s 61).toNat = at_ := by rw [h1]; omega
  rw [e, h2, h3, h4, h5, if_neg (by rw [h1]; omega)]
  exact h6
section words
variable (a b c d e f g : Int) (s : ByteArray) (k t p q u v y z : Int)
theorem tk_power (i n : Nat) (hi : i < 4) (h0 : i ≠ 0) (hn : n ≤ 1000000) : takeS ⟨a, b, c, d, e, f, g, s, k, t, p, q, u, v, y, z⟩ (powerW ++ wd signT i ++ Lib.itoa n) = some ⟨a, b, c, d, e, f, g, s, k, t, (i : Nat), (n : Nat), u, v, y, z⟩ := by
  have hno := numOf_itoa n hn
  generalize Lib.itoa (n : Nat) = r at *
  rcases i with _ | _ | _ | _ | i
  · exact absurd rfl h0
  · exact (take_bound rfl rfl rfl rfl rfl rfl).trans (bound_go _ _ 6 r [112, 111, 119, 101, 114, 62] powerW 1 n _ rfl (by decide) rfl rfl rfl hno rfl)
  · exact (take_bound rfl rfl rfl rfl rfl rfl).trans (bound_go _ _ 6 r [112, 111, 119, 101, 114, 60] powerW 2 n _ rfl (by decide) rfl rfl rfl hno rfl)
  · exact (take_bound rfl rfl rfl rfl rfl rfl).trans (bound_go _ _ 5 r [112, 111, 119, 101, 114] powerW 3 n _ rfl (by decide) rfl rfl rfl hno rfl)
  · omega
theorem tk_tough (i n : Nat) (hi : i < 4) (h0 : i ≠ 0) (hn : n ≤ 1000000) : takeS ⟨a, b, c, d, e, f, g, s, k, t, p, q, u, v, y, z⟩ (toughW ++ wd signT i ++ Lib.itoa n) = some ⟨a, b, c, d, e, f, g, s, k, t, p, q, (i : Nat), (n : Nat), y, z⟩ := by
  have hno := numOf_itoa n hn
  generalize Lib.itoa (n : Nat) = r at *
  rcases i with _ | _ | _ | _ | i
  · exact absurd rfl h0
  · exact (take_bound rfl rfl rfl rfl rfl rfl).trans (bound_go _ _ 6 r [116, 111, 117, 103, 104, 62] toughW 1 n _ rfl (by decide) rfl rfl rfl hno rfl)
  · exact (take_bound rfl rfl rfl rfl rfl rfl).trans (bound_go _ _ 6 r [116, 111, 117, 103, 104, 60] toughW 2 n _ rfl (by decide) rfl rfl rfl hno rfl)
  · exact (take_bound rfl rfl rfl rfl rfl rfl).trans (bound_go _ _ 5 r [116, 111, 117, 103, 104] toughW 3 n _ rfl (by decide) rfl rfl rfl hno rfl)
  · omega
theorem tk_value (i n : Nat) (hi : i < 4) (h0 : i ≠ 0) (hn : n ≤ 1000000) : takeS ⟨a, b, c, d, e, f, g, s, k, t, p, q, u, v, y, z⟩ (valueW ++ wd signT i ++ Lib.itoa n) = some ⟨a, b, c, d, e, f, g, s, k, t, p, q, u, v, (i : Nat), (n : Nat)⟩ := by
  have hno := numOf_itoa n hn
  generalize Lib.itoa (n : Nat) = r at *
  rcases i with _ | _ | _ | _ | i
  · exact absurd rfl h0
  · exact (take_bound rfl rfl rfl rfl rfl rfl).trans (bound_go _ _ 6 r [118, 97, 108, 117, 101, 62] valueW 1 n _ rfl (by decide) rfl rfl rfl hno rfl)
  · exact (take_bound rfl rfl rfl rfl rfl rfl).trans (bound_go _ _ 6 r [118, 97, 108, 117, 101, 60] valueW 2 n _ rfl (by decide) rfl rfl rfl hno rfl)
  · exact (take_bound rfl rfl rfl rfl rfl rfl).trans (bound_go _ _ 5 r [118, 97, 108, 117, 101] valueW 3 n _ rfl (by decide) rfl rfl rfl hno rfl)
  · omega
end words
end Go.Proofs.YtakgfbcmkhcdkaaGreatDoor
namespace Go.Proofs.YtakgfbcmkhcdkaaGreatDoor
set_option linter.all false
open Go.ChangeShapes Go.WideShapes Go.RowKit
/-- A filter from numbers. -/
def ofFN (x : FN) : Flt := ⟨x.zone, x.who, x.self, x.types, x.ntypes, x.colors, x.ncolors, B x.sub, x.keys, x.tap, x.pk, x.pn, x.tk, x.tn, x.vk, x.vn⟩
structure FNok (x : FN) : Prop where
  zone : x.zone < 6
  who : x.who < 3
  self : x.self < 3
  tap : x.tap < 3
  keys : x.keys < 2 ^ 17
  types : x.types < 2 ^ 6
  ntypes : x.ntypes < 2 ^ 6
  colors : x.colors < 2 ^ 5
  ncolors : x.ncolors < 2 ^ 5
  sub : x.sub = [] ∨ isSub x.sub = true
  pk : x.pk < 4
  pn : x.pn ≤ 1000000
  p0 : x.pk = 0 → x.pn = 0
  tk : x.tk < 4
  tn : x.tn ≤ 1000000
  t0 : x.tk = 0 → x.tn = 0
  vk : x.vk < 4
  vn : x.vn ≤ 1000000
  v0 : x.vk = 0 → x.vn = 0
theorem zone_nil : ∀ i, i < 6 → wd zoneT i = [] → i = 0 := by decide
theorem who_nil : ∀ i, i < 3 → wd whoT i = [] → i = 0 := by decide
theorem self_nil : ∀ i, i < 3 → wd selfT i = [] → i = 0 := by decide
theorem tap_nil : ∀ i, i < 3 → wd tapT i = [] → i = 0 := by decide
theorem type_ne : ∀ i, i < 6 → [] ++ wd typeT i ≠ [] := by decide
theorem ntype_ne : ∀ i, i < 6 → nonW ++ wd typeT i ≠ [] := by decide
theorem color_ne : ∀ i, i < 5 → [] ++ wd colorT i ≠ [] := by decide
theorem ncolor_ne : ∀ i, i < 5 → nonW ++ wd colorT i ≠ [] := by decide
theorem key_ne : ∀ i, i < 17 → withW ++ wd kwT i ≠ [] := by decide
theorem boundW_nil {name : Str} {k n : Nat} (hn : name ≠ []) (h : boundW name k n = []) : k = 0 := by
  unfold boundW at h; split at h
  · assumption
  · simp [hn] at h
theorem boundW_ne {name : Str} {k n : Nat} (h : boundW name k n ≠ []) : k ≠ 0 ∧ boundW name k n = name ++ wd signT k ++ Lib.itoa n := by
  unfold boundW at h ⊢; split at h
  · exact absurd rfl h
  · rename_i h0; exact ⟨h0, if_neg h0⟩
/-- A reader of one word that takes the words of a valid filter as they are meant. -/
structure StepOk (st : Flt → Str → Option Flt) : Prop where
  type : ∀ (a b c e f g : Int) (s : ByteArray) (k t p q u v y z : Int) (i x : Nat), i < 6 → x < 2 ^ 31 → st ⟨a, b, c, (x : Int), e, f, g, s, k, t, p, q, u, v, y, z⟩ ([] ++ wd typeT i) = some ⟨a, b, c, ((x ||| 2 ^ i : Nat) : Int), e, f, g, s, k, t, p, q, u, v, y, z⟩
  ntype : ∀ (a b c d f g : Int) (s : ByteArray) (k t p q u v y z : Int) (i x : Nat), i < 6 → x < 2 ^ 31 → st ⟨a, b, c, d, (x : Int), f, g, s, k, t, p, q, u, v, y, z⟩ (nonW ++ wd typeT i) = some ⟨a, b, c, d, ((x ||| 2 ^ i : Nat) : Int), f, g, s, k, t, p, q, u, v, y, z⟩
  color : ∀ (a b c d e g : Int) (s : ByteArray) (k t p q u v y z : Int) (i x : Nat), i < 5 → x < 2 ^ 31 → st ⟨a, b, c, d, e, (x : Int), g, s, k, t, p, q, u, v, y, z⟩ ([] ++ wd colorT i) = some ⟨a, b, c, d, e, ((x ||| 2 ^ i : Nat) : Int), g, s, k, t, p, q, u, v, y, z⟩
  ncolor : ∀ (a b c d e f : Int) (s : ByteArray) (k t p q u v y z : Int) (i x : Nat), i < 5 → x < 2 ^ 31 → st ⟨a, b, c, d, e, f, (x : Int), s, k, t, p, q, u, v, y, z⟩ (nonW ++ wd colorT i) = some ⟨a, b, c, d, e, f, ((x ||| 2 ^ i : Nat) : Int), s, k, t, p, q, u, v, y, z⟩
  key : ∀ (a b c d e f g : Int) (s : ByteArray) (t p q u v y z : Int) (i x : Nat), i < 17 → x < 2 ^ 31 → st ⟨a, b, c, d, e, f, g, s, (x : Int), t, p, q, u, v, y, z⟩ (withW ++ wd kwT i) = some ⟨a, b, c, d, e, f, g, s, ((x ||| 2 ^ i : Nat) : Int), t, p, q, u, v, y, z⟩
  zone : ∀ (a b c d e f g : Int) (s : ByteArray) (k t p q u v y z : Int) (i : Nat), i < 6 → wd zoneT i ≠ [] → st ⟨a, b, c, d, e, f, g, s, k, t, p, q, u, v, y, z⟩ (wd zoneT i) = some ⟨((i : Nat) : Int), b, c, d, e, f, g, s, k, t, p, q, u, v, y, z⟩
  who : ∀ (a b c d e f g : Int) (s : ByteArray) (k t p q u v y z : Int) (i : Nat), i < 3 → wd whoT i ≠ [] → st ⟨a, b, c, d, e, f, g, s, k, t, p, q, u, v, y, z⟩ (wd whoT i) = some ⟨a, ((i : Nat) : Int), c, d, e, f, g, s, k, t, p, q, u, v, y, z⟩
  self : ∀ (a b c d e f g : Int) (s : ByteArray) (k t p q u v y z : Int) (i : Nat), i < 3 → wd selfT i ≠ [] → st ⟨a, b, c, d, e, f, g, s, k, t, p, q, u, v, y, z⟩ (wd selfT i) = some ⟨a, b, ((i : Nat) : Int), d, e, f, g, s, k, t, p, q, u, v, y, z⟩
  tap : ∀ (a b c d e f g : Int) (s : ByteArray) (k t p q u v y z : Int) (i : Nat), i < 3 → wd tapT i ≠ [] → st ⟨a, b, c, d, e, f, g, s, k, t, p, q, u, v, y, z⟩ (wd tapT i) = some ⟨a, b, c, d, e, f, g, s, k, ((i : Nat) : Int), p, q, u, v, y, z⟩
  sub : ∀ (F : Flt) (r : Str), st F (subW ++ r) = some { F with sub := B r }
  power : ∀ (a b c d e f g : Int) (s : ByteArray) (k t p q u v y z : Int) (i n : Nat), i < 4 → i ≠ 0 → n ≤ 1000000 → st ⟨a, b, c, d, e, f, g, s, k, t, p, q, u, v, y, z⟩ (powerW ++ wd signT i ++ Lib.itoa n) = some ⟨a, b, c, d, e, f, g, s, k, t, ((i : Nat) : Int), ((n : Nat) : Int), u, v, y, z⟩
  tough : ∀ (a b c d e f g : Int) (s : ByteArray) (k t p q u v y z : Int) (i n : Nat), i < 4 → i ≠ 0 → n ≤ 1000000 → st ⟨a, b, c, d, e, f, g, s, k, t, p, q, u, v, y, z⟩ (toughW ++ wd signT i ++ Lib.itoa n) = some ⟨a, b, c, d, e, f, g, s, k, t, p, q, ((i : Nat) : Int), ((n : Nat) : Int), y, z⟩
  value : ∀ (a b c d e f g : Int) (s : ByteArray) (k t p q u v y z : Int) (i n : Nat), i < 4 → i ≠ 0 → n ≤ 1000000 → st ⟨a, b, c, d, e, f, g, s, k, t, p, q, u, v, y, z⟩ (valueW ++ wd signT i ++ Lib.itoa n) = some ⟨a, b, c, d, e, f, g, s, k, t, p, q, u, v, ((i : Nat) : Int), ((n : Nat) : Int)⟩
theorem fold_gn (st : Flt → Str → Option Flt) (o : StepOk st) (x : FN) (h : FNok x) : foldG st zeroF (fltWords x) = some (ofFN x) := by
  obtain ⟨zone, who, self, types, ntypes, colors, ncolors, sub, keys, tap, pk, pn, tk, tn, vk, vn⟩ := x
  have e0 : foldG st zeroF [] = some ⟨0, 0, 0, 0, 0, 0, 0, ⟨#[]⟩, 0, 0, 0, 0, 0, 0, 0, 0⟩ := rfl
  have e1 := foldG_addW (g' := ⟨zone, 0, 0, 0, 0, 0, 0, ⟨#[]⟩, 0, 0, 0, 0, 0, 0, 0, 0⟩) (s := wd zoneT zone) e0 (fun e => by have e0 := zone_nil _ h.zone e; simp only at e0; subst e0; rfl) (fun e => o.zone _ _ _ _ _ _ _ _ _ _ _ _ _ _ _ _ _ h.zone e)
  have e2 := foldG_addW (g' := ⟨zone, who, 0, 0, 0, 0, 0, ⟨#[]⟩, 0, 0, 0, 0, 0, 0, 0, 0⟩) (s := wd whoT who) e1 (fun e => by have e0 := who_nil _ h.who e; simp only at e0; subst e0; rfl) (fun e => o.who _ _ _ _ _ _ _ _ _ _ _ _ _ _ _ _ _ h.who e)
  have e3 := foldG_addW (g' := ⟨zone, who, self, 0, 0, 0, 0, ⟨#[]⟩, 0, 0, 0, 0, 0, 0, 0, 0⟩) (s := wd selfT self) e2 (fun e => by have e0 := self_nil _ h.self e; simp only at e0; subst e0; rfl) (fun e => o.self _ _ _ _ _ _ _ _ _ _ _ _ _ _ _ _ _ h.self e)
  have e4 := foldG_addMask [] typeT (fun m => ⟨zone, who, self, (m : Nat), 0, 0, 0, ⟨#[]⟩, 0, 0, 0, 0, 0, 0, 0, 0⟩) types h.types (by decide) e3 type_ne (fun i hi x hx => o.type _ _ _ _ _ _ _ _ _ _ _ _ _ _ _ i x hi hx)
  have e5 := foldG_addMask nonW typeT (fun m => ⟨zone, who, self, types, (m : Nat), 0, 0, ⟨#[]⟩, 0, 0, 0, 0, 0, 0, 0, 0⟩) ntypes h.ntypes (by decide) e4 ntype_ne (fun i hi x hx => o.ntype _ _ _ _ _ _ _ _ _ _ _ _ _ _ _ i x hi hx)
  have e6 := foldG_addMask [] colorT (fun m => ⟨zone, who, self, types, ntypes, (m : Nat), 0, ⟨#[]⟩, 0, 0, 0, 0, 0, 0, 0, 0⟩) colors h.colors (by decide) e5 color_ne (fun i hi x hx => o.color _ _ _ _ _ _ _ _ _ _ _ _ _ _ _ i x hi hx)
  have e7 := foldG_addMask nonW colorT (fun m => ⟨zone, who, self, types, ntypes, colors, (m : Nat), ⟨#[]⟩, 0, 0, 0, 0, 0, 0, 0, 0⟩) ncolors h.ncolors (by decide) e6 ncolor_ne (fun i hi x hx => o.ncolor _ _ _ _ _ _ _ _ _ _ _ _ _ _ _ i x hi hx)
  have e8 : ∀ l, foldG st zeroF l = some ⟨zone, who, self, types, ntypes, colors, ncolors, B sub, 0, 0, 0, 0, 0, 0, 0, 0⟩ → foldG st zeroF (addW (addW (addW (addW (addMask l withW kwT keys) (wd tapT tap)) (boundW powerW pk pn)) (boundW toughW tk tn)) (boundW valueW vk vn)) = some ⟨zone, who, self, types, ntypes, colors, ncolors, B sub, keys, tap, pk, pn, tk, tn, vk, vn⟩ := by
    intro l el
    have f1 := foldG_addMask withW kwT (fun m => ⟨zone, who, self, types, ntypes, colors, ncolors, B sub, (m : Nat), 0, 0, 0, 0, 0, 0, 0⟩) keys h.keys (by decide) el key_ne (fun i hi x hx => o.key _ _ _ _ _ _ _ _ _ _ _ _ _ _ _ i x hi hx)
    have f2 := foldG_addW (g' := ⟨zone, who, self, types, ntypes, colors, ncolors, B sub, keys, tap, 0, 0, 0, 0, 0, 0⟩) (s := wd tapT tap) f1 (fun e => by have e0 := tap_nil _ h.tap e; simp only at e0; subst e0; rfl) (fun e => o.tap _ _ _ _ _ _ _ _ _ _ _ _ _ _ _ _ _ h.tap e)
    have f3 := foldG_addW (g' := ⟨zone, who, self, types, ntypes, colors, ncolors, B sub, keys, tap, pk, pn, 0, 0, 0, 0⟩) (s := boundW powerW pk pn) f2 (fun e => by
      have e0 := boundW_nil (by decide) e
      have e1 := h.p0 e0; simp only at e1; rw [e0, e1]; rfl) (fun e => by
      have := boundW_ne e; rw [this.2]; exact o.power _ _ _ _ _ _ _ _ _ _ _ _ _ _ _ _ pk pn h.pk this.1 h.pn)
    have f4 := foldG_addW (g' := ⟨zone, who, self, types, ntypes, colors, ncolors, B sub, keys, tap, pk, pn, tk, tn, 0, 0⟩) (s := boundW toughW tk tn) f3 (fun e => by
      have e0 := boundW_nil (by decide) e
      have e1 := h.t0 e0; simp only at e1; rw [e0, e1]; rfl) (fun e => by
      have := boundW_ne e; rw [this.2]; exact o.tough _ _ _ _ _ _ _ _ _ _ _ _ _ _ _ _ tk tn h.tk this.1 h.tn)
    exact foldG_addW (s := boundW valueW vk vn) f4 (fun e => by
      have e0 := boundW_nil (by decide) e
      have e1 := h.v0 e0; simp only at e1; rw [e0, e1]; rfl) (fun e => by
      have := boundW_ne e; rw [this.2]; exact o.value _ _ _ _ _ _ _ _ _ _ _ _ _ _ _ _ vk vn h.vk this.1 h.vn)
  show foldG st zeroF (fltWordsB (sub == []) _) = _
  unfold fltWordsB
  cases hb : (sub == []) with
  | true =>
    obtain rfl : sub = [] := by simpa using hb
    exact e8 _ e7
  | false =>
    refine e8 _ (foldG_addW e7 (fun e => absurd e (by simp [subW])) (fun _ => ?_))
    rw [o.sub]
theorem takeS_ok : StepOk takeS := ⟨tk_type, tk_ntype, tk_color, tk_ncolor, tk_key, tk_zone, tk_who, tk_self, tk_tap, tk_sub, tk_power, tk_tough, tk_value⟩
theorem fold_fn (x : FN) (h : FNok x) : foldT zeroF (fltWords x) = some (ofFN x) := (foldT_eq _ _).trans (fold_gn takeS takeS_ok x h)
theorem addW_ev {p : Str → Prop} {l : List Str} {s : Str} (hl : ∀ x ∈ l, p x) (hs : p s) : ∀ x ∈ addW l s, p x := by
  intro x hx; unfold addW at hx; split at hx
  · exact hl x hx
  · rcases List.mem_append.1 hx with h | h
    · exact hl x h
    · rw [List.mem_singleton.1 h]; exact hs
theorem foldl_addW_ev {p : Str → Prop} (m : List Str) : ∀ (l : List Str), (∀ x ∈ l, p x) → (∀ x ∈ m, p x) → ∀ x ∈ m.foldl addW l, p x := by
  induction m with
  | nil => intro l hl _; exact hl
  | cons y r ih => intro l hl hm; exact ih _ (addW_ev hl (hm y (by simp))) (fun x hx => hm x (List.mem_cons_of_mem _ hx))
/-- A byte of the card language's words: a letter, a digit, one of - : < = >. -/
def okB (c : UInt8) : Bool := okc c || (c == 58 || (c == 60 || (c == 61 || c == 62)))
def NoB (w : Str) : Prop := w.all okB = true
instance (w : Str) : Decidable (NoB w) := inferInstanceAs (Decidable (_ = true))
theorem NoB.app {a b : Str} (ha : NoB a) (hb : NoB b) : NoB (a ++ b) := by
  unfold NoB at *; rw [List.all_append, ha, hb]; rfl
theorem NoB.no {w : Str} (h : NoB w) {c : UInt8} (hc : okB c = false) : c ∉ w := fun hm => by
  rw [List.all_eq_true.1 h _ hm] at hc; cases hc
theorem wd_noB {T : List Str} (h : ∀ x ∈ T, NoB x) (i : Nat) : NoB (wd T i) := by
  unfold wd
  rcases Nat.lt_or_ge i T.length with h' | h'
  · simp only [List.getD, List.getElem?_eq_getElem h', Option.getD_some]; exact h _ (List.getElem_mem h')
  · simp [List.getD, List.getElem?_eq_none h', NoB]
theorem mask_noB {l : List Str} (p : Str) (T : List Str) (m : Nat) (hl : ∀ x ∈ l, NoB x) (hp : NoB p) (hT : ∀ x ∈ T, NoB x) : ∀ x ∈ addMask l p T m, NoB x := by
  unfold addMask
  refine foldl_addW_ev _ _ hl ?_
  intro x hx
  obtain ⟨i, _, rfl⟩ := List.mem_map.1 hx
  exact hp.app (wd_noB hT i)
theorem bound_noB {name : Str} (hn : NoB name) (k n : Nat) : NoB (boundW name k n) := by
  unfold boundW; split
  · simp [NoB]
  · refine (hn.app (wd_noB (by decide) k)).app ?_
    rw [Lib.itoa_nonneg]
    refine List.all_eq_true.2 fun c hc => ?_
    have h1 := decDigits_mem n c hc
    unfold okB okc okb
    rw [decide_eq_true h1.1, decide_eq_true h1.2]; simp
theorem isSub_noB {s : Str} (h : isSub s = true) : NoB s := by
  simp only [isSub, isName, Bool.and_eq_true] at h
  have h2 := h.1.2
  refine List.all_eq_true.2 fun c hc => ?_
  unfold okB; rw [List.all_eq_true.1 h2 c hc]; rfl
theorem words_noB (x : FN) (h : FNok x) : ∀ w ∈ fltWords x, NoB w := by
  have hsub : NoB x.sub := by
    rcases h.sub with e | e
    · rw [e]; simp [NoB]
    · exact isSub_noB e
  have h1 : ∀ w ∈ addMask (addMask (addMask (addMask (addW (addW (addW [] (wd zoneT x.zone)) (wd whoT x.who)) (wd selfT x.self)) [] typeT x.types) nonW typeT x.ntypes) [] colorT x.colors) nonW colorT x.ncolors, NoB w :=
    mask_noB nonW colorT _ (mask_noB [] colorT _ (mask_noB nonW typeT _ (mask_noB [] typeT _ (addW_ev (addW_ev (addW_ev (p := NoB) (fun _ h => absurd h (by simp)) (wd_noB (T := zoneT) (by decide) _)) (wd_noB (T := whoT) (by decide) _)) (wd_noB (T := selfT) (by decide) _)) (by decide) (by decide)) (by decide) (by decide)) (by decide) (by decide)) (by decide) (by decide)
  have h2 : ∀ l : List Str, (∀ w ∈ l, NoB w) → ∀ w ∈ addW (addW (addW (addW (addMask l withW kwT x.keys) (wd tapT x.tap)) (boundW powerW x.pk x.pn)) (boundW toughW x.tk x.tn)) (boundW valueW x.vk x.vn), NoB w :=
    fun l hl => addW_ev (addW_ev (addW_ev (addW_ev (p := NoB) (mask_noB withW kwT _ hl (by decide) (by decide)) (wd_noB (T := tapT) (by decide) _)) (bound_noB (name := powerW) (by decide) _ _)) (bound_noB (name := toughW) (by decide) _ _)) (bound_noB (name := valueW) (by decide) _ _)
  unfold fltWords fltWordsB
  cases (x.sub == []) with
  | true => exact h2 _ h1
  | false => exact h2 _ (addW_ev (p := NoB) h1 (NoB.app (a := subW) (by decide) hsub))
theorem foldT_any : foldT zeroF [anyW] = none := by kernel_rfl
theorem foldT_empty : foldT zeroF [[]] = none := by kernel_rfl
theorem parseS_empty : parseS [] = none := by kernel_rfl
theorem text_splits (x : FN) (h : FNok x) (hw : fltWords x ≠ []) : splitOn 32 (fltText x) = fltWords x := by
  unfold fltText; rw [if_neg hw]; exact splitOn_join 32 _ hw (fun w hm => (words_noB x h w hm).no (by decide))
theorem fltText_ne (x : FN) (h : FNok x) : fltText x ≠ [] := by
  intro e
  by_cases hw : fltWords x = []
  · unfold fltText at e; rw [if_pos hw] at e; cases e
  · have h1 := text_splits x h hw
    rw [e] at h1
    have h2 := fold_fn x h
    rw [← h1] at h2
    have h3 : splitOn 32 ([] : Str) = [[]] := rfl
    rw [h3, foldT_empty] at h2; cases h2
theorem text_any (x : FN) (h : FNok x) (hw : fltWords x ≠ []) : fltText x ≠ anyW := by
  intro e
  have h1 := text_splits x h hw
  rw [e] at h1
  have h2 := fold_fn x h
  rw [← h1] at h2
  have h3 : splitOn 32 anyW = [anyW] := by decide
  rw [h3, foldT_any] at h2; cases h2
theorem btwN {n m : Int} (h : btw n m = true) : ((n.toNat : Nat) : Int) = n ∧ (n.toNat : Int) ≤ m := by
  simp only [btw, Bool.and_eq_true, decide_eq_true_eq] at h; omega
theorem bndN {k n : Int} (h : bnd k n = true) : (((k.toNat : Nat) : Int) = k ∧ k.toNat < 4) ∧ (((n.toNat : Nat) : Int) = n ∧ n.toNat ≤ 1000000) ∧ (k.toNat = 0 → n.toNat = 0) := by
  simp only [bnd, btw, Bool.and_eq_true, decide_eq_true_eq, Bool.or_eq_true, bne_iff_ne, ne_eq, beq_iff_eq] at h
  omega
theorem fltIs_fn {f : Flt} (h : fltIs f = true) : ofFN (toFN f) = f ∧ FNok (toFN f) := by
  simp only [fltIs, okMasks, Bool.and_eq_true, Bool.or_eq_true, beq_iff_eq] at h
  obtain ⟨⟨h1, h2, h3, h4, h5⟩, ⟨h6, h7, h8⟩, ⟨h9, h10, h11⟩, h12, h13, h14, h15⟩ := h
  have a1 := btwN h1; have a2 := btwN h2; have a3 := btwN h3; have a4 := btwN h4; have a5 := btwN h5
  have a6 := btwN h6; have a7 := btwN h7; have a9 := btwN h9; have a10 := btwN h10
  have a13 := bndN h13; have a14 := bndN h14; have a15 := bndN h15
  constructor
  · obtain ⟨zone, who, self, types, ntypes, colors, ncolors, sub, keys, tap, pk, pn, tk, tn, vk, vn⟩ := f
    simp only [ofFN, toFN, a1.1, a2.1, a3.1, a4.1, a5.1, a6.1, a7.1, a9.1, a10.1, a13.1.1, a13.2.1.1, a14.1.1, a14.2.1.1, a15.1.1, a15.2.1.1, B_L]
  · exact {
      zone := by simp only [toFN]; omega
      who := by simp only [toFN]; omega
      self := by simp only [toFN]; omega
      tap := by simp only [toFN]; omega
      keys := by simp only [toFN]; omega
      types := by simp only [toFN]; omega
      ntypes := by simp only [toFN]; omega
      colors := by simp only [toFN]; omega
      ncolors := by simp only [toFN]; omega
      sub := h12
      pk := a13.1.2
      pn := a13.2.1.2
      p0 := a13.2.2
      tk := a14.1.2
      tn := a14.2.1.2
      t0 := a14.2.2
      vk := a15.1.2
      vn := a15.2.1.2
      v0 := a15.2.2 }
/-- P13.3: Parse inverts Text on the valid filters. -/
theorem parse_text {f : Flt} (h : fltIs f = true) : parseS (textOf f) = some f := by
  obtain ⟨hf, hok⟩ := fltIs_fn h
  have ht : textOf f = fltText (toFN f) := by unfold textOf; rw [if_pos h]
  have hfold := fold_fn _ hok
  rw [hf] at hfold
  have key : (if textOf f = anyW then some zeroF else foldT zeroF (splitOn 32 (textOf f))) = some f := by
    by_cases hw : fltWords (toFN f) = []
    · rw [hw] at hfold
      have : textOf f = anyW := by rw [ht]; unfold fltText; rw [if_pos hw]
      rw [if_pos this]; exact hfold
    · rw [ht, if_neg (text_any _ hok hw), text_splits _ hok hw]; exact hfold
  unfold parseS; rw [key]; simp
theorem text_ne {f : Flt} (h : fltIs f = true) : textOf f ≠ [] := by
  obtain ⟨_, hok⟩ := fltIs_fn h
  unfold textOf; rw [if_pos h]; exact fltText_ne _ hok
theorem text_no {f : Flt} (h : fltIs f = false) : textOf f = [] := by
  unfold textOf; rw [if_neg (by rw [h]; decide)]
/-- P13.3: two valid filters with the same text are the same. -/
theorem text_inj {f g : Flt} (hf : fltIs f = true) (hg : fltIs g = true) (h : textOf f = textOf g) : f = g := by
  have h1 := parse_text hf; rw [h, parse_text hg] at h1; injection h1 with h1; exact h1.symm
/-- P13.3: Text inverts Parse wherever it succeeds. -/
theorem parse_back {s : Str} {h : Flt} (hp : parseS s = some h) : fltIs h = true ∧ textOf h = s := by
  have ht : textOf h = s := by
    unfold parseS at hp
    split at hp
    · split at hp
      · rename_i e; injection hp with hp; rw [← hp]; exact e
      · cases hp
    · cases hp
  refine ⟨?_, ht⟩
  cases hv : fltIs h with
  | true => rfl
  | false => rw [text_no hv] at ht; rw [← ht, parseS_empty] at hp; cases hp
end Go.Proofs.YtakgfbcmkhcdkaaGreatDoor
