/- Plain words: modifications (chapter 15); Parse inverts Text. No program in sight. Plain words: modifications (chapter 15): what is guessed of a valid modification's text is the modification. No program in sight. Plain words: lists of modifications (chapter 15): texts, readings, one the inverse of the other. No program in sight. Plain words: the parts of a text between ", " and ", " by the place of the first one. No program in sight. Plain words: the reference's reading of a modification (chapter 15) is the program's. No program in sight. -/
import Derived.Test.YtakgfbcmkhcdkaaGreatDoorMIMem
import Derived.Lib.Index
import Derived.Test.YtakgfbcmkhcdkaaGreatDoorBase
namespace Go.Proofs.YtakgfbcmkhcdkaaGreatDoor
set_option linter.all false
open Go.ChangeShapes Go.WideShapes Go.RowKit
structure Md where
  kind : Int
  n : Int
  m : Int
  sub : ByteArray
  f : Flt
def Md.cells (r : Md) : Array Value := #[.int .i64 r.kind, .int .i64 r.n, .int .i64 r.m, .string r.sub, .int .i64 r.f.zone, .int .i64 r.f.who, .int .i64 r.f.self, .int .i64 r.f.types, .int .i64 r.f.ntypes, .int .i64 r.f.colors, .int .i64 r.f.ncolors, .string r.f.sub, .int .i64 r.f.keys, .int .i64 r.f.tap, .int .i64 r.f.pk, .int .i64 r.f.pn, .int .i64 r.f.tk, .int .i64 r.f.tn, .int .i64 r.f.vk, .int .i64 r.f.vn]
def zeroM : Md := ⟨0, 0, 0, ⟨#[]⟩, zeroF⟩
def controlV : Str := [99, 111, 110, 116, 114, 111, 108]
def blankV : Str := [98, 108, 97, 110, 107]
def switchV : Str := [112, 116, 45, 115, 119, 105, 116, 99, 104]
def typesV : Str := [116, 121, 112, 101, 115]
def typesPV : Str := [116, 121, 112, 101, 115, 43]
def subV : Str := [115, 117, 98]
def subPV : Str := [115, 117, 98, 43]
def colorsV : Str := [99, 111, 108, 111, 114, 115]
def colorsPV : Str := [99, 111, 108, 111, 114, 115, 43]
def keysPV : Str := [107, 101, 121, 115, 43]
def keysMV : Str := [107, 101, 121, 115, 45]
def ptV : Str := [112, 116]
def ptPV : Str := [112, 116, 43]
def countPV : Str := [99, 111, 117, 110, 116, 40]
def usesN (k : Int) : Bool := k == 2 || (k == 3 || (k == 6 || (k == 7 || (k == 8 || (k == 9 || (k == 12 || k == 13))))))
def usedM (r : Md) : Md := ⟨r.kind, if usesN r.kind = true then r.n else 0, if r.kind = 12 ∨ r.kind = 13 then r.m else 0, if r.kind = 4 ∨ r.kind = 5 then r.sub else ⟨#[]⟩, if r.kind = 11 then r.f else zeroF⟩
def mdEq (a b : Md) : Bool := a.kind == b.kind && (a.n == b.n && (a.m == b.m && (a.sub.toList == b.sub.toList && fltEq a.f b.f)))
theorem mdEq_iff (a b : Md) : mdEq a b = true ↔ a = b := by
  obtain ⟨a1, a2, a3, a4, a5⟩ := a
  obtain ⟨b1, b2, b3, b4, b5⟩ := b
  simp only [mdEq, Bool.and_eq_true, beq_iff_eq, fltEq_iff, Md.mk.injEq]
  constructor
  · rintro ⟨h1, h2, h3, h4, h5⟩
    refine ⟨h1, h2, h3, ?_, h5⟩
    exact L_inj (by rw [← L_toList, ← L_toList]; exact h4)
  · rintro ⟨h1, h2, h3, h4, h5⟩
    exact ⟨h1, h2, h3, by rw [h4], h5⟩
theorem mdEq_refl (a : Md) : mdEq a a = true := (mdEq_iff a a).2 rfl
/-- The numbers, the subtype and the filter of a modification fit its kind. -/
def mdNums (r : Md) : Bool :=
  if r.kind = 2 ∨ r.kind = 3 then decide (1 ≤ r.n) && (decide (r.n ≤ 63) && (bits .and .i64 r.n 6 == 0))
  else if r.kind = 4 ∨ r.kind = 5 then isSub (L r.sub)
  else if r.kind = 6 then decide (0 ≤ r.n) && decide (r.n ≤ 31)
  else if r.kind = 7 then decide (1 ≤ r.n) && decide (r.n ≤ 31)
  else if r.kind = 8 ∨ r.kind = 9 then decide (1 ≤ r.n) && decide (r.n ≤ 131071)
  else if r.kind = 11 then fltIs r.f
  else if r.kind = 12 then decide (0 ≤ r.n) && (decide (r.n ≤ 99) && (decide (0 ≤ r.m) && decide (r.m ≤ 99)))
  else if r.kind = 13 then decide (-99 ≤ r.n) && (decide (r.n ≤ 99) && (decide (-99 ≤ r.m) && decide (r.m ≤ 99)))
  else true
/-- A modification is valid. -/
def mdIs (r : Md) : Bool := decide (1 ≤ r.kind) && (decide (r.kind ≤ 14) && (mdEq r (usedM r) && mdNums r))
def mdBody (r : Md) : Str :=
  if r.kind = 1 then controlV else if r.kind = 2 then typesV ++ 61 :: typesText r.n.toNat else if r.kind = 3 then typesPV ++ 61 :: typesText r.n.toNat
  else if r.kind = 4 then subV ++ 61 :: L r.sub else if r.kind = 5 then subPV ++ 61 :: L r.sub
  else if r.kind = 6 then colorsV ++ 61 :: colorText r.n.toNat else if r.kind = 7 then colorsPV ++ 61 :: colorText r.n.toNat
  else if r.kind = 8 then keysPV ++ 61 :: keyText r.n.toNat else if r.kind = 9 then keysMV ++ 61 :: keyText r.n.toNat
  else if r.kind = 10 then blankV else if r.kind = 11 then ptV ++ 61 :: (countPV ++ (textOf r.f ++ [41]))
  else if r.kind = 12 then ptV ++ 61 :: (Lib.itoa r.n ++ 47 :: Lib.itoa r.m) else if r.kind = 13 then ptPV ++ 61 :: (Lib.itoa r.n ++ 47 :: Lib.itoa r.m)
  else switchV
/-- A modification's text; empty if it is not valid. -/
def mdText (r : Md) : Str := if mdIs r = true then mdBody r else []
def pointsM (s : Str) : Md :=
  if Lib.hasPrefix s countPV = true then ⟨11, 0, 0, ⟨#[]⟩, (parseS (Lib.trimSuffix (Lib.trimPrefix s countPV) [41])).getD zeroF⟩
  else ⟨12, (numOf (cutAt 47 s).1).getD 0, (numOf (cutAt 47 s).2).getD 0, ⟨#[]⟩, zeroF⟩
def optN (o : Option Nat) : Int := ((o.getD 0 : Nat) : Int)
/-- What a name and what is behind its sign say, but for the kind's step. -/
def baseM (nm rest : Str) : Md :=
  if nm = typesV ∨ nm = typesPV then ⟨2, optN (ptOf rest), 0, ⟨#[]⟩, zeroF⟩
  else if nm = subV ∨ nm = subPV then ⟨4, 0, 0, B rest, zeroF⟩
  else if nm = colorsV ∨ nm = colorsPV then ⟨6, optN (pcOf rest), 0, ⟨#[]⟩, zeroF⟩
  else if nm = keysPV ∨ nm = keysMV then ⟨8, optN (pkOf rest), 0, ⟨#[]⟩, zeroF⟩
  else if nm = ptV ∨ nm = ptPV then pointsM rest
  else zeroM
def stepM (nm : Str) : Bool := nm == keysMV || (Lib.hasSuffix nm [43] && !(nm == keysPV))
def upM (r : Md) (b : Bool) : Md := if b = true then ⟨r.kind + 1, r.n, r.m, r.sub, r.f⟩ else r
def guessM (s : Str) : Md :=
  if s = controlV then ⟨1, 0, 0, ⟨#[]⟩, zeroF⟩ else if s = blankV then ⟨10, 0, 0, ⟨#[]⟩, zeroF⟩ else if s = switchV then ⟨14, 0, 0, ⟨#[]⟩, zeroF⟩
  else upM (baseM (cutAt 61 s).1 (cutAt 61 s).2) (stepM (cutAt 61 s).1)
def mdParse (s : Str) : Option Md := if mdIs (guessM s) = true ∧ mdText (guessM s) = s then some (guessM s) else none
theorem cutAt_eq (c : UInt8) : ∀ (l r : Str), c ∉ l → cutAt c (l ++ c :: r) = (l, r)
  | [], r, _ => by simp [cutAt]
  | x :: l, r, h => by
    have hx : ¬ (x == c) = true := fun e => h (by rw [eq_of_beq e]; exact .head _)
    rw [List.cons_append, cutAt, if_neg hx, cutAt_eq c l r (fun m => h (.tail _ m))]
theorem pt_types : ∀ k : Fin 64, 1 ≤ k.val → ptOf (typesText k.val) = some k.val := by decide +kernel
theorem pc_colors : ∀ k : Fin 32, pcOf (colorText k.val) = some k.val := by decide +kernel
theorem num_small : ∀ k : Fin 199, numOf (Lib.itoa ((k.val : Int) - 99)) = some ((k.val : Int) - 99) := by decide +kernel
theorem numOf_99 (n : Int) (h1 : -99 ≤ n) (h2 : n ≤ 99) : numOf (Lib.itoa n) = some n := by
  have := num_small ⟨(n + 99).toNat, by omega⟩
  simp only at this
  rwa [show (((n + 99).toNat : Nat) : Int) - 99 = n by omega] at this
end Go.Proofs.YtakgfbcmkhcdkaaGreatDoor
namespace Go.Proofs.YtakgfbcmkhcdkaaGreatDoor
set_option linter.all false
open Go.ChangeShapes Go.WideShapes Go.RowKit
theorem key_acc (a : Nat) : ∀ i, i < 17 → keyAcc (wd kwT i) 17 a = a ||| 2 ^ i
  | 0, _ => by kernel_rfl
  | 1, _ => by kernel_rfl
  | 2, _ => by kernel_rfl
  | 3, _ => by kernel_rfl
  | 4, _ => by kernel_rfl
  | 5, _ => by kernel_rfl
  | 6, _ => by kernel_rfl
  | 7, _ => by kernel_rfl
  | 8, _ => by kernel_rfl
  | 9, _ => by kernel_rfl
  | 10, _ => by kernel_rfl
  | 11, _ => by kernel_rfl
  | 12, _ => by kernel_rfl
  | 13, _ => by kernel_rfl
  | 14, _ => by kernel_rfl
  | 15, _ => by kernel_rfl
  | 16, _ => by kernel_rfl
  | n + 17, h => absurd h (by omega)
theorem keyParts_mask (m : Nat) (hm : m < 2 ^ 17) : ∀ k, k ≤ 31 → keyParts ((bitsUpto m k).map fun i => wd kwT i) = m % 2 ^ k
  | 0, _ => by simp [bitsUpto, keyParts, Nat.mod_one]
  | k + 1, hk => by
    have ih := keyParts_mask m hm k (by omega)
    cases hb : m.testBit k with
    | false => rw [bitsUpto_no hb, mod_bit_no hb]; exact ih
    | true =>
      have hkn : k < 17 := by
        rcases Nat.lt_or_ge k 17 with h' | h'
        · exact h'
        · rw [Nat.testBit_lt_two_pow (Nat.lt_of_lt_of_le hm (Nat.pow_le_pow_right (by omega) h'))] at hb; cases hb
      unfold keyParts at ih ⊢
      rw [bitsUpto_yes hb, mod_bit_yes hb, List.map_append, List.foldl_append, ih]
      simp only [List.map_cons, List.map_nil, List.foldl_cons, List.foldl_nil]
      exact key_acc _ k hkn
theorem keyParts_text (m : Nat) (hm : m < 2 ^ 17) : keyParts (maskWords kwT m) = m := by
  have h := keyParts_mask m hm 31 (Nat.le_refl _)
  rw [Nat.mod_eq_of_lt (Nat.lt_of_lt_of_le hm (Nat.pow_le_pow_right (by omega) (by omega)))] at h
  exact h
def plainP (l : Str) : Bool := l.all fun c => !(c.toNat == 43 || (c.toNat == 40 || (c.toNat == 41 || (c.toNat == 91 || c.toNat == 93))))
theorem spP_plain : ∀ (l cur r : Str), plainP l = true → splitAux 43 0 cur (l ++ 43 :: r) = (cur ++ l) :: splitAux 43 0 [] r
  | [], cur, r, _ => by
    have e : deeperN 0 (43 : UInt8).toNat = 0 := by decide
    rw [List.nil_append, splitAux, if_pos ⟨by decide, rfl⟩, e, List.append_nil]
  | c :: l, cur, r, h => by
    simp only [plainP, List.all_cons, Bool.and_eq_true, Bool.not_eq_true', Bool.or_eq_false_iff, beq_eq_false_iff_ne] at h
    obtain ⟨⟨h1, h2, h3, h4, h5⟩, hl⟩ := h
    have e : deeperN 0 c.toNat = 0 := by unfold deeperN; rw [if_neg (by omega), if_neg (by omega)]
    rw [List.cons_append, splitAux, if_neg (fun x => h1 x.1), e, spP_plain l _ r (by simpa [plainP] using hl)]; simp
theorem spP_last : ∀ (l cur : Str), plainP l = true → splitAux 43 0 cur l = [cur ++ l]
  | [], cur, _ => by rw [splitAux, List.append_nil]
  | c :: l, cur, h => by
    simp only [plainP, List.all_cons, Bool.and_eq_true, Bool.not_eq_true', Bool.or_eq_false_iff, beq_eq_false_iff_ne] at h
    obtain ⟨⟨h1, h2, h3, h4, h5⟩, hl⟩ := h
    have e : deeperN 0 c.toNat = 0 := by unfold deeperN; rw [if_neg (by omega), if_neg (by omega)]
    rw [splitAux, if_neg (fun x => h1 x.1), e, spP_last l _ (by simpa [plainP] using hl)]; simp
theorem spP_join : ∀ (l : List Str), l ≠ [] → (∀ x ∈ l, plainP x = true) → splitDep 43 (Lib.join l [43]) = l
  | [], h, _ => absurd rfl h
  | [a], _, h => by unfold splitDep; rw [Lib.join_one, spP_last a [] (h a (by simp))]; rfl
  | a :: b :: r, _, h => by
    have ih := spP_join (b :: r) (by simp) (fun x hx => h x (.tail _ hx))
    unfold splitDep at ih ⊢
    rw [join_cons2, List.append_assoc, List.singleton_append, spP_plain a [] _ (h a (by simp)), ih]; rfl
theorem mask_ne {T : List Str} {m : Nat} (h0 : m ≠ 0) (hm : m < 2 ^ 31) : maskWords T m ≠ [] := by
  intro h
  apply h0
  apply Nat.eq_of_testBit_eq
  intro i
  rw [Nat.zero_testBit]
  cases hb : m.testBit i
  · rfl
  · have hi : i < 31 := by
      rcases Nat.lt_or_ge i 31 with h' | h'
      · exact h'
      · rw [Nat.testBit_lt_two_pow (Nat.lt_of_lt_of_le hm (Nat.pow_le_pow_right (by omega) h'))] at hb; cases hb
    have : i ∈ bitsUpto m 31 := by unfold bitsUpto; simp [hi, hb]
    unfold maskWords at h
    rw [List.map_eq_nil_iff] at h
    rw [h] at this; cases this
theorem wd_plainP : ∀ i : Fin 17, plainP (wd kwT i.val) = true := by decide +kernel
theorem mask_plainP {m : Nat} (hm : m < 2 ^ 17) : ∀ x ∈ maskWords kwT m, plainP x = true := fun x hx => by
  obtain ⟨i, hi, rfl⟩ := List.mem_map.1 hx
  exact wd_plainP ⟨i, bits_lt hm hi⟩
theorem pk_keys (m : Nat) (hm : m < 2 ^ 17) : pkOf (keyText m) = some m := by
  by_cases h0 : m = 0
  · subst h0; kernel_rfl
  have hne : maskWords kwT m ≠ [] := mask_ne h0 (Nat.lt_of_lt_of_le hm (Nat.pow_le_pow_right (by omega) (by omega)))
  have e : splitDep 43 (keyText m) = maskWords kwT m := by
    unfold keyText
    rw [if_neg h0, spP_join _ hne (mask_plainP hm)]
  unfold pkOf
  rw [e, keyParts_text m hm, if_pos rfl]
inductive MdForm : Md → Prop
  | control : MdForm ⟨1, 0, 0, ⟨#[]⟩, zeroF⟩
  | types2 (k : Nat) : 1 ≤ k → k ≤ 63 → MdForm ⟨2, k, 0, ⟨#[]⟩, zeroF⟩
  | types3 (k : Nat) : 1 ≤ k → k ≤ 63 → MdForm ⟨3, k, 0, ⟨#[]⟩, zeroF⟩
  | sub4 (s : ByteArray) : isSub (L s) = true → MdForm ⟨4, 0, 0, s, zeroF⟩
  | sub5 (s : ByteArray) : isSub (L s) = true → MdForm ⟨5, 0, 0, s, zeroF⟩
  | colors6 (k : Nat) : k ≤ 31 → MdForm ⟨6, k, 0, ⟨#[]⟩, zeroF⟩
  | colors7 (k : Nat) : 1 ≤ k → k ≤ 31 → MdForm ⟨7, k, 0, ⟨#[]⟩, zeroF⟩
  | keys8 (k : Nat) : 1 ≤ k → k ≤ 131071 → MdForm ⟨8, k, 0, ⟨#[]⟩, zeroF⟩
  | keys9 (k : Nat) : 1 ≤ k → k ≤ 131071 → MdForm ⟨9, k, 0, ⟨#[]⟩, zeroF⟩
  | blank : MdForm ⟨10, 0, 0, ⟨#[]⟩, zeroF⟩
  | count (f : Flt) : fltIs f = true → MdForm ⟨11, 0, 0, ⟨#[]⟩, f⟩
  | set12 (n m : Int) : 0 ≤ n → n ≤ 99 → 0 ≤ m → m ≤ 99 → MdForm ⟨12, n, m, ⟨#[]⟩, zeroF⟩
  | add13 (n m : Int) : -99 ≤ n → n ≤ 99 → -99 ≤ m → m ≤ 99 → MdForm ⟨13, n, m, ⟨#[]⟩, zeroF⟩
  | switch : MdForm ⟨14, 0, 0, ⟨#[]⟩, zeroF⟩
theorem md_form {r : Md} (h : mdIs r = true) : MdForm r := by
  obtain ⟨k, n, m, s, f⟩ := r
  unfold mdIs at h
  simp only [Bool.and_eq_true, decide_eq_true_eq] at h
  obtain ⟨k1, k14, he, hn⟩ := h
  have he := (mdEq_iff _ _).1 he
  unfold usedM at he
  simp only [Md.mk.injEq, true_and] at he
  obtain ⟨e1, e2, e3, e4⟩ := he
  unfold mdNums at hn
  have hk : k = 1 ∨ k = 2 ∨ k = 3 ∨ k = 4 ∨ k = 5 ∨ k = 6 ∨ k = 7 ∨ k = 8 ∨ k = 9 ∨ k = 10 ∨ k = 11 ∨ k = 12 ∨ k = 13 ∨ k = 14 := by omega
  clear k1 k14
  rcases hk with rfl | rfl | rfl | rfl | rfl | rfl | rfl | rfl | rfl | rfl | rfl | rfl | rfl | rfl
  all_goals simp [usesN] at e1 e2 e3 e4 hn
  · subst e1 e2 e3 e4; exact .control
  · subst e2 e3 e4; obtain ⟨j, rfl⟩ : ∃ j : Nat, n = j := ⟨n.toNat, by omega⟩; exact .types2 j (by omega) (by omega)
  · subst e2 e3 e4; obtain ⟨j, rfl⟩ : ∃ j : Nat, n = j := ⟨n.toNat, by omega⟩; exact .types3 j (by omega) (by omega)
  · subst e1 e2 e4; exact .sub4 s hn
  · subst e1 e2 e4; exact .sub5 s hn
  · subst e2 e3 e4; obtain ⟨j, rfl⟩ : ∃ j : Nat, n = j := ⟨n.toNat, by omega⟩; exact .colors6 j (by omega)
  · subst e2 e3 e4; obtain ⟨j, rfl⟩ : ∃ j : Nat, n = j := ⟨n.toNat, by omega⟩; exact .colors7 j (by omega) (by omega)
  · subst e2 e3 e4; obtain ⟨j, rfl⟩ : ∃ j : Nat, n = j := ⟨n.toNat, by omega⟩; exact .keys8 j (by omega) (by omega)
  · subst e2 e3 e4; obtain ⟨j, rfl⟩ : ∃ j : Nat, n = j := ⟨n.toNat, by omega⟩; exact .keys9 j (by omega) (by omega)
  · subst e1 e2 e3 e4; exact .blank
  · subst e1 e2 e3; exact .count f hn
  · subst e3 e4; exact .set12 n m (by omega) (by omega) (by omega) (by omega)
  · subst e3 e4; exact .add13 n m (by omega) (by omega) (by omega) (by omega)
  · subst e1 e2 e3 e4; exact .switch
theorem guess_cut (nm rest : Str) (h : (61 : UInt8) ∉ nm) (h1 : nm ++ 61 :: rest ≠ controlV) (h2 : nm ++ 61 :: rest ≠ blankV) (h3 : nm ++ 61 :: rest ≠ switchV) : guessM (nm ++ 61 :: rest) = upM (baseM nm rest) (stepM nm) := by
  unfold guessM
  rw [if_neg h1, if_neg h2, if_neg h3, cutAt_eq 61 nm rest h]
theorem no_eq {nm rest : Str} {v : Str} (hv : (61 : UInt8) ∉ v) : nm ++ 61 :: rest ≠ v := fun e => hv (by rw [← e]; simp)
theorem guess_nm (nm rest : Str) (h : (61 : UInt8) ∉ nm) : guessM (nm ++ 61 :: rest) = upM (baseM nm rest) (stepM nm) :=
  guess_cut nm rest h (no_eq (by decide)) (no_eq (by decide)) (no_eq (by decide))
theorem itoa_no47 (n : Int) : (47 : UInt8) ∉ Lib.itoa n := fun h => by rcases itoa_mem h with h | h <;> simp at h
theorem itoa_nocount (n : Int) (r : Str) : Lib.hasPrefix (Lib.itoa n ++ 47 :: r) countPV = false := by
  cases h : Lib.itoa n with
  | nil => rfl
  | cons c l =>
    have hc := itoa_mem (v := n) (c := c) (by rw [h]; exact .head _)
    unfold Lib.hasPrefix countPV
    rw [List.cons_append, List.isPrefixOf]
    have : ((99 : UInt8) == c) = false := by
      rw [beq_eq_false_iff_ne]; intro e; subst e; simp at hc
    rw [this]; rfl
theorem points_nums (n m : Int) (h1 : -99 ≤ n) (h2 : n ≤ 99) (h3 : -99 ≤ m) (h4 : m ≤ 99) : pointsM (Lib.itoa n ++ 47 :: Lib.itoa m) = ⟨12, n, m, ⟨#[]⟩, zeroF⟩ := by
  unfold pointsM
  rw [itoa_nocount, if_neg (by decide), cutAt_eq 47 _ _ (itoa_no47 n)]
  simp only
  rw [numOf_99 n h1 h2, numOf_99 m h3 h4]; rfl
theorem points_count (f : Flt) (h : fltIs f = true) : pointsM (countPV ++ (textOf f ++ [41])) = ⟨11, 0, 0, ⟨#[]⟩, f⟩ := by
  have h1 : Lib.hasPrefix (countPV ++ (textOf f ++ [41])) countPV = true := by unfold Lib.hasPrefix; simp [List.isPrefixOf, countPV]
  have h2 : Lib.trimPrefix (countPV ++ (textOf f ++ [41])) countPV = textOf f ++ [41] := by unfold Lib.trimPrefix; rw [if_pos h1]; simp [countPV]
  unfold pointsM
  rw [if_pos h1, h2, trim_snoc, parse_text h]; rfl
/-- What is guessed of a valid modification's text is the modification. -/
theorem guessM_text {r : Md} (h : mdIs r = true) : guessM (mdText r) = r := by
  rw [show mdText r = mdBody r from if_pos h]
  cases md_form h with
  | control => kernel_rfl
  | types2 k h1 h2 =>
    show guessM (typesV ++ 61 :: typesText k) = _
    rw [guess_nm _ _ (by decide), show stepM typesV = false by decide]
    unfold baseM
    rw [if_pos (by decide), pt_types ⟨k, by omega⟩ h1]; rfl
  | types3 k h1 h2 =>
    show guessM (typesPV ++ 61 :: typesText k) = _
    rw [guess_nm _ _ (by decide), show stepM typesPV = true by decide]
    unfold baseM
    rw [if_pos (by decide), pt_types ⟨k, by omega⟩ h1]; rfl
  | sub4 s hs =>
    show guessM (subV ++ 61 :: L s) = _
    rw [guess_nm _ _ (by decide), show stepM subV = false by decide]
    unfold baseM
    rw [if_neg (by decide), if_pos (by decide), B_L]; rfl
  | sub5 s hs =>
    show guessM (subPV ++ 61 :: L s) = _
    rw [guess_nm _ _ (by decide), show stepM subPV = true by decide]
    unfold baseM
    rw [if_neg (by decide), if_pos (by decide), B_L]; rfl
  | colors6 k h1 =>
    show guessM (colorsV ++ 61 :: colorText k) = _
    rw [guess_nm _ _ (by decide), show stepM colorsV = false by decide]
    unfold baseM
    rw [if_neg (by decide), if_neg (by decide), if_pos (by decide), pc_colors ⟨k, by omega⟩]; rfl
  | colors7 k h1 h2 =>
    show guessM (colorsPV ++ 61 :: colorText k) = _
    rw [guess_nm _ _ (by decide), show stepM colorsPV = true by decide]
    unfold baseM
    rw [if_neg (by decide), if_neg (by decide), if_pos (by decide), pc_colors ⟨k, by omega⟩]; rfl
  | keys8 k h1 h2 =>
    show guessM (keysPV ++ 61 :: keyText k) = _
    rw [guess_nm _ _ (by decide), show stepM keysPV = false by decide]
    unfold baseM
    rw [if_neg (by decide), if_neg (by decide), if_neg (by decide), if_pos (by decide), pk_keys k (by omega)]; rfl
  | keys9 k h1 h2 =>
    show guessM (keysMV ++ 61 :: keyText k) = _
    rw [guess_nm _ _ (by decide), show stepM keysMV = true by decide]
    unfold baseM
    rw [if_neg (by decide), if_neg (by decide), if_neg (by decide), if_pos (by decide), pk_keys k (by omega)]; rfl
  | blank => kernel_rfl
  | count f hf =>
    show guessM (ptV ++ 61 :: (countPV ++ (textOf f ++ [41]))) = _
    rw [guess_nm _ _ (by decide), show stepM ptV = false by decide]
    unfold baseM
    rw [if_neg (by decide), if_neg (by decide), if_neg (by decide), if_neg (by decide), if_pos (by decide), points_count f hf]; rfl
  | set12 n m h1 h2 h3 h4 =>
    show guessM (ptV ++ 61 :: (Lib.itoa n ++ 47 :: Lib.itoa m)) = _
    rw [guess_nm _ _ (by decide), show stepM ptV = false by decide]
    unfold baseM
    rw [if_neg (by decide), if_neg (by decide), if_neg (by decide), if_neg (by decide), if_pos (by decide), points_nums n m (by omega) h2 (by omega) h4]; rfl
  | add13 n m h1 h2 h3 h4 =>
    show guessM (ptPV ++ 61 :: (Lib.itoa n ++ 47 :: Lib.itoa m)) = _
    rw [guess_nm _ _ (by decide), show stepM ptPV = true by decide]
    unfold baseM
    rw [if_neg (by decide), if_neg (by decide), if_neg (by decide), if_neg (by decide), if_pos (by decide), points_nums n m h1 h2 h3 h4]; rfl
  | switch => kernel_rfl
theorem mdText_no {r : Md} (h : mdIs r = false) : mdText r = [] := if_neg (by rw [h]; decide)
theorem mdText_ne {r : Md} (h : mdIs r = true) : mdText r ≠ [] := by
  rw [show mdText r = mdBody r from if_pos h]
  cases md_form h <;> exact List.cons_ne_nil _ _
theorem mdParse_text {r : Md} (h : mdIs r = true) : mdParse (mdText r) = some r := by
  unfold mdParse; rw [guessM_text h]; exact if_pos ⟨h, rfl⟩
theorem mdParse_back {s : Str} {r : Md} (h : mdParse s = some r) : mdIs r = true ∧ mdText r = s := by
  unfold mdParse at h
  split at h
  · rename_i hh; injection h with h; subst h; exact hh
  · cases h
/-- A reading that gives only what has that text, and something where there is such a thing, is mdParse. -/
theorem mdParse_only {s : Str} {o : Option Md} (h1 : ∀ t, o = some t → mdIs t = true ∧ mdText t = s) (h2 : o = none → ∀ t, mdIs t = true → mdText t = s → False) : o = mdParse s := by
  cases ho : o with
  | some t =>
    obtain ⟨a, b⟩ := h1 t ho
    rw [← b, mdParse_text a]
  | none =>
    cases hp : mdParse s with
    | none => rfl
    | some t => obtain ⟨a, b⟩ := mdParse_back hp; exact absurd b (fun b => h2 ho t a b)
theorem mdText_inj {r q : Md} (h : mdIs r = true) (k : mdIs q = true) (e : mdText r = mdText q) : r = q := by
  have h1 := mdParse_text h
  rw [e, mdParse_text k] at h1
  exact (Option.some.inj h1).symm
end Go.Proofs.YtakgfbcmkhcdkaaGreatDoor
namespace Go.Proofs.YtakgfbcmkhcdkaaGreatDoor
set_option linter.all false
open Go.ChangeShapes Go.WideShapes Go.RowKit
def commaV : Str := [44, 32]
/-- The parts of a text between ", " and ", "; sk: the blank behind a comma is still to be left out. -/
def csAux : Bool → Str → Str → List Str
  | _, cur, [] => [cur]
  | true, cur, _ :: r => csAux false cur r
  | false, cur, c :: r => if c = 44 ∧ r.head? = some 32 then cur :: csAux true [] r else csAux false (cur ++ [c]) r
def csplit (s : Str) : List Str := csAux false [] s
theorem csAux_sep (cur r : Str) : csAux false cur (44 :: 32 :: r) = cur :: csAux false [] r := by
  rw [csAux, if_pos ⟨rfl, rfl⟩, csAux]
theorem csAux_move (c : UInt8) (cur r : Str) (h : ¬ (c = 44 ∧ r.head? = some 32)) : csAux false cur (c :: r) = csAux false (cur ++ [c]) r := by
  rw [csAux, if_neg h]
theorem csAux_word : ∀ (x cur r : Str), (44 : UInt8) ∉ x → csAux false cur (x ++ 44 :: 32 :: r) = (cur ++ x) :: csAux false [] r
  | [], cur, r, _ => by rw [List.nil_append, csAux_sep, List.append_nil]
  | c :: x, cur, r, h => by
    rw [List.cons_append, csAux_move _ _ _ (fun e => h (by rw [← e.1]; exact .head _)), csAux_word x _ r (fun m => h (.tail _ m))]; simp
theorem csAux_last : ∀ (x cur : Str), (44 : UInt8) ∉ x → csAux false cur x = [cur ++ x]
  | [], cur, _ => by rw [csAux, List.append_nil]
  | c :: x, cur, h => by
    rw [csAux_move _ _ _ (fun e => h (by rw [← e.1]; exact .head _)), csAux_last x _ (fun m => h (.tail _ m))]; simp
theorem csplit_join : ∀ (l : List Str), l ≠ [] → (∀ x ∈ l, (44 : UInt8) ∉ x) → csplit (Lib.join l commaV) = l
  | [], h, _ => absurd rfl h
  | [a], _, h => by unfold csplit; rw [Lib.join_one, csAux_last a [] (h a (by simp))]; rfl
  | a :: b :: r, _, h => by
    have ih := csplit_join (b :: r) (by simp) (fun x hx => h x (.tail _ hx))
    unfold csplit at ih ⊢
    rw [join_cons2, List.append_assoc, show commaV ++ Lib.join (b :: r) commaV = 44 :: 32 :: Lib.join (b :: r) commaV from rfl, csAux_word a [] _ (h a (by simp)), ih]; rfl
theorem csAux_ne : ∀ (s cur : Str) (b : Bool), csAux b cur s ≠ []
  | [], cur, b => by cases b <;> simp [csAux]
  | c :: r, cur, true => by rw [csAux]; exact csAux_ne r cur false
  | c :: r, cur, false => by
    rw [csAux]; split
    · simp
    · exact csAux_ne r _ false
theorem join_csAux : ∀ (n : Nat) (s cur : Str), s.length ≤ n → Lib.join (csAux false cur s) commaV = cur ++ s
  | _, [], cur, _ => by rw [csAux, Lib.join_one, List.append_nil]
  | 0, c :: r, cur, h => by simp at h
  | n + 1, c :: r, cur, h => by
    by_cases hc : c = 44 ∧ r.head? = some 32
    · obtain ⟨rfl, hr⟩ := hc
      cases r with
      | nil => cases hr
      | cons d r =>
        obtain rfl : d = 32 := by simpa using hr
        rw [csAux_sep]
        have ih := join_csAux n r [] (by simp at h ⊢; omega)
        cases hl : csAux false [] r with
        | nil => exact absurd hl (csAux_ne r [] false)
        | cons b l => rw [hl] at ih; rw [join_cons2, ih]; simp [commaV]
    · rw [csAux_move _ _ _ hc, join_csAux n r _ (by simp at h ⊢; omega)]; simp
theorem join_csplit (s : Str) : Lib.join (csplit s) commaV = s := by unfold csplit; rw [join_csAux s.length s [] (Nat.le_refl _)]; rfl
theorem csAux_len : ∀ (s cur : Str) (b : Bool), (csAux b cur s).length ≤ s.length + 1
  | [], cur, b => by cases b <;> simp [csAux]
  | c :: r, cur, true => by rw [csAux]; have := csAux_len r cur false; simp; omega
  | c :: r, cur, false => by
    rw [csAux]; split
    · have := csAux_len r [] true; simp; omega
    · have := csAux_len r (cur ++ [c]) false; simp; omega
theorem csAux_mem : ∀ (s cur : Str) (b : Bool), ∀ x ∈ csAux b cur s, x.length ≤ cur.length + s.length
  | [], cur, b, x, h => by cases b <;> (simp [csAux] at h; subst h; simp)
  | c :: r, cur, true, x, h => by rw [csAux] at h; have := csAux_mem r cur false x h; simp; omega
  | c :: r, cur, false, x, h => by
    rw [csAux] at h
    split at h
    · rcases List.mem_cons.1 h with rfl | h
      · simp
      · have := csAux_mem r [] true x h; simp at this ⊢; omega
    · have := csAux_mem r _ false x h; simp at this ⊢; omega
/-- The text of a list of modifications. -/
def mlText (l : List Md) : Str := if l ≠ [] ∧ l.length ≤ 6 ∧ l.all mdIs = true then Lib.join (l.map mdText) commaV else []
def mlRun : List Md → List Str → Option (List Md)
  | out, [] => some out
  | out, p :: r => match mdParse p with
    | none => none
    | some m => if out.length = 6 then none else mlRun (out ++ [m]) r
def mlParse (s : Str) : Option (List Md) := mlRun [] (csplit s)
theorem mlRun_back : ∀ (ps : List Str) (out l : List Md), mlRun out ps = some l → out.length ≤ 6 → out.all mdIs = true → l.all mdIs = true ∧ l.length ≤ 6 ∧ l.map mdText = out.map mdText ++ ps
  | [], out, l, h, h6, ha => by
    rw [mlRun] at h; injection h with h; subst h; exact ⟨ha, h6, by simp⟩
  | p :: r, out, l, h, h6, ha => by
    rw [mlRun] at h
    cases hp : mdParse p with
    | none => rw [hp] at h; cases h
    | some m =>
      rw [hp] at h
      simp only at h
      split at h
      · cases h
      · obtain ⟨i, t⟩ := mdParse_back hp
        have ih := mlRun_back r _ l h (by simp; omega) (by simp only [List.all_append, ha, Bool.true_and, List.all_cons, i, List.all_nil, Bool.and_self])
        refine ⟨ih.1, ih.2.1, ?_⟩
        rw [ih.2.2, List.map_append, List.append_assoc]
        simp [t]
theorem mlRun_text : ∀ (l out : List Md), l.all mdIs = true → out.length + l.length ≤ 6 → mlRun out (l.map mdText) = some (out ++ l)
  | [], out, _, _ => by simp [mlRun]
  | m :: l, out, h, h6 => by
    simp only [List.all_cons, Bool.and_eq_true] at h
    simp only [List.length_cons] at h6
    rw [List.map_cons, mlRun, mdParse_text h.1]
    simp only
    rw [if_neg (by omega), mlRun_text l _ h.2 (by simp; omega)]; simp
theorem ty_no44 : ∀ k : Fin 64, (44 : UInt8) ∉ typesText k.val := by decide +kernel
theorem co_no44 : ∀ k : Fin 32, (44 : UInt8) ∉ colorText k.val := by decide +kernel
theorem kw_no44 : ∀ i : Fin 17, (44 : UInt8) ∉ wd kwT i.val := by decide +kernel
theorem ke_no44 {m : Nat} (hm : m < 2 ^ 17) : (44 : UInt8) ∉ keyText m := by
  unfold keyText
  split
  · decide
  · intro h
    rcases join_mem h with ⟨w, hw, hc⟩ | hc
    · obtain ⟨i, hi, rfl⟩ := List.mem_map.1 hw
      exact kw_no44 ⟨i, bits_lt hm hi⟩ hc
    · simp at hc
theorem itoa_no44 (n : Int) : (44 : UInt8) ∉ Lib.itoa n := fun h => by rcases itoa_mem h with h | h <;> simp at h
theorem text_no44 (f : Flt) : (44 : UInt8) ∉ textOf f := fun h => by rcases textOf_mem h with h | h <;> revert h <;> decide
theorem mdText_no44 {r : Md} (h : mdIs r = true) : (44 : UInt8) ∉ mdText r := by
  rw [show mdText r = mdBody r from if_pos h]
  cases md_form h with
  | control => decide
  | types2 k h1 h2 =>
    show (44 : UInt8) ∉ typesV ++ 61 :: typesText k
    have := ty_no44 ⟨k, by omega⟩
    simp [typesV]; exact this
  | types3 k h1 h2 =>
    show (44 : UInt8) ∉ typesPV ++ 61 :: typesText k
    have := ty_no44 ⟨k, by omega⟩
    simp [typesPV]; exact this
  | sub4 s hs =>
    show (44 : UInt8) ∉ subV ++ 61 :: L s
    have := (isSub_noB hs).no (c := 44) (by decide)
    simp [subV]; exact this
  | sub5 s hs =>
    show (44 : UInt8) ∉ subPV ++ 61 :: L s
    have := (isSub_noB hs).no (c := 44) (by decide)
    simp [subPV]; exact this
  | colors6 k h1 =>
    show (44 : UInt8) ∉ colorsV ++ 61 :: colorText k
    have := co_no44 ⟨k, by omega⟩
    simp [colorsV]; exact this
  | colors7 k h1 h2 =>
    show (44 : UInt8) ∉ colorsPV ++ 61 :: colorText k
    have := co_no44 ⟨k, by omega⟩
    simp [colorsPV]; exact this
  | keys8 k h1 h2 =>
    show (44 : UInt8) ∉ keysPV ++ 61 :: keyText k
    have := ke_no44 (m := k) (by omega)
    simp [keysPV]; exact this
  | keys9 k h1 h2 =>
    show (44 : UInt8) ∉ keysMV ++ 61 :: keyText k
    have := ke_no44 (m := k) (by omega)
    simp [keysMV]; exact this
  | blank => decide
  | count f hf =>
    show (44 : UInt8) ∉ ptV ++ 61 :: (countPV ++ (textOf f ++ [41]))
    have := text_no44 f
    simp [ptV, countPV]; exact this
  | set12 n m h1 h2 h3 h4 =>
    show (44 : UInt8) ∉ ptV ++ 61 :: (Lib.itoa n ++ 47 :: Lib.itoa m)
    have a := itoa_no44 n
    have b := itoa_no44 m
    simp [ptV]; exact ⟨a, b⟩
  | add13 n m h1 h2 h3 h4 =>
    show (44 : UInt8) ∉ ptPV ++ 61 :: (Lib.itoa n ++ 47 :: Lib.itoa m)
    have a := itoa_no44 n
    have b := itoa_no44 m
    simp [ptPV]; exact ⟨a, b⟩
  | switch => decide
theorem mlParse_text {l : List Md} (h0 : l ≠ []) (h6 : l.length ≤ 6) (h : l.all mdIs = true) : mlParse (mlText l) = some l := by
  unfold mlText
  rw [if_pos ⟨h0, h6, h⟩]
  unfold mlParse
  rw [csplit_join _ (by simpa using h0) (fun x hx => by
    obtain ⟨m, hm, rfl⟩ := List.mem_map.1 hx
    exact mdText_no44 (List.all_eq_true.1 h m hm)), mlRun_text l [] h (by simpa using h6)]; rfl
theorem mlParse_back {s : Str} {l : List Md} (h : mlParse s = some l) : l ≠ [] ∧ l.length ≤ 6 ∧ l.all mdIs = true ∧ mlText l = s := by
  unfold mlParse at h
  obtain ⟨a, b, c⟩ := mlRun_back _ _ _ h (by simp) rfl
  simp only [List.map_nil, List.nil_append] at c
  have hne : l ≠ [] := fun e => by
    subst e
    exact csAux_ne s [] false c.symm
  refine ⟨hne, b, a, ?_⟩
  unfold mlText
  rw [if_pos ⟨hne, b, a⟩, c, join_csplit]
theorem mlText_ne {l : List Md} (h : mlText l ≠ []) : l ≠ [] ∧ l.length ≤ 6 ∧ l.all mdIs = true := by
  unfold mlText at h
  split at h
  · assumption
  · exact absurd rfl h
end Go.Proofs.YtakgfbcmkhcdkaaGreatDoor
namespace Go.Proofs.YtakgfbcmkhcdkaaGreatDoor
set_option linter.all false
open Go.ChangeShapes Go.WideShapes Go.RowKit
theorem comma_pre (c : UInt8) (r : Str) : commaV.isPrefixOf (c :: r) = (c == 44 && r.head? == some 32) := by
  cases r with
  | nil => simp [commaV, List.isPrefixOf]
  | cons d r =>
    rw [Bool.eq_iff_iff]
    simp [commaV]
    constructor
    · rintro ⟨h1, h2⟩; exact ⟨h1.symm, h2.symm⟩
    · rintro ⟨h1, h2⟩; exact ⟨h1.symm, h2.symm⟩
theorem cs_idx : ∀ (s cur : Str), (Lib.index s commaV = -1 ∧ csAux false cur s = [cur ++ s]) ∨ (∃ i : Nat, Lib.index s commaV = i ∧ i + 2 ≤ s.length ∧ csAux false cur s = (cur ++ s.take i) :: csAux false [] (s.drop (i + 2)))
  | [], cur => .inl ⟨rfl, by rw [csAux, List.append_nil]⟩
  | c :: r, cur => by
    by_cases h : c = 44 ∧ r.head? = some 32
    · obtain ⟨rfl, hr⟩ := h
      cases r with
      | nil => cases hr
      | cons d r =>
        obtain rfl : d = 32 := by simpa using hr
        refine .inr ⟨0, ?_, by simp, ?_⟩
        · unfold Lib.index
          rw [comma_pre]; rfl
        · rw [csAux_sep]; simp
    · have hp : commaV.isPrefixOf (c :: r) = false := by
        rw [comma_pre]
        cases hb : (c == 44 && r.head? == some 32) with
        | false => rfl
        | true => simp only [Bool.and_eq_true, beq_iff_eq] at hb; exact absurd hb h
      rw [csAux_move _ _ _ h]
      unfold Lib.index
      rw [hp, if_neg (by decide)]
      rcases cs_idx r (cur ++ [c]) with ⟨h1, h2⟩ | ⟨i, h1, h2, h3⟩
      · left; rw [h1, h2]; simp
      · right
        refine ⟨i + 1, ?_, by simp; omega, ?_⟩
        · rw [h1, if_neg (by rw [beq_iff_eq]; omega)]; simp
        · rw [h3]; simp
theorem csplit_idx (s : Str) : (Lib.index s commaV = -1 ∧ csplit s = [s]) ∨ (∃ i : Nat, Lib.index s commaV = i ∧ i + 2 ≤ s.length ∧ csplit s = s.take i :: csplit (s.drop (i + 2))) := by
  have := cs_idx s []
  simpa [csplit] using this
end Go.Proofs.YtakgfbcmkhcdkaaGreatDoor
namespace Go.Proofs.YtakgfbcmkhcdkaaGreatDoor
set_option linter.all false
open Go.ChangeShapes Go.WideShapes Go.RowKit
def pTypes : Str := [116, 121, 112, 101, 115, 61]
def pTypesP : Str := [116, 121, 112, 101, 115, 43, 61]
def pSub : Str := [115, 117, 98, 61]
def pSubP : Str := [115, 117, 98, 43, 61]
def pColors : Str := [99, 111, 108, 111, 114, 115, 61]
def pColorsP : Str := [99, 111, 108, 111, 114, 115, 43, 61]
def pKeysP : Str := [107, 101, 121, 115, 43, 61]
def pKeysM : Str := [107, 101, 121, 115, 45, 61]
def pCount : Str := [112, 116, 61, 99, 111, 117, 110, 116, 40]
def pPt : Str := [112, 116, 61]
def pPtP : Str := [112, 116, 43, 61]
def ptR (s : Str) : Option Nat := (List.range' 1 63).find? fun m => typesText m == s
def rkHit (rest : Str) (i : Nat) : Bool := Lib.hasPrefix rest (wd kwT i) && (rest.length == (wd kwT i).length || rest.getD (wd kwT i).length 0 == 43)
def rkStep (st : Nat × Str) (i : Nat) : Nat × Str := if rkHit st.2 i = true then (st.1 + 2 ^ i, (st.2.drop (wd kwT i).length).drop 1) else st
def rkFold (s : Str) (k : Nat) : Nat × Str := (List.range k).foldl rkStep (0, s)
theorem rkFold_succ (s : Str) (k : Nat) : rkFold s (k + 1) = rkStep (rkFold s k) k := by unfold rkFold; rw [List.range_succ, List.foldl_append]; rfl
/-- The keywords with a text, as the reference reads them: the names in their order, each taken off if it stands in front. -/
def rkOf (s : Str) : Option Nat := if s = noneW then some 0 else if keyText (rkFold s 17).1 = s then some (rkFold s 17).1 else none
def pairR (k : Int) (s : Str) : Md := if (47 : UInt8) ∈ s then ⟨k, (rdNum (cutAt 47 s).1).getD 0, (rdNum (cutAt 47 s).2).getD 0, ⟨#[]⟩, zeroF⟩ else ⟨k, 0, 0, ⟨#[]⟩, zeroF⟩
def guessR (s : Str) : Md :=
  if s = controlV then ⟨1, 0, 0, ⟨#[]⟩, zeroF⟩ else if s = blankV then ⟨10, 0, 0, ⟨#[]⟩, zeroF⟩ else if s = switchV then ⟨14, 0, 0, ⟨#[]⟩, zeroF⟩
  else if Lib.hasPrefix s pTypes = true then ⟨2, optN (ptR (s.drop 6)), 0, ⟨#[]⟩, zeroF⟩
  else if Lib.hasPrefix s pTypesP = true then ⟨3, optN (ptR (s.drop 7)), 0, ⟨#[]⟩, zeroF⟩
  else if Lib.hasPrefix s pSub = true then ⟨4, 0, 0, B (s.drop 4), zeroF⟩
  else if Lib.hasPrefix s pSubP = true then ⟨5, 0, 0, B (s.drop 5), zeroF⟩
  else if Lib.hasPrefix s pColors = true then ⟨6, optN (pcOf (s.drop 7)), 0, ⟨#[]⟩, zeroF⟩
  else if Lib.hasPrefix s pColorsP = true then ⟨7, optN (pcOf (s.drop 8)), 0, ⟨#[]⟩, zeroF⟩
  else if Lib.hasPrefix s pKeysP = true then ⟨8, optN (rkOf (s.drop 6)), 0, ⟨#[]⟩, zeroF⟩
  else if Lib.hasPrefix s pKeysM = true then ⟨9, optN (rkOf (s.drop 6)), 0, ⟨#[]⟩, zeroF⟩
  else if Lib.hasPrefix s pCount = true ∧ s.drop 9 ≠ [] then ⟨11, 0, 0, ⟨#[]⟩, (parseS ((s.drop 9).take ((s.drop 9).length - 1))).getD zeroF⟩
  else if Lib.hasPrefix s pPt = true then pairR 12 (s.drop 3)
  else if Lib.hasPrefix s pPtP = true then pairR 13 (s.drop 4)
  else zeroM
def qMd (s : Str) : Option Md := if s = [] then none else if mdText (guessR s) = s then some (guessR s) else none
theorem ptR_types : ∀ k : Fin 64, 1 ≤ k.val → ptR (typesText k.val) = some k.val := by decide +kernel
theorem rd_small : ∀ k : Fin 199, rdNum (Lib.itoa ((k.val : Int) - 99)) = some ((k.val : Int) - 99) := by decide +kernel
theorem rd_99 (n : Int) (h1 : -99 ≤ n) (h2 : n ≤ 99) : rdNum (Lib.itoa n) = some n := by
  have := rd_small ⟨(n + 99).toNat, by omega⟩
  simp only at this
  rwa [show (((n + 99).toNat : Nat) : Int) - 99 = n by omega] at this
theorem wd_inj : ∀ i j : Fin 17, wd kwT i.val = wd kwT j.val → i = j := by decide +kernel
theorem wd_ne0 : ∀ i : Fin 17, wd kwT i.val ≠ [] := by decide +kernel
theorem wd_no43 : ∀ i : Fin 17, (43 : UInt8) ∉ wd kwT i.val := by decide +kernel
/-- The words of the bits from k on. -/
def fromW (m : Nat) (k : Nat) : List Str := ((List.range' k (17 - k)).filter fun i => m.testBit i).map fun i => wd kwT i
theorem fromW_yes {m k : Nat} (hk : k < 17) (h : m.testBit k = true) : fromW m k = wd kwT k :: fromW m (k + 1) := by
  unfold fromW
  rw [show 17 - k = (17 - (k + 1)) + 1 by omega, List.range'_succ, List.filter_cons_of_pos (by simpa using h)]; rfl
theorem fromW_no {m k : Nat} (hk : k < 17) (h : m.testBit k = false) : fromW m k = fromW m (k + 1) := by
  unfold fromW
  rw [show 17 - k = (17 - (k + 1)) + 1 by omega, List.range'_succ, List.filter_cons_of_neg (by simp [h])]
theorem fromW_mem {m k : Nat} {x : Str} (h : x ∈ fromW m k) : ∃ i, k ≤ i ∧ i < 17 ∧ x = wd kwT i := by
  unfold fromW at h
  obtain ⟨i, hi, rfl⟩ := List.mem_map.1 h
  have := (List.mem_filter.1 hi).1
  rw [List.mem_range'_1] at this
  exact ⟨i, by omega, by omega, rfl⟩
theorem takeW_43 : ∀ (x : Str) (r : Str), (43 : UInt8) ∉ x → (r = [] ∨ ∃ t, r = 43 :: t) → (x ++ r).takeWhile (fun c => !(c == 43)) = x
  | [], r, _, h => by rcases h with rfl | ⟨t, rfl⟩ <;> simp
  | a :: x, r, hx, h => by
    have ha : (a == 43) = false := by rw [beq_eq_false_iff_ne]; exact fun e => hx (by rw [e]; exact .head _)
    rw [List.cons_append, List.takeWhile_cons, ha]
    simp only [Bool.not_false, if_true]
    rw [takeW_43 x r (fun m => hx (.tail _ m)) h]
theorem join_head (a : Str) (l : List Str) : ∃ r, Lib.join (a :: l) [43] = a ++ r ∧ (r = [] ∨ ∃ t, r = 43 :: t) ∧ (r.drop 1 = Lib.join l [43]) := by
  cases l with
  | nil => exact ⟨[], by rw [Lib.join_one, List.append_nil], .inl rfl, by rw [Lib.join_nil]; rfl⟩
  | cons b l => exact ⟨43 :: Lib.join (b :: l) [43], by rw [join_cons2, List.append_assoc]; rfl, .inr ⟨_, rfl⟩, rfl⟩
theorem rkHit_form {rest : Str} {i : Nat} (h : rkHit rest i = true) : ∃ r, rest = wd kwT i ++ r ∧ (r = [] ∨ ∃ t, r = 43 :: t) := by
  unfold rkHit at h
  simp only [Bool.and_eq_true, Bool.or_eq_true, beq_iff_eq] at h
  obtain ⟨h1, h2⟩ := h
  unfold Lib.hasPrefix at h1
  obtain ⟨r, hr⟩ := List.isPrefixOf_iff_prefix.1 h1
  refine ⟨r, hr.symm, ?_⟩
  rw [← hr] at h2
  cases r with
  | nil => exact .inl rfl
  | cons c t =>
    right
    rcases h2 with h2 | h2
    · simp at h2
    · simp [List.getD] at h2; exact ⟨t, by rw [h2]⟩
theorem rkHit_yes (i : Nat) (r : Str) (h : r = [] ∨ ∃ t, r = 43 :: t) : rkHit (wd kwT i ++ r) i = true := by
  unfold rkHit
  have h1 : Lib.hasPrefix (wd kwT i ++ r) (wd kwT i) = true := by unfold Lib.hasPrefix; exact List.isPrefixOf_iff_prefix.2 ⟨r, rfl⟩
  rw [h1, Bool.true_and, Bool.or_eq_true]
  rcases h with rfl | ⟨t, rfl⟩
  · left; simp
  · right; simp [List.getD]
theorem rkHit_no {m k : Nat} (hk : k < 17) : rkHit (Lib.join (fromW m (k + 1)) [43]) k = false := by
  cases h : rkHit (Lib.join (fromW m (k + 1)) [43]) k with
  | false => rfl
  | true =>
    exfalso
    obtain ⟨r, hr, hc⟩ := rkHit_form h
    have t1 := takeW_43 (wd kwT k) r (wd_no43 ⟨k, hk⟩) hc
    rw [← hr] at t1
    cases hl : fromW m (k + 1) with
    | nil => rw [hl, Lib.join_nil] at t1; exact wd_ne0 ⟨k, hk⟩ t1.symm
    | cons a l =>
      obtain ⟨i, hi1, hi2, rfl⟩ := fromW_mem (m := m) (k := k + 1) (x := a) (by rw [hl]; exact .head _)
      obtain ⟨r2, hr2, hc2, _⟩ := join_head (wd kwT i) l
      rw [hl, hr2, takeW_43 (wd kwT i) r2 (wd_no43 ⟨i, hi2⟩) hc2] at t1
      have := wd_inj ⟨i, hi2⟩ ⟨k, hk⟩ t1
      have := congrArg Fin.val this
      simp at this; omega
theorem mod_bit_add {m k : Nat} (hb : m.testBit k = true) : m % 2 ^ (k + 1) = m % 2 ^ k + 2 ^ k := by
  have e1 := Nat.mod_pow_succ (x := m) (b := 2) (k := k)
  have e2 : m / 2 ^ k % 2 = 1 := by
    rw [Nat.testBit_eq_decide_div_mod_eq] at hb
    exact of_decide_eq_true hb
  rw [e1, e2, Nat.mul_one]
theorem rkFold_text (m : Nat) : ∀ k, k ≤ 17 → rkFold (Lib.join (fromW m 0) [43]) k = (m % 2 ^ k, Lib.join (fromW m k) [43])
  | 0, _ => by simp [rkFold, Nat.mod_one]
  | k + 1, hk => by
    rw [rkFold_succ, rkFold_text m k (by omega)]
    unfold rkStep
    cases hb : m.testBit k with
    | false =>
      rw [fromW_no (by omega) hb, rkHit_no (by omega), if_neg (by decide), mod_bit_no hb]
    | true =>
      rw [fromW_yes (by omega) hb]
      obtain ⟨r, hr, hc, hd⟩ := join_head (wd kwT k) (fromW m (k + 1))
      simp only
      rw [hr, rkHit_yes k r hc, if_pos rfl, List.drop_left, hd]
      rw [mod_bit_add hb]
theorem mask_from {m : Nat} (hm : m < 2 ^ 17) : maskWords kwT m = fromW m 0 := by
  unfold maskWords
  rw [bitsUpto_ge hm (show 17 ≤ 31 by omega)]
  unfold bitsUpto fromW
  rw [List.range_eq_range']
  rfl
theorem keyText_from {m : Nat} (h0 : m ≠ 0) (hm : m < 2 ^ 17) : keyText m = Lib.join (fromW m 0) [43] := by
  unfold keyText
  rw [if_neg h0, mask_from hm]
theorem rk_keys (m : Nat) (hm : m < 2 ^ 17) : rkOf (keyText m) = some m := by
  by_cases h0 : m = 0
  · subst h0; kernel_rfl
  have e := rkFold_text m 17 (Nat.le_refl _)
  rw [← keyText_from h0 hm, Nat.mod_eq_of_lt hm] at e
  have hn : keyText m ≠ noneW := fun hn => by
    have h1 := pk_keys m hm
    rw [hn, show pkOf noneW = some 0 by kernel_rfl] at h1
    exact h0 (Option.some.inj h1).symm
  unfold rkOf
  rw [if_neg hn, e, if_pos rfl]
theorem pairR_nums (k n m : Int) (h1 : -99 ≤ n) (h2 : n ≤ 99) (h3 : -99 ≤ m) (h4 : m ≤ 99) : pairR k (Lib.itoa n ++ 47 :: Lib.itoa m) = ⟨k, n, m, ⟨#[]⟩, zeroF⟩ := by
  unfold pairR
  rw [if_pos (by simp), cutAt_eq 47 _ _ (itoa_no47 n)]
  simp only
  rw [rd_99 n h1 h2, rd_99 m h3 h4]; rfl
theorem itoa_nocnt (n : Int) (r : Str) : Lib.hasPrefix (pPt ++ (Lib.itoa n ++ 47 :: r)) pCount = false := by
  have h := itoa_nocount n r
  unfold Lib.hasPrefix countPV at h
  unfold Lib.hasPrefix pPt pCount
  exact h
/-- What the reference guesses of a valid modification's text is the modification. -/
theorem guessR_text {r : Md} (h : mdIs r = true) : guessR (mdText r) = r := by
  rw [show mdText r = mdBody r from if_pos h]
  cases md_form h with
  | control => kernel_rfl
  | types2 k h1 h2 =>
    show guessR (pTypes ++ typesText k) = _
    have e : guessR (pTypes ++ typesText k) = ⟨2, optN (ptR (typesText k)), 0, ⟨#[]⟩, zeroF⟩ := by kernel_rfl
    rw [e, ptR_types ⟨k, by omega⟩ h1]; rfl
  | types3 k h1 h2 =>
    show guessR (pTypesP ++ typesText k) = _
    have e : guessR (pTypesP ++ typesText k) = ⟨3, optN (ptR (typesText k)), 0, ⟨#[]⟩, zeroF⟩ := by kernel_rfl
    rw [e, ptR_types ⟨k, by omega⟩ h1]; rfl
  | sub4 s hs =>
    have e : guessR (pSub ++ L s) = ⟨4, 0, 0, B (L s), zeroF⟩ := by kernel_rfl
    exact e
  | sub5 s hs =>
    have e : guessR (pSubP ++ L s) = ⟨5, 0, 0, B (L s), zeroF⟩ := by kernel_rfl
    exact e
  | colors6 k h1 =>
    have e : guessR (pColors ++ colorText k) = ⟨6, optN (pcOf (colorText k)), 0, ⟨#[]⟩, zeroF⟩ := by kernel_rfl
    show guessR (pColors ++ colorText k) = _
    rw [e, pc_colors ⟨k, by omega⟩]; rfl
  | colors7 k h1 h2 =>
    have e : guessR (pColorsP ++ colorText k) = ⟨7, optN (pcOf (colorText k)), 0, ⟨#[]⟩, zeroF⟩ := by kernel_rfl
    show guessR (pColorsP ++ colorText k) = _
    rw [e, pc_colors ⟨k, by omega⟩]; rfl
  | keys8 k h1 h2 =>
    have e : guessR (pKeysP ++ keyText k) = ⟨8, optN (rkOf (keyText k)), 0, ⟨#[]⟩, zeroF⟩ := by kernel_rfl
    show guessR (pKeysP ++ keyText k) = _
    rw [e, rk_keys k (by omega)]; rfl
  | keys9 k h1 h2 =>
    have e : guessR (pKeysM ++ keyText k) = ⟨9, optN (rkOf (keyText k)), 0, ⟨#[]⟩, zeroF⟩ := by kernel_rfl
    show guessR (pKeysM ++ keyText k) = _
    rw [e, rk_keys k (by omega)]; rfl
  | blank => kernel_rfl
  | count f hf =>
    have e : guessR (pCount ++ (textOf f ++ [41])) = if true = true ∧ (textOf f ++ [41] : Str) ≠ [] then ⟨11, 0, 0, ⟨#[]⟩, (parseS ((textOf f ++ [41]).take ((textOf f ++ [41]).length - 1))).getD zeroF⟩ else pairR 12 ((pCount.drop 3) ++ (textOf f ++ [41])) := by kernel_rfl
    show guessR (pCount ++ (textOf f ++ [41])) = _
    have e2 : (textOf f ++ [41] : Str).take ((textOf f ++ [41] : Str).length - 1) = textOf f := by simp
    rw [e, if_pos ⟨rfl, by simp⟩, e2, parse_text hf]; rfl
  | set12 n m h1 h2 h3 h4 =>
    have e := pairR_nums 12 n m (by omega) h2 (by omega) h4
    show guessR (pPt ++ (Lib.itoa n ++ 47 :: Lib.itoa m)) = _
    have e3 : guessR (pPt ++ (Lib.itoa n ++ 47 :: Lib.itoa m)) = if Lib.hasPrefix (pPt ++ (Lib.itoa n ++ 47 :: Lib.itoa m)) pCount = true ∧ (pPt ++ (Lib.itoa n ++ 47 :: Lib.itoa m)).drop 9 ≠ [] then ⟨11, 0, 0, ⟨#[]⟩, (parseS (((pPt ++ (Lib.itoa n ++ 47 :: Lib.itoa m)).drop 9).take (((pPt ++ (Lib.itoa n ++ 47 :: Lib.itoa m)).drop 9).length - 1))).getD zeroF⟩ else pairR 12 (Lib.itoa n ++ 47 :: Lib.itoa m) := by kernel_rfl
    rw [e3, itoa_nocnt, if_neg (fun h => by cases h.1), e]
  | add13 n m h1 h2 h3 h4 =>
    have e := pairR_nums 13 n m h1 h2 h3 h4
    show guessR (pPtP ++ (Lib.itoa n ++ 47 :: Lib.itoa m)) = _
    rw [← e]
    kernel_rfl
  | switch => kernel_rfl
/-- The reference reads as the program. -/
theorem qMd_eq (s : Str) : qMd s = mdParse s := by
  refine mdParse_only (fun t h => ?_) (fun h t ht hx => ?_)
  · unfold qMd at h
    split at h
    · cases h
    · split at h
      · rename_i h0 h1
        injection h with h
        rw [h] at h1
        refine ⟨?_, h1⟩
        cases hi : mdIs t with
        | true => rfl
        | false => rw [mdText_no hi] at h1; exact absurd h1.symm h0
      · cases h
  · unfold qMd at h
    rw [if_neg (by rw [← hx]; exact mdText_ne ht), ← hx, guessR_text ht, if_pos rfl] at h
    cases h
end Go.Proofs.YtakgfbcmkhcdkaaGreatDoor
