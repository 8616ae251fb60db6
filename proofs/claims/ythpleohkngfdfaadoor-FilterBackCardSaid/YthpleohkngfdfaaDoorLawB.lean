/- Plain law: a bound's word; Parse inverts Text on the valid filters. No program in sight. -/
import Derived.Test.YthpleohkngfdfaaDoorLaw
namespace Go.Proofs.YthpleohkngfdfaaDoor
set_option linter.all false
open Go.ChangeShapes Go.WideShapes Go.RowKit
/-- The first byte of a text is p, t or v. -/
def bh (s : Str) : Bool := byt s 0 == 112 || (byt s 0 == 116 || byt s 0 == 118)
theorem types_head (m : Nat) (h : m < 64) : bh (typesText m) = false := by
  have : ∀ m : Fin 64, bh (typesText m.val) = false := by decide +kernel
  exact this ⟨m, h⟩
theorem colors_head (m : Nat) (h : m < 32) : bh (colorText m) = false := by
  have : ∀ m : Fin 32, bh (colorText m.val) = false := by decide +kernel
  exact this ⟨m, h⟩
theorem pt_none {s : Str} (h : bh s = true) : ptOf s = none := by
  unfold ptOf; split
  · rfl
  · split
    · rename_i h1 h2
      by_cases hb : 1 ≤ orBits (splitOn 43 s) ∧ orBits (splitOn 43 s) ≤ 63
      · have := types_head _ (Nat.lt_succ_of_le hb.2); rw [h2, h] at this; cases this
      · unfold typesText at h2; rw [if_neg hb] at h2; rw [← h2] at h; cases h
    · rfl
theorem pc_none {s : Str} (h : bh s = true) : pcOf s = none := by
  unfold pcOf; rw [List.find?_eq_none]
  intro m hm hc
  have := colors_head m (by simpa using hm)
  rw [eq_of_beq hc, h] at this; cases this
theorem take_bound {F : Flt} {s : Str} (h : bh s = true) (h1 : Lib.hasPrefix s subW = false) (h2 : Lib.hasPrefix s withW = false) (h3 : Lib.hasPrefix s nonW = false) (h4 : simpleS F s = none) (h5 : (s == noneW) = false) : takeS F s = boundS F s := by
  have ht : Lib.trimPrefix s nonW = s := by unfold Lib.trimPrefix; rw [if_neg (by rw [h3]; decide)]
  have hn : s ≠ noneW := by intro e; rw [e] at h5; simp at h5
  have hty : typesS F s = none := by unfold typesS; rw [ht, pt_none h, pc_none h]; simp [hn]
  unfold takeS; rw [if_neg (by rw [h1]; decide), if_neg (by rw [h2]; decide), h4, hty]
theorem bound_go (F : Flt) (s : Str) (at_ : Nat) (r nm nm2 : Str) (k n : Nat) (G : Flt) (h1 : Lib.indexByte s 61 = ((at_ : Nat) : Int)) (h0 : 1 ≤ at_) (h2 : s.drop (at_ + 1) = r) (h3 : s.take at_ = nm) (h4 : boundHead nm = (k, nm2)) (h5 : numOf r = some (n : Int))
    (h6 : setBound F nm2 (k : Nat) (n : Nat) = some G) : boundS F s = some G := by
  unfold boundS
  have e : (Lib.indexByte s 61).toNat = at_ := by rw [h1]; omega
  rw [e, h2, h3, h4, h5, if_neg (by rw [h1]; omega)]
  exact h6
section words
variable (a b c d e f g : Int) (s : ByteArray) (k t p q u v y z : Int)
theorem tk_power (i n : Nat) (hi : i < 4) (h0 : i ≠ 0) (hn : n ≤ 1000000) : takeS ⟨a, b, c, d, e, f, g, s, k, t, p, q, u, v, y, z⟩ (powerW ++ wd signT i ++ Lib.itoa n) = some ⟨a, b, c, d, e, f, g, s, k, t, (i : Nat), (n : Nat), u, v, y, z⟩ := by
  have hno := numOf_itoa n hn
  generalize Lib.itoa (n : Nat) = r at *
  rcases i with _ | _ | _ | _ | i
  · exact absurd rfl h0
  · exact (take_bound rfl rfl rfl rfl rfl rfl).trans (bound_go _ _ 6 r [112, 111, 119, 101, 114, 62] powerW 1 n _ rfl (by decide) rfl rfl rfl hno rfl)
  · exact (take_bound rfl rfl rfl rfl rfl rfl).trans (bound_go _ _ 6 r [112, 111, 119, 101, 114, 60] powerW 2 n _ rfl (by decide) rfl rfl rfl hno rfl)
  · exact (take_bound rfl rfl rfl rfl rfl rfl).trans (bound_go _ _ 5 r [112, 111, 119, 101, 114] powerW 3 n _ rfl (by decide) rfl rfl rfl hno rfl)
  · omega
theorem tk_tough (i n : Nat) (hi : i < 4) (h0 : i ≠ 0) (hn : n ≤ 1000000) : takeS ⟨a, b, c, d, e, f, g, s, k, t, p, q, u, v, y, z⟩ (toughW ++ wd signT i ++ Lib.itoa n) = some ⟨a, b, c, d, e, f, g, s, k, t, p, q, (i : Nat), (n : Nat), y, z⟩ := by
  have hno := numOf_itoa n hn
  generalize Lib.itoa (n : Nat) = r at *
  rcases i with _ | _ | _ | _ | i
  · exact absurd rfl h0
  · exact (take_bound rfl rfl rfl rfl rfl rfl).trans (bound_go _ _ 6 r [116, 111, 117, 103, 104, 62] toughW 1 n _ rfl (by decide) rfl rfl rfl hno rfl)
  · exact (take_bound rfl rfl rfl rfl rfl rfl).trans (bound_go _ _ 6 r [116, 111, 117, 103, 104, 60] toughW 2 n _ rfl (by decide) rfl rfl rfl hno rfl)
  · exact (take_bound rfl rfl rfl rfl rfl rfl).trans (bound_go _ _ 5 r [116, 111, 117, 103, 104] toughW 3 n _ rfl (by decide) rfl rfl rfl hno rfl)
  · omega
theorem tk_value (i n : Nat) (hi : i < 4) (h0 : i ≠ 0) (hn : n ≤ 1000000) : takeS ⟨a, b, c, d, e, f, g, s, k, t, p, q, u, v, y, z⟩ (valueW ++ wd signT i ++ Lib.itoa n) = some ⟨a, b, c, d, e, f, g, s, k, t, p, q, u, v, (i : Nat), (n : Nat)⟩ := by
  have hno := numOf_itoa n hn
  generalize Lib.itoa (n : Nat) = r at *
  rcases i with _ | _ | _ | _ | i
  · exact absurd rfl h0
  · exact (take_bound rfl rfl rfl rfl rfl rfl).trans (bound_go _ _ 6 r [118, 97, 108, 117, 101, 62] valueW 1 n _ rfl (by decide) rfl rfl rfl hno rfl)
  · exact (take_bound rfl rfl rfl rfl rfl rfl).trans (bound_go _ _ 6 r [118, 97, 108, 117, 101, 60] valueW 2 n _ rfl (by decide) rfl rfl rfl hno rfl)
  · exact (take_bound rfl rfl rfl rfl rfl rfl).trans (bound_go _ _ 5 r [118, 97, 108, 117, 101] valueW 3 n _ rfl (by decide) rfl rfl rfl hno rfl)
  · omega
end words
end Go.Proofs.YthpleohkngfdfaaDoor
