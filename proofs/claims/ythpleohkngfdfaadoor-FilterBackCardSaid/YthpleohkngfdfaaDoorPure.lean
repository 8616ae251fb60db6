/- Plain words on texts (lists of bytes): no program in sight. Conditions: none. -/
import Derived.Lib.Strings
import Derived.Lib.IndexMore
import Derived.WalkKit
import Derived.Lib.Hide
namespace Go.Proofs.YthpleohkngfdfaaDoor
set_option linter.all false
open Go.RowKit
abbrev Str := List UInt8
/-- A text as the model's string. -/
def B (l : Str) : ByteArray := ⟨l.toArray⟩
/-- The model's string as a text. -/
def L (s : ByteArray) : Str := s.data.toList
@[simp] theorem L_B (l : Str) : L (B l) = l := rfl
@[simp] theorem B_L (s : ByteArray) : B (L s) = s := rfl
theorem L_mk (l : Str) : L ⟨l.toArray⟩ = l := rfl
theorem L_toList (s : ByteArray) : s.toList = L s := Lib.toList_data s
theorem L_inj {a b : ByteArray} (h : L a = L b) : a = b := by rw [← B_L a, h, B_L]
@[simp] theorem B_data (l : Str) : (B l).data.toList = l := rfl
@[simp] theorem B_toList (l : Str) : (B l).toList = l := by unfold B; simp
@[simp] theorem B_size (l : Str) : (B l).size = l.length := by unfold B; simp [ByteArray.size]
theorem B_append (l m : Str) : B l ++ B m = B (l ++ m) := by
  apply ByteArray.ext; simp [B, ByteArray.data_append]
theorem B_inj {l m : Str} (h : B l = B m) : l = m := by rw [← B_data l, h, B_data]
theorem ret_str {a b : ByteArray} (h : a = b) : Ending.returned (.string a) = .returned (.string b) := by rw [h]
theorem ret_bool {a b : Bool} (h : a = b) : Ending.returned (.bool a) = .returned (.bool b) := by rw [h]
theorem ret_int {k : IntKind} {a b : Int} (h : a = b) : Ending.returned (.int k a) = .returned (.int k b) := by rw [h]
theorem ret_val {a b : Value} (h : a = b) : Ending.returned a = .returned b := by rw [h]
def btw (n m : Int) : Bool := decide (0 ≤ n) && decide (n ≤ m)
/-- The number of the first word of a list that is s: 2 to its place; 0 if none. -/
def bitFrom : List Str → Nat → Str → Nat
  | [], _, _ => 0
  | x :: r, k, s => if x == s then 2 ^ k else bitFrom r (k + 1) s
theorem bitFrom_hit {T : List Str} {k : Nat} {s : Str} (hk : k < T.length) (h : (T.getD k [] == s) = true) : bitFrom (T.drop k) k s = 2 ^ k := by
  have : T.drop k = T.getD k [] :: T.drop (k + 1) := by rw [List.drop_eq_getElem_cons hk]; simp [List.getD, hk]
  rw [this, bitFrom, if_pos h]
theorem bitFrom_miss {T : List Str} {k : Nat} {s : Str} (hk : k < T.length) (h : (T.getD k [] == s) = false) : bitFrom (T.drop k) k s = bitFrom (T.drop (k + 1)) (k + 1) s := by
  have : T.drop k = T.getD k [] :: T.drop (k + 1) := by rw [List.drop_eq_getElem_cons hk]; simp [List.getD, hk]
  rw [this, bitFrom, if_neg (by rw [h]; simp)]
theorem wrap_pow {k : Nat} (h : k < 31) : wrap64 ((2 : Int) ^ k) = ((2 ^ k : Nat) : Int) := by
  have h1 : (2 : Nat) ^ k ≤ 2 ^ 31 := Nat.pow_le_pow_right (by omega) (by omega)
  have : ((2 : Int) ^ k) = ((2 ^ k : Nat) : Int) := by norm_cast
  rw [this]; generalize (2 : Nat) ^ k = m at *
  exact IntWalk.i64_left (m : Int) ▸ IntWalk.i64_in _ ⟨by omega, by omega⟩
def superT : List Str := [[98, 97, 115, 105, 99], [117, 110, 105, 113, 117, 101]]
def typeT : List Str := [[99, 114, 101, 97, 116, 117, 114, 101], [105, 110, 115, 116, 97, 110, 116], [114, 105, 116, 117, 97, 108], [114, 101, 108, 105, 99], [99, 104, 97, 114, 109], [108, 97, 110, 100]]
/-- Byte k of a text, as a number; 0 behind its end. -/
def byt (l : Str) (k : Nat) : Nat := (l.getD k 0).toNat
/-- P2: the head of a name: its length, its first and last byte, no double hyphen. -/
def nmHead (l : Str) : Bool := decide (0 < l.length) && (decide (l.length ≤ 32) && (decide (97 ≤ byt l 0) && (decide (byt l 0 ≤ 122) && (!(byt l (l.length - 1) == 45) && !Lib.contains l [45, 45]))))
def okb (n : Nat) : Bool := (decide (97 ≤ n) && decide (n ≤ 122)) || ((decide (48 ≤ n) && decide (n ≤ 57)) || n == 45)
def okc (c : UInt8) : Bool := okb c.toNat
def allOk (l : Str) : Bool := l.all okc
theorem allOk_step {l : Str} {k : Nat} (h : k < l.length) : allOk (l.drop k) = (okb (byt l k) && allOk (l.drop (k + 1))) := by
  unfold allOk; rw [List.drop_eq_getElem_cons h, List.all_cons]; simp [byt, okc, List.getD, h]
theorem okb_no {n : Nat} (h : okb n = false) : ((n : Int) < 97 ∨ 122 < (n : Int)) ∧ ((n : Int) < 48 ∨ 57 < (n : Int)) ∧ ((n : Int) != 45) = true := by
  simp only [okb, Bool.or_eq_false_iff, Bool.and_eq_false_iff, decide_eq_false_iff_not, beq_eq_false_iff_ne, bne_iff_ne, ne_eq] at h ⊢; omega
theorem okb_yes {n : Nat} (h : okb n = true) : (97 ≤ (n : Int) ∧ (n : Int) ≤ 122) ∨ (48 ≤ (n : Int) ∧ (n : Int) ≤ 57 ∧ (n : Int) < 97) ∨ ((n : Int) < 97 ∧ (n : Int) < 48 ∧ ((n : Int) != 45) = false) := by
  simp only [okb, Bool.or_eq_true, Bool.and_eq_true, decide_eq_true_eq, beq_iff_eq, bne_eq_false_iff_eq] at h ⊢; omega
def isName (l : Str) : Bool := nmHead l && allOk l
theorem get_l (s : ByteArray) : ∀ (n : Nat) (h : n < s.size), (s[n]'h).toNat = byt (L s) n := fun n h => by
  have h' : n < s.data.size := h
  simp [byt, L, List.getD, ByteArray.getElem_eq_getElem_data, Array.getElem?_eq_getElem h']
theorem size_l (s : ByteArray) : (L s).length = s.size := (Lib.size_eq s).symm
theorem i64_wrap_nat (n : Int) (h₀ : 0 ≤ n) (h₁ : n < 2 ^ 63) : IntKind.i64.wrap n = n := IntWalk.i64_in n ⟨by omega, by omega⟩
theorem i64_and_nat (a b : Nat) (ha : a < 2 ^ 63) (hb : b < 2 ^ 63) : bits .and .i64 (a : Int) (b : Int) = ((a &&& b : Nat) : Int) := (bits_nat .i64 63 (by decide) i64_wrap_nat a b ha hb).1
theorem i64_or_nat (a b : Nat) (ha : a < 2 ^ 63) (hb : b < 2 ^ 63) : bits .or .i64 (a : Int) (b : Int) = ((a ||| b : Nat) : Int) := (bits_nat .i64 63 (by decide) i64_wrap_nat a b ha hb).2
theorem bit_test (m k : Nat) (h : m < 2 ^ 31) : (bits .and .i64 ((m : Int) / 2 ^ k) 1 == 1) = m.testBit k := by
  have e : ((m : Int) / 2 ^ k) = ((m / 2 ^ k : Nat) : Int) := by norm_cast
  have hd : m / 2 ^ k < 2 ^ 63 := Nat.lt_of_le_of_lt (Nat.div_le_self _ _) (by omega)
  rw [e, show (1 : Int) = ((1 : Nat) : Int) from rfl, i64_and_nat _ _ hd (by decide), Nat.and_one_is_mod, Nat.testBit_eq_decide_div_mod_eq]
  rw [Bool.eq_iff_iff]; simp; norm_cast
/-- The places of the bits of m below k, in order. -/
def bitsUpto (m k : Nat) : List Nat := (List.range k).filter (fun i => m.testBit i)
theorem bitsUpto_yes {m k : Nat} (h : m.testBit k = true) : bitsUpto m (k + 1) = bitsUpto m k ++ [k] := by
  unfold bitsUpto; rw [List.range_succ, List.filter_append]; simp [h]
theorem bitsUpto_no {m k : Nat} (h : m.testBit k = false) : bitsUpto m (k + 1) = bitsUpto m k := by
  unfold bitsUpto; rw [List.range_succ, List.filter_append]; simp [h]
theorem bitsUpto_le (m k : Nat) : (bitsUpto m k).length ≤ k := by
  unfold bitsUpto; exact Nat.le_trans (List.length_filter_le _ _) (by simp)
theorem bitsUpto_lt {m k i : Nat} (h : i ∈ bitsUpto m k) : i < k := by
  unfold bitsUpto at h; simp at h; exact h.1
/-- The words of a mask out of a list of words. -/
def maskWords (T : List Str) (m : Nat) : List Str := (bitsUpto m 31).map fun i => T.getD i []
theorem bits_lt {m k i n : Nat} (hm : m < 2 ^ n) (h : i ∈ bitsUpto m k) : i < n := by
  unfold bitsUpto at h; simp at h
  rcases Nat.lt_or_ge i n with h' | h'
  · exact h'
  · have := Nat.testBit_lt_two_pow (Nat.lt_of_lt_of_le hm (Nat.pow_le_pow_right (by omega) h')); rw [this] at h; exact absurd h.2 (by decide)
theorem take_snoc_map {α β : Type} (f : α → β) (l : List α) (k : Nat) (h : k < l.length) : (l.take (k + 1)).map f = (l.take k).map f ++ [f l[k]] := by
  rw [List.take_succ_eq_append_getElem h, List.map_append]; rfl
/-- Numbers and texts as cells. -/
def intCells (l : List Nat) : List Value := l.map fun i => .int .i64 ((i : Nat) : Int)
def strCells (l : List Str) : List Value := l.map fun s => .string (B s)
theorem intCells_snoc (l : List Nat) (i : Nat) : intCells l ++ [.int .i64 ((i : Nat) : Int)] = intCells (l ++ [i]) := by simp [intCells]
theorem strCells_snoc (l : List Str) (s : ByteArray) : strCells l ++ [.string s] = strCells (l ++ [L s]) := by simp [strCells]
theorem intCells_length (l : List Nat) : (intCells l).length = l.length := by simp [intCells]
theorem strCells_length (l : List Str) : (strCells l).length = l.length := by simp [strCells]
def colorT : List Str := [[97, 109, 98, 101, 114], [99, 111, 98, 97, 108, 116], [106, 101, 116], [114, 117, 98, 121], [101, 109, 101, 114, 97, 108, 100]]
def kwT : List Str := [[102, 108, 121, 105, 110, 103], [114, 101, 97, 99, 104], [104, 97, 115, 116, 101], [118, 105, 103, 105, 108, 97, 110, 116], [116, 114, 97, 109, 112, 108, 101], [102, 105, 114, 115, 116, 45, 115, 116, 114, 105, 107, 101], [100, 111, 117, 98, 108, 101, 45, 115, 116, 114, 105, 107, 101], [100, 101, 97, 100, 108, 121], [108, 105, 102, 101, 108, 105, 110, 107], [109, 101, 110, 97, 99, 101], [100, 101, 102, 101, 110, 100, 101, 114], [119, 97, 114, 100, 101, 100], [115, 116, 117, 114, 100, 121], [101, 108, 117, 115, 105, 118, 101], [110, 111, 45, 97, 116, 116, 97, 99, 107], [110, 111, 45, 98, 108, 111, 99, 107], [109, 117, 115, 116, 45, 97, 116, 116, 97, 99, 107]]
def noneW : Str := [110, 111, 110, 101]
end Go.Proofs.YthpleohkngfdfaaDoor
