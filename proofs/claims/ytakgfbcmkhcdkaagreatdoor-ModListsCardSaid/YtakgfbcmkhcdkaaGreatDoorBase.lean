/- Plain words on texts (lists of bytes): no program in sight. Conditions: none. Plain words on memory: slices that the call owns, lists of texts and numbers in memory. No program in sight. Conditions: none. Plain laws: append of one text, or of one number, to a slice that the call owns. Over any program. Conditions: none. Plain words on memory: a block of one cell that holds a slice over texts. Over any program. Conditions: none. Plain words: a text cut at a byte, and put together again. No program in sight. Conditions: none. Plain words: a filter's words and text. No program in sight. Plain words: numerals. No program in sight. -/
import Derived.Lib.Strings
import Derived.Lib.IndexMore
import Derived.WalkKit
import Derived.Lib.Hide
import Derived.Below
import Derived.Laws.OwnMore
import Derived.Deep.Draws
import Derived.WalkSpells
import Derived.OneCell
import Derived.Lib.SplitLaws
import Derived.Lib.Join
import Derived.Lib.IndexBytes
import Derived.Lib.ItoaLen
import Derived.Lib.ItoaMem
namespace Go.Proofs.YtakgfbcmkhcdkaaGreatDoor
set_option linter.all false
open Go.RowKit
abbrev Str := List UInt8
/-- A text as the model's string. -/
def B (l : Str) : ByteArray := ⟨l.toArray⟩
/-- The model's string as a text. -/
def L (s : ByteArray) : Str := s.data.toList
@[simp] theorem L_B (l : Str) : L (B l) = l := rfl
@[simp] theorem B_L (s : ByteArray) : B (L s) = s := rfl
theorem L_mk (l : Str) : L ⟨l.toArray⟩ = l := rfl
theorem L_toList (s : ByteArray) : s.toList = L s := Lib.toList_data s
theorem L_inj {a b : ByteArray} (h : L a = L b) : a = b := by rw [← B_L a, h, B_L]
@[simp] theorem B_data (l : Str) : (B l).data.toList = l := rfl
@[simp] theorem B_toList (l : Str) : (B l).toList = l := by unfold B; simp
@[simp] theorem B_size (l : Str) : (B l).size = l.length := by unfold B; simp [ByteArray.size]
theorem B_append (l m : Str) : B l ++ B m = B (l ++ m) := by
  apply ByteArray.ext; simp [B, ByteArray.data_append]
theorem B_inj {l m : Str} (h : B l = B m) : l = m := by rw [← B_data l, h, B_data]
theorem ret_str {a b : ByteArray} (h : a = b) : Ending.returned (.string a) = .returned (.string b) := by rw [h]
theorem ret_bool {a b : Bool} (h : a = b) : Ending.returned (.bool a) = .returned (.bool b) := by rw [h]
theorem ret_int {k : IntKind} {a b : Int} (h : a = b) : Ending.returned (.int k a) = .returned (.int k b) := by rw [h]
theorem ret_val {a b : Value} (h : a = b) : Ending.returned a = .returned b := by rw [h]
def btw (n m : Int) : Bool := decide (0 ≤ n) && decide (n ≤ m)
/-- The number of the first word of a list that is s: 2 to its place; 0 if none. -/
def bitFrom : List Str → Nat → Str → Nat
  | [], _, _ => 0
  | x :: r, k, s => if x == s then 2 ^ k else bitFrom r (k + 1) s
theorem bitFrom_hit {T : List Str} {k : Nat} {s : Str} (hk : k < T.length) (h : (T.getD k [] == s) = true) : bitFrom (T.drop k) k s = 2 ^ k := by
  have : T.drop k = T.getD k [] :: T.drop (k + 1) := by rw [List.drop_eq_getElem_cons hk]; simp [List.getD, hk]
  rw [this, bitFrom, if_pos h]
theorem bitFrom_miss {T : List Str} {k : Nat} {s : Str} (hk : k < T.length) (h : (T.getD k [] == s) = false) : bitFrom (T.drop k) k s = bitFrom (T.drop (k + 1)) (k + 1) s := by
  have : T.drop k = T.getD k [] :: T.drop (k + 1) := by rw [List.drop_eq_getElem_cons hk]; simp [List.getD, hk]
  rw [this, bitFrom, if_neg (by rw [h]; simp)]
theorem wrap_pow {k : Nat} (h : k < 31) : wrap64 ((2 : Int) ^ k) = ((2 ^ k : Nat) : Int) := by
  have h1 : (2 : Nat) ^ k ≤ 2 ^ 31 := Nat.pow_le_pow_right (by omega) (by omega)
  have : ((2 : Int) ^ k) = ((2 ^ k : Nat) : Int) := by norm_cast
  rw [this]; generalize (2 : Nat) ^ k = m at *
  exact IntWalk.i64_left (m : Int) ▸ IntWalk.i64_in _ ⟨by omega, by omega⟩
def superT : List Str := [[98, 97, 115, 105, 99], [117, 110, 105, 113, 117, 101]]
def typeT : List Str := [[99, 114, 101, 97, 116, 117, 114, 101], [105, 110, 115, 116, 97, 110, 116], [114, 105, 116, 117, 97, 108], [114, 101, 108, 105, 99], [99, 104, 97, 114, 109], [108, 97, 110, 100]]
/-- Byte k of a text, as a number; 0 behind its end. -/
def byt (l : Str) (k : Nat) : Nat := (l.getD k 0).toNat
/-- P2: the head of a name: its length, its first and last byte, no double hyphen. -/
def nmHead (l : Str) : Bool := decide (0 < l.length) && (decide (l.length ≤ 32) && (decide (97 ≤ byt l 0) && (decide (byt l 0 ≤ 122) && (!(byt l (l.length - 1) == 45) && !Lib.contains l [45, 45]))))
def okb (n : Nat) : Bool := (decide (97 ≤ n) && decide (n ≤ 122)) || ((decide (48 ≤ n) && decide (n ≤ 57)) || n == 45)
def okc (c : UInt8) : Bool := okb c.toNat
def allOk (l : Str) : Bool := l.all okc
theorem allOk_step {l : Str} {k : Nat} (h : k < l.length) : allOk (l.drop k) = (okb (byt l k) && allOk (l.drop (k + 1))) := by
  unfold allOk; rw [List.drop_eq_getElem_cons h, List.all_cons]; simp [byt, okc, List.getD, h]
theorem okb_no {n : Nat} (h : okb n = false) : ((n : Int) < 97 ∨ 122 < (n : Int)) ∧ ((n : Int) < 48 ∨ 57 < (n : Int)) ∧ ((n : Int) != 45) = true := by
  simp only [okb, Bool.or_eq_false_iff, Bool.and_eq_false_iff, decide_eq_false_iff_not, beq_eq_false_iff_ne, bne_iff_ne, ne_eq] at h ⊢; omega
theorem okb_yes {n : Nat} (h : okb n = true) : (97 ≤ (n : Int) ∧ (n : Int) ≤ 122) ∨ (48 ≤ (n : Int) ∧ (n : Int) ≤ 57 ∧ (n : Int) < 97) ∨ ((n : Int) < 97 ∧ (n : Int) < 48 ∧ ((n : Int) != 45) = false) := by
  simp only [okb, Bool.or_eq_true, Bool.and_eq_true, decide_eq_true_eq, beq_iff_eq, bne_eq_false_iff_eq] at h ⊢; omega
def isName (l : Str) : Bool := nmHead l && allOk l
theorem get_l (s : ByteArray) : ∀ (n : Nat) (h : n < s.size), (s[n]'h).toNat = byt (L s) n := fun n h => by
  have h' : n < s.data.size := h
  simp [byt, L, List.getD, ByteArray.getElem_eq_getElem_data, Array.getElem?_eq_getElem h']
theorem size_l (s : ByteArray) : (L s).length = s.size := (Lib.size_eq s).symm
theorem i64_wrap_nat (n : Int) (h₀ : 0 ≤ n) (h₁ : n < 2 ^ 63) : IntKind.i64.wrap n = n := IntWalk.i64_in n ⟨by omega, by omega⟩
theorem i64_and_nat (a b : Nat) (ha : a < 2 ^ 63) (hb : b < 2 ^ 63) : bits .and .i64 (a : Int) (b : Int) = ((a &&& b : Nat) : Int) := (bits_nat .i64 63 (by decide) i64_wrap_nat a b ha hb).1
theorem i64_or_nat (a b : Nat) (ha : a < 2 ^ 63) (hb : b < 2 ^ 63) : bits .or .i64 (a : Int) (b : Int) = ((a ||| b : Nat) : Int) := (bits_nat .i64 63 (by decide) i64_wrap_nat a b ha hb).2
theorem bit_test (m k : Nat) (h : m < 2 ^ 31) : (bits .and .i64 ((m : Int) / 2 ^ k) 1 == 1) = m.testBit k := by
  have e : ((m : Int) / 2 ^ k) = ((m / 2 ^ k : Nat) : Int) := by norm_cast
  have hd : m / 2 ^ k < 2 ^ 63 := Nat.lt_of_le_of_lt (Nat.div_le_self _ _) (by omega)
  rw [e, show (1 : Int) = ((1 : Nat) : Int) from rfl, i64_and_nat _ _ hd (by decide), Nat.and_one_is_mod, Nat.testBit_eq_decide_div_mod_eq]
  rw [Bool.eq_iff_iff]; simp; norm_cast
/-- The places of the bits of m below k, in order. -/
def bitsUpto (m k : Nat) : List Nat := (List.range k).filter (fun i => m.testBit i)
theorem bitsUpto_yes {m k : Nat} (h : m.testBit k = true) : bitsUpto m (k + 1) = bitsUpto m k ++ [k] := by
  unfold bitsUpto; rw [List.range_succ, List.filter_append]; simp [h]
theorem bitsUpto_no {m k : Nat} (h : m.testBit k = false) : bitsUpto m (k + 1) = bitsUpto m k := by
  unfold bitsUpto; rw [List.range_succ, List.filter_append]; simp [h]
theorem bitsUpto_le (m k : Nat) : (bitsUpto m k).length ≤ k := by
  unfold bitsUpto; exact Nat.le_trans (List.length_filter_le _ _) (by simp)
theorem bitsUpto_lt {m k i : Nat} (h : i ∈ bitsUpto m k) : i < k := by
  unfold bitsUpto at h; simp at h; exact h.1
/-- The words of a mask out of a list of words. -/
def maskWords (T : List Str) (m : Nat) : List Str := (bitsUpto m 31).map fun i => T.getD i []
theorem bits_lt {m k i n : Nat} (hm : m < 2 ^ n) (h : i ∈ bitsUpto m k) : i < n := by
  unfold bitsUpto at h; simp at h
  rcases Nat.lt_or_ge i n with h' | h'
  · exact h'
  · have := Nat.testBit_lt_two_pow (Nat.lt_of_lt_of_le hm (Nat.pow_le_pow_right (by omega) h')); rw [this] at h; exact absurd h.2 (by decide)
theorem take_snoc_map {α β : Type} (f : α → β) (l : List α) (k : Nat) (h : k < l.length) : (l.take (k + 1)).map f = (l.take k).map f ++ [f l[k]] := by
  rw [List.take_succ_eq_append_getElem h, List.map_append]; rfl
/-- Numbers and texts as cells. -/
def intCells (l : List Nat) : List Value := l.map fun i => .int .i64 ((i : Nat) : Int)
def strCells (l : List Str) : List Value := l.map fun s => .string (B s)
theorem intCells_snoc (l : List Nat) (i : Nat) : intCells l ++ [.int .i64 ((i : Nat) : Int)] = intCells (l ++ [i]) := by simp [intCells]
theorem strCells_snoc (l : List Str) (s : ByteArray) : strCells l ++ [.string s] = strCells (l ++ [L s]) := by simp [strCells]
theorem intCells_length (l : List Nat) : (intCells l).length = l.length := by simp [intCells]
theorem strCells_length (l : List Str) : (strCells l).length = l.length := by simp [strCells]
def colorT : List Str := [[97, 109, 98, 101, 114], [99, 111, 98, 97, 108, 116], [106, 101, 116], [114, 117, 98, 121], [101, 109, 101, 114, 97, 108, 100]]
def kwT : List Str := [[102, 108, 121, 105, 110, 103], [114, 101, 97, 99, 104], [104, 97, 115, 116, 101], [118, 105, 103, 105, 108, 97, 110, 116], [116, 114, 97, 109, 112, 108, 101], [102, 105, 114, 115, 116, 45, 115, 116, 114, 105, 107, 101], [100, 111, 117, 98, 108, 101, 45, 115, 116, 114, 105, 107, 101], [100, 101, 97, 100, 108, 121], [108, 105, 102, 101, 108, 105, 110, 107], [109, 101, 110, 97, 99, 101], [100, 101, 102, 101, 110, 100, 101, 114], [119, 97, 114, 100, 101, 100], [115, 116, 117, 114, 100, 121], [101, 108, 117, 115, 105, 118, 101], [110, 111, 45, 97, 116, 116, 97, 99, 107], [110, 111, 45, 98, 108, 111, 99, 107], [109, 117, 115, 116, 45, 97, 116, 116, 97, 99, 107]]
def noneW : Str := [110, 111, 110, 101]
end Go.Proofs.YtakgfbcmkhcdkaaGreatDoor
namespace Go.Proofs.YtakgfbcmkhcdkaaGreatDoor
set_option linter.all false
open Go.RowKit
theorem own_form {w : World} {base e n : Nat} {v : Value} {xs : List Value} (h : w.ownsRow base e 1 v n xs) : ∃ A c, v = .slice A n c ∧ n ≤ c := by
  rcases h.2 with ⟨rfl, rfl⟩ | ⟨g, cap, cur, rfl, _, _, hn, _⟩
  · exact ⟨none, 0, rfl, Nat.le_refl _⟩
  · exact ⟨_, cap, rfl, hn⟩
theorem own_at {w : World} {base e n c k : Nat} {A : Option Addr} {xs : List Value} (h : w.ownsRow base e 1 (.slice A n c) n xs) (hk : k < n) :
    ∃ g, A = some ⟨g, 0, none⟩ ∧ base ≤ g ∧ g < w.heap.size ∧ ∀ j, j < n → w.cell? ⟨g, j, none⟩ = xs[j]? := by
  rcases h.2 with ⟨_, rfl⟩ | ⟨g, cap, cur, hv, hg, hh, hn, _⟩
  · omega
  · have hA : A = some ⟨g, 0, none⟩ := by injection hv
    have hlt := (h.lt g (by simp [Value.ownBlock, hA])).2
    subst hA
    refine ⟨g, rfl, hg, hlt, fun j hj => h.cellAt j (by omega)⟩
theorem own_base {w : World} {base base' e size n : Nat} {v : Value} {xs : List Value} (h : w.ownsRow base e size v n xs) (hb : base' ≤ base) : w.ownsRow base' e size v n xs := by
  obtain ⟨h1, h2⟩ := h
  exact ⟨h1, h2.imp id fun ⟨g, cap, cur, hv, hg, r⟩ => ⟨g, cap, cur, hv, by omega, r⟩⟩
/-- What the call owns below block number B stays owned while only blocks from B on turn. -/
theorem own_below {w w' : World} {base e size n : Nat} {v : Value} {xs : List Value} (h : w.ownsRow base e size v n xs) (hb : Below w.heap.size w w') : w'.ownsRow base e size v n xs := by
  obtain ⟨h1, h2⟩ := h
  refine ⟨h1, h2.imp id fun ⟨g, cap, cur, hv, hg, hh, r⟩ => ⟨g, cap, cur, hv, hg, ?_, r⟩⟩
  rw [hb.block g (Array.getElem?_eq_some_iff.1 hh).1]; exact hh
theorem below_all {B : Nat} {a b c : World} (h : Below B a b) (k : Below b.heap.size b c) (hB : B ≤ b.heap.size) : Below B a c := h.trans (k.mono hB)
theorem below_two {a b c : World} (h : Below a.heap.size a b) (k : Below b.heap.size b c) : Below a.heap.size a c := h.trans (k.mono h.size)
theorem below_drewN {B : Nat} {a w : World} (h : Below B a w) (n : Nat) : Below B a (w.drewN n) := ⟨h.os, h.tape, h.output, h.size, h.block⟩
theorem cell_below {w w' : World} (h : Below w.heap.size w w') {g j : Nat} {v : Value} (hc : w.cell? ⟨g, j, none⟩ = some v) : w'.cell? ⟨g, j, none⟩ = some v :=
  (h.cell (World.block_lt_of_cell? w _ hc)).trans hc
theorem intCells_at {l : List Nat} {k : Nat} (h : k < l.length) : (intCells l)[k]? = some (.int .i64 ((l[k] : Nat) : Int)) := by simp [intCells, h]
theorem strCells_at {l : List Str} {k : Nat} (h : k < l.length) : (strCells l)[k]? = some (.string (B l[k])) := by simp [strCells, h]
/-- The value is a slice over new memory (from block 'base' on) that holds the texts l. -/
def Texts (w : World) (base : Nat) (l : List Str) (v : Value) : Prop := w.ownsRow base 9 1 v l.length (strCells l)
def Nums (w : World) (base : Nat) (l : List Nat) (v : Value) : Prop := w.ownsRow base 3 1 v l.length (intCells l)
theorem Texts.nil (w : World) (base : Nat) : Texts w base [] (.slice none 0 0) := World.ownsRow_nil _ _ _ _
theorem Texts.form {w : World} {base : Nat} {l : List Str} {v : Value} (h : Texts w base l v) : ∃ A c, v = .slice A l.length c ∧ l.length ≤ c := own_form h
theorem Nums.form {w : World} {base : Nat} {l : List Nat} {v : Value} (h : Nums w base l v) : ∃ A c, v = .slice A l.length c ∧ l.length ≤ c := own_form h
theorem Texts.base {w : World} {base base' : Nat} {l : List Str} {v : Value} (h : Texts w base l v) (hb : base' ≤ base) : Texts w base' l v := own_base h hb
theorem Texts.below {w w' : World} {base : Nat} {l : List Str} {v : Value} (h : Texts w base l v) (hb : Below w.heap.size w w') : Texts w' base l v := own_below h hb
theorem Nums.below {w w' : World} {base : Nat} {l : List Nat} {v : Value} (h : Nums w base l v) (hb : Below w.heap.size w w') : Nums w' base l v := own_below h hb
theorem Nums.at_ {w : World} {base c k : Nat} {A : Option Addr} {l : List Nat} (h : Nums w base l (.slice A l.length c)) (hk : k < l.length) :
    ∃ g, A = some ⟨g, 0, none⟩ ∧ g < w.heap.size ∧ w.cell? ⟨g, k, none⟩ = some (.int .i64 ((l[k] : Nat) : Int)) := by
  obtain ⟨g, hA, _, hg, hc⟩ := own_at h hk
  exact ⟨g, hA, hg, (hc k hk).trans (intCells_at hk)⟩
theorem Texts.at_ {w : World} {base c k : Nat} {A : Option Addr} {l : List Str} (h : Texts w base l (.slice A l.length c)) (hk : k < l.length) :
    ∃ g, A = some ⟨g, 0, none⟩ ∧ g < w.heap.size ∧ w.cell? ⟨g, k, none⟩ = some (.string (B l[k])) := by
  obtain ⟨g, hA, _, hg, hc⟩ := own_at h hk
  exact ⟨g, hA, hg, (hc k hk).trans (strCells_at hk)⟩
theorem cell_belowB {W w' : World} {b : Nat} (h : Below b W w') {g j : Nat} {v : Value} (hg : g < b) (hc : W.cell? ⟨g, j, none⟩ = some v) : w'.cell? ⟨g, j, none⟩ = some v :=
  (h.cell (p := ⟨g, j, none⟩) hg).trans hc
end Go.Proofs.YtakgfbcmkhcdkaaGreatDoor
namespace Go.Proofs.YtakgfbcmkhcdkaaGreatDoor
set_option linter.all false
open Go.ChangeShapes Go.WideShapes Go.RowKit
theorem wpList_text_push {P : Program} {ops : Array Oper} {rest : List Oper} {o : Oper} {a : Act} {Q : Exit → Act → World → Prop} {w : World} (hgd : o.guard = none) (s x : Operand) (t : TypeId)
    (ho : o.op = .call { callee := .builtin .append, args := #[s, x], argTypes := #[t, t] }) (ht : P.underlying t = some (.slice 9))
    (hinf : (P.info? 9).map (fun i => (i.zero, i.size, i.bytes)) = some (some (.string ByteArray.empty), 1, 16))
    {base : Nat} {l : List Str} {v : Value} {n : ByteArray} (hs : a.eval s = v) (hx : a.eval x = .slice (some ⟨w.heap.size, 0, none⟩) 1 1) (hown : Texts w base l v)
    (hlen : l.length < 1000000000) (hb : base ≤ w.heap.size)
    (h : ∀ v' w', Texts w' base (l ++ [L n]) v' → Below base w w' → wpList P ops Q rest (a.put o.dst v') w') :
    wpList P ops Q (o :: rest) a (w.alloc (.cells #[.string n] 9)) := by
  obtain ⟨i0, hi, hz0, hz1, hz2⟩ := info_parts hinf
  refine wpList_append_own _ hgd s x t ho base 9 i0 (.string ByteArray.empty) 1 16 ht hi hz0 hz1 hz2 rfl (by decide) v l.length (strCells l) hs (hown.alloc _) ⟨w.heap.size, 0, none⟩ 1 1 [.string n] hx rfl (cell_one_new _ _ _) ?_ (by unfold maxLen; omega) (by omega) (by simp; omega) ?_
  · intro u hu; simp at hu; subst hu; rfl
  · intro v' w' h1 h2 _
    refine h v' w' ?_ (((Below.refl base w).alloc hb _).grown h2 (by simp; omega) (fun g hg => (hown.lt g hg).1))
    unfold Texts
    rw [strCells_snoc] at h1
    simpa using h1
theorem wpList_num_push {P : Program} {ops : Array Oper} {rest : List Oper} {o : Oper} {a : Act} {Q : Exit → Act → World → Prop} {w : World} (hgd : o.guard = none) (s x : Operand) (t : TypeId)
    (ho : o.op = .call { callee := .builtin .append, args := #[s, x], argTypes := #[t, t] }) (ht : P.underlying t = some (.slice 3))
    (hinf : (P.info? 3).map (fun i => (i.zero, i.size, i.bytes)) = some (some (.int .i64 0), 1, 8))
    {base : Nat} {l : List Nat} {v : Value} {n : Nat} (hs : a.eval s = v) (hx : a.eval x = .slice (some ⟨w.heap.size, 0, none⟩) 1 1) (hown : Nums w base l v)
    (hlen : l.length < 1000000000) (hb : base ≤ w.heap.size)
    (h : ∀ v' w', Nums w' base (l ++ [n]) v' → Below base w w' → wpList P ops Q rest (a.put o.dst v') w') :
    wpList P ops Q (o :: rest) a (w.alloc (.cells #[.int .i64 n] 3)) := by
  obtain ⟨i0, hi, hz0, hz1, hz2⟩ := info_parts hinf
  refine wpList_append_own _ hgd s x t ho base 3 i0 (.int .i64 0) 1 8 ht hi hz0 hz1 hz2 rfl (by decide) v l.length (intCells l) hs (hown.alloc _) ⟨w.heap.size, 0, none⟩ 1 1 [.int .i64 n] hx rfl (cell_one_new _ _ _) ?_ (by unfold maxLen; omega) (by omega) (by simp; omega) ?_
  · intro u hu; simp at hu; subst hu; rfl
  · intro v' w' h1 h2 _
    refine h v' w' ?_ (((Below.refl base w).alloc hb _).grown h2 (by simp; omega) (fun g hg => (hown.lt g hg).1))
    unfold Nums
    rw [intCells_snoc] at h1
    simpa using h1
end Go.Proofs.YtakgfbcmkhcdkaaGreatDoor
namespace Go.Proofs.YtakgfbcmkhcdkaaGreatDoor
set_option linter.all false
open Go.ChangeShapes Go.WideShapes Go.RowKit
theorem wpList_text_push2 {P : Program} {ops : Array Oper} {rest : List Oper} {o : Oper} {a : Act} {Q : Exit → Act → World → Prop} {w : World} (hgd : o.guard = none) (s x : Operand) (t : TypeId)
    (ho : o.op = .call { callee := .builtin .append, args := #[s, x], argTypes := #[t, t] }) (ht : P.underlying t = some (.slice 9))
    (hinf : (P.info? 9).map (fun i => (i.zero, i.size, i.bytes)) = some (some (.string ByteArray.empty), 1, 16))
    {base : Nat} {l : List Str} {v : Value} {n : ByteArray} (hs : a.eval s = v) (hx : a.eval x = .slice (some ⟨w.heap.size, 0, none⟩) 1 1) (hown : Texts w base l v)
    (hlen : l.length < 1000000000) (hb : base ≤ w.heap.size)
    (h : ∀ v' w', Texts w' base (l ++ [L n]) v' → Below base w w' → (∀ k, k < w.heap.size → some k ≠ v.ownBlock → w'.heap[k]? = w.heap[k]?) → wpList P ops Q rest (a.put o.dst v') w') :
    wpList P ops Q (o :: rest) a (w.alloc (.cells #[.string n] 9)) := by
  obtain ⟨i0, hi, hz0, hz1, hz2⟩ := info_parts hinf
  refine wpList_append_own _ hgd s x t ho base 9 i0 (.string ByteArray.empty) 1 16 ht hi hz0 hz1 hz2 rfl (by decide) v l.length (strCells l) hs (hown.alloc _) ⟨w.heap.size, 0, none⟩ 1 1 [.string n] hx rfl (cell_one_new _ _ _) ?_ (by unfold maxLen; omega) (by omega) (by simp; omega) ?_
  · intro u hu; simp at hu; subst hu; rfl
  · intro v' w' h1 h2 _
    refine h v' w' ?_ (((Below.refl base w).alloc hb _).grown h2 (by simp; omega) (fun g hg => (hown.lt g hg).1)) (fun k hk hne => (h2.block k (by simp; omega) hne).trans (Below.heap_alloc w _ k hk))
    unfold Texts
    rw [strCells_snoc] at h1
    simpa using h1
/-- Block g, of the call's own (from block b on), holds one slice over the texts l. -/
def Wr (t : Nat) (w : World) (b g : Nat) (l : List Str) : Prop := ∃ v, w.heap[g]? = some (.cells #[v] t (0, 0)) ∧ b ≤ g ∧ Texts w b l v
theorem Wr.below {t : Nat} {w w' : World} {b g : Nat} {l : List Str} (h : Wr t w b g l) (hb : Below w.heap.size w w') : Wr t w' b g l := by
  obtain ⟨v, h1, h2, h3⟩ := h
  exact ⟨v, (hb.block g (Array.getElem?_eq_some_iff.1 h1).1).trans h1, h2, h3.below hb⟩
theorem texts_block {w : World} {b : Nat} {l : List Str} {v : Value} (h : Texts w b l v) {k : Nat} (hk : v.ownBlock = some k) : ∃ cs, w.heap[k]? = some (.cells cs 9 (0, 0)) := by
  rcases h.2 with ⟨rfl, _⟩ | ⟨g, cap, cur, rfl, _, hg, _⟩
  · cases hk
  · simp [Value.ownBlock] at hk
    subst hk; exact ⟨cur, hg⟩
theorem Wr.lt {t : Nat} {w : World} {b g : Nat} {l : List Str} (h : Wr t w b g l) : g < w.heap.size ∧ b ≤ g := by
  obtain ⟨v, h1, h2, _⟩ := h
  exact ⟨(Array.getElem?_eq_some_iff.1 h1).1, h2⟩
theorem texts_setCell {w : World} {b g : Nat} {t : Nat} {l : List Str} {v u : Value} {x : Value} (ht : t ≠ 9) (hg : w.heap[g]? = some (.cells #[x] t (0, 0))) (h : Texts w b l v) : Texts (w.setCell ⟨g, 0, none⟩ u) b l v := by
  obtain ⟨h1, h2⟩ := h
  refine ⟨h1, h2.imp id fun ⟨k, cap, cur, hv, hk, hh, r⟩ => ⟨k, cap, cur, hv, hk, ?_, r⟩⟩
  rw [Below.heap_setCell _ _ _ _ (fun e => by subst e; rw [hg] at hh; injection hh with hh; injection hh with _ h9 _; exact ht h9)]; exact hh
theorem Wr.stored {t : Nat} {w : World} {b g : Nat} {l : List Str} {v x : Value} (ht : t ≠ 9) (hg : w.heap[g]? = some (.cells #[x] t (0, 0))) (hb : b ≤ g) (h : Texts w b l v) : Wr t (w.setCell ⟨g, 0, none⟩ v) b g l := by
  refine ⟨v, ?_, hb, texts_setCell ht hg h⟩
  simp [World.setCell, Array.getElem?_modify, hg]
theorem one_cell {w : World} {g t : Nat} {x : Value} (hg : w.heap[g]? = some (.cells #[x] t (0, 0))) : w.cell? ⟨g, 0, none⟩ = some x := by rw [cell_of_row w g 0 _ t _ hg]; rfl
theorem one_free {w : World} {g t : Nat} {x : Value} (hg : w.heap[g]? = some (.cells #[x] t (0, 0))) : w.frozen? ⟨g, 0, none⟩ = false := by simp [World.frozen?, hg]
/-- No block has gone; what is no row of texts, and not block g, is as it was. -/
def Keep (g : Nat) (w w' : World) : Prop := w.heap.size ≤ w'.heap.size ∧ ∀ k o, w.heap[k]? = some o → k ≠ g → (∀ cs fr, o ≠ .cells cs 9 fr) → w'.heap[k]? = some o
theorem Keep.refl (g : Nat) (w : World) : Keep g w w := ⟨Nat.le_refl _, fun _ _ h _ _ => h⟩
theorem Keep.trans {g : Nat} {a b c : World} (h : Keep g a b) (k : Keep g b c) : Keep g a c := ⟨Nat.le_trans h.1 k.1, fun i o ho hi hn => k.2 i o (h.2 i o ho hi hn) hi hn⟩
theorem Keep.of_below {g : Nat} {w w' : World} (h : Below w.heap.size w w') : Keep g w w' := ⟨h.size, fun k o ho _ _ => (h.block k (Array.getElem?_eq_some_iff.1 ho).1).trans ho⟩
theorem Nums.keep {g t : Nat} {w w' : World} {base : Nat} {l : List Nat} {v x : Value} (h : Nums w base l v) (hk : Keep g w w') (hg : w.heap[g]? = some (.cells #[x] t (0, 0))) (ht : t ≠ 3) : Nums w' base l v := by
  obtain ⟨h1, h2⟩ := h
  refine ⟨h1, h2.imp id fun ⟨k, cap, cur, hv, hb, hh, r⟩ => ⟨k, cap, cur, hv, hb, ?_, r⟩⟩
  exact hk.2 k _ hh (fun e => by subst e; rw [hg] at hh; injection hh with hh; injection hh with _ h9 _; exact ht h9) (fun cs fr e => by injection e with _ h9 _; exact absurd h9 (by decide))
theorem Wr.block {t : Nat} {w : World} {b g : Nat} {l : List Str} (h : Wr t w b g l) : ∃ v, w.heap[g]? = some (.cells #[v] t (0, 0)) := by
  obtain ⟨v, h1, _⟩ := h; exact ⟨v, h1⟩
/-- Append to the slice that block g holds: what a store back into that block then gives. -/
theorem wpList_wr_push {P : Program} {ops : Array Oper} {rest : List Oper} {o : Oper} {a : Act} {Q : Exit → Act → World → Prop} {w : World} (hgd : o.guard = none) (s x : Operand) (t : TypeId)
    (ho : o.op = .call { callee := .builtin .append, args := #[s, x], argTypes := #[t, t] }) (ht : P.underlying t = some (.slice 9))
    (hinf : (P.info? 9).map (fun i => (i.zero, i.size, i.bytes)) = some (some (.string ByteArray.empty), 1, 16))
    {base g tw : Nat} {l : List Str} {v : Value} {n : ByteArray} (htw : tw ≠ 9) (hs : a.eval s = v) (hx : a.eval x = .slice (some ⟨w.heap.size, 0, none⟩) 1 1)
    (hg : Hid (w.heap[g]? = some (.cells #[v] tw (0, 0)))) (hbg : base ≤ g) (hown : Texts w base l v)
    (hlen : l.length < 1000000000)
    (h : ∀ A2 c2 w', w'.cell? ⟨g, 0, none⟩ = some v → w'.frozen? ⟨g, 0, none⟩ = false →
      Hid (Wr tw (w'.setCell ⟨g, 0, none⟩ (.slice A2 (l.length + 1) c2)) base g (l ++ [L n]) ∧ Below base w (w'.setCell ⟨g, 0, none⟩ (.slice A2 (l.length + 1) c2)) ∧ Keep g w (w'.setCell ⟨g, 0, none⟩ (.slice A2 (l.length + 1) c2))) →
      wpList P ops Q rest (a.put o.dst (.slice A2 (l.length + 1) c2)) w') :
    wpList P ops Q (o :: rest) a (w.alloc (.cells #[.string n] 9)) := by
  have hg := hg.out
  have hgl : g < w.heap.size := (Array.getElem?_eq_some_iff.1 hg).1
  refine wpList_text_push2 hgd s x t ho ht hinf hs hx hown hlen (by omega) ?_
  intro v' w2 hown2 hb2 hk2
  obtain ⟨A2, c2, hv2, hcc2⟩ := hown2.form
  rw [show (l ++ [L n]).length = l.length + 1 by simp] at hv2
  subst hv2
  have hg2 : w2.heap[g]? = some (.cells #[v] tw (0, 0)) := (hk2 g hgl (fun e => by
    obtain ⟨cs, hcs⟩ := texts_block hown e.symm
    rw [hg] at hcs; injection hcs with hcs; injection hcs with _ h9 _; exact htw h9)).trans hg
  refine h A2 c2 w2 (one_cell hg2) (one_free hg2) (Lib.hid ⟨Wr.stored htw hg2 hbg hown2, hb2.setCell hbg _, ?_⟩)
  refine ⟨by simp [World.setCell]; exact hb2.size, fun k o ho hkg hn => ?_⟩
  rw [Below.heap_setCell _ _ _ _ hkg]
  refine (hk2 k (Array.getElem?_eq_some_iff.1 ho).1 (fun e => ?_)).trans ho
  obtain ⟨cs, hcs⟩ := texts_block hown e.symm
  rw [ho] at hcs; injection hcs with hcs; exact hn _ _ hcs
/-- A word is added, unless it is empty. -/
def addW (l : List Str) (s : Str) : List Str := if s = [] then l else l ++ [s]
theorem addW_len (l : List Str) (s : Str) : (addW l s).length ≤ l.length + 1 := by unfold addW; split <;> simp
end Go.Proofs.YtakgfbcmkhcdkaaGreatDoor
namespace Go.Proofs.YtakgfbcmkhcdkaaGreatDoor
set_option linter.all false
def splitOn (c : UInt8) : Str → List Str
  | [] => [[]]
  | x :: r => if x == c then [] :: splitOn c r else match splitOn c r with
    | [] => [[x]]
    | h :: t => (x :: h) :: t
theorem splitOn_ne (c : UInt8) : ∀ s, splitOn c s ≠ []
  | [] => by simp [splitOn]
  | x :: r => by
    unfold splitOn; split
    · simp
    · split <;> simp
theorem splitOn_len (c : UInt8) : ∀ s, (splitOn c s).length ≤ s.length + 1
  | [] => by simp [splitOn]
  | x :: r => by
    have := splitOn_len c r
    unfold splitOn; split
    · simp; omega
    · split
      · simp
      · rename_i h; rw [h] at this; simp at this ⊢; omega
theorem join_cons2 (x y : Str) (r : List Str) (sep : Str) : Lib.join (x :: y :: r) sep = x ++ sep ++ Lib.join (y :: r) sep := by
  rw [Lib.join_cons, Lib.join_cons]; simp [Lib.joinTail]
theorem join_split (c : UInt8) : ∀ s, Lib.join (splitOn c s) [c] = s
  | [] => by simp [splitOn, Lib.join_one]
  | x :: r => by
    have ih := join_split c r
    have hne := splitOn_ne c r
    unfold splitOn; split
    · rename_i h; obtain rfl : x = c := by simpa using h
      cases hs : splitOn x r with
      | nil => exact absurd hs hne
      | cons h t => rw [join_cons2, ← hs, ih]; rfl
    · cases hs : splitOn c r with
      | nil => exact absurd hs hne
      | cons h t =>
        rw [hs] at ih
        show Lib.join ((x :: h) :: t) [c] = x :: r
        rw [Lib.join_cons] at ih ⊢; rw [← ih]; rfl
theorem splitOn_word (c : UInt8) : ∀ (x : Str) (s : Str), c ∉ x → splitOn c (x ++ c :: s) = x :: splitOn c s
  | [], s, _ => by simp [splitOn]
  | a :: x, s, h => by
    have ha : (a == c) = false := by simp only [beq_eq_false_iff_ne, ne_eq]; intro e; subst e; simp at h
    have ih := splitOn_word c x s (fun hm => h (List.mem_cons_of_mem _ hm))
    show splitOn c (a :: (x ++ c :: s)) = _
    rw [splitOn, if_neg (by rw [ha]; decide), ih]
theorem splitOn_none (c : UInt8) : ∀ (x : Str), c ∉ x → splitOn c x = [x]
  | [], _ => rfl
  | a :: x, h => by
    have ha : (a == c) = false := by simp only [beq_eq_false_iff_ne, ne_eq]; intro e; subst e; simp at h
    rw [splitOn, if_neg (by rw [ha]; decide), splitOn_none c x (fun hm => h (List.mem_cons_of_mem _ hm))]
theorem splitOn_join (c : UInt8) : ∀ (l : List Str), l ≠ [] → (∀ x ∈ l, c ∉ x) → splitOn c (Lib.join l [c]) = l
  | [], h, _ => absurd rfl h
  | [x], _, h => by rw [Lib.join_one]; exact splitOn_none c x (h x (by simp))
  | x :: y :: r, _, h => by
    have ih := splitOn_join c (y :: r) (by simp) (fun z hz => h z (by simp at hz ⊢; right; exact hz))
    have e : Lib.join (x :: y :: r) [c] = x ++ c :: Lib.join (y :: r) [c] := by rw [join_cons2]; simp
    rw [e, splitOn_word c x _ (h x (by simp)), ih]
/-- What strings.Split gives at a separator of one byte. -/
theorem splitK_one (c : UInt8) : ∀ s : Str, Lib.splitK [c] 0 (Lib.count s [c]) s = splitOn c s
  | [] => by rw [Lib.count_one]; rfl
  | x :: r => by
    have ih := splitK_one c r
    by_cases hx : x = c
    · subst hx
      have hix : Lib.index (x :: r) [x] = ((0 : Nat) : Int) := by rw [Lib.index]; simp [List.isPrefixOf]
      rw [Lib.count_cons_eq, Nat.add_comm, Lib.splitK, hix]
      simp [splitOn, ih]
    · rw [Lib.count_cons_ne x c r hx]
      have hxb : (x == c) = false := by simpa using hx
      rw [splitOn, if_neg (by rw [hxb]; decide), ← ih]
      have hp : ([c] : List UInt8).isPrefixOf (x :: r) = false := by simp [List.isPrefixOf, Ne.symm hx]
      have hix : Lib.index (x :: r) [c] = if Lib.index r [c] == -1 then -1 else Lib.index r [c] + 1 := by rw [Lib.index, hp]; simp
      cases hk : Lib.count r [c] with
      | zero => rfl
      | succ k =>
        have hge := Lib.index_ge r [c]
        have hne : Lib.index r [c] ≠ -1 := fun e => by rw [Lib.count_miss e] at hk; omega
        obtain ⟨j, hj⟩ : ∃ j : Nat, Lib.index r [c] = j := ⟨(Lib.index r [c]).toNat, by omega⟩
        have hj1 : ((j : Int) == -1) = false := by rw [beq_eq_false_iff_ne]; omega
        have hj2 : (((j : Int) + 1) == -1) = false := by rw [beq_eq_false_iff_ne]; omega
        rw [hj, hj1] at hix
        have hix' : Lib.index (x :: r) [c] = (j : Int) + 1 := by simpa using hix
        rw [Lib.splitK, Lib.splitK, hix', hj, hj1, hj2]
        have e1 : ((j : Int) + 1).toNat = j + 1 := by omega
        simp [e1]
theorem splitB_L (c : UInt8) (s : ByteArray) : (Lib.splitB ⟨#[c]⟩ 0 (Lib.countB s ⟨#[c]⟩) s).map L = splitOn c (L s) := by
  have h := Lib.splitB_data ⟨#[c]⟩ 0 (Lib.countB s ⟨#[c]⟩) s
  exact h.trans (splitK_one c (L s))
theorem join_le (sep : Str) (K : Nat) : ∀ (l : List Str), (∀ x ∈ l, x.length ≤ K) → (Lib.join l sep).length ≤ l.length * (K + sep.length)
  | [], _ => by simp [Lib.join_nil]
  | [x], h => by rw [Lib.join_one]; have := h x (by simp); simp; omega
  | x :: y :: r, h => by
    have ih := join_le sep K (y :: r) (fun z hz => h z (List.mem_cons_of_mem _ hz))
    have hx := h x (by simp)
    rw [join_cons2]; simp only [List.length_append, List.length_cons] at ih ⊢
    rw [Nat.add_mul (r.length + 1) 1]; omega
end Go.Proofs.YtakgfbcmkhcdkaaGreatDoor
namespace Go.Proofs.YtakgfbcmkhcdkaaGreatDoor
set_option linter.all false
def zoneT : List Str := [[], [105, 110, 45, 104, 97, 110, 100], [105, 110, 45, 108, 105, 98, 114, 97, 114, 121], [105, 110, 45, 103, 114, 97, 118, 101, 121, 97, 114, 100], [105, 110, 45, 101, 120, 105, 108, 101], [111, 110, 45, 115, 116, 97, 99, 107]]
def whoT : List Str := [[], [121, 111, 117, 114, 115], [116, 104, 101, 105, 114, 115]]
def selfT : List Str := [[], [115, 101, 108, 102], [111, 116, 104, 101, 114]]
def tapT : List Str := [[], [116, 97, 112, 112, 101, 100], [117, 110, 116, 97, 112, 112, 101, 100]]
def signT : List Str := [[], [62, 61], [60, 61], [61]]
def nonW : Str := [110, 111, 110, 45]
def withW : Str := [119, 105, 116, 104, 58]
def subW : Str := [115, 117, 98, 58]
def anyW : Str := [97, 110, 121]
def powerW : Str := [112, 111, 119, 101, 114]
def toughW : Str := [116, 111, 117, 103, 104]
def valueW : Str := [118, 97, 108, 117, 101]
/-- Word number i of a list. -/
def wd (T : List Str) (i : Nat) : Str := T.getD i []
theorem wd_len {T : List Str} {K : Nat} (h : ∀ x ∈ T, x.length ≤ K) (i : Nat) : (wd T i).length ≤ K := by
  unfold wd
  rcases Nat.lt_or_ge i T.length with h' | h'
  · simp only [List.getD, List.getElem?_eq_getElem h', Option.getD_some]; exact h _ (List.getElem_mem h')
  · simp [List.getD, List.getElem?_eq_none h']
/-- The words of a mask behind a prefix, added. -/
def addMask (l : List Str) (p : Str) (T : List Str) (m : Nat) : List Str := ((bitsUpto m 31).map (fun i => p ++ wd T i)).foldl addW l
theorem foldl_addW_len (ss l : List Str) : (ss.foldl addW l).length ≤ l.length + ss.length := by
  induction ss generalizing l with
  | nil => simp
  | cons x r ih => have h1 := ih (addW l x); have h2 := addW_len l x; simp only [List.foldl_cons, List.length_cons]; omega
theorem addMask_len (l : List Str) (p : Str) (T : List Str) (m : Nat) : (addMask l p T m).length ≤ l.length + 31 := by
  have h1 := foldl_addW_len ((bitsUpto m 31).map (fun i => p ++ wd T i)) l
  have h2 := bitsUpto_le m 31
  rw [List.length_map] at h1; unfold addMask; omega
/-- A bound's word; empty for none. -/
def boundW (name : Str) (k n : Nat) : Str := if k = 0 then [] else name ++ wd signT k ++ Lib.itoa n
/-- A valid filter's fields. -/
structure FN where
  zone : Nat
  who : Nat
  self : Nat
  types : Nat
  ntypes : Nat
  colors : Nat
  ncolors : Nat
  sub : Str
  keys : Nat
  tap : Nat
  pk : Nat
  pn : Nat
  tk : Nat
  tn : Nat
  vk : Nat
  vn : Nat
def fltWordsB (b : Bool) (f : FN) : List Str :=
  addW (addW (addW (addW (addMask (bif b then addMask (addMask (addMask (addMask (addW (addW (addW [] (wd zoneT f.zone)) (wd whoT f.who)) (wd selfT f.self)) [] typeT f.types) nonW typeT f.ntypes) [] colorT f.colors) nonW colorT f.ncolors
    else addW (addMask (addMask (addMask (addMask (addW (addW (addW [] (wd zoneT f.zone)) (wd whoT f.who)) (wd selfT f.self)) [] typeT f.types) nonW typeT f.ntypes) [] colorT f.colors) nonW colorT f.ncolors) (subW ++ f.sub)) withW kwT f.keys) (wd tapT f.tap)) (boundW powerW f.pk f.pn)) (boundW toughW f.tk f.tn)) (boundW valueW f.vk f.vn)
def fltWords (f : FN) : List Str := fltWordsB (f.sub == []) f
def fltText (f : FN) : Str := if fltWords f = [] then anyW else Lib.join (fltWords f) [32]
end Go.Proofs.YtakgfbcmkhcdkaaGreatDoor
namespace Go.Proofs.YtakgfbcmkhcdkaaGreatDoor
set_option linter.all false
def clampI (n : Int) : Int := if n < -1000000 then -1000000 else if 1000000 < n then 1000000 else n
theorem dig_nat {k : Nat} (h : k < 10) : (UInt8.ofNat (48 + k)).toNat = 48 + k := by
  rw [UInt8.toNat_ofNat']; omega
theorem decDigits_mem : ∀ (u : Nat), ∀ x ∈ Lib.decDigits u, 48 ≤ x.toNat ∧ x.toNat ≤ 57 := by
  intro u
  induction u using Nat.strongRecOn with
  | _ u ih =>
    intro x hx
    by_cases h : u < 10
    · rw [Lib.decDigits, dif_pos h] at hx
      obtain rfl := List.mem_singleton.1 hx
      rw [dig_nat h]; omega
    · rw [Lib.decDigits, dif_neg h] at hx
      rcases List.mem_append.1 hx with hx | hx
      · exact ih _ (by omega) x hx
      · obtain rfl := List.mem_singleton.1 hx
        rw [dig_nat (Nat.mod_lt _ (by omega))]; omega
theorem decDigits_ne (u : Nat) : Lib.decDigits u ≠ [] := by
  rw [Lib.decDigits]; split <;> simp
/- Numerals. -/
def decVal (l : Str) : Nat := l.foldl (fun a c => a * 10 + (c.toNat - 48)) 0
def isDig (c : UInt8) : Bool := decide (48 ≤ c.toNat) && decide (c.toNat ≤ 57)
/-- The number of the game with a text, as the reference finds it. -/
def rdNum (s : Str) : Option Int :=
  if (if byt s 0 == 45 then s.drop 1 else s) = [] ∨ 7 < (if byt s 0 == 45 then s.drop 1 else s).length ∨ (if byt s 0 == 45 then s.drop 1 else s).all isDig = false then none
  else if clampI (if byt s 0 == 45 then -(decVal (s.drop 1) : Int) else decVal s) = (if byt s 0 == 45 then -(decVal (s.drop 1) : Int) else decVal s) ∧ Lib.itoa (if byt s 0 == 45 then -(decVal (s.drop 1) : Int) else decVal s) = s
    then some (if byt s 0 == 45 then -(decVal (s.drop 1) : Int) else decVal s) else none
theorem decVal_snoc (l : Str) (c : UInt8) : decVal (l ++ [c]) = decVal l * 10 + (c.toNat - 48) := by unfold decVal; rw [List.foldl_append]; rfl
theorem decVal_dec : ∀ (u : Nat), decVal (Lib.decDigits u) = u := by
  intro u
  induction u using Nat.strongRecOn with
  | _ u ih =>
    by_cases h : u < 10
    · rw [Lib.decDigits, dif_pos h]; show 0 * 10 + _ = _; rw [dig_nat h]; omega
    · rw [Lib.decDigits, dif_neg h, decVal_snoc, ih (u / 10) (by omega), dig_nat (Nat.mod_lt _ (by omega))]; omega
theorem dec_len : ∀ (k u : Nat), u < 10 ^ (k + 1) → (Lib.decDigits u).length ≤ k + 1
  | 0, u, h => by rw [Lib.decDigits, dif_pos (by omega)]; simp
  | k + 1, u, h => by
    by_cases h' : u < 10
    · rw [Lib.decDigits, dif_pos h']; simp
    · rw [Lib.decDigits, dif_neg h', List.length_append]
      have := dec_len k (u / 10) (by rw [Nat.pow_succ] at h; omega)
      simp; omega
theorem rdNum_itoa (n : Nat) (h : n ≤ 1000000) : rdNum (Lib.itoa (n : Nat)) = some (n : Int) := by
  rw [Lib.itoa_nonneg]
  have h1 := decDigits_mem n
  have h0 : (byt (Lib.decDigits n) 0 == 45) = false := by
    cases hd : Lib.decDigits n with
    | nil => rfl
    | cons x r =>
      have := h1 x (by rw [hd]; simp)
      show (x.toNat == 45) = false
      rw [beq_eq_false_iff_ne]; omega
  have hl := dec_len 6 n (by omega)
  have hv := decVal_dec n
  have hall : (Lib.decDigits n).all isDig = true := List.all_eq_true.2 fun c hc => by
    have := h1 c hc
    unfold isDig; rw [decide_eq_true this.1, decide_eq_true this.2]; rfl
  unfold rdNum
  rw [h0]
  simp only [Bool.false_eq_true, if_false, hv, hall]
  rw [if_neg (by
    intro hh; rcases hh with hh | hh | hh
    · exact decDigits_ne n hh
    · omega
    · cases hh), if_pos ⟨by unfold clampI; rw [if_neg (by omega), if_neg (by omega)], Lib.itoa_nonneg n⟩]
end Go.Proofs.YtakgfbcmkhcdkaaGreatDoor
