/- Plain words: a text cut at a byte, and put together again. No program in sight. Conditions: none. -/
import Derived.Test.YthpleohkngfdfaaGreatDoorPure
import Derived.Lib.SplitLaws
import Derived.Lib.Join
import Derived.Lib.IndexBytes
namespace Go.Proofs.YthpleohkngfdfaaGreatDoor
set_option linter.all false
def splitOn (c : UInt8) : Str → List Str
  | [] => [[]]
  | x :: r => if x == c then [] :: splitOn c r else match splitOn c r with
    | [] => [[x]]
    | h :: t => (x :: h) :: t
theorem splitOn_ne (c : UInt8) : ∀ s, splitOn c s ≠ []
  | [] => by simp [splitOn]
  | x :: r => by
    unfold splitOn; split
    · simp
    · split <;> simp
theorem splitOn_len (c : UInt8) : ∀ s, (splitOn c s).length ≤ s.length + 1
  | [] => by simp [splitOn]
  | x :: r => by
    have := splitOn_len c r
    unfold splitOn; split
    · simp; omega
    · split
      · simp
      · rename_i h; rw [h] at this; simp at this ⊢; omega
theorem join_cons2 (x y : Str) (r : List Str) (sep : Str) : Lib.join (x :: y :: r) sep = x ++ sep ++ Lib.join (y :: r) sep := by
  rw [Lib.join_cons, Lib.join_cons]; simp [Lib.joinTail]
theorem join_split (c : UInt8) : ∀ s, Lib.join (splitOn c s) [c] = s
  | [] => by simp [splitOn, Lib.join_one]
  | x :: r => by
    have ih := join_split c r
    have hne := splitOn_ne c r
    unfold splitOn; split
    · rename_i h; obtain rfl : x = c := by simpa using h
      cases hs : splitOn x r with
      | nil => exact absurd hs hne
      | cons h t => rw [join_cons2, ← hs, ih]; rfl
    · cases hs : splitOn c r with
      | nil => exact absurd hs hne
      | cons h t =>
        rw [hs] at ih
        show Lib.join ((x :: h) :: t) [c] = x :: r
        rw [Lib.join_cons] at ih ⊢; rw [← ih]; rfl
theorem splitOn_word (c : UInt8) : ∀ (x : Str) (s : Str), c ∉ x → splitOn c (x ++ c :: s) = x :: splitOn c s
  | [], s, _ => by simp [splitOn]
  | a :: x, s, h => by
    have ha : (a == c) = false := by simp only [beq_eq_false_iff_ne, ne_eq]; intro e; subst e; simp at h
    have ih := splitOn_word c x s (fun hm => h (List.mem_cons_of_mem _ hm))
    show splitOn c (a :: (x ++ c :: s)) = _
    rw [splitOn, if_neg (by rw [ha]; decide), ih]
theorem splitOn_none (c : UInt8) : ∀ (x : Str), c ∉ x → splitOn c x = [x]
  | [], _ => rfl
  | a :: x, h => by
    have ha : (a == c) = false := by simp only [beq_eq_false_iff_ne, ne_eq]; intro e; subst e; simp at h
    rw [splitOn, if_neg (by rw [ha]; decide), splitOn_none c x (fun hm => h (List.mem_cons_of_mem _ hm))]
theorem splitOn_join (c : UInt8) : ∀ (l : List Str), l ≠ [] → (∀ x ∈ l, c ∉ x) → splitOn c (Lib.join l [c]) = l
  | [], h, _ => absurd rfl h
  | [x], _, h => by rw [Lib.join_one]; exact splitOn_none c x (h x (by simp))
  | x :: y :: r, _, h => by
    have ih := splitOn_join c (y :: r) (by simp) (fun z hz => h z (by simp at hz ⊢; right; exact hz))
    have e : Lib.join (x :: y :: r) [c] = x ++ c :: Lib.join (y :: r) [c] := by rw [join_cons2]; simp
    rw [e, splitOn_word c x _ (h x (by simp)), ih]
/-- What strings.Split gives at a separator of one byte. -/
theorem splitK_one (c : UInt8) : ∀ s : Str, Lib.splitK [c] 0 (Lib.count s [c]) s = splitOn c s
  | [] => by rw [Lib.count_one]; rfl
  | x :: r => by
    have ih := splitK_one c r
    by_cases hx : x = c
    · subst hx
      have hix : Lib.index (x :: r) [x] = ((0 : Nat) : Int) := by rw [Lib.index]; simp [List.isPrefixOf]
      rw [Lib.count_cons_eq, Nat.add_comm, Lib.splitK, hix]
      simp [splitOn, ih]
    · rw [Lib.count_cons_ne x c r hx]
      have hxb : (x == c) = false := by simpa using hx
      rw [splitOn, if_neg (by rw [hxb]; decide), ← ih]
      have hp : ([c] : List UInt8).isPrefixOf (x :: r) = false := by simp [List.isPrefixOf, Ne.symm hx]
      have hix : Lib.index (x :: r) [c] = if Lib.index r [c] == -1 then -1 else Lib.index r [c] + 1 := by rw [Lib.index, hp]; simp
      cases hk : Lib.count r [c] with
      | zero => rfl
      | succ k =>
        have hge := Lib.index_ge r [c]
        have hne : Lib.index r [c] ≠ -1 := fun e => by rw [Lib.count_miss e] at hk; omega
        obtain ⟨j, hj⟩ : ∃ j : Nat, Lib.index r [c] = j := ⟨(Lib.index r [c]).toNat, by omega⟩
        have hj1 : ((j : Int) == -1) = false := by rw [beq_eq_false_iff_ne]; omega
        have hj2 : (((j : Int) + 1) == -1) = false := by rw [beq_eq_false_iff_ne]; omega
        rw [hj, hj1] at hix
        have hix' : Lib.index (x :: r) [c] = (j : Int) + 1 := by simpa using hix
        rw [Lib.splitK, Lib.splitK, hix', hj, hj1, hj2]
        have e1 : ((j : Int) + 1).toNat = j + 1 := by omega
        simp [e1]
theorem splitB_L (c : UInt8) (s : ByteArray) : (Lib.splitB ⟨#[c]⟩ 0 (Lib.countB s ⟨#[c]⟩) s).map L = splitOn c (L s) := by
  have h := Lib.splitB_data ⟨#[c]⟩ 0 (Lib.countB s ⟨#[c]⟩) s
  exact h.trans (splitK_one c (L s))
theorem join_le (sep : Str) (K : Nat) : ∀ (l : List Str), (∀ x ∈ l, x.length ≤ K) → (Lib.join l sep).length ≤ l.length * (K + sep.length)
  | [], _ => by simp [Lib.join_nil]
  | [x], h => by rw [Lib.join_one]; have := h x (by simp); simp; omega
  | x :: y :: r, h => by
    have ih := join_le sep K (y :: r) (fun z hz => h z (List.mem_cons_of_mem _ hz))
    have hx := h x (by simp)
    rw [join_cons2]; simp only [List.length_append, List.length_cons] at ih ⊢
    rw [Nat.add_mul (r.length + 1) 1]; omega
end Go.Proofs.YthpleohkngfdfaaGreatDoor
