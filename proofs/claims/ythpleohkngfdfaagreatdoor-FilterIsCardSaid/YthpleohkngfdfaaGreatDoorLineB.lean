/- Walks: package line: IsSub, TypesText, ParseTypes. Conditions: Laid. -/
import Derived.Test.YthpleohkngfdfaaGreatDoorLib
import Derived.Test.YthpleohkngfdfaaGreatDoorWords
import Derived.ChangeAgain
import Derived.Lib.AppendIntMem
namespace Go.Proofs.YthpleohkngfdfaaGreatDoor
set_option linter.all false
open Go.ChangeShapes Go.WideShapes Go.RowKit
theorem Laid.below {w w' : World} (h : Laid w) (hb : Below w.heap.size w w') : Laid w' :=
  ⟨h.shaped.keptBut (hb.frame (fun _ => False)) (fun _ h => h.elim), Lib.tabBelow_of_tabIs h.tab w' hb,
   h.syn.imp fun _ ⟨p, hp⟩ => ⟨p, cell_below hb hp⟩, h.rng.imp fun _ ⟨p, hp⟩ => ⟨p, cell_below hb hp⟩,
   h.names.imp fun _ ⟨f, hf⟩ => ⟨f, (hb.block _ (by have := h.size; omega)).trans hf⟩, Nat.le_trans h.size hb.size⟩
theorem beq_cast (n : Nat) : (((n : Nat) : Int) == 0) = (n == 0) := by
  rw [Bool.eq_iff_iff]; simp
def isSub (l : Str) : Bool := isName l && (bitFrom superT 0 l == 0 && bitFrom typeT 0 l == 0)
theorem isSub_any (s : ByteArray) (w : World) (hl : Laid w) :
    Calls Tryz.prog 14 #[.string s] w fun e w' => e = .returned (.bool (isSub (L s))) ∧ Below w.heap.size w w' := by
  have HD : Hid (isSub (L s) = (isName (L s) && (bitFrom superT 0 (L s) == 0 && bitFrom typeT 0 (L s) == 0))) := rfl
  generalize isSub (L s) = R at *
  go_enter Tryz.func14, Tryz.ntmps14
  go_wp2_with (first | (go_at_call 42; (with_reducible refine (wordIs_any _ _ hl.shaped).mono ?_); rintro e w1 ⟨rfl, hb⟩) | (go_at_call 43; (with_reducible refine (bitSuper_any _ _).mono ?_); rintro e w2 ⟨rfl, rfl⟩) | (go_at_call 43; (with_reducible refine (bitType_any _ _).mono ?_); rintro e w2 ⟨rfl, rfl⟩))
  all_goals
    go_ret
    refine ⟨ret_bool ?_, hb⟩
    rw [HD.out]; simp only [← beq_cast]; simp [*]
/-- Types as words joined by +; empty for others. -/
def typesText (m : Nat) : Str := if 1 ≤ m ∧ m ≤ 63 then Lib.join (maskWords typeT m) [43] else []
theorem maskWords_len (T : List Str) (m : Nat) : (maskWords T m).length ≤ 31 := by
  unfold maskWords; rw [List.length_map]; exact bitsUpto_le m 31
theorem maskWords_le {T : List Str} {K m : Nat} (hK : ∀ x ∈ T, x.length ≤ K) : ∀ x ∈ maskWords T m, x.length ≤ K := by
  intro x hx
  unfold maskWords at hx
  rw [List.mem_map] at hx
  obtain ⟨i, _, rfl⟩ := hx
  rcases Nat.lt_or_ge i T.length with h | h
  · simp only [List.getD, List.getElem?_eq_getElem h, Option.getD_some]; exact hK _ (List.getElem_mem h)
  · simp [List.getD, List.getElem?_eq_none h]
theorem wordsType_r (m : Nat) (w : World) (hm : m < 2 ^ 6) :
    Calls Tryz.prog 74 #[.int .i64 m, .func (.func 45) #[] #[]] w (RetTexts w (maskWords typeT m)) :=
  (wordsType_any m w hm).mono fun e w' ⟨v, he, ht, hb⟩ => by
    obtain ⟨A, c, rfl, _⟩ := ht.form
    exact ⟨A, c, he, ht, hb⟩
theorem wordsSuper_r (m : Nat) (w : World) (hm : m < 2 ^ 2) :
    Calls Tryz.prog 74 #[.int .i64 m, .func (.func 44) #[] #[]] w (RetTexts w (maskWords superT m)) :=
  (wordsSuper_any m w hm).mono fun e w' ⟨v, he, ht, hb⟩ => by
    obtain ⟨A, c, rfl, _⟩ := ht.form
    exact ⟨A, c, he, ht, hb⟩
theorem typesText_any (m : Nat) (w : World) :
    Calls Tryz.prog 51 #[.int .i64 m] w fun e w' => e = .returned (.string (B (typesText m))) ∧ Below w.heap.size w w' := by
  by_cases h : 1 ≤ m ∧ m ≤ 63
  · have HD : Hid (typesText m = Lib.join (maskWords typeT m) [43]) := if_pos h
    have hle : (Lib.join (maskWords typeT m) [43]).length ≤ 140737488355328 := by
      have h1 := join_le [43] 8 _ (maskWords_le (m := m) (show ∀ x ∈ typeT, x.length ≤ 8 by decide))
      have h2 := maskWords_len typeT m
      simp only [List.length_cons, List.length_nil] at h1; omega
    have hN : (maskWords typeT m).length ≤ 100000000 := by have := maskWords_len typeT m; omega
    generalize typesText m = R at *
    go_enter Tryz.func51, Tryz.ntmps51
    go_wp2_with (first | (go_at_call 74; (with_reducible refine (wordsType_r _ _ (by omega)).mono ?_); rintro e w1 ⟨A, c, rfl, ht, hb⟩) | (go_at_call 26; (with_reducible refine (join_any _ _ _ _ _ _ ht hN [43] rfl hle).mono ?_); rintro e w2 ⟨rfl, hb2⟩))
    · go_ret
      exact ⟨ret_str (by rw [HD.out]), below_two hb hb2⟩
    all_goals (exfalso; omega)
  · have HD : Hid (typesText m = []) := if_neg h
    generalize typesText m = R at *
    go_enter Tryz.func51, Tryz.ntmps51
    go_wp2
    all_goals first
      | (go_ret; exact ⟨ret_str (by rw [HD.out]; rfl), Below.refl _ _⟩)
      | (exfalso; omega)
def orBits (l : List Str) : Nat := l.foldl (fun m x => m ||| bitFrom typeT 0 x) 0
theorem orBits_snoc (l : List Str) (k : Nat) (h : k < l.length) : orBits (l.take (k + 1)) = orBits (l.take k) ||| bitFrom typeT 0 l[k] := by
  unfold orBits; rw [List.take_succ_eq_append_getElem h, List.foldl_append]; rfl
theorem bitFrom_lt (T : List Str) (s : Str) : ∀ k n, k + T.length ≤ n → bitFrom T k s < 2 ^ n := by
  induction T with
  | nil => intro k n _; simp [bitFrom, Nat.two_pow_pos]
  | cons x r ih =>
    intro k n h
    unfold bitFrom; split
    · exact Nat.pow_lt_pow_right (by omega) (by simp at h; omega)
    · exact ih _ _ (by simp at h; omega)
theorem orBits_lt (l : List Str) : orBits l < 2 ^ 6 := by
  have : ∀ (l : List Str) (a : Nat), a < 2 ^ 6 → l.foldl (fun m x => m ||| bitFrom typeT 0 x) a < 2 ^ 6 := by
    intro l
    induction l with
    | nil => intro a h; exact h
    | cons x r ih => intro a h; exact ih _ (Nat.or_lt_two_pow h (bitFrom_lt typeT x 0 6 (by decide)))
  exact this l 0 (by decide)
/-- The types with a text. -/
def ptOf (s : Str) : Option Nat := if orBits (splitOn 43 s) = 0 then none else if typesText (orBits (splitOn 43 s)) = s then some (orBits (splitOn 43 s)) else none
theorem eq_toList (a : Str) (s : ByteArray) : ((B a).toList == s.toList) = decide (a = L s) := by
  rw [B_toList, L_toList, Bool.eq_iff_iff]; simp
/-- A number and OK, or zero and ErrForm. -/
def optRet (o : Option Nat) : Value := match o with | some m => .tuple #[.int .i64 (m : Nat), .int .i64 0] | none => .tuple #[.int .i64 0, .int .i64 3]
theorem toList_yes {a : Str} {s : ByteArray} (h : a = L s) : (a == s.toList) = true := by rw [L_toList]; simpa using h
theorem toList_no {a : Str} {s : ByteArray} (h : ¬ a = L s) : (a == s.toList) = false := by rw [L_toList]; simpa using h
set_option maxRecDepth 100000 in
theorem parseTypes_any (s : ByteArray) (w : World) (hl : Laid w) (hs : s.size < 4294967281) :
    Calls Tryz.prog 83 #[.string s] w fun e w' => e = .returned (optRet (ptOf (L s))) ∧ Below w.heap.size w w' := by
  have hlen := splitOn_len 43 (L s)
  rw [size_l] at hlen
  have HD : Hid (ptOf (L s) = if orBits (splitOn 43 (L s)) = 0 then none else if typesText (orBits (splitOn 43 (L s))) = L s then some (orBits (splitOn 43 (L s))) else none) := rfl
  generalize ptOf (L s) = R at *
  go_enter Tryz.func83, Tryz.ntmps83
  go_wp2_with (go_at_call 39; (with_reducible refine (split_any _ _ _ hl.shaped hs).mono ?_); rintro e w1 ⟨A, c, rfl, ht, hb1⟩)
  generalize splitOn 43 (L s) = ws at *
  have hsz1 := hb1.size
  go_loop [4, 10] (fun m i => ∃ k : Nat, k ≤ ws.length ∧ i = .int .i64 k ∧ m = .int .i64 (orBits (ws.take k) : Nat)) (fun _ i => ws.length - (intOf i).toNat)
  case atStart => exact ⟨0, by omega, rfl, rfl⟩
  case round =>
    obtain ⟨k, hk, rfl, rfl⟩ := hrel
    by_cases hlt : k < ws.length
    · obtain ⟨g, rfl, hg, hcl⟩ := ht.at_ hlt
      have HX := Lib.hid (orBits_snoc ws k hlt)
      have hor := i64_or_nat (orBits (ws.take k)) (bitFrom typeT 0 ws[k]) (Nat.lt_trans (orBits_lt _) (by decide)) (Nat.lt_trans (bitFrom_lt typeT _ 0 6 (by decide)) (by decide))
      have hLB : Hid (L (B ws[k]) = ws[k]) := rfl
      generalize ws[k] = x at *
      go_wp2_with (go_at_call 43; (with_reducible refine (bitType_any _ _).mono ?_); rintro e w2 ⟨rfl, rfl⟩)
      go_round
      case rel => exact ⟨k + 1, by omega, by go_num, by rw [HX.out]⟩
      case measure => simp [intOf]; omega
    · obtain rfl : k = ws.length := by omega
      have hE : ws.take ws.length = ws := List.take_length
      rw [hE]; clear hE
      by_cases h0 : orBits ws = 0
      · have t0 : ((orBits ws : Nat) : Int) = 0 := by omega
        clear h0
        go_wp2
        go_ret2
        exact ⟨ret_val (by rw [HD.out, if_pos (by omega)]; rfl), hb1⟩
      · have t0 : (((orBits ws : Nat) : Int) == 0) = false := by simp only [beq_eq_false_iff_ne, ne_eq]; omega
        have H0 := Lib.hid h0; clear h0
        by_cases h1 : typesText (orBits ws) = L s
        · have t1 := toList_yes h1
          have H1 := Lib.hid h1; clear h1
          go_wp2_with (go_at_call 51; (with_reducible refine (typesText_any _ _).mono ?_); rintro e w2 ⟨rfl, hb2⟩)
          go_ret2
          exact ⟨ret_val (by rw [HD.out, if_neg H0.out, if_pos H1.out]; rfl), below_two hb1 hb2⟩
        · have t1 := toList_no h1
          have H1 := Lib.hid h1; clear h1
          go_wp2_with (go_at_call 51; (with_reducible refine (typesText_any _ _).mono ?_); rintro e w2 ⟨rfl, hb2⟩)
          go_ret2
          exact ⟨ret_val (by rw [HD.out, if_neg H0.out, if_neg H1.out]; rfl), below_two hb1 hb2⟩
end Go.Proofs.YthpleohkngfdfaaGreatDoor
