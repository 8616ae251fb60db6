/- Walks of the reference: package cardgameref13: words and bounds. Conditions: bounds. -/
import Derived.Test.YthpleohkngfdfaaGreatDoorRFlt
import Derived.Test.YthpleohkngfdfaaGreatDoorQDef
import Derived.Deep.RegionHeld3
namespace Go.Proofs.YthpleohkngfdfaaGreatDoor
set_option linter.all false
open Go.ChangeShapes Go.WideShapes Go.RowKit
theorem fColor_any (i : Nat) (hi : i < 5) (w : World) :
    Calls Tryz.prog 34 #[.int .i64 i] w fun e w' => e = .returned (.string (B (wd colorT i))) ∧ w = w' := by
  rcases i with _ | _ | _ | _ | _ | i
  · go_enter Tryz.func34, Tryz.ntmps34
    go_wp2
    go_ret
    exact ⟨rfl, rfl⟩
  · go_enter Tryz.func34, Tryz.ntmps34
    go_wp2
    go_ret
    exact ⟨rfl, rfl⟩
  · go_enter Tryz.func34, Tryz.ntmps34
    go_wp2
    go_ret
    exact ⟨rfl, rfl⟩
  · go_enter Tryz.func34, Tryz.ntmps34
    go_wp2
    go_ret
    exact ⟨rfl, rfl⟩
  · go_enter Tryz.func34, Tryz.ntmps34
    go_wp2
    go_ret
    exact ⟨rfl, rfl⟩
  · omega
theorem fKeys_any (w : World) : Calls Tryz.prog 58 #[] w (RetTexts w kwT) := by
  go_enter Tryz.func58, Tryz.ntmps58
  go_wp2
  go_ret
  exact ⟨_, _, rfl, texts_lit kwT _ rfl (by decide) w _ rfl, (Below.refl _ _).alloc (Nat.le_refl _) _⟩
theorem wd_at {T : List Str} {i : Nat} (h : i < T.length) : T[i] = wd T i := by simp [wd, List.getD, h]
theorem fKey_any (i : Nat) (hi : i < 17) (w : World) :
    Calls Tryz.prog 35 #[.int .i64 i] w fun e w' => e = .returned (.string (B (wd kwT i))) ∧ Below w.heap.size w w' := by
  have hi2 : i < kwT.length := hi
  have HW := Lib.hid (wd_at hi2)
  go_enter Tryz.func35, Tryz.ntmps35
  go_wp2_with (go_at_call 58; (with_reducible refine (fKeys_any _).mono ?_); rintro e w1 ⟨A, c, rfl, ht, hb⟩; obtain ⟨g, rfl, hg, hcl⟩ := ht.at_ hi2)
  go_ret
  exact ⟨ret_str (by rw [HW.out]), hb⟩
/-- What an append of a word, unless it is empty, hands back. -/
def RetAdd (w : World) (base : Nat) (l : List Str) (e : Ending) (w' : World) : Prop := ∃ A c, e = .returned (.slice A l.length c) ∧ Texts w' base l (.slice A l.length c) ∧ Below base w w'
theorem fAdd_any (l : List Str) (A : Option Addr) (c base : Nat) (s : ByteArray) (sl : Str) (hs : L s = sl) (w : World) (h : Texts w base l (.slice A l.length c)) (hb : base ≤ w.heap.size) (hlen : l.length < 1000000) :
    Calls Tryz.prog 31 #[.slice A l.length c, .string s] w (RetAdd w base (addW l sl)) := by
  subst hs
  by_cases h0 : L s = []
  · have t0 : s.toList = [] := by rw [L_toList]; exact h0
    have HX : Hid (addW l (L s) = l) := Lib.hid (if_pos h0)
    clear h0
    generalize addW l (L s) = R at *
    go_enter Tryz.func31, Tryz.ntmps31
    go_wp2
    go_ret
    have e := HX.out
    subst e
    exact ⟨A, c, rfl, h, Below.refl _ _⟩
  · have t0 : s.toList.isEmpty = false := by rw [L_toList]; simpa using h0
    have t1 : ¬ s.toList = [] := by rw [L_toList]; exact h0
    have HX : Hid (addW l (L s) = l ++ [L s]) := Lib.hid (if_neg h0)
    have hln : l.length < 1000000000 := by omega
    clear h0
    generalize addW l (L s) = R at *
    go_enter Tryz.func31, Tryz.ntmps31
    go_wp2_with (at_builtin; refine wpList_text_push rfl (.tmp 8) (.tmp 10) 37 rfl Tryz.underlying37 info_str rfl rfl h hln hb ?_; intro v' w2 hown2 hb2)
    go_ret
    rw [← HX.out] at hown2
    obtain ⟨A2, c2, rfl, _⟩ := hown2.form
    exact ⟨A2, c2, rfl, hown2, hb2⟩
/-- What a bound's word reads: a sign's cell, the bound's two cells; nothing older has turned. -/
def BWh (w w1 : World) (k n g : Nat) (x : Str) (w' : World) : Prop := w'.cell? ⟨g, k, none⟩ = some (.string (B x)) ∧ w'.cell? ⟨w.heap.size, 0, none⟩ = some (.int .i64 k) ∧ w'.cell? ⟨w.heap.size, 1, none⟩ = some (.int .i64 n) ∧ Below w1.heap.size w1 w'
theorem BWh.out {w w1 w' : World} {k n g : Nat} {x : Str} (h : BWh w w1 k n g x w') : w'.cell? ⟨g, k, none⟩ = some (.string (B x)) ∧ w'.cell? ⟨w.heap.size, 0, none⟩ = some (.int .i64 k) ∧ w'.cell? ⟨w.heap.size, 1, none⟩ = some (.int .i64 n) ∧ Below w1.heap.size w1 w' := h
theorem BWh.below {w w1 w2 w3 : World} {k n g : Nat} {x : Str} (h : BWh w w1 k n g x w2) (hb : Below w2.heap.size w2 w3) : BWh w w1 k n g x w3 := ⟨cell_below hb h.1, cell_below hb h.2.1, cell_below hb h.2.2.1, below_two h.2.2.2 hb⟩
theorem BWh.drew {w w1 w2 : World} {k n g : Nat} {x : Str} (h : BWh w w1 k n g x w2) : BWh w w1 k n g x w2.drew := h.below (Below.refl _ _).drew
theorem fBoundW_any (name : ByteArray) (nl : Str) (hnl : L name = nl) (k n : Nat) (hk : k < 4) (hn : n ≤ 1000000) (hs : name.size ≤ 100) (w : World) :
    Calls Tryz.prog 36 #[.string name, .agg #[.int .i64 k, .int .i64 n]] w fun e w' => e = .returned (.string (B (boundW nl k n))) ∧ Below w.heap.size w w' := by
  subst hnl
  rcases Nat.eq_zero_or_pos k with h0 | h0
  · have HD : Hid (boundW (L name) k n = []) := if_pos h0
    have t0 := eqn k 0 (by omega)
    generalize boundW (L name) k n = R at *
    clear h0
    go_enter Tryz.func36, Tryz.ntmps36
    go_wp2
    go_ret
    exact ⟨ret_str (by rw [HD.out]; rfl), (Below.refl _ _).alloc (Nat.le_refl _) _⟩
  · have t0 := nen k 0 (by omega)
    have hk2 : k < signT.length := hk
    have HD : Hid (boundW (L name) k n = L name ++ signT[k] ++ Lib.itoa n) := Lib.hid (by rw [boundW, if_neg (by omega), wd_at hk2])
    have hwl : (signT[k]).length ≤ 2 := by rw [wd_at hk2]; exact wd_len (by decide) k
    have hil := Lib.itoa_length_le n (by omega) (by omega)
    generalize boundW (L name) k n = R at *
    clear h0
    go_enter Tryz.func36, Tryz.ntmps36
    go_wp2_with (go_at_call 59; (with_reducible refine (fSigns_any _).mono ?_); rintro e w1 ⟨A, c, rfl, ht, hb⟩; obtain ⟨g, rfl, hg, hcl⟩ := ht.at_ hk2; generalize signT[k] = x at *)
    have a1 : ∀ wx : World, (Op.stringOp .add name (B x)).run Tryz.prog wx = .ok (.string (name ++ B x)) wx := fun wx => run_string_add_sum (P := Tryz.prog) (w := wx) _ _ (by rw [B_size]; omega)
    have a2 : ∀ wx : World, (Op.stringOp .add (name ++ B x) (B (Lib.itoa n))).run Tryz.prog wx = .ok (.string (name ++ B x ++ B (Lib.itoa n))) wx := fun wx => run_string_add_sum (P := Tryz.prog) (w := wx) _ _ (by rw [ByteArray.size_append, B_size, B_size]; omega)
    have hB : BWh w w1 k n g x w1 := ⟨hcl, (kept_cells hb 0).trans (by simp), (kept_cells hb 1).trans (by simp), Below.refl _ _⟩
    go_region_held3 (fun w' => w'.cell? ⟨g, k, none⟩ = some (.string (B x)) ∧ w'.cell? ⟨w.heap.size, 0, none⟩ = some (.int .i64 k) ∧ w'.cell? ⟨w.heap.size, 1, none⟩ = some (.int .i64 n) ∧ Below w1.heap.size w1 w') (exact BWh.out (by first | assumption | exact BWh.drew hB)) (first | (go_at_call 60; (with_reducible refine ((rText_any n _ (by omega) (by omega)).mono fun e w' h => ⟨h.1, hB.drew.below h.2⟩ : Calls _ _ _ _ fun e w' => e = .returned (.string (B (Lib.itoa n))) ∧ BWh w w1 k n g x w').mono ?_); rintro e w2 ⟨rfl, hB2⟩))
    go_wp2
    go_ret
    exact ⟨ret_str (L_inj (by simp [L_append, HD.out])), below_two (below_two ((Below.refl _ _).alloc (Nat.le_refl _) _) hb) hB2.2.2.2⟩
theorem fIndex_any (T : List Str) (A : Option Addr) (c base : Nat) (s : ByteArray) (w : World) (h : Texts w base T (.slice A T.length c)) (hT : T.length < 1000000) (h1 : 1 ≤ T.length) :
    Calls Tryz.prog 68 #[.slice A T.length c, .string s] w fun e w' => e = .returned (.int .i64 (qIndex T (L s) : Nat)) ∧ w = w' := by
  obtain ⟨R, hR⟩ : ∃ R, qIndex T (L s) = R := ⟨_, rfl⟩
  rw [hR]
  have HR : Hid (((List.range' 1 (T.length - 1)).find? fun i => wd T i == L s).getD 0 = R) := Lib.hid hR
  clear hR
  go_enter Tryz.func68, Tryz.ntmps68
  go_wp2
  go_loop [5] (fun i => ∃ k : Nat, 1 ≤ k ∧ k ≤ T.length ∧ i = .int .i64 k ∧ Hid (((List.range' k (T.length - k)).find? fun i => wd T i == L s).getD 0 = R)) (fun i => T.length - (intOf i).toNat)
  case atStart => exact ⟨1, by omega, by omega, rfl, HR⟩
  case round =>
    obtain ⟨k, hk1, hk, rfl, HD⟩ := hrel
    by_cases hlt : k < T.length
    · obtain ⟨g, rfl, hg, hcl⟩ := h.at_ hlt
      have hst := HD.out
      rw [show T.length - k = (T.length - (k + 1)) + 1 by omega, List.range'_succ, List.find?_cons, ← wd_at hlt] at hst
      have hbe := beq_toList T[k] s
      rw [B_toList] at hbe
      cases hc : (T[k] == L s)
      · rw [hc] at hst hbe
        have HN : Hid (((List.range' (k + 1) (T.length - (k + 1))).find? fun i => wd T i == L s).getD 0 = R) := Lib.hid hst
        clear hst hc
        generalize T[k] = x at *
        go_wp2
        go_round
        case rel => exact ⟨k + 1, by omega, by omega, by go_num, HN⟩
        case measure => simp [intOf]; omega
      · rw [hc] at hst hbe
        have HN : Hid (k = R) := Lib.hid hst
        clear hst hc
        generalize T[k] = x at *
        go_wp2
        go_ret
        exact ⟨ret_int (by rw [HN.out]), rfl⟩
    · obtain rfl : k = T.length := by omega
      have HE : Hid (0 = R) := Lib.hid (by rw [← HD.out, Nat.sub_self]; rfl)
      go_wp2
      go_ret
      exact ⟨ret_int (by rw [← HE.out]; rfl), rfl⟩
/-- A rest and true, or nothing and false. -/
def aftRet (o : Option Str) : Value := match o with | some r => .tuple #[.string (B r), .bool true] | none => .tuple #[.string ⟨#[]⟩, .bool false]
theorem qAfter_eq (s b : ByteArray) : qAfter (L s) (L b) = if (decide (b.size ≤ s.size) && ((s.extract 0 b.size).toList == b.toList)) = true then some ((L s).drop b.size) else none := by
  unfold qAfter; rw [Lib.hasPrefix_raw, size_l]; rfl
theorem fAfter_any (s b : ByteArray) (w : World) (hs : s.size < 1000000000) (hb : b.size < 1000000000) :
    Calls Tryz.prog 69 #[.string s, .string b] w fun e w' => e = .returned (aftRet (qAfter (L s) (L b))) ∧ w = w' := by
  have hq := qAfter_eq s b
  generalize qAfter (L s) (L b) = R at *
  by_cases h1 : b.size ≤ s.size
  · rw [decide_eq_true h1, Bool.true_and] at hq
    have h1' : ¬ s.size < b.size := by omega
    cases h2 : ((s.extract 0 b.size).toList == b.toList)
    · rw [h2] at hq
      have HQ : Hid (R = none) := Lib.hid hq
      have t2 : (!(s.extract 0 b.size).toList == b.toList) = true := by rw [h2]; rfl
      clear hq
      go_enter Tryz.func69, Tryz.ntmps69
      go_wp2
      go_ret2
      exact ⟨ret_val (by rw [HQ.out]; rfl), rfl⟩
    · rw [h2] at hq
      have HQ : Hid (R = some ((L s).drop b.size)) := Lib.hid hq
      have t2 : (!(s.extract 0 b.size).toList == b.toList) = false := by rw [h2]; rfl
      have HX : Hid (s.extract b.size s.size = B ((L s).drop b.size)) := Lib.hid (L_inj (by rw [L_extract, L_B, List.take_of_length_le (by rw [size_l]; exact Nat.le_refl _)]))
      clear hq
      go_enter Tryz.func69, Tryz.ntmps69
      go_wp2
      go_ret2
      exact ⟨ret_val (by rw [HQ.out, HX.out]; rfl), rfl⟩
  · have HQ : Hid (R = none) := Lib.hid (by rw [hq, decide_eq_false h1]; rfl)
    have h1' : s.size < b.size := by omega
    clear hq
    go_enter Tryz.func69, Tryz.ntmps69
    go_wp2
    go_ret2
    exact ⟨ret_val (by rw [HQ.out]; rfl), rfl⟩
end Go.Proofs.YthpleohkngfdfaaGreatDoor
