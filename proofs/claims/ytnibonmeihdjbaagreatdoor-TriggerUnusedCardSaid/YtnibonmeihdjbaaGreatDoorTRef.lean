/- Walks of the reference: package cardgameref18: word, hasWho, hasFilter, WhoText, Is, Text. Conditions: none. -/
import Derived.Test.YtnibonmeihdjbaaGreatDoorTText
import Derived.Test.YtnibonmeihdjbaaGreatDoorRFIs
import Derived.Test.YtnibonmeihdjbaaGreatDoorRFTextB
import Derived.Test.YtnibonmeihdjbaaGreatDoorRParse
namespace Go.Proofs.YtnibonmeihdjbaaGreatDoor
set_option linter.all false
open Go.ChangeShapes Go.WideShapes Go.RowKit
def verbW (k : Int) : Str := if 1 ≤ k ∧ k ≤ 14 then wd verbT k.toNat else []
theorem verbW_ne {k : Int} (h1 : 1 ≤ k) (h2 : k ≤ 14) : verbW k ≠ [] := by
  have hc : k = 1 ∨ k = 2 ∨ k = 3 ∨ k = 4 ∨ k = 5 ∨ k = 6 ∨ k = 7 ∨ k = 8 ∨ k = 9 ∨ k = 10 ∨ k = 11 ∨ k = 12 ∨ k = 13 ∨ k = 14 := by omega
  rcases hc with rfl | rfl | rfl | rfl | rfl | rfl | rfl | rfl | rfl | rfl | rfl | rfl | rfl | rfl <;> decide
theorem verbW_len (k : Int) : (verbW k).length ≤ 7 := by unfold verbW; split; exact verb_len _; simp
theorem verbW_nat (k : Nat) (h1 : (1 : Int) ≤ k) (h2 : (k : Int) ≤ 14) : verbW k = wd verbT k := by unfold verbW; rw [if_pos ⟨h1, h2⟩]; rfl
theorem rTWord_any (k : Int) (w : World) : Calls Tryz.prog 19 #[.int .i64 k] w fun e w' => e = .returned (.string (B (verbW k))) ∧ w = w' := by
  by_cases h : 1 ≤ k ∧ k ≤ 14
  · have hc : k = 1 ∨ k = 2 ∨ k = 3 ∨ k = 4 ∨ k = 5 ∨ k = 6 ∨ k = 7 ∨ k = 8 ∨ k = 9 ∨ k = 10 ∨ k = 11 ∨ k = 12 ∨ k = 13 ∨ k = 14 := by omega
    clear h
    rcases hc with rfl | rfl | rfl | rfl | rfl | rfl | rfl | rfl | rfl | rfl | rfl | rfl | rfl | rfl
    all_goals
      go_enter Tryz.func19, Tryz.ntmps19
      go_wp2
      go_ret
      exact ⟨rfl, rfl⟩
  · have HR : Hid (verbW k = []) := Lib.hid (if_neg h)
    have hn : ∀ i : Int, 1 ≤ i → i ≤ 14 → (k == i) = false := fun i h1 h2 => by rw [beq_eq_false_iff_ne]; intro e; exact h ⟨by omega, by omega⟩
    have e1 := hn 1 (by omega) (by omega)
    have e2 := hn 2 (by omega) (by omega)
    have e3 := hn 3 (by omega) (by omega)
    have e4 := hn 4 (by omega) (by omega)
    have e5 := hn 5 (by omega) (by omega)
    have e6 := hn 6 (by omega) (by omega)
    have e7 := hn 7 (by omega) (by omega)
    have e8 := hn 8 (by omega) (by omega)
    have e9 := hn 9 (by omega) (by omega)
    have e10 := hn 10 (by omega) (by omega)
    have e11 := hn 11 (by omega) (by omega)
    have e12 := hn 12 (by omega) (by omega)
    have e13 := hn 13 (by omega) (by omega)
    have e14 := hn 14 (by omega) (by omega)
    generalize verbW k = R at *
    clear h hn
    go_enter Tryz.func19, Tryz.ntmps19
    go_wp2
    go_ret
    exact ⟨ret_str (by rw [HR.out]; rfl), rfl⟩
theorem rTWord_is (k : Int) (X : ByteArray) (h : Hid (B (verbW k) = X)) (w : World) : Calls Tryz.prog 19 #[.int .i64 k] w fun e w' => e = .returned (.string X) ∧ w = w' :=
  (rTWord_any k w).mono fun e w' h' => ⟨by rw [h'.1, h.out], h'.2⟩
theorem rTHasWho_any (k : Int) (u : Bool) (h : Hid (usesW k = u)) (w : World) : Calls Tryz.prog 20 #[.int .i64 k] w fun e w' => e = .returned (.bool u) ∧ w = w' := by
  have h0 := h.out
  subst h0
  clear h
  by_cases hk : k = 8 ∨ k = 9 ∨ k = 10 ∨ k = 11 ∨ k = 12 ∨ k = 13
  · rcases hk with rfl | rfl | rfl | rfl | rfl | rfl
    all_goals
      go_enter Tryz.func20, Tryz.ntmps20
      go_wp2
      go_ret
      exact ⟨rfl, rfl⟩
  · have HR : Hid (usesW k = false) := Lib.hid (by unfold usesW; simp; omega)
    have hn : ∀ i : Int, (i = 8 ∨ i = 9 ∨ i = 10 ∨ i = 11 ∨ i = 12 ∨ i = 13) → (k == i) = false := fun i h1 => by rw [beq_eq_false_iff_ne]; intro e; subst e; exact hk h1
    have e8 := hn 8 (by omega); have e9 := hn 9 (by omega); have e10 := hn 10 (by omega); have e11 := hn 11 (by omega); have e12 := hn 12 (by omega); have e13 := hn 13 (by omega)
    generalize usesW k = R at *
    clear hk hn
    go_enter Tryz.func20, Tryz.ntmps20
    go_wp2
    go_ret
    exact ⟨ret_bool HR.out.symm, rfl⟩
theorem usesF_is (k : Int) : usesF k = (decide (1 ≤ k ∧ k ≤ 14) && (!usesW k || k == 9)) := by
  by_cases h : 1 ≤ k ∧ k ≤ 14
  · have hc : k = 1 ∨ k = 2 ∨ k = 3 ∨ k = 4 ∨ k = 5 ∨ k = 6 ∨ k = 7 ∨ k = 8 ∨ k = 9 ∨ k = 10 ∨ k = 11 ∨ k = 12 ∨ k = 13 ∨ k = 14 := by omega
    rcases hc with rfl | rfl | rfl | rfl | rfl | rfl | rfl | rfl | rfl | rfl | rfl | rfl | rfl | rfl <;> decide
  · rw [decide_eq_false h, Bool.false_and]; unfold usesF; simp; omega
theorem rTHasF_any (k : Int) (f : Bool) (h : Hid (usesF k = f)) (w : World) : Calls Tryz.prog 21 #[.int .i64 k] w fun e w' => e = .returned (.bool f) ∧ w = w' := by
  obtain ⟨X, hX⟩ : ∃ X, B (verbW k) = X := ⟨_, rfl⟩
  have HX := Lib.hid hX
  have hu := usesF_is k
  rw [h.out] at hu
  clear h
  by_cases hv : 1 ≤ k ∧ k ≤ 14
  · have tx1 : ¬ X.toList = [] := by rw [← hX, B_toList]; exact verbW_ne hv.1 hv.2
    have tx0 : X.toList.isEmpty = false := by simpa using tx1
    rw [decide_eq_true hv, Bool.true_and] at hu
    clear hX hv
    cases hW : usesW k with
    | false =>
      rw [hW] at hu
      have HW := Lib.hid hW
      have HR : Hid (f = true) := hu
      clear hW hu
      go_enter Tryz.func21, Tryz.ntmps21
      go_wp2_with (first | (go_at_call 19; (with_reducible refine (rTWord_is k X HX _).mono ?_); rintro e w1 ⟨rfl, rfl⟩) | (go_at_call 20; (with_reducible refine (rTHasWho_any k false HW _).mono ?_); rintro e w1 ⟨rfl, rfl⟩))
      go_ret
      exact ⟨ret_bool HR.out.symm, rfl⟩
    | true =>
      rw [hW] at hu
      have HW := Lib.hid hW
      have HR : Hid (f = (k == 9)) := hu
      clear hW hu
      go_enter Tryz.func21, Tryz.ntmps21
      go_wp2_with (first | (go_at_call 19; (with_reducible refine (rTWord_is k X HX _).mono ?_); rintro e w1 ⟨rfl, rfl⟩) | (go_at_call 20; (with_reducible refine (rTHasWho_any k true HW _).mono ?_); rintro e w1 ⟨rfl, rfl⟩))
      all_goals
        go_ret
        exact ⟨ret_bool (by rw [HR.out]; try simp [*]), rfl⟩
  · have HX0 : Hid (B (verbW k) = ⟨#[]⟩) := Lib.hid (by unfold verbW; rw [if_neg hv]; rfl)
    rw [decide_eq_false hv, Bool.false_and] at hu
    have HR : Hid (f = false) := hu
    clear hX hv hu HX
    go_enter Tryz.func21, Tryz.ntmps21
    go_wp2_with (first | (go_at_call 19; (with_reducible refine (rTWord_is k ⟨#[]⟩ HX0 _).mono ?_); rintro e w1 ⟨rfl, rfl⟩))
    go_ret
    exact ⟨ret_bool HR.out.symm, rfl⟩
theorem rTWho_any (who : Int) (w : World) : Calls Tryz.prog 12 #[.int .i64 who] w fun e w' => e = .returned (.string (B (whoText who))) ∧ w = w' := by
  by_cases h0 : who = 0
  · subst h0
    go_enter Tryz.func12, Tryz.ntmps12
    go_wp2
    go_ret
    exact ⟨rfl, rfl⟩
  by_cases h1 : who = 1
  · subst h1
    go_enter Tryz.func12, Tryz.ntmps12
    go_wp2
    go_ret
    exact ⟨rfl, rfl⟩
  by_cases h2 : who = 2
  · subst h2
    go_enter Tryz.func12, Tryz.ntmps12
    go_wp2
    go_ret
    exact ⟨rfl, rfl⟩
  · have HR : Hid (whoText who = []) := Lib.hid (by unfold whoText; rw [if_neg h0, if_neg h1, if_neg h2])
    have t0 : (who == 0) = false := by simpa using h0
    have t1 : (who == 1) = false := by simpa using h1
    have t2 : (who == 2) = false := by simpa using h2
    generalize whoText who = R at *
    clear h0 h1 h2
    go_enter Tryz.func12, Tryz.ntmps12
    go_wp2
    go_ret
    exact ⟨ret_str (by rw [HR.out]; rfl), rfl⟩
theorem rTWho_is (who : Int) (R : ByteArray) (h : Hid (B (whoText who) = R)) (w : World) : Calls Tryz.prog 12 #[.int .i64 who] w fun e w' => e = .returned (.string R) ∧ w = w' :=
  (rTWho_any who w).mono fun e w' h' => ⟨by rw [h'.1, h.out], h'.2⟩
set_option maxRecDepth 100000 in
set_option maxHeartbeats 1000000 in
theorem rTIs_bad (t : Tg) (hk : ¬ (1 ≤ t.k ∧ t.k ≤ 14)) (w : World) :
    Calls Tryz.prog 10 #[.agg t.cells] w fun e w' => e = .returned (.bool false) ∧ Below w.heap.size w w' := by
  have HX : Hid (B (verbW t.k) = ⟨#[]⟩) := Lib.hid (by unfold verbW; rw [if_neg hk]; rfl)
  clear hk
  have r0 := Lib.hid (heap_alloc_new w (.cells t.cells TTg))
  have q0 : (w.alloc (.cells t.cells TTg)).cell? ⟨w.heap.size, 0, none⟩ = some (.int .i64 t.k) := cell_of_row _ _ 0 _ _ (0, 0) r0.out
  have q1 : (w.alloc (.cells t.cells TTg)).cell? ⟨w.heap.size, 1, none⟩ = some (.int .i64 t.who) := cell_of_row _ _ 1 _ _ (0, 0) r0.out
  have q2 : (w.alloc (.cells t.cells TTg)).cell? ⟨w.heap.size, 2, none⟩ = some (.int .i64 t.f.zone) := cell_of_row _ _ 2 _ _ (0, 0) r0.out
  have hb : Hid (Below w.heap.size w (w.alloc (.cells t.cells TTg))) := Lib.hid ((Below.refl _ _).alloc (Nat.le_refl _) _)
  go_enter Tryz.func10, Tryz.ntmps10
  go_wp2_with (first | (go_at_call 19; (with_reducible refine (rTWord_is t.k ⟨#[]⟩ HX _).mono ?_); rintro e w1 ⟨rfl, rfl⟩))
  go_ret
  exact ⟨rfl, hb.out⟩
set_option maxRecDepth 100000 in
set_option maxHeartbeats 1000000 in
theorem rTIs_lo (t : Tg) (h1 : 1 ≤ t.k) (h2 : t.k ≤ 14) (hw : t.who < 0) (w : World) :
    Calls Tryz.prog 10 #[.agg t.cells] w fun e w' => e = .returned (.bool false) ∧ Below w.heap.size w w' := by
  obtain ⟨X, hX⟩ : ∃ X, B (verbW t.k) = X := ⟨_, rfl⟩
  have tx1 : ¬ X.toList = [] := by rw [← hX, B_toList]; exact verbW_ne h1 h2
  have tx0 : X.toList.isEmpty = false := by simpa using tx1
  have HX := Lib.hid hX
  clear hX
  have r0 := Lib.hid (heap_alloc_new w (.cells t.cells TTg))
  have q0 : (w.alloc (.cells t.cells TTg)).cell? ⟨w.heap.size, 0, none⟩ = some (.int .i64 t.k) := cell_of_row _ _ 0 _ _ (0, 0) r0.out
  have q1 : (w.alloc (.cells t.cells TTg)).cell? ⟨w.heap.size, 1, none⟩ = some (.int .i64 t.who) := cell_of_row _ _ 1 _ _ (0, 0) r0.out
  have q2 : (w.alloc (.cells t.cells TTg)).cell? ⟨w.heap.size, 2, none⟩ = some (.int .i64 t.f.zone) := cell_of_row _ _ 2 _ _ (0, 0) r0.out
  have hb : Hid (Below w.heap.size w (w.alloc (.cells t.cells TTg))) := Lib.hid ((Below.refl _ _).alloc (Nat.le_refl _) _)
  go_enter Tryz.func10, Tryz.ntmps10
  go_wp2_with (first | (go_at_call 19; (with_reducible refine (rTWord_is t.k X HX _).mono ?_); rintro e w1 ⟨rfl, rfl⟩))
  go_ret
  exact ⟨rfl, hb.out⟩
set_option maxRecDepth 100000 in
set_option maxHeartbeats 1000000 in
theorem rTIs_hi (t : Tg) (h1 : 1 ≤ t.k) (h2 : t.k ≤ 14) (hw0 : 2 < t.who) (w : World) :
    Calls Tryz.prog 10 #[.agg t.cells] w fun e w' => e = .returned (.bool false) ∧ Below w.heap.size w w' := by
  have hw : ¬ t.who < 0 := by omega
  obtain ⟨X, hX⟩ : ∃ X, B (verbW t.k) = X := ⟨_, rfl⟩
  have tx1 : ¬ X.toList = [] := by rw [← hX, B_toList]; exact verbW_ne h1 h2
  have tx0 : X.toList.isEmpty = false := by simpa using tx1
  have HX := Lib.hid hX
  clear hX
  have r0 := Lib.hid (heap_alloc_new w (.cells t.cells TTg))
  have q0 : (w.alloc (.cells t.cells TTg)).cell? ⟨w.heap.size, 0, none⟩ = some (.int .i64 t.k) := cell_of_row _ _ 0 _ _ (0, 0) r0.out
  have q1 : (w.alloc (.cells t.cells TTg)).cell? ⟨w.heap.size, 1, none⟩ = some (.int .i64 t.who) := cell_of_row _ _ 1 _ _ (0, 0) r0.out
  have q2 : (w.alloc (.cells t.cells TTg)).cell? ⟨w.heap.size, 2, none⟩ = some (.int .i64 t.f.zone) := cell_of_row _ _ 2 _ _ (0, 0) r0.out
  have hb : Hid (Below w.heap.size w (w.alloc (.cells t.cells TTg))) := Lib.hid ((Below.refl _ _).alloc (Nat.le_refl _) _)
  go_enter Tryz.func10, Tryz.ntmps10
  go_wp2_with (first | (go_at_call 19; (with_reducible refine (rTWord_is t.k X HX _).mono ?_); rintro e w1 ⟨rfl, rfl⟩))
  go_ret
  exact ⟨rfl, hb.out⟩
set_option maxRecDepth 100000 in
set_option maxHeartbeats 1000000 in
theorem rTIs_A (t : Tg) (h1 : 1 ≤ t.k) (h2 : t.k ≤ 14) (ha : 0 ≤ t.who) (hb0 : t.who ≤ 2) (HW : Hid (usesW t.k = false)) (hw : t.who ≠ 0) (w : World) :
    Calls Tryz.prog 10 #[.agg t.cells] w fun e w' => e = .returned (.bool false) ∧ Below w.heap.size w w' := by
  have hw1 : ¬ t.who < 0 := by omega
  have hw2 : ¬ 2 < t.who := by omega
  have t0 : (t.who != 0) = true := by simpa using hw
  clear hw
  obtain ⟨X, hX⟩ : ∃ X, B (verbW t.k) = X := ⟨_, rfl⟩
  have tx1 : ¬ X.toList = [] := by rw [← hX, B_toList]; exact verbW_ne h1 h2
  have tx0 : X.toList.isEmpty = false := by simpa using tx1
  have HX := Lib.hid hX
  clear hX
  have r0 := Lib.hid (heap_alloc_new w (.cells t.cells TTg))
  have q0 : (w.alloc (.cells t.cells TTg)).cell? ⟨w.heap.size, 0, none⟩ = some (.int .i64 t.k) := cell_of_row _ _ 0 _ _ (0, 0) r0.out
  have q1 : (w.alloc (.cells t.cells TTg)).cell? ⟨w.heap.size, 1, none⟩ = some (.int .i64 t.who) := cell_of_row _ _ 1 _ _ (0, 0) r0.out
  have q2 : (w.alloc (.cells t.cells TTg)).cell? ⟨w.heap.size, 2, none⟩ = some (.int .i64 t.f.zone) := cell_of_row _ _ 2 _ _ (0, 0) r0.out
  have hb : Hid (Below w.heap.size w (w.alloc (.cells t.cells TTg))) := Lib.hid ((Below.refl _ _).alloc (Nat.le_refl _) _)
  go_enter Tryz.func10, Tryz.ntmps10
  go_wp2_with (first | (go_at_call 19; (with_reducible refine (rTWord_is t.k X HX _).mono ?_); rintro e w1 ⟨rfl, rfl⟩) | (go_at_call 20; (with_reducible refine (rTHasWho_any t.k false HW _).mono ?_); rintro e w1 ⟨rfl, rfl⟩))
  go_ret
  exact ⟨rfl, hb.out⟩
set_option maxRecDepth 100000 in
set_option maxHeartbeats 1000000 in
theorem rTIs_B_false (t : Tg) (h1 : 1 ≤ t.k) (h2 : t.k ≤ 14) (h9 : t.k ≠ 9) (HW : Hid (usesW t.k = false)) (HF : Hid (usesF t.k = true)) (hw0 : t.who = 0) (HV : Hid (fltIs t.f = false)) (w : World) :
    Calls Tryz.prog 10 #[.agg t.cells] w fun e w' => e = .returned (.bool false) ∧ Below w.heap.size w w' := by
  have t9 : (t.k == 9) = false := by simpa using h9
  have hw1 : ¬ t.who < 0 := by omega
  have hw2 : ¬ 2 < t.who := by omega
  have t0 : (t.who != 0) = false := by rw [hw0]; rfl
  clear hw0
  obtain ⟨X, hX⟩ : ∃ X, B (verbW t.k) = X := ⟨_, rfl⟩
  have tx1 : ¬ X.toList = [] := by rw [← hX, B_toList]; exact verbW_ne h1 h2
  have tx0 : X.toList.isEmpty = false := by simpa using tx1
  have HX := Lib.hid hX
  clear hX
  have r0 := Lib.hid (heap_alloc_new w (.cells t.cells TTg))
  have q0 : (w.alloc (.cells t.cells TTg)).cell? ⟨w.heap.size, 0, none⟩ = some (.int .i64 t.k) := cell_of_row _ _ 0 _ _ (0, 0) r0.out
  have q1 : (w.alloc (.cells t.cells TTg)).cell? ⟨w.heap.size, 1, none⟩ = some (.int .i64 t.who) := cell_of_row _ _ 1 _ _ (0, 0) r0.out
  have q2 : (w.alloc (.cells t.cells TTg)).cell? ⟨w.heap.size, 2, none⟩ = some (.int .i64 t.f.zone) := cell_of_row _ _ 2 _ _ (0, 0) r0.out
  have hb : Hid (Below w.heap.size w (w.alloc (.cells t.cells TTg))) := Lib.hid ((Below.refl _ _).alloc (Nat.le_refl _) _)
  go_enter Tryz.func10, Tryz.ntmps10
  go_wp2_with (first | refine wpList_load_part rfl TF _ rfl w.heap.size 2 rfl TTg t.cells t.f.cells (0, 0) _ r0.out (tg_part t) Tryz.underlying25 rfl infoTF ?_ | (go_at_call 19; (with_reducible refine (rTWord_is t.k X HX _).mono ?_); rintro e w1 ⟨rfl, rfl⟩) | (go_at_call 20; (with_reducible refine (rTHasWho_any t.k false HW _).mono ?_); rintro e w1 ⟨rfl, rfl⟩) | (go_at_call 21; (with_reducible refine (rTHasF_any t.k true HF _).mono ?_); rintro e w1 ⟨rfl, rfl⟩) | (go_at_call 22; (with_reducible refine (rIs_v t.f false HV _).mono ?_); rintro e w2 ⟨rfl, hb2⟩; have q2 : w2.cell? ⟨w.heap.size, 2, none⟩ = some (.int .i64 t.f.zone) := cell_of_row _ _ 2 _ _ (0, 0) (blk_below2 hb2 r0.out)))
  go_ret
  exact ⟨rfl, below_two hb.out hb2⟩
set_option maxRecDepth 100000 in
set_option maxHeartbeats 1000000 in
theorem rTIs_B_true (t : Tg) (h1 : 1 ≤ t.k) (h2 : t.k ≤ 14) (h9 : t.k ≠ 9) (HW : Hid (usesW t.k = false)) (HF : Hid (usesF t.k = true)) (hw0 : t.who = 0) (HV : Hid (fltIs t.f = true)) (w : World) :
    Calls Tryz.prog 10 #[.agg t.cells] w fun e w' => e = .returned (.bool (t.f.zone == 0)) ∧ Below w.heap.size w w' := by
  have t9 : (t.k == 9) = false := by simpa using h9
  have hw1 : ¬ t.who < 0 := by omega
  have hw2 : ¬ 2 < t.who := by omega
  have t0 : (t.who != 0) = false := by rw [hw0]; rfl
  clear hw0
  obtain ⟨X, hX⟩ : ∃ X, B (verbW t.k) = X := ⟨_, rfl⟩
  have tx1 : ¬ X.toList = [] := by rw [← hX, B_toList]; exact verbW_ne h1 h2
  have tx0 : X.toList.isEmpty = false := by simpa using tx1
  have HX := Lib.hid hX
  clear hX
  have r0 := Lib.hid (heap_alloc_new w (.cells t.cells TTg))
  have q0 : (w.alloc (.cells t.cells TTg)).cell? ⟨w.heap.size, 0, none⟩ = some (.int .i64 t.k) := cell_of_row _ _ 0 _ _ (0, 0) r0.out
  have q1 : (w.alloc (.cells t.cells TTg)).cell? ⟨w.heap.size, 1, none⟩ = some (.int .i64 t.who) := cell_of_row _ _ 1 _ _ (0, 0) r0.out
  have q2 : (w.alloc (.cells t.cells TTg)).cell? ⟨w.heap.size, 2, none⟩ = some (.int .i64 t.f.zone) := cell_of_row _ _ 2 _ _ (0, 0) r0.out
  have hb : Hid (Below w.heap.size w (w.alloc (.cells t.cells TTg))) := Lib.hid ((Below.refl _ _).alloc (Nat.le_refl _) _)
  go_enter Tryz.func10, Tryz.ntmps10
  go_wp2_with (first | refine wpList_load_part rfl TF _ rfl w.heap.size 2 rfl TTg t.cells t.f.cells (0, 0) _ r0.out (tg_part t) Tryz.underlying25 rfl infoTF ?_ | (go_at_call 19; (with_reducible refine (rTWord_is t.k X HX _).mono ?_); rintro e w1 ⟨rfl, rfl⟩) | (go_at_call 20; (with_reducible refine (rTHasWho_any t.k false HW _).mono ?_); rintro e w1 ⟨rfl, rfl⟩) | (go_at_call 21; (with_reducible refine (rTHasF_any t.k true HF _).mono ?_); rintro e w1 ⟨rfl, rfl⟩) | (go_at_call 22; (with_reducible refine (rIs_v t.f true HV _).mono ?_); rintro e w2 ⟨rfl, hb2⟩; have q2 : w2.cell? ⟨w.heap.size, 2, none⟩ = some (.int .i64 t.f.zone) := cell_of_row _ _ 2 _ _ (0, 0) (blk_below2 hb2 r0.out)))
  go_ret
  exact ⟨ret_bool (by simp), below_two hb.out hb2⟩
set_option maxRecDepth 100000 in
set_option maxHeartbeats 1000000 in
theorem rTIs_D (t : Tg) (h1 : 1 ≤ t.k) (h2 : t.k ≤ 14) (ha : 0 ≤ t.who) (hb0 : t.who ≤ 2) (HW : Hid (usesW t.k = true)) (HF : Hid (usesF t.k = false)) (w : World) :
    Calls Tryz.prog 10 #[.agg t.cells] w fun e w' => e = .returned (.bool (fltEq t.f zeroF)) ∧ Below w.heap.size w w' := by
  have hw1 : ¬ t.who < 0 := by omega
  have hw2 : ¬ 2 < t.who := by omega
  obtain ⟨z, hz⟩ : ∃ z, fltEq t.f zeroF = z := ⟨_, rfl⟩
  rw [hz]
  have heq := fun wx : World => eqz_flt t.f z hz wx
  clear hz
  obtain ⟨X, hX⟩ : ∃ X, B (verbW t.k) = X := ⟨_, rfl⟩
  have tx1 : ¬ X.toList = [] := by rw [← hX, B_toList]; exact verbW_ne h1 h2
  have tx0 : X.toList.isEmpty = false := by simpa using tx1
  have HX := Lib.hid hX
  clear hX
  have r0 := Lib.hid (heap_alloc_new w (.cells t.cells TTg))
  have q0 : (w.alloc (.cells t.cells TTg)).cell? ⟨w.heap.size, 0, none⟩ = some (.int .i64 t.k) := cell_of_row _ _ 0 _ _ (0, 0) r0.out
  have q1 : (w.alloc (.cells t.cells TTg)).cell? ⟨w.heap.size, 1, none⟩ = some (.int .i64 t.who) := cell_of_row _ _ 1 _ _ (0, 0) r0.out
  have q2 : (w.alloc (.cells t.cells TTg)).cell? ⟨w.heap.size, 2, none⟩ = some (.int .i64 t.f.zone) := cell_of_row _ _ 2 _ _ (0, 0) r0.out
  have hb : Hid (Below w.heap.size w (w.alloc (.cells t.cells TTg))) := Lib.hid ((Below.refl _ _).alloc (Nat.le_refl _) _)
  go_enter Tryz.func10, Tryz.ntmps10
  go_wp2_with (first | refine wpList_load_part rfl TF _ rfl w.heap.size 2 rfl TTg t.cells t.f.cells (0, 0) _ r0.out (tg_part t) Tryz.underlying25 rfl infoTF ?_ | (go_at_call 19; (with_reducible refine (rTWord_is t.k X HX _).mono ?_); rintro e w1 ⟨rfl, rfl⟩) | (go_at_call 20; (with_reducible refine (rTHasWho_any t.k true HW _).mono ?_); rintro e w1 ⟨rfl, rfl⟩) | (go_at_call 21; (with_reducible refine (rTHasF_any t.k false HF _).mono ?_); rintro e w1 ⟨rfl, rfl⟩))
  go_ret
  exact ⟨rfl, hb.out⟩
set_option maxRecDepth 100000 in
set_option maxHeartbeats 1000000 in
theorem rTIs_E_false (t : Tg) (h9 : t.k = 9) (ha : 0 ≤ t.who) (hb0 : t.who ≤ 2) (HV : Hid (fltIs t.f = false)) (w : World) :
    Calls Tryz.prog 10 #[.agg t.cells] w fun e w' => e = .returned (.bool false) ∧ Below w.heap.size w w' := by
  have h1 : 1 ≤ t.k := by omega
  have h2 : t.k ≤ 14 := by omega
  have t9 : (t.k == 9) = true := by simpa using h9
  have HW : Hid (usesW t.k = true) := Lib.hid (by rw [h9]; rfl)
  have HF : Hid (usesF t.k = true) := Lib.hid (by rw [h9]; rfl)
  clear h9
  have hw1 : ¬ t.who < 0 := by omega
  have hw2 : ¬ 2 < t.who := by omega
  obtain ⟨X, hX⟩ : ∃ X, B (verbW t.k) = X := ⟨_, rfl⟩
  have tx1 : ¬ X.toList = [] := by rw [← hX, B_toList]; exact verbW_ne h1 h2
  have tx0 : X.toList.isEmpty = false := by simpa using tx1
  have HX := Lib.hid hX
  clear hX
  have r0 := Lib.hid (heap_alloc_new w (.cells t.cells TTg))
  have q0 : (w.alloc (.cells t.cells TTg)).cell? ⟨w.heap.size, 0, none⟩ = some (.int .i64 t.k) := cell_of_row _ _ 0 _ _ (0, 0) r0.out
  have q1 : (w.alloc (.cells t.cells TTg)).cell? ⟨w.heap.size, 1, none⟩ = some (.int .i64 t.who) := cell_of_row _ _ 1 _ _ (0, 0) r0.out
  have q2 : (w.alloc (.cells t.cells TTg)).cell? ⟨w.heap.size, 2, none⟩ = some (.int .i64 t.f.zone) := cell_of_row _ _ 2 _ _ (0, 0) r0.out
  have hb : Hid (Below w.heap.size w (w.alloc (.cells t.cells TTg))) := Lib.hid ((Below.refl _ _).alloc (Nat.le_refl _) _)
  go_enter Tryz.func10, Tryz.ntmps10
  go_wp2_with (first | refine wpList_load_part rfl TF _ rfl w.heap.size 2 rfl TTg t.cells t.f.cells (0, 0) _ r0.out (tg_part t) Tryz.underlying25 rfl infoTF ?_ | (go_at_call 19; (with_reducible refine (rTWord_is t.k X HX _).mono ?_); rintro e w1 ⟨rfl, rfl⟩) | (go_at_call 20; (with_reducible refine (rTHasWho_any t.k true HW _).mono ?_); rintro e w1 ⟨rfl, rfl⟩) | (go_at_call 21; (with_reducible refine (rTHasF_any t.k true HF _).mono ?_); rintro e w1 ⟨rfl, rfl⟩) | (go_at_call 22; (with_reducible refine (rIs_v t.f false HV _).mono ?_); rintro e w2 ⟨rfl, hb2⟩; have q2 : w2.cell? ⟨w.heap.size, 2, none⟩ = some (.int .i64 t.f.zone) := cell_of_row _ _ 2 _ _ (0, 0) (blk_below2 hb2 r0.out)))
  go_ret
  exact ⟨rfl, below_two hb.out hb2⟩
set_option maxRecDepth 100000 in
set_option maxHeartbeats 1000000 in
theorem rTIs_E_true (t : Tg) (h9 : t.k = 9) (ha : 0 ≤ t.who) (hb0 : t.who ≤ 2) (HV : Hid (fltIs t.f = true)) (w : World) :
    Calls Tryz.prog 10 #[.agg t.cells] w fun e w' => e = .returned (.bool (t.f.zone == 5)) ∧ Below w.heap.size w w' := by
  have h1 : 1 ≤ t.k := by omega
  have h2 : t.k ≤ 14 := by omega
  have t9 : (t.k == 9) = true := by simpa using h9
  have HW : Hid (usesW t.k = true) := Lib.hid (by rw [h9]; rfl)
  have HF : Hid (usesF t.k = true) := Lib.hid (by rw [h9]; rfl)
  clear h9
  have hw1 : ¬ t.who < 0 := by omega
  have hw2 : ¬ 2 < t.who := by omega
  obtain ⟨X, hX⟩ : ∃ X, B (verbW t.k) = X := ⟨_, rfl⟩
  have tx1 : ¬ X.toList = [] := by rw [← hX, B_toList]; exact verbW_ne h1 h2
  have tx0 : X.toList.isEmpty = false := by simpa using tx1
  have HX := Lib.hid hX
  clear hX
  have r0 := Lib.hid (heap_alloc_new w (.cells t.cells TTg))
  have q0 : (w.alloc (.cells t.cells TTg)).cell? ⟨w.heap.size, 0, none⟩ = some (.int .i64 t.k) := cell_of_row _ _ 0 _ _ (0, 0) r0.out
  have q1 : (w.alloc (.cells t.cells TTg)).cell? ⟨w.heap.size, 1, none⟩ = some (.int .i64 t.who) := cell_of_row _ _ 1 _ _ (0, 0) r0.out
  have q2 : (w.alloc (.cells t.cells TTg)).cell? ⟨w.heap.size, 2, none⟩ = some (.int .i64 t.f.zone) := cell_of_row _ _ 2 _ _ (0, 0) r0.out
  have hb : Hid (Below w.heap.size w (w.alloc (.cells t.cells TTg))) := Lib.hid ((Below.refl _ _).alloc (Nat.le_refl _) _)
  go_enter Tryz.func10, Tryz.ntmps10
  go_wp2_with (first | refine wpList_load_part rfl TF _ rfl w.heap.size 2 rfl TTg t.cells t.f.cells (0, 0) _ r0.out (tg_part t) Tryz.underlying25 rfl infoTF ?_ | (go_at_call 19; (with_reducible refine (rTWord_is t.k X HX _).mono ?_); rintro e w1 ⟨rfl, rfl⟩) | (go_at_call 20; (with_reducible refine (rTHasWho_any t.k true HW _).mono ?_); rintro e w1 ⟨rfl, rfl⟩) | (go_at_call 21; (with_reducible refine (rTHasF_any t.k true HF _).mono ?_); rintro e w1 ⟨rfl, rfl⟩) | (go_at_call 22; (with_reducible refine (rIs_v t.f true HV _).mono ?_); rintro e w2 ⟨rfl, hb2⟩; have q2 : w2.cell? ⟨w.heap.size, 2, none⟩ = some (.int .i64 t.f.zone) := cell_of_row _ _ 2 _ _ (0, 0) (blk_below2 hb2 r0.out)))
  go_ret
  exact ⟨ret_bool (by simp), below_two hb.out hb2⟩
theorem rTIs_v (t : Tg) (R : Bool) (HR : Hid (tgIs t = R)) (w : World) :
    Calls Tryz.prog 10 #[.agg t.cells] w fun e w' => e = .returned (.bool R) ∧ Below w.heap.size w w' := by
  have h := HR.out
  subst h
  by_cases hk : 1 ≤ t.k ∧ t.k ≤ 14
  · obtain ⟨h1, h2⟩ := hk
    by_cases hlo : t.who < 0
    · rw [show tgIs t = false by unfold tgIs; rw [show (t.who == 0 || (t.who == 1 || t.who == 2)) = false by simp; omega]; simp]
      exact rTIs_lo t h1 h2 hlo w
    by_cases hhi : 2 < t.who
    · rw [show tgIs t = false by unfold tgIs; rw [show (t.who == 0 || (t.who == 1 || t.who == 2)) = false by simp; omega]; simp]
      exact rTIs_hi t h1 h2 hhi w
    have ha : 0 ≤ t.who := by omega
    have hb : t.who ≤ 2 := by omega
    have hwb : (t.who == 0 || (t.who == 1 || t.who == 2)) = true := by simp; omega
    by_cases h9 : t.k = 9
    · have e : tgIs t = (fltIs t.f && t.f.zone == 5) := by
        unfold tgIs; rw [hwb, if_pos (show usesF t.k = true by rw [h9]; rfl), if_pos h9]; simp [h1, h2, h9, usesW]
      rw [e]
      cases hv : fltIs t.f with
      | false => exact rTIs_E_false t h9 ha hb (Lib.hid hv) w
      | true => exact rTIs_E_true t h9 ha hb (Lib.hid hv) w
    · cases hF : usesF t.k with
      | true =>
        have hW : usesW t.k = false := by unfold usesF at hF; unfold usesW; simp at hF; simp; omega
        by_cases h0 : t.who = 0
        · have e : tgIs t = (fltIs t.f && t.f.zone == 0) := by
            unfold tgIs; rw [hwb, if_pos hF, if_neg h9, hW, h0]; simp [h1, h2]
          rw [e]
          cases hv : fltIs t.f with
          | false => exact rTIs_B_false t h1 h2 h9 (Lib.hid hW) (Lib.hid hF) h0 (Lib.hid hv) w
          | true => exact rTIs_B_true t h1 h2 h9 (Lib.hid hW) (Lib.hid hF) h0 (Lib.hid hv) w
        · rw [show tgIs t = false by unfold tgIs; rw [hW, show (t.who == 0) = false by simpa using h0]; simp]
          exact rTIs_A t h1 h2 ha hb (Lib.hid hW) h0 w
      | false =>
        have hW : usesW t.k = true := by unfold usesF at hF; unfold usesW; simp at hF; simp; omega
        have e : tgIs t = fltEq t.f zeroF := by
          unfold tgIs; rw [hwb, hF, if_neg (by simp), hW]; simp [h1, h2]
        rw [e]
        exact rTIs_D t h1 h2 ha hb (Lib.hid hW) (Lib.hid hF) w
  · rw [show tgIs t = false by
      unfold tgIs
      rw [show (decide (1 ≤ t.k) && decide (t.k ≤ 14)) = false by
        rw [Bool.and_eq_false_iff, decide_eq_false_iff_not, decide_eq_false_iff_not]; omega]
      rfl]
    exact rTIs_bad t hk w
theorem B_assoc (a b c : ByteArray) : a ++ (b ++ c) = a ++ b ++ c := L_inj (by simp [L_append])
set_option maxRecDepth 100000 in
set_option maxHeartbeats 1000000 in
theorem rTText_F (k : Nat) (who : Int) (f : Flt) (h1 : (1 : Int) ≤ k) (h2 : (k : Int) ≤ 14) (HUW : Hid (usesW k = false)) (HUF : Hid (usesF k = true)) (HV : Hid (tgIs ⟨(k : Int), who, f⟩ = true)) (w : World) :
    Calls Tryz.prog 14 #[.agg (Tg.cells ⟨(k : Int), who, f⟩)] w fun e w' => e = .returned (.string (B (tgText ⟨(k : Int), who, f⟩))) ∧ Below w.heap.size w w' := by
  have HR := Lib.hid (tgText_F HV.out HUW.out HUF.out)
  have hil := textOf_len (f := f)
  obtain ⟨X, hX⟩ : ∃ X, B (verbW k) = X := ⟨_, rfl⟩
  obtain ⟨W, hW⟩ : ∃ W, B (whoText who) = W := ⟨_, rfl⟩
  have hxs : X.size ≤ 7 := by rw [← hX, B_size]; exact verbW_len _
  have hws : W.size ≤ 9 := by rw [← hW, B_size]; exact whoText_len who
  rw [← verbW_nat k h1 h2, hX] at HR
  try rw [hW] at HR
  have HX := Lib.hid hX
  have HW := Lib.hid hW
  clear hX hW
  have r0 := Lib.hid (heap_alloc_new w (.cells (Tg.cells ⟨(k : Int), who, f⟩) TTg))
  have k0 : Hid (Below w.heap.size w (w.alloc (.cells (Tg.cells ⟨(k : Int), who, f⟩) TTg))) := Lib.hid ((Below.refl _ _).alloc (Nat.le_refl _) _)
  go_enter Tryz.func14, Tryz.ntmps14
  go_wp2_with (first | refine wpList_load_row rfl TTg _ rfl w.heap.size rfl TTg (Tg.cells ⟨(k : Int), who, f⟩) (0, 0) _ r0.out Tryz.underlying27 rfl infoTTg ?_ | refine wpList_load_part rfl TF _ rfl w.heap.size 2 rfl TTg (Tg.cells ⟨(k : Int), who, f⟩) f.cells (0, 0) _ r1.out (tg_part ⟨(k : Int), who, f⟩) Tryz.underlying25 rfl infoTF ?_ | (go_at_call 10; (with_reducible refine (rTIs_v ⟨(k : Int), who, f⟩ true HV _).mono ?_); rintro e w1 ⟨rfl, hb1⟩; have r1 := Lib.hid (blk_below2 hb1 r0.out); have k1 := Lib.hid (below_two k0.out hb1); have q0 : w1.cell? ⟨w.heap.size, 0, none⟩ = some (.int .i64 (k : Int)) := cell_of_row _ _ 0 _ _ (0, 0) r1.out; have q1 : w1.cell? ⟨w.heap.size, 1, none⟩ = some (.int .i64 who) := cell_of_row _ _ 1 _ _ (0, 0) r1.out) | (go_at_call 19; (with_reducible refine (rTWord_is (k : Int) X HX _).mono ?_); rintro e w2 ⟨rfl, rfl⟩) | (go_at_call 20; (with_reducible refine (rTHasWho_any (k : Int) false HUW _).mono ?_); rintro e w2 ⟨rfl, rfl⟩) | (go_at_call 21; (with_reducible refine (rTHasF_any (k : Int) true HUF _).mono ?_); rintro e w2 ⟨rfl, rfl⟩) | (go_at_call 24; (with_reducible refine (rFltText_any f _).mono ?_); rintro e w3 ⟨rfl, hb3⟩))
  go_ret
  exact ⟨ret_str (by rw [← HR.out]; simp only [B_assoc]), below_two k1.out hb3⟩
set_option maxRecDepth 100000 in
set_option maxHeartbeats 1000000 in
theorem rTText_W (k : Nat) (who : Int) (f : Flt) (h1 : (1 : Int) ≤ k) (h2 : (k : Int) ≤ 14) (HUW : Hid (usesW k = true)) (HUF : Hid (usesF k = false)) (HV : Hid (tgIs ⟨(k : Int), who, f⟩ = true)) (w : World) :
    Calls Tryz.prog 14 #[.agg (Tg.cells ⟨(k : Int), who, f⟩)] w fun e w' => e = .returned (.string (B (tgText ⟨(k : Int), who, f⟩))) ∧ Below w.heap.size w w' := by
  have HR := Lib.hid (tgText_W HV.out HUW.out HUF.out)
  have hil := textOf_len (f := f)
  obtain ⟨X, hX⟩ : ∃ X, B (verbW k) = X := ⟨_, rfl⟩
  obtain ⟨W, hW⟩ : ∃ W, B (whoText who) = W := ⟨_, rfl⟩
  have hxs : X.size ≤ 7 := by rw [← hX, B_size]; exact verbW_len _
  have hws : W.size ≤ 9 := by rw [← hW, B_size]; exact whoText_len who
  rw [← verbW_nat k h1 h2, hX] at HR
  try rw [hW] at HR
  have HX := Lib.hid hX
  have HW := Lib.hid hW
  clear hX hW
  have r0 := Lib.hid (heap_alloc_new w (.cells (Tg.cells ⟨(k : Int), who, f⟩) TTg))
  have k0 : Hid (Below w.heap.size w (w.alloc (.cells (Tg.cells ⟨(k : Int), who, f⟩) TTg))) := Lib.hid ((Below.refl _ _).alloc (Nat.le_refl _) _)
  go_enter Tryz.func14, Tryz.ntmps14
  go_wp2_with (first | refine wpList_load_row rfl TTg _ rfl w.heap.size rfl TTg (Tg.cells ⟨(k : Int), who, f⟩) (0, 0) _ r0.out Tryz.underlying27 rfl infoTTg ?_ | (go_at_call 10; (with_reducible refine (rTIs_v ⟨(k : Int), who, f⟩ true HV _).mono ?_); rintro e w1 ⟨rfl, hb1⟩; have r1 := Lib.hid (blk_below2 hb1 r0.out); have k1 := Lib.hid (below_two k0.out hb1); have q0 : w1.cell? ⟨w.heap.size, 0, none⟩ = some (.int .i64 (k : Int)) := cell_of_row _ _ 0 _ _ (0, 0) r1.out; have q1 : w1.cell? ⟨w.heap.size, 1, none⟩ = some (.int .i64 who) := cell_of_row _ _ 1 _ _ (0, 0) r1.out) | (go_at_call 19; (with_reducible refine (rTWord_is (k : Int) X HX _).mono ?_); rintro e w2 ⟨rfl, rfl⟩) | (go_at_call 20; (with_reducible refine (rTHasWho_any (k : Int) true HUW _).mono ?_); rintro e w2 ⟨rfl, rfl⟩) | (go_at_call 21; (with_reducible refine (rTHasF_any (k : Int) false HUF _).mono ?_); rintro e w2 ⟨rfl, rfl⟩) | (go_at_call 12; (with_reducible refine (rTWho_is who W HW _).mono ?_); rintro e w2 ⟨rfl, rfl⟩))
  go_ret
  exact ⟨ret_str (by rw [← HR.out]; simp only [B_assoc]), k1.out⟩
set_option maxRecDepth 100000 in
set_option maxHeartbeats 1000000 in
theorem rTText_WF (k : Nat) (who : Int) (f : Flt) (h1 : (1 : Int) ≤ k) (h2 : (k : Int) ≤ 14) (HUW : Hid (usesW k = true)) (HUF : Hid (usesF k = true)) (HV : Hid (tgIs ⟨(k : Int), who, f⟩ = true)) (w : World) :
    Calls Tryz.prog 14 #[.agg (Tg.cells ⟨(k : Int), who, f⟩)] w fun e w' => e = .returned (.string (B (tgText ⟨(k : Int), who, f⟩))) ∧ Below w.heap.size w w' := by
  have HR := Lib.hid (tgText_WF HV.out HUW.out HUF.out)
  have hil := textOf_len (f := f)
  obtain ⟨X, hX⟩ : ∃ X, B (verbW k) = X := ⟨_, rfl⟩
  obtain ⟨W, hW⟩ : ∃ W, B (whoText who) = W := ⟨_, rfl⟩
  have hxs : X.size ≤ 7 := by rw [← hX, B_size]; exact verbW_len _
  have hws : W.size ≤ 9 := by rw [← hW, B_size]; exact whoText_len who
  rw [← verbW_nat k h1 h2, hX] at HR
  try rw [hW] at HR
  have HX := Lib.hid hX
  have HW := Lib.hid hW
  clear hX hW
  have r0 := Lib.hid (heap_alloc_new w (.cells (Tg.cells ⟨(k : Int), who, f⟩) TTg))
  have k0 : Hid (Below w.heap.size w (w.alloc (.cells (Tg.cells ⟨(k : Int), who, f⟩) TTg))) := Lib.hid ((Below.refl _ _).alloc (Nat.le_refl _) _)
  go_enter Tryz.func14, Tryz.ntmps14
  go_wp2_with (first | refine wpList_load_row rfl TTg _ rfl w.heap.size rfl TTg (Tg.cells ⟨(k : Int), who, f⟩) (0, 0) _ r0.out Tryz.underlying27 rfl infoTTg ?_ | refine wpList_load_part rfl TF _ rfl w.heap.size 2 rfl TTg (Tg.cells ⟨(k : Int), who, f⟩) f.cells (0, 0) _ r1.out (tg_part ⟨(k : Int), who, f⟩) Tryz.underlying25 rfl infoTF ?_ | (go_at_call 10; (with_reducible refine (rTIs_v ⟨(k : Int), who, f⟩ true HV _).mono ?_); rintro e w1 ⟨rfl, hb1⟩; have r1 := Lib.hid (blk_below2 hb1 r0.out); have k1 := Lib.hid (below_two k0.out hb1); have q0 : w1.cell? ⟨w.heap.size, 0, none⟩ = some (.int .i64 (k : Int)) := cell_of_row _ _ 0 _ _ (0, 0) r1.out; have q1 : w1.cell? ⟨w.heap.size, 1, none⟩ = some (.int .i64 who) := cell_of_row _ _ 1 _ _ (0, 0) r1.out) | (go_at_call 19; (with_reducible refine (rTWord_is (k : Int) X HX _).mono ?_); rintro e w2 ⟨rfl, rfl⟩) | (go_at_call 20; (with_reducible refine (rTHasWho_any (k : Int) true HUW _).mono ?_); rintro e w2 ⟨rfl, rfl⟩) | (go_at_call 21; (with_reducible refine (rTHasF_any (k : Int) true HUF _).mono ?_); rintro e w2 ⟨rfl, rfl⟩) | (go_at_call 12; (with_reducible refine (rTWho_is who W HW _).mono ?_); rintro e w2 ⟨rfl, rfl⟩) | (go_at_call 24; (with_reducible refine (rFltText_any f _).mono ?_); rintro e w3 ⟨rfl, hb3⟩))
  go_ret
  exact ⟨ret_str (by rw [← HR.out]; simp only [B_assoc]), below_two k1.out hb3⟩
set_option maxRecDepth 100000 in
theorem rTText_no (t : Tg) (HV : Hid (tgIs t = false)) (w : World) :
    Calls Tryz.prog 14 #[.agg t.cells] w fun e w' => e = .returned (.string ⟨#[]⟩) ∧ Below w.heap.size w w' := by
  have r0 := Lib.hid (heap_alloc_new w (.cells t.cells TTg))
  go_enter Tryz.func14, Tryz.ntmps14
  go_wp2_with (first | refine wpList_load_row rfl TTg _ rfl w.heap.size rfl TTg t.cells (0, 0) _ r0.out Tryz.underlying27 rfl infoTTg ?_ | (go_at_call 10; (with_reducible refine (rTIs_v t false HV _).mono ?_); rintro e w1 ⟨rfl, hb1⟩))
  go_ret
  exact ⟨rfl, below_two ((Below.refl _ _).alloc (Nat.le_refl _) _) hb1⟩
theorem rTText_v (t : Tg) (w : World) :
    Calls Tryz.prog 14 #[.agg t.cells] w fun e w' => e = .returned (.string (B (tgText t))) ∧ Below w.heap.size w w' := by
  cases hv : tgIs t with
  | false => exact (rTText_no t (Lib.hid hv) w).mono fun e w' ⟨he, hb⟩ => ⟨by rw [he, tgText_no hv]; rfl, hb⟩
  | true =>
    obtain ⟨k, who, f⟩ := t
    have hk : 1 ≤ k ∧ k ≤ 14 := by
      have h := hv
      unfold tgIs at h
      simp only [Bool.and_eq_true, decide_eq_true_eq] at h
      exact h.1
    obtain ⟨h1, h2⟩ := hk
    obtain ⟨m, rfl⟩ : ∃ m : Nat, k = (m : Int) := ⟨k.toNat, by omega⟩
    cases hW : usesW (m : Int) with
    | false => exact rTText_F m who f h1 h2 (Lib.hid hW) (Lib.hid (uses_one h1 h2 hW)) (Lib.hid hv) w
    | true =>
      cases hF : usesF (m : Int) with
      | false => exact rTText_W m who f h1 h2 (Lib.hid hW) (Lib.hid hF) (Lib.hid hv) w
      | true => exact rTText_WF m who f h1 h2 (Lib.hid hW) (Lib.hid hF) (Lib.hid hv) w
theorem rTText_is (t : Tg) (T : ByteArray) (hT : Hid (B (tgText t) = T)) (w : World) :
    Calls Tryz.prog 14 #[.agg t.cells] w fun e w' => e = .returned (.string T) ∧ Below w.heap.size w w' :=
  (rTText_v t w).mono fun e w' h => ⟨by rw [h.1, hT.out], h.2⟩
end Go.Proofs.YtnibonmeihdjbaaGreatDoor
