/- RefSpecs: validity grows with the number of targets. Conditions: Laid. -/
import Derived.Test.YtbiakbogpbncfaaGreatDoorSLaws
namespace Go.Proofs.YtbiakbogpbncfaaGreatDoor
set_option linter.all false
open Go.ChangeShapes Go.WideShapes Go.RowKit
attribute [local go_sem ↓] rowLd_fold
theorem refIs_more {r : Rf} {a b : Int} (h : refIs r a = true) (hab : a ≤ b) : refIs r b = true := by
  unfold refIs at *
  split at h
  · rename_i hk
    rw [if_pos hk]
    simp only [Bool.and_eq_true, decide_eq_true_eq] at h ⊢
    exact ⟨h.1, by omega, h.2.2⟩
  · rename_i hk
    rw [if_neg hk]; exact h
theorem refIs_four {r : Rf} {b : Int} (hab : 4 ≤ b) : refIs r b = refIs r 4 := by
  unfold refIs
  split
  · cases h : decide (r.n ≤ 4) with
    | false => simp
    | true => rw [decide_eq_true (show r.n ≤ b by simp at h; omega)]
  · rfl
theorem refIs_same {r : Rf} {a b : Int} (hk : kNum r.kind = false) : refIs r a = refIs r b := by
  unfold refIs; simp [hk]
theorem specs_short (r : Rf) (specs more : Int) (h : more < specs) (w : World) (hl : Laid w) :
    Calls Tryz.prog 7 #[.agg r.cells, .int .i64 specs, .int .i64 more] w fun e w' => e = .returned (.bool true) ∧ Below w.heap.size w w' := by
  have hl1 := hl.alloc (.cells r.cells TRf)
  go_enter Tryz.func7, Tryz.ntmps7
  go_wp2_with (go_at_call 8; (with_reducible refine (aliveR_any _ hl1).mono ?_); rintro e w1 ⟨rfl, hb1⟩)
  go_ret
  exact ⟨rfl, below_two ((Below.refl _ _).alloc (Nat.le_refl _) _) hb1⟩
set_option maxRecDepth 100000 in
set_option maxHeartbeats 1000000 in
theorem specs_at (r : Rf) (specs more : Int) (a b c k3 k8 : Bool) (HA : Hid (refIs r specs = a)) (HB : Hid (refIs r more = b)) (HC : Hid (refIs r 4 = c)) (h1 : ¬ more < specs) (t3 : (r.kind == 3) = k3) (t8 : (r.kind == 8) = k8) (hab : (a && !b) = false) (hbc : (decide (4 ≤ more) && (b != c)) = false) (hk : ((a == b) || (k3 || k8)) = true) (w : World) (hl : Laid w) :
    Calls Tryz.prog 7 #[.agg r.cells, .int .i64 specs, .int .i64 more] w fun e w' => e = .returned (.bool true) ∧ Below w.heap.size w w' := by
  have hT : OneR w r (w.alloc (.cells r.cells TRf)) := ⟨hl.alloc _, (Below.refl _ _).alloc (Nat.le_refl _) _, heap_alloc_new w _⟩
  have hld := fun (w' : World) (h : w'.heap[w.heap.size]? = some (.cells r.cells TRf)) => load_ref r w.heap.size w' h
  have hm : (4 ≤ more ∧ b = c) ∨ ¬ 4 ≤ more := by
    by_cases h : 4 ≤ more
    · left; rw [decide_eq_true h] at hbc; exact ⟨h, by simpa using hbc⟩
    · right; exact h
  clear hbc
  go_enter Tryz.func7, Tryz.ntmps7
  go_wp2_with fail
  as_aux_lemma =>
   go_region_held3 (fun w' => Laid w' ∧ Below w.heap.size w w' ∧ w'.heap[w.heap.size]? = some (.cells r.cells TRf)) (exact OneR.open_ (by first | assumption | exact OneR.drew hT)) (first | (go_at_call 9; (with_reducible refine (oneR_call (by first | exact hT3 | exact OneR.drew hT3 | exact OneR.drew hT) (fun hl1 => rfIs_v r specs a HA _ hl1)).mono ?_); rintro e w4 ⟨rfl, hT3⟩) | (go_at_call 9; (with_reducible refine (oneR_call (by first | exact hT3 | exact OneR.drew hT3 | exact OneR.drew hT) (fun hl1 => rfIs_v r more b HB _ hl1)).mono ?_); rintro e w4 ⟨rfl, hT3⟩))
   all_goals as_aux_lemma =>
    have r3 := hT3.2.2
    have q0 : World.cell? _ ⟨w.heap.size, 0, none⟩ = some (.int .i64 r.kind) := cell_of_row _ _ 0 _ _ (0, 0) r3
    cases a <;> cases b
    all_goals first | (exfalso; revert hab; decide) | skip
    all_goals rcases hm with ⟨hm, hc⟩ | hm
    all_goals try subst hc
    all_goals cases k3 <;> cases k8
    all_goals first | (exfalso; revert hk; decide) | skip
    all_goals
     go_wp2_with (first
       | (go_at_call 9; (with_reducible refine (oneR_call hT3 (fun hl1 => rfIs_v r 4 _ HC _ hl1)).mono ?_); rintro e w6 ⟨rfl, hT4⟩)
       | (go_at_call 8; (with_reducible refine (oneR_call hT4 (fun hl0 => aliveR_any _ hl0)).mono ?_); rintro e w7 ⟨rfl, hT5⟩; have q7 : w7.cell? ⟨w.heap.size, 0, none⟩ = some (.int .i64 r.kind) := cell_of_row _ _ 0 _ _ (0, 0) hT5.2.2)
       | (go_at_call 8; (with_reducible refine (oneR_call hT3 (fun hl0 => aliveR_any _ hl0)).mono ?_); rintro e w7 ⟨rfl, hT5⟩; have q7 : w7.cell? ⟨w.heap.size, 0, none⟩ = some (.int .i64 r.kind) := cell_of_row _ _ 0 _ _ (0, 0) hT5.2.2))
     go_ret
     exact ⟨ret_bool (by simp), hT5.2.1⟩
theorem refSpecs_law (r : Rf) (specs more : Int) (w : World) (hl : Laid w) : Calls Tryz.prog 7 #[.agg r.cells, .int .i64 specs, .int .i64 more] w fun e w' => e = .returned (.bool true) ∧ Below w.heap.size w w' := by
  by_cases hs : more < specs
  · exact specs_short r specs more hs w hl
  refine specs_at r specs more _ _ _ _ _ (Lib.hid rfl) (Lib.hid rfl) (Lib.hid rfl) hs rfl rfl ?_ ?_ ?_ w hl
  · cases ha : refIs r specs with
    | false => rfl
    | true => rw [refIs_more ha (by omega)]; rfl
  · by_cases h : 4 ≤ more
    · rw [refIs_four h]; simp
    · rw [decide_eq_false h]; rfl
  · cases hk : kNum r.kind with
    | false => rw [refIs_same (b := more) hk]; simp
    | true => unfold kNum at hk; rw [hk]; simp
end Go.Proofs.YtbiakbogpbncfaaGreatDoor
