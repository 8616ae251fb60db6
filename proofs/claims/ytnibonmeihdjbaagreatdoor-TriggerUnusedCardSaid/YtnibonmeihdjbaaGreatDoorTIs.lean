/- Walks: package trigger: Is. Conditions: LaidT. -/
import Derived.Test.YtnibonmeihdjbaaGreatDoorTMem
namespace Go.Proofs.YtnibonmeihdjbaaGreatDoor
set_option linter.all false
open Go.ChangeShapes Go.WideShapes Go.RowKit
theorem whoText_ne {who : Int} (h : who = 0 ∨ who = 1 ∨ who = 2) : whoText who ≠ [] := by rcases h with rfl | rfl | rfl <;> decide
theorem whoText_no {who : Int} (h : ¬ (who = 0 ∨ who = 1 ∨ who = 2)) : whoText who = [] := by
  unfold whoText; rw [if_neg (fun e => h (.inl e)), if_neg (fun e => h (.inr (.inl e))), if_neg (fun e => h (.inr (.inr e)))]
theorem fltIs_v (f : Flt) (R : Bool) (HR : Hid (fltIs f = R)) (w : World) (hl : Laid w) : Calls Tryz.prog 18 #[.agg f.cells] w fun e w' => e = .returned (.bool R) ∧ Below w.heap.size w w' :=
  fltIs_any f.zone f.who f.self f.types f.ntypes f.colors f.ncolors f.sub f.keys f.tap f.pk f.pn f.tk f.tn f.vk f.vn w hl R HR
theorem eqz_flt (f : Flt) (z : Bool) (h : fltEq f zeroF = z) (w : World) : (binOp .eql TF (.agg f.cells) (.agg #[.int .i64 0, .int .i64 0, .int .i64 0, .int .i64 0, .int .i64 0, .int .i64 0, .int .i64 0, .string ⟨#[]⟩, .int .i64 0, .int .i64 0, .int .i64 0, .int .i64 0, .int .i64 0, .int .i64 0, .int .i64 0, .int .i64 0])).run Tryz.prog w = .ok (.bool z) w := (eq_v f zeroF w).trans (by rw [h])
set_option maxRecDepth 100000 in
set_option maxHeartbeats 1000000 in
theorem tIs_lo (t : Tg) (h1 : t.k < 1) (w : World) (hl : LaidT w) :
    Calls Tryz.prog 9 #[.agg t.cells] w fun e w' => e = .returned (.bool false) ∧ Below w.heap.size w w' := by
  have r0 := Lib.hid (heap_alloc_new w (.cells t.cells TTg))
  have q0 : (w.alloc (.cells t.cells TTg)).cell? ⟨w.heap.size, 0, none⟩ = some (.int .i64 t.k) := cell_of_row _ _ 0 _ _ (0, 0) r0.out
  have q1 : (w.alloc (.cells t.cells TTg)).cell? ⟨w.heap.size, 1, none⟩ = some (.int .i64 t.who) := cell_of_row _ _ 1 _ _ (0, 0) r0.out
  have q2 : (w.alloc (.cells t.cells TTg)).cell? ⟨w.heap.size, 2, none⟩ = some (.int .i64 t.f.zone) := cell_of_row _ _ 2 _ _ (0, 0) r0.out
  have hl1 := hl.base.alloc (.cells t.cells TTg)
  have hb : Hid (Below w.heap.size w (w.alloc (.cells t.cells TTg))) := Lib.hid ((Below.refl _ _).alloc (Nat.le_refl _) _)
  go_enter Tryz.func9, Tryz.ntmps9
  go_wp2
  go_ret
  exact ⟨rfl, hb.out⟩
set_option maxRecDepth 100000 in
set_option maxHeartbeats 1000000 in
theorem tIs_hi (t : Tg) (h1 : 14 < t.k) (w : World) (hl : LaidT w) :
    Calls Tryz.prog 9 #[.agg t.cells] w fun e w' => e = .returned (.bool false) ∧ Below w.heap.size w w' := by
  have r0 := Lib.hid (heap_alloc_new w (.cells t.cells TTg))
  have q0 : (w.alloc (.cells t.cells TTg)).cell? ⟨w.heap.size, 0, none⟩ = some (.int .i64 t.k) := cell_of_row _ _ 0 _ _ (0, 0) r0.out
  have q1 : (w.alloc (.cells t.cells TTg)).cell? ⟨w.heap.size, 1, none⟩ = some (.int .i64 t.who) := cell_of_row _ _ 1 _ _ (0, 0) r0.out
  have q2 : (w.alloc (.cells t.cells TTg)).cell? ⟨w.heap.size, 2, none⟩ = some (.int .i64 t.f.zone) := cell_of_row _ _ 2 _ _ (0, 0) r0.out
  have hl1 := hl.base.alloc (.cells t.cells TTg)
  have hb : Hid (Below w.heap.size w (w.alloc (.cells t.cells TTg))) := Lib.hid ((Below.refl _ _).alloc (Nat.le_refl _) _)
  have h0 : ¬ t.k < 1 := by omega
  go_enter Tryz.func9, Tryz.ntmps9
  go_wp2
  go_ret
  exact ⟨rfl, hb.out⟩
set_option maxRecDepth 100000 in
set_option maxHeartbeats 1000000 in
theorem tIs_A (t : Tg) (h1 : 1 ≤ t.k) (h2 : t.k ≤ 14) (f : Bool) (HU : Hid (usesW t.k = false ∧ usesF t.k = f)) (hw : t.who ≠ 0) (w : World) (hl : LaidT w) :
    Calls Tryz.prog 9 #[.agg t.cells] w fun e w' => e = .returned (.bool false) ∧ Below w.heap.size w w' := by
  have g1 : ¬ t.k < 1 := by omega
  have g2 : ¬ 14 < t.k := by omega
  have t0 : (t.who != 0) = true := by simpa using hw
  have r0 := Lib.hid (heap_alloc_new w (.cells t.cells TTg))
  have q0 : (w.alloc (.cells t.cells TTg)).cell? ⟨w.heap.size, 0, none⟩ = some (.int .i64 t.k) := cell_of_row _ _ 0 _ _ (0, 0) r0.out
  have q1 : (w.alloc (.cells t.cells TTg)).cell? ⟨w.heap.size, 1, none⟩ = some (.int .i64 t.who) := cell_of_row _ _ 1 _ _ (0, 0) r0.out
  have q2 : (w.alloc (.cells t.cells TTg)).cell? ⟨w.heap.size, 2, none⟩ = some (.int .i64 t.f.zone) := cell_of_row _ _ 2 _ _ (0, 0) r0.out
  have hl1 := hl.base.alloc (.cells t.cells TTg)
  have hb : Hid (Below w.heap.size w (w.alloc (.cells t.cells TTg))) := Lib.hid ((Below.refl _ _).alloc (Nat.le_refl _) _)
  go_enter Tryz.func9, Tryz.ntmps9
  go_wp2_with (first | (go_at_call 17; (with_reducible refine (tgUses_is t.k h1 h2 false f HU _).mono ?_); rintro e w1 ⟨rfl, rfl⟩))
  go_ret
  exact ⟨rfl, hb.out⟩
set_option maxRecDepth 100000 in
set_option maxHeartbeats 1000000 in
theorem tIs_C (t : Tg) (h1 : 1 ≤ t.k) (h2 : t.k ≤ 14) (f : Bool) (HU : Hid (usesW t.k = true ∧ usesF t.k = f)) (hw : ¬ (t.who = 0 ∨ t.who = 1 ∨ t.who = 2)) (w : World) (hl : LaidT w) :
    Calls Tryz.prog 9 #[.agg t.cells] w fun e w' => e = .returned (.bool false) ∧ Below w.heap.size w w' := by
  have g1 : ¬ t.k < 1 := by omega
  have g2 : ¬ 14 < t.k := by omega
  obtain ⟨W, hW⟩ : ∃ W : ByteArray, (⟨#[]⟩ : ByteArray) = W := ⟨_, rfl⟩
  have HW : Hid (B (whoText t.who) = ⟨#[]⟩) := Lib.hid (by rw [whoText_no hw]; rfl)
  clear hw hW
  have r0 := Lib.hid (heap_alloc_new w (.cells t.cells TTg))
  have q0 : (w.alloc (.cells t.cells TTg)).cell? ⟨w.heap.size, 0, none⟩ = some (.int .i64 t.k) := cell_of_row _ _ 0 _ _ (0, 0) r0.out
  have q1 : (w.alloc (.cells t.cells TTg)).cell? ⟨w.heap.size, 1, none⟩ = some (.int .i64 t.who) := cell_of_row _ _ 1 _ _ (0, 0) r0.out
  have q2 : (w.alloc (.cells t.cells TTg)).cell? ⟨w.heap.size, 2, none⟩ = some (.int .i64 t.f.zone) := cell_of_row _ _ 2 _ _ (0, 0) r0.out
  have hl1 := hl.base.alloc (.cells t.cells TTg)
  have hb : Hid (Below w.heap.size w (w.alloc (.cells t.cells TTg))) := Lib.hid ((Below.refl _ _).alloc (Nat.le_refl _) _)
  go_enter Tryz.func9, Tryz.ntmps9
  go_wp2_with (first | (go_at_call 17; (with_reducible refine (tgUses_is t.k h1 h2 true f HU _).mono ?_); rintro e w1 ⟨rfl, rfl⟩) | (go_at_call 11; (with_reducible refine (tgWho_is t.who ⟨#[]⟩ HW _).mono ?_); rintro e w1 ⟨rfl, rfl⟩))
  go_ret
  exact ⟨rfl, hb.out⟩
set_option maxRecDepth 100000 in
set_option maxHeartbeats 1000000 in
theorem tIs_B_false (t : Tg) (h1 : 1 ≤ t.k) (h2 : t.k ≤ 14) (h9 : t.k ≠ 9) (HU : Hid (usesW t.k = false ∧ usesF t.k = true)) (hw0 : t.who = 0) (HV : Hid (fltIs t.f = false)) (w : World) (hl : LaidT w) :
    Calls Tryz.prog 9 #[.agg t.cells] w fun e w' => e = .returned (.bool false) ∧ Below w.heap.size w w' := by
  have g1 : ¬ t.k < 1 := by omega
  have g2 : ¬ 14 < t.k := by omega
  have t9 : (t.k == 9) = false := by simpa using h9
  have hw : t.who = 0 ∨ t.who = 1 ∨ t.who = 2 := .inl hw0
  obtain ⟨W, hW⟩ : ∃ W, B (whoText t.who) = W := ⟨_, rfl⟩
  have tw1 : ¬ W.toList = [] := by rw [← hW, B_toList]; exact whoText_ne hw
  have tw0 : W.toList.isEmpty = false := by simpa using tw1
  have HW := Lib.hid hW
  clear hW
  have t0 : (t.who != 0) = false := by rw [hw0]; rfl
  clear hw hw0
  have r0 := Lib.hid (heap_alloc_new w (.cells t.cells TTg))
  have q0 : (w.alloc (.cells t.cells TTg)).cell? ⟨w.heap.size, 0, none⟩ = some (.int .i64 t.k) := cell_of_row _ _ 0 _ _ (0, 0) r0.out
  have q1 : (w.alloc (.cells t.cells TTg)).cell? ⟨w.heap.size, 1, none⟩ = some (.int .i64 t.who) := cell_of_row _ _ 1 _ _ (0, 0) r0.out
  have q2 : (w.alloc (.cells t.cells TTg)).cell? ⟨w.heap.size, 2, none⟩ = some (.int .i64 t.f.zone) := cell_of_row _ _ 2 _ _ (0, 0) r0.out
  have hl1 := hl.base.alloc (.cells t.cells TTg)
  have hb : Hid (Below w.heap.size w (w.alloc (.cells t.cells TTg))) := Lib.hid ((Below.refl _ _).alloc (Nat.le_refl _) _)
  go_enter Tryz.func9, Tryz.ntmps9
  go_wp2_with (first | refine wpList_load_part rfl TF _ rfl w.heap.size 2 rfl TTg t.cells t.f.cells (0, 0) _ r0.out (tg_part t) Tryz.underlying25 rfl infoTF ?_ | (go_at_call 17; (with_reducible refine (tgUses_is t.k h1 h2 false true HU _).mono ?_); rintro e w1 ⟨rfl, rfl⟩) | (go_at_call 11; (with_reducible refine (tgWho_is t.who W HW _).mono ?_); rintro e w1 ⟨rfl, rfl⟩) | (go_at_call 18; (with_reducible refine (fltIs_v t.f false HV _ hl1).mono ?_); rintro e w2 ⟨rfl, hb2⟩; have q2 : w2.cell? ⟨w.heap.size, 2, none⟩ = some (.int .i64 t.f.zone) := cell_of_row _ _ 2 _ _ (0, 0) (blk_below2 hb2 r0.out)))
  go_ret
  exact ⟨rfl, below_two hb.out hb2⟩
set_option maxRecDepth 100000 in
set_option maxHeartbeats 1000000 in
theorem tIs_B_true (t : Tg) (h1 : 1 ≤ t.k) (h2 : t.k ≤ 14) (h9 : t.k ≠ 9) (HU : Hid (usesW t.k = false ∧ usesF t.k = true)) (hw0 : t.who = 0) (HV : Hid (fltIs t.f = true)) (w : World) (hl : LaidT w) :
    Calls Tryz.prog 9 #[.agg t.cells] w fun e w' => e = .returned (.bool (t.f.zone == 0)) ∧ Below w.heap.size w w' := by
  have g1 : ¬ t.k < 1 := by omega
  have g2 : ¬ 14 < t.k := by omega
  have t9 : (t.k == 9) = false := by simpa using h9
  have hw : t.who = 0 ∨ t.who = 1 ∨ t.who = 2 := .inl hw0
  obtain ⟨W, hW⟩ : ∃ W, B (whoText t.who) = W := ⟨_, rfl⟩
  have tw1 : ¬ W.toList = [] := by rw [← hW, B_toList]; exact whoText_ne hw
  have tw0 : W.toList.isEmpty = false := by simpa using tw1
  have HW := Lib.hid hW
  clear hW
  have t0 : (t.who != 0) = false := by rw [hw0]; rfl
  clear hw hw0
  have r0 := Lib.hid (heap_alloc_new w (.cells t.cells TTg))
  have q0 : (w.alloc (.cells t.cells TTg)).cell? ⟨w.heap.size, 0, none⟩ = some (.int .i64 t.k) := cell_of_row _ _ 0 _ _ (0, 0) r0.out
  have q1 : (w.alloc (.cells t.cells TTg)).cell? ⟨w.heap.size, 1, none⟩ = some (.int .i64 t.who) := cell_of_row _ _ 1 _ _ (0, 0) r0.out
  have q2 : (w.alloc (.cells t.cells TTg)).cell? ⟨w.heap.size, 2, none⟩ = some (.int .i64 t.f.zone) := cell_of_row _ _ 2 _ _ (0, 0) r0.out
  have hl1 := hl.base.alloc (.cells t.cells TTg)
  have hb : Hid (Below w.heap.size w (w.alloc (.cells t.cells TTg))) := Lib.hid ((Below.refl _ _).alloc (Nat.le_refl _) _)
  go_enter Tryz.func9, Tryz.ntmps9
  go_wp2_with (first | refine wpList_load_part rfl TF _ rfl w.heap.size 2 rfl TTg t.cells t.f.cells (0, 0) _ r0.out (tg_part t) Tryz.underlying25 rfl infoTF ?_ | (go_at_call 17; (with_reducible refine (tgUses_is t.k h1 h2 false true HU _).mono ?_); rintro e w1 ⟨rfl, rfl⟩) | (go_at_call 11; (with_reducible refine (tgWho_is t.who W HW _).mono ?_); rintro e w1 ⟨rfl, rfl⟩) | (go_at_call 18; (with_reducible refine (fltIs_v t.f true HV _ hl1).mono ?_); rintro e w2 ⟨rfl, hb2⟩; have q2 : w2.cell? ⟨w.heap.size, 2, none⟩ = some (.int .i64 t.f.zone) := cell_of_row _ _ 2 _ _ (0, 0) (blk_below2 hb2 r0.out)))
  go_ret
  exact ⟨ret_bool (by simp), below_two hb.out hb2⟩
set_option maxRecDepth 100000 in
set_option maxHeartbeats 1000000 in
theorem tIs_D (t : Tg) (h1 : 1 ≤ t.k) (h2 : t.k ≤ 14) (h9 : t.k ≠ 9) (HU : Hid (usesW t.k = true ∧ usesF t.k = false)) (hw : t.who = 0 ∨ t.who = 1 ∨ t.who = 2) (w : World) (hl : LaidT w) :
    Calls Tryz.prog 9 #[.agg t.cells] w fun e w' => e = .returned (.bool (fltEq t.f zeroF)) ∧ Below w.heap.size w w' := by
  have g1 : ¬ t.k < 1 := by omega
  have g2 : ¬ 14 < t.k := by omega
  have t9 : (t.k == 9) = false := by simpa using h9
  obtain ⟨W, hW⟩ : ∃ W, B (whoText t.who) = W := ⟨_, rfl⟩
  have tw1 : ¬ W.toList = [] := by rw [← hW, B_toList]; exact whoText_ne hw
  have tw0 : W.toList.isEmpty = false := by simpa using tw1
  have HW := Lib.hid hW
  clear hW
  obtain ⟨z, hz⟩ : ∃ z, fltEq t.f zeroF = z := ⟨_, rfl⟩
  rw [hz]
  have heq := fun wx : World => eqz_flt t.f z hz wx
  clear hw hz
  have r0 := Lib.hid (heap_alloc_new w (.cells t.cells TTg))
  have q0 : (w.alloc (.cells t.cells TTg)).cell? ⟨w.heap.size, 0, none⟩ = some (.int .i64 t.k) := cell_of_row _ _ 0 _ _ (0, 0) r0.out
  have q1 : (w.alloc (.cells t.cells TTg)).cell? ⟨w.heap.size, 1, none⟩ = some (.int .i64 t.who) := cell_of_row _ _ 1 _ _ (0, 0) r0.out
  have q2 : (w.alloc (.cells t.cells TTg)).cell? ⟨w.heap.size, 2, none⟩ = some (.int .i64 t.f.zone) := cell_of_row _ _ 2 _ _ (0, 0) r0.out
  have hl1 := hl.base.alloc (.cells t.cells TTg)
  have hb : Hid (Below w.heap.size w (w.alloc (.cells t.cells TTg))) := Lib.hid ((Below.refl _ _).alloc (Nat.le_refl _) _)
  go_enter Tryz.func9, Tryz.ntmps9
  go_wp2_with (first | refine wpList_load_part rfl TF _ rfl w.heap.size 2 rfl TTg t.cells t.f.cells (0, 0) _ r0.out (tg_part t) Tryz.underlying25 rfl infoTF ?_ | (go_at_call 17; (with_reducible refine (tgUses_is t.k h1 h2 true false HU _).mono ?_); rintro e w1 ⟨rfl, rfl⟩) | (go_at_call 11; (with_reducible refine (tgWho_is t.who W HW _).mono ?_); rintro e w1 ⟨rfl, rfl⟩))
  go_ret
  exact ⟨rfl, hb.out⟩
set_option maxRecDepth 100000 in
set_option maxHeartbeats 1000000 in
theorem tIs_E_false (t : Tg) (h9 : t.k = 9) (hw : t.who = 0 ∨ t.who = 1 ∨ t.who = 2) (HV : Hid (fltIs t.f = false)) (w : World) (hl : LaidT w) :
    Calls Tryz.prog 9 #[.agg t.cells] w fun e w' => e = .returned (.bool false) ∧ Below w.heap.size w w' := by
  have h1 : 1 ≤ t.k := by omega
  have h2 : t.k ≤ 14 := by omega
  have g1 : ¬ t.k < 1 := by omega
  have g2 : ¬ 14 < t.k := by omega
  have t9 : (t.k == 9) = true := by simpa using h9
  have HU : Hid (usesW t.k = true ∧ usesF t.k = true) := Lib.hid (by rw [h9]; exact ⟨rfl, rfl⟩)
  clear h9
  obtain ⟨W, hW⟩ : ∃ W, B (whoText t.who) = W := ⟨_, rfl⟩
  have tw1 : ¬ W.toList = [] := by rw [← hW, B_toList]; exact whoText_ne hw
  have tw0 : W.toList.isEmpty = false := by simpa using tw1
  have HW := Lib.hid hW
  clear hW
  clear hw
  have r0 := Lib.hid (heap_alloc_new w (.cells t.cells TTg))
  have q0 : (w.alloc (.cells t.cells TTg)).cell? ⟨w.heap.size, 0, none⟩ = some (.int .i64 t.k) := cell_of_row _ _ 0 _ _ (0, 0) r0.out
  have q1 : (w.alloc (.cells t.cells TTg)).cell? ⟨w.heap.size, 1, none⟩ = some (.int .i64 t.who) := cell_of_row _ _ 1 _ _ (0, 0) r0.out
  have q2 : (w.alloc (.cells t.cells TTg)).cell? ⟨w.heap.size, 2, none⟩ = some (.int .i64 t.f.zone) := cell_of_row _ _ 2 _ _ (0, 0) r0.out
  have hl1 := hl.base.alloc (.cells t.cells TTg)
  have hb : Hid (Below w.heap.size w (w.alloc (.cells t.cells TTg))) := Lib.hid ((Below.refl _ _).alloc (Nat.le_refl _) _)
  go_enter Tryz.func9, Tryz.ntmps9
  go_wp2_with (first | refine wpList_load_part rfl TF _ rfl w.heap.size 2 rfl TTg t.cells t.f.cells (0, 0) _ r0.out (tg_part t) Tryz.underlying25 rfl infoTF ?_ | (go_at_call 17; (with_reducible refine (tgUses_is t.k h1 h2 true true HU _).mono ?_); rintro e w1 ⟨rfl, rfl⟩) | (go_at_call 11; (with_reducible refine (tgWho_is t.who W HW _).mono ?_); rintro e w1 ⟨rfl, rfl⟩) | (go_at_call 18; (with_reducible refine (fltIs_v t.f false HV _ hl1).mono ?_); rintro e w2 ⟨rfl, hb2⟩; have q2 : w2.cell? ⟨w.heap.size, 2, none⟩ = some (.int .i64 t.f.zone) := cell_of_row _ _ 2 _ _ (0, 0) (blk_below2 hb2 r0.out)))
  go_ret
  exact ⟨rfl, below_two hb.out hb2⟩
set_option maxRecDepth 100000 in
set_option maxHeartbeats 1000000 in
theorem tIs_E_true (t : Tg) (h9 : t.k = 9) (hw : t.who = 0 ∨ t.who = 1 ∨ t.who = 2) (HV : Hid (fltIs t.f = true)) (w : World) (hl : LaidT w) :
    Calls Tryz.prog 9 #[.agg t.cells] w fun e w' => e = .returned (.bool (t.f.zone == 5)) ∧ Below w.heap.size w w' := by
  have h1 : 1 ≤ t.k := by omega
  have h2 : t.k ≤ 14 := by omega
  have g1 : ¬ t.k < 1 := by omega
  have g2 : ¬ 14 < t.k := by omega
  have t9 : (t.k == 9) = true := by simpa using h9
  have HU : Hid (usesW t.k = true ∧ usesF t.k = true) := Lib.hid (by rw [h9]; exact ⟨rfl, rfl⟩)
  clear h9
  obtain ⟨W, hW⟩ : ∃ W, B (whoText t.who) = W := ⟨_, rfl⟩
  have tw1 : ¬ W.toList = [] := by rw [← hW, B_toList]; exact whoText_ne hw
  have tw0 : W.toList.isEmpty = false := by simpa using tw1
  have HW := Lib.hid hW
  clear hW
  clear hw
  have r0 := Lib.hid (heap_alloc_new w (.cells t.cells TTg))
  have q0 : (w.alloc (.cells t.cells TTg)).cell? ⟨w.heap.size, 0, none⟩ = some (.int .i64 t.k) := cell_of_row _ _ 0 _ _ (0, 0) r0.out
  have q1 : (w.alloc (.cells t.cells TTg)).cell? ⟨w.heap.size, 1, none⟩ = some (.int .i64 t.who) := cell_of_row _ _ 1 _ _ (0, 0) r0.out
  have q2 : (w.alloc (.cells t.cells TTg)).cell? ⟨w.heap.size, 2, none⟩ = some (.int .i64 t.f.zone) := cell_of_row _ _ 2 _ _ (0, 0) r0.out
  have hl1 := hl.base.alloc (.cells t.cells TTg)
  have hb : Hid (Below w.heap.size w (w.alloc (.cells t.cells TTg))) := Lib.hid ((Below.refl _ _).alloc (Nat.le_refl _) _)
  go_enter Tryz.func9, Tryz.ntmps9
  go_wp2_with (first | refine wpList_load_part rfl TF _ rfl w.heap.size 2 rfl TTg t.cells t.f.cells (0, 0) _ r0.out (tg_part t) Tryz.underlying25 rfl infoTF ?_ | (go_at_call 17; (with_reducible refine (tgUses_is t.k h1 h2 true true HU _).mono ?_); rintro e w1 ⟨rfl, rfl⟩) | (go_at_call 11; (with_reducible refine (tgWho_is t.who W HW _).mono ?_); rintro e w1 ⟨rfl, rfl⟩) | (go_at_call 18; (with_reducible refine (fltIs_v t.f true HV _ hl1).mono ?_); rintro e w2 ⟨rfl, hb2⟩; have q2 : w2.cell? ⟨w.heap.size, 2, none⟩ = some (.int .i64 t.f.zone) := cell_of_row _ _ 2 _ _ (0, 0) (blk_below2 hb2 r0.out)))
  go_ret
  exact ⟨ret_bool (by simp), below_two hb.out hb2⟩
theorem tIs_v (t : Tg) (R : Bool) (HR : Hid (tgIs t = R)) (w : World) (hl : LaidT w) :
    Calls Tryz.prog 9 #[.agg t.cells] w fun e w' => e = .returned (.bool R) ∧ Below w.heap.size w w' := by
  have h := HR.out
  subst h
  by_cases hlo : t.k < 1
  · rw [show tgIs t = false by unfold tgIs; rw [decide_eq_false (show ¬ 1 ≤ t.k by omega)]; rfl]
    exact tIs_lo t hlo w hl
  by_cases hhi : 14 < t.k
  · rw [show tgIs t = false by unfold tgIs; rw [decide_eq_false (show ¬ t.k ≤ 14 by omega)]; simp]
    exact tIs_hi t hhi w hl
  have h1 : 1 ≤ t.k := by omega
  have h2 : t.k ≤ 14 := by omega
  by_cases hw : t.who = 0 ∨ t.who = 1 ∨ t.who = 2
  · have hwb : (t.who == 0 || (t.who == 1 || t.who == 2)) = true := by simpa using hw
    by_cases h9 : t.k = 9
    · have e : tgIs t = (fltIs t.f && t.f.zone == 5) := by
        unfold tgIs; rw [hwb, if_pos (show usesF t.k = true by rw [h9]; rfl), if_pos h9]; simp [h1, h2, h9, usesW]
      rw [e]
      cases hv : fltIs t.f with
      | false => exact tIs_E_false t h9 hw (Lib.hid hv) w hl
      | true => exact tIs_E_true t h9 hw (Lib.hid hv) w hl
    · cases hF : usesF t.k with
      | true =>
        have hW : usesW t.k = false := by unfold usesF at hF; unfold usesW; simp at hF; simp; omega
        by_cases h0 : t.who = 0
        · have e : tgIs t = (fltIs t.f && t.f.zone == 0) := by
            unfold tgIs; rw [hwb, if_pos hF, if_neg h9, hW, h0]; simp [h1, h2]
          rw [e]
          cases hv : fltIs t.f with
          | false => exact tIs_B_false t h1 h2 h9 (Lib.hid ⟨hW, hF⟩) h0 (Lib.hid hv) w hl
          | true => exact tIs_B_true t h1 h2 h9 (Lib.hid ⟨hW, hF⟩) h0 (Lib.hid hv) w hl
        · rw [show tgIs t = false by unfold tgIs; rw [hW, show (t.who == 0) = false by simpa using h0]; simp]
          exact tIs_A t h1 h2 true (Lib.hid ⟨hW, hF⟩) h0 w hl
      | false =>
        have hW : usesW t.k = true := by unfold usesF at hF; unfold usesW; simp at hF; simp; omega
        have e : tgIs t = fltEq t.f zeroF := by
          unfold tgIs; rw [hwb, hF, if_neg (by simp), hW]; simp [h1, h2]
        rw [e]
        exact tIs_D t h1 h2 h9 (Lib.hid ⟨hW, hF⟩) hw w hl
  · have hwb : (t.who == 0 || (t.who == 1 || t.who == 2)) = false := by
      cases hh : (t.who == 0 || (t.who == 1 || t.who == 2)) with
      | false => rfl
      | true => exact absurd (by simpa using hh) hw
    rw [show tgIs t = false by unfold tgIs; rw [hwb]; simp]
    cases hW : usesW t.k with
    | true => exact tIs_C t h1 h2 (usesF t.k) (Lib.hid ⟨hW, rfl⟩) hw w hl
    | false => exact tIs_A t h1 h2 (usesF t.k) (Lib.hid ⟨hW, rfl⟩) (fun e => hw (.inl e)) w hl
end Go.Proofs.YtnibonmeihdjbaaGreatDoor
