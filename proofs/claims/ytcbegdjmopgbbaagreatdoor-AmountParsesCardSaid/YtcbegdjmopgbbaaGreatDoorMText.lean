/- Walks: package amount: simple, Text. Conditions: LaidM. -/
import Derived.Test.YtcbegdjmopgbbaaGreatDoorMIs
import Derived.Test.YtcbegdjmopgbbaaGreatDoorFTextC
namespace Go.Proofs.YtcbegdjmopgbbaaGreatDoor
set_option linter.all false
open Go.ChangeShapes Go.WideShapes Go.RowKit
theorem textOf_len {f : Flt} : (textOf f).length ≤ 1000000 := by
  unfold textOf; split
  · rename_i h
    obtain ⟨_, hok⟩ := fltIs_fn h
    unfold fltText; split
    · decide
    · have hs : (toFN f).sub.length ≤ 32 := by
        rcases hok.sub with e | e
        · rw [e]; simp
        · exact isSub_len e
      have := fltJoin_len (toFN f) hs hok.pn hok.tn hok.vn
      omega
  · decide
theorem cntText_len (c : Int) : (cntText c).length ≤ 6 := by
  unfold cntText; split
  · decide
  split
  · decide
  split
  · decide
  · decide
theorem simple_any (k : Nat) (hk : k < 8) (w : World) : Calls Tryz.prog 22 #[.int .i64 k] w fun e w' => e = .returned (.string (B (wd simT k))) ∧ w = w' := by
  have hc : k = 0 ∨ k = 1 ∨ k = 2 ∨ k = 3 ∨ k = 4 ∨ k = 5 ∨ k = 6 ∨ k = 7 := by omega
  clear hk
  rcases hc with rfl | rfl | rfl | rfl | rfl | rfl | rfl | rfl
  all_goals
    go_enter Tryz.func22, Tryz.ntmps22
    go_wp2
    go_ret
    exact ⟨rfl, rfl⟩
theorem simple_lit (k : Int) (m : Nat) (h : k = (m : Int)) (hk : m < 8) (w : World) : Calls Tryz.prog 22 #[.int .i64 k] w fun e w' => e = .returned (.string (B (wd simT m))) ∧ w = w' := by
  subst h; exact simple_any m hk w
set_option maxRecDepth 100000 in
set_option maxHeartbeats 1000000 in
theorem aText_0 (n : Int) (h0 : 0 ≤ n) (h1 : n ≤ 1000000) (HV : Hid (amIs ⟨0, n, 0, zeroF⟩ = true)) (w : World) (hl : LaidM w) :
    Calls Tryz.prog 11 #[.agg (Am.cells ⟨0, n, 0, zeroF⟩)] w fun e w' => e = .returned (.string (B (Lib.itoa n))) ∧ Below w.heap.size w w' := by
  have r0 := Lib.hid (heap_alloc_new w (.cells (Am.cells ⟨0, n, 0, zeroF⟩) TAm))
  have hl1 := hl.alloc (.cells (Am.cells ⟨0, n, 0, zeroF⟩) TAm)
  have k0 : Hid (Below w.heap.size w (w.alloc (.cells (Am.cells ⟨0, n, 0, zeroF⟩) TAm))) := Lib.hid ((Below.refl _ _).alloc (Nat.le_refl _) _)
  go_enter Tryz.func11, Tryz.ntmps11
  go_wp2_with (first | (rw [wpList_skip_eq]; rotate_left; · rfl) | refine wpList_load_row_g (by rfl) TAm _ (by rfl) w.heap.size (by rfl) TAm (Am.cells ⟨0, n, 0, zeroF⟩) (0, 0) _ r0.out Tryz.underlying27 rfl infoTAm ?_ | (go_at_call 9; (with_reducible refine (aIs_v ⟨0, n, 0, zeroF⟩ true HV _ hl1).mono ?_); rintro e w1 ⟨rfl, hb1⟩; have r1 := Lib.hid (blk_below2 hb1 r0.out); have hl2 := hl1.below hb1; have k1 := Lib.hid (below_two k0.out hb1); have q0 : w1.cell? ⟨w.heap.size, 0, none⟩ = some (.int .i64 0) := cell_of_row _ _ 0 _ _ (0, 0) r1.out; have q1 : w1.cell? ⟨w.heap.size, 1, none⟩ = some (.int .i64 n) := cell_of_row _ _ 1 _ _ (0, 0) r1.out; have q2 : w1.cell? ⟨w.heap.size, 2, none⟩ = some (.int .i64 0) := cell_of_row _ _ 2 _ _ (0, 0) r1.out) | (go_at_call 20; (with_reducible refine (numText_any n (by omega) (by omega) _ hl2.base).mono ?_); rintro e wn ⟨rfl, hbn⟩))
  go_ret
  exact ⟨rfl, below_two k1.out hbn⟩
set_option maxRecDepth 100000 in
set_option maxHeartbeats 1000000 in
theorem aText_4 (c : Int) (HV : Hid (amIs ⟨4, 0, c, zeroF⟩ = true)) (w : World) (hl : LaidM w) :
    Calls Tryz.prog 11 #[.agg (Am.cells ⟨4, 0, c, zeroF⟩)] w fun e w' => e = .returned (.string (B (cntsW ++ (cntText c ++ [41])))) ∧ Below w.heap.size w w' := by
  obtain ⟨N, hN⟩ : ∃ N, B (cntText c) = N := ⟨_, rfl⟩
  have hns : N.size ≤ 6 := by rw [← hN, B_size]; exact cntText_len c
  have HR : Hid (⟨#[99, 111, 117, 110, 116, 101, 114, 115, 40]⟩ ++ N ++ ⟨#[41]⟩ = B (cntsW ++ (cntText c ++ [41]))) := Lib.hid (by rw [← hN, show (⟨#[99, 111, 117, 110, 116, 101, 114, 115, 40]⟩ : ByteArray) = B cntsW from rfl, show (⟨#[41]⟩ : ByteArray) = B [41] from rfl, B_append, B_append, List.append_assoc])
  have HN := Lib.hid hN
  clear hN
  have r0 := Lib.hid (heap_alloc_new w (.cells (Am.cells ⟨4, 0, c, zeroF⟩) TAm))
  have hl1 := hl.alloc (.cells (Am.cells ⟨4, 0, c, zeroF⟩) TAm)
  have k0 : Hid (Below w.heap.size w (w.alloc (.cells (Am.cells ⟨4, 0, c, zeroF⟩) TAm))) := Lib.hid ((Below.refl _ _).alloc (Nat.le_refl _) _)
  go_enter Tryz.func11, Tryz.ntmps11
  go_wp2_with (first | (rw [wpList_skip_eq]; rotate_left; · rfl) | refine wpList_load_row_g (by rfl) TAm _ (by rfl) w.heap.size (by rfl) TAm (Am.cells ⟨4, 0, c, zeroF⟩) (0, 0) _ r0.out Tryz.underlying27 rfl infoTAm ?_ | (go_at_call 9; (with_reducible refine (aIs_v ⟨4, 0, c, zeroF⟩ true HV _ hl1).mono ?_); rintro e w1 ⟨rfl, hb1⟩; have r1 := Lib.hid (blk_below2 hb1 r0.out); have hl2 := hl1.below hb1; have k1 := Lib.hid (below_two k0.out hb1); have q0 : w1.cell? ⟨w.heap.size, 0, none⟩ = some (.int .i64 4) := cell_of_row _ _ 0 _ _ (0, 0) r1.out; have q1 : w1.cell? ⟨w.heap.size, 1, none⟩ = some (.int .i64 0) := cell_of_row _ _ 1 _ _ (0, 0) r1.out; have q2 : w1.cell? ⟨w.heap.size, 2, none⟩ = some (.int .i64 c) := cell_of_row _ _ 2 _ _ (0, 0) r1.out) | (go_at_call 17; (with_reducible refine (cntName_is c N HN _ hl2).mono ?_); rintro e wn ⟨rfl, rfl⟩))
  go_ret
  exact ⟨ret_str HR.out, k1.out⟩
theorem countS_B (f : Flt) : (⟨#[99, 111, 117, 110, 116, 40]⟩ : ByteArray) ++ B (textOf f) ++ ⟨#[41]⟩ = B (countS f) := by
  rw [show (⟨#[99, 111, 117, 110, 116, 40]⟩ : ByteArray) = B countW from rfl, show (⟨#[41]⟩ : ByteArray) = B [41] from rfl, B_append, B_append]; unfold countS; rw [List.append_assoc]
set_option maxRecDepth 100000 in
set_option maxHeartbeats 1000000 in
theorem aText_2a (f : Flt) (HV : Hid (amIs ⟨2, 1, 0, f⟩ = true)) (w : World) (hl : LaidM w) :
    Calls Tryz.prog 11 #[.agg (Am.cells ⟨2, 1, 0, f⟩)] w fun e w' => e = .returned (.string (B (countS f))) ∧ Below w.heap.size w w' := by
  have hil := textOf_len (f := f)
  have HR := Lib.hid (countS_B f)
  have r0 := Lib.hid (heap_alloc_new w (.cells (Am.cells ⟨2, 1, 0, f⟩) TAm))
  have hl1 := hl.alloc (.cells (Am.cells ⟨2, 1, 0, f⟩) TAm)
  have k0 : Hid (Below w.heap.size w (w.alloc (.cells (Am.cells ⟨2, 1, 0, f⟩) TAm))) := Lib.hid ((Below.refl _ _).alloc (Nat.le_refl _) _)
  go_enter Tryz.func11, Tryz.ntmps11
  go_wp2_with (first | (rw [wpList_skip_eq]; rotate_left; · rfl) | refine wpList_load_row_g (by rfl) TAm _ (by rfl) w.heap.size (by rfl) TAm (Am.cells ⟨2, 1, 0, f⟩) (0, 0) _ r0.out Tryz.underlying27 rfl infoTAm ?_ | (go_at_call 9; (with_reducible refine (aIs_v ⟨2, 1, 0, f⟩ true HV _ hl1).mono ?_); rintro e w1 ⟨rfl, hb1⟩; have r1 := Lib.hid (blk_below2 hb1 r0.out); have hl2 := hl1.below hb1; have k1 := Lib.hid (below_two k0.out hb1); have q0 : w1.cell? ⟨w.heap.size, 0, none⟩ = some (.int .i64 2) := cell_of_row _ _ 0 _ _ (0, 0) r1.out; have q1 : w1.cell? ⟨w.heap.size, 1, none⟩ = some (.int .i64 1) := cell_of_row _ _ 1 _ _ (0, 0) r1.out; have q2 : w1.cell? ⟨w.heap.size, 2, none⟩ = some (.int .i64 0) := cell_of_row _ _ 2 _ _ (0, 0) r1.out) | refine wpList_load_part (by rfl) TF _ (by rfl) w.heap.size 3 (by rfl) TAm (Am.cells ⟨2, 1, 0, f⟩) f.cells (0, 0) _ r1.out (am_part ⟨2, 1, 0, f⟩) Tryz.underlying25 rfl infoTF ?_ | (go_at_call 21; (with_reducible refine (fltText_v f _ hl2.base).mono ?_); rintro e w3 ⟨rfl, hb3⟩; have hl3 := hl2.below hb3; have k3 := Lib.hid (below_two k1.out hb3); have m1 : w3.cell? ⟨w.heap.size, 1, none⟩ = some (.int .i64 1) := cell_of_row _ _ 1 _ _ (0, 0) (blk_below2 hb3 r1.out)))
  go_ret
  exact ⟨ret_str HR.out, k3.out⟩
set_option maxRecDepth 100000 in
set_option maxHeartbeats 1000000 in
theorem aText_2b (n : Int) (h0 : 1 < n) (h1 : n ≤ 99) (f : Flt) (HV : Hid (amIs ⟨2, n, 0, f⟩ = true)) (w : World) (hl : LaidM w) :
    Calls Tryz.prog 11 #[.agg (Am.cells ⟨2, n, 0, f⟩)] w fun e w' => e = .returned (.string (B (Lib.itoa n ++ 42 :: countS f))) ∧ Below w.heap.size w w' := by
  have hil := textOf_len (f := f)
  have hin := Lib.itoa_length_le n (by omega) (by omega)
  have HR : Hid (B (Lib.itoa n) ++ ⟨#[42]⟩ ++ (⟨#[99, 111, 117, 110, 116, 40]⟩ ++ B (textOf f) ++ ⟨#[41]⟩) = B (Lib.itoa n ++ 42 :: countS f)) := Lib.hid (by rw [countS_B, show (⟨#[42]⟩ : ByteArray) = B [42] from rfl, B_append, B_append, List.append_assoc]; rfl)
  have r0 := Lib.hid (heap_alloc_new w (.cells (Am.cells ⟨2, n, 0, f⟩) TAm))
  have hl1 := hl.alloc (.cells (Am.cells ⟨2, n, 0, f⟩) TAm)
  have k0 : Hid (Below w.heap.size w (w.alloc (.cells (Am.cells ⟨2, n, 0, f⟩) TAm))) := Lib.hid ((Below.refl _ _).alloc (Nat.le_refl _) _)
  go_enter Tryz.func11, Tryz.ntmps11
  go_wp2_with (first | (rw [wpList_skip_eq]; rotate_left; · rfl) | refine wpList_load_row_g (by rfl) TAm _ (by rfl) w.heap.size (by rfl) TAm (Am.cells ⟨2, n, 0, f⟩) (0, 0) _ r0.out Tryz.underlying27 rfl infoTAm ?_ | (go_at_call 9; (with_reducible refine (aIs_v ⟨2, n, 0, f⟩ true HV _ hl1).mono ?_); rintro e w1 ⟨rfl, hb1⟩; have r1 := Lib.hid (blk_below2 hb1 r0.out); have hl2 := hl1.below hb1; have k1 := Lib.hid (below_two k0.out hb1); have q0 : w1.cell? ⟨w.heap.size, 0, none⟩ = some (.int .i64 2) := cell_of_row _ _ 0 _ _ (0, 0) r1.out; have q1 : w1.cell? ⟨w.heap.size, 1, none⟩ = some (.int .i64 n) := cell_of_row _ _ 1 _ _ (0, 0) r1.out; have q2 : w1.cell? ⟨w.heap.size, 2, none⟩ = some (.int .i64 0) := cell_of_row _ _ 2 _ _ (0, 0) r1.out) | refine wpList_load_part (by rfl) TF _ (by rfl) w.heap.size 3 (by rfl) TAm (Am.cells ⟨2, n, 0, f⟩) f.cells (0, 0) _ r1.out (am_part ⟨2, n, 0, f⟩) Tryz.underlying25 rfl infoTF ?_ | (go_at_call 21; (with_reducible refine (fltText_v f _ hl2.base).mono ?_); rintro e w3 ⟨rfl, hb3⟩; have hl3 := hl2.below hb3; have k3 := Lib.hid (below_two k1.out hb3); have m1 : w3.cell? ⟨w.heap.size, 1, none⟩ = some (.int .i64 n) := cell_of_row _ _ 1 _ _ (0, 0) (blk_below2 hb3 r1.out)) | (go_at_call 20; (with_reducible refine (numText_any n (by omega) (by omega) _ hl3.base).mono ?_); rintro e wn ⟨rfl, hbn⟩))
  go_ret
  exact ⟨ret_str HR.out, below_two k3.out hbn⟩
set_option maxRecDepth 100000 in
set_option maxHeartbeats 1000000 in
theorem aText_s1  (HV : Hid (amIs ⟨1, 0, 0, zeroF⟩ = true)) (w : World) (hl : LaidM w) :
    Calls Tryz.prog 11 #[.agg (Am.cells ⟨1, 0, 0, zeroF⟩)] w fun e w' => e = .returned (.string (B (wd simT 1))) ∧ Below w.heap.size w w' := by
  have r0 := Lib.hid (heap_alloc_new w (.cells (Am.cells ⟨1, 0, 0, zeroF⟩) TAm))
  have hl1 := hl.alloc (.cells (Am.cells ⟨1, 0, 0, zeroF⟩) TAm)
  have k0 : Hid (Below w.heap.size w (w.alloc (.cells (Am.cells ⟨1, 0, 0, zeroF⟩) TAm))) := Lib.hid ((Below.refl _ _).alloc (Nat.le_refl _) _)
  go_enter Tryz.func11, Tryz.ntmps11
  go_wp2_with (first | (rw [wpList_skip_eq]; rotate_left; · rfl) | refine wpList_load_row_g (by rfl) TAm _ (by rfl) w.heap.size (by rfl) TAm (Am.cells ⟨1, 0, 0, zeroF⟩) (0, 0) _ r0.out Tryz.underlying27 rfl infoTAm ?_ | (go_at_call 9; (with_reducible refine (aIs_v ⟨1, 0, 0, zeroF⟩ true HV _ hl1).mono ?_); rintro e w1 ⟨rfl, hb1⟩; have r1 := Lib.hid (blk_below2 hb1 r0.out); have hl2 := hl1.below hb1; have k1 := Lib.hid (below_two k0.out hb1); have q0 : w1.cell? ⟨w.heap.size, 0, none⟩ = some (.int .i64 1) := cell_of_row _ _ 0 _ _ (0, 0) r1.out; have q1 : w1.cell? ⟨w.heap.size, 1, none⟩ = some (.int .i64 0) := cell_of_row _ _ 1 _ _ (0, 0) r1.out; have q2 : w1.cell? ⟨w.heap.size, 2, none⟩ = some (.int .i64 0) := cell_of_row _ _ 2 _ _ (0, 0) r1.out) | (go_at_call 22; (refine (simple_lit 1 1 rfl (by decide) _).mono ?_); rintro e wn ⟨rfl, rfl⟩))
  go_ret
  exact ⟨rfl, k1.out⟩
set_option maxRecDepth 100000 in
set_option maxHeartbeats 1000000 in
theorem aText_s3  (HV : Hid (amIs ⟨3, 0, 0, zeroF⟩ = true)) (w : World) (hl : LaidM w) :
    Calls Tryz.prog 11 #[.agg (Am.cells ⟨3, 0, 0, zeroF⟩)] w fun e w' => e = .returned (.string (B (wd simT 3))) ∧ Below w.heap.size w w' := by
  have r0 := Lib.hid (heap_alloc_new w (.cells (Am.cells ⟨3, 0, 0, zeroF⟩) TAm))
  have hl1 := hl.alloc (.cells (Am.cells ⟨3, 0, 0, zeroF⟩) TAm)
  have k0 : Hid (Below w.heap.size w (w.alloc (.cells (Am.cells ⟨3, 0, 0, zeroF⟩) TAm))) := Lib.hid ((Below.refl _ _).alloc (Nat.le_refl _) _)
  go_enter Tryz.func11, Tryz.ntmps11
  go_wp2_with (first | (rw [wpList_skip_eq]; rotate_left; · rfl) | refine wpList_load_row_g (by rfl) TAm _ (by rfl) w.heap.size (by rfl) TAm (Am.cells ⟨3, 0, 0, zeroF⟩) (0, 0) _ r0.out Tryz.underlying27 rfl infoTAm ?_ | (go_at_call 9; (with_reducible refine (aIs_v ⟨3, 0, 0, zeroF⟩ true HV _ hl1).mono ?_); rintro e w1 ⟨rfl, hb1⟩; have r1 := Lib.hid (blk_below2 hb1 r0.out); have hl2 := hl1.below hb1; have k1 := Lib.hid (below_two k0.out hb1); have q0 : w1.cell? ⟨w.heap.size, 0, none⟩ = some (.int .i64 3) := cell_of_row _ _ 0 _ _ (0, 0) r1.out; have q1 : w1.cell? ⟨w.heap.size, 1, none⟩ = some (.int .i64 0) := cell_of_row _ _ 1 _ _ (0, 0) r1.out; have q2 : w1.cell? ⟨w.heap.size, 2, none⟩ = some (.int .i64 0) := cell_of_row _ _ 2 _ _ (0, 0) r1.out) | (go_at_call 22; (refine (simple_lit 3 3 rfl (by decide) _).mono ?_); rintro e wn ⟨rfl, rfl⟩))
  go_ret
  exact ⟨rfl, k1.out⟩
set_option maxRecDepth 100000 in
set_option maxHeartbeats 1000000 in
theorem aText_s5  (HV : Hid (amIs ⟨5, 0, 0, zeroF⟩ = true)) (w : World) (hl : LaidM w) :
    Calls Tryz.prog 11 #[.agg (Am.cells ⟨5, 0, 0, zeroF⟩)] w fun e w' => e = .returned (.string (B (wd simT 5))) ∧ Below w.heap.size w w' := by
  have r0 := Lib.hid (heap_alloc_new w (.cells (Am.cells ⟨5, 0, 0, zeroF⟩) TAm))
  have hl1 := hl.alloc (.cells (Am.cells ⟨5, 0, 0, zeroF⟩) TAm)
  have k0 : Hid (Below w.heap.size w (w.alloc (.cells (Am.cells ⟨5, 0, 0, zeroF⟩) TAm))) := Lib.hid ((Below.refl _ _).alloc (Nat.le_refl _) _)
  go_enter Tryz.func11, Tryz.ntmps11
  go_wp2_with (first | (rw [wpList_skip_eq]; rotate_left; · rfl) | refine wpList_load_row_g (by rfl) TAm _ (by rfl) w.heap.size (by rfl) TAm (Am.cells ⟨5, 0, 0, zeroF⟩) (0, 0) _ r0.out Tryz.underlying27 rfl infoTAm ?_ | (go_at_call 9; (with_reducible refine (aIs_v ⟨5, 0, 0, zeroF⟩ true HV _ hl1).mono ?_); rintro e w1 ⟨rfl, hb1⟩; have r1 := Lib.hid (blk_below2 hb1 r0.out); have hl2 := hl1.below hb1; have k1 := Lib.hid (below_two k0.out hb1); have q0 : w1.cell? ⟨w.heap.size, 0, none⟩ = some (.int .i64 5) := cell_of_row _ _ 0 _ _ (0, 0) r1.out; have q1 : w1.cell? ⟨w.heap.size, 1, none⟩ = some (.int .i64 0) := cell_of_row _ _ 1 _ _ (0, 0) r1.out; have q2 : w1.cell? ⟨w.heap.size, 2, none⟩ = some (.int .i64 0) := cell_of_row _ _ 2 _ _ (0, 0) r1.out) | (go_at_call 22; (refine (simple_lit 5 5 rfl (by decide) _).mono ?_); rintro e wn ⟨rfl, rfl⟩))
  go_ret
  exact ⟨rfl, k1.out⟩
set_option maxRecDepth 100000 in
set_option maxHeartbeats 1000000 in
theorem aText_s6  (HV : Hid (amIs ⟨6, 0, 0, zeroF⟩ = true)) (w : World) (hl : LaidM w) :
    Calls Tryz.prog 11 #[.agg (Am.cells ⟨6, 0, 0, zeroF⟩)] w fun e w' => e = .returned (.string (B (wd simT 6))) ∧ Below w.heap.size w w' := by
  have r0 := Lib.hid (heap_alloc_new w (.cells (Am.cells ⟨6, 0, 0, zeroF⟩) TAm))
  have hl1 := hl.alloc (.cells (Am.cells ⟨6, 0, 0, zeroF⟩) TAm)
  have k0 : Hid (Below w.heap.size w (w.alloc (.cells (Am.cells ⟨6, 0, 0, zeroF⟩) TAm))) := Lib.hid ((Below.refl _ _).alloc (Nat.le_refl _) _)
  go_enter Tryz.func11, Tryz.ntmps11
  go_wp2_with (first | (rw [wpList_skip_eq]; rotate_left; · rfl) | refine wpList_load_row_g (by rfl) TAm _ (by rfl) w.heap.size (by rfl) TAm (Am.cells ⟨6, 0, 0, zeroF⟩) (0, 0) _ r0.out Tryz.underlying27 rfl infoTAm ?_ | (go_at_call 9; (with_reducible refine (aIs_v ⟨6, 0, 0, zeroF⟩ true HV _ hl1).mono ?_); rintro e w1 ⟨rfl, hb1⟩; have r1 := Lib.hid (blk_below2 hb1 r0.out); have hl2 := hl1.below hb1; have k1 := Lib.hid (below_two k0.out hb1); have q0 : w1.cell? ⟨w.heap.size, 0, none⟩ = some (.int .i64 6) := cell_of_row _ _ 0 _ _ (0, 0) r1.out; have q1 : w1.cell? ⟨w.heap.size, 1, none⟩ = some (.int .i64 0) := cell_of_row _ _ 1 _ _ (0, 0) r1.out; have q2 : w1.cell? ⟨w.heap.size, 2, none⟩ = some (.int .i64 0) := cell_of_row _ _ 2 _ _ (0, 0) r1.out) | (go_at_call 22; (refine (simple_lit 6 6 rfl (by decide) _).mono ?_); rintro e wn ⟨rfl, rfl⟩))
  go_ret
  exact ⟨rfl, k1.out⟩
set_option maxRecDepth 100000 in
set_option maxHeartbeats 1000000 in
theorem aText_s7  (HV : Hid (amIs ⟨7, 0, 0, zeroF⟩ = true)) (w : World) (hl : LaidM w) :
    Calls Tryz.prog 11 #[.agg (Am.cells ⟨7, 0, 0, zeroF⟩)] w fun e w' => e = .returned (.string (B (wd simT 7))) ∧ Below w.heap.size w w' := by
  have r0 := Lib.hid (heap_alloc_new w (.cells (Am.cells ⟨7, 0, 0, zeroF⟩) TAm))
  have hl1 := hl.alloc (.cells (Am.cells ⟨7, 0, 0, zeroF⟩) TAm)
  have k0 : Hid (Below w.heap.size w (w.alloc (.cells (Am.cells ⟨7, 0, 0, zeroF⟩) TAm))) := Lib.hid ((Below.refl _ _).alloc (Nat.le_refl _) _)
  go_enter Tryz.func11, Tryz.ntmps11
  go_wp2_with (first | (rw [wpList_skip_eq]; rotate_left; · rfl) | refine wpList_load_row_g (by rfl) TAm _ (by rfl) w.heap.size (by rfl) TAm (Am.cells ⟨7, 0, 0, zeroF⟩) (0, 0) _ r0.out Tryz.underlying27 rfl infoTAm ?_ | (go_at_call 9; (with_reducible refine (aIs_v ⟨7, 0, 0, zeroF⟩ true HV _ hl1).mono ?_); rintro e w1 ⟨rfl, hb1⟩; have r1 := Lib.hid (blk_below2 hb1 r0.out); have hl2 := hl1.below hb1; have k1 := Lib.hid (below_two k0.out hb1); have q0 : w1.cell? ⟨w.heap.size, 0, none⟩ = some (.int .i64 7) := cell_of_row _ _ 0 _ _ (0, 0) r1.out; have q1 : w1.cell? ⟨w.heap.size, 1, none⟩ = some (.int .i64 0) := cell_of_row _ _ 1 _ _ (0, 0) r1.out; have q2 : w1.cell? ⟨w.heap.size, 2, none⟩ = some (.int .i64 0) := cell_of_row _ _ 2 _ _ (0, 0) r1.out) | (go_at_call 22; (refine (simple_lit 7 7 rfl (by decide) _).mono ?_); rintro e wn ⟨rfl, rfl⟩))
  go_ret
  exact ⟨rfl, k1.out⟩
set_option maxRecDepth 100000 in
set_option maxHeartbeats 1000000 in
theorem aText_no (a : Am) (HV : Hid (amIs a = false)) (w : World) (hl : LaidM w) :
    Calls Tryz.prog 11 #[.agg a.cells] w fun e w' => e = .returned (.string ⟨#[]⟩) ∧ Below w.heap.size w w' := by
  have r0 := Lib.hid (heap_alloc_new w (.cells a.cells TAm))
  have hl1 := hl.alloc (.cells a.cells TAm)
  go_enter Tryz.func11, Tryz.ntmps11
  go_wp2_with (first | refine wpList_load_row_g (by rfl) TAm _ (by rfl) w.heap.size (by rfl) TAm a.cells (0, 0) _ r0.out Tryz.underlying27 rfl infoTAm ?_ | (go_at_call 9; (with_reducible refine (aIs_v a false HV _ hl1).mono ?_); rintro e w1 ⟨rfl, hb1⟩))
  go_ret
  exact ⟨rfl, below_two ((Below.refl _ _).alloc (Nat.le_refl _) _) hb1⟩
theorem aText_v (a : Am) (w : World) (hl : LaidM w) :
    Calls Tryz.prog 11 #[.agg a.cells] w fun e w' => e = .returned (.string (B (amText a))) ∧ Below w.heap.size w w' := by
  cases hv : amIs a with
  | false => exact (aText_no a (Lib.hid hv) w hl).mono fun e w' ⟨he, hb⟩ => ⟨by rw [he, amText_no hv]; rfl, hb⟩
  | true =>
    have ht : amText a = amBody a := if_pos hv
    rw [ht]
    rcases amIs_cases hv with ⟨n, hn, rfl⟩ | ⟨n, h1, h2, f, hf, rfl⟩ | ⟨c, hc, rfl⟩ | ⟨k, hk, rfl⟩
    · exact aText_0 (n : Int) (by omega) (by omega) (Lib.hid hv) w hl
    · by_cases hn : n = 1
      · subst hn; exact aText_2a f (Lib.hid hv) w hl
      · rw [show amBody ⟨2, (n : Int), 0, f⟩ = Lib.itoa n ++ 42 :: countS f by rw [amBody_two, if_pos (by omega)]]
        exact aText_2b (n : Int) (by omega) (by omega) f (Lib.hid hv) w hl
    · exact aText_4 c (Lib.hid hv) w hl
    · rcases hk with rfl | rfl | rfl | rfl | rfl
      · exact aText_s1 (Lib.hid hv) w hl
      · exact aText_s3 (Lib.hid hv) w hl
      · exact aText_s5 (Lib.hid hv) w hl
      · exact aText_s6 (Lib.hid hv) w hl
      · exact aText_s7 (Lib.hid hv) w hl
theorem aText_is (a : Am) (T : ByteArray) (hT : Hid (B (amText a) = T)) (w : World) (hl : LaidM w) :
    Calls Tryz.prog 11 #[.agg a.cells] w fun e w' => e = .returned (.string T) ∧ Below w.heap.size w w' :=
  (aText_v a w hl).mono fun e w' h => ⟨by rw [h.1, hT.out], h.2⟩
end Go.Proofs.YtcbegdjmopgbbaaGreatDoor
