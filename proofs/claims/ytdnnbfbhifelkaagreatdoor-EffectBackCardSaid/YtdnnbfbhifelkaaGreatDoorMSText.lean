/- Walks: package ref: Is of any reference, Text. Conditions: Laid. Walks: package ref: numbered, read, Parse. Conditions: Laid; the text is shorter than 100 million bytes. Walks: package ref: read of -/
import Derived.Test.YtdnnbfbhifelkaaGreatDoorMSIsW
import Derived.Test.YtdnnbfbhifelkaaGreatDoorQ2
set_option linter.all false
set_option maxRecDepth 100000
set_option maxHeartbeats 16000000
namespace Go.Proofs.YtdnnbfbhifelkaaGreatDoor
open Go.ChangeShapes Go.WideShapes Go.RowKit
theorem rfIs_v (r : Rf) (specs : Int) (R : Bool) (HR : Hid (refIs r specs = R)) (w : World) (hl : Laid w) :
 Calls Tryz.prog 54 #[.agg r.cells, .int .i64 specs] w fun e w' => e = .returned (.bool R) ∧ Below w.heap.size w w' := by
 obtain ⟨kind, n, f⟩ := r
 rw [← HR.out]
 exact rfIs_w kind n specs f w hl
theorem infoTRf : (Tryz.prog.info? TRf).map (·.size) = some 18 := by kernel_rfl
theorem flt_text_lit (f : Flt) (w : World) (hl : Laid w) : Calls Tryz.prog 44 #[.agg #[.int .i64 f.zone, .int .i64 f.who, .int .i64 f.self, .int .i64 f.types, .int .i64 f.ntypes, .int .i64 f.colors, .int .i64 f.ncolors, .string f.sub, .int .i64 f.keys, .int .i64 f.tap, .int .i64 f.pk, .int .i64 f.pn, .int .i64 f.tk, .int .i64 f.tn, .int .i64 f.vk, .int .i64 f.vn]] w fun e w' => e = .returned (.string (B (textOf f))) ∧ Below w.heap.size w w' := fltText_v f w hl
theorem textOf_lenS {f : Flt} : (textOf f).length ≤ 10000 := by
 unfold textOf; split
 ·rename_i h
  obtain ⟨_, hok⟩ := fltIs_fn h
  unfold fltText; split
  ·decide
  ·have hs : (toFN f).sub.length ≤ 32 := by
    rcases hok.sub with e | e
    ·rw [e]; simp
    ·exact isSub_len e
   have := fltJoin_len (toFN f) hs hok.pn hok.tn hok.vn
   omega
 ·decide
theorem rfText_no (r : Rf) (HV : Hid (refIs r 4 = false)) (w : World) (hl : Laid w) :
 Calls Tryz.prog 39 #[.agg r.cells] w fun e w' => e = .returned (.string ⟨#[]⟩) ∧ Below w.heap.size w w' := by
 have r0 := Lib.hid (heap_alloc_new w (.cells r.cells TRf))
 have hl1 := hl.alloc (.cells r.cells TRf)
 go_enter Tryz.func39, Tryz.ntmps39
 go_wp2_with (first | refine wpList_load_row rfl TRf (.tmp 1) rfl w.heap.size rfl TRf r.cells (0, 0) _ r0.out Tryz.underlying27 rfl infoTRf ?_ | (go_at_call 54; (with_reducible refine (rfIs_v r 4 false HV _ hl1).mono ?_); rintro e w1 ⟨rfl, hb1⟩))
 go_ret
 exact ⟨rfl, below_two ((Below.refl _ _).alloc (Nat.le_refl _) _) hb1⟩
theorem rfText_k1 (w : World) (hl : Laid w) :
 Calls Tryz.prog 39 #[.agg (Rf.cells ⟨1, 0, zeroF⟩)] w fun e w' => e = .returned (.string (B (wd refT 1))) ∧ Below w.heap.size w w' := by
 have HV : Hid (refIs ⟨1, 0, zeroF⟩ 4 = true) := Lib.hid (by kernel_rfl)
 have r0 := Lib.hid (heap_alloc_new w (.cells (Rf.cells ⟨1, 0, zeroF⟩) TRf))
 have hl1 := hl.alloc (.cells (Rf.cells ⟨1, 0, zeroF⟩) TRf)
 have k0 : Hid (Below w.heap.size w (w.alloc (.cells (Rf.cells ⟨1, 0, zeroF⟩) TRf))) := Lib.hid ((Below.refl _ _).alloc (Nat.le_refl _) _)
 go_enter Tryz.func39, Tryz.ntmps39
 go_wp2_with (first | refine wpList_load_row rfl TRf (.tmp 1) rfl w.heap.size rfl TRf (Rf.cells ⟨1, 0, zeroF⟩) (0, 0) _ r0.out Tryz.underlying27 rfl infoTRf ?_ | (go_at_call 54; (with_reducible refine (rfIs_v ⟨1, 0, zeroF⟩ 4 true HV _ hl1).mono ?_); rintro e w1 ⟨rfl, hb1⟩; have r1 := blk_new hb1; have k1 := Lib.hid (below_two k0.out hb1); have hl2 := hl1.below hb1; have q0 : World.cell? _ ⟨w.heap.size, 0, none⟩ = some (.int .i64 1) := cell_of_row _ _ 0 _ _ (0, 0) r1; have q1 : World.cell? _ ⟨w.heap.size, 1, none⟩ = some (.int .i64 0) := cell_of_row _ _ 1 _ _ (0, 0) r1; clear r1))
 go_ret
 exact ⟨rfl, k1.out⟩
theorem rfText_k2 (w : World) (hl : Laid w) :
 Calls Tryz.prog 39 #[.agg (Rf.cells ⟨2, 0, zeroF⟩)] w fun e w' => e = .returned (.string (B (wd refT 2))) ∧ Below w.heap.size w w' := by
 have HV : Hid (refIs ⟨2, 0, zeroF⟩ 4 = true) := Lib.hid (by kernel_rfl)
 have r0 := Lib.hid (heap_alloc_new w (.cells (Rf.cells ⟨2, 0, zeroF⟩) TRf))
 have hl1 := hl.alloc (.cells (Rf.cells ⟨2, 0, zeroF⟩) TRf)
 have k0 : Hid (Below w.heap.size w (w.alloc (.cells (Rf.cells ⟨2, 0, zeroF⟩) TRf))) := Lib.hid ((Below.refl _ _).alloc (Nat.le_refl _) _)
 go_enter Tryz.func39, Tryz.ntmps39
 go_wp2_with (first | refine wpList_load_row rfl TRf (.tmp 1) rfl w.heap.size rfl TRf (Rf.cells ⟨2, 0, zeroF⟩) (0, 0) _ r0.out Tryz.underlying27 rfl infoTRf ?_ | (go_at_call 54; (with_reducible refine (rfIs_v ⟨2, 0, zeroF⟩ 4 true HV _ hl1).mono ?_); rintro e w1 ⟨rfl, hb1⟩; have r1 := blk_new hb1; have k1 := Lib.hid (below_two k0.out hb1); have hl2 := hl1.below hb1; have q0 : World.cell? _ ⟨w.heap.size, 0, none⟩ = some (.int .i64 2) := cell_of_row _ _ 0 _ _ (0, 0) r1; have q1 : World.cell? _ ⟨w.heap.size, 1, none⟩ = some (.int .i64 0) := cell_of_row _ _ 1 _ _ (0, 0) r1; clear r1))
 go_ret
 exact ⟨rfl, k1.out⟩
theorem rfText_k5 (w : World) (hl : Laid w) :
 Calls Tryz.prog 39 #[.agg (Rf.cells ⟨5, 0, zeroF⟩)] w fun e w' => e = .returned (.string (B (wd refT 5))) ∧ Below w.heap.size w w' := by
 have HV : Hid (refIs ⟨5, 0, zeroF⟩ 4 = true) := Lib.hid (by kernel_rfl)
 have r0 := Lib.hid (heap_alloc_new w (.cells (Rf.cells ⟨5, 0, zeroF⟩) TRf))
 have hl1 := hl.alloc (.cells (Rf.cells ⟨5, 0, zeroF⟩) TRf)
 have k0 : Hid (Below w.heap.size w (w.alloc (.cells (Rf.cells ⟨5, 0, zeroF⟩) TRf))) := Lib.hid ((Below.refl _ _).alloc (Nat.le_refl _) _)
 go_enter Tryz.func39, Tryz.ntmps39
 go_wp2_with (first | refine wpList_load_row rfl TRf (.tmp 1) rfl w.heap.size rfl TRf (Rf.cells ⟨5, 0, zeroF⟩) (0, 0) _ r0.out Tryz.underlying27 rfl infoTRf ?_ | (go_at_call 54; (with_reducible refine (rfIs_v ⟨5, 0, zeroF⟩ 4 true HV _ hl1).mono ?_); rintro e w1 ⟨rfl, hb1⟩; have r1 := blk_new hb1; have k1 := Lib.hid (below_two k0.out hb1); have hl2 := hl1.below hb1; have q0 : World.cell? _ ⟨w.heap.size, 0, none⟩ = some (.int .i64 5) := cell_of_row _ _ 0 _ _ (0, 0) r1; have q1 : World.cell? _ ⟨w.heap.size, 1, none⟩ = some (.int .i64 0) := cell_of_row _ _ 1 _ _ (0, 0) r1; clear r1))
 go_ret
 exact ⟨rfl, k1.out⟩
theorem rfText_k6 (w : World) (hl : Laid w) :
 Calls Tryz.prog 39 #[.agg (Rf.cells ⟨6, 0, zeroF⟩)] w fun e w' => e = .returned (.string (B (wd refT 6))) ∧ Below w.heap.size w w' := by
 have HV : Hid (refIs ⟨6, 0, zeroF⟩ 4 = true) := Lib.hid (by kernel_rfl)
 have r0 := Lib.hid (heap_alloc_new w (.cells (Rf.cells ⟨6, 0, zeroF⟩) TRf))
 have hl1 := hl.alloc (.cells (Rf.cells ⟨6, 0, zeroF⟩) TRf)
 have k0 : Hid (Below w.heap.size w (w.alloc (.cells (Rf.cells ⟨6, 0, zeroF⟩) TRf))) := Lib.hid ((Below.refl _ _).alloc (Nat.le_refl _) _)
 go_enter Tryz.func39, Tryz.ntmps39
 go_wp2_with (first | refine wpList_load_row rfl TRf (.tmp 1) rfl w.heap.size rfl TRf (Rf.cells ⟨6, 0, zeroF⟩) (0, 0) _ r0.out Tryz.underlying27 rfl infoTRf ?_ | (go_at_call 54; (with_reducible refine (rfIs_v ⟨6, 0, zeroF⟩ 4 true HV _ hl1).mono ?_); rintro e w1 ⟨rfl, hb1⟩; have r1 := blk_new hb1; have k1 := Lib.hid (below_two k0.out hb1); have hl2 := hl1.below hb1; have q0 : World.cell? _ ⟨w.heap.size, 0, none⟩ = some (.int .i64 6) := cell_of_row _ _ 0 _ _ (0, 0) r1; have q1 : World.cell? _ ⟨w.heap.size, 1, none⟩ = some (.int .i64 0) := cell_of_row _ _ 1 _ _ (0, 0) r1; clear r1))
 go_ret
 exact ⟨rfl, k1.out⟩
theorem rfText_k7 (w : World) (hl : Laid w) :
 Calls Tryz.prog 39 #[.agg (Rf.cells ⟨7, 0, zeroF⟩)] w fun e w' => e = .returned (.string (B (wd refT 7))) ∧ Below w.heap.size w w' := by
 have HV : Hid (refIs ⟨7, 0, zeroF⟩ 4 = true) := Lib.hid (by kernel_rfl)
 have r0 := Lib.hid (heap_alloc_new w (.cells (Rf.cells ⟨7, 0, zeroF⟩) TRf))
 have hl1 := hl.alloc (.cells (Rf.cells ⟨7, 0, zeroF⟩) TRf)
 have k0 : Hid (Below w.heap.size w (w.alloc (.cells (Rf.cells ⟨7, 0, zeroF⟩) TRf))) := Lib.hid ((Below.refl _ _).alloc (Nat.le_refl _) _)
 go_enter Tryz.func39, Tryz.ntmps39
 go_wp2_with (first | refine wpList_load_row rfl TRf (.tmp 1) rfl w.heap.size rfl TRf (Rf.cells ⟨7, 0, zeroF⟩) (0, 0) _ r0.out Tryz.underlying27 rfl infoTRf ?_ | (go_at_call 54; (with_reducible refine (rfIs_v ⟨7, 0, zeroF⟩ 4 true HV _ hl1).mono ?_); rintro e w1 ⟨rfl, hb1⟩; have r1 := blk_new hb1; have k1 := Lib.hid (below_two k0.out hb1); have hl2 := hl1.below hb1; have q0 : World.cell? _ ⟨w.heap.size, 0, none⟩ = some (.int .i64 7) := cell_of_row _ _ 0 _ _ (0, 0) r1; have q1 : World.cell? _ ⟨w.heap.size, 1, none⟩ = some (.int .i64 0) := cell_of_row _ _ 1 _ _ (0, 0) r1; clear r1))
 go_ret
 exact ⟨rfl, k1.out⟩
theorem rfText_k3 (n : Int) (h1 : 1 ≤ n) (h2 : n ≤ 4) (w : World) (hl : Laid w) :
 Calls Tryz.prog 39 #[.agg (Rf.cells ⟨3, n, zeroF⟩)] w fun e w' => e = .returned (.string (B (targetW ++ Lib.itoa n))) ∧ Below w.heap.size w w' := by
 have HV : Hid (refIs ⟨3, n, zeroF⟩ 4 = true) := Lib.hid (by unfold refIs kNum; simp [h1, h2, (fltEq_iff zeroF zeroF).2 rfl])
 have hil := Lib.itoa_length_le n (by omega) (by omega)
 have r0 := Lib.hid (heap_alloc_new w (.cells (Rf.cells ⟨3, n, zeroF⟩) TRf))
 have hl1 := hl.alloc (.cells (Rf.cells ⟨3, n, zeroF⟩) TRf)
 have k0 : Hid (Below w.heap.size w (w.alloc (.cells (Rf.cells ⟨3, n, zeroF⟩) TRf))) := Lib.hid ((Below.refl _ _).alloc (Nat.le_refl _) _)
 go_enter Tryz.func39, Tryz.ntmps39
 go_wp2_with (first | refine wpList_load_row rfl TRf (.tmp 1) rfl w.heap.size rfl TRf (Rf.cells ⟨3, n, zeroF⟩) (0, 0) _ r0.out Tryz.underlying27 rfl infoTRf ?_ | (go_at_call 54; (with_reducible refine (rfIs_v ⟨3, n, zeroF⟩ 4 true HV _ hl1).mono ?_); rintro e w1 ⟨rfl, hb1⟩; have r1 := blk_new hb1; have k1 := Lib.hid (below_two k0.out hb1); have hl2 := hl1.below hb1; have q0 : World.cell? _ ⟨w.heap.size, 0, none⟩ = some (.int .i64 3) := cell_of_row _ _ 0 _ _ (0, 0) r1; have q1 : World.cell? _ ⟨w.heap.size, 1, none⟩ = some (.int .i64 n) := cell_of_row _ _ 1 _ _ (0, 0) r1; clear r1) | (go_at_call 64; (with_reducible refine (numText_any n (by omega) (by omega) _ hl2).mono ?_); rintro e w2 ⟨rfl, hb2⟩))
 go_ret
 exact ⟨ret_str (B_append targetW _), below_two k1.out hb2⟩
theorem rfText_k8 (n : Int) (h1 : 1 ≤ n) (h2 : n ≤ 4) (w : World) (hl : Laid w) :
 Calls Tryz.prog 39 #[.agg (Rf.cells ⟨8, n, zeroF⟩)] w fun e w' => e = .returned (.string (B (ownerW ++ Lib.itoa n))) ∧ Below w.heap.size w w' := by
 have HV : Hid (refIs ⟨8, n, zeroF⟩ 4 = true) := Lib.hid (by unfold refIs kNum; simp [h1, h2, (fltEq_iff zeroF zeroF).2 rfl])
 have hil := Lib.itoa_length_le n (by omega) (by omega)
 have r0 := Lib.hid (heap_alloc_new w (.cells (Rf.cells ⟨8, n, zeroF⟩) TRf))
 have hl1 := hl.alloc (.cells (Rf.cells ⟨8, n, zeroF⟩) TRf)
 have k0 : Hid (Below w.heap.size w (w.alloc (.cells (Rf.cells ⟨8, n, zeroF⟩) TRf))) := Lib.hid ((Below.refl _ _).alloc (Nat.le_refl _) _)
 go_enter Tryz.func39, Tryz.ntmps39
 go_wp2_with (first | refine wpList_load_row rfl TRf (.tmp 1) rfl w.heap.size rfl TRf (Rf.cells ⟨8, n, zeroF⟩) (0, 0) _ r0.out Tryz.underlying27 rfl infoTRf ?_ | (go_at_call 54; (with_reducible refine (rfIs_v ⟨8, n, zeroF⟩ 4 true HV _ hl1).mono ?_); rintro e w1 ⟨rfl, hb1⟩; have r1 := blk_new hb1; have k1 := Lib.hid (below_two k0.out hb1); have hl2 := hl1.below hb1; have q0 : World.cell? _ ⟨w.heap.size, 0, none⟩ = some (.int .i64 8) := cell_of_row _ _ 0 _ _ (0, 0) r1; have q1 : World.cell? _ ⟨w.heap.size, 1, none⟩ = some (.int .i64 n) := cell_of_row _ _ 1 _ _ (0, 0) r1; clear r1) | (go_at_call 64; (with_reducible refine (numText_any n (by omega) (by omega) _ hl2).mono ?_); rintro e w2 ⟨rfl, hb2⟩))
 go_ret
 exact ⟨ret_str (B_append ownerW _), below_two k1.out hb2⟩
theorem rfText_k4 (f : Flt) (hf : fltIs f = true) (w : World) (hl : Laid w) :
 Calls Tryz.prog 39 #[.agg (Rf.cells ⟨4, 0, f⟩)] w fun e w' => e = .returned (.string (B (eachW ++ textOf f ++ [41]))) ∧ Below w.heap.size w w' := by
 have HV : Hid (refIs ⟨4, 0, f⟩ 4 = true) := Lib.hid (by unfold refIs kNum; simp [hf])
 have hil := textOf_lenS (f := f)
 clear hf
 have r0 := Lib.hid (heap_alloc_new w (.cells (Rf.cells ⟨4, 0, f⟩) TRf))
 have hl1 := hl.alloc (.cells (Rf.cells ⟨4, 0, f⟩) TRf)
 have k0 : Hid (Below w.heap.size w (w.alloc (.cells (Rf.cells ⟨4, 0, f⟩) TRf))) := Lib.hid ((Below.refl _ _).alloc (Nat.le_refl _) _)
 go_enter Tryz.func39, Tryz.ntmps39
 go_wp2_with (first | refine wpList_load_row rfl TRf (.tmp 1) rfl w.heap.size rfl TRf (Rf.cells ⟨4, 0, f⟩) (0, 0) _ r0.out Tryz.underlying27 rfl infoTRf ?_ | (go_at_call 54; (with_reducible refine (rfIs_v ⟨4, 0, f⟩ 4 true HV _ hl1).mono ?_); rintro e w1 ⟨rfl, hb1⟩; have r1 := blk_new hb1; have k1 := Lib.hid (below_two k0.out hb1); have hl2 := hl1.below hb1; have q0 : World.cell? _ ⟨w.heap.size, 0, none⟩ = some (.int .i64 4) := cell_of_row _ _ 0 _ _ (0, 0) r1; have q1 : World.cell? _ ⟨w.heap.size, 1, none⟩ = some (.int .i64 0) := cell_of_row _ _ 1 _ _ (0, 0) r1; have q2 : World.cell? _ ⟨w.heap.size, 2, none⟩ = some (.int .i64 f.zone) := cell_of_row _ _ 2 _ _ (0, 0) r1; have q3 : World.cell? _ ⟨w.heap.size, 3, none⟩ = some (.int .i64 f.who) := cell_of_row _ _ 3 _ _ (0, 0) r1; have q4 : World.cell? _ ⟨w.heap.size, 4, none⟩ = some (.int .i64 f.self) := cell_of_row _ _ 4 _ _ (0, 0) r1; have q5 : World.cell? _ ⟨w.heap.size, 5, none⟩ = some (.int .i64 f.types) := cell_of_row _ _ 5 _ _ (0, 0) r1; have q6 : World.cell? _ ⟨w.heap.size, 6, none⟩ = some (.int .i64 f.ntypes) := cell_of_row _ _ 6 _ _ (0, 0) r1; have q7 : World.cell? _ ⟨w.heap.size, 7, none⟩ = some (.int .i64 f.colors) := cell_of_row _ _ 7 _ _ (0, 0) r1; have q8 : World.cell? _ ⟨w.heap.size, 8, none⟩ = some (.int .i64 f.ncolors) := cell_of_row _ _ 8 _ _ (0, 0) r1; have q9 : World.cell? _ ⟨w.heap.size, 9, none⟩ = some (.string f.sub) := cell_of_row _ _ 9 _ _ (0, 0) r1; have q10 : World.cell? _ ⟨w.heap.size, 10, none⟩ = some (.int .i64 f.keys) := cell_of_row _ _ 10 _ _ (0, 0) r1; have q11 : World.cell? _ ⟨w.heap.size, 11, none⟩ = some (.int .i64 f.tap) := cell_of_row _ _ 11 _ _ (0, 0) r1; have q12 : World.cell? _ ⟨w.heap.size, 12, none⟩ = some (.int .i64 f.pk) := cell_of_row _ _ 12 _ _ (0, 0) r1; have q13 : World.cell? _ ⟨w.heap.size, 13, none⟩ = some (.int .i64 f.pn) := cell_of_row _ _ 13 _ _ (0, 0) r1; have q14 : World.cell? _ ⟨w.heap.size, 14, none⟩ = some (.int .i64 f.tk) := cell_of_row _ _ 14 _ _ (0, 0) r1; have q15 : World.cell? _ ⟨w.heap.size, 15, none⟩ = some (.int .i64 f.tn) := cell_of_row _ _ 15 _ _ (0, 0) r1; have q16 : World.cell? _ ⟨w.heap.size, 16, none⟩ = some (.int .i64 f.vk) := cell_of_row _ _ 16 _ _ (0, 0) r1; have q17 : World.cell? _ ⟨w.heap.size, 17, none⟩ = some (.int .i64 f.vn) := cell_of_row _ _ 17 _ _ (0, 0) r1; clear r1) | (go_at_call 44; (with_reducible refine (flt_text_lit f _ hl2).mono ?_); rintro e w2 ⟨rfl, hb2⟩))
 go_ret
 exact ⟨ret_str (by rw [show (⟨#[101, 97, 99, 104, 40]⟩ : ByteArray) = B eachW from rfl, show (⟨#[41]⟩ : ByteArray) = B [41] from rfl, B_append, B_append]), below_two k1.out hb2⟩
theorem rfText_v (r : Rf) (w : World) (hl : Laid w) :
 Calls Tryz.prog 39 #[.agg r.cells] w fun e w' => e = .returned (.string (B (refText r))) ∧ Below w.heap.size w w' := by
 cases hv : refIs r 4 with
 | false => exact (rfText_no r (Lib.hid hv) w hl).mono fun e w' ⟨he, hb⟩ => ⟨by rw [he, refText_no hv]; rfl, hb⟩
 | true =>
   have ht : refText r = refBody r := if_pos hv
   rw [ht]
   rcases refIs_cases hv with rfl | rfl | rfl | rfl | rfl | (rfl | rfl | rfl | rfl) | (rfl | rfl | rfl | rfl) | ⟨f, hf, rfl⟩
   ·exact rfText_k1 w hl
   ·exact rfText_k2 w hl
   ·exact rfText_k5 w hl
   ·exact rfText_k6 w hl
   ·exact rfText_k7 w hl
   ·exact rfText_k3 1 (by omega) (by omega) w hl
   ·exact rfText_k3 2 (by omega) (by omega) w hl
   ·exact rfText_k3 3 (by omega) (by omega) w hl
   ·exact rfText_k3 4 (by omega) (by omega) w hl
   ·exact rfText_k8 1 (by omega) (by omega) w hl
   ·exact rfText_k8 2 (by omega) (by omega) w hl
   ·exact rfText_k8 3 (by omega) (by omega) w hl
   ·exact rfText_k8 4 (by omega) (by omega) w hl
   ·exact rfText_k4 f hf w hl
theorem rcells_one (r : Rf) : r.cells.all (·.oneCell') = true := by simp [Rf.cells, Value.oneCell']
theorem cutPre_is (s p : ByteArray) (w : World) (pl : Str) (hp : L p = pl) (r : Str) (b : Bool) (h : Hid (Lib.trimPrefix (L s) pl = r ∧ Lib.hasPrefix (L s) pl = b)) :
 Calls Tryz.prog 177 #[.string s, .string p] w fun e w' => e = .returned (.tuple #[.string (B r), .bool b]) ∧ w = w' :=
 (cutPrefix_any s p w pl hp).mono fun e w' h' => ⟨by rw [h'.1, h.out.1, h.out.2], h'.2⟩
theorem cutSuf_is (s p : ByteArray) (w : World) (hs : s.size < 1000000000) (pl : Str) (hp : L p = pl) (r : Str) (b : Bool) (h : Hid (Lib.trimSuffix (L s) pl = r ∧ Lib.hasSuffix (L s) pl = b)) :
 Calls Tryz.prog 178 #[.string s, .string p] w fun e w' => e = .returned (.tuple #[.string (B r), .bool b]) ∧ w = w' := by
 subst hp
 exact (Tryz.strings_CutSuffix s p w (by omega)).mono fun e w' h' => ⟨h'.1.trans (by rw [← h.out.1, ← h.out.2]; rfl), h'.2.symm⟩
theorem numberS_is (s : ByteArray) (w : World) (hl : Laid w) (hs : s.size < 4294967281) (n : Int) (b : Bool) (h : Hid (numRet (numOf (L s)) = .tuple #[.int .i64 n, .bool b])) :
 Calls Tryz.prog 179 #[.string s] w fun e w' => e = .returned (.tuple #[.int .i64 n, .bool b]) ∧ Below w.heap.size w w' :=
 (number_any s w hl hs).mono fun e w' h' => ⟨by rw [h'.1, h.out], h'.2⟩
theorem numRet_form (o : Option Int) : ∃ n b, numRet o = .tuple #[.int .i64 n, .bool b] ∧ (b = true → o = some n) ∧ (b = false → o = none) := by
 cases o with
 | none => exact ⟨0, false, rfl, (fun h => by cases h), fun _ => rfl⟩
 | some n => exact ⟨n, true, rfl, fun _ => rfl, fun h => by cases h⟩
def RetNum (k : Int) (o : Option Int) (w : World) (e : Ending) (w' : World) : Prop := ∃ n, ∃ b, e = .returned (.tuple #[.agg (Rf.cells ⟨k, n, zeroF⟩), .bool b]) ∧ Below w.heap.size w w' ∧ (b = true → o = some n) ∧ (b = false → o = none)
theorem numbered_any (s p : ByteArray) (pl : Str) (hp : L p = pl) (k : Int) (hs : s.size < 100000000) (w : World) (hl : Laid w) :
 Calls Tryz.prog 176 #[.string s, .string p, .int .i64 k] w (RetNum k (readNum (L s) pl) w) := by
 obtain ⟨r, hr⟩ : ∃ r, Lib.trimPrefix (L s) pl = r := ⟨_, rfl⟩
 obtain ⟨b, hb⟩ : ∃ b, Lib.hasPrefix (L s) pl = b := ⟨_, rfl⟩
 have hrl : r.length < 100000000 := by have := Lib.trimPrefix_le (L s) pl; rw [hr, size_l] at this; omega
 obtain ⟨n, c, hn, hn1, hn2⟩ := numRet_form (numOf r)
 have HC := Lib.hid (And.intro hr hb)
 have HN : Hid (numRet (numOf (L (B r))) = .tuple #[.int .i64 n, .bool c]) := Lib.hid hn
 have hO : readNum (L s) pl = if b = true then numOf r else none := by unfold readNum; rw [hb, hr]
 generalize readNum (L s) pl = O at *
 have HO := Lib.hid hO
 have H12 := Lib.hid (And.intro hn1 hn2)
 have hl1 := hl.alloc (.cells zeroR.cells TRf)
 have r0 := Lib.hid (heap_alloc_new w (.cells zeroR.cells TRf))
 have hrs : (B r).size < 4294967281 := by rw [B_size]; omega
 have HRS := Lib.hid hrs
 clear hr hb hn hn1 hn2 hO hrs
 cases b
 all_goals
  go_enter Tryz.func176, Tryz.ntmps176
  go_wp2_with (first | (go_at_call 177; (with_reducible refine (cutPre_is s p _ pl hp r _ HC).mono ?_); rintro e w0 ⟨rfl, rfl⟩) | (go_at_call 179; (with_reducible refine (numberS_is (B r) _ (hl.alloc _) HRS.out n c HN).mono ?_); rintro e w1 ⟨rfl, hb1⟩; have r1 := Lib.hid (blk_new hb1)) | refine wpList_store_row rfl TRf (.tmp 6) (.tmp 25) rfl w.heap.size (Rf.cells ⟨k, n, zeroF⟩) rfl rfl TRf zeroR.cells r1.out infoTRf rfl (rcells_one _) ?_)
 ·refine bodyPost_ret (results_row_tmp rfl _ _ w.heap.size TRf (Rf.cells ⟨k, n, zeroF⟩) (0, 0) _ rfl (row_set r1.out) Tryz.underlying27 rfl infoTRf) rfl ⟨n, false, rfl, below_setRow (below_two ((Below.refl _ _).alloc (Nat.le_refl _) _) hb1) (Nat.le_refl _) _, (fun h => by cases h), fun _ => HO.out⟩
 ·refine bodyPost_ret (results_row_tmp rfl _ _ w.heap.size TRf (Rf.cells ⟨k, n, zeroF⟩) (0, 0) _ rfl (row_set r1.out) Tryz.underlying27 rfl infoTRf) rfl ⟨n, c, rfl, below_setRow (below_two ((Below.refl _ _).alloc (Nat.le_refl _) _) hb1) (Nat.le_refl _) _, fun h => HO.out.trans (H12.out.1 h), fun h => HO.out.trans (H12.out.2 h)⟩
theorem read_w0 (s : ByteArray) (w : World)  (h : L s = wd refT 1) :
 Calls Tryz.prog 137 #[.string s] w fun e w' => e = .returned (.agg (Rf.cells ⟨1, 0, zeroF⟩)) ∧ Below w.heap.size w w' := by
 have t0 : (s.toList == [121, 111, 117]) = true := toList_lit_yes h
 have r0 := Lib.hid (heap_alloc_new w (.cells zeroR.cells TRf))
 clear h
 go_enter Tryz.func137, Tryz.ntmps137
 go_wp2_with (refine wpList_store_row rfl TRf (.tmp 2) (.tmp 16) rfl w.heap.size (Rf.cells ⟨1, 0, zeroF⟩) rfl rfl TRf zeroR.cells r0.out infoTRf rfl (rcells_one _) ?_)
 exact bodyPost_ret (results_cell_row rfl _ _ w.heap.size TRf (Rf.cells ⟨1, 0, zeroF⟩) (0, 0) _ rfl (row_set r0.out) Tryz.underlying27 rfl infoTRf) rfl ⟨rfl, below_setRow ((Below.refl _ _).alloc (Nat.le_refl _) _) (Nat.le_refl _) _⟩
theorem read_w1 (s : ByteArray) (w : World) (n0 : ¬ L s = wd refT 1) (h : L s = wd refT 2) :
 Calls Tryz.prog 137 #[.string s] w fun e w' => e = .returned (.agg (Rf.cells ⟨2, 0, zeroF⟩)) ∧ Below w.heap.size w w' := by
 have t0 : (s.toList == [121, 111, 117]) = false := toList_lit_no n0
 have t1 : (s.toList == [115, 101, 108, 102]) = true := toList_lit_yes h
 have r0 := Lib.hid (heap_alloc_new w (.cells zeroR.cells TRf))
 clear h n0
 go_enter Tryz.func137, Tryz.ntmps137
 go_wp2_with (refine wpList_store_row rfl TRf (.tmp 2) (.tmp 19) rfl w.heap.size (Rf.cells ⟨2, 0, zeroF⟩) rfl rfl TRf zeroR.cells r0.out infoTRf rfl (rcells_one _) ?_)
 exact bodyPost_ret (results_cell_row rfl _ _ w.heap.size TRf (Rf.cells ⟨2, 0, zeroF⟩) (0, 0) _ rfl (row_set r0.out) Tryz.underlying27 rfl infoTRf) rfl ⟨rfl, below_setRow ((Below.refl _ _).alloc (Nat.le_refl _) _) (Nat.le_refl _) _⟩
theorem read_w2 (s : ByteArray) (w : World) (n0 : ¬ L s = wd refT 1) (n1 : ¬ L s = wd refT 2) (h : L s = wd refT 5) :
 Calls Tryz.prog 137 #[.string s] w fun e w' => e = .returned (.agg (Rf.cells ⟨5, 0, zeroF⟩)) ∧ Below w.heap.size w w' := by
 have t0 : (s.toList == [121, 111, 117]) = false := toList_lit_no n0
 have t1 : (s.toList == [115, 101, 108, 102]) = false := toList_lit_no n1
 have t2 : (s.toList == [111, 112, 112, 111, 110, 101, 110, 116, 115]) = true := toList_lit_yes h
 have r0 := Lib.hid (heap_alloc_new w (.cells zeroR.cells TRf))
 clear h n0 n1
 go_enter Tryz.func137, Tryz.ntmps137
 go_wp2_with (refine wpList_store_row rfl TRf (.tmp 2) (.tmp 22) rfl w.heap.size (Rf.cells ⟨5, 0, zeroF⟩) rfl rfl TRf zeroR.cells r0.out infoTRf rfl (rcells_one _) ?_)
 exact bodyPost_ret (results_cell_row rfl _ _ w.heap.size TRf (Rf.cells ⟨5, 0, zeroF⟩) (0, 0) _ rfl (row_set r0.out) Tryz.underlying27 rfl infoTRf) rfl ⟨rfl, below_setRow ((Below.refl _ _).alloc (Nat.le_refl _) _) (Nat.le_refl _) _⟩
theorem read_w3 (s : ByteArray) (w : World) (n0 : ¬ L s = wd refT 1) (n1 : ¬ L s = wd refT 2) (n2 : ¬ L s = wd refT 5) (h : L s = wd refT 6) :
 Calls Tryz.prog 137 #[.string s] w fun e w' => e = .returned (.agg (Rf.cells ⟨6, 0, zeroF⟩)) ∧ Below w.heap.size w w' := by
 have t0 : (s.toList == [121, 111, 117]) = false := toList_lit_no n0
 have t1 : (s.toList == [115, 101, 108, 102]) = false := toList_lit_no n1
 have t2 : (s.toList == [111, 112, 112, 111, 110, 101, 110, 116, 115]) = false := toList_lit_no n2
 have t3 : (s.toList == [112, 108, 97, 121, 101, 114, 115]) = true := toList_lit_yes h
 have r0 := Lib.hid (heap_alloc_new w (.cells zeroR.cells TRf))
 clear h n0 n1 n2
 go_enter Tryz.func137, Tryz.ntmps137
 go_wp2_with (refine wpList_store_row rfl TRf (.tmp 2) (.tmp 25) rfl w.heap.size (Rf.cells ⟨6, 0, zeroF⟩) rfl rfl TRf zeroR.cells r0.out infoTRf rfl (rcells_one _) ?_)
 exact bodyPost_ret (results_cell_row rfl _ _ w.heap.size TRf (Rf.cells ⟨6, 0, zeroF⟩) (0, 0) _ rfl (row_set r0.out) Tryz.underlying27 rfl infoTRf) rfl ⟨rfl, below_setRow ((Below.refl _ _).alloc (Nat.le_refl _) _) (Nat.le_refl _) _⟩
theorem read_w4 (s : ByteArray) (w : World) (n0 : ¬ L s = wd refT 1) (n1 : ¬ L s = wd refT 2) (n2 : ¬ L s = wd refT 5) (n3 : ¬ L s = wd refT 6) (h : L s = wd refT 7) :
 Calls Tryz.prog 137 #[.string s] w fun e w' => e = .returned (.agg (Rf.cells ⟨7, 0, zeroF⟩)) ∧ Below w.heap.size w w' := by
 have t0 : (s.toList == [121, 111, 117]) = false := toList_lit_no n0
 have t1 : (s.toList == [115, 101, 108, 102]) = false := toList_lit_no n1
 have t2 : (s.toList == [111, 112, 112, 111, 110, 101, 110, 116, 115]) = false := toList_lit_no n2
 have t3 : (s.toList == [112, 108, 97, 121, 101, 114, 115]) = false := toList_lit_no n3
 have t4 : (s.toList == [105, 116]) = true := toList_lit_yes h
 have r0 := Lib.hid (heap_alloc_new w (.cells zeroR.cells TRf))
 clear h n0 n1 n2 n3
 go_enter Tryz.func137, Tryz.ntmps137
 go_wp2_with (refine wpList_store_row rfl TRf (.tmp 2) (.tmp 28) rfl w.heap.size (Rf.cells ⟨7, 0, zeroF⟩) rfl rfl TRf zeroR.cells r0.out infoTRf rfl (rcells_one _) ?_)
 exact bodyPost_ret (results_cell_row rfl _ _ w.heap.size TRf (Rf.cells ⟨7, 0, zeroF⟩) (0, 0) _ rfl (row_set r0.out) Tryz.underlying27 rfl infoTRf) rfl ⟨rfl, below_setRow ((Below.refl _ _).alloc (Nat.le_refl _) _) (Nat.le_refl _) _⟩
theorem read_target (s : ByteArray) (hs : s.size < 100000000) (w : World) (hl : Laid w) (n0 : ¬ L s = wd refT 1) (n1 : ¬ L s = wd refT 2) (n2 : ¬ L s = wd refT 5) (n3 : ¬ L s = wd refT 6) (n4 : ¬ L s = wd refT 7) (m : Int) (HO : Hid (readNum (L s) targetW = some m)) :
 Calls Tryz.prog 137 #[.string s] w fun e w' => e = .returned (.agg (Rf.cells ⟨3, m, zeroF⟩)) ∧ Below w.heap.size w w' := by
 have t0 : (s.toList == [121, 111, 117]) = false := toList_lit_no n0
 have t1 : (s.toList == [115, 101, 108, 102]) = false := toList_lit_no n1
 have t2 : (s.toList == [111, 112, 112, 111, 110, 101, 110, 116, 115]) = false := toList_lit_no n2
 have t3 : (s.toList == [112, 108, 97, 121, 101, 114, 115]) = false := toList_lit_no n3
 have t4 : (s.toList == [105, 116]) = false := toList_lit_no n4
 have r0 := Lib.hid (heap_alloc_new w (.cells zeroR.cells TRf))
 have hl1 := hl.alloc (.cells zeroR.cells TRf)
 have k0 : Hid (Below w.heap.size w (w.alloc (.cells zeroR.cells TRf))) := Lib.hid ((Below.refl _ _).alloc (Nat.le_refl _) _)
 clear n0 n1 n2 n3 n4
 go_enter Tryz.func137, Tryz.ntmps137
 go_wp2_with fail
 refine (numbered_any s ⟨#[116, 97, 114, 103, 101, 116]⟩ targetW rfl 3 hs _ hl1).mono ?_
 rintro e w1 ⟨n, b, rfl, hb1, hy, hn⟩
 have r1 := Lib.hid (blk_new hb1)
 have k1 := Lib.hid (below_two k0.out hb1)
 have hl1b := hl1.below hb1
 obtain rfl : b = true := by
  cases b with
  | true => rfl
  | false => have := hn rfl; rw [HO.out] at this; cases this
 have hm := hy rfl
 rw [HO.out] at hm
 injection hm with hm
 subst hm
 clear hy hn
 dsimp only
 go_wp2_with (first | refine wpList_load_row rfl TRf (.tmp 3) rfl w1.heap.size rfl TRf (Rf.cells ⟨3, m, zeroF⟩) (0, 0) _ r2n.out Tryz.underlying27 rfl infoTRf ?_ | (refine wpList_store_row rfl TRf (.tmp 3) (.tmp 32) rfl w1.heap.size (Rf.cells ⟨3, m, zeroF⟩) rfl rfl TRf zeroR.cells (heap_alloc_new w1 _) infoTRf rfl (rcells_one _) ?_; change wpList _ _ _ _ _ (stored w1 TRf zeroR.cells (Rf.cells ⟨3, m, zeroF⟩)); have r2n := Lib.hid (stored_new w1 TRf zeroR.cells (Rf.cells ⟨3, m, zeroF⟩)); have r2 := Lib.hid (stored_old (t := TRf) (o := zeroR.cells) (cs := Rf.cells ⟨3, m, zeroF⟩) r1.out); have k2 := Lib.hid (k1.out.trans ((stored_below w1 TRf zeroR.cells (Rf.cells ⟨3, m, zeroF⟩)).mono k1.out.size)); have hl2 := hl1b.below (stored_below w1 TRf zeroR.cells (Rf.cells ⟨3, m, zeroF⟩)); generalize stored w1 TRf zeroR.cells (Rf.cells ⟨3, m, zeroF⟩) = w2 at *) | refine wpList_store_row rfl TRf (.tmp 2) (.tmp 35) rfl w.heap.size (Rf.cells ⟨3, m, zeroF⟩) rfl rfl TRf zeroR.cells r2.out infoTRf rfl (rcells_one _) ?_)
 exact bodyPost_ret (results_cell_row rfl _ _ w.heap.size TRf (Rf.cells ⟨3, m, zeroF⟩) (0, 0) _ rfl (row_set r2.out) Tryz.underlying27 rfl infoTRf) rfl ⟨rfl, below_setRow k2.out (Nat.le_refl _) _⟩
theorem read_owner (s : ByteArray) (hs : s.size < 100000000) (w : World) (hl : Laid w) (n0 : ¬ L s = wd refT 1) (n1 : ¬ L s = wd refT 2) (n2 : ¬ L s = wd refT 5) (n3 : ¬ L s = wd refT 6) (n4 : ¬ L s = wd refT 7) (HO1 : Hid (readNum (L s) targetW = none)) (m : Int) (HO : Hid (readNum (L s) ownerW = some m)) :
 Calls Tryz.prog 137 #[.string s] w fun e w' => e = .returned (.agg (Rf.cells ⟨8, m, zeroF⟩)) ∧ Below w.heap.size w w' := by
 have t0 : (s.toList == [121, 111, 117]) = false := toList_lit_no n0
 have t1 : (s.toList == [115, 101, 108, 102]) = false := toList_lit_no n1
 have t2 : (s.toList == [111, 112, 112, 111, 110, 101, 110, 116, 115]) = false := toList_lit_no n2
 have t3 : (s.toList == [112, 108, 97, 121, 101, 114, 115]) = false := toList_lit_no n3
 have t4 : (s.toList == [105, 116]) = false := toList_lit_no n4
 have r0 := Lib.hid (heap_alloc_new w (.cells zeroR.cells TRf))
 have hl1 := hl.alloc (.cells zeroR.cells TRf)
 have k0 : Hid (Below w.heap.size w (w.alloc (.cells zeroR.cells TRf))) := Lib.hid ((Below.refl _ _).alloc (Nat.le_refl _) _)
 clear n0 n1 n2 n3 n4
 go_enter Tryz.func137, Tryz.ntmps137
 go_wp2_with fail
 refine (numbered_any s ⟨#[116, 97, 114, 103, 101, 116]⟩ targetW rfl 3 hs _ hl1).mono ?_
 rintro e w1 ⟨n, b, rfl, hb1, hy, hn⟩
 have r1 := Lib.hid (blk_new hb1)
 have k1 := Lib.hid (below_two k0.out hb1)
 have hl1b := hl1.below hb1
 obtain rfl : b = false := by
  cases b with
  | false => rfl
  | true => have := hy rfl; rw [HO1.out] at this; cases this
 clear hy hn hb1
 dsimp only
 go_wp2_with (refine wpList_store_row rfl TRf (.tmp 3) (.tmp 32) rfl w1.heap.size (Rf.cells ⟨3, n, zeroF⟩) rfl rfl TRf zeroR.cells (heap_alloc_new w1 _) infoTRf rfl (rcells_one _) ?_; change wpList _ _ _ _ _ (stored w1 TRf zeroR.cells (Rf.cells ⟨3, n, zeroF⟩)); have r2n := Lib.hid (stored_new w1 TRf zeroR.cells (Rf.cells ⟨3, n, zeroF⟩)); have r2 := Lib.hid (stored_old (t := TRf) (o := zeroR.cells) (cs := Rf.cells ⟨3, n, zeroF⟩) r1.out); have k2 := Lib.hid (k1.out.trans ((stored_below w1 TRf zeroR.cells (Rf.cells ⟨3, n, zeroF⟩)).mono k1.out.size)); have hl2 := hl1b.below (stored_below w1 TRf zeroR.cells (Rf.cells ⟨3, n, zeroF⟩)); generalize stored w1 TRf zeroR.cells (Rf.cells ⟨3, n, zeroF⟩) = w2 at *)
 refine (numbered_any s ⟨#[111, 119, 110, 101, 114]⟩ ownerW rfl 8 hs _ hl2).mono ?_
 rintro e w3 ⟨m2, b, rfl, hb3, hy, hn⟩
 have r3 := Lib.hid (blk_below2 hb3 r2.out)
 have k3 := Lib.hid (below_two k2.out hb3)
 have hl3 := hl2.below hb3
 obtain rfl : b = true := by
  cases b with
  | true => rfl
  | false => have := hn rfl; rw [HO.out] at this; cases this
 have hm := hy rfl
 rw [HO.out] at hm
 injection hm with hm
 subst hm
 clear hy hn hb3
 dsimp only
 go_wp2_with (first | refine wpList_load_row rfl TRf (.tmp 5) rfl w3.heap.size rfl TRf (Rf.cells ⟨8, m, zeroF⟩) (0, 0) _ r4n.out Tryz.underlying27 rfl infoTRf ?_ | (refine wpList_store_row rfl TRf (.tmp 5) (.tmp 39) rfl w3.heap.size (Rf.cells ⟨8, m, zeroF⟩) rfl rfl TRf zeroR.cells (heap_alloc_new w3 _) infoTRf rfl (rcells_one _) ?_; change wpList _ _ _ _ _ (stored w3 TRf zeroR.cells (Rf.cells ⟨8, m, zeroF⟩)); have r4n := Lib.hid (stored_new w3 TRf zeroR.cells (Rf.cells ⟨8, m, zeroF⟩)); have r4 := Lib.hid (stored_old (t := TRf) (o := zeroR.cells) (cs := Rf.cells ⟨8, m, zeroF⟩) r3.out); have k4 := Lib.hid (k3.out.trans ((stored_below w3 TRf zeroR.cells (Rf.cells ⟨8, m, zeroF⟩)).mono k3.out.size)); have hl4 := hl3.below (stored_below w3 TRf zeroR.cells (Rf.cells ⟨8, m, zeroF⟩)); generalize stored w3 TRf zeroR.cells (Rf.cells ⟨8, m, zeroF⟩) = w4 at *) | refine wpList_store_row rfl TRf (.tmp 2) (.tmp 42) rfl w.heap.size (Rf.cells ⟨8, m, zeroF⟩) rfl rfl TRf zeroR.cells r4.out infoTRf rfl (rcells_one _) ?_)
 exact bodyPost_ret (results_cell_row rfl _ _ w.heap.size TRf (Rf.cells ⟨8, m, zeroF⟩) (0, 0) _ rfl (row_set r4.out) Tryz.underlying27 rfl infoTRf) rfl ⟨rfl, below_setRow k4.out (Nat.le_refl _) _⟩
theorem fltParse_is (s : ByteArray) (hs : s.size < 100000000) (w : World) (hl : Laid w) (G : Flt) (c : Int) (h : Hid (fltRet (parseS (L s)) = .tuple #[.agg G.cells, .int .i64 c])) :
 Calls Tryz.prog 88 #[.string s] w fun e w' => e = .returned (.tuple #[.agg G.cells, .int .i64 c]) ∧ Below w.heap.size w w' :=
 (fltParse_any s w hl hs).mono fun e w' h' => ⟨by rw [h'.1, h.out], h'.2⟩
theorem wpList_build2 {P : Program} {ops : Array Oper} {rest : List Oper} {o : Oper} {a : Act} {w : World} {Q : Exit → Act → World → Prop} (hgd : o.guard = none) (ty : TypeId) (i j : Nat) (x y : Operand) (ho : o.op = .build ty #[(i, x), (j, y)])
 (p q v : Value) (hx : a.eval x = p) (hy : a.eval y = q) (hv : (Instr.build ty #[(i, p), (j, q)]).run P w = .ok v w) (h : wpList P ops Q rest (a.put o.dst v) w) : wpList P ops Q (o :: rest) a w :=
 wpList_plain hgd fun _ hK => by
  unfold Oper.wp execOp
  simp only [ho, List.map_toArray, List.map_cons, List.map_nil, hx, hy, Sem.run_bind, hv, Sem.run_pure, Result.andThen_ok]
  exact hK _ _ h
theorem build_each (f : Flt) (w : World) : (Instr.build TRf #[(0, .int .i64 4), (2, .agg f.cells)]).run Tryz.prog w = .ok (.agg (Rf.cells ⟨4, 0, f⟩)) w := by kernel_rfl
theorem read_eachW (s : ByteArray) (hs : s.size < 100000000) (w : World) (hl : Laid w) (n0 : ¬ L s = wd refT 1) (n1 : ¬ L s = wd refT 2) (n2 : ¬ L s = wd refT 5) (n3 : ¬ L s = wd refT 6) (n4 : ¬ L s = wd refT 7) (HO1 : Hid (readNum (L s) targetW = none)) (HO2 : Hid (readNum (L s) ownerW = none)) (r i : Str) (G : Flt) (H1 : Hid (Lib.trimPrefix (L s) eachW = r ∧ Lib.hasPrefix (L s) eachW = true)) (H2 : Hid (Lib.trimSuffix (L (B r)) [41] = i ∧ Lib.hasSuffix (L (B r)) [41] = true)) (H3 : Hid (fltRet (parseS (L (B i))) = .tuple #[.agg G.cells, .int .i64 0])) (hrl : Hid ((B r).size < 1000000000)) (hil : Hid ((B i).size < 100000000)) :
 Calls Tryz.prog 137 #[.string s] w fun e w' => e = .returned (.agg (Rf.cells ⟨4, 0, G⟩)) ∧ Below w.heap.size w w' := by
 have e1 : L ⟨#[101, 97, 99, 104, 40]⟩ = eachW := rfl
 have e2 : L ⟨#[41]⟩ = [41] := rfl
 have t0 : (s.toList == [121, 111, 117]) = false := toList_lit_no n0
 have t1 : (s.toList == [115, 101, 108, 102]) = false := toList_lit_no n1
 have t2 : (s.toList == [111, 112, 112, 111, 110, 101, 110, 116, 115]) = false := toList_lit_no n2
 have t3 : (s.toList == [112, 108, 97, 121, 101, 114, 115]) = false := toList_lit_no n3
 have t4 : (s.toList == [105, 116]) = false := toList_lit_no n4
 have r0 := Lib.hid (heap_alloc_new w (.cells zeroR.cells TRf))
 have hl1 := hl.alloc (.cells zeroR.cells TRf)
 have k0 : Hid (Below w.heap.size w (w.alloc (.cells zeroR.cells TRf))) := Lib.hid ((Below.refl _ _).alloc (Nat.le_refl _) _)
 clear n0 n1 n2 n3 n4
 go_enter Tryz.func137, Tryz.ntmps137
 go_wp2_with fail
 refine (numbered_any s ⟨#[116, 97, 114, 103, 101, 116]⟩ targetW rfl 3 hs _ hl1).mono ?_
 rintro e w1 ⟨n, b, rfl, hb1, hy, hn⟩
 have r1 := Lib.hid (blk_new hb1)
 have k1 := Lib.hid (below_two k0.out hb1)
 have hl1b := hl1.below hb1
 obtain rfl : b = false := by
  cases b with
  | false => rfl
  | true => have := hy rfl; rw [HO1.out] at this; cases this
 clear hy hn hb1
 dsimp only
 go_wp2_with (refine wpList_store_row rfl TRf (.tmp 3) (.tmp 32) rfl w1.heap.size (Rf.cells ⟨3, n, zeroF⟩) rfl rfl TRf zeroR.cells (heap_alloc_new w1 _) infoTRf rfl (rcells_one _) ?_; change wpList _ _ _ _ _ (stored w1 TRf zeroR.cells (Rf.cells ⟨3, n, zeroF⟩)); have r2n := Lib.hid (stored_new w1 TRf zeroR.cells (Rf.cells ⟨3, n, zeroF⟩)); have r2 := Lib.hid (stored_old (t := TRf) (o := zeroR.cells) (cs := Rf.cells ⟨3, n, zeroF⟩) r1.out); have k2 := Lib.hid (k1.out.trans ((stored_below w1 TRf zeroR.cells (Rf.cells ⟨3, n, zeroF⟩)).mono k1.out.size)); have hl2 := hl1b.below (stored_below w1 TRf zeroR.cells (Rf.cells ⟨3, n, zeroF⟩)); generalize stored w1 TRf zeroR.cells (Rf.cells ⟨3, n, zeroF⟩) = w2 at *)
 refine (numbered_any s ⟨#[111, 119, 110, 101, 114]⟩ ownerW rfl 8 hs _ hl2).mono ?_
 rintro e w3 ⟨m2, b, rfl, hb3, hy, hn⟩
 have r3 := Lib.hid (blk_below2 hb3 r2.out)
 have k3 := Lib.hid (below_two k2.out hb3)
 have hl3 := hl2.below hb3
 obtain rfl : b = false := by
  cases b with
  | false => rfl
  | true => have := hy rfl; rw [HO2.out] at this; cases this
 clear hy hn hb3
 dsimp only
 go_wp2_with (first | (refine wpList_store_row rfl TRf (.tmp 5) (.tmp 39) rfl w3.heap.size (Rf.cells ⟨8, m2, zeroF⟩) rfl rfl TRf zeroR.cells (heap_alloc_new w3 _) infoTRf rfl (rcells_one _) ?_; change wpList _ _ _ _ _ (stored w3 TRf zeroR.cells (Rf.cells ⟨8, m2, zeroF⟩)); have r4n := Lib.hid (stored_new w3 TRf zeroR.cells (Rf.cells ⟨8, m2, zeroF⟩)); have r4 := Lib.hid (stored_old (t := TRf) (o := zeroR.cells) (cs := Rf.cells ⟨8, m2, zeroF⟩) r3.out); have k4 := Lib.hid (k3.out.trans ((stored_below w3 TRf zeroR.cells (Rf.cells ⟨8, m2, zeroF⟩)).mono k3.out.size)); have hl4 := hl3.below (stored_below w3 TRf zeroR.cells (Rf.cells ⟨8, m2, zeroF⟩)); generalize stored w3 TRf zeroR.cells (Rf.cells ⟨8, m2, zeroF⟩) = w4 at *) | (go_at_call 177; (with_reducible refine (cutPre_is s ⟨#[101, 97, 99, 104, 40]⟩ _ eachW e1 r _ H1).mono ?_); rintro e w0 ⟨rfl, rfl⟩) | (go_at_call 178; (with_reducible refine (cutSuf_is (B r) ⟨#[41]⟩ _ hrl.out [41] e2 i _ H2).mono ?_); rintro e w0 ⟨rfl, rfl⟩) | (go_at_call 88; (with_reducible refine (fltParse_is (B i) hil.out _ hl4 G _ H3).mono ?_); rintro e w5 ⟨rfl, hb5⟩; have r5 := Lib.hid (blk_below2 hb5 r4.out); have k5 := Lib.hid (below_two k4.out hb5)) | (refine wpList_store_row rfl TF (.tmp 11) (.tmp 56) rfl w5.heap.size G.cells rfl rfl TF zeroF.cells (heap_alloc_new w5 _) infoTF rfl (cells_one _) ?_; change wpList _ _ _ _ _ (stored w5 TF zeroF.cells G.cells); have r6n := Lib.hid (stored_new w5 TF zeroF.cells G.cells); have r6 := Lib.hid (stored_old (t := TF) (o := zeroF.cells) (cs := G.cells) r5.out); have k6 := Lib.hid (k5.out.trans ((stored_below w5 TF zeroF.cells G.cells).mono k5.out.size)); generalize stored w5 TF zeroF.cells G.cells = w6 at *) | refine wpList_load_row rfl TF (.tmp 11) rfl w5.heap.size rfl TF G.cells (0, 0) _ r6n.out Tryz.underlying25 rfl infoTF ?_ | (refine wpList_store_row rfl TRf (.tmp 2) (.tmp 67) rfl w.heap.size (Rf.cells ⟨4, 0, G⟩) rfl rfl TRf zeroR.cells r6.out infoTRf rfl (rcells_one _) ?_) | refine wpList_build2 rfl TRf 0 2 (.const (.int .i64 4)) (.tmp 66) rfl (.int .i64 4) (.agg G.cells) (.agg (Rf.cells ⟨4, 0, G⟩)) rfl rfl (build_each G _) ?_)
 all_goals exact bodyPost_ret (results_cell_row rfl _ _ w.heap.size TRf (Rf.cells ⟨4, 0, G⟩) (0, 0) _ rfl (row_set r6.out) Tryz.underlying27 rfl infoTRf) rfl ⟨rfl, below_setRow k6.out (Nat.le_refl _) _⟩
theorem read_zero1 (s : ByteArray) (hs : s.size < 100000000) (w : World) (hl : Laid w) (n0 : ¬ L s = wd refT 1) (n1 : ¬ L s = wd refT 2) (n2 : ¬ L s = wd refT 5) (n3 : ¬ L s = wd refT 6) (n4 : ¬ L s = wd refT 7) (HO1 : Hid (readNum (L s) targetW = none)) (HO2 : Hid (readNum (L s) ownerW = none)) (r i : Str) (G : Flt) (en : Bool) (c : Int) (H1 : Hid (Lib.trimPrefix (L s) eachW = r ∧ Lib.hasPrefix (L s) eachW = false)) (H2 : Hid (Lib.trimSuffix (L (B r)) [41] = i ∧ Lib.hasSuffix (L (B r)) [41] = en)) (H3 : Hid (fltRet (parseS (L (B i))) = .tuple #[.agg G.cells, .int .i64 c])) (hrl : Hid ((B r).size < 1000000000)) (hil : Hid ((B i).size < 100000000)) :
 Calls Tryz.prog 137 #[.string s] w fun e w' => e = .returned (.agg (Rf.cells zeroR)) ∧ Below w.heap.size w w' := by
 have e1 : L ⟨#[101, 97, 99, 104, 40]⟩ = eachW := rfl
 have e2 : L ⟨#[41]⟩ = [41] := rfl
 have t0 : (s.toList == [121, 111, 117]) = false := toList_lit_no n0
 have t1 : (s.toList == [115, 101, 108, 102]) = false := toList_lit_no n1
 have t2 : (s.toList == [111, 112, 112, 111, 110, 101, 110, 116, 115]) = false := toList_lit_no n2
 have t3 : (s.toList == [112, 108, 97, 121, 101, 114, 115]) = false := toList_lit_no n3
 have t4 : (s.toList == [105, 116]) = false := toList_lit_no n4
 have r0 := Lib.hid (heap_alloc_new w (.cells zeroR.cells TRf))
 have hl1 := hl.alloc (.cells zeroR.cells TRf)
 have k0 : Hid (Below w.heap.size w (w.alloc (.cells zeroR.cells TRf))) := Lib.hid ((Below.refl _ _).alloc (Nat.le_refl _) _)
 clear n0 n1 n2 n3 n4
 go_enter Tryz.func137, Tryz.ntmps137
 go_wp2_with fail
 refine (numbered_any s ⟨#[116, 97, 114, 103, 101, 116]⟩ targetW rfl 3 hs _ hl1).mono ?_
 rintro e w1 ⟨n, b, rfl, hb1, hy, hn⟩
 have r1 := Lib.hid (blk_new hb1)
 have k1 := Lib.hid (below_two k0.out hb1)
 have hl1b := hl1.below hb1
 obtain rfl : b = false := by
  cases b with
  | false => rfl
  | true => have := hy rfl; rw [HO1.out] at this; cases this
 clear hy hn hb1
 dsimp only
 go_wp2_with (refine wpList_store_row rfl TRf (.tmp 3) (.tmp 32) rfl w1.heap.size (Rf.cells ⟨3, n, zeroF⟩) rfl rfl TRf zeroR.cells (heap_alloc_new w1 _) infoTRf rfl (rcells_one _) ?_; change wpList _ _ _ _ _ (stored w1 TRf zeroR.cells (Rf.cells ⟨3, n, zeroF⟩)); have r2n := Lib.hid (stored_new w1 TRf zeroR.cells (Rf.cells ⟨3, n, zeroF⟩)); have r2 := Lib.hid (stored_old (t := TRf) (o := zeroR.cells) (cs := Rf.cells ⟨3, n, zeroF⟩) r1.out); have k2 := Lib.hid (k1.out.trans ((stored_below w1 TRf zeroR.cells (Rf.cells ⟨3, n, zeroF⟩)).mono k1.out.size)); have hl2 := hl1b.below (stored_below w1 TRf zeroR.cells (Rf.cells ⟨3, n, zeroF⟩)); generalize stored w1 TRf zeroR.cells (Rf.cells ⟨3, n, zeroF⟩) = w2 at *)
 refine (numbered_any s ⟨#[111, 119, 110, 101, 114]⟩ ownerW rfl 8 hs _ hl2).mono ?_
 rintro e w3 ⟨m2, b, rfl, hb3, hy, hn⟩
 have r3 := Lib.hid (blk_below2 hb3 r2.out)
 have k3 := Lib.hid (below_two k2.out hb3)
 have hl3 := hl2.below hb3
 obtain rfl : b = false := by
  cases b with
  | false => rfl
  | true => have := hy rfl; rw [HO2.out] at this; cases this
 clear hy hn hb3
 dsimp only
 go_wp2_with (first | (refine wpList_store_row rfl TRf (.tmp 5) (.tmp 39) rfl w3.heap.size (Rf.cells ⟨8, m2, zeroF⟩) rfl rfl TRf zeroR.cells (heap_alloc_new w3 _) infoTRf rfl (rcells_one _) ?_; change wpList _ _ _ _ _ (stored w3 TRf zeroR.cells (Rf.cells ⟨8, m2, zeroF⟩)); have r4n := Lib.hid (stored_new w3 TRf zeroR.cells (Rf.cells ⟨8, m2, zeroF⟩)); have r4 := Lib.hid (stored_old (t := TRf) (o := zeroR.cells) (cs := Rf.cells ⟨8, m2, zeroF⟩) r3.out); have k4 := Lib.hid (k3.out.trans ((stored_below w3 TRf zeroR.cells (Rf.cells ⟨8, m2, zeroF⟩)).mono k3.out.size)); have hl4 := hl3.below (stored_below w3 TRf zeroR.cells (Rf.cells ⟨8, m2, zeroF⟩)); generalize stored w3 TRf zeroR.cells (Rf.cells ⟨8, m2, zeroF⟩) = w4 at *) | (go_at_call 177; (with_reducible refine (cutPre_is s ⟨#[101, 97, 99, 104, 40]⟩ _ eachW e1 r _ H1).mono ?_); rintro e w0 ⟨rfl, rfl⟩) | (go_at_call 178; (with_reducible refine (cutSuf_is (B r) ⟨#[41]⟩ _ hrl.out [41] e2 i _ H2).mono ?_); rintro e w0 ⟨rfl, rfl⟩) | (go_at_call 88; (with_reducible refine (fltParse_is (B i) hil.out _ hl4 G _ H3).mono ?_); rintro e w5 ⟨rfl, hb5⟩; have r5 := Lib.hid (blk_below2 hb5 r4.out); have k5 := Lib.hid (below_two k4.out hb5)) | (refine wpList_store_row rfl TF (.tmp 11) (.tmp 56) rfl w5.heap.size G.cells rfl rfl TF zeroF.cells (heap_alloc_new w5 _) infoTF rfl (cells_one _) ?_; change wpList _ _ _ _ _ (stored w5 TF zeroF.cells G.cells); have r6n := Lib.hid (stored_new w5 TF zeroF.cells G.cells); have r6 := Lib.hid (stored_old (t := TF) (o := zeroF.cells) (cs := G.cells) r5.out); have k6 := Lib.hid (k5.out.trans ((stored_below w5 TF zeroF.cells G.cells).mono k5.out.size)); generalize stored w5 TF zeroF.cells G.cells = w6 at *) | refine wpList_load_row rfl TF (.tmp 11) rfl w5.heap.size rfl TF G.cells (0, 0) _ r6n.out Tryz.underlying25 rfl infoTF ?_ | (refine wpList_store_row rfl TRf (.tmp 2) (.tmp 68) rfl w.heap.size zeroR.cells rfl rfl TRf zeroR.cells r6.out infoTRf rfl (rcells_one _) ?_))
 all_goals exact bodyPost_ret (results_cell_row rfl _ _ w.heap.size TRf (Rf.cells zeroR) (0, 0) _ rfl (row_set r6.out) Tryz.underlying27 rfl infoTRf) rfl ⟨rfl, below_setRow k6.out (Nat.le_refl _) _⟩
theorem read_zero2 (s : ByteArray) (hs : s.size < 100000000) (w : World) (hl : Laid w) (n0 : ¬ L s = wd refT 1) (n1 : ¬ L s = wd refT 2) (n2 : ¬ L s = wd refT 5) (n3 : ¬ L s = wd refT 6) (n4 : ¬ L s = wd refT 7) (HO1 : Hid (readNum (L s) targetW = none)) (HO2 : Hid (readNum (L s) ownerW = none)) (r i : Str) (G : Flt) (c : Int) (H1 : Hid (Lib.trimPrefix (L s) eachW = r ∧ Lib.hasPrefix (L s) eachW = true)) (H2 : Hid (Lib.trimSuffix (L (B r)) [41] = i ∧ Lib.hasSuffix (L (B r)) [41] = false)) (H3 : Hid (fltRet (parseS (L (B i))) = .tuple #[.agg G.cells, .int .i64 c])) (hrl : Hid ((B r).size < 1000000000)) (hil : Hid ((B i).size < 100000000)) :
 Calls Tryz.prog 137 #[.string s] w fun e w' => e = .returned (.agg (Rf.cells zeroR)) ∧ Below w.heap.size w w' := by
 have e1 : L ⟨#[101, 97, 99, 104, 40]⟩ = eachW := rfl
 have e2 : L ⟨#[41]⟩ = [41] := rfl
 have t0 : (s.toList == [121, 111, 117]) = false := toList_lit_no n0
 have t1 : (s.toList == [115, 101, 108, 102]) = false := toList_lit_no n1
 have t2 : (s.toList == [111, 112, 112, 111, 110, 101, 110, 116, 115]) = false := toList_lit_no n2
 have t3 : (s.toList == [112, 108, 97, 121, 101, 114, 115]) = false := toList_lit_no n3
 have t4 : (s.toList == [105, 116]) = false := toList_lit_no n4
 have r0 := Lib.hid (heap_alloc_new w (.cells zeroR.cells TRf))
 have hl1 := hl.alloc (.cells zeroR.cells TRf)
 have k0 : Hid (Below w.heap.size w (w.alloc (.cells zeroR.cells TRf))) := Lib.hid ((Below.refl _ _).alloc (Nat.le_refl _) _)
 clear n0 n1 n2 n3 n4
 go_enter Tryz.func137, Tryz.ntmps137
 go_wp2_with fail
 refine (numbered_any s ⟨#[116, 97, 114, 103, 101, 116]⟩ targetW rfl 3 hs _ hl1).mono ?_
 rintro e w1 ⟨n, b, rfl, hb1, hy, hn⟩
 have r1 := Lib.hid (blk_new hb1)
 have k1 := Lib.hid (below_two k0.out hb1)
 have hl1b := hl1.below hb1
 obtain rfl : b = false := by
  cases b with
  | false => rfl
  | true => have := hy rfl; rw [HO1.out] at this; cases this
 clear hy hn hb1
 dsimp only
 go_wp2_with (refine wpList_store_row rfl TRf (.tmp 3) (.tmp 32) rfl w1.heap.size (Rf.cells ⟨3, n, zeroF⟩) rfl rfl TRf zeroR.cells (heap_alloc_new w1 _) infoTRf rfl (rcells_one _) ?_; change wpList _ _ _ _ _ (stored w1 TRf zeroR.cells (Rf.cells ⟨3, n, zeroF⟩)); have r2n := Lib.hid (stored_new w1 TRf zeroR.cells (Rf.cells ⟨3, n, zeroF⟩)); have r2 := Lib.hid (stored_old (t := TRf) (o := zeroR.cells) (cs := Rf.cells ⟨3, n, zeroF⟩) r1.out); have k2 := Lib.hid (k1.out.trans ((stored_below w1 TRf zeroR.cells (Rf.cells ⟨3, n, zeroF⟩)).mono k1.out.size)); have hl2 := hl1b.below (stored_below w1 TRf zeroR.cells (Rf.cells ⟨3, n, zeroF⟩)); generalize stored w1 TRf zeroR.cells (Rf.cells ⟨3, n, zeroF⟩) = w2 at *)
 refine (numbered_any s ⟨#[111, 119, 110, 101, 114]⟩ ownerW rfl 8 hs _ hl2).mono ?_
 rintro e w3 ⟨m2, b, rfl, hb3, hy, hn⟩
 have r3 := Lib.hid (blk_below2 hb3 r2.out)
 have k3 := Lib.hid (below_two k2.out hb3)
 have hl3 := hl2.below hb3
 obtain rfl : b = false := by
  cases b with
  | false => rfl
  | true => have := hy rfl; rw [HO2.out] at this; cases this
 clear hy hn hb3
 dsimp only
 go_wp2_with (first | (refine wpList_store_row rfl TRf (.tmp 5) (.tmp 39) rfl w3.heap.size (Rf.cells ⟨8, m2, zeroF⟩) rfl rfl TRf zeroR.cells (heap_alloc_new w3 _) infoTRf rfl (rcells_one _) ?_; change wpList _ _ _ _ _ (stored w3 TRf zeroR.cells (Rf.cells ⟨8, m2, zeroF⟩)); have r4n := Lib.hid (stored_new w3 TRf zeroR.cells (Rf.cells ⟨8, m2, zeroF⟩)); have r4 := Lib.hid (stored_old (t := TRf) (o := zeroR.cells) (cs := Rf.cells ⟨8, m2, zeroF⟩) r3.out); have k4 := Lib.hid (k3.out.trans ((stored_below w3 TRf zeroR.cells (Rf.cells ⟨8, m2, zeroF⟩)).mono k3.out.size)); have hl4 := hl3.below (stored_below w3 TRf zeroR.cells (Rf.cells ⟨8, m2, zeroF⟩)); generalize stored w3 TRf zeroR.cells (Rf.cells ⟨8, m2, zeroF⟩) = w4 at *) | (go_at_call 177; (with_reducible refine (cutPre_is s ⟨#[101, 97, 99, 104, 40]⟩ _ eachW e1 r _ H1).mono ?_); rintro e w0 ⟨rfl, rfl⟩) | (go_at_call 178; (with_reducible refine (cutSuf_is (B r) ⟨#[41]⟩ _ hrl.out [41] e2 i _ H2).mono ?_); rintro e w0 ⟨rfl, rfl⟩) | (go_at_call 88; (with_reducible refine (fltParse_is (B i) hil.out _ hl4 G _ H3).mono ?_); rintro e w5 ⟨rfl, hb5⟩; have r5 := Lib.hid (blk_below2 hb5 r4.out); have k5 := Lib.hid (below_two k4.out hb5)) | (refine wpList_store_row rfl TF (.tmp 11) (.tmp 56) rfl w5.heap.size G.cells rfl rfl TF zeroF.cells (heap_alloc_new w5 _) infoTF rfl (cells_one _) ?_; change wpList _ _ _ _ _ (stored w5 TF zeroF.cells G.cells); have r6n := Lib.hid (stored_new w5 TF zeroF.cells G.cells); have r6 := Lib.hid (stored_old (t := TF) (o := zeroF.cells) (cs := G.cells) r5.out); have k6 := Lib.hid (k5.out.trans ((stored_below w5 TF zeroF.cells G.cells).mono k5.out.size)); generalize stored w5 TF zeroF.cells G.cells = w6 at *) | refine wpList_load_row rfl TF (.tmp 11) rfl w5.heap.size rfl TF G.cells (0, 0) _ r6n.out Tryz.underlying25 rfl infoTF ?_ | (refine wpList_store_row rfl TRf (.tmp 2) (.tmp 68) rfl w.heap.size zeroR.cells rfl rfl TRf zeroR.cells r6.out infoTRf rfl (rcells_one _) ?_))
 all_goals exact bodyPost_ret (results_cell_row rfl _ _ w.heap.size TRf (Rf.cells zeroR) (0, 0) _ rfl (row_set r6.out) Tryz.underlying27 rfl infoTRf) rfl ⟨rfl, below_setRow k6.out (Nat.le_refl _) _⟩
theorem read_zero3 (s : ByteArray) (hs : s.size < 100000000) (w : World) (hl : Laid w) (n0 : ¬ L s = wd refT 1) (n1 : ¬ L s = wd refT 2) (n2 : ¬ L s = wd refT 5) (n3 : ¬ L s = wd refT 6) (n4 : ¬ L s = wd refT 7) (HO1 : Hid (readNum (L s) targetW = none)) (HO2 : Hid (readNum (L s) ownerW = none)) (r i : Str) (G : Flt) (H1 : Hid (Lib.trimPrefix (L s) eachW = r ∧ Lib.hasPrefix (L s) eachW = true)) (H2 : Hid (Lib.trimSuffix (L (B r)) [41] = i ∧ Lib.hasSuffix (L (B r)) [41] = true)) (H3 : Hid (fltRet (parseS (L (B i))) = .tuple #[.agg G.cells, .int .i64 3])) (hrl : Hid ((B r).size < 1000000000)) (hil : Hid ((B i).size < 100000000)) :
 Calls Tryz.prog 137 #[.string s] w fun e w' => e = .returned (.agg (Rf.cells zeroR)) ∧ Below w.heap.size w w' := by
 have e1 : L ⟨#[101, 97, 99, 104, 40]⟩ = eachW := rfl
 have e2 : L ⟨#[41]⟩ = [41] := rfl
 have t0 : (s.toList == [121, 111, 117]) = false := toList_lit_no n0
 have t1 : (s.toList == [115, 101, 108, 102]) = false := toList_lit_no n1
 have t2 : (s.toList == [111, 112, 112, 111, 110, 101, 110, 116, 115]) = false := toList_lit_no n2
 have t3 : (s.toList == [112, 108, 97, 121, 101, 114, 115]) = false := toList_lit_no n3
 have t4 : (s.toList == [105, 116]) = false := toList_lit_no n4
 have r0 := Lib.hid (heap_alloc_new w (.cells zeroR.cells TRf))
 have hl1 := hl.alloc (.cells zeroR.cells TRf)
 have k0 : Hid (Below w.heap.size w (w.alloc (.cells zeroR.cells TRf))) := Lib.hid ((Below.refl _ _).alloc (Nat.le_refl _) _)
 clear n0 n1 n2 n3 n4
 go_enter Tryz.func137, Tryz.ntmps137
 go_wp2_with fail
 refine (numbered_any s ⟨#[116, 97, 114, 103, 101, 116]⟩ targetW rfl 3 hs _ hl1).mono ?_
 rintro e w1 ⟨n, b, rfl, hb1, hy, hn⟩
 have r1 := Lib.hid (blk_new hb1)
 have k1 := Lib.hid (below_two k0.out hb1)
 have hl1b := hl1.below hb1
 obtain rfl : b = false := by
  cases b with
  | false => rfl
  | true => have := hy rfl; rw [HO1.out] at this; cases this
 clear hy hn hb1
 dsimp only
 go_wp2_with (refine wpList_store_row rfl TRf (.tmp 3) (.tmp 32) rfl w1.heap.size (Rf.cells ⟨3, n, zeroF⟩) rfl rfl TRf zeroR.cells (heap_alloc_new w1 _) infoTRf rfl (rcells_one _) ?_; change wpList _ _ _ _ _ (stored w1 TRf zeroR.cells (Rf.cells ⟨3, n, zeroF⟩)); have r2n := Lib.hid (stored_new w1 TRf zeroR.cells (Rf.cells ⟨3, n, zeroF⟩)); have r2 := Lib.hid (stored_old (t := TRf) (o := zeroR.cells) (cs := Rf.cells ⟨3, n, zeroF⟩) r1.out); have k2 := Lib.hid (k1.out.trans ((stored_below w1 TRf zeroR.cells (Rf.cells ⟨3, n, zeroF⟩)).mono k1.out.size)); have hl2 := hl1b.below (stored_below w1 TRf zeroR.cells (Rf.cells ⟨3, n, zeroF⟩)); generalize stored w1 TRf zeroR.cells (Rf.cells ⟨3, n, zeroF⟩) = w2 at *)
 refine (numbered_any s ⟨#[111, 119, 110, 101, 114]⟩ ownerW rfl 8 hs _ hl2).mono ?_
 rintro e w3 ⟨m2, b, rfl, hb3, hy, hn⟩
 have r3 := Lib.hid (blk_below2 hb3 r2.out)
 have k3 := Lib.hid (below_two k2.out hb3)
 have hl3 := hl2.below hb3
 obtain rfl : b = false := by
  cases b with
  | false => rfl
  | true => have := hy rfl; rw [HO2.out] at this; cases this
 clear hy hn hb3
 dsimp only
 go_wp2_with (first | (refine wpList_store_row rfl TRf (.tmp 5) (.tmp 39) rfl w3.heap.size (Rf.cells ⟨8, m2, zeroF⟩) rfl rfl TRf zeroR.cells (heap_alloc_new w3 _) infoTRf rfl (rcells_one _) ?_; change wpList _ _ _ _ _ (stored w3 TRf zeroR.cells (Rf.cells ⟨8, m2, zeroF⟩)); have r4n := Lib.hid (stored_new w3 TRf zeroR.cells (Rf.cells ⟨8, m2, zeroF⟩)); have r4 := Lib.hid (stored_old (t := TRf) (o := zeroR.cells) (cs := Rf.cells ⟨8, m2, zeroF⟩) r3.out); have k4 := Lib.hid (k3.out.trans ((stored_below w3 TRf zeroR.cells (Rf.cells ⟨8, m2, zeroF⟩)).mono k3.out.size)); have hl4 := hl3.below (stored_below w3 TRf zeroR.cells (Rf.cells ⟨8, m2, zeroF⟩)); generalize stored w3 TRf zeroR.cells (Rf.cells ⟨8, m2, zeroF⟩) = w4 at *) | (go_at_call 177; (with_reducible refine (cutPre_is s ⟨#[101, 97, 99, 104, 40]⟩ _ eachW e1 r _ H1).mono ?_); rintro e w0 ⟨rfl, rfl⟩) | (go_at_call 178; (with_reducible refine (cutSuf_is (B r) ⟨#[41]⟩ _ hrl.out [41] e2 i _ H2).mono ?_); rintro e w0 ⟨rfl, rfl⟩) | (go_at_call 88; (with_reducible refine (fltParse_is (B i) hil.out _ hl4 G _ H3).mono ?_); rintro e w5 ⟨rfl, hb5⟩; have r5 := Lib.hid (blk_below2 hb5 r4.out); have k5 := Lib.hid (below_two k4.out hb5)) | (refine wpList_store_row rfl TF (.tmp 11) (.tmp 56) rfl w5.heap.size G.cells rfl rfl TF zeroF.cells (heap_alloc_new w5 _) infoTF rfl (cells_one _) ?_; change wpList _ _ _ _ _ (stored w5 TF zeroF.cells G.cells); have r6n := Lib.hid (stored_new w5 TF zeroF.cells G.cells); have r6 := Lib.hid (stored_old (t := TF) (o := zeroF.cells) (cs := G.cells) r5.out); have k6 := Lib.hid (k5.out.trans ((stored_below w5 TF zeroF.cells G.cells).mono k5.out.size)); generalize stored w5 TF zeroF.cells G.cells = w6 at *) | refine wpList_load_row rfl TF (.tmp 11) rfl w5.heap.size rfl TF G.cells (0, 0) _ r6n.out Tryz.underlying25 rfl infoTF ?_ | (refine wpList_store_row rfl TRf (.tmp 2) (.tmp 68) rfl w.heap.size zeroR.cells rfl rfl TRf zeroR.cells r6.out infoTRf rfl (rcells_one _) ?_))
 all_goals exact bodyPost_ret (results_cell_row rfl _ _ w.heap.size TRf (Rf.cells zeroR) (0, 0) _ rfl (row_set r6.out) Tryz.underlying27 rfl infoTRf) rfl ⟨rfl, below_setRow k6.out (Nat.le_refl _) _⟩
theorem fltRet_form (o : Option Flt) : ∃ G c, fltRet o = .tuple #[.agg (Flt.cells G), .int .i64 c] ∧ (c = 0 ∨ c = 3) ∧ (c = 0 → o = some G) ∧ (c = 3 → o = none) := by
 cases o with
 | none => exact ⟨zeroF, 3, rfl, .inr rfl, (fun h => by cases h), fun _ => rfl⟩
 | some G => exact ⟨G, 0, rfl, .inl rfl, fun _ => rfl, (fun h => by cases h)⟩
theorem trimSuf_le (s p : Str) : (Lib.trimSuffix s p).length ≤ s.length := Lib.trimSuffix_le s p
theorem read_any (s : ByteArray) (hs : s.size < 100000000) (w : World) (hl : Laid w) :
 Calls Tryz.prog 137 #[.string s] w fun e w' => e = .returned (.agg (readR (L s)).cells) ∧ Below w.heap.size w w' := by
 unfold readR
 by_cases n0 : L s = wd refT 1
 ·rw [if_pos n0]; exact read_w0 s w n0
 by_cases n1 : L s = wd refT 2
 ·rw [if_neg n0, if_pos n1]; exact read_w1 s w n0 n1
 by_cases n2 : L s = wd refT 5
 ·rw [if_neg n0, if_neg n1, if_pos n2]; exact read_w2 s w n0 n1 n2
 by_cases n3 : L s = wd refT 6
 ·rw [if_neg n0, if_neg n1, if_neg n2, if_pos n3]; exact read_w3 s w n0 n1 n2 n3
 by_cases n4 : L s = wd refT 7
 ·rw [if_neg n0, if_neg n1, if_neg n2, if_neg n3, if_pos n4]; exact read_w4 s w n0 n1 n2 n3 n4
 rw [if_neg n0, if_neg n1, if_neg n2, if_neg n3, if_neg n4]
 cases hT : readNum (L s) targetW with
 | some m => exact read_target s hs w hl n0 n1 n2 n3 n4 m (Lib.hid hT)
 | none =>
   cases hO : readNum (L s) ownerW with
   | some m => exact read_owner s hs w hl n0 n1 n2 n3 n4 (Lib.hid hT) m (Lib.hid hO)
   | none =>
     have hr := Lib.trimPrefix_le (L s) eachW
     have hi := trimSuf_le (Lib.trimPrefix (L s) eachW) [41]
     rw [size_l] at hr
     obtain ⟨G, c, hf, hc, hc0, hc3⟩ := fltRet_form (parseS (Lib.trimSuffix (Lib.trimPrefix (L s) eachW) [41]))
     have hrl : Hid ((B (Lib.trimPrefix (L s) eachW)).size < 1000000000) := Lib.hid (by rw [B_size]; omega)
     have hil : Hid ((B (Lib.trimSuffix (Lib.trimPrefix (L s) eachW) [41])).size < 100000000) := Lib.hid (by rw [B_size]; omega)
     show Calls _ _ _ _ fun e w' => e = .returned (.agg (Rf.cells (match readEach (L s) with | some f => ⟨4, 0, f⟩ | none => zeroR))) ∧ Below w.heap.size w w'
     cases hb : Lib.hasPrefix (L s) eachW with
     | false =>
       have e : readEach (L s) = none := by unfold readEach; rw [if_neg (by rw [hb]; simp)]
       rw [e]
       exact read_zero1 s hs w hl n0 n1 n2 n3 n4 (Lib.hid hT) (Lib.hid hO) _ _ G _ c (Lib.hid ⟨rfl, hb⟩) (Lib.hid ⟨rfl, rfl⟩) (Lib.hid hf) hrl hil
     | true =>
       cases he : Lib.hasSuffix (Lib.trimPrefix (L s) eachW) [41] with
       | false =>
         have e : readEach (L s) = none := by unfold readEach; rw [if_neg (by rw [he]; simp)]
         rw [e]
         exact read_zero2 s hs w hl n0 n1 n2 n3 n4 (Lib.hid hT) (Lib.hid hO) _ _ G c (Lib.hid ⟨rfl, hb⟩) (Lib.hid ⟨rfl, he⟩) (Lib.hid hf) hrl hil
       | true =>
         have e : readEach (L s) = parseS (Lib.trimSuffix (Lib.trimPrefix (L s) eachW) [41]) := by unfold readEach; rw [if_pos ⟨hb, he⟩]
         rw [e]
         rcases hc with rfl | rfl
         ·rw [hc0 rfl]
          exact read_eachW s hs w hl n0 n1 n2 n3 n4 (Lib.hid hT) (Lib.hid hO) _ _ G (Lib.hid ⟨rfl, hb⟩) (Lib.hid ⟨rfl, he⟩) (Lib.hid hf) hrl hil
         ·rw [hc3 rfl]
          exact read_zero3 s hs w hl n0 n1 n2 n3 n4 (Lib.hid hT) (Lib.hid hO) _ _ G (Lib.hid ⟨rfl, hb⟩) (Lib.hid ⟨rfl, he⟩) (Lib.hid hf) hrl hil
def refRet (o : Option Rf) : Value := match o with | some r => .tuple #[.agg r.cells, .int .i64 0] | none => .tuple #[.agg zeroR.cells, .int .i64 3]
theorem rfText_is (r : Rf) (T : ByteArray) (hT : Hid (B (refText r) = T)) (w : World) (hl : Laid w) :
 Calls Tryz.prog 39 #[.agg r.cells] w fun e w' => e = .returned (.string T) ∧ Below w.heap.size w w' :=
 (rfText_v r w hl).mono fun e w' h => ⟨by rw [h.1, hT.out], h.2⟩
theorem read_is (s : ByteArray) (hs : s.size < 100000000) (r : Rf) (hr : Hid (readR (L s) = r)) (w : World) (hl : Laid w) :
 Calls Tryz.prog 137 #[.string s] w fun e w' => e = .returned (.agg r.cells) ∧ Below w.heap.size w w' :=
 (read_any s hs w hl).mono fun e w' h => ⟨by rw [h.1, hr.out], h.2⟩
theorem rfParse_any (s : ByteArray) (w : World) (hl : Laid w) (hs : s.size < 100000000) :
 Calls Tryz.prog 82 #[.string s] w fun e w' => e = .returned (refRet (refParse (L s))) ∧ Below w.heap.size w w' := by
 obtain ⟨r, hr⟩ : ∃ r, readR (L s) = r := ⟨_, rfl⟩
 have hp : refParse (L s) = if refIs r 4 = true ∧ refText r = L s then some r else none := by unfold refParse; rw [hr]
 rw [hp]
 have HR := Lib.hid hr
 obtain ⟨T, hT⟩ : ∃ T, B (refText r) = T := ⟨_, rfl⟩
 have HT := Lib.hid hT
 have hl0 := hl.alloc (.cells zeroR.cells TRf)
 have r0 := Lib.hid (heap_alloc_new w (.cells zeroR.cells TRf))
 have k0 : Hid (Below w.heap.size w (w.alloc (.cells zeroR.cells TRf))) := Lib.hid ((Below.refl _ _).alloc (Nat.le_refl _) _)
 clear hr hp
 cases hv : refIs r 4 with
 | false =>
   have HV := Lib.hid hv
   rw [if_neg (by simp)]
   clear hv hT
   go_enter Tryz.func82, Tryz.ntmps82
   go_wp2_with (first
    | refine wpList_load_row rfl TRf (.tmp 4) rfl w1.heap.size rfl TRf r.cells (0, 0) _ r2n.out Tryz.underlying27 rfl infoTRf ?_
    | (refine wpList_store_row rfl TRf (.tmp 4) (.tmp 6) rfl w1.heap.size r.cells rfl rfl TRf zeroR.cells (heap_alloc_new w1 _) infoTRf rfl (rcells_one _) ?_; change wpList _ _ _ _ _ (stored w1 TRf zeroR.cells r.cells); have r2n := Lib.hid (stored_new w1 TRf zeroR.cells r.cells); have r2 := Lib.hid (stored_old (t := TRf) (o := zeroR.cells) (cs := r.cells) r1.out); have k2 := Lib.hid (k1.out.trans ((stored_below w1 TRf zeroR.cells r.cells).mono k1.out.size)); have hl2 := hl1.below (stored_below w1 TRf zeroR.cells r.cells); generalize stored w1 TRf zeroR.cells r.cells = w2 at *)
    | refine wpList_store_row rfl TRf (.tmp 2) (.tmp 16) rfl w.heap.size zeroR.cells rfl rfl TRf zeroR.cells r3.out infoTRf rfl (rcells_one _) ?_
    | (go_at_call 137; refine (read_is s hs r HR _ hl0).mono ?_; rintro e w1 ⟨rfl, hb1⟩; have r1 := Lib.hid (blk_new hb1); have k1 := Lib.hid (below_two k0.out hb1); have hl1 := hl0.below hb1)
    | (go_at_call 54; (with_reducible refine (rfIs_v r 4 false HV _ hl2).mono ?_); rintro e w3 ⟨rfl, hb3⟩; have r3 := Lib.hid (blk_below2 hb3 r2.out); have k3 := Lib.hid (below_two k2.out hb3)))
   exact bodyPost_ret (results_row_tmp rfl _ _ w.heap.size TRf zeroR.cells (0, 0) _ rfl (row_set r3.out) Tryz.underlying27 rfl infoTRf) rfl ⟨rfl, below_setRow k3.out (Nat.le_refl _) _⟩
 | true =>
   have HV := Lib.hid hv
   by_cases ht : refText r = L s
   ·have t3 : (T.toList == s.toList) = true := by rw [← hT, B_toList, L_toList]; simpa using ht
    rw [if_pos ⟨rfl, ht⟩]
    clear hv hT ht
    go_enter Tryz.func82, Tryz.ntmps82
    go_wp2_with (first
     | refine wpList_load_row rfl TRf (.tmp 4) rfl w1.heap.size rfl TRf r.cells (0, 0) _ r4n.out Tryz.underlying27 rfl infoTRf ?_
     | refine wpList_load_row_g rfl TRf (.tmp 4) rfl w1.heap.size rfl TRf r.cells (0, 0) _ r3n.out Tryz.underlying27 rfl infoTRf ?_
     | refine wpList_load_row rfl TRf (.tmp 4) rfl w1.heap.size rfl TRf r.cells (0, 0) _ r2n.out Tryz.underlying27 rfl infoTRf ?_
     | (refine wpList_store_row rfl TRf (.tmp 4) (.tmp 6) rfl w1.heap.size r.cells rfl rfl TRf zeroR.cells (heap_alloc_new w1 _) infoTRf rfl (rcells_one _) ?_; change wpList _ _ _ _ _ (stored w1 TRf zeroR.cells r.cells); have r2n := Lib.hid (stored_new w1 TRf zeroR.cells r.cells); have r2 := Lib.hid (stored_old (t := TRf) (o := zeroR.cells) (cs := r.cells) r1.out); have k2 := Lib.hid (k1.out.trans ((stored_below w1 TRf zeroR.cells r.cells).mono k1.out.size)); have hl2 := hl1.below (stored_below w1 TRf zeroR.cells r.cells); generalize stored w1 TRf zeroR.cells r.cells = w2 at *)
     | refine wpList_store_row rfl TRf (.tmp 2) (.tmp 17) rfl w.heap.size r.cells rfl rfl TRf zeroR.cells r4.out infoTRf rfl (rcells_one _) ?_
     | (go_at_call 137; refine (read_is s hs r HR _ hl0).mono ?_; rintro e w1 ⟨rfl, hb1⟩; have r1 := Lib.hid (blk_new hb1); have k1 := Lib.hid (below_two k0.out hb1); have hl1 := hl0.below hb1)
     | (go_at_call 54; (with_reducible refine (rfIs_v r 4 true HV _ hl2).mono ?_); rintro e w3 ⟨rfl, hb3⟩; have r3 := Lib.hid (blk_below2 hb3 r2.out); have r3n := Lib.hid (blk_below2 hb3 r2n.out); have k3 := Lib.hid (below_two k2.out hb3); have hl3 := hl2.below hb3)
     | (go_at_call 39; (with_reducible refine (rfText_is r T HT _ hl3).mono ?_); rintro e w4 ⟨rfl, hb4⟩; have r4 := Lib.hid (blk_below2 hb4 r3.out); have r4n := Lib.hid (blk_below2 hb4 r3n.out); have k4 := Lib.hid (below_two k3.out hb4)))
    exact bodyPost_ret (results_row_tmp rfl _ _ w.heap.size TRf r.cells (0, 0) _ rfl (row_set r4.out) Tryz.underlying27 rfl infoTRf) rfl ⟨rfl, below_setRow k4.out (Nat.le_refl _) _⟩
   ·have t3 : (T.toList == s.toList) = false := by rw [← hT, B_toList, L_toList]; simpa using ht
    have t4 : (!T.toList == s.toList) = true := by rw [t3]; rfl
    rw [if_neg (fun h => ht h.2)]
    clear hv hT ht
    go_enter Tryz.func82, Tryz.ntmps82
    go_wp2_with (first
     | refine wpList_load_row_g rfl TRf (.tmp 4) rfl w1.heap.size rfl TRf r.cells (0, 0) _ r3n.out Tryz.underlying27 rfl infoTRf ?_
     | refine wpList_load_row rfl TRf (.tmp 4) rfl w1.heap.size rfl TRf r.cells (0, 0) _ r2n.out Tryz.underlying27 rfl infoTRf ?_
     | (refine wpList_store_row rfl TRf (.tmp 4) (.tmp 6) rfl w1.heap.size r.cells rfl rfl TRf zeroR.cells (heap_alloc_new w1 _) infoTRf rfl (rcells_one _) ?_; change wpList _ _ _ _ _ (stored w1 TRf zeroR.cells r.cells); have r2n := Lib.hid (stored_new w1 TRf zeroR.cells r.cells); have r2 := Lib.hid (stored_old (t := TRf) (o := zeroR.cells) (cs := r.cells) r1.out); have k2 := Lib.hid (k1.out.trans ((stored_below w1 TRf zeroR.cells r.cells).mono k1.out.size)); have hl2 := hl1.below (stored_below w1 TRf zeroR.cells r.cells); generalize stored w1 TRf zeroR.cells r.cells = w2 at *)
     | refine wpList_store_row rfl TRf (.tmp 2) (.tmp 16) rfl w.heap.size zeroR.cells rfl rfl TRf zeroR.cells r4.out infoTRf rfl (rcells_one _) ?_
     | (go_at_call 137; refine (read_is s hs r HR _ hl0).mono ?_; rintro e w1 ⟨rfl, hb1⟩; have r1 := Lib.hid (blk_new hb1); have k1 := Lib.hid (below_two k0.out hb1); have hl1 := hl0.below hb1)
     | (go_at_call 54; (with_reducible refine (rfIs_v r 4 true HV _ hl2).mono ?_); rintro e w3 ⟨rfl, hb3⟩; have r3 := Lib.hid (blk_below2 hb3 r2.out); have r3n := Lib.hid (blk_below2 hb3 r2n.out); have k3 := Lib.hid (below_two k2.out hb3); have hl3 := hl2.below hb3)
     | (go_at_call 39; (with_reducible refine (rfText_is r T HT _ hl3).mono ?_); rintro e w4 ⟨rfl, hb4⟩; have r4 := Lib.hid (blk_below2 hb4 r3.out); have k4 := Lib.hid (below_two k3.out hb4)))
    exact bodyPost_ret (results_row_tmp rfl _ _ w.heap.size TRf zeroR.cells (0, 0) _ rfl (row_set r4.out) Tryz.underlying27 rfl infoTRf) rfl ⟨rfl, below_setRow k4.out (Nat.le_refl _) _⟩
end Go.Proofs.YtdnnbfbhifelkaaGreatDoor
