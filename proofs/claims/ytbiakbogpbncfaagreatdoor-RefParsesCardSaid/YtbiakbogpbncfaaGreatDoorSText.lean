/- Walks: package ref: Is of any reference, Text. Conditions: Laid. -/
import Derived.Test.YtbiakbogpbncfaaGreatDoorSIs
import Derived.Test.YtbiakbogpbncfaaGreatDoorFTextC
namespace Go.Proofs.YtbiakbogpbncfaaGreatDoor
set_option linter.all false
open Go.ChangeShapes Go.WideShapes Go.RowKit
theorem rfIs_v (r : Rf) (specs : Int) (R : Bool) (HR : Hid (refIs r specs = R)) (w : World) (hl : Laid w) :
    Calls Tryz.prog 9 #[.agg r.cells, .int .i64 specs] w fun e w' => e = .returned (.bool R) ∧ Below w.heap.size w w' := by
  obtain ⟨kind, n, f⟩ := r
  have h := HR.out
  by_cases e1 : kind = 1
  · subst e1; subst h; exact rfIs_k1 n specs f w hl
  by_cases e2 : kind = 2
  · subst e2; subst h; exact rfIs_k2 n specs f w hl
  by_cases e5 : kind = 5
  · subst e5; subst h; exact rfIs_k5 n specs f w hl
  by_cases e6 : kind = 6
  · subst e6; subst h; exact rfIs_k6 n specs f w hl
  by_cases e7 : kind = 7
  · subst e7; subst h; exact rfIs_k7 n specs f w hl
  by_cases e4 : kind = 4
  · subst e4; subst h; exact rfIs_k4 n specs f w hl
  by_cases e3 : kind = 3
  · subst e3; subst h; exact rfIs_k3 n specs f w hl
  by_cases e8 : kind = 8
  · subst e8; subst h; exact rfIs_k8 n specs f w hl
  · have hf : refIs ⟨kind, n, f⟩ specs = false := by
      unfold refIs kNum kBare
      simp [e1, e2, e3, e4, e5, e6, e7, e8]
    rw [hf] at h
    subst h
    exact rfIs_other kind n specs f w hl (beq_eq_false_iff_ne.2 e1) (beq_eq_false_iff_ne.2 e2) (beq_eq_false_iff_ne.2 e3) (beq_eq_false_iff_ne.2 e4) (beq_eq_false_iff_ne.2 e5) (beq_eq_false_iff_ne.2 e6) (beq_eq_false_iff_ne.2 e7) (beq_eq_false_iff_ne.2 e8)
theorem infoTRf : (Tryz.prog.info? TRf).map (·.size) = some 18 := by kernel_rfl
theorem flt_text_lit (f : Flt) (w : World) (hl : Laid w) : Calls Tryz.prog 19 #[.agg #[.int .i64 f.zone, .int .i64 f.who, .int .i64 f.self, .int .i64 f.types, .int .i64 f.ntypes, .int .i64 f.colors, .int .i64 f.ncolors, .string f.sub, .int .i64 f.keys, .int .i64 f.tap, .int .i64 f.pk, .int .i64 f.pn, .int .i64 f.tk, .int .i64 f.tn, .int .i64 f.vk, .int .i64 f.vn]] w fun e w' => e = .returned (.string (B (textOf f))) ∧ Below w.heap.size w w' := fltText_v f w hl
theorem textOf_len {f : Flt} : (textOf f).length ≤ 10000 := by
  unfold textOf; split
  · rename_i h
    obtain ⟨_, hok⟩ := fltIs_fn h
    unfold fltText; split
    · decide
    · have hs : (toFN f).sub.length ≤ 32 := by
        rcases hok.sub with e | e
        · rw [e]; simp
        · exact isSub_len e
      have := fltJoin_len (toFN f) hs hok.pn hok.tn hok.vn
      omega
  · decide
set_option maxRecDepth 100000 in
theorem rfText_no (r : Rf) (HV : Hid (refIs r 4 = false)) (w : World) (hl : Laid w) :
    Calls Tryz.prog 11 #[.agg r.cells] w fun e w' => e = .returned (.string ⟨#[]⟩) ∧ Below w.heap.size w w' := by
  have r0 := Lib.hid (heap_alloc_new w (.cells r.cells TRf))
  have hl1 := hl.alloc (.cells r.cells TRf)
  go_enter Tryz.func11, Tryz.ntmps11
  go_wp2_with (first | refine wpList_load_row rfl TRf (.tmp 1) rfl w.heap.size rfl TRf r.cells (0, 0) _ r0.out Tryz.underlying27 rfl infoTRf ?_ | (go_at_call 9; (with_reducible refine (rfIs_v r 4 false HV _ hl1).mono ?_); rintro e w1 ⟨rfl, hb1⟩))
  go_ret
  exact ⟨rfl, below_two ((Below.refl _ _).alloc (Nat.le_refl _) _) hb1⟩
set_option maxRecDepth 100000 in
set_option maxHeartbeats 1000000 in
theorem rfText_k1 (w : World) (hl : Laid w) :
    Calls Tryz.prog 11 #[.agg (Rf.cells ⟨1, 0, zeroF⟩)] w fun e w' => e = .returned (.string (B (wd refT 1))) ∧ Below w.heap.size w w' := by
  have HV : Hid (refIs ⟨1, 0, zeroF⟩ 4 = true) := Lib.hid (by kernel_rfl)
  have r0 := Lib.hid (heap_alloc_new w (.cells (Rf.cells ⟨1, 0, zeroF⟩) TRf))
  have hl1 := hl.alloc (.cells (Rf.cells ⟨1, 0, zeroF⟩) TRf)
  have k0 : Hid (Below w.heap.size w (w.alloc (.cells (Rf.cells ⟨1, 0, zeroF⟩) TRf))) := Lib.hid ((Below.refl _ _).alloc (Nat.le_refl _) _)
  go_enter Tryz.func11, Tryz.ntmps11
  go_wp2_with (first | refine wpList_load_row rfl TRf (.tmp 1) rfl w.heap.size rfl TRf (Rf.cells ⟨1, 0, zeroF⟩) (0, 0) _ r0.out Tryz.underlying27 rfl infoTRf ?_ | (go_at_call 9; (with_reducible refine (rfIs_v ⟨1, 0, zeroF⟩ 4 true HV _ hl1).mono ?_); rintro e w1 ⟨rfl, hb1⟩; have r1 := blk_new hb1; have k1 := Lib.hid (below_two k0.out hb1); have hl2 := hl1.below hb1; have q0 : World.cell? _ ⟨w.heap.size, 0, none⟩ = some (.int .i64 1) := cell_of_row _ _ 0 _ _ (0, 0) r1; have q1 : World.cell? _ ⟨w.heap.size, 1, none⟩ = some (.int .i64 0) := cell_of_row _ _ 1 _ _ (0, 0) r1; clear r1))
  go_ret
  exact ⟨rfl, k1.out⟩
set_option maxRecDepth 100000 in
set_option maxHeartbeats 1000000 in
theorem rfText_k2 (w : World) (hl : Laid w) :
    Calls Tryz.prog 11 #[.agg (Rf.cells ⟨2, 0, zeroF⟩)] w fun e w' => e = .returned (.string (B (wd refT 2))) ∧ Below w.heap.size w w' := by
  have HV : Hid (refIs ⟨2, 0, zeroF⟩ 4 = true) := Lib.hid (by kernel_rfl)
  have r0 := Lib.hid (heap_alloc_new w (.cells (Rf.cells ⟨2, 0, zeroF⟩) TRf))
  have hl1 := hl.alloc (.cells (Rf.cells ⟨2, 0, zeroF⟩) TRf)
  have k0 : Hid (Below w.heap.size w (w.alloc (.cells (Rf.cells ⟨2, 0, zeroF⟩) TRf))) := Lib.hid ((Below.refl _ _).alloc (Nat.le_refl _) _)
  go_enter Tryz.func11, Tryz.ntmps11
  go_wp2_with (first | refine wpList_load_row rfl TRf (.tmp 1) rfl w.heap.size rfl TRf (Rf.cells ⟨2, 0, zeroF⟩) (0, 0) _ r0.out Tryz.underlying27 rfl infoTRf ?_ | (go_at_call 9; (with_reducible refine (rfIs_v ⟨2, 0, zeroF⟩ 4 true HV _ hl1).mono ?_); rintro e w1 ⟨rfl, hb1⟩; have r1 := blk_new hb1; have k1 := Lib.hid (below_two k0.out hb1); have hl2 := hl1.below hb1; have q0 : World.cell? _ ⟨w.heap.size, 0, none⟩ = some (.int .i64 2) := cell_of_row _ _ 0 _ _ (0, 0) r1; have q1 : World.cell? _ ⟨w.heap.size, 1, none⟩ = some (.int .i64 0) := cell_of_row _ _ 1 _ _ (0, 0) r1; clear r1))
  go_ret
  exact ⟨rfl, k1.out⟩
set_option maxRecDepth 100000 in
set_option maxHeartbeats 1000000 in
theorem rfText_k5 (w : World) (hl : Laid w) :
    Calls Tryz.prog 11 #[.agg (Rf.cells ⟨5, 0, zeroF⟩)] w fun e w' => e = .returned (.string (B (wd refT 5))) ∧ Below w.heap.size w w' := by
  have HV : Hid (refIs ⟨5, 0, zeroF⟩ 4 = true) := Lib.hid (by kernel_rfl)
  have r0 := Lib.hid (heap_alloc_new w (.cells (Rf.cells ⟨5, 0, zeroF⟩) TRf))
  have hl1 := hl.alloc (.cells (Rf.cells ⟨5, 0, zeroF⟩) TRf)
  have k0 : Hid (Below w.heap.size w (w.alloc (.cells (Rf.cells ⟨5, 0, zeroF⟩) TRf))) := Lib.hid ((Below.refl _ _).alloc (Nat.le_refl _) _)
  go_enter Tryz.func11, Tryz.ntmps11
  go_wp2_with (first | refine wpList_load_row rfl TRf (.tmp 1) rfl w.heap.size rfl TRf (Rf.cells ⟨5, 0, zeroF⟩) (0, 0) _ r0.out Tryz.underlying27 rfl infoTRf ?_ | (go_at_call 9; (with_reducible refine (rfIs_v ⟨5, 0, zeroF⟩ 4 true HV _ hl1).mono ?_); rintro e w1 ⟨rfl, hb1⟩; have r1 := blk_new hb1; have k1 := Lib.hid (below_two k0.out hb1); have hl2 := hl1.below hb1; have q0 : World.cell? _ ⟨w.heap.size, 0, none⟩ = some (.int .i64 5) := cell_of_row _ _ 0 _ _ (0, 0) r1; have q1 : World.cell? _ ⟨w.heap.size, 1, none⟩ = some (.int .i64 0) := cell_of_row _ _ 1 _ _ (0, 0) r1; clear r1))
  go_ret
  exact ⟨rfl, k1.out⟩
set_option maxRecDepth 100000 in
set_option maxHeartbeats 1000000 in
theorem rfText_k6 (w : World) (hl : Laid w) :
    Calls Tryz.prog 11 #[.agg (Rf.cells ⟨6, 0, zeroF⟩)] w fun e w' => e = .returned (.string (B (wd refT 6))) ∧ Below w.heap.size w w' := by
  have HV : Hid (refIs ⟨6, 0, zeroF⟩ 4 = true) := Lib.hid (by kernel_rfl)
  have r0 := Lib.hid (heap_alloc_new w (.cells (Rf.cells ⟨6, 0, zeroF⟩) TRf))
  have hl1 := hl.alloc (.cells (Rf.cells ⟨6, 0, zeroF⟩) TRf)
  have k0 : Hid (Below w.heap.size w (w.alloc (.cells (Rf.cells ⟨6, 0, zeroF⟩) TRf))) := Lib.hid ((Below.refl _ _).alloc (Nat.le_refl _) _)
  go_enter Tryz.func11, Tryz.ntmps11
  go_wp2_with (first | refine wpList_load_row rfl TRf (.tmp 1) rfl w.heap.size rfl TRf (Rf.cells ⟨6, 0, zeroF⟩) (0, 0) _ r0.out Tryz.underlying27 rfl infoTRf ?_ | (go_at_call 9; (with_reducible refine (rfIs_v ⟨6, 0, zeroF⟩ 4 true HV _ hl1).mono ?_); rintro e w1 ⟨rfl, hb1⟩; have r1 := blk_new hb1; have k1 := Lib.hid (below_two k0.out hb1); have hl2 := hl1.below hb1; have q0 : World.cell? _ ⟨w.heap.size, 0, none⟩ = some (.int .i64 6) := cell_of_row _ _ 0 _ _ (0, 0) r1; have q1 : World.cell? _ ⟨w.heap.size, 1, none⟩ = some (.int .i64 0) := cell_of_row _ _ 1 _ _ (0, 0) r1; clear r1))
  go_ret
  exact ⟨rfl, k1.out⟩
set_option maxRecDepth 100000 in
set_option maxHeartbeats 1000000 in
theorem rfText_k7 (w : World) (hl : Laid w) :
    Calls Tryz.prog 11 #[.agg (Rf.cells ⟨7, 0, zeroF⟩)] w fun e w' => e = .returned (.string (B (wd refT 7))) ∧ Below w.heap.size w w' := by
  have HV : Hid (refIs ⟨7, 0, zeroF⟩ 4 = true) := Lib.hid (by kernel_rfl)
  have r0 := Lib.hid (heap_alloc_new w (.cells (Rf.cells ⟨7, 0, zeroF⟩) TRf))
  have hl1 := hl.alloc (.cells (Rf.cells ⟨7, 0, zeroF⟩) TRf)
  have k0 : Hid (Below w.heap.size w (w.alloc (.cells (Rf.cells ⟨7, 0, zeroF⟩) TRf))) := Lib.hid ((Below.refl _ _).alloc (Nat.le_refl _) _)
  go_enter Tryz.func11, Tryz.ntmps11
  go_wp2_with (first | refine wpList_load_row rfl TRf (.tmp 1) rfl w.heap.size rfl TRf (Rf.cells ⟨7, 0, zeroF⟩) (0, 0) _ r0.out Tryz.underlying27 rfl infoTRf ?_ | (go_at_call 9; (with_reducible refine (rfIs_v ⟨7, 0, zeroF⟩ 4 true HV _ hl1).mono ?_); rintro e w1 ⟨rfl, hb1⟩; have r1 := blk_new hb1; have k1 := Lib.hid (below_two k0.out hb1); have hl2 := hl1.below hb1; have q0 : World.cell? _ ⟨w.heap.size, 0, none⟩ = some (.int .i64 7) := cell_of_row _ _ 0 _ _ (0, 0) r1; have q1 : World.cell? _ ⟨w.heap.size, 1, none⟩ = some (.int .i64 0) := cell_of_row _ _ 1 _ _ (0, 0) r1; clear r1))
  go_ret
  exact ⟨rfl, k1.out⟩
set_option maxRecDepth 100000 in
set_option maxHeartbeats 1000000 in
theorem rfText_k3 (n : Int) (h1 : 1 ≤ n) (h2 : n ≤ 4) (w : World) (hl : Laid w) :
    Calls Tryz.prog 11 #[.agg (Rf.cells ⟨3, n, zeroF⟩)] w fun e w' => e = .returned (.string (B (targetW ++ Lib.itoa n))) ∧ Below w.heap.size w w' := by
  have HV : Hid (refIs ⟨3, n, zeroF⟩ 4 = true) := Lib.hid (by unfold refIs kNum; simp [h1, h2, (fltEq_iff zeroF zeroF).2 rfl])
  have hil := Lib.itoa_length_le n (by omega) (by omega)
  have r0 := Lib.hid (heap_alloc_new w (.cells (Rf.cells ⟨3, n, zeroF⟩) TRf))
  have hl1 := hl.alloc (.cells (Rf.cells ⟨3, n, zeroF⟩) TRf)
  have k0 : Hid (Below w.heap.size w (w.alloc (.cells (Rf.cells ⟨3, n, zeroF⟩) TRf))) := Lib.hid ((Below.refl _ _).alloc (Nat.le_refl _) _)
  go_enter Tryz.func11, Tryz.ntmps11
  go_wp2_with (first | refine wpList_load_row rfl TRf (.tmp 1) rfl w.heap.size rfl TRf (Rf.cells ⟨3, n, zeroF⟩) (0, 0) _ r0.out Tryz.underlying27 rfl infoTRf ?_ | (go_at_call 9; (with_reducible refine (rfIs_v ⟨3, n, zeroF⟩ 4 true HV _ hl1).mono ?_); rintro e w1 ⟨rfl, hb1⟩; have r1 := blk_new hb1; have k1 := Lib.hid (below_two k0.out hb1); have hl2 := hl1.below hb1; have q0 : World.cell? _ ⟨w.heap.size, 0, none⟩ = some (.int .i64 3) := cell_of_row _ _ 0 _ _ (0, 0) r1; have q1 : World.cell? _ ⟨w.heap.size, 1, none⟩ = some (.int .i64 n) := cell_of_row _ _ 1 _ _ (0, 0) r1; clear r1) | (go_at_call 18; (with_reducible refine (numText_any n (by omega) (by omega) _ hl2).mono ?_); rintro e w2 ⟨rfl, hb2⟩))
  go_ret
  exact ⟨ret_str (B_append targetW _), below_two k1.out hb2⟩
set_option maxRecDepth 100000 in
set_option maxHeartbeats 1000000 in
theorem rfText_k8 (n : Int) (h1 : 1 ≤ n) (h2 : n ≤ 4) (w : World) (hl : Laid w) :
    Calls Tryz.prog 11 #[.agg (Rf.cells ⟨8, n, zeroF⟩)] w fun e w' => e = .returned (.string (B (ownerW ++ Lib.itoa n))) ∧ Below w.heap.size w w' := by
  have HV : Hid (refIs ⟨8, n, zeroF⟩ 4 = true) := Lib.hid (by unfold refIs kNum; simp [h1, h2, (fltEq_iff zeroF zeroF).2 rfl])
  have hil := Lib.itoa_length_le n (by omega) (by omega)
  have r0 := Lib.hid (heap_alloc_new w (.cells (Rf.cells ⟨8, n, zeroF⟩) TRf))
  have hl1 := hl.alloc (.cells (Rf.cells ⟨8, n, zeroF⟩) TRf)
  have k0 : Hid (Below w.heap.size w (w.alloc (.cells (Rf.cells ⟨8, n, zeroF⟩) TRf))) := Lib.hid ((Below.refl _ _).alloc (Nat.le_refl _) _)
  go_enter Tryz.func11, Tryz.ntmps11
  go_wp2_with (first | refine wpList_load_row rfl TRf (.tmp 1) rfl w.heap.size rfl TRf (Rf.cells ⟨8, n, zeroF⟩) (0, 0) _ r0.out Tryz.underlying27 rfl infoTRf ?_ | (go_at_call 9; (with_reducible refine (rfIs_v ⟨8, n, zeroF⟩ 4 true HV _ hl1).mono ?_); rintro e w1 ⟨rfl, hb1⟩; have r1 := blk_new hb1; have k1 := Lib.hid (below_two k0.out hb1); have hl2 := hl1.below hb1; have q0 : World.cell? _ ⟨w.heap.size, 0, none⟩ = some (.int .i64 8) := cell_of_row _ _ 0 _ _ (0, 0) r1; have q1 : World.cell? _ ⟨w.heap.size, 1, none⟩ = some (.int .i64 n) := cell_of_row _ _ 1 _ _ (0, 0) r1; clear r1) | (go_at_call 18; (with_reducible refine (numText_any n (by omega) (by omega) _ hl2).mono ?_); rintro e w2 ⟨rfl, hb2⟩))
  go_ret
  exact ⟨ret_str (B_append ownerW _), below_two k1.out hb2⟩
set_option maxRecDepth 100000 in
set_option maxHeartbeats 1000000 in
theorem rfText_k4 (f : Flt) (hf : fltIs f = true) (w : World) (hl : Laid w) :
    Calls Tryz.prog 11 #[.agg (Rf.cells ⟨4, 0, f⟩)] w fun e w' => e = .returned (.string (B (eachW ++ textOf f ++ [41]))) ∧ Below w.heap.size w w' := by
  have HV : Hid (refIs ⟨4, 0, f⟩ 4 = true) := Lib.hid (by unfold refIs kNum; simp [hf])
  have hil := textOf_len (f := f)
  clear hf
  have r0 := Lib.hid (heap_alloc_new w (.cells (Rf.cells ⟨4, 0, f⟩) TRf))
  have hl1 := hl.alloc (.cells (Rf.cells ⟨4, 0, f⟩) TRf)
  have k0 : Hid (Below w.heap.size w (w.alloc (.cells (Rf.cells ⟨4, 0, f⟩) TRf))) := Lib.hid ((Below.refl _ _).alloc (Nat.le_refl _) _)
  go_enter Tryz.func11, Tryz.ntmps11
  go_wp2_with (first | refine wpList_load_row rfl TRf (.tmp 1) rfl w.heap.size rfl TRf (Rf.cells ⟨4, 0, f⟩) (0, 0) _ r0.out Tryz.underlying27 rfl infoTRf ?_ | (go_at_call 9; (with_reducible refine (rfIs_v ⟨4, 0, f⟩ 4 true HV _ hl1).mono ?_); rintro e w1 ⟨rfl, hb1⟩; have r1 := blk_new hb1; have k1 := Lib.hid (below_two k0.out hb1); have hl2 := hl1.below hb1; have q0 : World.cell? _ ⟨w.heap.size, 0, none⟩ = some (.int .i64 4) := cell_of_row _ _ 0 _ _ (0, 0) r1; have q1 : World.cell? _ ⟨w.heap.size, 1, none⟩ = some (.int .i64 0) := cell_of_row _ _ 1 _ _ (0, 0) r1; have q2 : World.cell? _ ⟨w.heap.size, 2, none⟩ = some (.int .i64 f.zone) := cell_of_row _ _ 2 _ _ (0, 0) r1; have q3 : World.cell? _ ⟨w.heap.size, 3, none⟩ = some (.int .i64 f.who) := cell_of_row _ _ 3 _ _ (0, 0) r1; have q4 : World.cell? _ ⟨w.heap.size, 4, none⟩ = some (.int .i64 f.self) := cell_of_row _ _ 4 _ _ (0, 0) r1; have q5 : World.cell? _ ⟨w.heap.size, 5, none⟩ = some (.int .i64 f.types) := cell_of_row _ _ 5 _ _ (0, 0) r1; have q6 : World.cell? _ ⟨w.heap.size, 6, none⟩ = some (.int .i64 f.ntypes) := cell_of_row _ _ 6 _ _ (0, 0) r1; have q7 : World.cell? _ ⟨w.heap.size, 7, none⟩ = some (.int .i64 f.colors) := cell_of_row _ _ 7 _ _ (0, 0) r1; have q8 : World.cell? _ ⟨w.heap.size, 8, none⟩ = some (.int .i64 f.ncolors) := cell_of_row _ _ 8 _ _ (0, 0) r1; have q9 : World.cell? _ ⟨w.heap.size, 9, none⟩ = some (.string f.sub) := cell_of_row _ _ 9 _ _ (0, 0) r1; have q10 : World.cell? _ ⟨w.heap.size, 10, none⟩ = some (.int .i64 f.keys) := cell_of_row _ _ 10 _ _ (0, 0) r1; have q11 : World.cell? _ ⟨w.heap.size, 11, none⟩ = some (.int .i64 f.tap) := cell_of_row _ _ 11 _ _ (0, 0) r1; have q12 : World.cell? _ ⟨w.heap.size, 12, none⟩ = some (.int .i64 f.pk) := cell_of_row _ _ 12 _ _ (0, 0) r1; have q13 : World.cell? _ ⟨w.heap.size, 13, none⟩ = some (.int .i64 f.pn) := cell_of_row _ _ 13 _ _ (0, 0) r1; have q14 : World.cell? _ ⟨w.heap.size, 14, none⟩ = some (.int .i64 f.tk) := cell_of_row _ _ 14 _ _ (0, 0) r1; have q15 : World.cell? _ ⟨w.heap.size, 15, none⟩ = some (.int .i64 f.tn) := cell_of_row _ _ 15 _ _ (0, 0) r1; have q16 : World.cell? _ ⟨w.heap.size, 16, none⟩ = some (.int .i64 f.vk) := cell_of_row _ _ 16 _ _ (0, 0) r1; have q17 : World.cell? _ ⟨w.heap.size, 17, none⟩ = some (.int .i64 f.vn) := cell_of_row _ _ 17 _ _ (0, 0) r1; clear r1) | (go_at_call 19; (with_reducible refine (flt_text_lit f _ hl2).mono ?_); rintro e w2 ⟨rfl, hb2⟩))
  go_ret
  exact ⟨ret_str (by rw [show (⟨#[101, 97, 99, 104, 40]⟩ : ByteArray) = B eachW from rfl, show (⟨#[41]⟩ : ByteArray) = B [41] from rfl, B_append, B_append]), below_two k1.out hb2⟩
theorem rfText_v (r : Rf) (w : World) (hl : Laid w) :
    Calls Tryz.prog 11 #[.agg r.cells] w fun e w' => e = .returned (.string (B (refText r))) ∧ Below w.heap.size w w' := by
  cases hv : refIs r 4 with
  | false => exact (rfText_no r (Lib.hid hv) w hl).mono fun e w' ⟨he, hb⟩ => ⟨by rw [he, refText_no hv]; rfl, hb⟩
  | true =>
    have ht : refText r = refBody r := if_pos hv
    rw [ht]
    rcases refIs_cases hv with rfl | rfl | rfl | rfl | rfl | (rfl | rfl | rfl | rfl) | (rfl | rfl | rfl | rfl) | ⟨f, hf, rfl⟩
    · exact rfText_k1 w hl
    · exact rfText_k2 w hl
    · exact rfText_k5 w hl
    · exact rfText_k6 w hl
    · exact rfText_k7 w hl
    · exact rfText_k3 1 (by omega) (by omega) w hl
    · exact rfText_k3 2 (by omega) (by omega) w hl
    · exact rfText_k3 3 (by omega) (by omega) w hl
    · exact rfText_k3 4 (by omega) (by omega) w hl
    · exact rfText_k8 1 (by omega) (by omega) w hl
    · exact rfText_k8 2 (by omega) (by omega) w hl
    · exact rfText_k8 3 (by omega) (by omega) w hl
    · exact rfText_k8 4 (by omega) (by omega) w hl
    · exact rfText_k4 f hf w hl
end Go.Proofs.YtbiakbogpbncfaaGreatDoor
