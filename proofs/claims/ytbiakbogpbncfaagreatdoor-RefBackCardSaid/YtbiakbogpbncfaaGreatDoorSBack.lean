/- RefBack: Parse inverts Text on the valid references, Text inverts Parse wherever it succeeds. Conditions: Laid. -/
import Derived.Test.YtbiakbogpbncfaaGreatDoorSAlive
namespace Go.Proofs.YtbiakbogpbncfaaGreatDoor
set_option linter.all false
open Go.ChangeShapes Go.WideShapes Go.RowKit
theorem refText_size {r : Rf} : (B (refText r)).size < 100000000 := by
  rw [B_size]
  cases hv : refIs r 4 with
  | false => rw [refText_no hv]; decide
  | true =>
    have ht : refText r = refBody r := if_pos hv
    rw [ht]
    rcases refIs_cases hv with rfl | rfl | rfl | rfl | rfl | (rfl | rfl | rfl | rfl) | (rfl | rfl | rfl | rfl) | ⟨f, hf, rfl⟩
    all_goals first | decide +kernel | skip
    have e : refBody ⟨4, 0, f⟩ = eachW ++ textOf f ++ [41] := rfl
    rw [e]
    have := textOf_len (f := f)
    simp [eachW]; omega
set_option maxRecDepth 100000 in
theorem backR_long (r : Rf) (s : ByteArray) (hs : 600 < s.size) (w : World) (hl : Laid w) :
    Calls Tryz.prog 6 #[.agg r.cells, .string s] w fun e w' => e = .returned (.bool true) ∧ Below w.heap.size w w' := by
  have hs' : (600 : Int) < s.size := by omega
  have hl1 := hl.alloc (.cells r.cells TRf)
  go_enter Tryz.func6, Tryz.ntmps6
  go_wp2_with (go_at_call 8; (with_reducible refine (aliveR_any _ hl1).mono ?_); rintro e w1 ⟨rfl, hb1⟩)
  go_ret
  exact ⟨rfl, below_two ((Below.refl _ _).alloc (Nat.le_refl _) _) hb1⟩
set_option maxRecDepth 100000 in
set_option maxHeartbeats 2000000 in
theorem backR_yes_none (r : Rf) (s : ByteArray) (hs : s.size ≤ 600) (HF : Hid (refIs r 4 = true)) (HS : Hid (refParse (L s) = none)) (w : World) (hl : Laid w) :
    Calls Tryz.prog 6 #[.agg r.cells, .string s] w fun e w' => e = .returned (.bool true) ∧ Below w.heap.size w w' := by
  have hs' : ¬ (600 : Int) < s.size := by omega
  obtain ⟨T, hT⟩ : ∃ T, B (refText r) = T := ⟨_, rfl⟩
  have hTs : Hid (T.size < 100000000) := Lib.hid (by rw [← hT]; exact refText_size)
  have t1 : ¬ T.toList = [] := by rw [← hT, B_toList]; exact refText_ne HF.out
  have t0 : T.toList.isEmpty = false := by simpa using t1
  have HP : Hid (refParse (L T) = some r) := Lib.hid (by rw [← hT, L_B]; exact refParse_text HF.out)
  have HT := Lib.hid hT
  have hne : ∀ wx : World, (binOp .neq TRf (.agg r.cells) (.agg r.cells)).run Tryz.prog wx = .ok (.bool false) wx := fun wx => by rw [neq_rf, rfEq_refl]; rfl
  clear hT
  have hs8 : Hid (s.size < 100000000) := Lib.hid (by omega)
  have hez : ∀ wx : World, (binOp .eql TRf (.agg zeroR.cells) (.agg #[.int .i64 0, .int .i64 0, .int .i64 0, .int .i64 0, .int .i64 0, .int .i64 0, .int .i64 0, .int .i64 0, .int .i64 0, .string ⟨#[]⟩, .int .i64 0, .int .i64 0, .int .i64 0, .int .i64 0, .int .i64 0, .int .i64 0, .int .i64 0, .int .i64 0])).run Tryz.prog wx = .ok (.bool true) wx := fun wx => (eq_rf zeroR zeroR wx).trans (by rw [rfEq_refl])
  have hl0 := hl.alloc (.cells r.cells TRf)
  have r0 := Lib.hid (heap_alloc_new w (.cells r.cells TRf))
  have k0 : Hid (Below w.heap.size w (w.alloc (.cells r.cells TRf))) := Lib.hid ((Below.refl _ _).alloc (Nat.le_refl _) _)
  go_enter Tryz.func6, Tryz.ntmps6
  go_wp2_with (first
    | refine wpList_load_row_g rfl TRf (.tmp 2) rfl w.heap.size rfl TRf r.cells (0, 0) _ r4f.out Tryz.underlying27 rfl infoTRf ?_
    | refine wpList_load_row_g rfl TRf (.tmp 6) rfl w2.heap.size rfl TRf r.cells (0, 0) _ r4g.out Tryz.underlying27 rfl infoTRf ?_
    | refine wpList_load_row rfl TRf (.tmp 2) rfl w.heap.size rfl TRf r.cells (0, 0) _ r3f.out Tryz.underlying27 rfl infoTRf ?_
    | refine wpList_load_row rfl TRf (.tmp 2) rfl w.heap.size rfl TRf r.cells (0, 0) _ r0.out Tryz.underlying27 rfl infoTRf ?_
    | (refine wpList_store_row rfl TRf (.tmp 6) (.tmp 20) rfl w2.heap.size r.cells rfl rfl TRf zeroR.cells (heap_alloc_new w2 _) infoTRf rfl (rcells_one _) ?_; change wpList _ _ _ _ _ (stored w2 TRf zeroR.cells r.cells); have r3g := Lib.hid (stored_new w2 TRf zeroR.cells r.cells); have r3f := Lib.hid (stored_old (t := TRf) (o := zeroR.cells) (cs := r.cells) r2f.out); have hl3 := hl2.below (stored_below w2 TRf zeroR.cells r.cells); have k3 := Lib.hid (k2.out.trans ((stored_below w2 TRf zeroR.cells r.cells).mono k2.out.size)); generalize stored w2 TRf zeroR.cells r.cells = w3 at *)
    | refine wpList_load_row_g rfl TRf (.tmp 9) rfl w6.heap.size rfl TRf zeroR.cells (0, 0) _ r8h.out Tryz.underlying27 rfl infoTRf ?_
    | (go_at_call 8; (with_reducible refine (aliveR_any _ hl7).mono ?_); rintro e w8 ⟨rfl, hb8⟩; have r8h := Lib.hid (blk_below2 hb8 r7h.out); have hl8 := hl7.below hb8; have k8 := Lib.hid (below_two k7.out hb8))
    | (refine wpList_store_row rfl TRf (.tmp 9) (.tmp 43) rfl w6.heap.size zeroR.cells rfl rfl TRf zeroR.cells (heap_alloc_new w6 _) infoTRf rfl (rcells_one _) ?_; change wpList _ _ _ _ _ (stored w6 TRf zeroR.cells zeroR.cells); have r7h := Lib.hid (stored_new w6 TRf zeroR.cells zeroR.cells); have hl7 := hl6.below (stored_below w6 TRf zeroR.cells zeroR.cells); have k7 := Lib.hid (k6.out.trans ((stored_below w6 TRf zeroR.cells zeroR.cells).mono k6.out.size)); generalize stored w6 TRf zeroR.cells zeroR.cells = w7 at *)
    | (go_at_call 13; (with_reducible refine (rfParse_none s HS hs8.out _ hl4).mono ?_); rintro e w6 ⟨rfl, hb6⟩; have hl6 := hl4.below hb6; have k6 := Lib.hid (below_two k4.out hb6))
    | (go_at_call 11; (with_reducible refine (rfText_is r T HT _ hl0).mono ?_); rintro e w1 ⟨rfl, hb1⟩; have r1f := Lib.hid (blk_new hb1); have hl1 := hl0.below hb1; have k1 := Lib.hid (below_two k0.out hb1))
    | (go_at_call 13; (with_reducible refine (rfParse_some T r HP hTs.out _ hl1).mono ?_); rintro e w2 ⟨rfl, hb2⟩; have r2f := Lib.hid (blk_below2 hb2 r1f.out); have hl2 := hl1.below hb2; have k2 := Lib.hid (below_two k1.out hb2))
    | (go_at_call 9; (with_reducible refine (rfIs_v r 4 true HF _ hl3).mono ?_); rintro e w4 ⟨rfl, hb4⟩; have r4f := Lib.hid (blk_below2 hb4 r3f.out); have r4g := Lib.hid (blk_below2 hb4 r3g.out); have hl4 := hl3.below hb4; have k4 := Lib.hid (below_two k3.out hb4)))
  go_ret
  exact ⟨ret_bool (by simp), k8.out⟩
set_option maxRecDepth 100000 in
set_option maxHeartbeats 2000000 in
theorem backR_yes_some (r : Rf) (s : ByteArray) (hs : s.size ≤ 600) (HF : Hid (refIs r 4 = true)) (h : Rf) (HS : Hid (refParse (L s) = some h)) (HI : Hid (refIs h 4 = true)) (HX : Hid (B (refText h) = s)) (w : World) (hl : Laid w) :
    Calls Tryz.prog 6 #[.agg r.cells, .string s] w fun e w' => e = .returned (.bool true) ∧ Below w.heap.size w w' := by
  have hs' : ¬ (600 : Int) < s.size := by omega
  obtain ⟨T, hT⟩ : ∃ T, B (refText r) = T := ⟨_, rfl⟩
  have hTs : Hid (T.size < 100000000) := Lib.hid (by rw [← hT]; exact refText_size)
  have t1 : ¬ T.toList = [] := by rw [← hT, B_toList]; exact refText_ne HF.out
  have t0 : T.toList.isEmpty = false := by simpa using t1
  have HP : Hid (refParse (L T) = some r) := Lib.hid (by rw [← hT, L_B]; exact refParse_text HF.out)
  have HT := Lib.hid hT
  have hne : ∀ wx : World, (binOp .neq TRf (.agg r.cells) (.agg r.cells)).run Tryz.prog wx = .ok (.bool false) wx := fun wx => by rw [neq_rf, rfEq_refl]; rfl
  clear hT
  have hs8 : Hid (s.size < 100000000) := Lib.hid (by omega)
  have hl0 := hl.alloc (.cells r.cells TRf)
  have r0 := Lib.hid (heap_alloc_new w (.cells r.cells TRf))
  have k0 : Hid (Below w.heap.size w (w.alloc (.cells r.cells TRf))) := Lib.hid ((Below.refl _ _).alloc (Nat.le_refl _) _)
  go_enter Tryz.func6, Tryz.ntmps6
  go_wp2_with (first
    | refine wpList_load_row_g rfl TRf (.tmp 2) rfl w.heap.size rfl TRf r.cells (0, 0) _ r4f.out Tryz.underlying27 rfl infoTRf ?_
    | refine wpList_load_row_g rfl TRf (.tmp 6) rfl w2.heap.size rfl TRf r.cells (0, 0) _ r4g.out Tryz.underlying27 rfl infoTRf ?_
    | refine wpList_load_row rfl TRf (.tmp 2) rfl w.heap.size rfl TRf r.cells (0, 0) _ r3f.out Tryz.underlying27 rfl infoTRf ?_
    | refine wpList_load_row rfl TRf (.tmp 2) rfl w.heap.size rfl TRf r.cells (0, 0) _ r0.out Tryz.underlying27 rfl infoTRf ?_
    | (refine wpList_store_row rfl TRf (.tmp 6) (.tmp 20) rfl w2.heap.size r.cells rfl rfl TRf zeroR.cells (heap_alloc_new w2 _) infoTRf rfl (rcells_one _) ?_; change wpList _ _ _ _ _ (stored w2 TRf zeroR.cells r.cells); have r3g := Lib.hid (stored_new w2 TRf zeroR.cells r.cells); have r3f := Lib.hid (stored_old (t := TRf) (o := zeroR.cells) (cs := r.cells) r2f.out); have hl3 := hl2.below (stored_below w2 TRf zeroR.cells r.cells); have k3 := Lib.hid (k2.out.trans ((stored_below w2 TRf zeroR.cells r.cells).mono k2.out.size)); generalize stored w2 TRf zeroR.cells r.cells = w3 at *)
    | (go_at_call 11; (with_reducible refine (rfText_is h s HX _ hl9).mono ?_); rintro e w10 ⟨rfl, hb10⟩)
    | (go_at_call 9; (with_reducible refine (rfIs_v h 4 true HI _ hl8).mono ?_); rintro e w9 ⟨rfl, hb9⟩; have r9h := Lib.hid (blk_below2 hb9 r8h.out); have hl9 := hl8.below hb9; have k9 := Lib.hid (below_two k8.out hb9))
    | refine wpList_load_row_g rfl TRf (.tmp 9) rfl w6.heap.size rfl TRf h.cells (0, 0) _ r9h.out Tryz.underlying27 rfl infoTRf ?_
    | refine wpList_load_row_g rfl TRf (.tmp 9) rfl w6.heap.size rfl TRf h.cells (0, 0) _ r8h.out Tryz.underlying27 rfl infoTRf ?_
    | (go_at_call 8; (with_reducible refine (aliveR_any _ hl7).mono ?_); rintro e w8 ⟨rfl, hb8⟩; have r8h := Lib.hid (blk_below2 hb8 r7h.out); have hl8 := hl7.below hb8; have k8 := Lib.hid (below_two k7.out hb8))
    | (refine wpList_store_row rfl TRf (.tmp 9) (.tmp 43) rfl w6.heap.size h.cells rfl rfl TRf zeroR.cells (heap_alloc_new w6 _) infoTRf rfl (rcells_one _) ?_; change wpList _ _ _ _ _ (stored w6 TRf zeroR.cells h.cells); have r7h := Lib.hid (stored_new w6 TRf zeroR.cells h.cells); have hl7 := hl6.below (stored_below w6 TRf zeroR.cells h.cells); have k7 := Lib.hid (k6.out.trans ((stored_below w6 TRf zeroR.cells h.cells).mono k6.out.size)); generalize stored w6 TRf zeroR.cells h.cells = w7 at *)
    | (go_at_call 13; (with_reducible refine (rfParse_some s h HS hs8.out _ hl4).mono ?_); rintro e w6 ⟨rfl, hb6⟩; have hl6 := hl4.below hb6; have k6 := Lib.hid (below_two k4.out hb6))
    | (go_at_call 11; (with_reducible refine (rfText_is r T HT _ hl0).mono ?_); rintro e w1 ⟨rfl, hb1⟩; have r1f := Lib.hid (blk_new hb1); have hl1 := hl0.below hb1; have k1 := Lib.hid (below_two k0.out hb1))
    | (go_at_call 13; (with_reducible refine (rfParse_some T r HP hTs.out _ hl1).mono ?_); rintro e w2 ⟨rfl, hb2⟩; have r2f := Lib.hid (blk_below2 hb2 r1f.out); have hl2 := hl1.below hb2; have k2 := Lib.hid (below_two k1.out hb2))
    | (go_at_call 9; (with_reducible refine (rfIs_v r 4 true HF _ hl3).mono ?_); rintro e w4 ⟨rfl, hb4⟩; have r4f := Lib.hid (blk_below2 hb4 r3f.out); have r4g := Lib.hid (blk_below2 hb4 r3g.out); have hl4 := hl3.below hb4; have k4 := Lib.hid (below_two k3.out hb4)))
  go_ret
  exact ⟨ret_bool (by simp), below_two k9.out hb10⟩
set_option maxRecDepth 100000 in
set_option maxHeartbeats 2000000 in
theorem backR_no_none (r : Rf) (s : ByteArray) (hs : s.size ≤ 600) (HF : Hid (refIs r 4 = false)) (HS : Hid (refParse (L s) = none)) (w : World) (hl : Laid w) :
    Calls Tryz.prog 6 #[.agg r.cells, .string s] w fun e w' => e = .returned (.bool true) ∧ Below w.heap.size w w' := by
  have hs' : ¬ (600 : Int) < s.size := by omega
  have HT : Hid (B (refText r) = ⟨#[]⟩) := Lib.hid (by rw [refText_no HF.out]; rfl)
  have HP : Hid (refParse (L ⟨#[]⟩) = none) := Lib.hid refParse_empty
  have hs8 : Hid (s.size < 100000000) := Lib.hid (by omega)
  have hez : ∀ wx : World, (binOp .eql TRf (.agg zeroR.cells) (.agg #[.int .i64 0, .int .i64 0, .int .i64 0, .int .i64 0, .int .i64 0, .int .i64 0, .int .i64 0, .int .i64 0, .int .i64 0, .string ⟨#[]⟩, .int .i64 0, .int .i64 0, .int .i64 0, .int .i64 0, .int .i64 0, .int .i64 0, .int .i64 0, .int .i64 0])).run Tryz.prog wx = .ok (.bool true) wx := fun wx => (eq_rf zeroR zeroR wx).trans (by rw [rfEq_refl])
  have hl0 := hl.alloc (.cells r.cells TRf)
  have r0 := Lib.hid (heap_alloc_new w (.cells r.cells TRf))
  have k0 : Hid (Below w.heap.size w (w.alloc (.cells r.cells TRf))) := Lib.hid ((Below.refl _ _).alloc (Nat.le_refl _) _)
  go_enter Tryz.func6, Tryz.ntmps6
  go_wp2_with (first
    | refine wpList_load_row rfl TRf (.tmp 2) rfl w.heap.size rfl TRf r.cells (0, 0) _ r3f.out Tryz.underlying27 rfl infoTRf ?_
    | refine wpList_load_row rfl TRf (.tmp 2) rfl w.heap.size rfl TRf r.cells (0, 0) _ r0.out Tryz.underlying27 rfl infoTRf ?_
    | (refine wpList_store_row rfl TRf (.tmp 6) (.tmp 20) rfl w2.heap.size zeroR.cells rfl rfl TRf zeroR.cells (heap_alloc_new w2 _) infoTRf rfl (rcells_one _) ?_; change wpList _ _ _ _ _ (stored w2 TRf zeroR.cells zeroR.cells); have r3g := Lib.hid (stored_new w2 TRf zeroR.cells zeroR.cells); have r3f := Lib.hid (stored_old (t := TRf) (o := zeroR.cells) (cs := zeroR.cells) r2f.out); have hl3 := hl2.below (stored_below w2 TRf zeroR.cells zeroR.cells); have k3 := Lib.hid (k2.out.trans ((stored_below w2 TRf zeroR.cells zeroR.cells).mono k2.out.size)); generalize stored w2 TRf zeroR.cells zeroR.cells = w3 at *)
    | refine wpList_load_row_g rfl TRf (.tmp 9) rfl w6.heap.size rfl TRf zeroR.cells (0, 0) _ r8h.out Tryz.underlying27 rfl infoTRf ?_
    | (go_at_call 8; (with_reducible refine (aliveR_any _ hl7).mono ?_); rintro e w8 ⟨rfl, hb8⟩; have r8h := Lib.hid (blk_below2 hb8 r7h.out); have hl8 := hl7.below hb8; have k8 := Lib.hid (below_two k7.out hb8))
    | (refine wpList_store_row rfl TRf (.tmp 9) (.tmp 43) rfl w6.heap.size zeroR.cells rfl rfl TRf zeroR.cells (heap_alloc_new w6 _) infoTRf rfl (rcells_one _) ?_; change wpList _ _ _ _ _ (stored w6 TRf zeroR.cells zeroR.cells); have r7h := Lib.hid (stored_new w6 TRf zeroR.cells zeroR.cells); have hl7 := hl6.below (stored_below w6 TRf zeroR.cells zeroR.cells); have k7 := Lib.hid (k6.out.trans ((stored_below w6 TRf zeroR.cells zeroR.cells).mono k6.out.size)); generalize stored w6 TRf zeroR.cells zeroR.cells = w7 at *)
    | (go_at_call 13; (with_reducible refine (rfParse_none s HS hs8.out _ hl4).mono ?_); rintro e w6 ⟨rfl, hb6⟩; have hl6 := hl4.below hb6; have k6 := Lib.hid (below_two k4.out hb6))
    | (go_at_call 11; (with_reducible refine (rfText_is r ⟨#[]⟩ HT _ hl0).mono ?_); rintro e w1 ⟨rfl, hb1⟩; have r1f := Lib.hid (blk_new hb1); have hl1 := hl0.below hb1; have k1 := Lib.hid (below_two k0.out hb1))
    | (go_at_call 13; (with_reducible refine (rfParse_none ⟨#[]⟩ HP (by decide) _ hl1).mono ?_); rintro e w2 ⟨rfl, hb2⟩; have r2f := Lib.hid (blk_below2 hb2 r1f.out); have hl2 := hl1.below hb2; have k2 := Lib.hid (below_two k1.out hb2))
    | (go_at_call 9; (with_reducible refine (rfIs_v r 4 false HF _ hl3).mono ?_); rintro e w4 ⟨rfl, hb4⟩; have r4f := Lib.hid (blk_below2 hb4 r3f.out); have r4g := Lib.hid (blk_below2 hb4 r3g.out); have hl4 := hl3.below hb4; have k4 := Lib.hid (below_two k3.out hb4)))
  go_ret
  exact ⟨ret_bool (by simp), k8.out⟩
set_option maxRecDepth 100000 in
set_option maxHeartbeats 2000000 in
theorem backR_no_some (r : Rf) (s : ByteArray) (hs : s.size ≤ 600) (HF : Hid (refIs r 4 = false)) (h : Rf) (HS : Hid (refParse (L s) = some h)) (HI : Hid (refIs h 4 = true)) (HX : Hid (B (refText h) = s)) (w : World) (hl : Laid w) :
    Calls Tryz.prog 6 #[.agg r.cells, .string s] w fun e w' => e = .returned (.bool true) ∧ Below w.heap.size w w' := by
  have hs' : ¬ (600 : Int) < s.size := by omega
  have HT : Hid (B (refText r) = ⟨#[]⟩) := Lib.hid (by rw [refText_no HF.out]; rfl)
  have HP : Hid (refParse (L ⟨#[]⟩) = none) := Lib.hid refParse_empty
  have hs8 : Hid (s.size < 100000000) := Lib.hid (by omega)
  have hl0 := hl.alloc (.cells r.cells TRf)
  have r0 := Lib.hid (heap_alloc_new w (.cells r.cells TRf))
  have k0 : Hid (Below w.heap.size w (w.alloc (.cells r.cells TRf))) := Lib.hid ((Below.refl _ _).alloc (Nat.le_refl _) _)
  go_enter Tryz.func6, Tryz.ntmps6
  go_wp2_with (first
    | refine wpList_load_row rfl TRf (.tmp 2) rfl w.heap.size rfl TRf r.cells (0, 0) _ r3f.out Tryz.underlying27 rfl infoTRf ?_
    | refine wpList_load_row rfl TRf (.tmp 2) rfl w.heap.size rfl TRf r.cells (0, 0) _ r0.out Tryz.underlying27 rfl infoTRf ?_
    | (refine wpList_store_row rfl TRf (.tmp 6) (.tmp 20) rfl w2.heap.size zeroR.cells rfl rfl TRf zeroR.cells (heap_alloc_new w2 _) infoTRf rfl (rcells_one _) ?_; change wpList _ _ _ _ _ (stored w2 TRf zeroR.cells zeroR.cells); have r3g := Lib.hid (stored_new w2 TRf zeroR.cells zeroR.cells); have r3f := Lib.hid (stored_old (t := TRf) (o := zeroR.cells) (cs := zeroR.cells) r2f.out); have hl3 := hl2.below (stored_below w2 TRf zeroR.cells zeroR.cells); have k3 := Lib.hid (k2.out.trans ((stored_below w2 TRf zeroR.cells zeroR.cells).mono k2.out.size)); generalize stored w2 TRf zeroR.cells zeroR.cells = w3 at *)
    | (go_at_call 11; (with_reducible refine (rfText_is h s HX _ hl9).mono ?_); rintro e w10 ⟨rfl, hb10⟩)
    | (go_at_call 9; (with_reducible refine (rfIs_v h 4 true HI _ hl8).mono ?_); rintro e w9 ⟨rfl, hb9⟩; have r9h := Lib.hid (blk_below2 hb9 r8h.out); have hl9 := hl8.below hb9; have k9 := Lib.hid (below_two k8.out hb9))
    | refine wpList_load_row_g rfl TRf (.tmp 9) rfl w6.heap.size rfl TRf h.cells (0, 0) _ r9h.out Tryz.underlying27 rfl infoTRf ?_
    | refine wpList_load_row_g rfl TRf (.tmp 9) rfl w6.heap.size rfl TRf h.cells (0, 0) _ r8h.out Tryz.underlying27 rfl infoTRf ?_
    | (go_at_call 8; (with_reducible refine (aliveR_any _ hl7).mono ?_); rintro e w8 ⟨rfl, hb8⟩; have r8h := Lib.hid (blk_below2 hb8 r7h.out); have hl8 := hl7.below hb8; have k8 := Lib.hid (below_two k7.out hb8))
    | (refine wpList_store_row rfl TRf (.tmp 9) (.tmp 43) rfl w6.heap.size h.cells rfl rfl TRf zeroR.cells (heap_alloc_new w6 _) infoTRf rfl (rcells_one _) ?_; change wpList _ _ _ _ _ (stored w6 TRf zeroR.cells h.cells); have r7h := Lib.hid (stored_new w6 TRf zeroR.cells h.cells); have hl7 := hl6.below (stored_below w6 TRf zeroR.cells h.cells); have k7 := Lib.hid (k6.out.trans ((stored_below w6 TRf zeroR.cells h.cells).mono k6.out.size)); generalize stored w6 TRf zeroR.cells h.cells = w7 at *)
    | (go_at_call 13; (with_reducible refine (rfParse_some s h HS hs8.out _ hl4).mono ?_); rintro e w6 ⟨rfl, hb6⟩; have hl6 := hl4.below hb6; have k6 := Lib.hid (below_two k4.out hb6))
    | (go_at_call 11; (with_reducible refine (rfText_is r ⟨#[]⟩ HT _ hl0).mono ?_); rintro e w1 ⟨rfl, hb1⟩; have r1f := Lib.hid (blk_new hb1); have hl1 := hl0.below hb1; have k1 := Lib.hid (below_two k0.out hb1))
    | (go_at_call 13; (with_reducible refine (rfParse_none ⟨#[]⟩ HP (by decide) _ hl1).mono ?_); rintro e w2 ⟨rfl, hb2⟩; have r2f := Lib.hid (blk_below2 hb2 r1f.out); have hl2 := hl1.below hb2; have k2 := Lib.hid (below_two k1.out hb2))
    | (go_at_call 9; (with_reducible refine (rfIs_v r 4 false HF _ hl3).mono ?_); rintro e w4 ⟨rfl, hb4⟩; have r4f := Lib.hid (blk_below2 hb4 r3f.out); have r4g := Lib.hid (blk_below2 hb4 r3g.out); have hl4 := hl3.below hb4; have k4 := Lib.hid (below_two k3.out hb4)))
  go_ret
  exact ⟨ret_bool (by simp), below_two k9.out hb10⟩
theorem backR_any (r : Rf) (s : ByteArray) (w : World) (hl : Laid w) :
    Calls Tryz.prog 6 #[.agg r.cells, .string s] w fun e w' => e = .returned (.bool true) ∧ Below w.heap.size w w' := by
  by_cases hs : 600 < s.size
  · exact backR_long r s hs w hl
  · cases hf : refIs r 4 <;> cases hp : refParse (L s)
    · exact backR_no_none r s (by omega) (Lib.hid hf) (Lib.hid hp) w hl
    · rename_i h
      have hb := refParse_back hp
      exact backR_no_some r s (by omega) (Lib.hid hf) h (Lib.hid hp) (Lib.hid hb.1) (Lib.hid (by rw [hb.2, B_L])) w hl
    · exact backR_yes_none r s (by omega) (Lib.hid hf) (Lib.hid hp) w hl
    · rename_i h
      have hb := refParse_back hp
      exact backR_yes_some r s (by omega) (Lib.hid hf) h (Lib.hid hp) (Lib.hid hb.1) (Lib.hid (by rw [hb.2, B_L])) w hl
end Go.Proofs.YtbiakbogpbncfaaGreatDoor
