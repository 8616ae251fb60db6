/- AmountTexts: a text that is read is the text of what was read. Conditions: LaidM. -/
import Derived.Test.YtcbegdjmopgbbaaGreatDoorMAlive
namespace Go.Proofs.YtcbegdjmopgbbaaGreatDoor
set_option linter.all false
open Go.ChangeShapes Go.WideShapes Go.RowKit
set_option maxRecDepth 100000 in
set_option maxHeartbeats 1000000 in
theorem atexts_some (s : ByteArray) (hs : s.size ≤ 1000) (a : Am) (HS : Hid (amParse (L s) = some a)) (HI : Hid (amIs a = true)) (HX : Hid (B (amText a) = s)) (w0 : World) (hl : LaidM w0) :
    Calls Tryz.prog 6 #[.string s] w0 fun e w' => e = .returned (.bool true) ∧ Below w0.heap.size w0 w' := by
  have hs' : ¬ (1000 : Int) < s.size := by omega
  have hs8 : Hid (s.size < 100000000) := Lib.hid (by omega)
  have k0 : Hid (Below w0.heap.size w0 w0) := Lib.hid (Below.refl _ _)
  have HSC := Lib.hid (fun (w : World) (hl : LaidM w) => aParse_some s a HS hs8.out w hl)
  clear HS
  go_enter Tryz.func6, Tryz.ntmps6
  go_wp2_with (first
    | (rw [wpList_skip_eq]; rotate_left; · rfl)
    | (go_at_call 8; (with_reducible refine (aliveM_any _ hl4).mono ?_); rintro e w5 ⟨rfl, hb5⟩; have r5a := Lib.hid (blk_below2 hb5 r4a.out); have hl5 := hl4.below hb5; have k5 := Lib.hid (below_two k4.out hb5))
    | refine wpList_load_row_g (by rfl) TAm _ (by rfl) w1.heap.size (by rfl) TAm a.cells (0, 0) _ r4a.out Tryz.underlying27 rfl infoTAm ?_
    | (go_at_call 11; (with_reducible refine (aText_is a s HX _ hl3).mono ?_); rintro e w4 ⟨rfl, hb4⟩; have r4a := Lib.hid (blk_below2 hb4 r3a.out); have hl4 := hl3.below hb4; have k4 := Lib.hid (below_two k3.out hb4))
    | refine wpList_load_row_g (by rfl) TAm _ (by rfl) w1.heap.size (by rfl) TAm a.cells (0, 0) _ r3a.out Tryz.underlying27 rfl infoTAm ?_
    | (go_at_call 9; (with_reducible refine (aIs_v a true HI _ hl2).mono ?_); rintro e w3 ⟨rfl, hb3⟩; have r3a := Lib.hid (blk_below2 hb3 r2a.out); have hl3 := hl2.below hb3; have k3 := Lib.hid (below_two k2.out hb3))
    | refine wpList_load_row_g (by rfl) TAm _ (by rfl) w1.heap.size (by rfl) TAm a.cells (0, 0) _ r2a.out Tryz.underlying27 rfl infoTAm ?_
    | (refine wpList_store_row (by rfl) TAm _ _ (by rfl) w1.heap.size a.cells (by rfl) (by rfl) TAm zeroA.cells (heap_alloc_new w1 _) infoTAm rfl (acells_one _) ?_; change wpList _ _ _ _ _ (stored w1 TAm zeroA.cells a.cells); have r2a := Lib.hid (stored_new w1 TAm zeroA.cells a.cells); have hl2 := hl1.below (stored_below w1 TAm zeroA.cells a.cells); have k2 := Lib.hid (k1.out.trans ((stored_below w1 TAm zeroA.cells a.cells).mono k1.out.size)); generalize stored w1 TAm zeroA.cells a.cells = w2 at *)
    | (go_at_call 13; (with_reducible refine (HSC.out _ hl).mono ?_); rintro e w1 ⟨rfl, hb1⟩; have hl1 := hl.below hb1; have k1 := Lib.hid (below_two k0.out hb1)))
  go_ret
  exact ⟨ret_bool (by simp), k5.out⟩
set_option maxRecDepth 100000 in
set_option maxHeartbeats 1000000 in
theorem atexts_none (s : ByteArray) (hs : s.size ≤ 1000) (HS : Hid (amParse (L s) = none)) (w0 : World) (hl : LaidM w0) :
    Calls Tryz.prog 6 #[.string s] w0 fun e w' => e = .returned (.bool true) ∧ Below w0.heap.size w0 w' := by
  have hs' : ¬ (1000 : Int) < s.size := by omega
  have hs8 : Hid (s.size < 100000000) := Lib.hid (by omega)
  have k0 : Hid (Below w0.heap.size w0 w0) := Lib.hid (Below.refl _ _)
  have e1 : ∀ wx : World, (binOp .eql TAm (.agg zeroA.cells) (.agg zeroA.cells)).run Tryz.prog wx = .ok (.bool true) wx := fun wx => (eq_am _ _ wx).trans (by rw [amEq_refl])
  have HSC := Lib.hid (fun (w : World) (hl : LaidM w) => aParse_none s HS hs8.out w hl)
  clear HS
  go_enter Tryz.func6, Tryz.ntmps6
  go_wp2_with (first
    | (rw [wpList_skip_eq]; rotate_left; · rfl)
    | refine wpList_build0_g (by rfl) TAm (by rfl) (.agg zeroA.cells) (build_zeroA _) ?_
    | (go_at_call 8; (with_reducible refine (aliveM_any _ hl2).mono ?_); rintro e w3 ⟨rfl, hb3⟩; have r3a := Lib.hid (blk_below2 hb3 r2a.out); have hl3 := hl2.below hb3; have k3 := Lib.hid (below_two k2.out hb3))
    | refine wpList_load_row_g (by rfl) TAm _ (by rfl) w1.heap.size (by rfl) TAm zeroA.cells (0, 0) _ r2a.out Tryz.underlying27 rfl infoTAm ?_
    | (refine wpList_store_row (by rfl) TAm _ _ (by rfl) w1.heap.size zeroA.cells (by rfl) (by rfl) TAm zeroA.cells (heap_alloc_new w1 _) infoTAm rfl (acells_one _) ?_; change wpList _ _ _ _ _ (stored w1 TAm zeroA.cells zeroA.cells); have r2a := Lib.hid (stored_new w1 TAm zeroA.cells zeroA.cells); have hl2 := hl1.below (stored_below w1 TAm zeroA.cells zeroA.cells); have k2 := Lib.hid (k1.out.trans ((stored_below w1 TAm zeroA.cells zeroA.cells).mono k1.out.size)); generalize stored w1 TAm zeroA.cells zeroA.cells = w2 at *)
    | (go_at_call 13; (with_reducible refine (HSC.out _ hl).mono ?_); rintro e w1 ⟨rfl, hb1⟩; have hl1 := hl.below hb1; have k1 := Lib.hid (below_two k0.out hb1)))
  go_ret
  exact ⟨ret_bool (by simp), k3.out⟩
theorem amountTexts_law (s : ByteArray) (w : World) (hl : LaidM w) : Calls Tryz.prog 6 #[.string s] w fun e w' => e = .returned (.bool true) ∧ Below w.heap.size w w' := by
  by_cases hs : 1000 < s.size
  · have hs' : (1000 : Int) < s.size := by omega
    go_enter Tryz.func6, Tryz.ntmps6
    go_wp2_with (go_at_call 8; (with_reducible refine (aliveM_any _ hl).mono ?_); rintro e w1 ⟨rfl, hb1⟩)
    go_ret
    exact ⟨rfl, hb1⟩
  · cases hp : amParse (L s) with
    | some a =>
      obtain ⟨ha, hx⟩ := amParse_back hp
      exact atexts_some s (by omega) a (Lib.hid hp) (Lib.hid ha) (Lib.hid (by rw [hx, B_L])) w hl
    | none => exact atexts_none s (by omega) (Lib.hid hp) w hl
end Go.Proofs.YtcbegdjmopgbbaaGreatDoor
