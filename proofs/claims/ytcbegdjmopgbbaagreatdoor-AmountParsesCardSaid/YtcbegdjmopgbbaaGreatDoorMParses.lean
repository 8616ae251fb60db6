/- AmountParses: the program's reading is the reference's. Conditions: LaidM. -/
import Derived.Test.YtcbegdjmopgbbaaGreatDoorMRParse
namespace Go.Proofs.YtcbegdjmopgbbaaGreatDoor
set_option linter.all false
open Go.ChangeShapes Go.WideShapes Go.RowKit
set_option maxRecDepth 100000 in
set_option maxHeartbeats 2000000 in
theorem aparses_at (s : ByteArray) (G : Am) (n : Int) (hs : s.size ≤ 1000) (w0 : World) (hl : LaidM w0)
    (h1 : ∀ w, LaidM w → Calls Tryz.prog 13 #[.string s] w fun e w' => e = .returned (.tuple #[.agg G.cells, .int .i64 n]) ∧ Below w.heap.size w w')
    (h2 : ∀ w, Calls Tryz.prog 14 #[.string s] w fun e w' => e = .returned (.tuple #[.agg G.cells, .int .i64 n]) ∧ Below w.heap.size w w') :
    Calls Tryz.prog 4 #[.string s] w0 fun e w' => e = .returned (.bool true) ∧ Below w0.heap.size w0 w' := by
  have hs' : ¬ (1000 : Int) < s.size := by omega
  have heq : ∀ wx : World, (binOp .eql TAm (.agg G.cells) (.agg G.cells)).run Tryz.prog wx = .ok (.bool true) wx := fun wx => (eq_am G G wx).trans (by rw [amEq_refl])
  have H1 := Lib.hid h1
  have H2 := Lib.hid h2
  have k0 : Hid (Below w0.heap.size w0 w0) := Lib.hid (Below.refl _ _)
  clear h1 h2
  go_enter Tryz.func4, Tryz.ntmps4
  go_wp2_with (first
    | (rw [wpList_skip_eq]; rotate_left; · rfl)
    | (go_at_call 8; (with_reducible refine (aliveM_any _ hl4).mono ?_); rintro e w5 ⟨rfl, hb5⟩; have r5b := Lib.hid (blk_below2 hb5 r4b.out); have r5a := Lib.hid (blk_below2 hb5 r4a.out); have hl5 := hl4.below hb5; have k5 := Lib.hid (below_two k4.out hb5))
    | refine wpList_load_row_g (by rfl) TAm _ (by rfl) w1.heap.size (by rfl) TAm G.cells (0, 0) _ r4a.out Tryz.underlying27 rfl infoTAm ?_
    | refine wpList_load_row_g (by rfl) TAm _ (by rfl) w3.heap.size (by rfl) TAm G.cells (0, 0) _ r4b.out Tryz.underlying27 rfl infoTAm ?_
    | (refine wpList_store_row (by rfl) TAm _ _ (by rfl) w3.heap.size G.cells (by rfl) (by rfl) TAm zeroA.cells (heap_alloc_new w3 _) infoTAm rfl (acells_one _) ?_; change wpList _ _ _ _ _ (stored w3 TAm zeroA.cells G.cells); have r4b := Lib.hid (stored_new w3 TAm zeroA.cells G.cells); have r4a := Lib.hid (stored_old (t := TAm) (o := zeroA.cells) (cs := G.cells) r3a.out); have hl4 := hl3.below (stored_below w3 TAm zeroA.cells G.cells); have k4 := Lib.hid (k3.out.trans ((stored_below w3 TAm zeroA.cells G.cells).mono k3.out.size)); generalize stored w3 TAm zeroA.cells G.cells = w4 at *)
    | (go_at_call 14; (with_reducible refine (H2.out _).mono ?_); rintro e w3 ⟨rfl, hb3⟩; have r3a := Lib.hid (blk_below2 hb3 r2a.out); have hl3 := hl2.below hb3; have k3 := Lib.hid (below_two k2.out hb3))
    | (refine wpList_store_row (by rfl) TAm _ _ (by rfl) w1.heap.size G.cells (by rfl) (by rfl) TAm zeroA.cells (heap_alloc_new w1 _) infoTAm rfl (acells_one _) ?_; change wpList _ _ _ _ _ (stored w1 TAm zeroA.cells G.cells); have r2a := Lib.hid (stored_new w1 TAm zeroA.cells G.cells); have hl2 := hl1.below (stored_below w1 TAm zeroA.cells G.cells); have k2 := Lib.hid (k1.out.trans ((stored_below w1 TAm zeroA.cells G.cells).mono k1.out.size)); generalize stored w1 TAm zeroA.cells G.cells = w2 at *)
    | (go_at_call 13; (with_reducible refine (H1.out _ hl).mono ?_); rintro e w1 ⟨rfl, hb1⟩; have hl1 := hl.below hb1; have k1 := Lib.hid (below_two k0.out hb1)))
  go_ret
  exact ⟨ret_bool (by simp), k5.out⟩
theorem amountParses_law (s : ByteArray) (w : World) (hl : LaidM w) : Calls Tryz.prog 4 #[.string s] w fun e w' => e = .returned (.bool true) ∧ Below w.heap.size w w' := by
  by_cases hs : 1000 < s.size
  · have hs' : (1000 : Int) < s.size := by omega
    go_enter Tryz.func4, Tryz.ntmps4
    go_wp2_with (go_at_call 8; (with_reducible refine (aliveM_any _ hl).mono ?_); rintro e w1 ⟨rfl, hb1⟩)
    go_ret
    exact ⟨rfl, hb1⟩
  · cases hp : amParse (L s) with
    | some G =>
      exact aparses_at s G 0 (by omega) w hl (fun w hl => (aParse_any s w hl (by omega)).mono fun e w' ⟨he, hb⟩ => ⟨by rw [he, hp]; rfl, hb⟩) (fun w => (rAParse_any s w (by omega)).mono fun e w' ⟨he, hb⟩ => ⟨by rw [he, qAm_eq, hp]; rfl, hb⟩)
    | none =>
      exact aparses_at s zeroA 3 (by omega) w hl (fun w hl => (aParse_any s w hl (by omega)).mono fun e w' ⟨he, hb⟩ => ⟨by rw [he, hp]; rfl, hb⟩) (fun w => (rAParse_any s w (by omega)).mono fun e w' ⟨he, hb⟩ => ⟨by rw [he, qAm_eq, hp]; rfl, hb⟩)
end Go.Proofs.YtcbegdjmopgbbaaGreatDoor
