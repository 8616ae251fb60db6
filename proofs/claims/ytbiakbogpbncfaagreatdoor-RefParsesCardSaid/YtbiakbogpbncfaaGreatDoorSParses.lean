/- RefParses: the program's reading is the reference's. Conditions: Laid. -/
import Derived.Test.YtbiakbogpbncfaaGreatDoorSAlive
import Derived.Test.YtbiakbogpbncfaaGreatDoorSRParse
namespace Go.Proofs.YtbiakbogpbncfaaGreatDoor
set_option linter.all false
open Go.ChangeShapes Go.WideShapes Go.RowKit
set_option maxRecDepth 100000 in
set_option maxHeartbeats 1000000 in
theorem rparses_at (s : ByteArray) (G : Rf) (n : Int) (hs : s.size ≤ 600) (w : World) (hl : Laid w)
    (h1 : ∀ w, Laid w → Calls Tryz.prog 13 #[.string s] w fun e w' => e = .returned (.tuple #[.agg G.cells, .int .i64 n]) ∧ Below w.heap.size w w')
    (h2 : ∀ w, Calls Tryz.prog 14 #[.string s] w fun e w' => e = .returned (.tuple #[.agg G.cells, .int .i64 n]) ∧ Below w.heap.size w w') :
    Calls Tryz.prog 5 #[.string s] w fun e w' => e = .returned (.bool true) ∧ Below w.heap.size w w' := by
  have hs' : ¬ (600 : Int) < s.size := by omega
  have heq : ∀ wx : World, (binOp .eql TRf (.agg G.cells) (.agg G.cells)).run Tryz.prog wx = .ok (.bool true) wx := fun wx => (eq_rf G G wx).trans (by rw [rfEq_refl])
  have H1 := Lib.hid h1
  have H2 := Lib.hid h2
  clear h1 h2
  go_enter Tryz.func5, Tryz.ntmps5
  go_wp2_with (first
    | refine wpList_load_row_g rfl TRf (.tmp 3) rfl w1.heap.size rfl TRf G.cells (0, 0) _ r5a.out Tryz.underlying27 rfl infoTRf ?_
    | refine wpList_load_row_g rfl TRf (.tmp 5) rfl w3.heap.size rfl TRf G.cells (0, 0) _ r5b.out Tryz.underlying27 rfl infoTRf ?_
    | (refine wpList_store_row rfl TRf (.tmp 3) (.tmp 14) rfl w1.heap.size G.cells rfl rfl TRf zeroR.cells (heap_alloc_new w1 _) infoTRf rfl (rcells_one _) ?_; change wpList _ _ _ _ _ (stored w1 TRf zeroR.cells G.cells); have r2a := Lib.hid (stored_new w1 TRf zeroR.cells G.cells); have hl2 := hl1.below (stored_below w1 TRf zeroR.cells G.cells); have k2 := k1.trans ((stored_below w1 TRf zeroR.cells G.cells).mono k1.size); generalize stored w1 TRf zeroR.cells G.cells = w2 at *)
    | (refine wpList_store_row rfl TRf (.tmp 5) (.tmp 19) rfl w3.heap.size G.cells rfl rfl TRf zeroR.cells (heap_alloc_new w3 _) infoTRf rfl (rcells_one _) ?_; change wpList _ _ _ _ _ (stored w3 TRf zeroR.cells G.cells); have r4b := Lib.hid (stored_new w3 TRf zeroR.cells G.cells); have r4a := Lib.hid (stored_old (t := TRf) (o := zeroR.cells) (cs := G.cells) r3a.out); have hl4 := hl3.below (stored_below w3 TRf zeroR.cells G.cells); have k4 := k3.trans ((stored_below w3 TRf zeroR.cells G.cells).mono k3.size); generalize stored w3 TRf zeroR.cells G.cells = w4 at *)
    | (go_at_call 13; (with_reducible refine (H1.out _ hl).mono ?_); rintro e w1 ⟨rfl, k1⟩; have hl1 := hl.below k1)
    | (go_at_call 14; (with_reducible refine (H2.out _).mono ?_); rintro e w3 ⟨rfl, hb3⟩; have r3a := Lib.hid (blk_below2 hb3 r2a.out); have hl3 := hl2.below hb3; have k3 := below_two k2 hb3)
    | (go_at_call 8; (with_reducible refine (aliveR_any _ hl4).mono ?_); rintro e w5 ⟨rfl, hb5⟩; have r5a := Lib.hid (blk_below2 hb5 r4a.out); have r5b := Lib.hid (blk_below2 hb5 r4b.out); have k5 := below_two k4 hb5))
  go_ret
  exact ⟨ret_bool (by simp), k5⟩
theorem refParses_law (s : ByteArray) (w : World) (hl : Laid w) : Calls Tryz.prog 5 #[.string s] w fun e w' => e = .returned (.bool true) ∧ Below w.heap.size w w' := by
  by_cases hs : 600 < s.size
  · have hs' : (600 : Int) < s.size := by omega
    go_enter Tryz.func5, Tryz.ntmps5
    go_wp2_with (go_at_call 8; (with_reducible refine (aliveR_any _ hl).mono ?_); rintro e w1 ⟨rfl, hb1⟩)
    go_ret
    exact ⟨rfl, hb1⟩
  · cases hp : refParse (L s) with
    | some G =>
      refine rparses_at s G 0 (by omega) w hl (fun w hl => (rfParse_any s w hl (by omega)).mono fun e w' ⟨he, hb⟩ => ⟨by rw [he, hp]; rfl, hb⟩) (fun w => (rrParse_any s w (by omega)).mono fun e w' ⟨he, hb⟩ => ⟨by rw [he, qRefParse_eq, hp]; rfl, hb⟩)
    | none =>
      refine rparses_at s zeroR 3 (by omega) w hl (fun w hl => (rfParse_any s w hl (by omega)).mono fun e w' ⟨he, hb⟩ => ⟨by rw [he, hp]; rfl, hb⟩) (fun w => (rrParse_any s w (by omega)).mono fun e w' ⟨he, hb⟩ => ⟨by rw [he, qRefParse_eq, hp]; rfl, hb⟩)
end Go.Proofs.YtbiakbogpbncfaaGreatDoor
