/- TriggerParse: the program's reading is the reference's. Conditions: LaidT. -/
import Derived.Test.YtnibonmeihdjbaaGreatDoorTAlive
namespace Go.Proofs.YtnibonmeihdjbaaGreatDoor
set_option linter.all false
open Go.ChangeShapes Go.WideShapes Go.RowKit
set_option maxRecDepth 100000 in
set_option maxHeartbeats 2000000 in
theorem tparses_at (s : ByteArray) (G : Tg) (n : Int) (hs : s.size ≤ 500) (w0 : World) (hl : LaidT w0)
    (h1 : ∀ w, LaidT w → Calls Tryz.prog 15 #[.string s] w fun e w' => e = .returned (.tuple #[.agg G.cells, .int .i64 n]) ∧ Below w.heap.size w w')
    (h2 : ∀ w, Calls Tryz.prog 16 #[.string s] w fun e w' => e = .returned (.tuple #[.agg G.cells, .int .i64 n]) ∧ Below w.heap.size w w') :
    Calls Tryz.prog 4 #[.string s] w0 fun e w' => e = .returned (.bool true) ∧ Below w0.heap.size w0 w' := by
  have hs' : ¬ (500 : Int) < s.size := by omega
  have heq : ∀ wx : World, (binOp .eql TTg (.agg G.cells) (.agg G.cells)).run Tryz.prog wx = .ok (.bool true) wx := fun wx => (eq_tg G G wx).trans (by rw [tgEq_refl])
  have H1 := Lib.hid h1
  have H2 := Lib.hid h2
  have k0 : Hid (Below w0.heap.size w0 w0) := Lib.hid (Below.refl _ _)
  clear h1 h2
  go_enter Tryz.func4, Tryz.ntmps4
  go_wp2_with (first
    | (rw [wpList_skip_eq]; rotate_left; · rfl)
    | (go_at_call 8; (with_reducible refine (aliveT_any _ hl4).mono ?_); rintro e w5 ⟨rfl, hb5⟩; have r5b := Lib.hid (blk_below2 hb5 r4b.out); have r5a := Lib.hid (blk_below2 hb5 r4a.out); have hl5 := hl4.below hb5; have k5 := Lib.hid (below_two k4.out hb5))
    | refine wpList_load_row_g (by rfl) TTg _ (by rfl) w1.heap.size (by rfl) TTg G.cells (0, 0) _ r4a.out Tryz.underlying27 rfl infoTTg ?_
    | refine wpList_load_row_g (by rfl) TTg _ (by rfl) w3.heap.size (by rfl) TTg G.cells (0, 0) _ r4b.out Tryz.underlying27 rfl infoTTg ?_
    | (refine wpList_store_row (by rfl) TTg _ _ (by rfl) w3.heap.size G.cells (by rfl) (by rfl) TTg zeroT.cells (heap_alloc_new w3 _) infoTTg rfl (tcells_one _) ?_; change wpList _ _ _ _ _ (stored w3 TTg zeroT.cells G.cells); have r4b := Lib.hid (stored_new w3 TTg zeroT.cells G.cells); have r4a := Lib.hid (stored_old (t := TTg) (o := zeroT.cells) (cs := G.cells) r3a.out); have hl4 := hl3.below (stored_below w3 TTg zeroT.cells G.cells); have k4 := Lib.hid (k3.out.trans ((stored_below w3 TTg zeroT.cells G.cells).mono k3.out.size)); generalize stored w3 TTg zeroT.cells G.cells = w4 at *)
    | (go_at_call 16; (with_reducible refine (H2.out _).mono ?_); rintro e w3 ⟨rfl, hb3⟩; have r3a := Lib.hid (blk_below2 hb3 r2a.out); have hl3 := hl2.below hb3; have k3 := Lib.hid (below_two k2.out hb3))
    | (refine wpList_store_row (by rfl) TTg _ _ (by rfl) w1.heap.size G.cells (by rfl) (by rfl) TTg zeroT.cells (heap_alloc_new w1 _) infoTTg rfl (tcells_one _) ?_; change wpList _ _ _ _ _ (stored w1 TTg zeroT.cells G.cells); have r2a := Lib.hid (stored_new w1 TTg zeroT.cells G.cells); have hl2 := hl1.below (stored_below w1 TTg zeroT.cells G.cells); have k2 := Lib.hid (k1.out.trans ((stored_below w1 TTg zeroT.cells G.cells).mono k1.out.size)); generalize stored w1 TTg zeroT.cells G.cells = w2 at *)
    | (go_at_call 15; (with_reducible refine (H1.out _ hl).mono ?_); rintro e w1 ⟨rfl, hb1⟩; have hl1 := hl.below hb1; have k1 := Lib.hid (below_two k0.out hb1)))
  go_ret
  exact ⟨ret_bool (by simp), k5.out⟩
theorem triggerParse_law (s : ByteArray) (w : World) (hl : LaidT w) : Calls Tryz.prog 4 #[.string s] w fun e w' => e = .returned (.bool true) ∧ Below w.heap.size w w' := by
  by_cases hs : 500 < s.size
  · have hs' : (500 : Int) < s.size := by omega
    go_enter Tryz.func4, Tryz.ntmps4
    go_wp2_with (go_at_call 8; (with_reducible refine (aliveT_any _ hl).mono ?_); rintro e w1 ⟨rfl, hb1⟩)
    go_ret
    exact ⟨rfl, hb1⟩
  · cases hp : tgParse (L s) with
    | some G =>
      exact tparses_at s G 0 (by omega) w hl (fun w hl => (tParse_any s w hl (by omega)).mono fun e w' ⟨he, hb⟩ => ⟨by rw [he, hp]; rfl, hb⟩) (fun w => (rTParse_any s w (by omega)).mono fun e w' ⟨he, hb⟩ => ⟨by rw [he, qTg_eq, hp]; rfl, hb⟩)
    | none =>
      exact tparses_at s zeroT 3 (by omega) w hl (fun w hl => (tParse_any s w hl (by omega)).mono fun e w' ⟨he, hb⟩ => ⟨by rw [he, hp]; rfl, hb⟩) (fun w => (rTParse_any s w (by omega)).mono fun e w' ⟨he, hb⟩ => ⟨by rw [he, qTg_eq, hp]; rfl, hb⟩)
end Go.Proofs.YtnibonmeihdjbaaGreatDoor
