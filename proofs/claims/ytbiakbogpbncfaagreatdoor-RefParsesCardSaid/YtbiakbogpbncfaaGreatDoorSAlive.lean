/- Walks: the statements' fixed calls of chapter 16. Conditions: Laid. -/
import Derived.Test.YtbiakbogpbncfaaGreatDoorSParse
import Derived.Test.YtbiakbogpbncfaaGreatDoorSEq
namespace Go.Proofs.YtbiakbogpbncfaaGreatDoor
set_option linter.all false
open Go.ChangeShapes Go.WideShapes Go.RowKit
theorem sa1 : refParse [116, 97, 114, 103, 101, 116, 49] = some ⟨3, 1, zeroF⟩ := by kernel_rfl
theorem sa2 : refParse [101, 97, 99, 104, 40, 116, 104, 101, 105, 114, 115, 32, 99, 114, 101, 97, 116, 117, 114, 101, 41] = some ⟨4, 0, ⟨0, 2, 0, 1, 0, 0, 0, ⟨#[]⟩, 0, 0, 0, 0, 0, 0, 0, 0⟩⟩ := by kernel_rfl
theorem sa3 : refParse [116, 97, 114, 103, 101, 116, 53] = none := by kernel_rfl
theorem sa4 : refText ⟨8, 4, zeroF⟩ = [111, 119, 110, 101, 114, 52] := by kernel_rfl
theorem rfParse_some (s : ByteArray) (r : Rf) (h : Hid (refParse (L s) = some r)) (hs : s.size < 100000000) (w : World) (hl : Laid w) : Calls Tryz.prog 13 #[.string s] w fun e w' => e = .returned (.tuple #[.agg r.cells, .int .i64 0]) ∧ Below w.heap.size w w' :=
  (rfParse_any s w hl hs).mono fun e w' ⟨he, hb⟩ => ⟨by rw [he, h.out]; rfl, hb⟩
theorem rfParse_none (s : ByteArray) (h : Hid (refParse (L s) = none)) (hs : s.size < 100000000) (w : World) (hl : Laid w) : Calls Tryz.prog 13 #[.string s] w fun e w' => e = .returned (.tuple #[.agg zeroR.cells, .int .i64 3]) ∧ Below w.heap.size w w' :=
  (rfParse_any s w hl hs).mono fun e w' ⟨he, hb⟩ => ⟨by rw [he, h.out]; rfl, hb⟩
theorem rfText84 (w : World) (hl : Laid w) : Calls Tryz.prog 11 #[.agg #[.int .i64 8, .int .i64 4, .int .i64 0, .int .i64 0, .int .i64 0, .int .i64 0, .int .i64 0, .int .i64 0, .int .i64 0, .string ⟨#[]⟩, .int .i64 0, .int .i64 0, .int .i64 0, .int .i64 0, .int .i64 0, .int .i64 0, .int .i64 0, .int .i64 0]] w fun e w' => e = .returned (.string ⟨#[111, 119, 110, 101, 114, 52]⟩) ∧ Below w.heap.size w w' :=
  rfText_is ⟨8, 4, zeroF⟩ ⟨#[111, 119, 110, 101, 114, 52]⟩ (Lib.hid (by rw [sa4]; rfl)) w hl
set_option maxRecDepth 100000 in
set_option maxHeartbeats 2000000 in
theorem aliveR_any (w : World) (hl : Laid w) :
    Calls Tryz.prog 8 #[] w fun e w' => e = .returned (.bool true) ∧ Below w.heap.size w w' := by
  have heq : ∀ wx : World, (binOp .eql TRf (.agg (Rf.cells ⟨3, 1, zeroF⟩)) (.agg #[.int .i64 3, .int .i64 1, .int .i64 0, .int .i64 0, .int .i64 0, .int .i64 0, .int .i64 0, .int .i64 0, .int .i64 0, .string ⟨#[]⟩, .int .i64 0, .int .i64 0, .int .i64 0, .int .i64 0, .int .i64 0, .int .i64 0, .int .i64 0, .int .i64 0])).run Tryz.prog wx = .ok (.bool true) wx := fun wx => (eq_rf ⟨3, 1, zeroF⟩ ⟨3, 1, zeroF⟩ wx).trans (by rw [rfEq_refl])
  have H0 : Hid (refIs ⟨3, 1, zeroF⟩ 0 = false) := Lib.hid (by kernel_rfl)
  have H1 : Hid (refIs ⟨3, 1, zeroF⟩ 1 = true) := Lib.hid (by kernel_rfl)
  have P1 : Hid (refParse (L ⟨#[116, 97, 114, 103, 101, 116, 49]⟩) = some ⟨3, 1, zeroF⟩) := Lib.hid sa1
  have P2 : Hid (refParse (L ⟨#[101, 97, 99, 104, 40, 116, 104, 101, 105, 114, 115, 32, 99, 114, 101, 97, 116, 117, 114, 101, 41]⟩) = some ⟨4, 0, ⟨0, 2, 0, 1, 0, 0, 0, ⟨#[]⟩, 0, 0, 0, 0, 0, 0, 0, 0⟩⟩) := Lib.hid sa2
  have P3 : Hid (refParse (L ⟨#[116, 97, 114, 103, 101, 116, 53]⟩) = none) := Lib.hid sa3
  go_enter Tryz.func8, Tryz.ntmps8
  go_wp2_with (first
    | refine wpList_load_row_g rfl TRf (.tmp 1) rfl w1.heap.size rfl TRf (Rf.cells ⟨3, 1, zeroF⟩) (0, 0) _ r8a.out Tryz.underlying27 rfl infoTRf ?_
    | refine wpList_load_row_g rfl TRf (.tmp 1) rfl w1.heap.size rfl TRf (Rf.cells ⟨3, 1, zeroF⟩) (0, 0) _ r7a.out Tryz.underlying27 rfl infoTRf ?_
    | refine wpList_load_row_g rfl TRf (.tmp 1) rfl w1.heap.size rfl TRf (Rf.cells ⟨3, 1, zeroF⟩) (0, 0) _ r6a.out Tryz.underlying27 rfl infoTRf ?_
    | (refine wpList_store_row rfl TRf (.tmp 1) (.tmp 9) rfl w1.heap.size (Rf.cells ⟨3, 1, zeroF⟩) rfl rfl TRf zeroR.cells (heap_alloc_new w1 _) infoTRf rfl (rcells_one _) ?_; change wpList _ _ _ _ _ (stored w1 TRf zeroR.cells (Rf.cells ⟨3, 1, zeroF⟩)); have r2a := Lib.hid (stored_new w1 TRf zeroR.cells (Rf.cells ⟨3, 1, zeroF⟩)); have hl2 := hl1.below (stored_below w1 TRf zeroR.cells (Rf.cells ⟨3, 1, zeroF⟩)); have k2 := Lib.hid (k1.out.trans ((stored_below w1 TRf zeroR.cells (Rf.cells ⟨3, 1, zeroF⟩)).mono k1.out.size)); generalize stored w1 TRf zeroR.cells (Rf.cells ⟨3, 1, zeroF⟩) = w2 at *)
    | (refine wpList_store_row rfl TRf (.tmp 3) (.tmp 13) rfl w3.heap.size (Rf.cells ⟨4, 0, ⟨0, 2, 0, 1, 0, 0, 0, ⟨#[]⟩, 0, 0, 0, 0, 0, 0, 0, 0⟩⟩) rfl rfl TRf zeroR.cells (heap_alloc_new w3 _) infoTRf rfl (rcells_one _) ?_; change wpList _ _ _ _ _ (stored w3 TRf zeroR.cells (Rf.cells ⟨4, 0, ⟨0, 2, 0, 1, 0, 0, 0, ⟨#[]⟩, 0, 0, 0, 0, 0, 0, 0, 0⟩⟩)); have r4b := Lib.hid (stored_new w3 TRf zeroR.cells (Rf.cells ⟨4, 0, ⟨0, 2, 0, 1, 0, 0, 0, ⟨#[]⟩, 0, 0, 0, 0, 0, 0, 0, 0⟩⟩)); have r4a := Lib.hid (stored_old (t := TRf) (o := zeroR.cells) (cs := (Rf.cells ⟨4, 0, ⟨0, 2, 0, 1, 0, 0, 0, ⟨#[]⟩, 0, 0, 0, 0, 0, 0, 0, 0⟩⟩)) r3a.out); have hl4 := hl3.below (stored_below w3 TRf zeroR.cells (Rf.cells ⟨4, 0, ⟨0, 2, 0, 1, 0, 0, 0, ⟨#[]⟩, 0, 0, 0, 0, 0, 0, 0, 0⟩⟩)); have k4 := Lib.hid (k3.out.trans ((stored_below w3 TRf zeroR.cells (Rf.cells ⟨4, 0, ⟨0, 2, 0, 1, 0, 0, 0, ⟨#[]⟩, 0, 0, 0, 0, 0, 0, 0, 0⟩⟩)).mono k3.out.size)); generalize stored w3 TRf zeroR.cells (Rf.cells ⟨4, 0, ⟨0, 2, 0, 1, 0, 0, 0, ⟨#[]⟩, 0, 0, 0, 0, 0, 0, 0, 0⟩⟩) = w4 at *)
    | (refine wpList_store_row rfl TRf (.tmp 5) (.tmp 17) rfl w5.heap.size zeroR.cells rfl rfl TRf zeroR.cells (heap_alloc_new w5 _) infoTRf rfl (rcells_one _) ?_; change wpList _ _ _ _ _ (stored w5 TRf zeroR.cells zeroR.cells); have r6c := Lib.hid (stored_new w5 TRf zeroR.cells zeroR.cells); have r6a := Lib.hid (stored_old (t := TRf) (o := zeroR.cells) (cs := zeroR.cells) r5a.out); have r6b := Lib.hid (stored_old (t := TRf) (o := zeroR.cells) (cs := zeroR.cells) r5b.out); have hl6 := hl5.below (stored_below w5 TRf zeroR.cells zeroR.cells); have k6 := Lib.hid (k5.out.trans ((stored_below w5 TRf zeroR.cells zeroR.cells).mono k5.out.size)); have q0 : World.cell? (stored w5 TRf zeroR.cells zeroR.cells) ⟨w3.heap.size, 0, none⟩ = some (.int .i64 4) := cell_of_row _ _ 0 _ _ (0, 0) r6b.out; have q3 : World.cell? (stored w5 TRf zeroR.cells zeroR.cells) ⟨w3.heap.size, 3, none⟩ = some (.int .i64 2) := cell_of_row _ _ 3 _ _ (0, 0) r6b.out; generalize stored w5 TRf zeroR.cells zeroR.cells = w6 at *)
    | (go_at_call 13; (with_reducible refine (rfParse_some _ _ P1 (by decide) _ hl).mono ?_); rintro e w1 ⟨rfl, hb1⟩; have hl1 := hl.below hb1; have k1 := Lib.hid hb1)
    | (go_at_call 13; (with_reducible refine (rfParse_some _ _ P2 (by decide) _ hl2).mono ?_); rintro e w3 ⟨rfl, hb3⟩; have hl3 := hl2.below hb3; have k3 := Lib.hid (below_two k2.out hb3); have r3a := Lib.hid (blk_below2 hb3 r2a.out))
    | (go_at_call 13; (with_reducible refine (rfParse_none _ P3 (by decide) _ hl4).mono ?_); rintro e w5 ⟨rfl, hb5⟩; have hl5 := hl4.below hb5; have k5 := Lib.hid (below_two k4.out hb5); have r5a := Lib.hid (blk_below2 hb5 r4a.out); have r5b := Lib.hid (blk_below2 hb5 r4b.out))
    | (go_at_call 11; (with_reducible refine (rfText84 _ hl6).mono ?_); rintro e w7 ⟨rfl, hb7⟩; have hl7 := hl6.below hb7; have k7 := Lib.hid (below_two k6.out hb7); have r7a := Lib.hid (blk_below2 hb7 r6a.out))
    | (go_at_call 9; (with_reducible refine (rfIs_v ⟨3, 1, zeroF⟩ 0 false H0 _ hl7).mono ?_); rintro e w8 ⟨rfl, hb8⟩; have hl8 := hl7.below hb8; have k8 := Lib.hid (below_two k7.out hb8); have r8a := Lib.hid (blk_below2 hb8 r7a.out))
    | (go_at_call 9; (with_reducible refine (rfIs_v ⟨3, 1, zeroF⟩ 1 true H1 _ hl8).mono ?_); rintro e w9 ⟨rfl, hb9⟩))
  go_ret
  exact ⟨rfl, below_two k8.out hb9⟩
end Go.Proofs.YtbiakbogpbncfaaGreatDoor
