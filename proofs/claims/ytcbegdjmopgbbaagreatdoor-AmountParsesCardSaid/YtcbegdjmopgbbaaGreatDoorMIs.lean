/- Walks: package amount: used, Is. Conditions: LaidM. -/
import Derived.Test.YtcbegdjmopgbbaaGreatDoorMMem
namespace Go.Proofs.YtcbegdjmopgbbaaGreatDoor
set_option linter.all false
open Go.ChangeShapes Go.WideShapes Go.RowKit
def usedA (a : Am) : Am := ⟨0, if a.k = 0 ∨ a.k = 2 then 0 else a.n, if a.k = 4 then 0 else a.c, if a.k = 2 then zeroF else a.f⟩
theorem fltIs_v (f : Flt) (R : Bool) (HR : Hid (fltIs f = R)) (w : World) (hl : Laid w) : Calls Tryz.prog 16 #[.agg f.cells] w fun e w' => e = .returned (.bool R) ∧ Below w.heap.size w w' :=
  fltIs_any f.zone f.who f.self f.types f.ntypes f.colors f.ncolors f.sub f.keys f.tap f.pk f.pn f.tk f.tn f.vk f.vn w hl R HR
set_option maxRecDepth 100000 in
set_option maxHeartbeats 1000000 in
theorem used_2 (a : Am) (h : a.k = 2) (w : World) :
    Calls Tryz.prog 15 #[.agg a.cells] w fun e w' => e = .returned (.agg (Am.cells ⟨0, 0, a.c, zeroF⟩)) ∧ Below w.heap.size w w' := by
  have t2 : (a.k == 2) = true := by simpa using h
  clear h
  have g0 : Hid (((w.alloc (.cells a.cells TAm)).alloc (.cells zeroA.cells TAm)).heap[w.heap.size]? = some (.cells a.cells TAm)) := Lib.hid (heap_alloc2_old w _ _)
  have z0 : Hid (((w.alloc (.cells a.cells TAm)).alloc (.cells zeroA.cells TAm)).heap[w.heap.size + 1]? = some (.cells zeroA.cells TAm)) := Lib.hid (heap_alloc2_new w _ _)
  have k0 : Hid (Below w.heap.size w ((w.alloc (.cells a.cells TAm)).alloc (.cells zeroA.cells TAm))) := Lib.hid (((Below.refl _ _).alloc (Nat.le_refl _) _).alloc (by simp) _)
  have q0 : ((w.alloc (.cells a.cells TAm)).alloc (.cells zeroA.cells TAm)).cell? ⟨w.heap.size, 0, none⟩ = some (.int .i64 a.k) := cell_of_row _ _ 0 _ _ (0, 0) g0.out
  go_enter Tryz.func15, Tryz.ntmps15
  go_upto_region 1 with fail
  change Code.wp _ _ _ _ ((w.alloc (.cells a.cells TAm)).alloc (.cells zeroA.cells TAm))
  generalize (w.alloc (.cells a.cells TAm)).alloc (.cells zeroA.cells TAm) = w0 at *
  go_wp2_with (first | (refine wpList_store_part (by rfl) TF _ _ (by rfl) w.heap.size 3 TAm (Am.cells a) zeroF.cells (Am.cells ⟨a.k, a.n, a.c, zeroF⟩) (by rfl) (by rfl) g0.out (by simp [Am.cells, Flt.cells, zeroF]) (am_put _ zeroF) infoTF (cells_one _) ?_; have g1 := Lib.hid (row_set (cs := (Am.cells ⟨a.k, a.n, a.c, zeroF⟩)) g0.out); have k1 := Lib.hid (below_setRow k0.out (Nat.le_refl _) (Am.cells ⟨a.k, a.n, a.c, zeroF⟩)); have z1 := Lib.hid ((setRow_other _ w.heap.size (w.heap.size + 1) (Am.cells ⟨a.k, a.n, a.c, zeroF⟩) (by omega)).trans z0.out); generalize World.setRow w0 w.heap.size (Am.cells ⟨a.k, a.n, a.c, zeroF⟩) = w1 at *) | (refine wpList_store_int (by rfl) 3 _ _ (by rfl) w.heap.size 1 TAm (Am.cells ⟨a.k, a.n, a.c, zeroF⟩) (Am.cells ⟨a.k, 0, a.c, zeroF⟩) .i64 0 (by rfl) (by rfl) g1.out (by simp [Am.cells]) (by simp [Am.cells]) infoInt1 ?_; have g2 := Lib.hid (row_set (cs := (Am.cells ⟨a.k, 0, a.c, zeroF⟩)) g1.out); have k2 := Lib.hid (below_setRow k1.out (Nat.le_refl _) (Am.cells ⟨a.k, 0, a.c, zeroF⟩)); have z2 := Lib.hid ((setRow_other _ w.heap.size (w.heap.size + 1) (Am.cells ⟨a.k, 0, a.c, zeroF⟩) (by omega)).trans z1.out); generalize World.setRow w1 w.heap.size (Am.cells ⟨a.k, 0, a.c, zeroF⟩) = w2 at *) | (refine wpList_store_int (by rfl) 3 _ _ (by rfl) w.heap.size 0 TAm (Am.cells ⟨a.k, 0, a.c, zeroF⟩) (Am.cells ⟨0, 0, a.c, zeroF⟩) .i64 0 (by rfl) (by rfl) g2.out (by simp [Am.cells]) (by simp [Am.cells]) infoInt1 ?_; have g3 := Lib.hid (row_set (cs := (Am.cells ⟨0, 0, a.c, zeroF⟩)) g2.out); have k3 := Lib.hid (below_setRow k2.out (Nat.le_refl _) (Am.cells ⟨0, 0, a.c, zeroF⟩)); have z3 := Lib.hid ((setRow_other _ w.heap.size (w.heap.size + 1) (Am.cells ⟨0, 0, a.c, zeroF⟩) (by omega)).trans z2.out); generalize World.setRow w2 w.heap.size (Am.cells ⟨0, 0, a.c, zeroF⟩) = w3 at *) | refine wpList_load_row_g (by rfl) TAm _ (by rfl) w.heap.size (by rfl) TAm (Am.cells ⟨0, 0, a.c, zeroF⟩) (0, 0) _ g3.out Tryz.underlying27 rfl infoTAm ?_ | refine wpList_store_row (by rfl) TAm _ _ (by rfl) (w.heap.size + 1) (Am.cells ⟨0, 0, a.c, zeroF⟩) (by rfl) (by rfl) TAm zeroA.cells (z3.out) infoTAm rfl (acells_one _) ?_)
  exact bodyPost_ret (results_cell_row rfl _ _ (w.heap.size + 1) TAm (Am.cells ⟨0, 0, a.c, zeroF⟩) (0, 0) _ rfl (row_set z3.out) Tryz.underlying27 rfl infoTAm) rfl ⟨rfl, below_setRow k3.out (by simp) _⟩
set_option maxRecDepth 100000 in
set_option maxHeartbeats 1000000 in
theorem used_0 (a : Am) (h : a.k = 0) (w : World) :
    Calls Tryz.prog 15 #[.agg a.cells] w fun e w' => e = .returned (.agg (Am.cells ⟨0, 0, a.c, a.f⟩)) ∧ Below w.heap.size w w' := by
  have t0 : (a.k == 0) = true := by simpa using h
  have t2 : (a.k == 2) = false := by rw [h]; rfl
  clear h
  have g0 : Hid (((w.alloc (.cells a.cells TAm)).alloc (.cells zeroA.cells TAm)).heap[w.heap.size]? = some (.cells a.cells TAm)) := Lib.hid (heap_alloc2_old w _ _)
  have z0 : Hid (((w.alloc (.cells a.cells TAm)).alloc (.cells zeroA.cells TAm)).heap[w.heap.size + 1]? = some (.cells zeroA.cells TAm)) := Lib.hid (heap_alloc2_new w _ _)
  have k0 : Hid (Below w.heap.size w ((w.alloc (.cells a.cells TAm)).alloc (.cells zeroA.cells TAm))) := Lib.hid (((Below.refl _ _).alloc (Nat.le_refl _) _).alloc (by simp) _)
  have q0 : ((w.alloc (.cells a.cells TAm)).alloc (.cells zeroA.cells TAm)).cell? ⟨w.heap.size, 0, none⟩ = some (.int .i64 a.k) := cell_of_row _ _ 0 _ _ (0, 0) g0.out
  go_enter Tryz.func15, Tryz.ntmps15
  go_upto_region 1 with fail
  change Code.wp _ _ _ _ ((w.alloc (.cells a.cells TAm)).alloc (.cells zeroA.cells TAm))
  generalize (w.alloc (.cells a.cells TAm)).alloc (.cells zeroA.cells TAm) = w0 at *
  go_wp2_with (first | (refine wpList_store_int (by rfl) 3 _ _ (by rfl) w.heap.size 1 TAm (Am.cells a) (Am.cells ⟨a.k, 0, a.c, a.f⟩) .i64 0 (by rfl) (by rfl) g0.out (by simp [Am.cells]) (by simp [Am.cells]) infoInt1 ?_; have g1 := Lib.hid (row_set (cs := (Am.cells ⟨a.k, 0, a.c, a.f⟩)) g0.out); have k1 := Lib.hid (below_setRow k0.out (Nat.le_refl _) (Am.cells ⟨a.k, 0, a.c, a.f⟩)); have z1 := Lib.hid ((setRow_other _ w.heap.size (w.heap.size + 1) (Am.cells ⟨a.k, 0, a.c, a.f⟩) (by omega)).trans z0.out); generalize World.setRow w0 w.heap.size (Am.cells ⟨a.k, 0, a.c, a.f⟩) = w1 at *) | (refine wpList_store_int (by rfl) 3 _ _ (by rfl) w.heap.size 0 TAm (Am.cells ⟨a.k, 0, a.c, a.f⟩) (Am.cells ⟨0, 0, a.c, a.f⟩) .i64 0 (by rfl) (by rfl) g1.out (by simp [Am.cells]) (by simp [Am.cells]) infoInt1 ?_; have g2 := Lib.hid (row_set (cs := (Am.cells ⟨0, 0, a.c, a.f⟩)) g1.out); have k2 := Lib.hid (below_setRow k1.out (Nat.le_refl _) (Am.cells ⟨0, 0, a.c, a.f⟩)); have z2 := Lib.hid ((setRow_other _ w.heap.size (w.heap.size + 1) (Am.cells ⟨0, 0, a.c, a.f⟩) (by omega)).trans z1.out); generalize World.setRow w1 w.heap.size (Am.cells ⟨0, 0, a.c, a.f⟩) = w2 at *) | refine wpList_load_row_g (by rfl) TAm _ (by rfl) w.heap.size (by rfl) TAm (Am.cells ⟨0, 0, a.c, a.f⟩) (0, 0) _ g2.out Tryz.underlying27 rfl infoTAm ?_ | refine wpList_store_row (by rfl) TAm _ _ (by rfl) (w.heap.size + 1) (Am.cells ⟨0, 0, a.c, a.f⟩) (by rfl) (by rfl) TAm zeroA.cells (z2.out) infoTAm rfl (acells_one _) ?_)
  exact bodyPost_ret (results_cell_row rfl _ _ (w.heap.size + 1) TAm (Am.cells ⟨0, 0, a.c, a.f⟩) (0, 0) _ rfl (row_set z2.out) Tryz.underlying27 rfl infoTAm) rfl ⟨rfl, below_setRow k2.out (by simp) _⟩
set_option maxRecDepth 100000 in
set_option maxHeartbeats 1000000 in
theorem used_4 (a : Am) (h : a.k = 4) (w : World) :
    Calls Tryz.prog 15 #[.agg a.cells] w fun e w' => e = .returned (.agg (Am.cells ⟨0, a.n, 0, a.f⟩)) ∧ Below w.heap.size w w' := by
  have t0 : (a.k == 0) = false := by rw [h]; rfl
  have t2 : (a.k == 2) = false := by rw [h]; rfl
  have t4 : (a.k == 4) = true := by simpa using h
  clear h
  have g0 : Hid (((w.alloc (.cells a.cells TAm)).alloc (.cells zeroA.cells TAm)).heap[w.heap.size]? = some (.cells a.cells TAm)) := Lib.hid (heap_alloc2_old w _ _)
  have z0 : Hid (((w.alloc (.cells a.cells TAm)).alloc (.cells zeroA.cells TAm)).heap[w.heap.size + 1]? = some (.cells zeroA.cells TAm)) := Lib.hid (heap_alloc2_new w _ _)
  have k0 : Hid (Below w.heap.size w ((w.alloc (.cells a.cells TAm)).alloc (.cells zeroA.cells TAm))) := Lib.hid (((Below.refl _ _).alloc (Nat.le_refl _) _).alloc (by simp) _)
  have q0 : ((w.alloc (.cells a.cells TAm)).alloc (.cells zeroA.cells TAm)).cell? ⟨w.heap.size, 0, none⟩ = some (.int .i64 a.k) := cell_of_row _ _ 0 _ _ (0, 0) g0.out
  go_enter Tryz.func15, Tryz.ntmps15
  go_upto_region 1 with fail
  change Code.wp _ _ _ _ ((w.alloc (.cells a.cells TAm)).alloc (.cells zeroA.cells TAm))
  generalize (w.alloc (.cells a.cells TAm)).alloc (.cells zeroA.cells TAm) = w0 at *
  go_wp2_with (first | (refine wpList_store_int (by rfl) 3 _ _ (by rfl) w.heap.size 2 TAm (Am.cells a) (Am.cells ⟨a.k, a.n, 0, a.f⟩) .i64 0 (by rfl) (by rfl) g0.out (by simp [Am.cells]) (by simp [Am.cells]) infoInt1 ?_; have g1 := Lib.hid (row_set (cs := (Am.cells ⟨a.k, a.n, 0, a.f⟩)) g0.out); have k1 := Lib.hid (below_setRow k0.out (Nat.le_refl _) (Am.cells ⟨a.k, a.n, 0, a.f⟩)); have z1 := Lib.hid ((setRow_other _ w.heap.size (w.heap.size + 1) (Am.cells ⟨a.k, a.n, 0, a.f⟩) (by omega)).trans z0.out); generalize World.setRow w0 w.heap.size (Am.cells ⟨a.k, a.n, 0, a.f⟩) = w1 at *) | (refine wpList_store_int (by rfl) 3 _ _ (by rfl) w.heap.size 0 TAm (Am.cells ⟨a.k, a.n, 0, a.f⟩) (Am.cells ⟨0, a.n, 0, a.f⟩) .i64 0 (by rfl) (by rfl) g1.out (by simp [Am.cells]) (by simp [Am.cells]) infoInt1 ?_; have g2 := Lib.hid (row_set (cs := (Am.cells ⟨0, a.n, 0, a.f⟩)) g1.out); have k2 := Lib.hid (below_setRow k1.out (Nat.le_refl _) (Am.cells ⟨0, a.n, 0, a.f⟩)); have z2 := Lib.hid ((setRow_other _ w.heap.size (w.heap.size + 1) (Am.cells ⟨0, a.n, 0, a.f⟩) (by omega)).trans z1.out); generalize World.setRow w1 w.heap.size (Am.cells ⟨0, a.n, 0, a.f⟩) = w2 at *) | refine wpList_load_row_g (by rfl) TAm _ (by rfl) w.heap.size (by rfl) TAm (Am.cells ⟨0, a.n, 0, a.f⟩) (0, 0) _ g2.out Tryz.underlying27 rfl infoTAm ?_ | refine wpList_store_row (by rfl) TAm _ _ (by rfl) (w.heap.size + 1) (Am.cells ⟨0, a.n, 0, a.f⟩) (by rfl) (by rfl) TAm zeroA.cells (z2.out) infoTAm rfl (acells_one _) ?_)
  exact bodyPost_ret (results_cell_row rfl _ _ (w.heap.size + 1) TAm (Am.cells ⟨0, a.n, 0, a.f⟩) (0, 0) _ rfl (row_set z2.out) Tryz.underlying27 rfl infoTAm) rfl ⟨rfl, below_setRow k2.out (by simp) _⟩
set_option maxRecDepth 100000 in
set_option maxHeartbeats 1000000 in
theorem used_o (a : Am) (h0 : a.k ≠ 0) (h2 : a.k ≠ 2) (h4 : a.k ≠ 4) (w : World) :
    Calls Tryz.prog 15 #[.agg a.cells] w fun e w' => e = .returned (.agg (Am.cells ⟨0, a.n, a.c, a.f⟩)) ∧ Below w.heap.size w w' := by
  have t0 : (a.k == 0) = false := by simpa using h0
  have t2 : (a.k == 2) = false := by simpa using h2
  have t4 : (a.k == 4) = false := by simpa using h4
  clear h0 h2 h4
  have g0 : Hid (((w.alloc (.cells a.cells TAm)).alloc (.cells zeroA.cells TAm)).heap[w.heap.size]? = some (.cells a.cells TAm)) := Lib.hid (heap_alloc2_old w _ _)
  have z0 : Hid (((w.alloc (.cells a.cells TAm)).alloc (.cells zeroA.cells TAm)).heap[w.heap.size + 1]? = some (.cells zeroA.cells TAm)) := Lib.hid (heap_alloc2_new w _ _)
  have k0 : Hid (Below w.heap.size w ((w.alloc (.cells a.cells TAm)).alloc (.cells zeroA.cells TAm))) := Lib.hid (((Below.refl _ _).alloc (Nat.le_refl _) _).alloc (by simp) _)
  have q0 : ((w.alloc (.cells a.cells TAm)).alloc (.cells zeroA.cells TAm)).cell? ⟨w.heap.size, 0, none⟩ = some (.int .i64 a.k) := cell_of_row _ _ 0 _ _ (0, 0) g0.out
  go_enter Tryz.func15, Tryz.ntmps15
  go_upto_region 1 with fail
  change Code.wp _ _ _ _ ((w.alloc (.cells a.cells TAm)).alloc (.cells zeroA.cells TAm))
  generalize (w.alloc (.cells a.cells TAm)).alloc (.cells zeroA.cells TAm) = w0 at *
  go_wp2_with (first | (refine wpList_store_int (by rfl) 3 _ _ (by rfl) w.heap.size 0 TAm (Am.cells a) (Am.cells ⟨0, a.n, a.c, a.f⟩) .i64 0 (by rfl) (by rfl) g0.out (by simp [Am.cells]) (by simp [Am.cells]) infoInt1 ?_; have g1 := Lib.hid (row_set (cs := (Am.cells ⟨0, a.n, a.c, a.f⟩)) g0.out); have k1 := Lib.hid (below_setRow k0.out (Nat.le_refl _) (Am.cells ⟨0, a.n, a.c, a.f⟩)); have z1 := Lib.hid ((setRow_other _ w.heap.size (w.heap.size + 1) (Am.cells ⟨0, a.n, a.c, a.f⟩) (by omega)).trans z0.out); generalize World.setRow w0 w.heap.size (Am.cells ⟨0, a.n, a.c, a.f⟩) = w1 at *) | refine wpList_load_row_g (by rfl) TAm _ (by rfl) w.heap.size (by rfl) TAm (Am.cells ⟨0, a.n, a.c, a.f⟩) (0, 0) _ g1.out Tryz.underlying27 rfl infoTAm ?_ | refine wpList_store_row (by rfl) TAm _ _ (by rfl) (w.heap.size + 1) (Am.cells ⟨0, a.n, a.c, a.f⟩) (by rfl) (by rfl) TAm zeroA.cells (z1.out) infoTAm rfl (acells_one _) ?_)
  exact bodyPost_ret (results_cell_row rfl _ _ (w.heap.size + 1) TAm (Am.cells ⟨0, a.n, a.c, a.f⟩) (0, 0) _ rfl (row_set z1.out) Tryz.underlying27 rfl infoTAm) rfl ⟨rfl, below_setRow k1.out (by simp) _⟩
theorem used_v (a : Am) (w : World) : Calls Tryz.prog 15 #[.agg a.cells] w fun e w' => e = .returned (.agg (usedA a).cells) ∧ Below w.heap.size w w' := by
  by_cases h2 : a.k = 2
  · rw [show usedA a = ⟨0, 0, a.c, zeroF⟩ by unfold usedA; simp [h2]]; exact used_2 a h2 w
  by_cases h0 : a.k = 0
  · rw [show usedA a = ⟨0, 0, a.c, a.f⟩ by unfold usedA; simp [h0]]; exact used_0 a h0 w
  by_cases h4 : a.k = 4
  · rw [show usedA a = ⟨0, a.n, 0, a.f⟩ by unfold usedA; simp [h4]]; exact used_4 a h4 w
  · rw [show usedA a = ⟨0, a.n, a.c, a.f⟩ by unfold usedA; simp [h0, h2, h4]]; exact used_o a h0 h2 h4 w
theorem used_is (a u : Am) (h : Hid (usedA a = u)) (w : World) : Calls Tryz.prog 15 #[.agg a.cells] w fun e w' => e = .returned (.agg u.cells) ∧ Below w.heap.size w w' :=
  (used_v a w).mono fun e w' h' => ⟨by rw [h'.1, h.out], h'.2⟩
theorem build_zeroA (w : World) : (Instr.build TAm #[]).run Tryz.prog w = .ok (.agg zeroA.cells) w := by kernel_rfl
theorem neqz_am (u : Am) (z : Bool) (h : (!amEq u zeroA) = z) (w : World) : (binOp .neq TAm (.agg u.cells) (.agg zeroA.cells)).run Tryz.prog w = .ok (.bool z) w := (neq_am u zeroA w).trans (by rw [h])
theorem cntText_ne {c : Int} (h : c = 0 ∨ c = 1 ∨ c = 2) : cntText c ≠ [] := by rcases h with rfl | rfl | rfl <;> decide
theorem cntText_no {c : Int} (h : ¬ (c = 0 ∨ c = 1 ∨ c = 2)) : cntText c = [] := by
  unfold cntText; rw [if_neg (fun e => h (.inl e)), if_neg (fun e => h (.inr (.inl e))), if_neg (fun e => h (.inr (.inr e)))]
set_option maxRecDepth 100000 in
set_option maxHeartbeats 1000000 in
theorem aIs_lo (a : Am) (h : a.k < 0) (w : World) (hl : LaidM w) :
    Calls Tryz.prog 9 #[.agg a.cells] w fun e w' => e = .returned (.bool false) ∧ Below w.heap.size w w' := by
  have r0 := Lib.hid (heap_alloc_new w (.cells a.cells TAm))
  have q0 : (w.alloc (.cells a.cells TAm)).cell? ⟨w.heap.size, 0, none⟩ = some (.int .i64 a.k) := cell_of_row _ _ 0 _ _ (0, 0) r0.out
  have q1 : (w.alloc (.cells a.cells TAm)).cell? ⟨w.heap.size, 1, none⟩ = some (.int .i64 a.n) := cell_of_row _ _ 1 _ _ (0, 0) r0.out
  have q2 : (w.alloc (.cells a.cells TAm)).cell? ⟨w.heap.size, 2, none⟩ = some (.int .i64 a.c) := cell_of_row _ _ 2 _ _ (0, 0) r0.out
  have hl1 := hl.alloc (.cells a.cells TAm)
  have k0 : Hid (Below w.heap.size w (w.alloc (.cells a.cells TAm))) := Lib.hid ((Below.refl _ _).alloc (Nat.le_refl _) _)
  go_enter Tryz.func9, Tryz.ntmps9
  go_wp2_with (first | (rw [wpList_skip_eq]; rotate_left; · rfl))
  go_ret
  exact ⟨rfl, k0.out⟩
set_option maxRecDepth 100000 in
set_option maxHeartbeats 1000000 in
theorem aIs_hi (a : Am) (g1 : ¬ a.k < 0) (h : 7 < a.k) (w : World) (hl : LaidM w) :
    Calls Tryz.prog 9 #[.agg a.cells] w fun e w' => e = .returned (.bool false) ∧ Below w.heap.size w w' := by
  have r0 := Lib.hid (heap_alloc_new w (.cells a.cells TAm))
  have q0 : (w.alloc (.cells a.cells TAm)).cell? ⟨w.heap.size, 0, none⟩ = some (.int .i64 a.k) := cell_of_row _ _ 0 _ _ (0, 0) r0.out
  have q1 : (w.alloc (.cells a.cells TAm)).cell? ⟨w.heap.size, 1, none⟩ = some (.int .i64 a.n) := cell_of_row _ _ 1 _ _ (0, 0) r0.out
  have q2 : (w.alloc (.cells a.cells TAm)).cell? ⟨w.heap.size, 2, none⟩ = some (.int .i64 a.c) := cell_of_row _ _ 2 _ _ (0, 0) r0.out
  have hl1 := hl.alloc (.cells a.cells TAm)
  have k0 : Hid (Below w.heap.size w (w.alloc (.cells a.cells TAm))) := Lib.hid ((Below.refl _ _).alloc (Nat.le_refl _) _)
  go_enter Tryz.func9, Tryz.ntmps9
  go_wp2_with (first | (rw [wpList_skip_eq]; rotate_left; · rfl))
  go_ret
  exact ⟨rfl, k0.out⟩
set_option maxRecDepth 100000 in
set_option maxHeartbeats 1000000 in
theorem aIs_nz (a : Am) (g1 : ¬ a.k < 0) (g2 : ¬ 7 < a.k) (hz : (!amEq (usedA a) zeroA) = true) (w : World) (hl : LaidM w) :
    Calls Tryz.prog 9 #[.agg a.cells] w fun e w' => e = .returned (.bool false) ∧ Below w.heap.size w w' := by
  obtain ⟨u, hu⟩ : ∃ u, usedA a = u := ⟨_, rfl⟩
  have HU := Lib.hid hu
  rw [hu] at hz
  have heq := fun wx : World => neqz_am u true hz wx
  clear hu hz
  have r0 := Lib.hid (heap_alloc_new w (.cells a.cells TAm))
  have q0 : (w.alloc (.cells a.cells TAm)).cell? ⟨w.heap.size, 0, none⟩ = some (.int .i64 a.k) := cell_of_row _ _ 0 _ _ (0, 0) r0.out
  have q1 : (w.alloc (.cells a.cells TAm)).cell? ⟨w.heap.size, 1, none⟩ = some (.int .i64 a.n) := cell_of_row _ _ 1 _ _ (0, 0) r0.out
  have q2 : (w.alloc (.cells a.cells TAm)).cell? ⟨w.heap.size, 2, none⟩ = some (.int .i64 a.c) := cell_of_row _ _ 2 _ _ (0, 0) r0.out
  have hl1 := hl.alloc (.cells a.cells TAm)
  have k0 : Hid (Below w.heap.size w (w.alloc (.cells a.cells TAm))) := Lib.hid ((Below.refl _ _).alloc (Nat.le_refl _) _)
  go_enter Tryz.func9, Tryz.ntmps9
  go_wp2_with (first | (rw [wpList_skip_eq]; rotate_left; · rfl) | refine wpList_load_row_g (by rfl) TAm _ (by rfl) w.heap.size (by rfl) TAm a.cells (0, 0) _ r0.out Tryz.underlying27 rfl infoTAm ?_ | (go_at_call 15; (with_reducible refine (used_is a u HU _).mono ?_); rintro e w1 ⟨rfl, hb1⟩; have r1 := Lib.hid (blk_below2 hb1 r0.out); have hl2 := hl1.below hb1; have k1 := Lib.hid (below_two k0.out hb1); have p0 : w1.cell? ⟨w.heap.size, 0, none⟩ = some (.int .i64 a.k) := cell_of_row _ _ 0 _ _ (0, 0) r1.out; have p1 : w1.cell? ⟨w.heap.size, 1, none⟩ = some (.int .i64 a.n) := cell_of_row _ _ 1 _ _ (0, 0) r1.out; have p2 : w1.cell? ⟨w.heap.size, 2, none⟩ = some (.int .i64 a.c) := cell_of_row _ _ 2 _ _ (0, 0) r1.out) | refine wpList_build0_g (by rfl) TAm (by rfl) (.agg zeroA.cells) (build_zeroA _) ?_)
  go_ret
  exact ⟨rfl, k1.out⟩
set_option maxRecDepth 100000 in
set_option maxHeartbeats 1000000 in
theorem aIs_0a (a : Am) (g1 : ¬ a.k < 0) (g2 : ¬ 7 < a.k) (hz : (!amEq (usedA a) zeroA) = false) (hk : a.k = 0) (hn : ¬ 0 ≤ a.n) (w : World) (hl : LaidM w) :
    Calls Tryz.prog 9 #[.agg a.cells] w fun e w' => e = .returned (.bool false) ∧ Below w.heap.size w w' := by
  have t0 : (a.k == 0) = true := by simpa using hk
  clear hk
  obtain ⟨u, hu⟩ : ∃ u, usedA a = u := ⟨_, rfl⟩
  have HU := Lib.hid hu
  rw [hu] at hz
  have heq := fun wx : World => neqz_am u false hz wx
  clear hu hz
  have r0 := Lib.hid (heap_alloc_new w (.cells a.cells TAm))
  have q0 : (w.alloc (.cells a.cells TAm)).cell? ⟨w.heap.size, 0, none⟩ = some (.int .i64 a.k) := cell_of_row _ _ 0 _ _ (0, 0) r0.out
  have q1 : (w.alloc (.cells a.cells TAm)).cell? ⟨w.heap.size, 1, none⟩ = some (.int .i64 a.n) := cell_of_row _ _ 1 _ _ (0, 0) r0.out
  have q2 : (w.alloc (.cells a.cells TAm)).cell? ⟨w.heap.size, 2, none⟩ = some (.int .i64 a.c) := cell_of_row _ _ 2 _ _ (0, 0) r0.out
  have hl1 := hl.alloc (.cells a.cells TAm)
  have k0 : Hid (Below w.heap.size w (w.alloc (.cells a.cells TAm))) := Lib.hid ((Below.refl _ _).alloc (Nat.le_refl _) _)
  go_enter Tryz.func9, Tryz.ntmps9
  go_wp2_with (first | (rw [wpList_skip_eq]; rotate_left; · rfl) | refine wpList_load_row_g (by rfl) TAm _ (by rfl) w.heap.size (by rfl) TAm a.cells (0, 0) _ r0.out Tryz.underlying27 rfl infoTAm ?_ | (go_at_call 15; (with_reducible refine (used_is a u HU _).mono ?_); rintro e w1 ⟨rfl, hb1⟩; have r1 := Lib.hid (blk_below2 hb1 r0.out); have hl2 := hl1.below hb1; have k1 := Lib.hid (below_two k0.out hb1); have p0 : w1.cell? ⟨w.heap.size, 0, none⟩ = some (.int .i64 a.k) := cell_of_row _ _ 0 _ _ (0, 0) r1.out; have p1 : w1.cell? ⟨w.heap.size, 1, none⟩ = some (.int .i64 a.n) := cell_of_row _ _ 1 _ _ (0, 0) r1.out; have p2 : w1.cell? ⟨w.heap.size, 2, none⟩ = some (.int .i64 a.c) := cell_of_row _ _ 2 _ _ (0, 0) r1.out) | refine wpList_build0_g (by rfl) TAm (by rfl) (.agg zeroA.cells) (build_zeroA _) ?_)
  go_ret
  exact ⟨rfl, k1.out⟩
set_option maxRecDepth 100000 in
set_option maxHeartbeats 1000000 in
theorem aIs_0b (a : Am) (g1 : ¬ a.k < 0) (g2 : ¬ 7 < a.k) (hz : (!amEq (usedA a) zeroA) = false) (hk : a.k = 0) (hn : 0 ≤ a.n) (w : World) (hl : LaidM w) :
    Calls Tryz.prog 9 #[.agg a.cells] w fun e w' => e = .returned (.bool (decide (a.n ≤ 1000000))) ∧ Below w.heap.size w w' := by
  have t0 : (a.k == 0) = true := by simpa using hk
  clear hk
  obtain ⟨u, hu⟩ : ∃ u, usedA a = u := ⟨_, rfl⟩
  have HU := Lib.hid hu
  rw [hu] at hz
  have heq := fun wx : World => neqz_am u false hz wx
  clear hu hz
  have r0 := Lib.hid (heap_alloc_new w (.cells a.cells TAm))
  have q0 : (w.alloc (.cells a.cells TAm)).cell? ⟨w.heap.size, 0, none⟩ = some (.int .i64 a.k) := cell_of_row _ _ 0 _ _ (0, 0) r0.out
  have q1 : (w.alloc (.cells a.cells TAm)).cell? ⟨w.heap.size, 1, none⟩ = some (.int .i64 a.n) := cell_of_row _ _ 1 _ _ (0, 0) r0.out
  have q2 : (w.alloc (.cells a.cells TAm)).cell? ⟨w.heap.size, 2, none⟩ = some (.int .i64 a.c) := cell_of_row _ _ 2 _ _ (0, 0) r0.out
  have hl1 := hl.alloc (.cells a.cells TAm)
  have k0 : Hid (Below w.heap.size w (w.alloc (.cells a.cells TAm))) := Lib.hid ((Below.refl _ _).alloc (Nat.le_refl _) _)
  go_enter Tryz.func9, Tryz.ntmps9
  go_wp2_with (first | (rw [wpList_skip_eq]; rotate_left; · rfl) | refine wpList_load_row_g (by rfl) TAm _ (by rfl) w.heap.size (by rfl) TAm a.cells (0, 0) _ r0.out Tryz.underlying27 rfl infoTAm ?_ | (go_at_call 15; (with_reducible refine (used_is a u HU _).mono ?_); rintro e w1 ⟨rfl, hb1⟩; have r1 := Lib.hid (blk_below2 hb1 r0.out); have hl2 := hl1.below hb1; have k1 := Lib.hid (below_two k0.out hb1); have p0 : w1.cell? ⟨w.heap.size, 0, none⟩ = some (.int .i64 a.k) := cell_of_row _ _ 0 _ _ (0, 0) r1.out; have p1 : w1.cell? ⟨w.heap.size, 1, none⟩ = some (.int .i64 a.n) := cell_of_row _ _ 1 _ _ (0, 0) r1.out; have p2 : w1.cell? ⟨w.heap.size, 2, none⟩ = some (.int .i64 a.c) := cell_of_row _ _ 2 _ _ (0, 0) r1.out) | refine wpList_build0_g (by rfl) TAm (by rfl) (.agg zeroA.cells) (build_zeroA _) ?_)
  go_ret
  exact ⟨ret_bool (by simp), k1.out⟩
set_option maxRecDepth 100000 in
set_option maxHeartbeats 1000000 in
theorem aIs_2a (a : Am) (g1 : ¬ a.k < 0) (g2 : ¬ 7 < a.k) (hz : (!amEq (usedA a) zeroA) = false) (hk : a.k = 2) (hn : ¬ 1 ≤ a.n) (w : World) (hl : LaidM w) :
    Calls Tryz.prog 9 #[.agg a.cells] w fun e w' => e = .returned (.bool false) ∧ Below w.heap.size w w' := by
  have t0 : (a.k == 0) = false := by rw [hk]; rfl
  have t2 : (a.k == 2) = true := by simpa using hk
  clear hk
  obtain ⟨u, hu⟩ : ∃ u, usedA a = u := ⟨_, rfl⟩
  have HU := Lib.hid hu
  rw [hu] at hz
  have heq := fun wx : World => neqz_am u false hz wx
  clear hu hz
  have r0 := Lib.hid (heap_alloc_new w (.cells a.cells TAm))
  have q0 : (w.alloc (.cells a.cells TAm)).cell? ⟨w.heap.size, 0, none⟩ = some (.int .i64 a.k) := cell_of_row _ _ 0 _ _ (0, 0) r0.out
  have q1 : (w.alloc (.cells a.cells TAm)).cell? ⟨w.heap.size, 1, none⟩ = some (.int .i64 a.n) := cell_of_row _ _ 1 _ _ (0, 0) r0.out
  have q2 : (w.alloc (.cells a.cells TAm)).cell? ⟨w.heap.size, 2, none⟩ = some (.int .i64 a.c) := cell_of_row _ _ 2 _ _ (0, 0) r0.out
  have hl1 := hl.alloc (.cells a.cells TAm)
  have k0 : Hid (Below w.heap.size w (w.alloc (.cells a.cells TAm))) := Lib.hid ((Below.refl _ _).alloc (Nat.le_refl _) _)
  go_enter Tryz.func9, Tryz.ntmps9
  go_wp2_with (first | (rw [wpList_skip_eq]; rotate_left; · rfl) | refine wpList_load_row_g (by rfl) TAm _ (by rfl) w.heap.size (by rfl) TAm a.cells (0, 0) _ r0.out Tryz.underlying27 rfl infoTAm ?_ | (go_at_call 15; (with_reducible refine (used_is a u HU _).mono ?_); rintro e w1 ⟨rfl, hb1⟩; have r1 := Lib.hid (blk_below2 hb1 r0.out); have hl2 := hl1.below hb1; have k1 := Lib.hid (below_two k0.out hb1); have p0 : w1.cell? ⟨w.heap.size, 0, none⟩ = some (.int .i64 a.k) := cell_of_row _ _ 0 _ _ (0, 0) r1.out; have p1 : w1.cell? ⟨w.heap.size, 1, none⟩ = some (.int .i64 a.n) := cell_of_row _ _ 1 _ _ (0, 0) r1.out; have p2 : w1.cell? ⟨w.heap.size, 2, none⟩ = some (.int .i64 a.c) := cell_of_row _ _ 2 _ _ (0, 0) r1.out) | refine wpList_build0_g (by rfl) TAm (by rfl) (.agg zeroA.cells) (build_zeroA _) ?_)
  go_ret
  exact ⟨rfl, k1.out⟩
set_option maxRecDepth 100000 in
set_option maxHeartbeats 1000000 in
theorem aIs_2b (a : Am) (g1 : ¬ a.k < 0) (g2 : ¬ 7 < a.k) (hz : (!amEq (usedA a) zeroA) = false) (hk : a.k = 2) (hn : 1 ≤ a.n) (hm : ¬ a.n ≤ 99) (w : World) (hl : LaidM w) :
    Calls Tryz.prog 9 #[.agg a.cells] w fun e w' => e = .returned (.bool false) ∧ Below w.heap.size w w' := by
  have t0 : (a.k == 0) = false := by rw [hk]; rfl
  have t2 : (a.k == 2) = true := by simpa using hk
  clear hk
  obtain ⟨u, hu⟩ : ∃ u, usedA a = u := ⟨_, rfl⟩
  have HU := Lib.hid hu
  rw [hu] at hz
  have heq := fun wx : World => neqz_am u false hz wx
  clear hu hz
  have r0 := Lib.hid (heap_alloc_new w (.cells a.cells TAm))
  have q0 : (w.alloc (.cells a.cells TAm)).cell? ⟨w.heap.size, 0, none⟩ = some (.int .i64 a.k) := cell_of_row _ _ 0 _ _ (0, 0) r0.out
  have q1 : (w.alloc (.cells a.cells TAm)).cell? ⟨w.heap.size, 1, none⟩ = some (.int .i64 a.n) := cell_of_row _ _ 1 _ _ (0, 0) r0.out
  have q2 : (w.alloc (.cells a.cells TAm)).cell? ⟨w.heap.size, 2, none⟩ = some (.int .i64 a.c) := cell_of_row _ _ 2 _ _ (0, 0) r0.out
  have hl1 := hl.alloc (.cells a.cells TAm)
  have k0 : Hid (Below w.heap.size w (w.alloc (.cells a.cells TAm))) := Lib.hid ((Below.refl _ _).alloc (Nat.le_refl _) _)
  go_enter Tryz.func9, Tryz.ntmps9
  go_wp2_with (first | (rw [wpList_skip_eq]; rotate_left; · rfl) | refine wpList_load_row_g (by rfl) TAm _ (by rfl) w.heap.size (by rfl) TAm a.cells (0, 0) _ r0.out Tryz.underlying27 rfl infoTAm ?_ | (go_at_call 15; (with_reducible refine (used_is a u HU _).mono ?_); rintro e w1 ⟨rfl, hb1⟩; have r1 := Lib.hid (blk_below2 hb1 r0.out); have hl2 := hl1.below hb1; have k1 := Lib.hid (below_two k0.out hb1); have p0 : w1.cell? ⟨w.heap.size, 0, none⟩ = some (.int .i64 a.k) := cell_of_row _ _ 0 _ _ (0, 0) r1.out; have p1 : w1.cell? ⟨w.heap.size, 1, none⟩ = some (.int .i64 a.n) := cell_of_row _ _ 1 _ _ (0, 0) r1.out; have p2 : w1.cell? ⟨w.heap.size, 2, none⟩ = some (.int .i64 a.c) := cell_of_row _ _ 2 _ _ (0, 0) r1.out) | refine wpList_build0_g (by rfl) TAm (by rfl) (.agg zeroA.cells) (build_zeroA _) ?_)
  go_ret
  exact ⟨rfl, k1.out⟩
set_option maxRecDepth 100000 in
set_option maxHeartbeats 1000000 in
theorem aIs_2false (a : Am) (g1 : ¬ a.k < 0) (g2 : ¬ 7 < a.k) (hz : (!amEq (usedA a) zeroA) = false) (hk : a.k = 2) (hn : 1 ≤ a.n) (hm : a.n ≤ 99) (HV : Hid (fltIs a.f = false)) (w : World) (hl : LaidM w) :
    Calls Tryz.prog 9 #[.agg a.cells] w fun e w' => e = .returned (.bool false) ∧ Below w.heap.size w w' := by
  have t0 : (a.k == 0) = false := by rw [hk]; rfl
  have t2 : (a.k == 2) = true := by simpa using hk
  clear hk
  obtain ⟨u, hu⟩ : ∃ u, usedA a = u := ⟨_, rfl⟩
  have HU := Lib.hid hu
  rw [hu] at hz
  have heq := fun wx : World => neqz_am u false hz wx
  clear hu hz
  have r0 := Lib.hid (heap_alloc_new w (.cells a.cells TAm))
  have q0 : (w.alloc (.cells a.cells TAm)).cell? ⟨w.heap.size, 0, none⟩ = some (.int .i64 a.k) := cell_of_row _ _ 0 _ _ (0, 0) r0.out
  have q1 : (w.alloc (.cells a.cells TAm)).cell? ⟨w.heap.size, 1, none⟩ = some (.int .i64 a.n) := cell_of_row _ _ 1 _ _ (0, 0) r0.out
  have q2 : (w.alloc (.cells a.cells TAm)).cell? ⟨w.heap.size, 2, none⟩ = some (.int .i64 a.c) := cell_of_row _ _ 2 _ _ (0, 0) r0.out
  have hl1 := hl.alloc (.cells a.cells TAm)
  have k0 : Hid (Below w.heap.size w (w.alloc (.cells a.cells TAm))) := Lib.hid ((Below.refl _ _).alloc (Nat.le_refl _) _)
  go_enter Tryz.func9, Tryz.ntmps9
  go_wp2_with (first | (rw [wpList_skip_eq]; rotate_left; · rfl) | refine wpList_load_row_g (by rfl) TAm _ (by rfl) w.heap.size (by rfl) TAm a.cells (0, 0) _ r0.out Tryz.underlying27 rfl infoTAm ?_ | (go_at_call 15; (with_reducible refine (used_is a u HU _).mono ?_); rintro e w1 ⟨rfl, hb1⟩; have r1 := Lib.hid (blk_below2 hb1 r0.out); have hl2 := hl1.below hb1; have k1 := Lib.hid (below_two k0.out hb1); have p0 : w1.cell? ⟨w.heap.size, 0, none⟩ = some (.int .i64 a.k) := cell_of_row _ _ 0 _ _ (0, 0) r1.out; have p1 : w1.cell? ⟨w.heap.size, 1, none⟩ = some (.int .i64 a.n) := cell_of_row _ _ 1 _ _ (0, 0) r1.out; have p2 : w1.cell? ⟨w.heap.size, 2, none⟩ = some (.int .i64 a.c) := cell_of_row _ _ 2 _ _ (0, 0) r1.out) | refine wpList_build0_g (by rfl) TAm (by rfl) (.agg zeroA.cells) (build_zeroA _) ?_ | refine wpList_load_part (by rfl) TF _ (by rfl) w.heap.size 3 (by rfl) TAm a.cells a.f.cells (0, 0) _ r1.out (am_part a) Tryz.underlying25 rfl infoTF ?_ | (go_at_call 16; (with_reducible refine (fltIs_v a.f false HV _ hl2.base).mono ?_); rintro e w2 ⟨rfl, hb2⟩))
  go_ret
  exact ⟨rfl, below_two k1.out hb2⟩
set_option maxRecDepth 100000 in
set_option maxHeartbeats 1000000 in
theorem aIs_2true (a : Am) (g1 : ¬ a.k < 0) (g2 : ¬ 7 < a.k) (hz : (!amEq (usedA a) zeroA) = false) (hk : a.k = 2) (hn : 1 ≤ a.n) (hm : a.n ≤ 99) (HV : Hid (fltIs a.f = true)) (w : World) (hl : LaidM w) :
    Calls Tryz.prog 9 #[.agg a.cells] w fun e w' => e = .returned (.bool true) ∧ Below w.heap.size w w' := by
  have t0 : (a.k == 0) = false := by rw [hk]; rfl
  have t2 : (a.k == 2) = true := by simpa using hk
  clear hk
  obtain ⟨u, hu⟩ : ∃ u, usedA a = u := ⟨_, rfl⟩
  have HU := Lib.hid hu
  rw [hu] at hz
  have heq := fun wx : World => neqz_am u false hz wx
  clear hu hz
  have r0 := Lib.hid (heap_alloc_new w (.cells a.cells TAm))
  have q0 : (w.alloc (.cells a.cells TAm)).cell? ⟨w.heap.size, 0, none⟩ = some (.int .i64 a.k) := cell_of_row _ _ 0 _ _ (0, 0) r0.out
  have q1 : (w.alloc (.cells a.cells TAm)).cell? ⟨w.heap.size, 1, none⟩ = some (.int .i64 a.n) := cell_of_row _ _ 1 _ _ (0, 0) r0.out
  have q2 : (w.alloc (.cells a.cells TAm)).cell? ⟨w.heap.size, 2, none⟩ = some (.int .i64 a.c) := cell_of_row _ _ 2 _ _ (0, 0) r0.out
  have hl1 := hl.alloc (.cells a.cells TAm)
  have k0 : Hid (Below w.heap.size w (w.alloc (.cells a.cells TAm))) := Lib.hid ((Below.refl _ _).alloc (Nat.le_refl _) _)
  go_enter Tryz.func9, Tryz.ntmps9
  go_wp2_with (first | (rw [wpList_skip_eq]; rotate_left; · rfl) | refine wpList_load_row_g (by rfl) TAm _ (by rfl) w.heap.size (by rfl) TAm a.cells (0, 0) _ r0.out Tryz.underlying27 rfl infoTAm ?_ | (go_at_call 15; (with_reducible refine (used_is a u HU _).mono ?_); rintro e w1 ⟨rfl, hb1⟩; have r1 := Lib.hid (blk_below2 hb1 r0.out); have hl2 := hl1.below hb1; have k1 := Lib.hid (below_two k0.out hb1); have p0 : w1.cell? ⟨w.heap.size, 0, none⟩ = some (.int .i64 a.k) := cell_of_row _ _ 0 _ _ (0, 0) r1.out; have p1 : w1.cell? ⟨w.heap.size, 1, none⟩ = some (.int .i64 a.n) := cell_of_row _ _ 1 _ _ (0, 0) r1.out; have p2 : w1.cell? ⟨w.heap.size, 2, none⟩ = some (.int .i64 a.c) := cell_of_row _ _ 2 _ _ (0, 0) r1.out) | refine wpList_build0_g (by rfl) TAm (by rfl) (.agg zeroA.cells) (build_zeroA _) ?_ | refine wpList_load_part (by rfl) TF _ (by rfl) w.heap.size 3 (by rfl) TAm a.cells a.f.cells (0, 0) _ r1.out (am_part a) Tryz.underlying25 rfl infoTF ?_ | (go_at_call 16; (with_reducible refine (fltIs_v a.f true HV _ hl2.base).mono ?_); rintro e w2 ⟨rfl, hb2⟩))
  go_ret
  exact ⟨rfl, below_two k1.out hb2⟩
set_option maxRecDepth 100000 in
set_option maxHeartbeats 1000000 in
theorem aIs_4a (a : Am) (g1 : ¬ a.k < 0) (g2 : ¬ 7 < a.k) (hz : (!amEq (usedA a) zeroA) = false) (hk : a.k = 4) (hc : ¬ (a.c = 0 ∨ a.c = 1 ∨ a.c = 2)) (w : World) (hl : LaidM w) :
    Calls Tryz.prog 9 #[.agg a.cells] w fun e w' => e = .returned (.bool false) ∧ Below w.heap.size w w' := by
  have t0 : (a.k == 0) = false := by rw [hk]; rfl
  have t2 : (a.k == 2) = false := by rw [hk]; rfl
  have t4 : (a.k == 4) = true := by simpa using hk
  have HN : Hid (B (cntText a.c) = ⟨#[]⟩) := Lib.hid (by rw [cntText_no hc]; rfl)
  clear hk hc
  obtain ⟨u, hu⟩ : ∃ u, usedA a = u := ⟨_, rfl⟩
  have HU := Lib.hid hu
  rw [hu] at hz
  have heq := fun wx : World => neqz_am u false hz wx
  clear hu hz
  have r0 := Lib.hid (heap_alloc_new w (.cells a.cells TAm))
  have q0 : (w.alloc (.cells a.cells TAm)).cell? ⟨w.heap.size, 0, none⟩ = some (.int .i64 a.k) := cell_of_row _ _ 0 _ _ (0, 0) r0.out
  have q1 : (w.alloc (.cells a.cells TAm)).cell? ⟨w.heap.size, 1, none⟩ = some (.int .i64 a.n) := cell_of_row _ _ 1 _ _ (0, 0) r0.out
  have q2 : (w.alloc (.cells a.cells TAm)).cell? ⟨w.heap.size, 2, none⟩ = some (.int .i64 a.c) := cell_of_row _ _ 2 _ _ (0, 0) r0.out
  have hl1 := hl.alloc (.cells a.cells TAm)
  have k0 : Hid (Below w.heap.size w (w.alloc (.cells a.cells TAm))) := Lib.hid ((Below.refl _ _).alloc (Nat.le_refl _) _)
  go_enter Tryz.func9, Tryz.ntmps9
  go_wp2_with (first | (rw [wpList_skip_eq]; rotate_left; · rfl) | refine wpList_load_row_g (by rfl) TAm _ (by rfl) w.heap.size (by rfl) TAm a.cells (0, 0) _ r0.out Tryz.underlying27 rfl infoTAm ?_ | (go_at_call 15; (with_reducible refine (used_is a u HU _).mono ?_); rintro e w1 ⟨rfl, hb1⟩; have r1 := Lib.hid (blk_below2 hb1 r0.out); have hl2 := hl1.below hb1; have k1 := Lib.hid (below_two k0.out hb1); have p0 : w1.cell? ⟨w.heap.size, 0, none⟩ = some (.int .i64 a.k) := cell_of_row _ _ 0 _ _ (0, 0) r1.out; have p1 : w1.cell? ⟨w.heap.size, 1, none⟩ = some (.int .i64 a.n) := cell_of_row _ _ 1 _ _ (0, 0) r1.out; have p2 : w1.cell? ⟨w.heap.size, 2, none⟩ = some (.int .i64 a.c) := cell_of_row _ _ 2 _ _ (0, 0) r1.out) | refine wpList_build0_g (by rfl) TAm (by rfl) (.agg zeroA.cells) (build_zeroA _) ?_ | (go_at_call 17; (with_reducible refine (cntName_is a.c ⟨#[]⟩ HN _ hl2).mono ?_); rintro e w2 ⟨rfl, rfl⟩))
  go_ret
  exact ⟨rfl, k1.out⟩
set_option maxRecDepth 100000 in
set_option maxHeartbeats 1000000 in
theorem aIs_4b (a : Am) (g1 : ¬ a.k < 0) (g2 : ¬ 7 < a.k) (hz : (!amEq (usedA a) zeroA) = false) (hk : a.k = 4) (hc : a.c = 0 ∨ a.c = 1 ∨ a.c = 2) (w : World) (hl : LaidM w) :
    Calls Tryz.prog 9 #[.agg a.cells] w fun e w' => e = .returned (.bool true) ∧ Below w.heap.size w w' := by
  have t0 : (a.k == 0) = false := by rw [hk]; rfl
  have t2 : (a.k == 2) = false := by rw [hk]; rfl
  have t4 : (a.k == 4) = true := by simpa using hk
  obtain ⟨N, hN⟩ : ∃ N, B (cntText a.c) = N := ⟨_, rfl⟩
  have tn1 : ¬ N.toList = [] := by rw [← hN, B_toList]; exact cntText_ne hc
  have tn0 : N.toList.isEmpty = false := by simpa using tn1
  have HN := Lib.hid hN
  clear hk hc hN
  obtain ⟨u, hu⟩ : ∃ u, usedA a = u := ⟨_, rfl⟩
  have HU := Lib.hid hu
  rw [hu] at hz
  have heq := fun wx : World => neqz_am u false hz wx
  clear hu hz
  have r0 := Lib.hid (heap_alloc_new w (.cells a.cells TAm))
  have q0 : (w.alloc (.cells a.cells TAm)).cell? ⟨w.heap.size, 0, none⟩ = some (.int .i64 a.k) := cell_of_row _ _ 0 _ _ (0, 0) r0.out
  have q1 : (w.alloc (.cells a.cells TAm)).cell? ⟨w.heap.size, 1, none⟩ = some (.int .i64 a.n) := cell_of_row _ _ 1 _ _ (0, 0) r0.out
  have q2 : (w.alloc (.cells a.cells TAm)).cell? ⟨w.heap.size, 2, none⟩ = some (.int .i64 a.c) := cell_of_row _ _ 2 _ _ (0, 0) r0.out
  have hl1 := hl.alloc (.cells a.cells TAm)
  have k0 : Hid (Below w.heap.size w (w.alloc (.cells a.cells TAm))) := Lib.hid ((Below.refl _ _).alloc (Nat.le_refl _) _)
  go_enter Tryz.func9, Tryz.ntmps9
  go_wp2_with (first | (rw [wpList_skip_eq]; rotate_left; · rfl) | refine wpList_load_row_g (by rfl) TAm _ (by rfl) w.heap.size (by rfl) TAm a.cells (0, 0) _ r0.out Tryz.underlying27 rfl infoTAm ?_ | (go_at_call 15; (with_reducible refine (used_is a u HU _).mono ?_); rintro e w1 ⟨rfl, hb1⟩; have r1 := Lib.hid (blk_below2 hb1 r0.out); have hl2 := hl1.below hb1; have k1 := Lib.hid (below_two k0.out hb1); have p0 : w1.cell? ⟨w.heap.size, 0, none⟩ = some (.int .i64 a.k) := cell_of_row _ _ 0 _ _ (0, 0) r1.out; have p1 : w1.cell? ⟨w.heap.size, 1, none⟩ = some (.int .i64 a.n) := cell_of_row _ _ 1 _ _ (0, 0) r1.out; have p2 : w1.cell? ⟨w.heap.size, 2, none⟩ = some (.int .i64 a.c) := cell_of_row _ _ 2 _ _ (0, 0) r1.out) | refine wpList_build0_g (by rfl) TAm (by rfl) (.agg zeroA.cells) (build_zeroA _) ?_ | (go_at_call 17; (with_reducible refine (cntName_is a.c N HN _ hl2).mono ?_); rintro e w2 ⟨rfl, rfl⟩))
  go_ret
  exact ⟨rfl, k1.out⟩
set_option maxRecDepth 100000 in
set_option maxHeartbeats 1000000 in
theorem aIs_o (a : Am) (g1 : ¬ a.k < 0) (g2 : ¬ 7 < a.k) (hz : (!amEq (usedA a) zeroA) = false) (h0 : a.k ≠ 0) (h2 : a.k ≠ 2) (h4 : a.k ≠ 4) (w : World) (hl : LaidM w) :
    Calls Tryz.prog 9 #[.agg a.cells] w fun e w' => e = .returned (.bool true) ∧ Below w.heap.size w w' := by
  have t0 : (a.k == 0) = false := by simpa using h0
  have t2 : (a.k == 2) = false := by simpa using h2
  have t4 : (a.k == 4) = false := by simpa using h4
  clear h0 h2 h4
  obtain ⟨u, hu⟩ : ∃ u, usedA a = u := ⟨_, rfl⟩
  have HU := Lib.hid hu
  rw [hu] at hz
  have heq := fun wx : World => neqz_am u false hz wx
  clear hu hz
  have r0 := Lib.hid (heap_alloc_new w (.cells a.cells TAm))
  have q0 : (w.alloc (.cells a.cells TAm)).cell? ⟨w.heap.size, 0, none⟩ = some (.int .i64 a.k) := cell_of_row _ _ 0 _ _ (0, 0) r0.out
  have q1 : (w.alloc (.cells a.cells TAm)).cell? ⟨w.heap.size, 1, none⟩ = some (.int .i64 a.n) := cell_of_row _ _ 1 _ _ (0, 0) r0.out
  have q2 : (w.alloc (.cells a.cells TAm)).cell? ⟨w.heap.size, 2, none⟩ = some (.int .i64 a.c) := cell_of_row _ _ 2 _ _ (0, 0) r0.out
  have hl1 := hl.alloc (.cells a.cells TAm)
  have k0 : Hid (Below w.heap.size w (w.alloc (.cells a.cells TAm))) := Lib.hid ((Below.refl _ _).alloc (Nat.le_refl _) _)
  go_enter Tryz.func9, Tryz.ntmps9
  go_wp2_with (first | (rw [wpList_skip_eq]; rotate_left; · rfl) | refine wpList_load_row_g (by rfl) TAm _ (by rfl) w.heap.size (by rfl) TAm a.cells (0, 0) _ r0.out Tryz.underlying27 rfl infoTAm ?_ | (go_at_call 15; (with_reducible refine (used_is a u HU _).mono ?_); rintro e w1 ⟨rfl, hb1⟩; have r1 := Lib.hid (blk_below2 hb1 r0.out); have hl2 := hl1.below hb1; have k1 := Lib.hid (below_two k0.out hb1); have p0 : w1.cell? ⟨w.heap.size, 0, none⟩ = some (.int .i64 a.k) := cell_of_row _ _ 0 _ _ (0, 0) r1.out; have p1 : w1.cell? ⟨w.heap.size, 1, none⟩ = some (.int .i64 a.n) := cell_of_row _ _ 1 _ _ (0, 0) r1.out; have p2 : w1.cell? ⟨w.heap.size, 2, none⟩ = some (.int .i64 a.c) := cell_of_row _ _ 2 _ _ (0, 0) r1.out) | refine wpList_build0_g (by rfl) TAm (by rfl) (.agg zeroA.cells) (build_zeroA _) ?_)
  go_ret
  exact ⟨rfl, k1.out⟩
theorem aIs_v (a : Am) (R : Bool) (HR : Hid (amIs a = R)) (w : World) (hl : LaidM w) :
    Calls Tryz.prog 9 #[.agg a.cells] w fun e w' => e = .returned (.bool R) ∧ Below w.heap.size w w' := by
  have h := HR.out
  subst h
  by_cases g1 : a.k < 0
  · rw [show amIs a = false by unfold amIs bareA; rw [if_neg (by omega), if_neg (by omega), if_neg (by omega)]; simp; omega]
    exact aIs_lo a g1 w hl
  by_cases g2 : 7 < a.k
  · rw [show amIs a = false by unfold amIs bareA; rw [if_neg (by omega), if_neg (by omega), if_neg (by omega)]; simp; omega]
    exact aIs_hi a g1 g2 w hl
  cases hz : (!amEq (usedA a) zeroA) with
  | true =>
    have hne : ¬ usedA a = zeroA := fun e => by rw [e, amEq_refl] at hz; simp at hz
    rw [show amIs a = false by
      cases hv : amIs a with
      | false => rfl
      | true =>
        exfalso
        apply hne
        rcases amIs_cases hv with ⟨n, _, rfl⟩ | ⟨n, _, _, f, _, rfl⟩ | ⟨c, hc, rfl⟩ | ⟨k, hk, rfl⟩
        · rfl
        · rfl
        · rfl
        · rcases hk with rfl | rfl | rfl | rfl | rfl <;> rfl]
    exact aIs_nz a g1 g2 hz w hl
  | false =>
    have hu : usedA a = zeroA := (amEq_iff _ _).1 (by simpa using hz)
    obtain ⟨k, n, c, f⟩ := a
    unfold usedA at hu
    simp only [zeroA, Am.mk.injEq, true_and] at hu
    obtain ⟨u1, u2, u3⟩ := hu
    simp only at g1 g2
    by_cases h0 : k = 0
    · subst h0
      simp at u2 u3
      subst u2 u3
      by_cases hn : 0 ≤ n
      · rw [show amIs ⟨0, n, 0, zeroF⟩ = decide (n ≤ 1000000) by unfold amIs; simp [hn, fltEq_refl]]
        exact aIs_0b _ g1 g2 hz rfl hn w hl
      · rw [show amIs ⟨0, n, 0, zeroF⟩ = false by unfold amIs; simp [hn]]
        exact aIs_0a _ g1 g2 hz rfl hn w hl
    by_cases h2 : k = 2
    · subst h2
      simp at u2
      subst u2
      by_cases hn : 1 ≤ n
      · by_cases hm : n ≤ 99
        · rw [show amIs ⟨2, n, 0, f⟩ = fltIs f by unfold amIs; simp [hn, hm]]
          cases hv : fltIs f with
          | false => exact aIs_2false _ g1 g2 hz rfl hn hm (Lib.hid hv) w hl
          | true => exact aIs_2true _ g1 g2 hz rfl hn hm (Lib.hid hv) w hl
        · rw [show amIs ⟨2, n, 0, f⟩ = false by unfold amIs; simp [hm]]
          exact aIs_2b _ g1 g2 hz rfl hn hm w hl
      · rw [show amIs ⟨2, n, 0, f⟩ = false by unfold amIs; simp [hn]]
        exact aIs_2a _ g1 g2 hz rfl hn w hl
    by_cases h4 : k = 4
    · subst h4
      simp at u1 u3
      subst u1 u3
      by_cases hc : c = 0 ∨ c = 1 ∨ c = 2
      · rw [show amIs ⟨4, 0, c, zeroF⟩ = true by unfold amIs; simp [hc, fltEq_refl]]
        exact aIs_4b _ g1 g2 hz rfl hc w hl
      · rw [show amIs ⟨4, 0, c, zeroF⟩ = false by unfold amIs; simp [hc]]
        exact aIs_4a _ g1 g2 hz rfl hc w hl
    · have hk : k = 1 ∨ k = 3 ∨ k = 5 ∨ k = 6 ∨ k = 7 := by omega
      simp [h0, h2, h4] at u1 u2 u3
      subst u1 u2 u3
      rw [show amIs ⟨k, 0, 0, zeroF⟩ = true by unfold amIs bareA; simp [h0, h2, h4, fltEq_refl]; omega]
      exact aIs_o _ g1 g2 hz h0 h2 h4 w hl
end Go.Proofs.YtcbegdjmopgbbaaGreatDoor
