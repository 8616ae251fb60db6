/- Walks of the reference: package cardgameref14: Is, Text; cardgameref12: Name. Conditions: none. -/
import Derived.Test.YtcbegdjmopgbbaaGreatDoorMAlive
import Derived.Test.YtcbegdjmopgbbaaGreatDoorRFIs
import Derived.Test.YtcbegdjmopgbbaaGreatDoorRFTextB
import Derived.Test.YtcbegdjmopgbbaaGreatDoorRParse
namespace Go.Proofs.YtcbegdjmopgbbaaGreatDoor
set_option linter.all false
open Go.ChangeShapes Go.WideShapes Go.RowKit
theorem rCnt_any (c : Int) (w : World) : Calls Tryz.prog 19 #[.int .i64 c] w fun e w' => e = .returned (.string (B (cntText c))) ∧ w = w' := by
  by_cases h0 : c = 0
  · subst h0
    go_enter Tryz.func19, Tryz.ntmps19
    go_wp2
    go_ret
    exact ⟨rfl, rfl⟩
  by_cases h1 : c = 1
  · subst h1
    go_enter Tryz.func19, Tryz.ntmps19
    go_wp2
    go_ret
    exact ⟨rfl, rfl⟩
  by_cases h2 : c = 2
  · subst h2
    go_enter Tryz.func19, Tryz.ntmps19
    go_wp2
    go_ret
    exact ⟨rfl, rfl⟩
  · have HR : Hid (cntText c = []) := Lib.hid (by unfold cntText; rw [if_neg h0, if_neg h1, if_neg h2])
    have t0 : (c == 0) = false := by simpa using h0
    have t1 : (c == 1) = false := by simpa using h1
    have t2 : (c == 2) = false := by simpa using h2
    generalize cntText c = R at *
    clear h0 h1 h2
    go_enter Tryz.func19, Tryz.ntmps19
    go_wp2
    go_ret
    exact ⟨ret_str (by rw [HR.out]; rfl), rfl⟩
theorem rCnt_is (c : Int) (R : ByteArray) (h : Hid (B (cntText c) = R)) (w : World) : Calls Tryz.prog 19 #[.int .i64 c] w fun e w' => e = .returned (.string R) ∧ w = w' :=
  (rCnt_any c w).mono fun e w' h' => ⟨by rw [h'.1, h.out], h'.2⟩
theorem eqb_am (u v : Am) (z : Bool) (h : amEq u v = z) (w : World) : (binOp .eql TAm (.agg u.cells) (.agg v.cells)).run Tryz.prog w = .ok (.bool z) w := (eq_am u v w).trans (by rw [h])
set_option maxRecDepth 100000 in
set_option maxHeartbeats 1000000 in
theorem rAIs_0a (a : Am) (hk : a.k = 0) (hn : a.n < 0) (w : World) :
    Calls Tryz.prog 10 #[.agg a.cells] w fun e w' => e = .returned (.bool false) ∧ Below w.heap.size w w' := by
  have t0 : (a.k == 0) = true := by simpa using hk
  clear hk
  have r0 := Lib.hid (heap_alloc_new w (.cells a.cells TAm))
  have k0 : Hid (Below w.heap.size w (w.alloc (.cells a.cells TAm))) := Lib.hid ((Below.refl _ _).alloc (Nat.le_refl _) _)
  go_enter Tryz.func10, Tryz.ntmps10
  go_upto_region 1 with fail
  change Code.wp _ _ _ _ (w.alloc (.cells a.cells TAm))
  generalize w.alloc (.cells a.cells TAm) = w1 at *
  go_upto_region 2 with (first | refine wpList_load_row_g (by rfl) TAm _ (by rfl) w.heap.size (by rfl) TAm a.cells (0, 0) _ r0.out Tryz.underlying27 rfl infoTAm ?_ | (refine wpList_store_row (by rfl) TAm _ _ (by rfl) w1.heap.size a.cells (by rfl) (by rfl) TAm zeroA.cells (heap_alloc_new w1 _) infoTAm rfl (acells_one _) ?_; change wpList _ _ _ _ _ (stored w1 TAm zeroA.cells a.cells); have g2 := Lib.hid (stored_new w1 TAm zeroA.cells a.cells); have r2 := Lib.hid (stored_old (t := TAm) (o := zeroA.cells) (cs := a.cells) r0.out); have k2 := Lib.hid (k0.out.trans ((stored_below w1 TAm zeroA.cells a.cells).mono k0.out.size)); have HG := Lib.hid (blk_lt r0.out); generalize stored w1 TAm zeroA.cells a.cells = w2 at *))
  generalize w1.heap.size = g10 at *
  have q0 : w2.cell? ⟨w.heap.size, 0, none⟩ = some (.int .i64 a.k) := cell_of_row _ _ 0 _ _ (0, 0) r2.out
  have q1 : w2.cell? ⟨w.heap.size, 1, none⟩ = some (.int .i64 a.n) := cell_of_row _ _ 1 _ _ (0, 0) r2.out
  have q2 : w2.cell? ⟨w.heap.size, 2, none⟩ = some (.int .i64 a.c) := cell_of_row _ _ 2 _ _ (0, 0) r2.out
  go_wp2_with (first | (rw [wpList_skip_eq]; rotate_left; · rfl) | (refine wpList_store_int (by rfl) 3 _ _ (by rfl) g10 1 TAm a.cells (Am.cells ⟨a.k, 0, a.c, a.f⟩) .i64 0 (by rfl) (by rfl) g2.out (by simp [Am.cells]) (by simp [Am.cells]) infoInt1 ?_; have g3 := Lib.hid (row_set (cs := (Am.cells ⟨a.k, 0, a.c, a.f⟩)) g2.out); have r3 := Lib.hid ((setRow_other w2 g10 w.heap.size (Am.cells ⟨a.k, 0, a.c, a.f⟩) (Nat.ne_of_lt HG.out)).trans r2.out); have k3 := Lib.hid (below_setRow k2.out (Nat.le_of_lt HG.out) (Am.cells ⟨a.k, 0, a.c, a.f⟩)); generalize World.setRow w2 g10 (Am.cells ⟨a.k, 0, a.c, a.f⟩) = w3 at *; have q0 : w3.cell? ⟨w.heap.size, 0, none⟩ = some (.int .i64 a.k) := cell_of_row _ _ 0 _ _ (0, 0) r3.out; have q1 : w3.cell? ⟨w.heap.size, 1, none⟩ = some (.int .i64 a.n) := cell_of_row _ _ 1 _ _ (0, 0) r3.out; have q2 : w3.cell? ⟨w.heap.size, 2, none⟩ = some (.int .i64 a.c) := cell_of_row _ _ 2 _ _ (0, 0) r3.out))
  go_ret
  exact ⟨rfl, k3.out⟩
set_option maxRecDepth 100000 in
set_option maxHeartbeats 1000000 in
theorem rAIs_0b (a : Am) (hk : a.k = 0) (hn : ¬ a.n < 0) (hm : 1000000 < a.n) (w : World) :
    Calls Tryz.prog 10 #[.agg a.cells] w fun e w' => e = .returned (.bool false) ∧ Below w.heap.size w w' := by
  have t0 : (a.k == 0) = true := by simpa using hk
  clear hk
  have r0 := Lib.hid (heap_alloc_new w (.cells a.cells TAm))
  have k0 : Hid (Below w.heap.size w (w.alloc (.cells a.cells TAm))) := Lib.hid ((Below.refl _ _).alloc (Nat.le_refl _) _)
  go_enter Tryz.func10, Tryz.ntmps10
  go_upto_region 1 with fail
  change Code.wp _ _ _ _ (w.alloc (.cells a.cells TAm))
  generalize w.alloc (.cells a.cells TAm) = w1 at *
  go_upto_region 2 with (first | refine wpList_load_row_g (by rfl) TAm _ (by rfl) w.heap.size (by rfl) TAm a.cells (0, 0) _ r0.out Tryz.underlying27 rfl infoTAm ?_ | (refine wpList_store_row (by rfl) TAm _ _ (by rfl) w1.heap.size a.cells (by rfl) (by rfl) TAm zeroA.cells (heap_alloc_new w1 _) infoTAm rfl (acells_one _) ?_; change wpList _ _ _ _ _ (stored w1 TAm zeroA.cells a.cells); have g2 := Lib.hid (stored_new w1 TAm zeroA.cells a.cells); have r2 := Lib.hid (stored_old (t := TAm) (o := zeroA.cells) (cs := a.cells) r0.out); have k2 := Lib.hid (k0.out.trans ((stored_below w1 TAm zeroA.cells a.cells).mono k0.out.size)); have HG := Lib.hid (blk_lt r0.out); generalize stored w1 TAm zeroA.cells a.cells = w2 at *))
  generalize w1.heap.size = g10 at *
  have q0 : w2.cell? ⟨w.heap.size, 0, none⟩ = some (.int .i64 a.k) := cell_of_row _ _ 0 _ _ (0, 0) r2.out
  have q1 : w2.cell? ⟨w.heap.size, 1, none⟩ = some (.int .i64 a.n) := cell_of_row _ _ 1 _ _ (0, 0) r2.out
  have q2 : w2.cell? ⟨w.heap.size, 2, none⟩ = some (.int .i64 a.c) := cell_of_row _ _ 2 _ _ (0, 0) r2.out
  go_wp2_with (first | (rw [wpList_skip_eq]; rotate_left; · rfl) | (refine wpList_store_int (by rfl) 3 _ _ (by rfl) g10 1 TAm a.cells (Am.cells ⟨a.k, 0, a.c, a.f⟩) .i64 0 (by rfl) (by rfl) g2.out (by simp [Am.cells]) (by simp [Am.cells]) infoInt1 ?_; have g3 := Lib.hid (row_set (cs := (Am.cells ⟨a.k, 0, a.c, a.f⟩)) g2.out); have r3 := Lib.hid ((setRow_other w2 g10 w.heap.size (Am.cells ⟨a.k, 0, a.c, a.f⟩) (Nat.ne_of_lt HG.out)).trans r2.out); have k3 := Lib.hid (below_setRow k2.out (Nat.le_of_lt HG.out) (Am.cells ⟨a.k, 0, a.c, a.f⟩)); generalize World.setRow w2 g10 (Am.cells ⟨a.k, 0, a.c, a.f⟩) = w3 at *; have q0 : w3.cell? ⟨w.heap.size, 0, none⟩ = some (.int .i64 a.k) := cell_of_row _ _ 0 _ _ (0, 0) r3.out; have q1 : w3.cell? ⟨w.heap.size, 1, none⟩ = some (.int .i64 a.n) := cell_of_row _ _ 1 _ _ (0, 0) r3.out; have q2 : w3.cell? ⟨w.heap.size, 2, none⟩ = some (.int .i64 a.c) := cell_of_row _ _ 2 _ _ (0, 0) r3.out))
  go_ret
  exact ⟨rfl, k3.out⟩
set_option maxRecDepth 100000 in
set_option maxHeartbeats 1000000 in
theorem rAIs_0c (a : Am) (z : Bool) (hz : amEq ⟨a.k, 0, a.c, a.f⟩ ⟨a.k, 0, 0, zeroF⟩ = z) (hk : a.k = 0) (hn : ¬ a.n < 0) (hm : ¬ 1000000 < a.n) (w : World) :
    Calls Tryz.prog 10 #[.agg a.cells] w fun e w' => e = .returned (.bool z) ∧ Below w.heap.size w w' := by
  have t0 : (a.k == 0) = true := by simpa using hk
  have g1 : 0 ≤ a.k := by omega
  have g2x : a.k ≤ 7 := by omega
  clear hk
  have heq := fun wx : World => eqb_am ⟨a.k, 0, a.c, a.f⟩ ⟨a.k, 0, 0, zeroF⟩ z hz wx
  clear hz
  have r0 := Lib.hid (heap_alloc_new w (.cells a.cells TAm))
  have k0 : Hid (Below w.heap.size w (w.alloc (.cells a.cells TAm))) := Lib.hid ((Below.refl _ _).alloc (Nat.le_refl _) _)
  go_enter Tryz.func10, Tryz.ntmps10
  go_upto_region 1 with fail
  change Code.wp _ _ _ _ (w.alloc (.cells a.cells TAm))
  generalize w.alloc (.cells a.cells TAm) = w1 at *
  go_upto_region 2 with (first | refine wpList_load_row_g (by rfl) TAm _ (by rfl) w.heap.size (by rfl) TAm a.cells (0, 0) _ r0.out Tryz.underlying27 rfl infoTAm ?_ | (refine wpList_store_row (by rfl) TAm _ _ (by rfl) w1.heap.size a.cells (by rfl) (by rfl) TAm zeroA.cells (heap_alloc_new w1 _) infoTAm rfl (acells_one _) ?_; change wpList _ _ _ _ _ (stored w1 TAm zeroA.cells a.cells); have g2 := Lib.hid (stored_new w1 TAm zeroA.cells a.cells); have r2 := Lib.hid (stored_old (t := TAm) (o := zeroA.cells) (cs := a.cells) r0.out); have k2 := Lib.hid (k0.out.trans ((stored_below w1 TAm zeroA.cells a.cells).mono k0.out.size)); have HG := Lib.hid (blk_lt r0.out); generalize stored w1 TAm zeroA.cells a.cells = w2 at *))
  generalize w1.heap.size = g10 at *
  have q0 : w2.cell? ⟨w.heap.size, 0, none⟩ = some (.int .i64 a.k) := cell_of_row _ _ 0 _ _ (0, 0) r2.out
  have q1 : w2.cell? ⟨w.heap.size, 1, none⟩ = some (.int .i64 a.n) := cell_of_row _ _ 1 _ _ (0, 0) r2.out
  have q2 : w2.cell? ⟨w.heap.size, 2, none⟩ = some (.int .i64 a.c) := cell_of_row _ _ 2 _ _ (0, 0) r2.out
  go_wp2_with (first | (rw [wpList_skip_eq]; rotate_left; · rfl) | (refine wpList_store_int (by rfl) 3 _ _ (by rfl) g10 1 TAm a.cells (Am.cells ⟨a.k, 0, a.c, a.f⟩) .i64 0 (by rfl) (by rfl) g2.out (by simp [Am.cells]) (by simp [Am.cells]) infoInt1 ?_; have g3 := Lib.hid (row_set (cs := (Am.cells ⟨a.k, 0, a.c, a.f⟩)) g2.out); have r3 := Lib.hid ((setRow_other w2 g10 w.heap.size (Am.cells ⟨a.k, 0, a.c, a.f⟩) (Nat.ne_of_lt HG.out)).trans r2.out); have k3 := Lib.hid (below_setRow k2.out (Nat.le_of_lt HG.out) (Am.cells ⟨a.k, 0, a.c, a.f⟩)); generalize World.setRow w2 g10 (Am.cells ⟨a.k, 0, a.c, a.f⟩) = w3 at *; have q0 : w3.cell? ⟨w.heap.size, 0, none⟩ = some (.int .i64 a.k) := cell_of_row _ _ 0 _ _ (0, 0) r3.out; have q1 : w3.cell? ⟨w.heap.size, 1, none⟩ = some (.int .i64 a.n) := cell_of_row _ _ 1 _ _ (0, 0) r3.out; have q2 : w3.cell? ⟨w.heap.size, 2, none⟩ = some (.int .i64 a.c) := cell_of_row _ _ 2 _ _ (0, 0) r3.out) | refine wpList_load_row_g (by rfl) TAm _ (by rfl) g10 (by rfl) TAm (Am.cells ⟨a.k, 0, a.c, a.f⟩) (0, 0) _ g3.out Tryz.underlying27 rfl infoTAm ?_ | refine wpList_build1_g (by rfl) TAm 0 _ (by rfl) (.int .i64 a.k) (.agg (Am.cells ⟨a.k, 0, 0, zeroF⟩)) (by rfl) (build_ak _ _) ?_)
  go_ret
  exact ⟨ret_bool (by simp), k3.out⟩
set_option maxRecDepth 100000 in
set_option maxHeartbeats 1000000 in
theorem rAIs_2a (a : Am) (hk : a.k = 2) (hn : a.n < 1) (w : World) :
    Calls Tryz.prog 10 #[.agg a.cells] w fun e w' => e = .returned (.bool false) ∧ Below w.heap.size w w' := by
  have t0 : (a.k == 0) = false := by rw [hk]; rfl
  have t2 : (a.k == 2) = true := by simpa using hk
  clear hk
  have r0 := Lib.hid (heap_alloc_new w (.cells a.cells TAm))
  have k0 : Hid (Below w.heap.size w (w.alloc (.cells a.cells TAm))) := Lib.hid ((Below.refl _ _).alloc (Nat.le_refl _) _)
  go_enter Tryz.func10, Tryz.ntmps10
  go_upto_region 1 with fail
  change Code.wp _ _ _ _ (w.alloc (.cells a.cells TAm))
  generalize w.alloc (.cells a.cells TAm) = w1 at *
  go_upto_region 2 with (first | refine wpList_load_row_g (by rfl) TAm _ (by rfl) w.heap.size (by rfl) TAm a.cells (0, 0) _ r0.out Tryz.underlying27 rfl infoTAm ?_ | (refine wpList_store_row (by rfl) TAm _ _ (by rfl) w1.heap.size a.cells (by rfl) (by rfl) TAm zeroA.cells (heap_alloc_new w1 _) infoTAm rfl (acells_one _) ?_; change wpList _ _ _ _ _ (stored w1 TAm zeroA.cells a.cells); have g2 := Lib.hid (stored_new w1 TAm zeroA.cells a.cells); have r2 := Lib.hid (stored_old (t := TAm) (o := zeroA.cells) (cs := a.cells) r0.out); have k2 := Lib.hid (k0.out.trans ((stored_below w1 TAm zeroA.cells a.cells).mono k0.out.size)); have HG := Lib.hid (blk_lt r0.out); generalize stored w1 TAm zeroA.cells a.cells = w2 at *))
  generalize w1.heap.size = g10 at *
  have q0 : w2.cell? ⟨w.heap.size, 0, none⟩ = some (.int .i64 a.k) := cell_of_row _ _ 0 _ _ (0, 0) r2.out
  have q1 : w2.cell? ⟨w.heap.size, 1, none⟩ = some (.int .i64 a.n) := cell_of_row _ _ 1 _ _ (0, 0) r2.out
  have q2 : w2.cell? ⟨w.heap.size, 2, none⟩ = some (.int .i64 a.c) := cell_of_row _ _ 2 _ _ (0, 0) r2.out
  go_wp2_with (first | (rw [wpList_skip_eq]; rotate_left; · rfl) | (refine wpList_store_int (by rfl) 3 _ _ (by rfl) g10 1 TAm a.cells (Am.cells ⟨a.k, 0, a.c, a.f⟩) .i64 0 (by rfl) (by rfl) g2.out (by simp [Am.cells]) (by simp [Am.cells]) infoInt1 ?_; have g3 := Lib.hid (row_set (cs := (Am.cells ⟨a.k, 0, a.c, a.f⟩)) g2.out); have r3 := Lib.hid ((setRow_other w2 g10 w.heap.size (Am.cells ⟨a.k, 0, a.c, a.f⟩) (Nat.ne_of_lt HG.out)).trans r2.out); have k3 := Lib.hid (below_setRow k2.out (Nat.le_of_lt HG.out) (Am.cells ⟨a.k, 0, a.c, a.f⟩)); generalize World.setRow w2 g10 (Am.cells ⟨a.k, 0, a.c, a.f⟩) = w3 at *; have q0 : w3.cell? ⟨w.heap.size, 0, none⟩ = some (.int .i64 a.k) := cell_of_row _ _ 0 _ _ (0, 0) r3.out; have q1 : w3.cell? ⟨w.heap.size, 1, none⟩ = some (.int .i64 a.n) := cell_of_row _ _ 1 _ _ (0, 0) r3.out; have q2 : w3.cell? ⟨w.heap.size, 2, none⟩ = some (.int .i64 a.c) := cell_of_row _ _ 2 _ _ (0, 0) r3.out) | (refine wpList_store_part (by rfl) TF _ _ (by rfl) g10 3 TAm (Am.cells ⟨a.k, 0, a.c, a.f⟩) zeroF.cells (Am.cells ⟨a.k, 0, a.c, zeroF⟩) (by rfl) (by rfl) g3.out (by simp [Am.cells, Flt.cells, zeroF]) (am_put _ zeroF) infoTF (cells_one _) ?_; have g4 := Lib.hid (row_set (cs := (Am.cells ⟨a.k, 0, a.c, zeroF⟩)) g3.out); have r4 := Lib.hid ((setRow_other w3 g10 w.heap.size (Am.cells ⟨a.k, 0, a.c, zeroF⟩) (Nat.ne_of_lt HG.out)).trans r3.out); have k4 := Lib.hid (below_setRow k3.out (Nat.le_of_lt HG.out) (Am.cells ⟨a.k, 0, a.c, zeroF⟩)); generalize World.setRow w3 g10 (Am.cells ⟨a.k, 0, a.c, zeroF⟩) = w4 at *; have q0 : w4.cell? ⟨w.heap.size, 0, none⟩ = some (.int .i64 a.k) := cell_of_row _ _ 0 _ _ (0, 0) r4.out; have q1 : w4.cell? ⟨w.heap.size, 1, none⟩ = some (.int .i64 a.n) := cell_of_row _ _ 1 _ _ (0, 0) r4.out; have q2 : w4.cell? ⟨w.heap.size, 2, none⟩ = some (.int .i64 a.c) := cell_of_row _ _ 2 _ _ (0, 0) r4.out))
  go_ret
  exact ⟨rfl, k4.out⟩
set_option maxRecDepth 100000 in
set_option maxHeartbeats 1000000 in
theorem rAIs_2b (a : Am) (hk : a.k = 2) (hn : ¬ a.n < 1) (hm : 99 < a.n) (w : World) :
    Calls Tryz.prog 10 #[.agg a.cells] w fun e w' => e = .returned (.bool false) ∧ Below w.heap.size w w' := by
  have t0 : (a.k == 0) = false := by rw [hk]; rfl
  have t2 : (a.k == 2) = true := by simpa using hk
  clear hk
  have r0 := Lib.hid (heap_alloc_new w (.cells a.cells TAm))
  have k0 : Hid (Below w.heap.size w (w.alloc (.cells a.cells TAm))) := Lib.hid ((Below.refl _ _).alloc (Nat.le_refl _) _)
  go_enter Tryz.func10, Tryz.ntmps10
  go_upto_region 1 with fail
  change Code.wp _ _ _ _ (w.alloc (.cells a.cells TAm))
  generalize w.alloc (.cells a.cells TAm) = w1 at *
  go_upto_region 2 with (first | refine wpList_load_row_g (by rfl) TAm _ (by rfl) w.heap.size (by rfl) TAm a.cells (0, 0) _ r0.out Tryz.underlying27 rfl infoTAm ?_ | (refine wpList_store_row (by rfl) TAm _ _ (by rfl) w1.heap.size a.cells (by rfl) (by rfl) TAm zeroA.cells (heap_alloc_new w1 _) infoTAm rfl (acells_one _) ?_; change wpList _ _ _ _ _ (stored w1 TAm zeroA.cells a.cells); have g2 := Lib.hid (stored_new w1 TAm zeroA.cells a.cells); have r2 := Lib.hid (stored_old (t := TAm) (o := zeroA.cells) (cs := a.cells) r0.out); have k2 := Lib.hid (k0.out.trans ((stored_below w1 TAm zeroA.cells a.cells).mono k0.out.size)); have HG := Lib.hid (blk_lt r0.out); generalize stored w1 TAm zeroA.cells a.cells = w2 at *))
  generalize w1.heap.size = g10 at *
  have q0 : w2.cell? ⟨w.heap.size, 0, none⟩ = some (.int .i64 a.k) := cell_of_row _ _ 0 _ _ (0, 0) r2.out
  have q1 : w2.cell? ⟨w.heap.size, 1, none⟩ = some (.int .i64 a.n) := cell_of_row _ _ 1 _ _ (0, 0) r2.out
  have q2 : w2.cell? ⟨w.heap.size, 2, none⟩ = some (.int .i64 a.c) := cell_of_row _ _ 2 _ _ (0, 0) r2.out
  go_wp2_with (first | (rw [wpList_skip_eq]; rotate_left; · rfl) | (refine wpList_store_int (by rfl) 3 _ _ (by rfl) g10 1 TAm a.cells (Am.cells ⟨a.k, 0, a.c, a.f⟩) .i64 0 (by rfl) (by rfl) g2.out (by simp [Am.cells]) (by simp [Am.cells]) infoInt1 ?_; have g3 := Lib.hid (row_set (cs := (Am.cells ⟨a.k, 0, a.c, a.f⟩)) g2.out); have r3 := Lib.hid ((setRow_other w2 g10 w.heap.size (Am.cells ⟨a.k, 0, a.c, a.f⟩) (Nat.ne_of_lt HG.out)).trans r2.out); have k3 := Lib.hid (below_setRow k2.out (Nat.le_of_lt HG.out) (Am.cells ⟨a.k, 0, a.c, a.f⟩)); generalize World.setRow w2 g10 (Am.cells ⟨a.k, 0, a.c, a.f⟩) = w3 at *; have q0 : w3.cell? ⟨w.heap.size, 0, none⟩ = some (.int .i64 a.k) := cell_of_row _ _ 0 _ _ (0, 0) r3.out; have q1 : w3.cell? ⟨w.heap.size, 1, none⟩ = some (.int .i64 a.n) := cell_of_row _ _ 1 _ _ (0, 0) r3.out; have q2 : w3.cell? ⟨w.heap.size, 2, none⟩ = some (.int .i64 a.c) := cell_of_row _ _ 2 _ _ (0, 0) r3.out) | (refine wpList_store_part (by rfl) TF _ _ (by rfl) g10 3 TAm (Am.cells ⟨a.k, 0, a.c, a.f⟩) zeroF.cells (Am.cells ⟨a.k, 0, a.c, zeroF⟩) (by rfl) (by rfl) g3.out (by simp [Am.cells, Flt.cells, zeroF]) (am_put _ zeroF) infoTF (cells_one _) ?_; have g4 := Lib.hid (row_set (cs := (Am.cells ⟨a.k, 0, a.c, zeroF⟩)) g3.out); have r4 := Lib.hid ((setRow_other w3 g10 w.heap.size (Am.cells ⟨a.k, 0, a.c, zeroF⟩) (Nat.ne_of_lt HG.out)).trans r3.out); have k4 := Lib.hid (below_setRow k3.out (Nat.le_of_lt HG.out) (Am.cells ⟨a.k, 0, a.c, zeroF⟩)); generalize World.setRow w3 g10 (Am.cells ⟨a.k, 0, a.c, zeroF⟩) = w4 at *; have q0 : w4.cell? ⟨w.heap.size, 0, none⟩ = some (.int .i64 a.k) := cell_of_row _ _ 0 _ _ (0, 0) r4.out; have q1 : w4.cell? ⟨w.heap.size, 1, none⟩ = some (.int .i64 a.n) := cell_of_row _ _ 1 _ _ (0, 0) r4.out; have q2 : w4.cell? ⟨w.heap.size, 2, none⟩ = some (.int .i64 a.c) := cell_of_row _ _ 2 _ _ (0, 0) r4.out))
  go_ret
  exact ⟨rfl, k4.out⟩
set_option maxRecDepth 100000 in
set_option maxHeartbeats 1000000 in
theorem rAIs_2c (a : Am) (hk : a.k = 2) (hn : ¬ a.n < 1) (hm : ¬ 99 < a.n) (HV : Hid (fltIs a.f = false)) (w : World) :
    Calls Tryz.prog 10 #[.agg a.cells] w fun e w' => e = .returned (.bool false) ∧ Below w.heap.size w w' := by
  have t0 : (a.k == 0) = false := by rw [hk]; rfl
  have t2 : (a.k == 2) = true := by simpa using hk
  clear hk
  have r0 := Lib.hid (heap_alloc_new w (.cells a.cells TAm))
  have k0 : Hid (Below w.heap.size w (w.alloc (.cells a.cells TAm))) := Lib.hid ((Below.refl _ _).alloc (Nat.le_refl _) _)
  go_enter Tryz.func10, Tryz.ntmps10
  go_upto_region 1 with fail
  change Code.wp _ _ _ _ (w.alloc (.cells a.cells TAm))
  generalize w.alloc (.cells a.cells TAm) = w1 at *
  go_upto_region 2 with (first | refine wpList_load_row_g (by rfl) TAm _ (by rfl) w.heap.size (by rfl) TAm a.cells (0, 0) _ r0.out Tryz.underlying27 rfl infoTAm ?_ | (refine wpList_store_row (by rfl) TAm _ _ (by rfl) w1.heap.size a.cells (by rfl) (by rfl) TAm zeroA.cells (heap_alloc_new w1 _) infoTAm rfl (acells_one _) ?_; change wpList _ _ _ _ _ (stored w1 TAm zeroA.cells a.cells); have g2 := Lib.hid (stored_new w1 TAm zeroA.cells a.cells); have r2 := Lib.hid (stored_old (t := TAm) (o := zeroA.cells) (cs := a.cells) r0.out); have k2 := Lib.hid (k0.out.trans ((stored_below w1 TAm zeroA.cells a.cells).mono k0.out.size)); have HG := Lib.hid (blk_lt r0.out); generalize stored w1 TAm zeroA.cells a.cells = w2 at *))
  generalize w1.heap.size = g10 at *
  have q0 : w2.cell? ⟨w.heap.size, 0, none⟩ = some (.int .i64 a.k) := cell_of_row _ _ 0 _ _ (0, 0) r2.out
  have q1 : w2.cell? ⟨w.heap.size, 1, none⟩ = some (.int .i64 a.n) := cell_of_row _ _ 1 _ _ (0, 0) r2.out
  have q2 : w2.cell? ⟨w.heap.size, 2, none⟩ = some (.int .i64 a.c) := cell_of_row _ _ 2 _ _ (0, 0) r2.out
  go_wp2_with (first | (rw [wpList_skip_eq]; rotate_left; · rfl) | (refine wpList_store_int (by rfl) 3 _ _ (by rfl) g10 1 TAm a.cells (Am.cells ⟨a.k, 0, a.c, a.f⟩) .i64 0 (by rfl) (by rfl) g2.out (by simp [Am.cells]) (by simp [Am.cells]) infoInt1 ?_; have g3 := Lib.hid (row_set (cs := (Am.cells ⟨a.k, 0, a.c, a.f⟩)) g2.out); have r3 := Lib.hid ((setRow_other w2 g10 w.heap.size (Am.cells ⟨a.k, 0, a.c, a.f⟩) (Nat.ne_of_lt HG.out)).trans r2.out); have k3 := Lib.hid (below_setRow k2.out (Nat.le_of_lt HG.out) (Am.cells ⟨a.k, 0, a.c, a.f⟩)); generalize World.setRow w2 g10 (Am.cells ⟨a.k, 0, a.c, a.f⟩) = w3 at *; have q0 : w3.cell? ⟨w.heap.size, 0, none⟩ = some (.int .i64 a.k) := cell_of_row _ _ 0 _ _ (0, 0) r3.out; have q1 : w3.cell? ⟨w.heap.size, 1, none⟩ = some (.int .i64 a.n) := cell_of_row _ _ 1 _ _ (0, 0) r3.out; have q2 : w3.cell? ⟨w.heap.size, 2, none⟩ = some (.int .i64 a.c) := cell_of_row _ _ 2 _ _ (0, 0) r3.out) | (refine wpList_store_part (by rfl) TF _ _ (by rfl) g10 3 TAm (Am.cells ⟨a.k, 0, a.c, a.f⟩) zeroF.cells (Am.cells ⟨a.k, 0, a.c, zeroF⟩) (by rfl) (by rfl) g3.out (by simp [Am.cells, Flt.cells, zeroF]) (am_put _ zeroF) infoTF (cells_one _) ?_; have g4 := Lib.hid (row_set (cs := (Am.cells ⟨a.k, 0, a.c, zeroF⟩)) g3.out); have r4 := Lib.hid ((setRow_other w3 g10 w.heap.size (Am.cells ⟨a.k, 0, a.c, zeroF⟩) (Nat.ne_of_lt HG.out)).trans r3.out); have k4 := Lib.hid (below_setRow k3.out (Nat.le_of_lt HG.out) (Am.cells ⟨a.k, 0, a.c, zeroF⟩)); generalize World.setRow w3 g10 (Am.cells ⟨a.k, 0, a.c, zeroF⟩) = w4 at *; have q0 : w4.cell? ⟨w.heap.size, 0, none⟩ = some (.int .i64 a.k) := cell_of_row _ _ 0 _ _ (0, 0) r4.out; have q1 : w4.cell? ⟨w.heap.size, 1, none⟩ = some (.int .i64 a.n) := cell_of_row _ _ 1 _ _ (0, 0) r4.out; have q2 : w4.cell? ⟨w.heap.size, 2, none⟩ = some (.int .i64 a.c) := cell_of_row _ _ 2 _ _ (0, 0) r4.out) | refine wpList_load_part (by rfl) TF _ (by rfl) w.heap.size 3 (by rfl) TAm a.cells a.f.cells (0, 0) _ r4.out (am_part a) Tryz.underlying25 rfl infoTF ?_ | (go_at_call 18; (with_reducible refine (rIs_v a.f false HV _).mono ?_); rintro e w8 ⟨rfl, hb8⟩; have g8 := Lib.hid (blk_below2 hb8 g4.out); have r8 := Lib.hid (blk_below2 hb8 r4.out); have k8 := Lib.hid (below_two k4.out hb8); have q0 : w8.cell? ⟨w.heap.size, 0, none⟩ = some (.int .i64 a.k) := cell_of_row _ _ 0 _ _ (0, 0) r8.out; have q1 : w8.cell? ⟨w.heap.size, 1, none⟩ = some (.int .i64 a.n) := cell_of_row _ _ 1 _ _ (0, 0) r8.out; have q2 : w8.cell? ⟨w.heap.size, 2, none⟩ = some (.int .i64 a.c) := cell_of_row _ _ 2 _ _ (0, 0) r8.out))
  go_ret
  exact ⟨rfl, k8.out⟩
set_option maxRecDepth 100000 in
set_option maxHeartbeats 1000000 in
theorem rAIs_2d (a : Am) (z : Bool) (hz : amEq ⟨a.k, 0, a.c, zeroF⟩ ⟨a.k, 0, 0, zeroF⟩ = z) (hk : a.k = 2) (hn : ¬ a.n < 1) (hm : ¬ 99 < a.n) (HV : Hid (fltIs a.f = true)) (w : World) :
    Calls Tryz.prog 10 #[.agg a.cells] w fun e w' => e = .returned (.bool z) ∧ Below w.heap.size w w' := by
  have t0 : (a.k == 0) = false := by rw [hk]; rfl
  have t2 : (a.k == 2) = true := by simpa using hk
  have g1 : 0 ≤ a.k := by omega
  have g2x : a.k ≤ 7 := by omega
  clear hk
  have heq := fun wx : World => eqb_am ⟨a.k, 0, a.c, zeroF⟩ ⟨a.k, 0, 0, zeroF⟩ z hz wx
  clear hz
  have r0 := Lib.hid (heap_alloc_new w (.cells a.cells TAm))
  have k0 : Hid (Below w.heap.size w (w.alloc (.cells a.cells TAm))) := Lib.hid ((Below.refl _ _).alloc (Nat.le_refl _) _)
  go_enter Tryz.func10, Tryz.ntmps10
  go_upto_region 1 with fail
  change Code.wp _ _ _ _ (w.alloc (.cells a.cells TAm))
  generalize w.alloc (.cells a.cells TAm) = w1 at *
  go_upto_region 2 with (first | refine wpList_load_row_g (by rfl) TAm _ (by rfl) w.heap.size (by rfl) TAm a.cells (0, 0) _ r0.out Tryz.underlying27 rfl infoTAm ?_ | (refine wpList_store_row (by rfl) TAm _ _ (by rfl) w1.heap.size a.cells (by rfl) (by rfl) TAm zeroA.cells (heap_alloc_new w1 _) infoTAm rfl (acells_one _) ?_; change wpList _ _ _ _ _ (stored w1 TAm zeroA.cells a.cells); have g2 := Lib.hid (stored_new w1 TAm zeroA.cells a.cells); have r2 := Lib.hid (stored_old (t := TAm) (o := zeroA.cells) (cs := a.cells) r0.out); have k2 := Lib.hid (k0.out.trans ((stored_below w1 TAm zeroA.cells a.cells).mono k0.out.size)); have HG := Lib.hid (blk_lt r0.out); generalize stored w1 TAm zeroA.cells a.cells = w2 at *))
  generalize w1.heap.size = g10 at *
  have q0 : w2.cell? ⟨w.heap.size, 0, none⟩ = some (.int .i64 a.k) := cell_of_row _ _ 0 _ _ (0, 0) r2.out
  have q1 : w2.cell? ⟨w.heap.size, 1, none⟩ = some (.int .i64 a.n) := cell_of_row _ _ 1 _ _ (0, 0) r2.out
  have q2 : w2.cell? ⟨w.heap.size, 2, none⟩ = some (.int .i64 a.c) := cell_of_row _ _ 2 _ _ (0, 0) r2.out
  go_wp2_with (first | (rw [wpList_skip_eq]; rotate_left; · rfl) | (refine wpList_store_int (by rfl) 3 _ _ (by rfl) g10 1 TAm a.cells (Am.cells ⟨a.k, 0, a.c, a.f⟩) .i64 0 (by rfl) (by rfl) g2.out (by simp [Am.cells]) (by simp [Am.cells]) infoInt1 ?_; have g3 := Lib.hid (row_set (cs := (Am.cells ⟨a.k, 0, a.c, a.f⟩)) g2.out); have r3 := Lib.hid ((setRow_other w2 g10 w.heap.size (Am.cells ⟨a.k, 0, a.c, a.f⟩) (Nat.ne_of_lt HG.out)).trans r2.out); have k3 := Lib.hid (below_setRow k2.out (Nat.le_of_lt HG.out) (Am.cells ⟨a.k, 0, a.c, a.f⟩)); generalize World.setRow w2 g10 (Am.cells ⟨a.k, 0, a.c, a.f⟩) = w3 at *; have q0 : w3.cell? ⟨w.heap.size, 0, none⟩ = some (.int .i64 a.k) := cell_of_row _ _ 0 _ _ (0, 0) r3.out; have q1 : w3.cell? ⟨w.heap.size, 1, none⟩ = some (.int .i64 a.n) := cell_of_row _ _ 1 _ _ (0, 0) r3.out; have q2 : w3.cell? ⟨w.heap.size, 2, none⟩ = some (.int .i64 a.c) := cell_of_row _ _ 2 _ _ (0, 0) r3.out) | (refine wpList_store_part (by rfl) TF _ _ (by rfl) g10 3 TAm (Am.cells ⟨a.k, 0, a.c, a.f⟩) zeroF.cells (Am.cells ⟨a.k, 0, a.c, zeroF⟩) (by rfl) (by rfl) g3.out (by simp [Am.cells, Flt.cells, zeroF]) (am_put _ zeroF) infoTF (cells_one _) ?_; have g4 := Lib.hid (row_set (cs := (Am.cells ⟨a.k, 0, a.c, zeroF⟩)) g3.out); have r4 := Lib.hid ((setRow_other w3 g10 w.heap.size (Am.cells ⟨a.k, 0, a.c, zeroF⟩) (Nat.ne_of_lt HG.out)).trans r3.out); have k4 := Lib.hid (below_setRow k3.out (Nat.le_of_lt HG.out) (Am.cells ⟨a.k, 0, a.c, zeroF⟩)); generalize World.setRow w3 g10 (Am.cells ⟨a.k, 0, a.c, zeroF⟩) = w4 at *; have q0 : w4.cell? ⟨w.heap.size, 0, none⟩ = some (.int .i64 a.k) := cell_of_row _ _ 0 _ _ (0, 0) r4.out; have q1 : w4.cell? ⟨w.heap.size, 1, none⟩ = some (.int .i64 a.n) := cell_of_row _ _ 1 _ _ (0, 0) r4.out; have q2 : w4.cell? ⟨w.heap.size, 2, none⟩ = some (.int .i64 a.c) := cell_of_row _ _ 2 _ _ (0, 0) r4.out) | refine wpList_load_part (by rfl) TF _ (by rfl) w.heap.size 3 (by rfl) TAm a.cells a.f.cells (0, 0) _ r4.out (am_part a) Tryz.underlying25 rfl infoTF ?_ | (go_at_call 18; (with_reducible refine (rIs_v a.f true HV _).mono ?_); rintro e w8 ⟨rfl, hb8⟩; have g8 := Lib.hid (blk_below2 hb8 g4.out); have r8 := Lib.hid (blk_below2 hb8 r4.out); have k8 := Lib.hid (below_two k4.out hb8); have q0 : w8.cell? ⟨w.heap.size, 0, none⟩ = some (.int .i64 a.k) := cell_of_row _ _ 0 _ _ (0, 0) r8.out; have q1 : w8.cell? ⟨w.heap.size, 1, none⟩ = some (.int .i64 a.n) := cell_of_row _ _ 1 _ _ (0, 0) r8.out; have q2 : w8.cell? ⟨w.heap.size, 2, none⟩ = some (.int .i64 a.c) := cell_of_row _ _ 2 _ _ (0, 0) r8.out) | refine wpList_load_row_g (by rfl) TAm _ (by rfl) g10 (by rfl) TAm (Am.cells ⟨a.k, 0, a.c, zeroF⟩) (0, 0) _ g8.out Tryz.underlying27 rfl infoTAm ?_ | refine wpList_build1_g (by rfl) TAm 0 _ (by rfl) (.int .i64 a.k) (.agg (Am.cells ⟨a.k, 0, 0, zeroF⟩)) (by rfl) (build_ak _ _) ?_)
  go_ret
  exact ⟨ret_bool (by simp), k8.out⟩
set_option maxRecDepth 100000 in
set_option maxHeartbeats 1000000 in
theorem rAIs_4a (a : Am) (hk : a.k = 4) (hc : ¬ (a.c = 0 ∨ a.c = 1 ∨ a.c = 2)) (w : World) :
    Calls Tryz.prog 10 #[.agg a.cells] w fun e w' => e = .returned (.bool false) ∧ Below w.heap.size w w' := by
  have t0 : (a.k == 0) = false := by rw [hk]; rfl
  have t2 : (a.k == 2) = false := by rw [hk]; rfl
  have t4 : (a.k == 4) = true := by simpa using hk
  have HN : Hid (B (cntText a.c) = ⟨#[]⟩) := Lib.hid (by rw [cntText_no hc]; rfl)
  clear hk hc
  have r0 := Lib.hid (heap_alloc_new w (.cells a.cells TAm))
  have k0 : Hid (Below w.heap.size w (w.alloc (.cells a.cells TAm))) := Lib.hid ((Below.refl _ _).alloc (Nat.le_refl _) _)
  go_enter Tryz.func10, Tryz.ntmps10
  go_upto_region 1 with fail
  change Code.wp _ _ _ _ (w.alloc (.cells a.cells TAm))
  generalize w.alloc (.cells a.cells TAm) = w1 at *
  go_upto_region 2 with (first | refine wpList_load_row_g (by rfl) TAm _ (by rfl) w.heap.size (by rfl) TAm a.cells (0, 0) _ r0.out Tryz.underlying27 rfl infoTAm ?_ | (refine wpList_store_row (by rfl) TAm _ _ (by rfl) w1.heap.size a.cells (by rfl) (by rfl) TAm zeroA.cells (heap_alloc_new w1 _) infoTAm rfl (acells_one _) ?_; change wpList _ _ _ _ _ (stored w1 TAm zeroA.cells a.cells); have g2 := Lib.hid (stored_new w1 TAm zeroA.cells a.cells); have r2 := Lib.hid (stored_old (t := TAm) (o := zeroA.cells) (cs := a.cells) r0.out); have k2 := Lib.hid (k0.out.trans ((stored_below w1 TAm zeroA.cells a.cells).mono k0.out.size)); have HG := Lib.hid (blk_lt r0.out); generalize stored w1 TAm zeroA.cells a.cells = w2 at *))
  generalize w1.heap.size = g10 at *
  have q0 : w2.cell? ⟨w.heap.size, 0, none⟩ = some (.int .i64 a.k) := cell_of_row _ _ 0 _ _ (0, 0) r2.out
  have q1 : w2.cell? ⟨w.heap.size, 1, none⟩ = some (.int .i64 a.n) := cell_of_row _ _ 1 _ _ (0, 0) r2.out
  have q2 : w2.cell? ⟨w.heap.size, 2, none⟩ = some (.int .i64 a.c) := cell_of_row _ _ 2 _ _ (0, 0) r2.out
  go_wp2_with (first | (rw [wpList_skip_eq]; rotate_left; · rfl) | (refine wpList_store_int (by rfl) 3 _ _ (by rfl) g10 2 TAm a.cells (Am.cells ⟨a.k, a.n, 0, a.f⟩) .i64 0 (by rfl) (by rfl) g2.out (by simp [Am.cells]) (by simp [Am.cells]) infoInt1 ?_; have g3 := Lib.hid (row_set (cs := (Am.cells ⟨a.k, a.n, 0, a.f⟩)) g2.out); have r3 := Lib.hid ((setRow_other w2 g10 w.heap.size (Am.cells ⟨a.k, a.n, 0, a.f⟩) (Nat.ne_of_lt HG.out)).trans r2.out); have k3 := Lib.hid (below_setRow k2.out (Nat.le_of_lt HG.out) (Am.cells ⟨a.k, a.n, 0, a.f⟩)); generalize World.setRow w2 g10 (Am.cells ⟨a.k, a.n, 0, a.f⟩) = w3 at *; have q0 : w3.cell? ⟨w.heap.size, 0, none⟩ = some (.int .i64 a.k) := cell_of_row _ _ 0 _ _ (0, 0) r3.out; have q1 : w3.cell? ⟨w.heap.size, 1, none⟩ = some (.int .i64 a.n) := cell_of_row _ _ 1 _ _ (0, 0) r3.out; have q2 : w3.cell? ⟨w.heap.size, 2, none⟩ = some (.int .i64 a.c) := cell_of_row _ _ 2 _ _ (0, 0) r3.out) | (go_at_call 19; (with_reducible refine (rCnt_is a.c ⟨#[]⟩ HN _).mono ?_); rintro e wn ⟨rfl, rfl⟩))
  go_ret
  exact ⟨rfl, k3.out⟩
set_option maxRecDepth 100000 in
set_option maxHeartbeats 1000000 in
theorem rAIs_4b (a : Am) (z : Bool) (hz : amEq ⟨a.k, a.n, 0, a.f⟩ ⟨a.k, 0, 0, zeroF⟩ = z) (hk : a.k = 4) (hc : a.c = 0 ∨ a.c = 1 ∨ a.c = 2) (w : World) :
    Calls Tryz.prog 10 #[.agg a.cells] w fun e w' => e = .returned (.bool z) ∧ Below w.heap.size w w' := by
  have t0 : (a.k == 0) = false := by rw [hk]; rfl
  have t2 : (a.k == 2) = false := by rw [hk]; rfl
  have t4 : (a.k == 4) = true := by simpa using hk
  have g1 : 0 ≤ a.k := by omega
  have g2x : a.k ≤ 7 := by omega
  obtain ⟨N, hN⟩ : ∃ N, B (cntText a.c) = N := ⟨_, rfl⟩
  have tn1 : ¬ N.toList = [] := by rw [← hN, B_toList]; exact cntText_ne hc
  have tn0 : N.toList.isEmpty = false := by simpa using tn1
  have HN := Lib.hid hN
  clear hk hc hN
  have heq := fun wx : World => eqb_am ⟨a.k, a.n, 0, a.f⟩ ⟨a.k, 0, 0, zeroF⟩ z hz wx
  clear hz
  have r0 := Lib.hid (heap_alloc_new w (.cells a.cells TAm))
  have k0 : Hid (Below w.heap.size w (w.alloc (.cells a.cells TAm))) := Lib.hid ((Below.refl _ _).alloc (Nat.le_refl _) _)
  go_enter Tryz.func10, Tryz.ntmps10
  go_upto_region 1 with fail
  change Code.wp _ _ _ _ (w.alloc (.cells a.cells TAm))
  generalize w.alloc (.cells a.cells TAm) = w1 at *
  go_upto_region 2 with (first | refine wpList_load_row_g (by rfl) TAm _ (by rfl) w.heap.size (by rfl) TAm a.cells (0, 0) _ r0.out Tryz.underlying27 rfl infoTAm ?_ | (refine wpList_store_row (by rfl) TAm _ _ (by rfl) w1.heap.size a.cells (by rfl) (by rfl) TAm zeroA.cells (heap_alloc_new w1 _) infoTAm rfl (acells_one _) ?_; change wpList _ _ _ _ _ (stored w1 TAm zeroA.cells a.cells); have g2 := Lib.hid (stored_new w1 TAm zeroA.cells a.cells); have r2 := Lib.hid (stored_old (t := TAm) (o := zeroA.cells) (cs := a.cells) r0.out); have k2 := Lib.hid (k0.out.trans ((stored_below w1 TAm zeroA.cells a.cells).mono k0.out.size)); have HG := Lib.hid (blk_lt r0.out); generalize stored w1 TAm zeroA.cells a.cells = w2 at *))
  generalize w1.heap.size = g10 at *
  have q0 : w2.cell? ⟨w.heap.size, 0, none⟩ = some (.int .i64 a.k) := cell_of_row _ _ 0 _ _ (0, 0) r2.out
  have q1 : w2.cell? ⟨w.heap.size, 1, none⟩ = some (.int .i64 a.n) := cell_of_row _ _ 1 _ _ (0, 0) r2.out
  have q2 : w2.cell? ⟨w.heap.size, 2, none⟩ = some (.int .i64 a.c) := cell_of_row _ _ 2 _ _ (0, 0) r2.out
  go_wp2_with (first | (rw [wpList_skip_eq]; rotate_left; · rfl) | (refine wpList_store_int (by rfl) 3 _ _ (by rfl) g10 2 TAm a.cells (Am.cells ⟨a.k, a.n, 0, a.f⟩) .i64 0 (by rfl) (by rfl) g2.out (by simp [Am.cells]) (by simp [Am.cells]) infoInt1 ?_; have g3 := Lib.hid (row_set (cs := (Am.cells ⟨a.k, a.n, 0, a.f⟩)) g2.out); have r3 := Lib.hid ((setRow_other w2 g10 w.heap.size (Am.cells ⟨a.k, a.n, 0, a.f⟩) (Nat.ne_of_lt HG.out)).trans r2.out); have k3 := Lib.hid (below_setRow k2.out (Nat.le_of_lt HG.out) (Am.cells ⟨a.k, a.n, 0, a.f⟩)); generalize World.setRow w2 g10 (Am.cells ⟨a.k, a.n, 0, a.f⟩) = w3 at *; have q0 : w3.cell? ⟨w.heap.size, 0, none⟩ = some (.int .i64 a.k) := cell_of_row _ _ 0 _ _ (0, 0) r3.out; have q1 : w3.cell? ⟨w.heap.size, 1, none⟩ = some (.int .i64 a.n) := cell_of_row _ _ 1 _ _ (0, 0) r3.out; have q2 : w3.cell? ⟨w.heap.size, 2, none⟩ = some (.int .i64 a.c) := cell_of_row _ _ 2 _ _ (0, 0) r3.out) | (go_at_call 19; (with_reducible refine (rCnt_is a.c N HN _).mono ?_); rintro e wn ⟨rfl, rfl⟩) | refine wpList_load_row_g (by rfl) TAm _ (by rfl) g10 (by rfl) TAm (Am.cells ⟨a.k, a.n, 0, a.f⟩) (0, 0) _ g3.out Tryz.underlying27 rfl infoTAm ?_ | refine wpList_build1_g (by rfl) TAm 0 _ (by rfl) (.int .i64 a.k) (.agg (Am.cells ⟨a.k, 0, 0, zeroF⟩)) (by rfl) (build_ak _ _) ?_)
  go_ret
  exact ⟨ret_bool (by simp), k3.out⟩
set_option maxRecDepth 100000 in
set_option maxHeartbeats 1000000 in
theorem rAIs_oa (a : Am) (h0 : a.k ≠ 0) (h2 : a.k ≠ 2) (h4 : a.k ≠ 4) (g1 : ¬ 0 ≤ a.k) (w : World) :
    Calls Tryz.prog 10 #[.agg a.cells] w fun e w' => e = .returned (.bool false) ∧ Below w.heap.size w w' := by
  have t0 : (a.k == 0) = false := by simpa using h0
  have t2 : (a.k == 2) = false := by simpa using h2
  have t4 : (a.k == 4) = false := by simpa using h4
  clear h0 h2 h4
  have r0 := Lib.hid (heap_alloc_new w (.cells a.cells TAm))
  have k0 : Hid (Below w.heap.size w (w.alloc (.cells a.cells TAm))) := Lib.hid ((Below.refl _ _).alloc (Nat.le_refl _) _)
  go_enter Tryz.func10, Tryz.ntmps10
  go_upto_region 1 with fail
  change Code.wp _ _ _ _ (w.alloc (.cells a.cells TAm))
  generalize w.alloc (.cells a.cells TAm) = w1 at *
  go_upto_region 2 with (first | refine wpList_load_row_g (by rfl) TAm _ (by rfl) w.heap.size (by rfl) TAm a.cells (0, 0) _ r0.out Tryz.underlying27 rfl infoTAm ?_ | (refine wpList_store_row (by rfl) TAm _ _ (by rfl) w1.heap.size a.cells (by rfl) (by rfl) TAm zeroA.cells (heap_alloc_new w1 _) infoTAm rfl (acells_one _) ?_; change wpList _ _ _ _ _ (stored w1 TAm zeroA.cells a.cells); have g2 := Lib.hid (stored_new w1 TAm zeroA.cells a.cells); have r2 := Lib.hid (stored_old (t := TAm) (o := zeroA.cells) (cs := a.cells) r0.out); have k2 := Lib.hid (k0.out.trans ((stored_below w1 TAm zeroA.cells a.cells).mono k0.out.size)); have HG := Lib.hid (blk_lt r0.out); generalize stored w1 TAm zeroA.cells a.cells = w2 at *))
  generalize w1.heap.size = g10 at *
  have q0 : w2.cell? ⟨w.heap.size, 0, none⟩ = some (.int .i64 a.k) := cell_of_row _ _ 0 _ _ (0, 0) r2.out
  have q1 : w2.cell? ⟨w.heap.size, 1, none⟩ = some (.int .i64 a.n) := cell_of_row _ _ 1 _ _ (0, 0) r2.out
  have q2 : w2.cell? ⟨w.heap.size, 2, none⟩ = some (.int .i64 a.c) := cell_of_row _ _ 2 _ _ (0, 0) r2.out
  go_wp2_with (first | (rw [wpList_skip_eq]; rotate_left; · rfl))
  go_ret
  exact ⟨rfl, k2.out⟩
set_option maxRecDepth 100000 in
set_option maxHeartbeats 1000000 in
theorem rAIs_ob (a : Am) (h0 : a.k ≠ 0) (h2 : a.k ≠ 2) (h4 : a.k ≠ 4) (g1 : 0 ≤ a.k) (g2x : ¬ a.k ≤ 7) (w : World) :
    Calls Tryz.prog 10 #[.agg a.cells] w fun e w' => e = .returned (.bool false) ∧ Below w.heap.size w w' := by
  have t0 : (a.k == 0) = false := by simpa using h0
  have t2 : (a.k == 2) = false := by simpa using h2
  have t4 : (a.k == 4) = false := by simpa using h4
  clear h0 h2 h4
  have r0 := Lib.hid (heap_alloc_new w (.cells a.cells TAm))
  have k0 : Hid (Below w.heap.size w (w.alloc (.cells a.cells TAm))) := Lib.hid ((Below.refl _ _).alloc (Nat.le_refl _) _)
  go_enter Tryz.func10, Tryz.ntmps10
  go_upto_region 1 with fail
  change Code.wp _ _ _ _ (w.alloc (.cells a.cells TAm))
  generalize w.alloc (.cells a.cells TAm) = w1 at *
  go_upto_region 2 with (first | refine wpList_load_row_g (by rfl) TAm _ (by rfl) w.heap.size (by rfl) TAm a.cells (0, 0) _ r0.out Tryz.underlying27 rfl infoTAm ?_ | (refine wpList_store_row (by rfl) TAm _ _ (by rfl) w1.heap.size a.cells (by rfl) (by rfl) TAm zeroA.cells (heap_alloc_new w1 _) infoTAm rfl (acells_one _) ?_; change wpList _ _ _ _ _ (stored w1 TAm zeroA.cells a.cells); have g2 := Lib.hid (stored_new w1 TAm zeroA.cells a.cells); have r2 := Lib.hid (stored_old (t := TAm) (o := zeroA.cells) (cs := a.cells) r0.out); have k2 := Lib.hid (k0.out.trans ((stored_below w1 TAm zeroA.cells a.cells).mono k0.out.size)); have HG := Lib.hid (blk_lt r0.out); generalize stored w1 TAm zeroA.cells a.cells = w2 at *))
  generalize w1.heap.size = g10 at *
  have q0 : w2.cell? ⟨w.heap.size, 0, none⟩ = some (.int .i64 a.k) := cell_of_row _ _ 0 _ _ (0, 0) r2.out
  have q1 : w2.cell? ⟨w.heap.size, 1, none⟩ = some (.int .i64 a.n) := cell_of_row _ _ 1 _ _ (0, 0) r2.out
  have q2 : w2.cell? ⟨w.heap.size, 2, none⟩ = some (.int .i64 a.c) := cell_of_row _ _ 2 _ _ (0, 0) r2.out
  go_wp2_with (first | (rw [wpList_skip_eq]; rotate_left; · rfl))
  go_ret
  exact ⟨rfl, k2.out⟩
set_option maxRecDepth 100000 in
set_option maxHeartbeats 1000000 in
theorem rAIs_oc (a : Am) (z : Bool) (hz : amEq a ⟨a.k, 0, 0, zeroF⟩ = z) (h0 : a.k ≠ 0) (h2 : a.k ≠ 2) (h4 : a.k ≠ 4) (g1 : 0 ≤ a.k) (g2x : a.k ≤ 7) (w : World) :
    Calls Tryz.prog 10 #[.agg a.cells] w fun e w' => e = .returned (.bool z) ∧ Below w.heap.size w w' := by
  have t0 : (a.k == 0) = false := by simpa using h0
  have t2 : (a.k == 2) = false := by simpa using h2
  have t4 : (a.k == 4) = false := by simpa using h4
  clear h0 h2 h4
  have heq := fun wx : World => eqb_am a ⟨a.k, 0, 0, zeroF⟩ z hz wx
  clear hz
  have r0 := Lib.hid (heap_alloc_new w (.cells a.cells TAm))
  have k0 : Hid (Below w.heap.size w (w.alloc (.cells a.cells TAm))) := Lib.hid ((Below.refl _ _).alloc (Nat.le_refl _) _)
  go_enter Tryz.func10, Tryz.ntmps10
  go_upto_region 1 with fail
  change Code.wp _ _ _ _ (w.alloc (.cells a.cells TAm))
  generalize w.alloc (.cells a.cells TAm) = w1 at *
  go_upto_region 2 with (first | refine wpList_load_row_g (by rfl) TAm _ (by rfl) w.heap.size (by rfl) TAm a.cells (0, 0) _ r0.out Tryz.underlying27 rfl infoTAm ?_ | (refine wpList_store_row (by rfl) TAm _ _ (by rfl) w1.heap.size a.cells (by rfl) (by rfl) TAm zeroA.cells (heap_alloc_new w1 _) infoTAm rfl (acells_one _) ?_; change wpList _ _ _ _ _ (stored w1 TAm zeroA.cells a.cells); have g2 := Lib.hid (stored_new w1 TAm zeroA.cells a.cells); have r2 := Lib.hid (stored_old (t := TAm) (o := zeroA.cells) (cs := a.cells) r0.out); have k2 := Lib.hid (k0.out.trans ((stored_below w1 TAm zeroA.cells a.cells).mono k0.out.size)); have HG := Lib.hid (blk_lt r0.out); generalize stored w1 TAm zeroA.cells a.cells = w2 at *))
  generalize w1.heap.size = g10 at *
  have q0 : w2.cell? ⟨w.heap.size, 0, none⟩ = some (.int .i64 a.k) := cell_of_row _ _ 0 _ _ (0, 0) r2.out
  have q1 : w2.cell? ⟨w.heap.size, 1, none⟩ = some (.int .i64 a.n) := cell_of_row _ _ 1 _ _ (0, 0) r2.out
  have q2 : w2.cell? ⟨w.heap.size, 2, none⟩ = some (.int .i64 a.c) := cell_of_row _ _ 2 _ _ (0, 0) r2.out
  go_wp2_with (first | (rw [wpList_skip_eq]; rotate_left; · rfl) | refine wpList_load_row_g (by rfl) TAm _ (by rfl) g10 (by rfl) TAm a.cells (0, 0) _ g2.out Tryz.underlying27 rfl infoTAm ?_ | refine wpList_build1_g (by rfl) TAm 0 _ (by rfl) (.int .i64 a.k) (.agg (Am.cells ⟨a.k, 0, 0, zeroF⟩)) (by rfl) (build_ak _ _) ?_)
  go_ret
  exact ⟨ret_bool (by simp), k2.out⟩
theorem rAIs_v (a : Am) (R : Bool) (HR : Hid (amIs a = R)) (w : World) :
    Calls Tryz.prog 10 #[.agg a.cells] w fun e w' => e = .returned (.bool R) ∧ Below w.heap.size w w' := by
  have h := HR.out
  subst h
  by_cases h0 : a.k = 0
  · by_cases hn : a.n < 0
    · rw [show amIs a = false by unfold amIs; rw [if_pos h0, decide_eq_false (by omega)]; rfl]
      exact rAIs_0a a h0 hn w
    by_cases hm : 1000000 < a.n
    · rw [show amIs a = false by unfold amIs; rw [if_pos h0, decide_eq_false (show ¬ a.n ≤ 1000000 by omega)]; simp]
      exact rAIs_0b a h0 hn hm w
    · refine rAIs_0c a _ ?_ h0 hn hm w
      unfold amIs amEq
      rw [if_pos h0, decide_eq_true (show 0 ≤ a.n by omega), decide_eq_true (show a.n ≤ 1000000 by omega)]; simp
  by_cases h2 : a.k = 2
  · by_cases hn : a.n < 1
    · rw [show amIs a = false by unfold amIs; rw [if_neg h0, if_pos h2, decide_eq_false (by omega)]; rfl]
      exact rAIs_2a a h2 hn w
    by_cases hm : 99 < a.n
    · rw [show amIs a = false by unfold amIs; rw [if_neg h0, if_pos h2, decide_eq_false (show ¬ a.n ≤ 99 by omega)]; simp]
      exact rAIs_2b a h2 hn hm w
    cases hv : fltIs a.f with
    | false =>
      rw [show amIs a = false by unfold amIs; rw [if_neg h0, if_pos h2, hv]; simp]
      exact rAIs_2c a h2 hn hm (Lib.hid hv) w
    | true =>
      refine rAIs_2d a _ ?_ h2 hn hm (Lib.hid hv) w
      unfold amIs amEq
      rw [if_neg h0, if_pos h2, hv, decide_eq_true (show 1 ≤ a.n by omega), decide_eq_true (show a.n ≤ 99 by omega), fltEq_refl]; simp
  by_cases h4 : a.k = 4
  · by_cases hc : a.c = 0 ∨ a.c = 1 ∨ a.c = 2
    · refine rAIs_4b a _ ?_ h4 hc w
      unfold amIs amEq
      have hcb : (a.c == 0 || (a.c == 1 || a.c == 2)) = true := by simpa using hc
      rw [if_neg h0, if_neg h2, if_pos h4, hcb]; simp
    · have hcb : (a.c == 0 || (a.c == 1 || a.c == 2)) = false := by
        cases hh : (a.c == 0 || (a.c == 1 || a.c == 2)) with
        | false => rfl
        | true => exact absurd (by simpa using hh) hc
      rw [show amIs a = false by unfold amIs; rw [if_neg h0, if_neg h2, if_pos h4, hcb]; simp]
      exact rAIs_4a a h4 hc w
  · by_cases g1 : 0 ≤ a.k
    · by_cases g2 : a.k ≤ 7
      · refine rAIs_oc a _ ?_ h0 h2 h4 g1 g2 w
        have hb : bareA a.k = true := by unfold bareA; simp; omega
        unfold amIs amEq
        rw [if_neg h0, if_neg h2, if_neg h4, hb]; simp
      · rw [show amIs a = false by unfold amIs bareA; rw [if_neg h0, if_neg h2, if_neg h4]; simp; omega]
        exact rAIs_ob a h0 h2 h4 g1 g2 w
    · rw [show amIs a = false by unfold amIs bareA; rw [if_neg h0, if_neg h2, if_neg h4]; simp; omega]
      exact rAIs_oa a h0 h2 h4 g1 w
set_option maxRecDepth 100000 in
set_option maxHeartbeats 1000000 in
theorem rAText_0 (n : Int) (h0 : 0 ≤ n) (h1 : n ≤ 1000000) (HV : Hid (amIs ⟨0, n, 0, zeroF⟩ = true)) (w : World) :
    Calls Tryz.prog 12 #[.agg (Am.cells ⟨0, n, 0, zeroF⟩)] w fun e w' => e = .returned (.string (B (Lib.itoa n))) ∧ Below w.heap.size w w' := by
  have r0 := Lib.hid (heap_alloc_new w (.cells (Am.cells ⟨0, n, 0, zeroF⟩) TAm))
  have k0 : Hid (Below w.heap.size w (w.alloc (.cells (Am.cells ⟨0, n, 0, zeroF⟩) TAm))) := Lib.hid ((Below.refl _ _).alloc (Nat.le_refl _) _)
  go_enter Tryz.func12, Tryz.ntmps12
  go_wp2_with (first | (rw [wpList_skip_eq]; rotate_left; · rfl) | refine wpList_load_row_g (by rfl) TAm _ (by rfl) w.heap.size (by rfl) TAm (Am.cells ⟨0, n, 0, zeroF⟩) (0, 0) _ r0.out Tryz.underlying27 rfl infoTAm ?_ | (go_at_call 10; (with_reducible refine (rAIs_v ⟨0, n, 0, zeroF⟩ true HV _).mono ?_); rintro e w1 ⟨rfl, hb1⟩; have r1 := Lib.hid (blk_below2 hb1 r0.out); have k1 := Lib.hid (below_two k0.out hb1); have q0 : w1.cell? ⟨w.heap.size, 0, none⟩ = some (.int .i64 0) := cell_of_row _ _ 0 _ _ (0, 0) r1.out; have q1 : w1.cell? ⟨w.heap.size, 1, none⟩ = some (.int .i64 n) := cell_of_row _ _ 1 _ _ (0, 0) r1.out; have q2 : w1.cell? ⟨w.heap.size, 2, none⟩ = some (.int .i64 0) := cell_of_row _ _ 2 _ _ (0, 0) r1.out) | (go_at_call 23; (with_reducible refine (rText_any n _ (by omega) (by omega)).mono ?_); rintro e wn ⟨rfl, hbn⟩))
  go_ret
  exact ⟨rfl, below_two k1.out hbn⟩
set_option maxRecDepth 100000 in
set_option maxHeartbeats 1000000 in
theorem rAText_4 (c : Int) (HV : Hid (amIs ⟨4, 0, c, zeroF⟩ = true)) (w : World) :
    Calls Tryz.prog 12 #[.agg (Am.cells ⟨4, 0, c, zeroF⟩)] w fun e w' => e = .returned (.string (B (cntsW ++ (cntText c ++ [41])))) ∧ Below w.heap.size w w' := by
  obtain ⟨N, hN⟩ : ∃ N, B (cntText c) = N := ⟨_, rfl⟩
  have hns : N.size ≤ 6 := by rw [← hN, B_size]; exact cntText_len c
  have HR : Hid (⟨#[99, 111, 117, 110, 116, 101, 114, 115, 40]⟩ ++ N ++ ⟨#[41]⟩ = B (cntsW ++ (cntText c ++ [41]))) := Lib.hid (by rw [← hN, show (⟨#[99, 111, 117, 110, 116, 101, 114, 115, 40]⟩ : ByteArray) = B cntsW from rfl, show (⟨#[41]⟩ : ByteArray) = B [41] from rfl, B_append, B_append, List.append_assoc])
  have HN := Lib.hid hN
  clear hN
  have r0 := Lib.hid (heap_alloc_new w (.cells (Am.cells ⟨4, 0, c, zeroF⟩) TAm))
  have k0 : Hid (Below w.heap.size w (w.alloc (.cells (Am.cells ⟨4, 0, c, zeroF⟩) TAm))) := Lib.hid ((Below.refl _ _).alloc (Nat.le_refl _) _)
  go_enter Tryz.func12, Tryz.ntmps12
  go_wp2_with (first | (rw [wpList_skip_eq]; rotate_left; · rfl) | refine wpList_load_row_g (by rfl) TAm _ (by rfl) w.heap.size (by rfl) TAm (Am.cells ⟨4, 0, c, zeroF⟩) (0, 0) _ r0.out Tryz.underlying27 rfl infoTAm ?_ | (go_at_call 10; (with_reducible refine (rAIs_v ⟨4, 0, c, zeroF⟩ true HV _).mono ?_); rintro e w1 ⟨rfl, hb1⟩; have r1 := Lib.hid (blk_below2 hb1 r0.out); have k1 := Lib.hid (below_two k0.out hb1); have q0 : w1.cell? ⟨w.heap.size, 0, none⟩ = some (.int .i64 4) := cell_of_row _ _ 0 _ _ (0, 0) r1.out; have q1 : w1.cell? ⟨w.heap.size, 1, none⟩ = some (.int .i64 0) := cell_of_row _ _ 1 _ _ (0, 0) r1.out; have q2 : w1.cell? ⟨w.heap.size, 2, none⟩ = some (.int .i64 c) := cell_of_row _ _ 2 _ _ (0, 0) r1.out) | (go_at_call 19; (with_reducible refine (rCnt_is c N HN _).mono ?_); rintro e wn ⟨rfl, rfl⟩))
  go_ret
  exact ⟨ret_str HR.out, k1.out⟩
set_option maxRecDepth 100000 in
set_option maxHeartbeats 1000000 in
theorem rAText_2a (f : Flt) (HV : Hid (amIs ⟨2, 1, 0, f⟩ = true)) (w : World) :
    Calls Tryz.prog 12 #[.agg (Am.cells ⟨2, 1, 0, f⟩)] w fun e w' => e = .returned (.string (B (countS f))) ∧ Below w.heap.size w w' := by
  have hil := textOf_len (f := f)
  have HR := Lib.hid (countS_B f)
  have r0 := Lib.hid (heap_alloc_new w (.cells (Am.cells ⟨2, 1, 0, f⟩) TAm))
  have k0 : Hid (Below w.heap.size w (w.alloc (.cells (Am.cells ⟨2, 1, 0, f⟩) TAm))) := Lib.hid ((Below.refl _ _).alloc (Nat.le_refl _) _)
  go_enter Tryz.func12, Tryz.ntmps12
  go_wp2_with (first | (rw [wpList_skip_eq]; rotate_left; · rfl) | refine wpList_load_row_g (by rfl) TAm _ (by rfl) w.heap.size (by rfl) TAm (Am.cells ⟨2, 1, 0, f⟩) (0, 0) _ r0.out Tryz.underlying27 rfl infoTAm ?_ | (go_at_call 10; (with_reducible refine (rAIs_v ⟨2, 1, 0, f⟩ true HV _).mono ?_); rintro e w1 ⟨rfl, hb1⟩; have r1 := Lib.hid (blk_below2 hb1 r0.out); have k1 := Lib.hid (below_two k0.out hb1); have q0 : w1.cell? ⟨w.heap.size, 0, none⟩ = some (.int .i64 2) := cell_of_row _ _ 0 _ _ (0, 0) r1.out; have q1 : w1.cell? ⟨w.heap.size, 1, none⟩ = some (.int .i64 1) := cell_of_row _ _ 1 _ _ (0, 0) r1.out; have q2 : w1.cell? ⟨w.heap.size, 2, none⟩ = some (.int .i64 0) := cell_of_row _ _ 2 _ _ (0, 0) r1.out) | refine wpList_load_part (by rfl) TF _ (by rfl) w.heap.size 3 (by rfl) TAm (Am.cells ⟨2, 1, 0, f⟩) f.cells (0, 0) _ r1.out (am_part ⟨2, 1, 0, f⟩) Tryz.underlying25 rfl infoTF ?_ | (go_at_call 24; (with_reducible refine (rFltText_any f _).mono ?_); rintro e w3 ⟨rfl, hb3⟩; have k3 := Lib.hid (below_two k1.out hb3); have m1 : w3.cell? ⟨w.heap.size, 1, none⟩ = some (.int .i64 1) := cell_of_row _ _ 1 _ _ (0, 0) (blk_below2 hb3 r1.out)))
  go_ret
  exact ⟨ret_str HR.out, k3.out⟩
set_option maxRecDepth 100000 in
set_option maxHeartbeats 1000000 in
theorem rAText_2b (n : Int) (h0 : 1 < n) (h1 : n ≤ 99) (f : Flt) (HV : Hid (amIs ⟨2, n, 0, f⟩ = true)) (w : World) :
    Calls Tryz.prog 12 #[.agg (Am.cells ⟨2, n, 0, f⟩)] w fun e w' => e = .returned (.string (B (Lib.itoa n ++ 42 :: countS f))) ∧ Below w.heap.size w w' := by
  have hil := textOf_len (f := f)
  have hin := Lib.itoa_length_le n (by omega) (by omega)
  have hn1 : (n == 1) = false := by rw [beq_eq_false_iff_ne]; omega
  have HR : Hid (B (Lib.itoa n) ++ ⟨#[42]⟩ ++ (⟨#[99, 111, 117, 110, 116, 40]⟩ ++ B (textOf f) ++ ⟨#[41]⟩) = B (Lib.itoa n ++ 42 :: countS f)) := Lib.hid (by rw [countS_B, show (⟨#[42]⟩ : ByteArray) = B [42] from rfl, B_append, B_append, List.append_assoc]; rfl)
  have r0 := Lib.hid (heap_alloc_new w (.cells (Am.cells ⟨2, n, 0, f⟩) TAm))
  have k0 : Hid (Below w.heap.size w (w.alloc (.cells (Am.cells ⟨2, n, 0, f⟩) TAm))) := Lib.hid ((Below.refl _ _).alloc (Nat.le_refl _) _)
  go_enter Tryz.func12, Tryz.ntmps12
  go_wp2_with (first | (rw [wpList_skip_eq]; rotate_left; · rfl) | refine wpList_load_row_g (by rfl) TAm _ (by rfl) w.heap.size (by rfl) TAm (Am.cells ⟨2, n, 0, f⟩) (0, 0) _ r0.out Tryz.underlying27 rfl infoTAm ?_ | (go_at_call 10; (with_reducible refine (rAIs_v ⟨2, n, 0, f⟩ true HV _).mono ?_); rintro e w1 ⟨rfl, hb1⟩; have r1 := Lib.hid (blk_below2 hb1 r0.out); have k1 := Lib.hid (below_two k0.out hb1); have q0 : w1.cell? ⟨w.heap.size, 0, none⟩ = some (.int .i64 2) := cell_of_row _ _ 0 _ _ (0, 0) r1.out; have q1 : w1.cell? ⟨w.heap.size, 1, none⟩ = some (.int .i64 n) := cell_of_row _ _ 1 _ _ (0, 0) r1.out; have q2 : w1.cell? ⟨w.heap.size, 2, none⟩ = some (.int .i64 0) := cell_of_row _ _ 2 _ _ (0, 0) r1.out) | refine wpList_load_part (by rfl) TF _ (by rfl) w.heap.size 3 (by rfl) TAm (Am.cells ⟨2, n, 0, f⟩) f.cells (0, 0) _ r1.out (am_part ⟨2, n, 0, f⟩) Tryz.underlying25 rfl infoTF ?_ | (go_at_call 24; (with_reducible refine (rFltText_any f _).mono ?_); rintro e w3 ⟨rfl, hb3⟩; have k3 := Lib.hid (below_two k1.out hb3); have m1 : w3.cell? ⟨w.heap.size, 1, none⟩ = some (.int .i64 n) := cell_of_row _ _ 1 _ _ (0, 0) (blk_below2 hb3 r1.out)) | (go_at_call 23; (with_reducible refine (rText_any n _ (by omega) (by omega)).mono ?_); rintro e wn ⟨rfl, hbn⟩))
  go_ret
  exact ⟨ret_str HR.out, below_two k3.out hbn⟩
set_option maxRecDepth 100000 in
set_option maxHeartbeats 1000000 in
theorem rAText_s1  (HV : Hid (amIs ⟨1, 0, 0, zeroF⟩ = true)) (w : World) :
    Calls Tryz.prog 12 #[.agg (Am.cells ⟨1, 0, 0, zeroF⟩)] w fun e w' => e = .returned (.string (B (wd simT 1))) ∧ Below w.heap.size w w' := by
  have r0 := Lib.hid (heap_alloc_new w (.cells (Am.cells ⟨1, 0, 0, zeroF⟩) TAm))
  have k0 : Hid (Below w.heap.size w (w.alloc (.cells (Am.cells ⟨1, 0, 0, zeroF⟩) TAm))) := Lib.hid ((Below.refl _ _).alloc (Nat.le_refl _) _)
  go_enter Tryz.func12, Tryz.ntmps12
  go_wp2_with (first | (rw [wpList_skip_eq]; rotate_left; · rfl) | refine wpList_load_row_g (by rfl) TAm _ (by rfl) w.heap.size (by rfl) TAm (Am.cells ⟨1, 0, 0, zeroF⟩) (0, 0) _ r0.out Tryz.underlying27 rfl infoTAm ?_ | (go_at_call 10; (with_reducible refine (rAIs_v ⟨1, 0, 0, zeroF⟩ true HV _).mono ?_); rintro e w1 ⟨rfl, hb1⟩; have r1 := Lib.hid (blk_below2 hb1 r0.out); have k1 := Lib.hid (below_two k0.out hb1); have q0 : w1.cell? ⟨w.heap.size, 0, none⟩ = some (.int .i64 1) := cell_of_row _ _ 0 _ _ (0, 0) r1.out; have q1 : w1.cell? ⟨w.heap.size, 1, none⟩ = some (.int .i64 0) := cell_of_row _ _ 1 _ _ (0, 0) r1.out; have q2 : w1.cell? ⟨w.heap.size, 2, none⟩ = some (.int .i64 0) := cell_of_row _ _ 2 _ _ (0, 0) r1.out))
  go_ret
  exact ⟨rfl, k1.out⟩
set_option maxRecDepth 100000 in
set_option maxHeartbeats 1000000 in
theorem rAText_s3  (HV : Hid (amIs ⟨3, 0, 0, zeroF⟩ = true)) (w : World) :
    Calls Tryz.prog 12 #[.agg (Am.cells ⟨3, 0, 0, zeroF⟩)] w fun e w' => e = .returned (.string (B (wd simT 3))) ∧ Below w.heap.size w w' := by
  have r0 := Lib.hid (heap_alloc_new w (.cells (Am.cells ⟨3, 0, 0, zeroF⟩) TAm))
  have k0 : Hid (Below w.heap.size w (w.alloc (.cells (Am.cells ⟨3, 0, 0, zeroF⟩) TAm))) := Lib.hid ((Below.refl _ _).alloc (Nat.le_refl _) _)
  go_enter Tryz.func12, Tryz.ntmps12
  go_wp2_with (first | (rw [wpList_skip_eq]; rotate_left; · rfl) | refine wpList_load_row_g (by rfl) TAm _ (by rfl) w.heap.size (by rfl) TAm (Am.cells ⟨3, 0, 0, zeroF⟩) (0, 0) _ r0.out Tryz.underlying27 rfl infoTAm ?_ | (go_at_call 10; (with_reducible refine (rAIs_v ⟨3, 0, 0, zeroF⟩ true HV _).mono ?_); rintro e w1 ⟨rfl, hb1⟩; have r1 := Lib.hid (blk_below2 hb1 r0.out); have k1 := Lib.hid (below_two k0.out hb1); have q0 : w1.cell? ⟨w.heap.size, 0, none⟩ = some (.int .i64 3) := cell_of_row _ _ 0 _ _ (0, 0) r1.out; have q1 : w1.cell? ⟨w.heap.size, 1, none⟩ = some (.int .i64 0) := cell_of_row _ _ 1 _ _ (0, 0) r1.out; have q2 : w1.cell? ⟨w.heap.size, 2, none⟩ = some (.int .i64 0) := cell_of_row _ _ 2 _ _ (0, 0) r1.out))
  go_ret
  exact ⟨rfl, k1.out⟩
set_option maxRecDepth 100000 in
set_option maxHeartbeats 1000000 in
theorem rAText_s5  (HV : Hid (amIs ⟨5, 0, 0, zeroF⟩ = true)) (w : World) :
    Calls Tryz.prog 12 #[.agg (Am.cells ⟨5, 0, 0, zeroF⟩)] w fun e w' => e = .returned (.string (B (wd simT 5))) ∧ Below w.heap.size w w' := by
  have r0 := Lib.hid (heap_alloc_new w (.cells (Am.cells ⟨5, 0, 0, zeroF⟩) TAm))
  have k0 : Hid (Below w.heap.size w (w.alloc (.cells (Am.cells ⟨5, 0, 0, zeroF⟩) TAm))) := Lib.hid ((Below.refl _ _).alloc (Nat.le_refl _) _)
  go_enter Tryz.func12, Tryz.ntmps12
  go_wp2_with (first | (rw [wpList_skip_eq]; rotate_left; · rfl) | refine wpList_load_row_g (by rfl) TAm _ (by rfl) w.heap.size (by rfl) TAm (Am.cells ⟨5, 0, 0, zeroF⟩) (0, 0) _ r0.out Tryz.underlying27 rfl infoTAm ?_ | (go_at_call 10; (with_reducible refine (rAIs_v ⟨5, 0, 0, zeroF⟩ true HV _).mono ?_); rintro e w1 ⟨rfl, hb1⟩; have r1 := Lib.hid (blk_below2 hb1 r0.out); have k1 := Lib.hid (below_two k0.out hb1); have q0 : w1.cell? ⟨w.heap.size, 0, none⟩ = some (.int .i64 5) := cell_of_row _ _ 0 _ _ (0, 0) r1.out; have q1 : w1.cell? ⟨w.heap.size, 1, none⟩ = some (.int .i64 0) := cell_of_row _ _ 1 _ _ (0, 0) r1.out; have q2 : w1.cell? ⟨w.heap.size, 2, none⟩ = some (.int .i64 0) := cell_of_row _ _ 2 _ _ (0, 0) r1.out))
  go_ret
  exact ⟨rfl, k1.out⟩
set_option maxRecDepth 100000 in
set_option maxHeartbeats 1000000 in
theorem rAText_s6  (HV : Hid (amIs ⟨6, 0, 0, zeroF⟩ = true)) (w : World) :
    Calls Tryz.prog 12 #[.agg (Am.cells ⟨6, 0, 0, zeroF⟩)] w fun e w' => e = .returned (.string (B (wd simT 6))) ∧ Below w.heap.size w w' := by
  have r0 := Lib.hid (heap_alloc_new w (.cells (Am.cells ⟨6, 0, 0, zeroF⟩) TAm))
  have k0 : Hid (Below w.heap.size w (w.alloc (.cells (Am.cells ⟨6, 0, 0, zeroF⟩) TAm))) := Lib.hid ((Below.refl _ _).alloc (Nat.le_refl _) _)
  go_enter Tryz.func12, Tryz.ntmps12
  go_wp2_with (first | (rw [wpList_skip_eq]; rotate_left; · rfl) | refine wpList_load_row_g (by rfl) TAm _ (by rfl) w.heap.size (by rfl) TAm (Am.cells ⟨6, 0, 0, zeroF⟩) (0, 0) _ r0.out Tryz.underlying27 rfl infoTAm ?_ | (go_at_call 10; (with_reducible refine (rAIs_v ⟨6, 0, 0, zeroF⟩ true HV _).mono ?_); rintro e w1 ⟨rfl, hb1⟩; have r1 := Lib.hid (blk_below2 hb1 r0.out); have k1 := Lib.hid (below_two k0.out hb1); have q0 : w1.cell? ⟨w.heap.size, 0, none⟩ = some (.int .i64 6) := cell_of_row _ _ 0 _ _ (0, 0) r1.out; have q1 : w1.cell? ⟨w.heap.size, 1, none⟩ = some (.int .i64 0) := cell_of_row _ _ 1 _ _ (0, 0) r1.out; have q2 : w1.cell? ⟨w.heap.size, 2, none⟩ = some (.int .i64 0) := cell_of_row _ _ 2 _ _ (0, 0) r1.out))
  go_ret
  exact ⟨rfl, k1.out⟩
set_option maxRecDepth 100000 in
set_option maxHeartbeats 1000000 in
theorem rAText_s7  (HV : Hid (amIs ⟨7, 0, 0, zeroF⟩ = true)) (w : World) :
    Calls Tryz.prog 12 #[.agg (Am.cells ⟨7, 0, 0, zeroF⟩)] w fun e w' => e = .returned (.string (B (wd simT 7))) ∧ Below w.heap.size w w' := by
  have r0 := Lib.hid (heap_alloc_new w (.cells (Am.cells ⟨7, 0, 0, zeroF⟩) TAm))
  have k0 : Hid (Below w.heap.size w (w.alloc (.cells (Am.cells ⟨7, 0, 0, zeroF⟩) TAm))) := Lib.hid ((Below.refl _ _).alloc (Nat.le_refl _) _)
  go_enter Tryz.func12, Tryz.ntmps12
  go_wp2_with (first | (rw [wpList_skip_eq]; rotate_left; · rfl) | refine wpList_load_row_g (by rfl) TAm _ (by rfl) w.heap.size (by rfl) TAm (Am.cells ⟨7, 0, 0, zeroF⟩) (0, 0) _ r0.out Tryz.underlying27 rfl infoTAm ?_ | (go_at_call 10; (with_reducible refine (rAIs_v ⟨7, 0, 0, zeroF⟩ true HV _).mono ?_); rintro e w1 ⟨rfl, hb1⟩; have r1 := Lib.hid (blk_below2 hb1 r0.out); have k1 := Lib.hid (below_two k0.out hb1); have q0 : w1.cell? ⟨w.heap.size, 0, none⟩ = some (.int .i64 7) := cell_of_row _ _ 0 _ _ (0, 0) r1.out; have q1 : w1.cell? ⟨w.heap.size, 1, none⟩ = some (.int .i64 0) := cell_of_row _ _ 1 _ _ (0, 0) r1.out; have q2 : w1.cell? ⟨w.heap.size, 2, none⟩ = some (.int .i64 0) := cell_of_row _ _ 2 _ _ (0, 0) r1.out))
  go_ret
  exact ⟨rfl, k1.out⟩
set_option maxRecDepth 100000 in
set_option maxHeartbeats 1000000 in
theorem rAText_no (a : Am) (HV : Hid (amIs a = false)) (w : World) :
    Calls Tryz.prog 12 #[.agg a.cells] w fun e w' => e = .returned (.string ⟨#[]⟩) ∧ Below w.heap.size w w' := by
  have r0 := Lib.hid (heap_alloc_new w (.cells a.cells TAm))
  go_enter Tryz.func12, Tryz.ntmps12
  go_wp2_with (first | refine wpList_load_row_g (by rfl) TAm _ (by rfl) w.heap.size (by rfl) TAm a.cells (0, 0) _ r0.out Tryz.underlying27 rfl infoTAm ?_ | (go_at_call 10; (with_reducible refine (rAIs_v a false HV _).mono ?_); rintro e w1 ⟨rfl, hb1⟩))
  go_ret
  exact ⟨rfl, below_two ((Below.refl _ _).alloc (Nat.le_refl _) _) hb1⟩
theorem rAText_v (a : Am) (w : World) :
    Calls Tryz.prog 12 #[.agg a.cells] w fun e w' => e = .returned (.string (B (amText a))) ∧ Below w.heap.size w w' := by
  cases hv : amIs a with
  | false => exact (rAText_no a (Lib.hid hv) w).mono fun e w' ⟨he, hb⟩ => ⟨by rw [he, amText_no hv]; rfl, hb⟩
  | true =>
    have ht : amText a = amBody a := if_pos hv
    rw [ht]
    rcases amIs_cases hv with ⟨n, hn, rfl⟩ | ⟨n, h1, h2, f, hf, rfl⟩ | ⟨c, hc, rfl⟩ | ⟨k, hk, rfl⟩
    · exact rAText_0 (n : Int) (by omega) (by omega) (Lib.hid hv) w
    · by_cases hn : n = 1
      · subst hn; exact rAText_2a f (Lib.hid hv) w
      · rw [show amBody ⟨2, (n : Int), 0, f⟩ = Lib.itoa n ++ 42 :: countS f by rw [amBody_two, if_pos (by omega)]]
        exact rAText_2b (n : Int) (by omega) (by omega) f (Lib.hid hv) w
    · exact rAText_4 c (Lib.hid hv) w
    · rcases hk with rfl | rfl | rfl | rfl | rfl
      · exact rAText_s1 (Lib.hid hv) w
      · exact rAText_s3 (Lib.hid hv) w
      · exact rAText_s5 (Lib.hid hv) w
      · exact rAText_s6 (Lib.hid hv) w
      · exact rAText_s7 (Lib.hid hv) w
theorem rAText_is (a : Am) (T : ByteArray) (hT : Hid (B (amText a) = T)) (w : World) :
    Calls Tryz.prog 12 #[.agg a.cells] w fun e w' => e = .returned (.string T) ∧ Below w.heap.size w w' :=
  (rAText_v a w).mono fun e w' h => ⟨by rw [h.1, hT.out], h.2⟩
end Go.Proofs.YtcbegdjmopgbbaaGreatDoor
