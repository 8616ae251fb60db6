/- AmountUnused: a field that a kind does not use makes an amount invalid. Conditions: LaidM. -/
import Derived.Test.YtcbegdjmopgbbaaGreatDoorMAlive
namespace Go.Proofs.YtcbegdjmopgbbaaGreatDoor
set_option linter.all false
open Go.ChangeShapes Go.WideShapes Go.RowKit
theorem aun_long (a : Am) (n : Int) (hs : (100 : Int) < a.f.sub.size) (w : World) (hl : LaidM w) :
    Calls Tryz.prog 7 #[.agg a.cells, .int .u8 n] w fun e w' => e = .returned (.bool true) ∧ Below w.heap.size w w' := by
  have r0t := Lib.hid (heap_alloc_new w (.cells a.cells TAm))
  have q10 : (w.alloc (.cells a.cells TAm)).cell? ⟨w.heap.size, 10, none⟩ = some (.string a.f.sub) := cell_of_row _ _ 10 _ _ (0, 0) r0t.out
  have hlA := hl.alloc (.cells a.cells TAm)
  have k0 : Hid (Below w.heap.size w (w.alloc (.cells a.cells TAm))) := Lib.hid ((Below.refl _ _).alloc (Nat.le_refl _) _)
  go_enter Tryz.func7, Tryz.ntmps7
  go_wp2_with (first | (rw [wpList_skip_eq]; rotate_left; · rfl) | (go_at_call 8; (with_reducible refine (aliveM_any _ hlA).mono ?_); rintro e w1 ⟨rfl, hb1⟩))
  go_ret
  exact ⟨rfl, below_two k0.out hb1⟩
set_option maxRecDepth 100000 in
set_option maxHeartbeats 1000000 in
theorem aun_no (a : Am) (n : Int) (hs : ¬ (100 : Int) < a.f.sub.size) (HI : Hid (amIs a = false)) (w : World) (hl : LaidM w) :
    Calls Tryz.prog 7 #[.agg a.cells, .int .u8 n] w fun e w' => e = .returned (.bool true) ∧ Below w.heap.size w w' := by
  have r0t := Lib.hid (heap_alloc_new w (.cells a.cells TAm))
  have q10 : (w.alloc (.cells a.cells TAm)).cell? ⟨w.heap.size, 10, none⟩ = some (.string a.f.sub) := cell_of_row _ _ 10 _ _ (0, 0) r0t.out
  have hlA := hl.alloc (.cells a.cells TAm)
  have k0 : Hid (Below w.heap.size w (w.alloc (.cells a.cells TAm))) := Lib.hid ((Below.refl _ _).alloc (Nat.le_refl _) _)
  go_enter Tryz.func7, Tryz.ntmps7
  go_wp2_with (first
    | (rw [wpList_skip_eq]; rotate_left; · rfl)
    | (go_at_call 8; (with_reducible refine (aliveM_any _ hl1).mono ?_); rintro e w2 ⟨rfl, hb2⟩; have r2t := Lib.hid (blk_below2 hb2 r1t.out); have hl2 := hl1.below hb2; have k2 := Lib.hid (below_two k1.out hb2))
    | (go_at_call 9; (with_reducible refine (aIs_v a false HI _ hlA).mono ?_); rintro e w1 ⟨rfl, hb1⟩; have r1t := Lib.hid (blk_below2 hb1 r0t.out); have hl1 := hlA.below hb1; have k1 := Lib.hid (below_two k0.out hb1))
    | refine wpList_load_row_g (by rfl) TAm _ (by rfl) w.heap.size (by rfl) TAm a.cells (0, 0) _ r0t.out Tryz.underlying27 rfl infoTAm ?_)
  go_ret
  exact ⟨ret_bool (by simp), k2.out⟩
set_option maxRecDepth 100000 in
set_option maxHeartbeats 1000000 in
theorem aun_0 (a : Am) (n : Int) (h0 : 0 ≤ n) (h255 : n ≤ 255) (hs : ¬ (100 : Int) < a.f.sub.size) (HI : Hid (amIs a = true)) (hk : a.k = 0) (HY : Hid (amIs ⟨a.k, a.n, 1 + n % 2, a.f⟩ = false)) (w : World) (hl : LaidM w) :
    Calls Tryz.prog 7 #[.agg a.cells, .int .u8 n] w fun e w' => e = .returned (.bool true) ∧ Below w.heap.size w w' := by
  have HT : Hid (B (amText ⟨a.k, a.n, 1 + n % 2, a.f⟩) = ⟨#[]⟩) := Lib.hid (by rw [amText_no HY.out]; rfl)
  have e0 : (a.k == 0) = true := by simpa using hk
  clear hk
  have r0t := Lib.hid (heap_alloc_new w (.cells a.cells TAm))
  have q10 : (w.alloc (.cells a.cells TAm)).cell? ⟨w.heap.size, 10, none⟩ = some (.string a.f.sub) := cell_of_row _ _ 10 _ _ (0, 0) r0t.out
  have hlA := hl.alloc (.cells a.cells TAm)
  have k0 : Hid (Below w.heap.size w (w.alloc (.cells a.cells TAm))) := Lib.hid ((Below.refl _ _).alloc (Nat.le_refl _) _)
  go_enter Tryz.func7, Tryz.ntmps7
  go_wp2_with (first
    | (rw [wpList_skip_eq]; rotate_left; · rfl)
    | (go_at_call 8; (with_reducible refine (aliveM_any _ hl5).mono ?_); rintro e w6 ⟨rfl, hb6⟩; have r6b := Lib.hid (blk_below2 hb6 r5b.out); have hl6 := hl5.below hb6; have k6 := Lib.hid (below_two k5.out hb6))
    | (go_at_call 11; (with_reducible refine (aText_is ⟨a.k, a.n, 1 + n % 2, a.f⟩ ⟨#[]⟩ HT _ hl4).mono ?_); rintro e w5 ⟨rfl, hb5⟩; have r5b := Lib.hid (blk_below2 hb5 r4b.out); have hl5 := hl4.below hb5; have k5 := Lib.hid (below_two k4.out hb5))
    | refine wpList_load_row_g (by rfl) TAm _ (by rfl) w1.heap.size (by rfl) TAm (Am.cells ⟨a.k, a.n, 1 + n % 2, a.f⟩) (0, 0) _ r4b.out Tryz.underlying27 rfl infoTAm ?_
    | (go_at_call 9; (with_reducible refine (aIs_v ⟨a.k, a.n, 1 + n % 2, a.f⟩ false HY _ hl3).mono ?_); rintro e w4 ⟨rfl, hb4⟩; have r4b := Lib.hid (blk_below2 hb4 r3b.out); have hl4 := hl3.below hb4; have k4 := Lib.hid (below_two k3.out hb4))
    | refine wpList_load_row_g (by rfl) TAm _ (by rfl) w1.heap.size (by rfl) TAm (Am.cells ⟨a.k, a.n, 1 + n % 2, a.f⟩) (0, 0) _ r3b.out Tryz.underlying27 rfl infoTAm ?_
    | (refine wpList_store_int (by rfl) 3 _ _ (by rfl) w1.heap.size 2 TAm a.cells (Am.cells ⟨a.k, a.n, 1 + n % 2, a.f⟩) .i64 (1 + n % 2) (by rfl) (by rfl) r2b.out (by simp [Am.cells]) (by simp [Am.cells]) infoInt1 ?_; have r3b := Lib.hid (row_set (cs := (Am.cells ⟨a.k, a.n, 1 + n % 2, a.f⟩)) r2b.out); have k3 := Lib.hid (below_setRow k2.out (Nat.le_of_lt hg.out) (Am.cells ⟨a.k, a.n, 1 + n % 2, a.f⟩)); have hl3 := hl.below k3.out; generalize World.setRow w2 w1.heap.size (Am.cells ⟨a.k, a.n, 1 + n % 2, a.f⟩) = w3 at *)
    | (refine wpList_store_row (by rfl) TAm _ _ (by rfl) w1.heap.size a.cells (by rfl) (by rfl) TAm zeroA.cells (heap_alloc_new w1 _) infoTAm rfl (acells_one _) ?_; change wpList _ _ _ _ _ (stored w1 TAm zeroA.cells a.cells); have r2b := Lib.hid (stored_new w1 TAm zeroA.cells a.cells); have r2t := Lib.hid (stored_old (t := TAm) (o := zeroA.cells) (cs := a.cells) r1t.out); have hl2 := hl1.below (stored_below w1 TAm zeroA.cells a.cells); have k2 := Lib.hid (k1.out.trans ((stored_below w1 TAm zeroA.cells a.cells).mono k1.out.size)); have p1 : World.cell? (stored w1 TAm zeroA.cells a.cells) ⟨w.heap.size, 0, none⟩ = some (.int .i64 a.k) := cell_of_row _ _ 0 _ _ (0, 0) r2t.out; have hg := Lib.hid (blk_lt r1t.out); generalize stored w1 TAm zeroA.cells a.cells = w2 at *)
    | refine wpList_load_row_g (by rfl) TAm _ (by rfl) w.heap.size (by rfl) TAm a.cells (0, 0) _ r1t.out Tryz.underlying27 rfl infoTAm ?_
    | (go_at_call 9; (with_reducible refine (aIs_v a true HI _ hlA).mono ?_); rintro e w1 ⟨rfl, hb1⟩; have r1t := Lib.hid (blk_below2 hb1 r0t.out); have hl1 := hlA.below hb1; have k1 := Lib.hid (below_two k0.out hb1); have p0 : w1.cell? ⟨w.heap.size, 0, none⟩ = some (.int .i64 a.k) := cell_of_row _ _ 0 _ _ (0, 0) r1t.out)
    | refine wpList_load_row_g (by rfl) TAm _ (by rfl) w.heap.size (by rfl) TAm a.cells (0, 0) _ r0t.out Tryz.underlying27 rfl infoTAm ?_)
  go_ret
  exact ⟨ret_bool (by simp), k6.out⟩
set_option maxRecDepth 100000 in
set_option maxHeartbeats 1000000 in
theorem aun_2 (a : Am) (n : Int) (h0 : 0 ≤ n) (h255 : n ≤ 255) (hs : ¬ (100 : Int) < a.f.sub.size) (HI : Hid (amIs a = true)) (hk : a.k = 2) (HY : Hid (amIs ⟨a.k, a.n, 2, a.f⟩ = false)) (w : World) (hl : LaidM w) :
    Calls Tryz.prog 7 #[.agg a.cells, .int .u8 n] w fun e w' => e = .returned (.bool true) ∧ Below w.heap.size w w' := by
  have HT : Hid (B (amText ⟨a.k, a.n, 2, a.f⟩) = ⟨#[]⟩) := Lib.hid (by rw [amText_no HY.out]; rfl)
  have e0 : (a.k == 0) = false := by rw [hk]; rfl
  have e2 : (a.k == 2) = true := by simpa using hk
  clear hk
  have r0t := Lib.hid (heap_alloc_new w (.cells a.cells TAm))
  have q10 : (w.alloc (.cells a.cells TAm)).cell? ⟨w.heap.size, 10, none⟩ = some (.string a.f.sub) := cell_of_row _ _ 10 _ _ (0, 0) r0t.out
  have hlA := hl.alloc (.cells a.cells TAm)
  have k0 : Hid (Below w.heap.size w (w.alloc (.cells a.cells TAm))) := Lib.hid ((Below.refl _ _).alloc (Nat.le_refl _) _)
  go_enter Tryz.func7, Tryz.ntmps7
  go_wp2_with (first
    | (rw [wpList_skip_eq]; rotate_left; · rfl)
    | (go_at_call 8; (with_reducible refine (aliveM_any _ hl5).mono ?_); rintro e w6 ⟨rfl, hb6⟩; have r6b := Lib.hid (blk_below2 hb6 r5b.out); have hl6 := hl5.below hb6; have k6 := Lib.hid (below_two k5.out hb6))
    | (go_at_call 11; (with_reducible refine (aText_is ⟨a.k, a.n, 2, a.f⟩ ⟨#[]⟩ HT _ hl4).mono ?_); rintro e w5 ⟨rfl, hb5⟩; have r5b := Lib.hid (blk_below2 hb5 r4b.out); have hl5 := hl4.below hb5; have k5 := Lib.hid (below_two k4.out hb5))
    | refine wpList_load_row_g (by rfl) TAm _ (by rfl) w1.heap.size (by rfl) TAm (Am.cells ⟨a.k, a.n, 2, a.f⟩) (0, 0) _ r4b.out Tryz.underlying27 rfl infoTAm ?_
    | (go_at_call 9; (with_reducible refine (aIs_v ⟨a.k, a.n, 2, a.f⟩ false HY _ hl3).mono ?_); rintro e w4 ⟨rfl, hb4⟩; have r4b := Lib.hid (blk_below2 hb4 r3b.out); have hl4 := hl3.below hb4; have k4 := Lib.hid (below_two k3.out hb4))
    | refine wpList_load_row_g (by rfl) TAm _ (by rfl) w1.heap.size (by rfl) TAm (Am.cells ⟨a.k, a.n, 2, a.f⟩) (0, 0) _ r3b.out Tryz.underlying27 rfl infoTAm ?_
    | (refine wpList_store_int (by rfl) 3 _ _ (by rfl) w1.heap.size 2 TAm a.cells (Am.cells ⟨a.k, a.n, 2, a.f⟩) .i64 2 (by rfl) (by rfl) r2b.out (by simp [Am.cells]) (by simp [Am.cells]) infoInt1 ?_; have r3b := Lib.hid (row_set (cs := (Am.cells ⟨a.k, a.n, 2, a.f⟩)) r2b.out); have k3 := Lib.hid (below_setRow k2.out (Nat.le_of_lt hg.out) (Am.cells ⟨a.k, a.n, 2, a.f⟩)); have hl3 := hl.below k3.out; generalize World.setRow w2 w1.heap.size (Am.cells ⟨a.k, a.n, 2, a.f⟩) = w3 at *)
    | (refine wpList_store_row (by rfl) TAm _ _ (by rfl) w1.heap.size a.cells (by rfl) (by rfl) TAm zeroA.cells (heap_alloc_new w1 _) infoTAm rfl (acells_one _) ?_; change wpList _ _ _ _ _ (stored w1 TAm zeroA.cells a.cells); have r2b := Lib.hid (stored_new w1 TAm zeroA.cells a.cells); have r2t := Lib.hid (stored_old (t := TAm) (o := zeroA.cells) (cs := a.cells) r1t.out); have hl2 := hl1.below (stored_below w1 TAm zeroA.cells a.cells); have k2 := Lib.hid (k1.out.trans ((stored_below w1 TAm zeroA.cells a.cells).mono k1.out.size)); have p1 : World.cell? (stored w1 TAm zeroA.cells a.cells) ⟨w.heap.size, 0, none⟩ = some (.int .i64 a.k) := cell_of_row _ _ 0 _ _ (0, 0) r2t.out; have hg := Lib.hid (blk_lt r1t.out); generalize stored w1 TAm zeroA.cells a.cells = w2 at *)
    | refine wpList_load_row_g (by rfl) TAm _ (by rfl) w.heap.size (by rfl) TAm a.cells (0, 0) _ r1t.out Tryz.underlying27 rfl infoTAm ?_
    | (go_at_call 9; (with_reducible refine (aIs_v a true HI _ hlA).mono ?_); rintro e w1 ⟨rfl, hb1⟩; have r1t := Lib.hid (blk_below2 hb1 r0t.out); have hl1 := hlA.below hb1; have k1 := Lib.hid (below_two k0.out hb1); have p0 : w1.cell? ⟨w.heap.size, 0, none⟩ = some (.int .i64 a.k) := cell_of_row _ _ 0 _ _ (0, 0) r1t.out)
    | refine wpList_load_row_g (by rfl) TAm _ (by rfl) w.heap.size (by rfl) TAm a.cells (0, 0) _ r0t.out Tryz.underlying27 rfl infoTAm ?_)
  go_ret
  exact ⟨ret_bool (by simp), k6.out⟩
set_option maxRecDepth 100000 in
set_option maxHeartbeats 1000000 in
theorem aun_4 (a : Am) (n : Int) (h0 : 0 ≤ n) (h255 : n ≤ 255) (hs : ¬ (100 : Int) < a.f.sub.size) (HI : Hid (amIs a = true)) (hk : a.k = 4) (HY : Hid (amIs ⟨a.k, 1 + n, a.c, a.f⟩ = false)) (w : World) (hl : LaidM w) :
    Calls Tryz.prog 7 #[.agg a.cells, .int .u8 n] w fun e w' => e = .returned (.bool true) ∧ Below w.heap.size w w' := by
  have HT : Hid (B (amText ⟨a.k, 1 + n, a.c, a.f⟩) = ⟨#[]⟩) := Lib.hid (by rw [amText_no HY.out]; rfl)
  have e0 : (a.k == 0) = false := by rw [hk]; rfl
  have e2 : (a.k == 2) = false := by rw [hk]; rfl
  have e4 : (a.k == 4) = true := by simpa using hk
  clear hk
  have r0t := Lib.hid (heap_alloc_new w (.cells a.cells TAm))
  have q10 : (w.alloc (.cells a.cells TAm)).cell? ⟨w.heap.size, 10, none⟩ = some (.string a.f.sub) := cell_of_row _ _ 10 _ _ (0, 0) r0t.out
  have hlA := hl.alloc (.cells a.cells TAm)
  have k0 : Hid (Below w.heap.size w (w.alloc (.cells a.cells TAm))) := Lib.hid ((Below.refl _ _).alloc (Nat.le_refl _) _)
  go_enter Tryz.func7, Tryz.ntmps7
  go_wp2_with (first
    | (rw [wpList_skip_eq]; rotate_left; · rfl)
    | (go_at_call 8; (with_reducible refine (aliveM_any _ hl5).mono ?_); rintro e w6 ⟨rfl, hb6⟩; have r6b := Lib.hid (blk_below2 hb6 r5b.out); have hl6 := hl5.below hb6; have k6 := Lib.hid (below_two k5.out hb6))
    | (go_at_call 11; (with_reducible refine (aText_is ⟨a.k, 1 + n, a.c, a.f⟩ ⟨#[]⟩ HT _ hl4).mono ?_); rintro e w5 ⟨rfl, hb5⟩; have r5b := Lib.hid (blk_below2 hb5 r4b.out); have hl5 := hl4.below hb5; have k5 := Lib.hid (below_two k4.out hb5))
    | refine wpList_load_row_g (by rfl) TAm _ (by rfl) w1.heap.size (by rfl) TAm (Am.cells ⟨a.k, 1 + n, a.c, a.f⟩) (0, 0) _ r4b.out Tryz.underlying27 rfl infoTAm ?_
    | (go_at_call 9; (with_reducible refine (aIs_v ⟨a.k, 1 + n, a.c, a.f⟩ false HY _ hl3).mono ?_); rintro e w4 ⟨rfl, hb4⟩; have r4b := Lib.hid (blk_below2 hb4 r3b.out); have hl4 := hl3.below hb4; have k4 := Lib.hid (below_two k3.out hb4))
    | refine wpList_load_row_g (by rfl) TAm _ (by rfl) w1.heap.size (by rfl) TAm (Am.cells ⟨a.k, 1 + n, a.c, a.f⟩) (0, 0) _ r3b.out Tryz.underlying27 rfl infoTAm ?_
    | (refine wpList_store_int (by rfl) 3 _ _ (by rfl) w1.heap.size 1 TAm a.cells (Am.cells ⟨a.k, 1 + n, a.c, a.f⟩) .i64 (1 + n) (by rfl) (by rfl) r2b.out (by simp [Am.cells]) (by simp [Am.cells]) infoInt1 ?_; have r3b := Lib.hid (row_set (cs := (Am.cells ⟨a.k, 1 + n, a.c, a.f⟩)) r2b.out); have k3 := Lib.hid (below_setRow k2.out (Nat.le_of_lt hg.out) (Am.cells ⟨a.k, 1 + n, a.c, a.f⟩)); have hl3 := hl.below k3.out; generalize World.setRow w2 w1.heap.size (Am.cells ⟨a.k, 1 + n, a.c, a.f⟩) = w3 at *)
    | (refine wpList_store_row (by rfl) TAm _ _ (by rfl) w1.heap.size a.cells (by rfl) (by rfl) TAm zeroA.cells (heap_alloc_new w1 _) infoTAm rfl (acells_one _) ?_; change wpList _ _ _ _ _ (stored w1 TAm zeroA.cells a.cells); have r2b := Lib.hid (stored_new w1 TAm zeroA.cells a.cells); have r2t := Lib.hid (stored_old (t := TAm) (o := zeroA.cells) (cs := a.cells) r1t.out); have hl2 := hl1.below (stored_below w1 TAm zeroA.cells a.cells); have k2 := Lib.hid (k1.out.trans ((stored_below w1 TAm zeroA.cells a.cells).mono k1.out.size)); have p1 : World.cell? (stored w1 TAm zeroA.cells a.cells) ⟨w.heap.size, 0, none⟩ = some (.int .i64 a.k) := cell_of_row _ _ 0 _ _ (0, 0) r2t.out; have hg := Lib.hid (blk_lt r1t.out); generalize stored w1 TAm zeroA.cells a.cells = w2 at *)
    | refine wpList_load_row_g (by rfl) TAm _ (by rfl) w.heap.size (by rfl) TAm a.cells (0, 0) _ r1t.out Tryz.underlying27 rfl infoTAm ?_
    | (go_at_call 9; (with_reducible refine (aIs_v a true HI _ hlA).mono ?_); rintro e w1 ⟨rfl, hb1⟩; have r1t := Lib.hid (blk_below2 hb1 r0t.out); have hl1 := hlA.below hb1; have k1 := Lib.hid (below_two k0.out hb1); have p0 : w1.cell? ⟨w.heap.size, 0, none⟩ = some (.int .i64 a.k) := cell_of_row _ _ 0 _ _ (0, 0) r1t.out)
    | refine wpList_load_row_g (by rfl) TAm _ (by rfl) w.heap.size (by rfl) TAm a.cells (0, 0) _ r0t.out Tryz.underlying27 rfl infoTAm ?_)
  go_ret
  exact ⟨ret_bool (by simp), k6.out⟩
set_option maxRecDepth 100000 in
set_option maxHeartbeats 1000000 in
theorem aun_o (a : Am) (n : Int) (h0 : 0 ≤ n) (h255 : n ≤ 255) (hs : ¬ (100 : Int) < a.f.sub.size) (HI : Hid (amIs a = true)) (hk : a.k ≠ 0 ∧ a.k ≠ 2 ∧ a.k ≠ 4) (HY : Hid (amIs ⟨a.k, 1 + n, a.c, a.f⟩ = false)) (w : World) (hl : LaidM w) :
    Calls Tryz.prog 7 #[.agg a.cells, .int .u8 n] w fun e w' => e = .returned (.bool true) ∧ Below w.heap.size w w' := by
  have HT : Hid (B (amText ⟨a.k, 1 + n, a.c, a.f⟩) = ⟨#[]⟩) := Lib.hid (by rw [amText_no HY.out]; rfl)
  have e0 : (a.k == 0) = false := by simpa using hk.1
  have e2 : (a.k == 2) = false := by simpa using hk.2.1
  have e4 : (a.k == 4) = false := by simpa using hk.2.2
  clear hk
  have r0t := Lib.hid (heap_alloc_new w (.cells a.cells TAm))
  have q10 : (w.alloc (.cells a.cells TAm)).cell? ⟨w.heap.size, 10, none⟩ = some (.string a.f.sub) := cell_of_row _ _ 10 _ _ (0, 0) r0t.out
  have hlA := hl.alloc (.cells a.cells TAm)
  have k0 : Hid (Below w.heap.size w (w.alloc (.cells a.cells TAm))) := Lib.hid ((Below.refl _ _).alloc (Nat.le_refl _) _)
  go_enter Tryz.func7, Tryz.ntmps7
  go_wp2_with (first
    | (rw [wpList_skip_eq]; rotate_left; · rfl)
    | (go_at_call 8; (with_reducible refine (aliveM_any _ hl5).mono ?_); rintro e w6 ⟨rfl, hb6⟩; have r6b := Lib.hid (blk_below2 hb6 r5b.out); have hl6 := hl5.below hb6; have k6 := Lib.hid (below_two k5.out hb6))
    | (go_at_call 11; (with_reducible refine (aText_is ⟨a.k, 1 + n, a.c, a.f⟩ ⟨#[]⟩ HT _ hl4).mono ?_); rintro e w5 ⟨rfl, hb5⟩; have r5b := Lib.hid (blk_below2 hb5 r4b.out); have hl5 := hl4.below hb5; have k5 := Lib.hid (below_two k4.out hb5))
    | refine wpList_load_row_g (by rfl) TAm _ (by rfl) w1.heap.size (by rfl) TAm (Am.cells ⟨a.k, 1 + n, a.c, a.f⟩) (0, 0) _ r4b.out Tryz.underlying27 rfl infoTAm ?_
    | (go_at_call 9; (with_reducible refine (aIs_v ⟨a.k, 1 + n, a.c, a.f⟩ false HY _ hl3).mono ?_); rintro e w4 ⟨rfl, hb4⟩; have r4b := Lib.hid (blk_below2 hb4 r3b.out); have hl4 := hl3.below hb4; have k4 := Lib.hid (below_two k3.out hb4))
    | refine wpList_load_row_g (by rfl) TAm _ (by rfl) w1.heap.size (by rfl) TAm (Am.cells ⟨a.k, 1 + n, a.c, a.f⟩) (0, 0) _ r3b.out Tryz.underlying27 rfl infoTAm ?_
    | (refine wpList_store_int (by rfl) 3 _ _ (by rfl) w1.heap.size 1 TAm a.cells (Am.cells ⟨a.k, 1 + n, a.c, a.f⟩) .i64 (1 + n) (by rfl) (by rfl) r2b.out (by simp [Am.cells]) (by simp [Am.cells]) infoInt1 ?_; have r3b := Lib.hid (row_set (cs := (Am.cells ⟨a.k, 1 + n, a.c, a.f⟩)) r2b.out); have k3 := Lib.hid (below_setRow k2.out (Nat.le_of_lt hg.out) (Am.cells ⟨a.k, 1 + n, a.c, a.f⟩)); have hl3 := hl.below k3.out; generalize World.setRow w2 w1.heap.size (Am.cells ⟨a.k, 1 + n, a.c, a.f⟩) = w3 at *)
    | (refine wpList_store_row (by rfl) TAm _ _ (by rfl) w1.heap.size a.cells (by rfl) (by rfl) TAm zeroA.cells (heap_alloc_new w1 _) infoTAm rfl (acells_one _) ?_; change wpList _ _ _ _ _ (stored w1 TAm zeroA.cells a.cells); have r2b := Lib.hid (stored_new w1 TAm zeroA.cells a.cells); have r2t := Lib.hid (stored_old (t := TAm) (o := zeroA.cells) (cs := a.cells) r1t.out); have hl2 := hl1.below (stored_below w1 TAm zeroA.cells a.cells); have k2 := Lib.hid (k1.out.trans ((stored_below w1 TAm zeroA.cells a.cells).mono k1.out.size)); have p1 : World.cell? (stored w1 TAm zeroA.cells a.cells) ⟨w.heap.size, 0, none⟩ = some (.int .i64 a.k) := cell_of_row _ _ 0 _ _ (0, 0) r2t.out; have hg := Lib.hid (blk_lt r1t.out); generalize stored w1 TAm zeroA.cells a.cells = w2 at *)
    | refine wpList_load_row_g (by rfl) TAm _ (by rfl) w.heap.size (by rfl) TAm a.cells (0, 0) _ r1t.out Tryz.underlying27 rfl infoTAm ?_
    | (go_at_call 9; (with_reducible refine (aIs_v a true HI _ hlA).mono ?_); rintro e w1 ⟨rfl, hb1⟩; have r1t := Lib.hid (blk_below2 hb1 r0t.out); have hl1 := hlA.below hb1; have k1 := Lib.hid (below_two k0.out hb1); have p0 : w1.cell? ⟨w.heap.size, 0, none⟩ = some (.int .i64 a.k) := cell_of_row _ _ 0 _ _ (0, 0) r1t.out)
    | refine wpList_load_row_g (by rfl) TAm _ (by rfl) w.heap.size (by rfl) TAm a.cells (0, 0) _ r0t.out Tryz.underlying27 rfl infoTAm ?_)
  go_ret
  exact ⟨ret_bool (by simp), k6.out⟩
theorem amountUnused_law (a : Am) (n : Int) (h0 : 0 ≤ n) (h255 : n ≤ 255) (w : World) (hl : LaidM w) : Calls Tryz.prog 7 #[.agg a.cells, .int .u8 n] w fun e w' => e = .returned (.bool true) ∧ Below w.heap.size w w' := by
  by_cases hs : (100 : Int) < a.f.sub.size
  · exact aun_long a n hs w hl
  cases hv : amIs a with
  | false => exact aun_no a n hs (Lib.hid hv) w hl
  | true =>
    by_cases k0 : a.k = 0
    · refine aun_0 a n h0 h255 hs (Lib.hid hv) k0 (Lib.hid ?_) w hl
      unfold amIs
      simp only [k0, if_true]
      have : ((1 + n % 2 : Int) == 0) = false := by rw [beq_eq_false_iff_ne]; omega
      simp [this]
    by_cases k2 : a.k = 2
    · refine aun_2 a n h0 h255 hs (Lib.hid hv) k2 (Lib.hid ?_) w hl
      unfold amIs
      simp [k2]
    by_cases k4 : a.k = 4
    · refine aun_4 a n h0 h255 hs (Lib.hid hv) k4 (Lib.hid ?_) w hl
      unfold amIs
      have : ((1 + n : Int) == 0) = false := by rw [beq_eq_false_iff_ne]; omega
      simp [k4, this]
    · refine aun_o a n h0 h255 hs (Lib.hid hv) ⟨k0, k2, k4⟩ (Lib.hid ?_) w hl
      unfold amIs
      have : ((1 + n : Int) == 0) = false := by rw [beq_eq_false_iff_ne]; omega
      simp [k0, k2, k4, this]
end Go.Proofs.YtcbegdjmopgbbaaGreatDoor
