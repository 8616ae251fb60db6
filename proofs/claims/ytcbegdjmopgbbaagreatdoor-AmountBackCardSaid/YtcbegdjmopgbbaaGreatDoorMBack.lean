/- AmountBack: Parse inverts Text. Conditions: LaidM. -/
import Derived.Test.YtcbegdjmopgbbaaGreatDoorMAlive
namespace Go.Proofs.YtcbegdjmopgbbaaGreatDoor
set_option linter.all false
open Go.ChangeShapes Go.WideShapes Go.RowKit
theorem amText_size {a : Am} : (B (amText a)).size < 100000000 := by
  rw [B_size]
  cases hv : amIs a with
  | false => rw [amText_no hv]; decide
  | true =>
    have ht : amText a = amBody a := if_pos hv
    rw [ht]
    rcases amIs_cases hv with ⟨n, hn, rfl⟩ | ⟨n, h1, h2, f, hf, rfl⟩ | ⟨c, hc, rfl⟩ | ⟨k, hk, rfl⟩
    · have := Lib.itoa_length_le (n : Int) (by omega) (by omega)
      show (Lib.itoa (n : Int)).length < _
      omega
    · have h3 := Lib.itoa_length_le (n : Int) (by omega) (by omega)
      have h4 := textOf_len (f := f)
      rw [amBody_two]
      split <;> simp [countS, countW] <;> omega
    · rcases hc with rfl | rfl | rfl <;> decide
    · rcases hk with rfl | rfl | rfl | rfl | rfl <;> decide
set_option maxRecDepth 100000 in
set_option maxHeartbeats 1000000 in
theorem aback_long (a : Am) (hs : (100 : Int) < a.f.sub.size) (w : World) (hl : LaidM w) :
    Calls Tryz.prog 5 #[.agg a.cells] w fun e w' => e = .returned (.bool true) ∧ Below w.heap.size w w' := by
  have r0t := Lib.hid (heap_alloc_new w (.cells a.cells TAm))
  have q10 : (w.alloc (.cells a.cells TAm)).cell? ⟨w.heap.size, 10, none⟩ = some (.string a.f.sub) := cell_of_row _ _ 10 _ _ (0, 0) r0t.out
  have hlA := hl.alloc (.cells a.cells TAm)
  have k0 : Hid (Below w.heap.size w (w.alloc (.cells a.cells TAm))) := Lib.hid ((Below.refl _ _).alloc (Nat.le_refl _) _)
  go_enter Tryz.func5, Tryz.ntmps5
  go_wp2_with (go_at_call 8; (with_reducible refine (aliveM_any _ hlA).mono ?_); rintro e w1 ⟨rfl, hb1⟩)
  go_ret
  exact ⟨rfl, below_two k0.out hb1⟩
set_option maxRecDepth 100000 in
set_option maxHeartbeats 1000000 in
theorem aback_yes (a : Am) (hs : ¬ (100 : Int) < a.f.sub.size) (HI : Hid (amIs a = true)) (w : World) (hl : LaidM w) :
    Calls Tryz.prog 5 #[.agg a.cells] w fun e w' => e = .returned (.bool true) ∧ Below w.heap.size w w' := by
  obtain ⟨T, hT⟩ : ∃ T, B (amText a) = T := ⟨_, rfl⟩
  have t1 : ¬ T.toList = [] := by rw [← hT, B_toList]; exact amText_ne HI.out
  have t0 : T.toList.isEmpty = false := by simpa using t1
  have hTs : T.size < 100000000 := by rw [← hT]; exact amText_size
  have HP : Hid (amParse (L T) = some a) := Lib.hid (by rw [← hT, L_B]; exact amParse_text HI.out)
  have HPC := Lib.hid (fun (w : World) (hl : LaidM w) => aParse_some T a HP hTs w hl)
  have HT := Lib.hid hT
  have e1 : ∀ wx : World, (binOp .eql TAm (.agg a.cells) (.agg a.cells)).run Tryz.prog wx = .ok (.bool true) wx := fun wx => (eq_am _ _ wx).trans (by rw [amEq_refl])
  clear hT HP hTs
  have r0t := Lib.hid (heap_alloc_new w (.cells a.cells TAm))
  have q10 : (w.alloc (.cells a.cells TAm)).cell? ⟨w.heap.size, 10, none⟩ = some (.string a.f.sub) := cell_of_row _ _ 10 _ _ (0, 0) r0t.out
  have hlA := hl.alloc (.cells a.cells TAm)
  have k0 : Hid (Below w.heap.size w (w.alloc (.cells a.cells TAm))) := Lib.hid ((Below.refl _ _).alloc (Nat.le_refl _) _)
  go_enter Tryz.func5, Tryz.ntmps5
  go_wp2_with (first
    | (rw [wpList_skip_eq]; rotate_left; · rfl)
    | (go_at_call 8; (with_reducible refine (aliveM_any _ hl4).mono ?_); rintro e w5 ⟨rfl, hb5⟩; have r5b := Lib.hid (blk_below2 hb5 r4b.out); have r5t := Lib.hid (blk_below2 hb5 r4t.out); have hl5 := hl4.below hb5; have k5 := Lib.hid (below_two k4.out hb5))
    | refine wpList_load_row_g (by rfl) TAm _ (by rfl) w.heap.size (by rfl) TAm a.cells (0, 0) _ r4t.out Tryz.underlying27 rfl infoTAm ?_
    | refine wpList_load_row_g (by rfl) TAm _ (by rfl) w3.heap.size (by rfl) TAm a.cells (0, 0) _ r4b.out Tryz.underlying27 rfl infoTAm ?_
    | (refine wpList_store_row (by rfl) TAm _ _ (by rfl) w3.heap.size a.cells (by rfl) (by rfl) TAm zeroA.cells (heap_alloc_new w3 _) infoTAm rfl (acells_one _) ?_; change wpList _ _ _ _ _ (stored w3 TAm zeroA.cells a.cells); have r4b := Lib.hid (stored_new w3 TAm zeroA.cells a.cells); have r4t := Lib.hid (stored_old (t := TAm) (o := zeroA.cells) (cs := a.cells) r3t.out); have hl4 := hl3.below (stored_below w3 TAm zeroA.cells a.cells); have k4 := Lib.hid (k3.out.trans ((stored_below w3 TAm zeroA.cells a.cells).mono k3.out.size)); generalize stored w3 TAm zeroA.cells a.cells = w4 at *)
    | (go_at_call 13; (with_reducible refine (HPC.out _ hl2).mono ?_); rintro e w3 ⟨rfl, hb3⟩; have r3t := Lib.hid (blk_below2 hb3 r2t.out); have hl3 := hl2.below hb3; have k3 := Lib.hid (below_two k2.out hb3))
    | (go_at_call 9; (with_reducible refine (aIs_v a true HI _ hl1).mono ?_); rintro e w2 ⟨rfl, hb2⟩; have r2t := Lib.hid (blk_below2 hb2 r1t.out); have hl2 := hl1.below hb2; have k2 := Lib.hid (below_two k1.out hb2))
    | refine wpList_load_row_g (by rfl) TAm _ (by rfl) w.heap.size (by rfl) TAm a.cells (0, 0) _ r1t.out Tryz.underlying27 rfl infoTAm ?_
    | (go_at_call 11; (with_reducible refine (aText_is a T HT _ hlA).mono ?_); rintro e w1 ⟨rfl, hb1⟩; have r1t := Lib.hid (blk_below2 hb1 r0t.out); have hl1 := hlA.below hb1; have k1 := Lib.hid (below_two k0.out hb1))
    | refine wpList_load_row_g (by rfl) TAm _ (by rfl) w.heap.size (by rfl) TAm a.cells (0, 0) _ r0t.out Tryz.underlying27 rfl infoTAm ?_)
  go_ret
  exact ⟨ret_bool (by simp), k5.out⟩
set_option maxRecDepth 100000 in
set_option maxHeartbeats 1000000 in
theorem aback_no (a : Am) (hs : ¬ (100 : Int) < a.f.sub.size) (HI : Hid (amIs a = false)) (w : World) (hl : LaidM w) :
    Calls Tryz.prog 5 #[.agg a.cells] w fun e w' => e = .returned (.bool true) ∧ Below w.heap.size w w' := by
  have HT : Hid (B (amText a) = ⟨#[]⟩) := Lib.hid (by rw [amText_no HI.out]; rfl)
  have HP : Hid (amParse (L ⟨#[]⟩) = none) := Lib.hid amParse_empty
  have HPC := Lib.hid (fun (w : World) (hl : LaidM w) => aParse_none ⟨#[]⟩ HP (by decide) w hl)
  clear HP
  have r0t := Lib.hid (heap_alloc_new w (.cells a.cells TAm))
  have q10 : (w.alloc (.cells a.cells TAm)).cell? ⟨w.heap.size, 10, none⟩ = some (.string a.f.sub) := cell_of_row _ _ 10 _ _ (0, 0) r0t.out
  have hlA := hl.alloc (.cells a.cells TAm)
  have k0 : Hid (Below w.heap.size w (w.alloc (.cells a.cells TAm))) := Lib.hid ((Below.refl _ _).alloc (Nat.le_refl _) _)
  go_enter Tryz.func5, Tryz.ntmps5
  go_wp2_with (first
    | (rw [wpList_skip_eq]; rotate_left; · rfl)
    | (go_at_call 8; (with_reducible refine (aliveM_any _ hl4).mono ?_); rintro e w5 ⟨rfl, hb5⟩; have r5b := Lib.hid (blk_below2 hb5 r4b.out); have r5t := Lib.hid (blk_below2 hb5 r4t.out); have hl5 := hl4.below hb5; have k5 := Lib.hid (below_two k4.out hb5))
    | refine wpList_load_row_g (by rfl) TAm _ (by rfl) w.heap.size (by rfl) TAm a.cells (0, 0) _ r4t.out Tryz.underlying27 rfl infoTAm ?_
    | refine wpList_load_row_g (by rfl) TAm _ (by rfl) w3.heap.size (by rfl) TAm zeroA.cells (0, 0) _ r4b.out Tryz.underlying27 rfl infoTAm ?_
    | (refine wpList_store_row (by rfl) TAm _ _ (by rfl) w3.heap.size zeroA.cells (by rfl) (by rfl) TAm zeroA.cells (heap_alloc_new w3 _) infoTAm rfl (acells_one _) ?_; change wpList _ _ _ _ _ (stored w3 TAm zeroA.cells zeroA.cells); have r4b := Lib.hid (stored_new w3 TAm zeroA.cells zeroA.cells); have r4t := Lib.hid (stored_old (t := TAm) (o := zeroA.cells) (cs := zeroA.cells) r3t.out); have hl4 := hl3.below (stored_below w3 TAm zeroA.cells zeroA.cells); have k4 := Lib.hid (k3.out.trans ((stored_below w3 TAm zeroA.cells zeroA.cells).mono k3.out.size)); generalize stored w3 TAm zeroA.cells zeroA.cells = w4 at *)
    | (go_at_call 13; (with_reducible refine (HPC.out _ hl2).mono ?_); rintro e w3 ⟨rfl, hb3⟩; have r3t := Lib.hid (blk_below2 hb3 r2t.out); have hl3 := hl2.below hb3; have k3 := Lib.hid (below_two k2.out hb3))
    | (go_at_call 9; (with_reducible refine (aIs_v a false HI _ hl1).mono ?_); rintro e w2 ⟨rfl, hb2⟩; have r2t := Lib.hid (blk_below2 hb2 r1t.out); have hl2 := hl1.below hb2; have k2 := Lib.hid (below_two k1.out hb2))
    | refine wpList_load_row_g (by rfl) TAm _ (by rfl) w.heap.size (by rfl) TAm a.cells (0, 0) _ r1t.out Tryz.underlying27 rfl infoTAm ?_
    | (go_at_call 11; (with_reducible refine (aText_is a ⟨#[]⟩ HT _ hlA).mono ?_); rintro e w1 ⟨rfl, hb1⟩; have r1t := Lib.hid (blk_below2 hb1 r0t.out); have hl1 := hlA.below hb1; have k1 := Lib.hid (below_two k0.out hb1))
    | refine wpList_load_row_g (by rfl) TAm _ (by rfl) w.heap.size (by rfl) TAm a.cells (0, 0) _ r0t.out Tryz.underlying27 rfl infoTAm ?_)
  go_ret
  exact ⟨ret_bool (by simp), k5.out⟩
theorem amountBack_law (a : Am) (w : World) (hl : LaidM w) : Calls Tryz.prog 5 #[.agg a.cells] w fun e w' => e = .returned (.bool true) ∧ Below w.heap.size w w' := by
  by_cases hs : (100 : Int) < a.f.sub.size
  · exact aback_long a hs w hl
  cases hv : amIs a with
  | true => exact aback_yes a hs (Lib.hid hv) w hl
  | false => exact aback_no a hs (Lib.hid hv) w hl
end Go.Proofs.YtcbegdjmopgbbaaGreatDoor
