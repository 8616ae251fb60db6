/- TriggerBack: Parse inverts Text. Conditions: LaidT. -/
import Derived.Test.YtnibonmeihdjbaaGreatDoorTAlive
namespace Go.Proofs.YtnibonmeihdjbaaGreatDoor
set_option linter.all false
open Go.ChangeShapes Go.WideShapes Go.RowKit
theorem tgText_size {t : Tg} : (B (tgText t)).size < 100000000 := by
  rw [B_size]
  cases hv : tgIs t with
  | false => rw [tgText_no hv]; decide
  | true =>
    have ht : tgText t = tgBody t := if_pos hv
    rw [ht]
    have h1 := textOf_len (f := t.f)
    have h2 := verb_len t.k.toNat
    have h3 := whoText_len t.who
    unfold tgBody tgHead tgTail
    split <;> split <;> simp <;> omega
set_option maxRecDepth 100000 in
set_option maxHeartbeats 300000 in
theorem tback_long (t : Tg) (s : ByteArray) (hs : 100 < t.f.sub.size ∨ 500 < s.size) (w : World) (hl : LaidT w) :
    Calls Tryz.prog 5 #[.agg t.cells, .string s] w fun e w' => e = .returned (.bool true) ∧ Below w.heap.size w w' := by
  have hl1 := hl.alloc (.cells t.cells TTg)
  have q9 : (w.alloc (.cells t.cells TTg)).cell? ⟨w.heap.size, 9, none⟩ = some (.string t.f.sub) := cell_of_row _ _ 9 _ _ (0, 0) (heap_alloc_new w _)
  by_cases h1 : (100 : Int) < t.f.sub.size
  · go_enter Tryz.func5, Tryz.ntmps5
    go_wp2_with (go_at_call 8; (with_reducible refine (aliveT_any _ hl1).mono ?_); rintro e w1 ⟨rfl, hb1⟩)
    go_ret
    exact ⟨rfl, below_two ((Below.refl _ _).alloc (Nat.le_refl _) _) hb1⟩
  · have h2 : (500 : Int) < s.size := by omega
    clear hs
    go_enter Tryz.func5, Tryz.ntmps5
    go_wp2_with (go_at_call 8; (with_reducible refine (aliveT_any _ hl1).mono ?_); rintro e w1 ⟨rfl, hb1⟩)
    go_ret
    exact ⟨rfl, below_two ((Below.refl _ _).alloc (Nat.le_refl _) _) hb1⟩
set_option maxRecDepth 100000 in
set_option maxHeartbeats 300000 in
theorem tback_some_yes (t : Tg) (s : ByteArray) (hsu : t.f.sub.size ≤ 100) (hs : s.size ≤ 500) (HF : Hid (tgIs t = true)) (a : Tg) (HS : Hid (tgParse (L s) = some a)) (HI : Hid (tgIs a = true)) (HX : Hid (B (tgText a) = s)) (w : World) (hl : LaidT w) :
    Calls Tryz.prog 5 #[.agg t.cells, .string s] w fun e w' => e = .returned (.bool true) ∧ Below w.heap.size w w' := by
  have hs' : ¬ (500 : Int) < s.size := by omega
  have hsu' : ¬ (100 : Int) < t.f.sub.size := by omega
  have hs8 : Hid (s.size < 100000000) := Lib.hid (by omega)
  obtain ⟨T, hT⟩ : ∃ T, B (tgText t) = T := ⟨_, rfl⟩
  have hTs : Hid (T.size < 100000000) := Lib.hid (by rw [← hT]; exact tgText_size)
  have HP : Hid (tgParse (L T) = some t) := Lib.hid (by rw [← hT, L_B]; exact tgParse_text HF.out)
  have HT := Lib.hid hT
  have heq : ∀ wx : World, (binOp .eql TTg (.agg t.cells) (.agg t.cells)).run Tryz.prog wx = .ok (.bool true) wx := fun wx => (eq_tg t t wx).trans (by rw [tgEq_refl])
  clear hT
  have r0t := Lib.hid (heap_alloc_new w (.cells t.cells TTg))
  have q9 : (w.alloc (.cells t.cells TTg)).cell? ⟨w.heap.size, 9, none⟩ = some (.string t.f.sub) := cell_of_row _ _ 9 _ _ (0, 0) r0t.out
  have hlA := hl.alloc (.cells t.cells TTg)
  have k0 : Hid (Below w.heap.size w (w.alloc (.cells t.cells TTg))) := Lib.hid ((Below.refl _ _).alloc (Nat.le_refl _) _)
  have HSC := Lib.hid (fun (w : World) (hl : LaidT w) => tParse_some s a HS hs8.out w hl)
  have HPC := Lib.hid (fun (w : World) (hl : LaidT w) => tParse_some T t HP hTs.out w hl)
  clear hsu hs HS HP
  go_enter Tryz.func5, Tryz.ntmps5
  go_wp2_with (first
    | (rw [wpList_skip_eq]; rotate_left; · rfl)
    | (go_at_call 8; (with_reducible refine (aliveT_any _ hl8).mono ?_); rintro e w9 ⟨rfl, hb9⟩; have r9b := Lib.hid (blk_below2 hb9 r8b.out); have r9a := Lib.hid (blk_below2 hb9 r8a.out); have r9t := Lib.hid (blk_below2 hb9 r8t.out); have hl9 := hl8.below hb9; have k9 := Lib.hid (below_two k8.out hb9))
    | refine wpList_load_row_g (by rfl) TTg _ (by rfl) w.heap.size (by rfl) TTg t.cells (0, 0) _ r8t.out Tryz.underlying27 rfl infoTTg ?_
    | refine wpList_load_row_g (by rfl) TTg _ (by rfl) w1.heap.size (by rfl) TTg a.cells (0, 0) _ r8a.out Tryz.underlying27 rfl infoTTg ?_
    | refine wpList_load_row_g (by rfl) TTg _ (by rfl) w6.heap.size (by rfl) TTg t.cells (0, 0) _ r8b.out Tryz.underlying27 rfl infoTTg ?_
    | (go_at_call 9; (with_reducible refine (tIs_v t true HF _ hl7).mono ?_); rintro e w8 ⟨rfl, hb8⟩; have r8b := Lib.hid (blk_below2 hb8 r7b.out); have r8a := Lib.hid (blk_below2 hb8 r7a.out); have r8t := Lib.hid (blk_below2 hb8 r7t.out); have hl8 := hl7.below hb8; have k8 := Lib.hid (below_two k7.out hb8))
    | refine wpList_load_row_g (by rfl) TTg _ (by rfl) w.heap.size (by rfl) TTg t.cells (0, 0) _ r7t.out Tryz.underlying27 rfl infoTTg ?_
    | refine wpList_load_row_g (by rfl) TTg _ (by rfl) w1.heap.size (by rfl) TTg a.cells (0, 0) _ r7a.out Tryz.underlying27 rfl infoTTg ?_
    | refine wpList_load_row_g (by rfl) TTg _ (by rfl) w6.heap.size (by rfl) TTg t.cells (0, 0) _ r7b.out Tryz.underlying27 rfl infoTTg ?_
    | (refine wpList_store_row (by rfl) TTg _ _ (by rfl) w6.heap.size t.cells (by rfl) (by rfl) TTg zeroT.cells (heap_alloc_new w6 _) infoTTg rfl (tcells_one _) ?_; change wpList _ _ _ _ _ (stored w6 TTg zeroT.cells t.cells); have r7b := Lib.hid (stored_new w6 TTg zeroT.cells t.cells); have r7a := Lib.hid (stored_old (t := TTg) (o := zeroT.cells) (cs := t.cells) r6a.out); have r7t := Lib.hid (stored_old (t := TTg) (o := zeroT.cells) (cs := t.cells) r6t.out); have hl7 := hl6.below (stored_below w6 TTg zeroT.cells t.cells); have k7 := Lib.hid (k6.out.trans ((stored_below w6 TTg zeroT.cells t.cells).mono k6.out.size)); generalize stored w6 TTg zeroT.cells t.cells = w7 at *)
    | (go_at_call 15; (with_reducible refine (HPC.out _ hl5).mono ?_); rintro e w6 ⟨rfl, hb6⟩; have r6a := Lib.hid (blk_below2 hb6 r5a.out); have r6t := Lib.hid (blk_below2 hb6 r5t.out); have hl6 := hl5.below hb6; have k6 := Lib.hid (below_two k5.out hb6))
    | (go_at_call 13; (with_reducible refine (tText_is t T HT _ hl4).mono ?_); rintro e w5 ⟨rfl, hb5⟩; have r5a := Lib.hid (blk_below2 hb5 r4a.out); have r5t := Lib.hid (blk_below2 hb5 r4t.out); have hl5 := hl4.below hb5; have k5 := Lib.hid (below_two k4.out hb5))
    | refine wpList_load_row_g (by rfl) TTg _ (by rfl) w.heap.size (by rfl) TTg t.cells (0, 0) _ r4t.out Tryz.underlying27 rfl infoTTg ?_
    | refine wpList_load_row_g (by rfl) TTg _ (by rfl) w1.heap.size (by rfl) TTg a.cells (0, 0) _ r4a.out Tryz.underlying27 rfl infoTTg ?_
    | (go_at_call 9; (with_reducible refine (tIs_v a true HI _ hl3).mono ?_); rintro e w4 ⟨rfl, hb4⟩; have r4a := Lib.hid (blk_below2 hb4 r3a.out); have r4t := Lib.hid (blk_below2 hb4 r3t.out); have hl4 := hl3.below hb4; have k4 := Lib.hid (below_two k3.out hb4))
    | refine wpList_load_row_g (by rfl) TTg _ (by rfl) w.heap.size (by rfl) TTg t.cells (0, 0) _ r3t.out Tryz.underlying27 rfl infoTTg ?_
    | refine wpList_load_row_g (by rfl) TTg _ (by rfl) w1.heap.size (by rfl) TTg a.cells (0, 0) _ r3a.out Tryz.underlying27 rfl infoTTg ?_
    | (go_at_call 13; (with_reducible refine (tText_is a s HX _ hl2).mono ?_); rintro e w3 ⟨rfl, hb3⟩; have r3a := Lib.hid (blk_below2 hb3 r2a.out); have r3t := Lib.hid (blk_below2 hb3 r2t.out); have hl3 := hl2.below hb3; have k3 := Lib.hid (below_two k2.out hb3))
    | refine wpList_load_row_g (by rfl) TTg _ (by rfl) w.heap.size (by rfl) TTg t.cells (0, 0) _ r2t.out Tryz.underlying27 rfl infoTTg ?_
    | refine wpList_load_row_g (by rfl) TTg _ (by rfl) w1.heap.size (by rfl) TTg a.cells (0, 0) _ r2a.out Tryz.underlying27 rfl infoTTg ?_
    | (refine wpList_store_row (by rfl) TTg _ _ (by rfl) w1.heap.size a.cells (by rfl) (by rfl) TTg zeroT.cells (heap_alloc_new w1 _) infoTTg rfl (tcells_one _) ?_; change wpList _ _ _ _ _ (stored w1 TTg zeroT.cells a.cells); have r2a := Lib.hid (stored_new w1 TTg zeroT.cells a.cells); have r2t := Lib.hid (stored_old (t := TTg) (o := zeroT.cells) (cs := a.cells) r1t.out); have hl2 := hl1.below (stored_below w1 TTg zeroT.cells a.cells); have k2 := Lib.hid (k1.out.trans ((stored_below w1 TTg zeroT.cells a.cells).mono k1.out.size)); generalize stored w1 TTg zeroT.cells a.cells = w2 at *)
    | (go_at_call 15; (with_reducible refine (HSC.out _ hlA).mono ?_); rintro e w1 ⟨rfl, hb1⟩; have r1t := Lib.hid (blk_below2 hb1 r0t.out); have hl1 := hlA.below hb1; have k1 := Lib.hid (below_two k0.out hb1)))
  go_ret
  exact ⟨ret_bool (by simp), k9.out⟩
set_option maxRecDepth 100000 in
set_option maxHeartbeats 300000 in
theorem tback_some_no (t : Tg) (s : ByteArray) (hsu : t.f.sub.size ≤ 100) (hs : s.size ≤ 500) (HF : Hid (tgIs t = false)) (a : Tg) (HS : Hid (tgParse (L s) = some a)) (HI : Hid (tgIs a = true)) (HX : Hid (B (tgText a) = s)) (w : World) (hl : LaidT w) :
    Calls Tryz.prog 5 #[.agg t.cells, .string s] w fun e w' => e = .returned (.bool true) ∧ Below w.heap.size w w' := by
  have hs' : ¬ (500 : Int) < s.size := by omega
  have hsu' : ¬ (100 : Int) < t.f.sub.size := by omega
  have hs8 : Hid (s.size < 100000000) := Lib.hid (by omega)
  have HT : Hid (B (tgText t) = ⟨#[]⟩) := Lib.hid (by rw [tgText_no HF.out]; rfl)
  have HP : Hid (tgParse (L ⟨#[]⟩) = none) := Lib.hid tgParse_empty
  have heq : ∀ wx : World, (binOp .eql TTg (.agg zeroT.cells) (.agg zeroT.cells)).run Tryz.prog wx = .ok (.bool true) wx := fun wx => (eq_tg zeroT zeroT wx).trans (by rw [tgEq_refl])
  have r0t := Lib.hid (heap_alloc_new w (.cells t.cells TTg))
  have q9 : (w.alloc (.cells t.cells TTg)).cell? ⟨w.heap.size, 9, none⟩ = some (.string t.f.sub) := cell_of_row _ _ 9 _ _ (0, 0) r0t.out
  have hlA := hl.alloc (.cells t.cells TTg)
  have k0 : Hid (Below w.heap.size w (w.alloc (.cells t.cells TTg))) := Lib.hid ((Below.refl _ _).alloc (Nat.le_refl _) _)
  have HSC := Lib.hid (fun (w : World) (hl : LaidT w) => tParse_some s a HS hs8.out w hl)
  have HPC := Lib.hid (fun (w : World) (hl : LaidT w) => tParse_none ⟨#[]⟩ HP (by decide) w hl)
  clear hsu hs HS HP
  go_enter Tryz.func5, Tryz.ntmps5
  go_wp2_with (first
    | (rw [wpList_skip_eq]; rotate_left; · rfl)
    | refine wpList_build0_g rfl TTg rfl (.agg zeroT.cells) (build_zero _) ?_
    | (go_at_call 8; (with_reducible refine (aliveT_any _ hl9).mono ?_); rintro e w10 ⟨rfl, hb10⟩; have r10b := Lib.hid (blk_below2 hb10 r9b.out); have r10a := Lib.hid (blk_below2 hb10 r9a.out); have r10t := Lib.hid (blk_below2 hb10 r9t.out); have hl10 := hl9.below hb10; have k10 := Lib.hid (below_two k9.out hb10))
    | refine wpList_load_row_g (by rfl) TTg _ (by rfl) w.heap.size (by rfl) TTg t.cells (0, 0) _ r9t.out Tryz.underlying27 rfl infoTTg ?_
    | refine wpList_load_row_g (by rfl) TTg _ (by rfl) w1.heap.size (by rfl) TTg a.cells (0, 0) _ r9a.out Tryz.underlying27 rfl infoTTg ?_
    | refine wpList_load_row_g (by rfl) TTg _ (by rfl) w6.heap.size (by rfl) TTg zeroT.cells (0, 0) _ r9b.out Tryz.underlying27 rfl infoTTg ?_
    | (go_at_call 13; (with_reducible refine (tText_is t ⟨#[]⟩ HT _ hl8).mono ?_); rintro e w9 ⟨rfl, hb9⟩; have r9b := Lib.hid (blk_below2 hb9 r8b.out); have r9a := Lib.hid (blk_below2 hb9 r8a.out); have r9t := Lib.hid (blk_below2 hb9 r8t.out); have hl9 := hl8.below hb9; have k9 := Lib.hid (below_two k8.out hb9))
    | refine wpList_load_row_g (by rfl) TTg _ (by rfl) w.heap.size (by rfl) TTg t.cells (0, 0) _ r8t.out Tryz.underlying27 rfl infoTTg ?_
    | refine wpList_load_row_g (by rfl) TTg _ (by rfl) w1.heap.size (by rfl) TTg a.cells (0, 0) _ r8a.out Tryz.underlying27 rfl infoTTg ?_
    | refine wpList_load_row_g (by rfl) TTg _ (by rfl) w6.heap.size (by rfl) TTg zeroT.cells (0, 0) _ r8b.out Tryz.underlying27 rfl infoTTg ?_
    | (go_at_call 9; (with_reducible refine (tIs_v t false HF _ hl7).mono ?_); rintro e w8 ⟨rfl, hb8⟩; have r8b := Lib.hid (blk_below2 hb8 r7b.out); have r8a := Lib.hid (blk_below2 hb8 r7a.out); have r8t := Lib.hid (blk_below2 hb8 r7t.out); have hl8 := hl7.below hb8; have k8 := Lib.hid (below_two k7.out hb8))
    | refine wpList_load_row_g (by rfl) TTg _ (by rfl) w.heap.size (by rfl) TTg t.cells (0, 0) _ r7t.out Tryz.underlying27 rfl infoTTg ?_
    | refine wpList_load_row_g (by rfl) TTg _ (by rfl) w1.heap.size (by rfl) TTg a.cells (0, 0) _ r7a.out Tryz.underlying27 rfl infoTTg ?_
    | refine wpList_load_row_g (by rfl) TTg _ (by rfl) w6.heap.size (by rfl) TTg zeroT.cells (0, 0) _ r7b.out Tryz.underlying27 rfl infoTTg ?_
    | (refine wpList_store_row (by rfl) TTg _ _ (by rfl) w6.heap.size zeroT.cells (by rfl) (by rfl) TTg zeroT.cells (heap_alloc_new w6 _) infoTTg rfl (tcells_one _) ?_; change wpList _ _ _ _ _ (stored w6 TTg zeroT.cells zeroT.cells); have r7b := Lib.hid (stored_new w6 TTg zeroT.cells zeroT.cells); have r7a := Lib.hid (stored_old (t := TTg) (o := zeroT.cells) (cs := zeroT.cells) r6a.out); have r7t := Lib.hid (stored_old (t := TTg) (o := zeroT.cells) (cs := zeroT.cells) r6t.out); have hl7 := hl6.below (stored_below w6 TTg zeroT.cells zeroT.cells); have k7 := Lib.hid (k6.out.trans ((stored_below w6 TTg zeroT.cells zeroT.cells).mono k6.out.size)); generalize stored w6 TTg zeroT.cells zeroT.cells = w7 at *)
    | (go_at_call 15; (with_reducible refine (HPC.out _ hl5).mono ?_); rintro e w6 ⟨rfl, hb6⟩; have r6a := Lib.hid (blk_below2 hb6 r5a.out); have r6t := Lib.hid (blk_below2 hb6 r5t.out); have hl6 := hl5.below hb6; have k6 := Lib.hid (below_two k5.out hb6))
    | (go_at_call 13; (with_reducible refine (tText_is t ⟨#[]⟩ HT _ hl4).mono ?_); rintro e w5 ⟨rfl, hb5⟩; have r5a := Lib.hid (blk_below2 hb5 r4a.out); have r5t := Lib.hid (blk_below2 hb5 r4t.out); have hl5 := hl4.below hb5; have k5 := Lib.hid (below_two k4.out hb5))
    | refine wpList_load_row_g (by rfl) TTg _ (by rfl) w.heap.size (by rfl) TTg t.cells (0, 0) _ r4t.out Tryz.underlying27 rfl infoTTg ?_
    | refine wpList_load_row_g (by rfl) TTg _ (by rfl) w1.heap.size (by rfl) TTg a.cells (0, 0) _ r4a.out Tryz.underlying27 rfl infoTTg ?_
    | (go_at_call 9; (with_reducible refine (tIs_v a true HI _ hl3).mono ?_); rintro e w4 ⟨rfl, hb4⟩; have r4a := Lib.hid (blk_below2 hb4 r3a.out); have r4t := Lib.hid (blk_below2 hb4 r3t.out); have hl4 := hl3.below hb4; have k4 := Lib.hid (below_two k3.out hb4))
    | refine wpList_load_row_g (by rfl) TTg _ (by rfl) w.heap.size (by rfl) TTg t.cells (0, 0) _ r3t.out Tryz.underlying27 rfl infoTTg ?_
    | refine wpList_load_row_g (by rfl) TTg _ (by rfl) w1.heap.size (by rfl) TTg a.cells (0, 0) _ r3a.out Tryz.underlying27 rfl infoTTg ?_
    | (go_at_call 13; (with_reducible refine (tText_is a s HX _ hl2).mono ?_); rintro e w3 ⟨rfl, hb3⟩; have r3a := Lib.hid (blk_below2 hb3 r2a.out); have r3t := Lib.hid (blk_below2 hb3 r2t.out); have hl3 := hl2.below hb3; have k3 := Lib.hid (below_two k2.out hb3))
    | refine wpList_load_row_g (by rfl) TTg _ (by rfl) w.heap.size (by rfl) TTg t.cells (0, 0) _ r2t.out Tryz.underlying27 rfl infoTTg ?_
    | refine wpList_load_row_g (by rfl) TTg _ (by rfl) w1.heap.size (by rfl) TTg a.cells (0, 0) _ r2a.out Tryz.underlying27 rfl infoTTg ?_
    | (refine wpList_store_row (by rfl) TTg _ _ (by rfl) w1.heap.size a.cells (by rfl) (by rfl) TTg zeroT.cells (heap_alloc_new w1 _) infoTTg rfl (tcells_one _) ?_; change wpList _ _ _ _ _ (stored w1 TTg zeroT.cells a.cells); have r2a := Lib.hid (stored_new w1 TTg zeroT.cells a.cells); have r2t := Lib.hid (stored_old (t := TTg) (o := zeroT.cells) (cs := a.cells) r1t.out); have hl2 := hl1.below (stored_below w1 TTg zeroT.cells a.cells); have k2 := Lib.hid (k1.out.trans ((stored_below w1 TTg zeroT.cells a.cells).mono k1.out.size)); generalize stored w1 TTg zeroT.cells a.cells = w2 at *)
    | (go_at_call 15; (with_reducible refine (HSC.out _ hlA).mono ?_); rintro e w1 ⟨rfl, hb1⟩; have r1t := Lib.hid (blk_below2 hb1 r0t.out); have hl1 := hlA.below hb1; have k1 := Lib.hid (below_two k0.out hb1)))
  go_ret
  exact ⟨ret_bool (by simp), k10.out⟩
set_option maxRecDepth 100000 in
set_option maxHeartbeats 300000 in
theorem tback_none_yes (t : Tg) (s : ByteArray) (hsu : t.f.sub.size ≤ 100) (hs : s.size ≤ 500) (HF : Hid (tgIs t = true)) (HS : Hid (tgParse (L s) = none)) (w : World) (hl : LaidT w) :
    Calls Tryz.prog 5 #[.agg t.cells, .string s] w fun e w' => e = .returned (.bool true) ∧ Below w.heap.size w w' := by
  have hs' : ¬ (500 : Int) < s.size := by omega
  have hsu' : ¬ (100 : Int) < t.f.sub.size := by omega
  have hs8 : Hid (s.size < 100000000) := Lib.hid (by omega)
  obtain ⟨T, hT⟩ : ∃ T, B (tgText t) = T := ⟨_, rfl⟩
  have hTs : Hid (T.size < 100000000) := Lib.hid (by rw [← hT]; exact tgText_size)
  have HP : Hid (tgParse (L T) = some t) := Lib.hid (by rw [← hT, L_B]; exact tgParse_text HF.out)
  have HT := Lib.hid hT
  have heq : ∀ wx : World, (binOp .eql TTg (.agg t.cells) (.agg t.cells)).run Tryz.prog wx = .ok (.bool true) wx := fun wx => (eq_tg t t wx).trans (by rw [tgEq_refl])
  clear hT
  have r0t := Lib.hid (heap_alloc_new w (.cells t.cells TTg))
  have q9 : (w.alloc (.cells t.cells TTg)).cell? ⟨w.heap.size, 9, none⟩ = some (.string t.f.sub) := cell_of_row _ _ 9 _ _ (0, 0) r0t.out
  have hlA := hl.alloc (.cells t.cells TTg)
  have k0 : Hid (Below w.heap.size w (w.alloc (.cells t.cells TTg))) := Lib.hid ((Below.refl _ _).alloc (Nat.le_refl _) _)
  have HSC := Lib.hid (fun (w : World) (hl : LaidT w) => tParse_none s HS hs8.out w hl)
  have HPC := Lib.hid (fun (w : World) (hl : LaidT w) => tParse_some T t HP hTs.out w hl)
  clear hsu hs HS HP
  go_enter Tryz.func5, Tryz.ntmps5
  go_wp2_with (first
    | (rw [wpList_skip_eq]; rotate_left; · rfl)
    | (go_at_call 8; (with_reducible refine (aliveT_any _ hl6).mono ?_); rintro e w7 ⟨rfl, hb7⟩; have r7b := Lib.hid (blk_below2 hb7 r6b.out); have r7a := Lib.hid (blk_below2 hb7 r6a.out); have r7t := Lib.hid (blk_below2 hb7 r6t.out); have hl7 := hl6.below hb7; have k7 := Lib.hid (below_two k6.out hb7))
    | refine wpList_load_row_g (by rfl) TTg _ (by rfl) w.heap.size (by rfl) TTg t.cells (0, 0) _ r6t.out Tryz.underlying27 rfl infoTTg ?_
    | refine wpList_load_row_g (by rfl) TTg _ (by rfl) w1.heap.size (by rfl) TTg zeroT.cells (0, 0) _ r6a.out Tryz.underlying27 rfl infoTTg ?_
    | refine wpList_load_row_g (by rfl) TTg _ (by rfl) w4.heap.size (by rfl) TTg t.cells (0, 0) _ r6b.out Tryz.underlying27 rfl infoTTg ?_
    | (go_at_call 9; (with_reducible refine (tIs_v t true HF _ hl5).mono ?_); rintro e w6 ⟨rfl, hb6⟩; have r6b := Lib.hid (blk_below2 hb6 r5b.out); have r6a := Lib.hid (blk_below2 hb6 r5a.out); have r6t := Lib.hid (blk_below2 hb6 r5t.out); have hl6 := hl5.below hb6; have k6 := Lib.hid (below_two k5.out hb6))
    | refine wpList_load_row_g (by rfl) TTg _ (by rfl) w.heap.size (by rfl) TTg t.cells (0, 0) _ r5t.out Tryz.underlying27 rfl infoTTg ?_
    | refine wpList_load_row_g (by rfl) TTg _ (by rfl) w1.heap.size (by rfl) TTg zeroT.cells (0, 0) _ r5a.out Tryz.underlying27 rfl infoTTg ?_
    | refine wpList_load_row_g (by rfl) TTg _ (by rfl) w4.heap.size (by rfl) TTg t.cells (0, 0) _ r5b.out Tryz.underlying27 rfl infoTTg ?_
    | (refine wpList_store_row (by rfl) TTg _ _ (by rfl) w4.heap.size t.cells (by rfl) (by rfl) TTg zeroT.cells (heap_alloc_new w4 _) infoTTg rfl (tcells_one _) ?_; change wpList _ _ _ _ _ (stored w4 TTg zeroT.cells t.cells); have r5b := Lib.hid (stored_new w4 TTg zeroT.cells t.cells); have r5a := Lib.hid (stored_old (t := TTg) (o := zeroT.cells) (cs := t.cells) r4a.out); have r5t := Lib.hid (stored_old (t := TTg) (o := zeroT.cells) (cs := t.cells) r4t.out); have hl5 := hl4.below (stored_below w4 TTg zeroT.cells t.cells); have k5 := Lib.hid (k4.out.trans ((stored_below w4 TTg zeroT.cells t.cells).mono k4.out.size)); generalize stored w4 TTg zeroT.cells t.cells = w5 at *)
    | (go_at_call 15; (with_reducible refine (HPC.out _ hl3).mono ?_); rintro e w4 ⟨rfl, hb4⟩; have r4a := Lib.hid (blk_below2 hb4 r3a.out); have r4t := Lib.hid (blk_below2 hb4 r3t.out); have hl4 := hl3.below hb4; have k4 := Lib.hid (below_two k3.out hb4))
    | (go_at_call 13; (with_reducible refine (tText_is t T HT _ hl2).mono ?_); rintro e w3 ⟨rfl, hb3⟩; have r3a := Lib.hid (blk_below2 hb3 r2a.out); have r3t := Lib.hid (blk_below2 hb3 r2t.out); have hl3 := hl2.below hb3; have k3 := Lib.hid (below_two k2.out hb3))
    | refine wpList_load_row_g (by rfl) TTg _ (by rfl) w.heap.size (by rfl) TTg t.cells (0, 0) _ r2t.out Tryz.underlying27 rfl infoTTg ?_
    | refine wpList_load_row_g (by rfl) TTg _ (by rfl) w1.heap.size (by rfl) TTg zeroT.cells (0, 0) _ r2a.out Tryz.underlying27 rfl infoTTg ?_
    | (refine wpList_store_row (by rfl) TTg _ _ (by rfl) w1.heap.size zeroT.cells (by rfl) (by rfl) TTg zeroT.cells (heap_alloc_new w1 _) infoTTg rfl (tcells_one _) ?_; change wpList _ _ _ _ _ (stored w1 TTg zeroT.cells zeroT.cells); have r2a := Lib.hid (stored_new w1 TTg zeroT.cells zeroT.cells); have r2t := Lib.hid (stored_old (t := TTg) (o := zeroT.cells) (cs := zeroT.cells) r1t.out); have hl2 := hl1.below (stored_below w1 TTg zeroT.cells zeroT.cells); have k2 := Lib.hid (k1.out.trans ((stored_below w1 TTg zeroT.cells zeroT.cells).mono k1.out.size)); generalize stored w1 TTg zeroT.cells zeroT.cells = w2 at *)
    | (go_at_call 15; (with_reducible refine (HSC.out _ hlA).mono ?_); rintro e w1 ⟨rfl, hb1⟩; have r1t := Lib.hid (blk_below2 hb1 r0t.out); have hl1 := hlA.below hb1; have k1 := Lib.hid (below_two k0.out hb1)))
  go_ret
  exact ⟨ret_bool (by simp), k7.out⟩
set_option maxRecDepth 100000 in
set_option maxHeartbeats 300000 in
theorem tback_none_no (t : Tg) (s : ByteArray) (hsu : t.f.sub.size ≤ 100) (hs : s.size ≤ 500) (HF : Hid (tgIs t = false)) (HS : Hid (tgParse (L s) = none)) (w : World) (hl : LaidT w) :
    Calls Tryz.prog 5 #[.agg t.cells, .string s] w fun e w' => e = .returned (.bool true) ∧ Below w.heap.size w w' := by
  have hs' : ¬ (500 : Int) < s.size := by omega
  have hsu' : ¬ (100 : Int) < t.f.sub.size := by omega
  have hs8 : Hid (s.size < 100000000) := Lib.hid (by omega)
  have HT : Hid (B (tgText t) = ⟨#[]⟩) := Lib.hid (by rw [tgText_no HF.out]; rfl)
  have HP : Hid (tgParse (L ⟨#[]⟩) = none) := Lib.hid tgParse_empty
  have heq : ∀ wx : World, (binOp .eql TTg (.agg zeroT.cells) (.agg zeroT.cells)).run Tryz.prog wx = .ok (.bool true) wx := fun wx => (eq_tg zeroT zeroT wx).trans (by rw [tgEq_refl])
  have r0t := Lib.hid (heap_alloc_new w (.cells t.cells TTg))
  have q9 : (w.alloc (.cells t.cells TTg)).cell? ⟨w.heap.size, 9, none⟩ = some (.string t.f.sub) := cell_of_row _ _ 9 _ _ (0, 0) r0t.out
  have hlA := hl.alloc (.cells t.cells TTg)
  have k0 : Hid (Below w.heap.size w (w.alloc (.cells t.cells TTg))) := Lib.hid ((Below.refl _ _).alloc (Nat.le_refl _) _)
  have HSC := Lib.hid (fun (w : World) (hl : LaidT w) => tParse_none s HS hs8.out w hl)
  have HPC := Lib.hid (fun (w : World) (hl : LaidT w) => tParse_none ⟨#[]⟩ HP (by decide) w hl)
  clear hsu hs HS HP
  go_enter Tryz.func5, Tryz.ntmps5
  go_wp2_with (first
    | (rw [wpList_skip_eq]; rotate_left; · rfl)
    | refine wpList_build0_g rfl TTg rfl (.agg zeroT.cells) (build_zero _) ?_
    | (go_at_call 8; (with_reducible refine (aliveT_any _ hl7).mono ?_); rintro e w8 ⟨rfl, hb8⟩; have r8b := Lib.hid (blk_below2 hb8 r7b.out); have r8a := Lib.hid (blk_below2 hb8 r7a.out); have r8t := Lib.hid (blk_below2 hb8 r7t.out); have hl8 := hl7.below hb8; have k8 := Lib.hid (below_two k7.out hb8))
    | refine wpList_load_row_g (by rfl) TTg _ (by rfl) w.heap.size (by rfl) TTg t.cells (0, 0) _ r7t.out Tryz.underlying27 rfl infoTTg ?_
    | refine wpList_load_row_g (by rfl) TTg _ (by rfl) w1.heap.size (by rfl) TTg zeroT.cells (0, 0) _ r7a.out Tryz.underlying27 rfl infoTTg ?_
    | refine wpList_load_row_g (by rfl) TTg _ (by rfl) w4.heap.size (by rfl) TTg zeroT.cells (0, 0) _ r7b.out Tryz.underlying27 rfl infoTTg ?_
    | (go_at_call 13; (with_reducible refine (tText_is t ⟨#[]⟩ HT _ hl6).mono ?_); rintro e w7 ⟨rfl, hb7⟩; have r7b := Lib.hid (blk_below2 hb7 r6b.out); have r7a := Lib.hid (blk_below2 hb7 r6a.out); have r7t := Lib.hid (blk_below2 hb7 r6t.out); have hl7 := hl6.below hb7; have k7 := Lib.hid (below_two k6.out hb7))
    | refine wpList_load_row_g (by rfl) TTg _ (by rfl) w.heap.size (by rfl) TTg t.cells (0, 0) _ r6t.out Tryz.underlying27 rfl infoTTg ?_
    | refine wpList_load_row_g (by rfl) TTg _ (by rfl) w1.heap.size (by rfl) TTg zeroT.cells (0, 0) _ r6a.out Tryz.underlying27 rfl infoTTg ?_
    | refine wpList_load_row_g (by rfl) TTg _ (by rfl) w4.heap.size (by rfl) TTg zeroT.cells (0, 0) _ r6b.out Tryz.underlying27 rfl infoTTg ?_
    | (go_at_call 9; (with_reducible refine (tIs_v t false HF _ hl5).mono ?_); rintro e w6 ⟨rfl, hb6⟩; have r6b := Lib.hid (blk_below2 hb6 r5b.out); have r6a := Lib.hid (blk_below2 hb6 r5a.out); have r6t := Lib.hid (blk_below2 hb6 r5t.out); have hl6 := hl5.below hb6; have k6 := Lib.hid (below_two k5.out hb6))
    | refine wpList_load_row_g (by rfl) TTg _ (by rfl) w.heap.size (by rfl) TTg t.cells (0, 0) _ r5t.out Tryz.underlying27 rfl infoTTg ?_
    | refine wpList_load_row_g (by rfl) TTg _ (by rfl) w1.heap.size (by rfl) TTg zeroT.cells (0, 0) _ r5a.out Tryz.underlying27 rfl infoTTg ?_
    | refine wpList_load_row_g (by rfl) TTg _ (by rfl) w4.heap.size (by rfl) TTg zeroT.cells (0, 0) _ r5b.out Tryz.underlying27 rfl infoTTg ?_
    | (refine wpList_store_row (by rfl) TTg _ _ (by rfl) w4.heap.size zeroT.cells (by rfl) (by rfl) TTg zeroT.cells (heap_alloc_new w4 _) infoTTg rfl (tcells_one _) ?_; change wpList _ _ _ _ _ (stored w4 TTg zeroT.cells zeroT.cells); have r5b := Lib.hid (stored_new w4 TTg zeroT.cells zeroT.cells); have r5a := Lib.hid (stored_old (t := TTg) (o := zeroT.cells) (cs := zeroT.cells) r4a.out); have r5t := Lib.hid (stored_old (t := TTg) (o := zeroT.cells) (cs := zeroT.cells) r4t.out); have hl5 := hl4.below (stored_below w4 TTg zeroT.cells zeroT.cells); have k5 := Lib.hid (k4.out.trans ((stored_below w4 TTg zeroT.cells zeroT.cells).mono k4.out.size)); generalize stored w4 TTg zeroT.cells zeroT.cells = w5 at *)
    | (go_at_call 15; (with_reducible refine (HPC.out _ hl3).mono ?_); rintro e w4 ⟨rfl, hb4⟩; have r4a := Lib.hid (blk_below2 hb4 r3a.out); have r4t := Lib.hid (blk_below2 hb4 r3t.out); have hl4 := hl3.below hb4; have k4 := Lib.hid (below_two k3.out hb4))
    | (go_at_call 13; (with_reducible refine (tText_is t ⟨#[]⟩ HT _ hl2).mono ?_); rintro e w3 ⟨rfl, hb3⟩; have r3a := Lib.hid (blk_below2 hb3 r2a.out); have r3t := Lib.hid (blk_below2 hb3 r2t.out); have hl3 := hl2.below hb3; have k3 := Lib.hid (below_two k2.out hb3))
    | refine wpList_load_row_g (by rfl) TTg _ (by rfl) w.heap.size (by rfl) TTg t.cells (0, 0) _ r2t.out Tryz.underlying27 rfl infoTTg ?_
    | refine wpList_load_row_g (by rfl) TTg _ (by rfl) w1.heap.size (by rfl) TTg zeroT.cells (0, 0) _ r2a.out Tryz.underlying27 rfl infoTTg ?_
    | (refine wpList_store_row (by rfl) TTg _ _ (by rfl) w1.heap.size zeroT.cells (by rfl) (by rfl) TTg zeroT.cells (heap_alloc_new w1 _) infoTTg rfl (tcells_one _) ?_; change wpList _ _ _ _ _ (stored w1 TTg zeroT.cells zeroT.cells); have r2a := Lib.hid (stored_new w1 TTg zeroT.cells zeroT.cells); have r2t := Lib.hid (stored_old (t := TTg) (o := zeroT.cells) (cs := zeroT.cells) r1t.out); have hl2 := hl1.below (stored_below w1 TTg zeroT.cells zeroT.cells); have k2 := Lib.hid (k1.out.trans ((stored_below w1 TTg zeroT.cells zeroT.cells).mono k1.out.size)); generalize stored w1 TTg zeroT.cells zeroT.cells = w2 at *)
    | (go_at_call 15; (with_reducible refine (HSC.out _ hlA).mono ?_); rintro e w1 ⟨rfl, hb1⟩; have r1t := Lib.hid (blk_below2 hb1 r0t.out); have hl1 := hlA.below hb1; have k1 := Lib.hid (below_two k0.out hb1)))
  go_ret
  exact ⟨ret_bool (by simp), k8.out⟩
theorem triggerBack_law (t : Tg) (s : ByteArray) (w : World) (hl : LaidT w) : Calls Tryz.prog 5 #[.agg t.cells, .string s] w fun e w' => e = .returned (.bool true) ∧ Below w.heap.size w w' := by
  by_cases hs : 100 < t.f.sub.size ∨ 500 < s.size
  · exact tback_long t s hs w hl
  have h1 : t.f.sub.size ≤ 100 := by omega
  have h2 : s.size ≤ 500 := by omega
  cases hp : tgParse (L s) with
  | some a =>
    obtain ⟨ha, hx⟩ := tgParse_back hp
    have hx2 : B (tgText a) = s := by rw [hx, B_L]
    cases hf : tgIs t with
    | true => exact tback_some_yes t s h1 h2 (Lib.hid hf) a (Lib.hid hp) (Lib.hid ha) (Lib.hid hx2) w hl
    | false => exact tback_some_no t s h1 h2 (Lib.hid hf) a (Lib.hid hp) (Lib.hid ha) (Lib.hid hx2) w hl
  | none =>
    cases hf : tgIs t with
    | true => exact tback_none_yes t s h1 h2 (Lib.hid hf) (Lib.hid hp) w hl
    | false => exact tback_none_no t s h1 h2 (Lib.hid hf) (Lib.hid hp) w hl
end Go.Proofs.YtnibonmeihdjbaaGreatDoor
