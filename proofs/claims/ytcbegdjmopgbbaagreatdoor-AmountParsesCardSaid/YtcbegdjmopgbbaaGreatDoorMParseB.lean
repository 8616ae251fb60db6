/- Walks: package amount: Parse. Conditions: LaidM; the text is shorter than 100 million bytes. -/
import Derived.Test.YtcbegdjmopgbbaaGreatDoorMParse
namespace Go.Proofs.YtcbegdjmopgbbaaGreatDoor
set_option linter.all false
open Go.ChangeShapes Go.WideShapes Go.RowKit
def amRet (o : Option Am) : Value := match o with | some r => .tuple #[.agg r.cells, .int .i64 0] | none => .tuple #[.agg zeroA.cells, .int .i64 3]
theorem guess_is (s : ByteArray) (a : Am) (h : Hid (guessA (L s) = a)) (hs : s.size < 100000000) (w : World) (hl : LaidM w) : Calls Tryz.prog 25 #[.string s] w fun e w' => e = .returned (.agg a.cells) ∧ Below w.heap.size w w' :=
  (guess_any s w hl hs).mono fun e w' h' => ⟨by rw [h'.1, h.out], h'.2⟩
set_option maxRecDepth 100000 in
set_option maxHeartbeats 1000000 in
theorem aParse_empty (s : ByteArray) (h0 : s = ⟨#[]⟩) (hs : s.size < 100000000) (a : Am) (HG : Hid (guessA (L s) = a)) (w : World) (hl : LaidM w) :
    Calls Tryz.prog 13 #[.string s] w fun e w' => e = .returned (.tuple #[.agg zeroA.cells, .int .i64 3]) ∧ Below w.heap.size w w' := by
  subst h0
  have hss8 : Hid ((⟨#[]⟩ : ByteArray).size < 100000000) := Lib.hid hs
  have hl1 := hl.alloc (.cells zeroA.cells TAm)
  have S0 : Hid (ASt w (w.alloc (.cells zeroA.cells TAm))) := Lib.hid ⟨heap_alloc_new w _, (Below.refl _ _).alloc (Nat.le_refl _) _⟩
  go_enter Tryz.func13, Tryz.ntmps13
  go_wp2_with (first | (rw [wpList_skip_eq]; rotate_left; · rfl) | (go_at_call 25; (refine (guess_is ⟨#[]⟩ a HG hss8.out _ hl1).mono ?_); rintro e w1 ⟨rfl, hb1⟩; have S1 := Lib.hid (ASt.below S0.out hb1)) | (refine wpList_store_row (by rfl) TAm _ _ (by rfl) w1.heap.size a.cells (by rfl) (by rfl) TAm zeroA.cells (heap_alloc_new w1 _) infoTAm rfl (acells_one _) ?_; change wpList _ _ _ _ _ (stored w1 TAm zeroA.cells a.cells); have g2 := Lib.hid (stored_new w1 TAm zeroA.cells a.cells); have S2 := Lib.hid (ASt.below S1.out (stored_below w1 TAm zeroA.cells a.cells)); have hl2 := hl.below S2.out.2; generalize stored w1 TAm zeroA.cells a.cells = w2 at *) | refine wpList_store_row (by rfl) TAm _ _ (by rfl) w.heap.size zeroA.cells (by rfl) (by rfl) TAm zeroA.cells S2.out.1 infoTAm rfl (acells_one _) ?_)
  exact bodyPost_ret (results_row_tmp rfl _ _ w.heap.size TAm zeroA.cells (0, 0) _ rfl (row_set S2.out.1) Tryz.underlying27 rfl infoTAm) rfl ⟨rfl, below_setRow S2.out.2 (Nat.le_refl _) _⟩
set_option maxRecDepth 100000 in
set_option maxHeartbeats 1000000 in
theorem aParse_no (s : ByteArray) (t0 : ¬ s.toList = []) (t1 : s.toList.isEmpty = false) (hs : s.size < 100000000) (a : Am) (T : ByteArray) (HG : Hid (guessA (L s) = a)) (HT : Hid (B (amText a) = T)) (t3 : (T.toList == s.toList) = false) (w : World) (hl : LaidM w) :
    Calls Tryz.prog 13 #[.string s] w fun e w' => e = .returned (.tuple #[.agg zeroA.cells, .int .i64 3]) ∧ Below w.heap.size w w' := by
  have hss8 : Hid (s.size < 100000000) := Lib.hid hs
  have hl1 := hl.alloc (.cells zeroA.cells TAm)
  have S0 : Hid (ASt w (w.alloc (.cells zeroA.cells TAm))) := Lib.hid ⟨heap_alloc_new w _, (Below.refl _ _).alloc (Nat.le_refl _) _⟩
  have t4 : (!T.toList == s.toList) = true := by rw [t3]; rfl
  go_enter Tryz.func13, Tryz.ntmps13
  go_wp2_with (first | (rw [wpList_skip_eq]; rotate_left; · rfl) | (go_at_call 25; (refine (guess_is s a HG hss8.out _ hl1).mono ?_); rintro e w1 ⟨rfl, hb1⟩; have S1 := Lib.hid (ASt.below S0.out hb1)) | (refine wpList_store_row (by rfl) TAm _ _ (by rfl) w1.heap.size a.cells (by rfl) (by rfl) TAm zeroA.cells (heap_alloc_new w1 _) infoTAm rfl (acells_one _) ?_; change wpList _ _ _ _ _ (stored w1 TAm zeroA.cells a.cells); have g2 := Lib.hid (stored_new w1 TAm zeroA.cells a.cells); have S2 := Lib.hid (ASt.below S1.out (stored_below w1 TAm zeroA.cells a.cells)); have hl2 := hl.below S2.out.2; generalize stored w1 TAm zeroA.cells a.cells = w2 at *) | refine wpList_load_row_g (by rfl) TAm _ (by rfl) w1.heap.size (by rfl) TAm a.cells (0, 0) _ g2.out Tryz.underlying27 rfl infoTAm ?_ | (go_at_call 11; (with_reducible refine (aText_is a T HT _ hl2).mono ?_); rintro e w3 ⟨rfl, hb3⟩; have S3 := Lib.hid (ASt.below S2.out hb3); have g3 := Lib.hid (blk_below2 hb3 g2.out)) | refine wpList_store_row (by rfl) TAm _ _ (by rfl) w.heap.size zeroA.cells (by rfl) (by rfl) TAm zeroA.cells S3.out.1 infoTAm rfl (acells_one _) ?_)
  exact bodyPost_ret (results_row_tmp rfl _ _ w.heap.size TAm zeroA.cells (0, 0) _ rfl (row_set S3.out.1) Tryz.underlying27 rfl infoTAm) rfl ⟨rfl, below_setRow S3.out.2 (Nat.le_refl _) _⟩
set_option maxRecDepth 100000 in
set_option maxHeartbeats 1000000 in
theorem aParse_yes (s : ByteArray) (t0 : ¬ s.toList = []) (t1 : s.toList.isEmpty = false) (hs : s.size < 100000000) (a : Am) (T : ByteArray) (HG : Hid (guessA (L s) = a)) (HT : Hid (B (amText a) = T)) (t3 : (T.toList == s.toList) = true) (w : World) (hl : LaidM w) :
    Calls Tryz.prog 13 #[.string s] w fun e w' => e = .returned (.tuple #[.agg a.cells, .int .i64 0]) ∧ Below w.heap.size w w' := by
  have hss8 : Hid (s.size < 100000000) := Lib.hid hs
  have hl1 := hl.alloc (.cells zeroA.cells TAm)
  have S0 : Hid (ASt w (w.alloc (.cells zeroA.cells TAm))) := Lib.hid ⟨heap_alloc_new w _, (Below.refl _ _).alloc (Nat.le_refl _) _⟩
  go_enter Tryz.func13, Tryz.ntmps13
  go_wp2_with (first | (rw [wpList_skip_eq]; rotate_left; · rfl) | (go_at_call 25; (refine (guess_is s a HG hss8.out _ hl1).mono ?_); rintro e w1 ⟨rfl, hb1⟩; have S1 := Lib.hid (ASt.below S0.out hb1)) | (refine wpList_store_row (by rfl) TAm _ _ (by rfl) w1.heap.size a.cells (by rfl) (by rfl) TAm zeroA.cells (heap_alloc_new w1 _) infoTAm rfl (acells_one _) ?_; change wpList _ _ _ _ _ (stored w1 TAm zeroA.cells a.cells); have g2 := Lib.hid (stored_new w1 TAm zeroA.cells a.cells); have S2 := Lib.hid (ASt.below S1.out (stored_below w1 TAm zeroA.cells a.cells)); have hl2 := hl.below S2.out.2; generalize stored w1 TAm zeroA.cells a.cells = w2 at *) | refine wpList_load_row_g (by rfl) TAm _ (by rfl) w1.heap.size (by rfl) TAm a.cells (0, 0) _ g3.out Tryz.underlying27 rfl infoTAm ?_ | refine wpList_load_row_g (by rfl) TAm _ (by rfl) w1.heap.size (by rfl) TAm a.cells (0, 0) _ g2.out Tryz.underlying27 rfl infoTAm ?_ | (go_at_call 11; (with_reducible refine (aText_is a T HT _ hl2).mono ?_); rintro e w3 ⟨rfl, hb3⟩; have S3 := Lib.hid (ASt.below S2.out hb3); have g3 := Lib.hid (blk_below2 hb3 g2.out)) | refine wpList_store_row (by rfl) TAm _ _ (by rfl) w.heap.size a.cells (by rfl) (by rfl) TAm zeroA.cells S3.out.1 infoTAm rfl (acells_one _) ?_)
  exact bodyPost_ret (results_row_tmp rfl _ _ w.heap.size TAm a.cells (0, 0) _ rfl (row_set S3.out.1) Tryz.underlying27 rfl infoTAm) rfl ⟨rfl, below_setRow S3.out.2 (Nat.le_refl _) _⟩
theorem aParse_any (s : ByteArray) (w : World) (hl : LaidM w) (hs : s.size < 100000000) :
    Calls Tryz.prog 13 #[.string s] w fun e w' => e = .returned (amRet (amParse (L s))) ∧ Below w.heap.size w w' := by
  by_cases h0 : L s = []
  · have e : s = ⟨#[]⟩ := L_inj h0
    rw [show amParse (L s) = none by rw [h0]; exact amParse_empty]
    exact aParse_empty s e hs _ (Lib.hid rfl) w hl
  · have t0 : ¬ s.toList = [] := by rw [L_toList]; exact h0
    have t1 : s.toList.isEmpty = false := by simpa using t0
    by_cases ht : amText (guessA (L s)) = L s
    · rw [show amParse (L s) = some (guessA (L s)) from if_pos ⟨h0, ht⟩]
      exact aParse_yes s t0 t1 hs _ _ (Lib.hid rfl) (Lib.hid rfl) (by rw [B_toList, L_toList]; simpa using ht) w hl
    · rw [show amParse (L s) = none from if_neg (fun h => ht h.2)]
      exact aParse_no s t0 t1 hs _ _ (Lib.hid rfl) (Lib.hid rfl) (by rw [B_toList, L_toList]; simpa using ht) w hl
theorem aParse_some (s : ByteArray) (r : Am) (h : Hid (amParse (L s) = some r)) (hs : s.size < 100000000) (w : World) (hl : LaidM w) : Calls Tryz.prog 13 #[.string s] w fun e w' => e = .returned (.tuple #[.agg r.cells, .int .i64 0]) ∧ Below w.heap.size w w' :=
  (aParse_any s w hl hs).mono fun e w' ⟨he, hb⟩ => ⟨by rw [he, h.out]; rfl, hb⟩
theorem aParse_none (s : ByteArray) (h : Hid (amParse (L s) = none)) (hs : s.size < 100000000) (w : World) (hl : LaidM w) : Calls Tryz.prog 13 #[.string s] w fun e w' => e = .returned (.tuple #[.agg zeroA.cells, .int .i64 3]) ∧ Below w.heap.size w w' :=
  (aParse_any s w hl hs).mono fun e w' ⟨he, hb⟩ => ⟨by rw [he, h.out]; rfl, hb⟩
end Go.Proofs.YtcbegdjmopgbbaaGreatDoor
