/- Walks of the reference: package cardgameref16: Parse. Conditions: the text is shorter than 100 million bytes. -/
import Derived.Test.YtbiakbogpbncfaaGreatDoorSRText
import Derived.Test.YtbiakbogpbncfaaGreatDoorSQ
import Derived.Test.YtbiakbogpbncfaaGreatDoorSParse
import Derived.Test.YtbiakbogpbncfaaGreatDoorRParse
namespace Go.Proofs.YtbiakbogpbncfaaGreatDoor
set_option linter.all false
open Go.ChangeShapes Go.WideShapes Go.RowKit
theorem build_row (k n : Int) (w : World) : (Instr.build TRf #[(0, .int .i64 k), (1, .int .i64 n)]).run Tryz.prog w = .ok (.agg (Rf.cells ⟨k, n, zeroF⟩)) w := by kernel_rfl
theorem rrText_is (r : Rf) (T : ByteArray) (hT : Hid (B (refText r) = T)) (w : World) :
    Calls Tryz.prog 12 #[.agg r.cells] w fun e w' => e = .returned (.string T) ∧ Below w.heap.size w w' :=
  (rrText_v r w).mono fun e w' h => ⟨by rw [h.1, hT.out], h.2⟩
/-- The result's row stands, empty; nothing older has turned. -/
def RSt (w wr : World) : Prop := wr.heap[w.heap.size]? = some (.cells zeroR.cells TRf) ∧ Below w.heap.size w wr
theorem RSt.below {w w1 w2 : World} (h : RSt w w1) (hb : Below w1.heap.size w1 w2) : RSt w w2 := ⟨blk_below2 hb h.1, below_two h.2 hb⟩
theorem cand_step {k n : Nat} (h : n < 5) : candN k n = (k, n) :: candN k (n + 1) := by
  unfold candN; rw [show 5 - n = (5 - (n + 1)) + 1 by omega, List.range'_succ]; rfl
theorem cand_no {s : Str} {k n : Nat} {o : Option (Nat × Nat)} {m : List (Nat × Nat)} (h : n < 5) (hq : qHit s (k, n) = false) (ho : o = (candN k n ++ m).find? (qHit s)) : o = (candN k (n + 1) ++ m).find? (qHit s) := by
  rw [ho, cand_step h, List.cons_append, List.find?_cons, hq]
theorem cand_yes {s : Str} {k n : Nat} {o : Option (Nat × Nat)} {m : List (Nat × Nat)} (h : n < 5) (hq : qHit s (k, n) = true) (ho : o = (candN k n ++ m).find? (qHit s)) : o = some (k, n) := by
  rw [ho, cand_step h, List.cons_append, List.find?_cons, hq]
set_option maxRecDepth 100000 in
set_option maxHeartbeats 4000000 in
theorem rrParse_any (s : ByteArray) (w : World) (hs : s.size < 100000000) :
    Calls Tryz.prog 14 #[.string s] w fun e w' => e = .returned (refRet (qRefParse (L s))) ∧ Below w.heap.size w w' := by
  obtain ⟨R, hR⟩ : ∃ R, qRefParse (L s) = R := ⟨_, rfl⟩
  rw [hR]
  have HR := Lib.hid hR
  clear hR
  have hg := get_l s
  go_enter Tryz.func14, Tryz.ntmps14
  go_wp2
  go_loopw [4] (fun kv wr => ∃ k : Nat, 1 ≤ k ∧ k ≤ 9 ∧ kv = .int .i64 k ∧ Hid (RSt w wr) ∧ Hid (qLoop (L s) = (candK k (9 - k)).find? (qHit (L s)))) (fun kv _ => 9 - (intOf kv).toNat)
  case atStart => exact ⟨1, by omega, by omega, rfl, Lib.hid ⟨heap_alloc_new w _, (Below.refl _ _).alloc (Nat.le_refl _) _⟩, rfl⟩
  case round =>
    obtain ⟨k, hk1, hk2, rfl, HS, HL⟩ := hrel
    by_cases hlt : k ≤ 8
    · have hk8 : (k : Int) ≤ 8 := by omega
      go_wp2
      obtain ⟨wo, rfl⟩ : ∃ wo : World, wo = wr := ⟨_, rfl⟩
      go_loopw [5] (fun nv wi => ∃ n : Nat, n ≤ 5 ∧ nv = .int .i64 n ∧ Hid (RSt w wi) ∧ Hid (qLoop (L s) = (candN k n ++ candK (k + 1) (8 - k)).find? (qHit (L s)))) (fun nv _ => 5 - (intOf nv).toNat)
      case atStart => exact ⟨0, by omega, rfl, HS, Lib.hid (by rw [HL.out, show 9 - k = (8 - k) + 1 by omega]; rfl)⟩
      case round =>
        obtain ⟨n, hn, rfl, HSi, HLi⟩ := hrel
        by_cases hln : n < 5
        · have hn4 : (n : Int) ≤ 4 := by omega
          obtain ⟨r, hr⟩ : ∃ r, rowOf k n = r := ⟨_, rfl⟩
          have HB : Hid (∀ wx : World, (Instr.build TRf #[(0, .int .i64 k), (1, .int .i64 n)]).run Tryz.prog wx = .ok (.agg r.cells) wx) := Lib.hid (fun wx => by rw [← hr]; exact build_row _ _ wx)
          obtain ⟨T, hT⟩ : ∃ T, B (refText r) = T := ⟨_, rfl⟩
          have HT := Lib.hid hT
          have hh : qHit (L s) (k, n) = (!(k == 4) && (refIs r 4 && refText r == L s)) := by unfold qHit; rw [hr]
          by_cases h4 : k = 4
          · have HN := Lib.hid (cand_no hln (by rw [hh, h4]; rfl) HLi.out)
            have t4 : ((k : Int) != 4) = false := by rw [h4]; rfl
            clear hh hT hr h4
            go_wp2_with (first | refine wpList_build2 rfl TRf 0 1 (.tmp 18) (.tmp 19) rfl (.int .i64 k) (.int .i64 n) (.agg r.cells) rfl rfl (HB.out _) ?_ | (refine wpList_store_row rfl TRf (.tmp 6) (.tmp 20) rfl wr.heap.size r.cells rfl rfl TRf zeroR.cells (heap_alloc_new wr _) infoTRf rfl (rcells_one _) ?_; change wpList _ _ _ _ _ (stored wr TRf zeroR.cells r.cells); have g2 := Lib.hid (stored_new wr TRf zeroR.cells r.cells); have S2 := Lib.hid (RSt.below HSi.out (stored_below wr TRf zeroR.cells r.cells)); generalize stored wr TRf zeroR.cells r.cells = w2 at *))
            go_roundw
            case rel => exact ⟨n + 1, by omega, by go_num, S2, HN⟩
            case measure => simp [intOf]; omega
          · have t4 : ((k : Int) != 4) = true := by simp; omega
            cases hv : refIs r 4 with
            | false =>
              have HV := Lib.hid hv
              have HN := Lib.hid (cand_no hln (by rw [hh, hv]; simp) HLi.out)
              clear hh hT hr hv
              go_wp2_with (first | refine wpList_build2 rfl TRf 0 1 (.tmp 18) (.tmp 19) rfl (.int .i64 k) (.int .i64 n) (.agg r.cells) rfl rfl (HB.out _) ?_ | (refine wpList_store_row rfl TRf (.tmp 6) (.tmp 20) rfl wr.heap.size r.cells rfl rfl TRf zeroR.cells (heap_alloc_new wr _) infoTRf rfl (rcells_one _) ?_; change wpList _ _ _ _ _ (stored wr TRf zeroR.cells r.cells); have g2 := Lib.hid (stored_new wr TRf zeroR.cells r.cells); have S2 := Lib.hid (RSt.below HSi.out (stored_below wr TRf zeroR.cells r.cells)); generalize stored wr TRf zeroR.cells r.cells = w2 at *) | refine wpList_load_row_g rfl TRf (.tmp 6) rfl wr.heap.size rfl TRf r.cells (0, 0) _ g2.out Tryz.underlying27 rfl infoTRf ?_ | (go_at_call 10; (with_reducible refine (rrIs_v r 4 false HV _).mono ?_); rintro e w3 ⟨rfl, hb3⟩; have g3 := Lib.hid (blk_below2 hb3 g2.out); have S3 := Lib.hid (RSt.below S2.out hb3)))
              go_roundw
              case rel => exact ⟨n + 1, by omega, by go_num, S3, HN⟩
              case measure => simp [intOf]; omega
            | true =>
              have HV := Lib.hid hv
              by_cases ht : refText r = L s
              · have t3 : (T.toList == s.toList) = true := by rw [← hT, B_toList, L_toList]; simpa using ht
                have HP := Lib.hid (cand_yes hln (by rw [hh, hv, ht]; simp [h4]) HLi.out)
                have HN : Hid (some r = R) := Lib.hid (by rw [← HR.out, ← hr]; unfold qRefParse; rw [HP.out])
                clear hh hT hr hv ht HP
                go_wp2_with (first | refine wpList_build2 rfl TRf 0 1 (.tmp 18) (.tmp 19) rfl (.int .i64 k) (.int .i64 n) (.agg r.cells) rfl rfl (HB.out _) ?_ | (refine wpList_store_row rfl TRf (.tmp 6) (.tmp 20) rfl wr.heap.size r.cells rfl rfl TRf zeroR.cells (heap_alloc_new wr _) infoTRf rfl (rcells_one _) ?_; change wpList _ _ _ _ _ (stored wr TRf zeroR.cells r.cells); have g2 := Lib.hid (stored_new wr TRf zeroR.cells r.cells); have S2 := Lib.hid (RSt.below HSi.out (stored_below wr TRf zeroR.cells r.cells)); generalize stored wr TRf zeroR.cells r.cells = w2 at *) | refine wpList_load_row_g rfl TRf (.tmp 6) rfl wr.heap.size rfl TRf r.cells (0, 0) _ g3.out Tryz.underlying27 rfl infoTRf ?_ | refine wpList_load_row_g rfl TRf (.tmp 6) rfl wr.heap.size rfl TRf r.cells (0, 0) _ g2.out Tryz.underlying27 rfl infoTRf ?_ | refine wpList_load_row rfl TRf (.tmp 6) rfl wr.heap.size rfl TRf r.cells (0, 0) _ g4.out Tryz.underlying27 rfl infoTRf ?_ | (go_at_call 10; (with_reducible refine (rrIs_v r 4 true HV _).mono ?_); rintro e w3 ⟨rfl, hb3⟩; have g3 := Lib.hid (blk_below2 hb3 g2.out); have S3 := Lib.hid (RSt.below S2.out hb3)) | (go_at_call 12; (with_reducible refine (rrText_is r T HT _).mono ?_); rintro e w4 ⟨rfl, hb4⟩; have g4 := Lib.hid (blk_below2 hb4 g3.out); have S4 := Lib.hid (RSt.below S3.out hb4)) | refine wpList_store_row rfl TRf (.tmp 2) (.tmp 33) rfl w.heap.size r.cells rfl rfl TRf zeroR.cells S4.out.1 infoTRf rfl (rcells_one _) ?_)
                exact bodyPost_ret (results_row_tmp rfl _ _ w.heap.size TRf r.cells (0, 0) _ rfl (row_set S4.out.1) Tryz.underlying27 rfl infoTRf) rfl ⟨ret_val (by rw [← HN.out]; rfl), below_setRow S4.out.2 (Nat.le_refl _) _⟩
              · have t3 : (T.toList == s.toList) = false := by rw [← hT, B_toList, L_toList]; simpa using ht
                have HN := Lib.hid (cand_no hln (by rw [hh, hv]; simp [ht]) HLi.out)
                clear hh hT hr hv ht
                go_wp2_with (first | refine wpList_build2 rfl TRf 0 1 (.tmp 18) (.tmp 19) rfl (.int .i64 k) (.int .i64 n) (.agg r.cells) rfl rfl (HB.out _) ?_ | (refine wpList_store_row rfl TRf (.tmp 6) (.tmp 20) rfl wr.heap.size r.cells rfl rfl TRf zeroR.cells (heap_alloc_new wr _) infoTRf rfl (rcells_one _) ?_; change wpList _ _ _ _ _ (stored wr TRf zeroR.cells r.cells); have g2 := Lib.hid (stored_new wr TRf zeroR.cells r.cells); have S2 := Lib.hid (RSt.below HSi.out (stored_below wr TRf zeroR.cells r.cells)); generalize stored wr TRf zeroR.cells r.cells = w2 at *) | refine wpList_load_row_g rfl TRf (.tmp 6) rfl wr.heap.size rfl TRf r.cells (0, 0) _ g3.out Tryz.underlying27 rfl infoTRf ?_ | refine wpList_load_row_g rfl TRf (.tmp 6) rfl wr.heap.size rfl TRf r.cells (0, 0) _ g2.out Tryz.underlying27 rfl infoTRf ?_ | (go_at_call 10; (with_reducible refine (rrIs_v r 4 true HV _).mono ?_); rintro e w3 ⟨rfl, hb3⟩; have g3 := Lib.hid (blk_below2 hb3 g2.out); have S3 := Lib.hid (RSt.below S2.out hb3)) | (go_at_call 12; (with_reducible refine (rrText_is r T HT _).mono ?_); rintro e w4 ⟨rfl, hb4⟩; have g4 := Lib.hid (blk_below2 hb4 g3.out); have S4 := Lib.hid (RSt.below S3.out hb4)))
                go_roundw
                case rel => exact ⟨n + 1, by omega, by go_num, S4, HN⟩
                case measure => simp [intOf]; omega
        · obtain rfl : n = 5 := by omega
          have HN : Hid (qLoop (L s) = (candK (k + 1) (9 - (k + 1))).find? (qHit (L s))) := Lib.hid (by rw [HLi.out, show 9 - (k + 1) = 8 - k by omega]; rfl)
          go_wp2
          go_roundw
          case rel => exact ⟨k + 1, by omega, by omega, by go_num, HSi, HN⟩
          case measure => simp [intOf]; omega
    · obtain rfl : k = 9 := by omega
      have HE : Hid ((if qShape (L s) = true then (match parseS (qInner (L s)) with | some f => some (⟨4, 0, f⟩ : Rf) | none => none) else none) = R) := Lib.hid (by rw [← HR.out]; unfold qRefParse; rw [HL.out]; rfl)
      clear HL HR
      have hx0 : L (s.extract 0 5) = (L s).take 5 := by rw [L_extract]; rfl
      by_cases h6 : s.size < 6
      · have HN : Hid (none = R) := Lib.hid (by rw [← HE.out, if_neg]; unfold qShape; rw [size_l, decide_eq_true h6]; simp)
        clear hx0 HE
        go_wp2_with (first | refine wpList_store_row rfl TRf (.tmp 2) (.tmp 50) rfl w.heap.size zeroR.cells rfl rfl TRf zeroR.cells HS.out.1 infoTRf rfl (rcells_one _) ?_)
        exact bodyPost_ret (results_row_tmp rfl _ _ w.heap.size TRf zeroR.cells (0, 0) _ rfl (row_set HS.out.1) Tryz.underlying27 rfl infoTRf) rfl ⟨ret_val (by rw [← HN.out]; rfl), below_setRow HS.out.2 (Nat.le_refl _) _⟩
      · by_cases h5 : (L s).take 5 = eachW
        · have t5 : ((s.extract 0 5).toList == [101, 97, 99, 104, 40]) = true := toList_lit_yes (hx0.trans h5)
          by_cases h41 : byt (L s) (s.size - 1) = 41
          · have t41 : (((byt (L s) (s.size - 1) : Nat) : Int) != 41) = false := by rw [h41]; rfl
            have HX : Hid (L (s.extract 5 (s.size - 1)) = qInner (L s)) := Lib.hid (by rw [L_extract]; unfold qInner; rw [size_l])
            have HE2 : Hid ((match parseS (qInner (L s)) with | some f => some (⟨4, 0, f⟩ : Rf) | none => none) = R) := Lib.hid (by rw [← HE.out, if_pos]; unfold qShape; rw [size_l, decide_eq_false h6, h5, h41]; rfl)
            have hxs : (s.extract 5 (s.size - 1)).size < 100000000 := by rw [ByteArray.size_extract]; omega
            have FP : ∀ wx, Calls Tryz.prog 24 #[.string (s.extract 5 (s.size - 1))] wx fun e w' => e = .returned (fltRet (parseS (qInner (L s)))) ∧ Below wx.heap.size wx w' := fun wx => (rParse_any _ wx hxs).mono fun e w' h => ⟨by rw [h.1, HX.out, qParse_eq], h.2⟩
            clear hx0 HE h5 h41 HX hxs
            cases hp : parseS (qInner (L s)) with
            | none =>
              rw [hp] at HE2 FP
              have HN : Hid (none = R) := HE2
              have HF := Lib.hid FP
              clear FP HE2 hp
              go_wp2_with (first | (go_at_call 24; (with_reducible refine (HF.out _).mono ?_); rintro e w5 ⟨rfl, hb5⟩; have S5 := Lib.hid (RSt.below HS.out hb5); dsimp only [fltRet]) | (refine wpList_store_row rfl TF (.tmp 8) (.tmp 57) rfl w5.heap.size zeroF.cells rfl rfl TF zeroF.cells (heap_alloc_new w5 _) infoTF rfl (cells_one _) ?_; change wpList _ _ _ _ _ (stored w5 TF zeroF.cells zeroF.cells); have g6 := Lib.hid (stored_new w5 TF zeroF.cells zeroF.cells); have S6 := Lib.hid (RSt.below S5.out (stored_below w5 TF zeroF.cells zeroF.cells)); generalize stored w5 TF zeroF.cells zeroF.cells = w6 at *) | refine wpList_store_row rfl TRf (.tmp 2) (.tmp 61) rfl w.heap.size zeroR.cells rfl rfl TRf zeroR.cells S6.out.1 infoTRf rfl (rcells_one _) ?_)
              exact bodyPost_ret (results_row_tmp rfl _ _ w.heap.size TRf zeroR.cells (0, 0) _ rfl (row_set S6.out.1) Tryz.underlying27 rfl infoTRf) rfl ⟨ret_val (by rw [← HN.out]; rfl), below_setRow S6.out.2 (Nat.le_refl _) _⟩
            | some f =>
              rw [hp] at HE2 FP
              have HN : Hid (some (⟨4, 0, f⟩ : Rf) = R) := HE2
              have HF := Lib.hid FP
              clear FP HE2 hp
              go_wp2_with (first | (go_at_call 24; (with_reducible refine (HF.out _).mono ?_); rintro e w5 ⟨rfl, hb5⟩; have S5 := Lib.hid (RSt.below HS.out hb5); dsimp only [fltRet]) | (refine wpList_store_row rfl TF (.tmp 8) (.tmp 57) rfl w5.heap.size f.cells rfl rfl TF zeroF.cells (heap_alloc_new w5 _) infoTF rfl (cells_one _) ?_; change wpList _ _ _ _ _ (stored w5 TF zeroF.cells f.cells); have g6 := Lib.hid (stored_new w5 TF zeroF.cells f.cells); have S6 := Lib.hid (RSt.below S5.out (stored_below w5 TF zeroF.cells f.cells)); generalize stored w5 TF zeroF.cells f.cells = w6 at *) | refine wpList_load_row rfl TF (.tmp 8) rfl w5.heap.size rfl TF f.cells (0, 0) _ g6.out Tryz.underlying25 rfl infoTF ?_ | refine wpList_build2 rfl TRf 0 2 _ _ rfl (.int .i64 4) (.agg f.cells) (.agg (Rf.cells ⟨4, 0, f⟩)) rfl rfl (build_each _ _) ?_ | refine wpList_store_row rfl TRf (.tmp 2) (.tmp 64) rfl w.heap.size (Rf.cells ⟨4, 0, f⟩) rfl rfl TRf zeroR.cells S6.out.1 infoTRf rfl (rcells_one _) ?_)
              exact bodyPost_ret (results_row_tmp rfl _ _ w.heap.size TRf (Rf.cells ⟨4, 0, f⟩) (0, 0) _ rfl (row_set S6.out.1) Tryz.underlying27 rfl infoTRf) rfl ⟨ret_val (by rw [← HN.out]; rfl), below_setRow S6.out.2 (Nat.le_refl _) _⟩
          · have t41 : (((byt (L s) (s.size - 1) : Nat) : Int) != 41) = true := by simp; omega
            have HN : Hid (none = R) := Lib.hid (by rw [← HE.out, if_neg]; unfold qShape; rw [size_l]; simp [h41])
            clear hx0 HE h5 h41
            go_wp2_with (first | refine wpList_store_row rfl TRf (.tmp 2) (.tmp 50) rfl w.heap.size zeroR.cells rfl rfl TRf zeroR.cells HS.out.1 infoTRf rfl (rcells_one _) ?_)
            exact bodyPost_ret (results_row_tmp rfl _ _ w.heap.size TRf zeroR.cells (0, 0) _ rfl (row_set HS.out.1) Tryz.underlying27 rfl infoTRf) rfl ⟨ret_val (by rw [← HN.out]; rfl), below_setRow HS.out.2 (Nat.le_refl _) _⟩
        · have t5 : ((s.extract 0 5).toList == [101, 97, 99, 104, 40]) = false := toList_lit_no (fun h => h5 (hx0.symm.trans h))
          have t6 : (!((s.extract 0 5).toList == [101, 97, 99, 104, 40])) = true := by rw [t5]; rfl
          have HN : Hid (none = R) := Lib.hid (by rw [← HE.out, if_neg]; unfold qShape; simp [h5])
          clear hx0 HE h5
          go_wp2_with (first | refine wpList_store_row rfl TRf (.tmp 2) (.tmp 50) rfl w.heap.size zeroR.cells rfl rfl TRf zeroR.cells HS.out.1 infoTRf rfl (rcells_one _) ?_)
          exact bodyPost_ret (results_row_tmp rfl _ _ w.heap.size TRf zeroR.cells (0, 0) _ rfl (row_set HS.out.1) Tryz.underlying27 rfl infoTRf) rfl ⟨ret_val (by rw [← HN.out]; rfl), below_setRow HS.out.2 (Nat.le_refl _) _⟩
end Go.Proofs.YtbiakbogpbncfaaGreatDoor
