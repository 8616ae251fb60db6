/- Walks of the reference: package cardgameref14: Inside, Parse. Conditions: the text is shorter than 100 million bytes. -/
import Derived.Test.YtcbegdjmopgbbaaGreatDoorMRef
import Derived.Test.YtcbegdjmopgbbaaGreatDoorMQ
namespace Go.Proofs.YtcbegdjmopgbbaaGreatDoor
set_option linter.all false
open Go.ChangeShapes Go.WideShapes Go.RowKit
theorem insideA_any (s : ByteArray) (o : Option Str) (ho : Hid (insideS (L s) countW = o)) (hs : s.size < 100000000) (w : World) :
    Calls Tryz.prog 27 #[.string s, .string ⟨#[99, 111, 117, 110, 116, 40]⟩] w fun e w' => e = .returned (aftRet o) ∧ w = w' := by
  have hg := get_l s
  have hx0 : L (s.extract 0 6) = (L s).take 6 := by rw [L_extract]; rfl
  have hd := ho.out
  unfold insideS insideOk at hd
  rw [size_l, show countW.length = 6 from rfl] at hd
  clear ho
  by_cases h6 : s.size < 7
  · rw [if_neg (by rw [decide_eq_true h6]; simp)] at hd
    subst hd
    clear hx0
    go_enter Tryz.func27, Tryz.ntmps27
    go_wp2_with (first | (rw [wpList_skip_eq]; rotate_left; · rfl) | fail)
    go_ret2
    exact ⟨rfl, rfl⟩
  · rw [decide_eq_false h6] at hd
    by_cases h5 : (L s).take 6 = countW
    · have t5 : ((s.extract 0 6).toList == [99, 111, 117, 110, 116, 40]) = true := toList_lit_yes (hx0.trans h5)
      by_cases h41 : byt (L s) (s.size - 1) = 41
      · have t41 : (((byt (L s) (s.size - 1) : Nat) : Int) != 41) = false := by rw [h41]; rfl
        rw [if_pos (by rw [h5, h41]; rfl)] at hd
        have HN : Hid (aftRet o = .tuple #[.string (s.extract 6 (s.size - 1)), .bool true]) := Lib.hid (by
          rw [← hd]
          show Value.tuple #[.string (B _), .bool true] = _
          rw [show s.extract 6 (s.size - 1) = B (((L s).take (s.size - 1)).drop 6) from L_inj (by rw [L_extract, L_B])])
        clear hx0 hd h5 h41
        go_enter Tryz.func27, Tryz.ntmps27
        go_wp2_with (first | (rw [wpList_skip_eq]; rotate_left; · rfl) | fail)
        go_ret2
        exact ⟨by rw [HN.out]; rfl, rfl⟩
      · have t41 : (((byt (L s) (s.size - 1) : Nat) : Int) != 41) = true := by simp; omega
        rw [if_neg (by simp [h41])] at hd
        subst hd
        clear hx0 h5 h41
        go_enter Tryz.func27, Tryz.ntmps27
        go_wp2_with (first | (rw [wpList_skip_eq]; rotate_left; · rfl) | fail)
        go_ret2
        exact ⟨rfl, rfl⟩
    · have t5 : ((s.extract 0 6).toList == [99, 111, 117, 110, 116, 40]) = false := toList_lit_no (fun h => h5 (hx0.symm.trans h))
      have t6 : (!((s.extract 0 6).toList == [99, 111, 117, 110, 116, 40])) = true := by rw [t5]; rfl
      rw [if_neg (by simp [h5])] at hd
      subst hd
      clear hx0 h5
      go_enter Tryz.func27, Tryz.ntmps27
      go_wp2_with (first | (rw [wpList_skip_eq]; rotate_left; · rfl) | fail)
      go_ret2
      exact ⟨rfl, rfl⟩
theorem rNum_is (s : ByteArray) (n : Int) (b : Bool) (h : Hid (numRet (rdNum (L s)) = .tuple #[.int .i64 n, .bool b])) (hs : s.size < 100000000) (w : World) : Calls Tryz.prog 26 #[.string s] w fun e w' => e = .returned (.tuple #[.int .i64 n, .bool b]) ∧ Below w.heap.size w w' :=
  (rNumber_any s w hs).mono fun e w' h' => ⟨by rw [h'.1, h.out], h'.2⟩
theorem num_form (o : Option Int) : ∃ n b, numRet o = .tuple #[.int .i64 n, .bool b] ∧ o.getD 0 = n ∧ (b = true → o = some n) ∧ (b = false → o = none) := by
  cases o with
  | none => exact ⟨0, false, rfl, rfl, (fun h => by cases h), fun _ => rfl⟩
  | some n => exact ⟨n, true, rfl, rfl, fun _ => rfl, (fun h => by cases h)⟩
set_option maxRecDepth 100000 in
set_option maxHeartbeats 4000000 in
theorem rAParse_any (s : ByteArray) (w : World) (hs : s.size < 100000000) :
    Calls Tryz.prog 14 #[.string s] w fun e w' => e = .returned (amRet (qAm (L s))) ∧ Below w.heap.size w w' := by
  obtain ⟨R, hR⟩ : ∃ R, qAm (L s) = R := ⟨_, rfl⟩
  rw [hR]
  have HR := Lib.hid hR
  clear hR
  have hg := get_l s
  go_enter Tryz.func14, Tryz.ntmps14
  go_wp2
  go_loopw [4] (fun kv wr => ∃ k : Nat, 1 ≤ k ∧ k ≤ 8 ∧ kv = .int .i64 k ∧ Hid (ASt w wr) ∧ Hid (findS (L s) = (List.range' k (8 - k)).find? (hitS (L s)))) (fun kv _ => 8 - (intOf kv).toNat)
  case atStart => exact ⟨1, by omega, by omega, rfl, Lib.hid ⟨heap_alloc_new w _, (Below.refl _ _).alloc (Nat.le_refl _) _⟩, rfl⟩
  case round =>
    obtain ⟨k, hk1, hk2, rfl, HS, HL⟩ := hrel
    by_cases hlt : k ≤ 7
    · have hk7 : (k : Int) ≤ 7 := by omega
      have hst := HL.out
      rw [show 8 - k = (8 - (k + 1)) + 1 by omega, List.range'_succ, List.find?_cons] at hst
      by_cases h2 : k = 2
      · have t2 : ((k : Int) != 2) = false := by rw [h2]; rfl
        have HN : Hid (findS (L s) = (List.range' (k + 1) (8 - (k + 1))).find? (hitS (L s))) := Lib.hid (by rw [hst, show hitS (L s) k = false by unfold hitS; rw [h2]; rfl])
        clear hst h2
        go_wp2_with (first | (rw [wpList_skip_eq]; rotate_left; · rfl) | fail)
        go_roundw
        case rel => exact ⟨k + 1, by omega, by omega, by go_num, HS, HN⟩
        case measure => simp [intOf]; omega
      by_cases h4 : k = 4
      · have t2 : ((k : Int) != 2) = true := by rw [h4]; rfl
        have t4 : ((k : Int) != 4) = false := by rw [h4]; rfl
        have HN : Hid (findS (L s) = (List.range' (k + 1) (8 - (k + 1))).find? (hitS (L s))) := Lib.hid (by rw [hst, show hitS (L s) k = false by unfold hitS; rw [h4]; rfl])
        clear hst h2 h4
        go_wp2_with (first | (rw [wpList_skip_eq]; rotate_left; · rfl) | fail)
        go_roundw
        case rel => exact ⟨k + 1, by omega, by omega, by go_num, HS, HN⟩
        case measure => simp [intOf]; omega
      · have t2 : ((k : Int) != 2) = true := by simp; omega
        have t4 : ((k : Int) != 4) = true := by simp; omega
        have hh : hitS (L s) k = (amText ⟨(k : Int), 0, 0, zeroF⟩ == L s) := by unfold hitS; rw [show (k == 2) = false by simpa using h2, show (k == 4) = false by simpa using h4]; rfl
        obtain ⟨T, hT⟩ : ∃ T, B (amText ⟨(k : Int), 0, 0, zeroF⟩) = T := ⟨_, rfl⟩
        have HT := Lib.hid hT
        by_cases hx : amText ⟨(k : Int), 0, 0, zeroF⟩ = L s
        · have t3 : (T.toList == s.toList) = true := by rw [← hT, B_toList, L_toList]; simpa using hx
          have HN : Hid (some (⟨(k : Int), 0, 0, zeroF⟩ : Am) = R) := Lib.hid (by
            rw [← HR.out]; unfold qAm
            rw [hst, show hitS (L s) k = true by rw [hh, hx]; simp])
          clear hst hh hx hT h2 h4
          go_wp2_with (first | (rw [wpList_skip_eq]; rotate_left; · rfl) | refine wpList_build1_g (by rfl) TAm 0 _ (by rfl) (.int .i64 k) (.agg (Am.cells ⟨(k : Int), 0, 0, zeroF⟩)) (by rfl) (build_ak _ _) ?_ | (go_at_call 12; (with_reducible refine (rAText_is ⟨(k : Int), 0, 0, zeroF⟩ T HT _).mono ?_); rintro e w3 ⟨rfl, hb3⟩; have S3 := Lib.hid (ASt.below HS.out hb3)) | refine wpList_store_row (by rfl) TAm _ _ (by rfl) w.heap.size (Am.cells ⟨(k : Int), 0, 0, zeroF⟩) (by rfl) (by rfl) TAm zeroA.cells S3.out.1 infoTAm rfl (acells_one _) ?_)
          exact bodyPost_ret (results_row_tmp rfl _ _ w.heap.size TAm (Am.cells ⟨(k : Int), 0, 0, zeroF⟩) (0, 0) _ rfl (row_set S3.out.1) Tryz.underlying27 rfl infoTAm) rfl ⟨ret_val (by rw [← HN.out]; rfl), below_setRow S3.out.2 (Nat.le_refl _) _⟩
        · have t3 : (T.toList == s.toList) = false := by rw [← hT, B_toList, L_toList]; simpa using hx
          have HN : Hid (findS (L s) = (List.range' (k + 1) (8 - (k + 1))).find? (hitS (L s))) := Lib.hid (by rw [hst, show hitS (L s) k = false by rw [hh]; simpa using hx])
          clear hst hh hx hT h2 h4
          go_wp2_with (first | (rw [wpList_skip_eq]; rotate_left; · rfl) | refine wpList_build1_g (by rfl) TAm 0 _ (by rfl) (.int .i64 k) (.agg (Am.cells ⟨(k : Int), 0, 0, zeroF⟩)) (by rfl) (build_ak _ _) ?_ | (go_at_call 12; (with_reducible refine (rAText_is ⟨(k : Int), 0, 0, zeroF⟩ T HT _).mono ?_); rintro e w3 ⟨rfl, hb3⟩; have S3 := Lib.hid (ASt.below HS.out hb3)))
          go_roundw
          case rel => exact ⟨k + 1, by omega, by omega, by go_num, S3, HN⟩
          case measure => simp [intOf]; omega
    · have hk8 : k = 8 := by omega
      have hk7 : ¬ (k : Int) ≤ 7 := by omega
      have HFS : Hid (findS (L s) = none) := Lib.hid (by rw [HL.out, hk8]; rfl)
      have HR1 : Hid ((match findC (L s) with | some c => some (⟨4, 0, (c : Int), zeroF⟩ : Am) | none => qNumA (L s)) = R) := Lib.hid (by have h := HR.out; unfold qAm at h; rw [HFS.out] at h; exact h)
      clear HL HFS HR
      go_wp2
      obtain ⟨wo, rfl⟩ : ∃ wo : World, wo = wr := ⟨_, rfl⟩
      go_loopw [5] (fun cv wr => ∃ c : Nat, c ≤ 3 ∧ cv = .int .i64 c ∧ Hid (ASt w wr) ∧ Hid (findC (L s) = (List.range' c (3 - c)).find? (hitC (L s)))) (fun cv _ => 3 - (intOf cv).toNat)
      case atStart => exact ⟨0, by omega, rfl, HS, rfl⟩
      case round =>
        clear HS
        obtain ⟨c, hc, rfl, HS, HC⟩ := hrel
        by_cases hltc : c < 3
        · have hc3 : (c : Int) < 3 := by omega
          have hst := HC.out
          rw [show 3 - c = (3 - (c + 1)) + 1 by omega, List.range'_succ, List.find?_cons] at hst
          have hh : hitC (L s) c = (amText ⟨4, 0, (c : Int), zeroF⟩ == L s) := rfl
          obtain ⟨T, hT⟩ : ∃ T, B (amText ⟨4, 0, (c : Int), zeroF⟩) = T := ⟨_, rfl⟩
          have HT := Lib.hid hT
          by_cases hx : amText ⟨4, 0, (c : Int), zeroF⟩ = L s
          · have t3 : (T.toList == s.toList) = true := by rw [← hT, B_toList, L_toList]; simpa using hx
            have HN : Hid (some (⟨4, 0, (c : Int), zeroF⟩ : Am) = R) := Lib.hid (by
              rw [← HR1.out, hst, show hitC (L s) c = true by rw [hh, hx]; simp])
            clear hst hh hx hT
            go_wp2_with (first | (rw [wpList_skip_eq]; rotate_left; · rfl) | refine wpList_build_g (by rfl) TAm 0 2 _ _ (by rfl) (.int .i64 4) (.int .i64 c) (.agg (Am.cells ⟨4, 0, (c : Int), zeroF⟩)) (by rfl) (by rfl) (build_ac _ _ _) ?_ | (go_at_call 12; (with_reducible refine (rAText_is ⟨4, 0, (c : Int), zeroF⟩ T HT _).mono ?_); rintro e w3 ⟨rfl, hb3⟩; have S3 := Lib.hid (ASt.below HS.out hb3)) | refine wpList_store_row (by rfl) TAm _ _ (by rfl) w.heap.size (Am.cells ⟨4, 0, (c : Int), zeroF⟩) (by rfl) (by rfl) TAm zeroA.cells S3.out.1 infoTAm rfl (acells_one _) ?_)
            exact bodyPost_ret (results_row_tmp rfl _ _ w.heap.size TAm (Am.cells ⟨4, 0, (c : Int), zeroF⟩) (0, 0) _ rfl (row_set S3.out.1) Tryz.underlying27 rfl infoTAm) rfl ⟨ret_val (by rw [← HN.out]; rfl), below_setRow S3.out.2 (Nat.le_refl _) _⟩
          · have t3 : (T.toList == s.toList) = false := by rw [← hT, B_toList, L_toList]; simpa using hx
            have HN : Hid (findC (L s) = (List.range' (c + 1) (3 - (c + 1))).find? (hitC (L s))) := Lib.hid (by rw [hst, show hitC (L s) c = false by rw [hh]; simpa using hx])
            clear hst hh hx hT
            go_wp2_with (first | (rw [wpList_skip_eq]; rotate_left; · rfl) | refine wpList_build_g (by rfl) TAm 0 2 _ _ (by rfl) (.int .i64 4) (.int .i64 c) (.agg (Am.cells ⟨4, 0, (c : Int), zeroF⟩)) (by rfl) (by rfl) (build_ac _ _ _) ?_ | (go_at_call 12; (with_reducible refine (rAText_is ⟨4, 0, (c : Int), zeroF⟩ T HT _).mono ?_); rintro e w3 ⟨rfl, hb3⟩; have S3 := Lib.hid (ASt.below HS.out hb3)))
            go_roundw
            case rel => exact ⟨c + 1, by omega, by go_num, S3, HN⟩
            case measure => simp [intOf]; omega
        · obtain rfl : c = 3 := by omega
          have HFC : Hid (findC (L s) = none) := Lib.hid (by rw [HC.out]; rfl)
          have HR2 : Hid (qNumA (L s) = R) := Lib.hid (by have h := HR1.out; rw [HFC.out] at h; exact h)
          clear HC HFC HR1
          obtain ⟨n, b, hnb, _, hbt, hbf⟩ := num_form (rdNum (L s))
          have HM := Lib.hid hnb
          have hss := Lib.hid hs
          cases b with
          | true =>
            have hrd := hbt rfl
            by_cases hn0 : 0 ≤ n
            · have HN : Hid (some (⟨0, n, 0, zeroF⟩ : Am) = R) := Lib.hid (by rw [← HR2.out]; unfold qNumA; rw [hrd]; simp only; rw [if_pos hn0])
              clear hnb hbt hbf hrd
              go_wp2_with (first | (rw [wpList_skip_eq]; rotate_left; · rfl) | (go_at_call 26; (with_reducible refine (rNum_is s n true HM hss.out _).mono ?_); rintro e w2 ⟨rfl, hb2⟩; have S2 := Lib.hid (ASt.below HS.out hb2)) | refine wpList_build_g (by rfl) TAm 0 1 _ _ (by rfl) (.int .i64 0) (.int .i64 n) (.agg (Am.cells ⟨0, n, 0, zeroF⟩)) (by rfl) (by rfl) (build_akn _ _ _) ?_ | refine wpList_store_row (by rfl) TAm _ _ (by rfl) w.heap.size (Am.cells ⟨0, n, 0, zeroF⟩) (by rfl) (by rfl) TAm zeroA.cells S2.out.1 infoTAm rfl (acells_one _) ?_)
              exact bodyPost_ret (results_row_tmp rfl _ _ w.heap.size TAm (Am.cells ⟨0, n, 0, zeroF⟩) (0, 0) _ rfl (row_set S2.out.1) Tryz.underlying27 rfl infoTAm) rfl ⟨ret_val (by rw [← HN.out]; rfl), below_setRow S2.out.2 (Nat.le_refl _) _⟩
            · have HTL : Hid (qTailA (L s) = R) := Lib.hid (by rw [← HR2.out]; unfold qNumA; rw [hrd]; simp only; rw [if_neg hn0])
              clear hnb hbt hbf hrd
              go_upto_region 14 with (first | (rw [wpList_skip_eq]; rotate_left; · rfl) | (go_at_call 26; (with_reducible refine (rNum_is s n true HM hss.out _).mono ?_); rintro e w2 ⟨rfl, hb2⟩; have S2 := Lib.hid (ASt.below HS.out hb2)))
              have HG8 : Hid (w.heap.size < w2.heap.size) := Lib.hid (blk_lt S2.out.1)
              go_wp2_with (first | (rw [wpList_skip_eq]; rotate_left; · rfl) | refine wpList_build_g (by rfl) TAm 0 1 _ _ (by rfl) (.int .i64 2) (.int .i64 1) (.agg (Am.cells ⟨2, 1, 0, zeroF⟩)) (by rfl) (by rfl) (build_akn _ _ _) ?_ | (refine wpList_store_row (by rfl) TAm _ _ (by rfl) w2.heap.size (Am.cells ⟨2, 1, 0, zeroF⟩) (by rfl) (by rfl) TAm zeroA.cells (heap_alloc_new w2 _) infoTAm rfl (acells_one _) ?_; change wpList _ _ _ _ _ (stored w2 TAm zeroA.cells (Am.cells ⟨2, 1, 0, zeroF⟩)); have g4 := Lib.hid (stored_new w2 TAm zeroA.cells (Am.cells ⟨2, 1, 0, zeroF⟩)); have S4 := Lib.hid (ASt.below S2.out (stored_below w2 TAm zeroA.cells (Am.cells ⟨2, 1, 0, zeroF⟩))); generalize stored w2 TAm zeroA.cells (Am.cells ⟨2, 1, 0, zeroF⟩) = w4 at *))
              generalize w2.heap.size = g8 at *
              go_loopw [9, 10] (fun rv iv wr => ∃ i : Nat, ∃ N : Int, ∃ r : Str, i ≤ s.size ∧ i ≤ 3 ∧ iv = .int .i64 i ∧ rv = .string (B r) ∧ r.length ≤ s.size ∧ Hid (ASt w wr) ∧ Hid (wr.heap[g8]? = some (.cells (Am.cells ⟨2, N, 0, zeroF⟩) TAm)) ∧ Hid (starTo (L s) i = (N, r))) (fun _ iv _ => 3 - (intOf iv).toNat)
              case atStart => exact ⟨0, 1, L s, by omega, by omega, rfl, by rw [B_L], by rw [size_l]; exact Nat.le_refl _, S4, g4, rfl⟩
              case round =>
                clear S4 g4
                obtain ⟨i, N, r, his, hi3, rfl, rfl, hrl, Si, gi, HST⟩ := hrel
                by_cases hlt : i < s.size ∧ i < 3
                · have hiI : (i : Int) < s.size := by omega
                  have hi3I : (i : Int) < 3 := by omega
                  have hnx := starTo_succ (L s) i
                  rw [HST.out] at hnx
                  unfold starStep at hnx
                  by_cases h42 : byt (L s) i = 42
                  · have tb : (((byt (L s) i : Nat) : Int) == 42) = true := by rw [h42]; rfl
                    rw [if_pos h42] at hnx
                    obtain ⟨n2, b2, hnb, hng, _, _⟩ := num_form (rdNum ((L s).take i))
                    have HM : Hid (numRet (rdNum (L (s.extract 0 i))) = .tuple #[.int .i64 n2, .bool b2]) := Lib.hid (by rw [show L (s.extract 0 i) = (L s).take i by rw [L_extract]; rfl]; exact hnb)
                    have HN2 : Hid (starTo (L s) (i + 1) = (n2, (L s).drop (i + 1))) := Lib.hid (by rw [hnx, hng])
                    have hxs : Hid ((s.extract 0 i).size < 100000000) := Lib.hid (by rw [ByteArray.size_extract]; omega)
                    have E2 : Hid (s.extract (i + 1) s.size = B ((L s).drop (i + 1))) := Lib.hid (L_inj (by rw [L_extract, L_B, List.take_of_length_le (by rw [size_l]; exact Nat.le_refl _)]))
                    have hi1 : (i : Int) + 1 ≤ s.size := by omega
                    have hdl : ((L s).drop (i + 1)).length ≤ s.size := by rw [List.length_drop, size_l]; omega
                    clear hnx h42 hnb hng
                    go_wp2_with (first | (rw [wpList_skip_eq]; rotate_left; · rfl) | (go_at_call 26; (with_reducible refine (rNum_is (s.extract 0 i) n2 b2 HM hxs.out _).mono ?_); rintro e w5 ⟨rfl, hb5⟩; have S5 := Lib.hid (ASt.below Si.out hb5); have g5 := Lib.hid (blk_below2 hb5 gi.out)) | (refine wpList_store_int (by rfl) 3 _ _ (by rfl) g8 1 TAm (Am.cells ⟨2, N, 0, zeroF⟩) (Am.cells ⟨2, n2, 0, zeroF⟩) .i64 n2 (by rfl) (by rfl) g5.out (by simp [Am.cells]) (by simp [Am.cells]) infoInt1 ?_; have g6 := Lib.hid (row_set (cs := Am.cells ⟨2, n2, 0, zeroF⟩) g5.out); have S6 := Lib.hid (ASt.setRow S5.out HG8.out (Am.cells ⟨2, n2, 0, zeroF⟩)); generalize World.setRow w5 g8 (Am.cells ⟨2, n2, 0, zeroF⟩) = w6 at *))
                    go_roundw
                    case rel => exact ⟨i + 1, n2, (L s).drop (i + 1), by omega, by omega, by go_num, by rw [E2.out], hdl, S6, g6, HN2⟩
                    case measure => simp [intOf]; omega
                  · have tb : (((byt (L s) i : Nat) : Int) == 42) = false := by rw [beq_eq_false_iff_ne]; omega
                    rw [if_neg h42] at hnx
                    have HN2 := Lib.hid hnx
                    clear hnx h42
                    go_wp2_with (first | (rw [wpList_skip_eq]; rotate_left; · rfl) | fail)
                    go_roundw
                    case rel => exact ⟨i + 1, N, r, by omega, by omega, by go_num, rfl, hrl, Si, gi, HN2⟩
                    case measure => simp [intOf]; omega
                · have hmin : i = min s.size 3 := by omega
                  have HSC : Hid (starScan (L s) = (N, r)) := Lib.hid (by unfold starScan; rw [size_l, ← hmin]; exact HST.out)
                  have hor : (¬ (i : Int) < s.size) ∨ ((i : Int) < s.size ∧ ¬ (i : Int) < 3) := by omega
                  have HTL2 : Hid ((match insideS r countW with
                    | none => none
                    | some m => match parseS m with
                      | none => none
                      | some f => if amText ⟨2, N, 0, f⟩ = L s then some (⟨2, N, 0, f⟩ : Am) else none) = R) := Lib.hid (by have h := HTL.out; unfold qTailA at h; rw [HSC.out] at h; exact h)
                  have hbr : (B r).size < 100000000 := by rw [B_size]; omega
                  clear hlt hmin HST HSC his hi3 hrl
                  obtain ⟨oi, hoi⟩ : ∃ oi, insideS r countW = oi := ⟨_, rfl⟩
                  have HIN := Lib.hid (fun (wx : World) => insideA_any (B r) oi (Lib.hid (by rw [L_B]; exact hoi)) hbr wx)
                  rw [hoi] at HTL2
                  have hml : ∀ m, oi = some m → m.length ≤ r.length := by
                    intro m hm
                    rw [hm] at hoi
                    unfold insideS at hoi
                    split at hoi
                    · injection hoi with hoi
                      rw [← hoi, List.length_drop, List.length_take]; omega
                    · cases hoi
                  rw [B_size] at hbr
                  clear hoi
                  cases oi with
                  | none =>
                    have HN : Hid (none = R) := HTL2
                    clear hml
                    rcases hor with ho | ⟨ho, hp⟩
                    all_goals
                      go_wp2_with (first | (rw [wpList_skip_eq]; rotate_left; · rfl) | (go_at_call 27; (with_reducible refine (HIN.out _).mono ?_); rintro e wu ⟨rfl, rfl⟩; dsimp only [aftRet]) | refine wpList_build0_g (by rfl) TAm (by rfl) (.agg zeroA.cells) (build_zeroA _) ?_ | refine wpList_store_row (by rfl) TAm _ _ (by rfl) w.heap.size zeroA.cells (by rfl) (by rfl) TAm zeroA.cells Si.out.1 infoTAm rfl (acells_one _) ?_)
                      exact bodyPost_ret (results_row_tmp rfl _ _ w.heap.size TAm zeroA.cells (0, 0) _ rfl (row_set Si.out.1) Tryz.underlying27 rfl infoTAm) rfl ⟨ret_val (by rw [← HN.out]; rfl), below_setRow Si.out.2 (Nat.le_refl _) _⟩
                  | some m =>
                    have hm := hml m rfl
                    clear hml
                    have hmb : (B m).size < 100000000 := by rw [B_size]; omega
                    have FP : ∀ wx, Calls Tryz.prog 28 #[.string (B m)] wx fun e w' => e = .returned (fltRet (parseS m)) ∧ Below wx.heap.size wx w' := fun wx => (rParse_any _ wx hmb).mono fun e w' h => ⟨by rw [h.1, L_B, qParse_eq], h.2⟩
                    clear hmb hm
                    cases hps : parseS m with
                    | none =>
                      rw [hps] at FP
                      have HN : Hid (none = R) := Lib.hid (by have h := HTL2.out; simp only [hps] at h; exact h)
                      have HFP := Lib.hid FP
                      clear FP hps
                      rcases hor with ho | ⟨ho, hp⟩
                      all_goals
                        go_wp2_with (first | (rw [wpList_skip_eq]; rotate_left; · rfl) | (go_at_call 27; (with_reducible refine (HIN.out _).mono ?_); rintro e wu ⟨rfl, rfl⟩; dsimp only [aftRet]) | (go_at_call 28; (with_reducible refine (HFP.out _).mono ?_); rintro e w7 ⟨rfl, hb7⟩; have S7 := Lib.hid (ASt.below Si.out hb7); have g7 := Lib.hid (blk_below2 hb7 gi.out); dsimp only [fltRet]) | (refine wpList_store_row (by rfl) TF _ _ (by rfl) w7.heap.size zeroF.cells (by rfl) (by rfl) TF zeroF.cells (heap_alloc_new w7 _) infoTF rfl (cells_one _) ?_; change wpList _ _ _ _ _ (stored w7 TF zeroF.cells zeroF.cells); have f8 := Lib.hid (stored_new w7 TF zeroF.cells zeroF.cells); have S8 := Lib.hid (ASt.below S7.out (stored_below w7 TF zeroF.cells zeroF.cells)); have g8r := Lib.hid (blk_below2 (stored_below w7 TF zeroF.cells zeroF.cells) g7.out); generalize stored w7 TF zeroF.cells zeroF.cells = w8 at *) | refine wpList_load_row (by rfl) TF _ (by rfl) w7.heap.size (by rfl) TF zeroF.cells (0, 0) _ f8.out Tryz.underlying25 rfl infoTF ?_ | (refine wpList_store_part (by rfl) TF _ _ (by rfl) g8 3 TAm (Am.cells ⟨2, N, 0, zeroF⟩) zeroF.cells (Am.cells ⟨2, N, 0, zeroF⟩) (by rfl) (by rfl) g8r.out (by simp [Am.cells, Flt.cells, zeroF]) (am_put _ zeroF) infoTF (cells_one _) ?_; have g9 := Lib.hid (row_set (cs := Am.cells ⟨2, N, 0, zeroF⟩) g8r.out); have S9 := Lib.hid (ASt.setRow S8.out HG8.out (Am.cells ⟨2, N, 0, zeroF⟩)); generalize World.setRow w8 g8 (Am.cells ⟨2, N, 0, zeroF⟩) = w9 at *) | refine wpList_build0_g (by rfl) TAm (by rfl) (.agg zeroA.cells) (build_zeroA _) ?_ | refine wpList_store_row (by rfl) TAm _ _ (by rfl) w.heap.size zeroA.cells (by rfl) (by rfl) TAm zeroA.cells S9.out.1 infoTAm rfl (acells_one _) ?_)
                        exact bodyPost_ret (results_row_tmp rfl _ _ w.heap.size TAm zeroA.cells (0, 0) _ rfl (row_set S9.out.1) Tryz.underlying27 rfl infoTAm) rfl ⟨ret_val (by rw [← HN.out]; rfl), below_setRow S9.out.2 (Nat.le_refl _) _⟩
                    | some f =>
                      rw [hps] at FP
                      have HFP := Lib.hid FP
                      obtain ⟨T, hT⟩ : ∃ T, B (amText ⟨2, N, 0, f⟩) = T := ⟨_, rfl⟩
                      have HT := Lib.hid hT
                      have HX : Hid ((if amText ⟨2, N, 0, f⟩ = L s then some (⟨2, N, 0, f⟩ : Am) else none) = R) := Lib.hid (by have h := HTL2.out; simp only [hps] at h; exact h)
                      clear FP hps
                      by_cases hx : amText ⟨2, N, 0, f⟩ = L s
                      · have t3 : (T.toList == s.toList) = true := by rw [← hT, B_toList, L_toList]; simpa using hx
                        have HN : Hid (some (⟨2, N, 0, f⟩ : Am) = R) := Lib.hid (by rw [← HX.out, if_pos hx])
                        clear hx hT
                        rcases hor with ho | ⟨ho, hp⟩
                        all_goals
                          go_wp2_with (first | (rw [wpList_skip_eq]; rotate_left; · rfl) | (go_at_call 27; (with_reducible refine (HIN.out _).mono ?_); rintro e wu ⟨rfl, rfl⟩; dsimp only [aftRet]) | (go_at_call 28; (with_reducible refine (HFP.out _).mono ?_); rintro e w7 ⟨rfl, hb7⟩; have S7 := Lib.hid (ASt.below Si.out hb7); have g7 := Lib.hid (blk_below2 hb7 gi.out); dsimp only [fltRet]) | (refine wpList_store_row (by rfl) TF _ _ (by rfl) w7.heap.size f.cells (by rfl) (by rfl) TF zeroF.cells (heap_alloc_new w7 _) infoTF rfl (cells_one _) ?_; change wpList _ _ _ _ _ (stored w7 TF zeroF.cells f.cells); have f8 := Lib.hid (stored_new w7 TF zeroF.cells f.cells); have S8 := Lib.hid (ASt.below S7.out (stored_below w7 TF zeroF.cells f.cells)); have g8r := Lib.hid (blk_below2 (stored_below w7 TF zeroF.cells f.cells) g7.out); generalize stored w7 TF zeroF.cells f.cells = w8 at *) | refine wpList_load_row (by rfl) TF _ (by rfl) w7.heap.size (by rfl) TF f.cells (0, 0) _ f8.out Tryz.underlying25 rfl infoTF ?_ | (refine wpList_store_part (by rfl) TF _ _ (by rfl) g8 3 TAm (Am.cells ⟨2, N, 0, zeroF⟩) f.cells (Am.cells ⟨2, N, 0, f⟩) (by rfl) (by rfl) g8r.out (by simp [Am.cells, Flt.cells, zeroF]) (am_put _ f) infoTF (cells_one _) ?_; have g9 := Lib.hid (row_set (cs := Am.cells ⟨2, N, 0, f⟩) g8r.out); have S9 := Lib.hid (ASt.setRow S8.out HG8.out (Am.cells ⟨2, N, 0, f⟩)); generalize World.setRow w8 g8 (Am.cells ⟨2, N, 0, f⟩) = w9 at *) | refine wpList_load_row_g (by rfl) TAm _ (by rfl) g8 (by rfl) TAm (Am.cells ⟨2, N, 0, f⟩) (0, 0) _ g9.out Tryz.underlying27 rfl infoTAm ?_ | (go_at_call 12; (with_reducible refine (rAText_is ⟨2, N, 0, f⟩ T HT _).mono ?_); rintro e w10 ⟨rfl, hb10⟩; have S10 := Lib.hid (ASt.below S9.out hb10); have g10x := Lib.hid (blk_below2 hb10 g9.out)) | refine wpList_load_row_g (by rfl) TAm _ (by rfl) g8 (by rfl) TAm (Am.cells ⟨2, N, 0, f⟩) (0, 0) _ g10x.out Tryz.underlying27 rfl infoTAm ?_ | refine wpList_store_row (by rfl) TAm _ _ (by rfl) w.heap.size (Am.cells ⟨2, N, 0, f⟩) (by rfl) (by rfl) TAm zeroA.cells S10.out.1 infoTAm rfl (acells_one _) ?_)
                          exact bodyPost_ret (results_row_tmp rfl _ _ w.heap.size TAm (Am.cells ⟨2, N, 0, f⟩) (0, 0) _ rfl (row_set S10.out.1) Tryz.underlying27 rfl infoTAm) rfl ⟨ret_val (by rw [← HN.out]; rfl), below_setRow S10.out.2 (Nat.le_refl _) _⟩
                      · have t3 : (T.toList == s.toList) = false := by rw [← hT, B_toList, L_toList]; simpa using hx
                        have t4 : (!T.toList == s.toList) = true := by rw [t3]; rfl
                        have HN : Hid (none = R) := Lib.hid (by rw [← HX.out, if_neg hx])
                        clear hx hT
                        rcases hor with ho | ⟨ho, hp⟩
                        all_goals
                          go_wp2_with (first | (rw [wpList_skip_eq]; rotate_left; · rfl) | (go_at_call 27; (with_reducible refine (HIN.out _).mono ?_); rintro e wu ⟨rfl, rfl⟩; dsimp only [aftRet]) | (go_at_call 28; (with_reducible refine (HFP.out _).mono ?_); rintro e w7 ⟨rfl, hb7⟩; have S7 := Lib.hid (ASt.below Si.out hb7); have g7 := Lib.hid (blk_below2 hb7 gi.out); dsimp only [fltRet]) | (refine wpList_store_row (by rfl) TF _ _ (by rfl) w7.heap.size f.cells (by rfl) (by rfl) TF zeroF.cells (heap_alloc_new w7 _) infoTF rfl (cells_one _) ?_; change wpList _ _ _ _ _ (stored w7 TF zeroF.cells f.cells); have f8 := Lib.hid (stored_new w7 TF zeroF.cells f.cells); have S8 := Lib.hid (ASt.below S7.out (stored_below w7 TF zeroF.cells f.cells)); have g8r := Lib.hid (blk_below2 (stored_below w7 TF zeroF.cells f.cells) g7.out); generalize stored w7 TF zeroF.cells f.cells = w8 at *) | refine wpList_load_row (by rfl) TF _ (by rfl) w7.heap.size (by rfl) TF f.cells (0, 0) _ f8.out Tryz.underlying25 rfl infoTF ?_ | (refine wpList_store_part (by rfl) TF _ _ (by rfl) g8 3 TAm (Am.cells ⟨2, N, 0, zeroF⟩) f.cells (Am.cells ⟨2, N, 0, f⟩) (by rfl) (by rfl) g8r.out (by simp [Am.cells, Flt.cells, zeroF]) (am_put _ f) infoTF (cells_one _) ?_; have g9 := Lib.hid (row_set (cs := Am.cells ⟨2, N, 0, f⟩) g8r.out); have S9 := Lib.hid (ASt.setRow S8.out HG8.out (Am.cells ⟨2, N, 0, f⟩)); generalize World.setRow w8 g8 (Am.cells ⟨2, N, 0, f⟩) = w9 at *) | refine wpList_load_row_g (by rfl) TAm _ (by rfl) g8 (by rfl) TAm (Am.cells ⟨2, N, 0, f⟩) (0, 0) _ g9.out Tryz.underlying27 rfl infoTAm ?_ | (go_at_call 12; (with_reducible refine (rAText_is ⟨2, N, 0, f⟩ T HT _).mono ?_); rintro e w10 ⟨rfl, hb10⟩; have S10 := Lib.hid (ASt.below S9.out hb10); have g10x := Lib.hid (blk_below2 hb10 g9.out)) | refine wpList_build0_g (by rfl) TAm (by rfl) (.agg zeroA.cells) (build_zeroA _) ?_ | refine wpList_store_row (by rfl) TAm _ _ (by rfl) w.heap.size zeroA.cells (by rfl) (by rfl) TAm zeroA.cells S10.out.1 infoTAm rfl (acells_one _) ?_)
                          exact bodyPost_ret (results_row_tmp rfl _ _ w.heap.size TAm zeroA.cells (0, 0) _ rfl (row_set S10.out.1) Tryz.underlying27 rfl infoTAm) rfl ⟨ret_val (by rw [← HN.out]; rfl), below_setRow S10.out.2 (Nat.le_refl _) _⟩
          | false =>
            have HTL : Hid (qTailA (L s) = R) := Lib.hid (by rw [← HR2.out]; unfold qNumA; rw [hbf rfl])
            clear hnb hbt hbf
            go_upto_region 14 with (first | (rw [wpList_skip_eq]; rotate_left; · rfl) | (go_at_call 26; (with_reducible refine (rNum_is s n false HM hss.out _).mono ?_); rintro e w2 ⟨rfl, hb2⟩; have S2 := Lib.hid (ASt.below HS.out hb2)))
            have HG8 : Hid (w.heap.size < w2.heap.size) := Lib.hid (blk_lt S2.out.1)
            go_wp2_with (first | (rw [wpList_skip_eq]; rotate_left; · rfl) | refine wpList_build_g (by rfl) TAm 0 1 _ _ (by rfl) (.int .i64 2) (.int .i64 1) (.agg (Am.cells ⟨2, 1, 0, zeroF⟩)) (by rfl) (by rfl) (build_akn _ _ _) ?_ | (refine wpList_store_row (by rfl) TAm _ _ (by rfl) w2.heap.size (Am.cells ⟨2, 1, 0, zeroF⟩) (by rfl) (by rfl) TAm zeroA.cells (heap_alloc_new w2 _) infoTAm rfl (acells_one _) ?_; change wpList _ _ _ _ _ (stored w2 TAm zeroA.cells (Am.cells ⟨2, 1, 0, zeroF⟩)); have g4 := Lib.hid (stored_new w2 TAm zeroA.cells (Am.cells ⟨2, 1, 0, zeroF⟩)); have S4 := Lib.hid (ASt.below S2.out (stored_below w2 TAm zeroA.cells (Am.cells ⟨2, 1, 0, zeroF⟩))); generalize stored w2 TAm zeroA.cells (Am.cells ⟨2, 1, 0, zeroF⟩) = w4 at *))
            generalize w2.heap.size = g8 at *
            go_loopw [9, 10] (fun rv iv wr => ∃ i : Nat, ∃ N : Int, ∃ r : Str, i ≤ s.size ∧ i ≤ 3 ∧ iv = .int .i64 i ∧ rv = .string (B r) ∧ r.length ≤ s.size ∧ Hid (ASt w wr) ∧ Hid (wr.heap[g8]? = some (.cells (Am.cells ⟨2, N, 0, zeroF⟩) TAm)) ∧ Hid (starTo (L s) i = (N, r))) (fun _ iv _ => 3 - (intOf iv).toNat)
            case atStart => exact ⟨0, 1, L s, by omega, by omega, rfl, by rw [B_L], by rw [size_l]; exact Nat.le_refl _, S4, g4, rfl⟩
            case round =>
              clear S4 g4
              obtain ⟨i, N, r, his, hi3, rfl, rfl, hrl, Si, gi, HST⟩ := hrel
              by_cases hlt : i < s.size ∧ i < 3
              · have hiI : (i : Int) < s.size := by omega
                have hi3I : (i : Int) < 3 := by omega
                have hnx := starTo_succ (L s) i
                rw [HST.out] at hnx
                unfold starStep at hnx
                by_cases h42 : byt (L s) i = 42
                · have tb : (((byt (L s) i : Nat) : Int) == 42) = true := by rw [h42]; rfl
                  rw [if_pos h42] at hnx
                  obtain ⟨n2, b2, hnb, hng, _, _⟩ := num_form (rdNum ((L s).take i))
                  have HM : Hid (numRet (rdNum (L (s.extract 0 i))) = .tuple #[.int .i64 n2, .bool b2]) := Lib.hid (by rw [show L (s.extract 0 i) = (L s).take i by rw [L_extract]; rfl]; exact hnb)
                  have HN2 : Hid (starTo (L s) (i + 1) = (n2, (L s).drop (i + 1))) := Lib.hid (by rw [hnx, hng])
                  have hxs : Hid ((s.extract 0 i).size < 100000000) := Lib.hid (by rw [ByteArray.size_extract]; omega)
                  have E2 : Hid (s.extract (i + 1) s.size = B ((L s).drop (i + 1))) := Lib.hid (L_inj (by rw [L_extract, L_B, List.take_of_length_le (by rw [size_l]; exact Nat.le_refl _)]))
                  have hi1 : (i : Int) + 1 ≤ s.size := by omega
                  have hdl : ((L s).drop (i + 1)).length ≤ s.size := by rw [List.length_drop, size_l]; omega
                  clear hnx h42 hnb hng
                  go_wp2_with (first | (rw [wpList_skip_eq]; rotate_left; · rfl) | (go_at_call 26; (with_reducible refine (rNum_is (s.extract 0 i) n2 b2 HM hxs.out _).mono ?_); rintro e w5 ⟨rfl, hb5⟩; have S5 := Lib.hid (ASt.below Si.out hb5); have g5 := Lib.hid (blk_below2 hb5 gi.out)) | (refine wpList_store_int (by rfl) 3 _ _ (by rfl) g8 1 TAm (Am.cells ⟨2, N, 0, zeroF⟩) (Am.cells ⟨2, n2, 0, zeroF⟩) .i64 n2 (by rfl) (by rfl) g5.out (by simp [Am.cells]) (by simp [Am.cells]) infoInt1 ?_; have g6 := Lib.hid (row_set (cs := Am.cells ⟨2, n2, 0, zeroF⟩) g5.out); have S6 := Lib.hid (ASt.setRow S5.out HG8.out (Am.cells ⟨2, n2, 0, zeroF⟩)); generalize World.setRow w5 g8 (Am.cells ⟨2, n2, 0, zeroF⟩) = w6 at *))
                  go_roundw
                  case rel => exact ⟨i + 1, n2, (L s).drop (i + 1), by omega, by omega, by go_num, by rw [E2.out], hdl, S6, g6, HN2⟩
                  case measure => simp [intOf]; omega
                · have tb : (((byt (L s) i : Nat) : Int) == 42) = false := by rw [beq_eq_false_iff_ne]; omega
                  rw [if_neg h42] at hnx
                  have HN2 := Lib.hid hnx
                  clear hnx h42
                  go_wp2_with (first | (rw [wpList_skip_eq]; rotate_left; · rfl) | fail)
                  go_roundw
                  case rel => exact ⟨i + 1, N, r, by omega, by omega, by go_num, rfl, hrl, Si, gi, HN2⟩
                  case measure => simp [intOf]; omega
              · have hmin : i = min s.size 3 := by omega
                have HSC : Hid (starScan (L s) = (N, r)) := Lib.hid (by unfold starScan; rw [size_l, ← hmin]; exact HST.out)
                have hor : (¬ (i : Int) < s.size) ∨ ((i : Int) < s.size ∧ ¬ (i : Int) < 3) := by omega
                have HTL2 : Hid ((match insideS r countW with
                  | none => none
                  | some m => match parseS m with
                    | none => none
                    | some f => if amText ⟨2, N, 0, f⟩ = L s then some (⟨2, N, 0, f⟩ : Am) else none) = R) := Lib.hid (by have h := HTL.out; unfold qTailA at h; rw [HSC.out] at h; exact h)
                have hbr : (B r).size < 100000000 := by rw [B_size]; omega
                clear hlt hmin HST HSC his hi3 hrl
                obtain ⟨oi, hoi⟩ : ∃ oi, insideS r countW = oi := ⟨_, rfl⟩
                have HIN := Lib.hid (fun (wx : World) => insideA_any (B r) oi (Lib.hid (by rw [L_B]; exact hoi)) hbr wx)
                rw [hoi] at HTL2
                have hml : ∀ m, oi = some m → m.length ≤ r.length := by
                  intro m hm
                  rw [hm] at hoi
                  unfold insideS at hoi
                  split at hoi
                  · injection hoi with hoi
                    rw [← hoi, List.length_drop, List.length_take]; omega
                  · cases hoi
                rw [B_size] at hbr
                clear hoi
                cases oi with
                | none =>
                  have HN : Hid (none = R) := HTL2
                  clear hml
                  rcases hor with ho | ⟨ho, hp⟩
                  all_goals
                    go_wp2_with (first | (rw [wpList_skip_eq]; rotate_left; · rfl) | (go_at_call 27; (with_reducible refine (HIN.out _).mono ?_); rintro e wu ⟨rfl, rfl⟩; dsimp only [aftRet]) | refine wpList_build0_g (by rfl) TAm (by rfl) (.agg zeroA.cells) (build_zeroA _) ?_ | refine wpList_store_row (by rfl) TAm _ _ (by rfl) w.heap.size zeroA.cells (by rfl) (by rfl) TAm zeroA.cells Si.out.1 infoTAm rfl (acells_one _) ?_)
                    exact bodyPost_ret (results_row_tmp rfl _ _ w.heap.size TAm zeroA.cells (0, 0) _ rfl (row_set Si.out.1) Tryz.underlying27 rfl infoTAm) rfl ⟨ret_val (by rw [← HN.out]; rfl), below_setRow Si.out.2 (Nat.le_refl _) _⟩
                | some m =>
                  have hm := hml m rfl
                  clear hml
                  have hmb : (B m).size < 100000000 := by rw [B_size]; omega
                  have FP : ∀ wx, Calls Tryz.prog 28 #[.string (B m)] wx fun e w' => e = .returned (fltRet (parseS m)) ∧ Below wx.heap.size wx w' := fun wx => (rParse_any _ wx hmb).mono fun e w' h => ⟨by rw [h.1, L_B, qParse_eq], h.2⟩
                  clear hmb hm
                  cases hps : parseS m with
                  | none =>
                    rw [hps] at FP
                    have HN : Hid (none = R) := Lib.hid (by have h := HTL2.out; simp only [hps] at h; exact h)
                    have HFP := Lib.hid FP
                    clear FP hps
                    rcases hor with ho | ⟨ho, hp⟩
                    all_goals
                      go_wp2_with (first | (rw [wpList_skip_eq]; rotate_left; · rfl) | (go_at_call 27; (with_reducible refine (HIN.out _).mono ?_); rintro e wu ⟨rfl, rfl⟩; dsimp only [aftRet]) | (go_at_call 28; (with_reducible refine (HFP.out _).mono ?_); rintro e w7 ⟨rfl, hb7⟩; have S7 := Lib.hid (ASt.below Si.out hb7); have g7 := Lib.hid (blk_below2 hb7 gi.out); dsimp only [fltRet]) | (refine wpList_store_row (by rfl) TF _ _ (by rfl) w7.heap.size zeroF.cells (by rfl) (by rfl) TF zeroF.cells (heap_alloc_new w7 _) infoTF rfl (cells_one _) ?_; change wpList _ _ _ _ _ (stored w7 TF zeroF.cells zeroF.cells); have f8 := Lib.hid (stored_new w7 TF zeroF.cells zeroF.cells); have S8 := Lib.hid (ASt.below S7.out (stored_below w7 TF zeroF.cells zeroF.cells)); have g8r := Lib.hid (blk_below2 (stored_below w7 TF zeroF.cells zeroF.cells) g7.out); generalize stored w7 TF zeroF.cells zeroF.cells = w8 at *) | refine wpList_load_row (by rfl) TF _ (by rfl) w7.heap.size (by rfl) TF zeroF.cells (0, 0) _ f8.out Tryz.underlying25 rfl infoTF ?_ | (refine wpList_store_part (by rfl) TF _ _ (by rfl) g8 3 TAm (Am.cells ⟨2, N, 0, zeroF⟩) zeroF.cells (Am.cells ⟨2, N, 0, zeroF⟩) (by rfl) (by rfl) g8r.out (by simp [Am.cells, Flt.cells, zeroF]) (am_put _ zeroF) infoTF (cells_one _) ?_; have g9 := Lib.hid (row_set (cs := Am.cells ⟨2, N, 0, zeroF⟩) g8r.out); have S9 := Lib.hid (ASt.setRow S8.out HG8.out (Am.cells ⟨2, N, 0, zeroF⟩)); generalize World.setRow w8 g8 (Am.cells ⟨2, N, 0, zeroF⟩) = w9 at *) | refine wpList_build0_g (by rfl) TAm (by rfl) (.agg zeroA.cells) (build_zeroA _) ?_ | refine wpList_store_row (by rfl) TAm _ _ (by rfl) w.heap.size zeroA.cells (by rfl) (by rfl) TAm zeroA.cells S9.out.1 infoTAm rfl (acells_one _) ?_)
                      exact bodyPost_ret (results_row_tmp rfl _ _ w.heap.size TAm zeroA.cells (0, 0) _ rfl (row_set S9.out.1) Tryz.underlying27 rfl infoTAm) rfl ⟨ret_val (by rw [← HN.out]; rfl), below_setRow S9.out.2 (Nat.le_refl _) _⟩
                  | some f =>
                    rw [hps] at FP
                    have HFP := Lib.hid FP
                    obtain ⟨T, hT⟩ : ∃ T, B (amText ⟨2, N, 0, f⟩) = T := ⟨_, rfl⟩
                    have HT := Lib.hid hT
                    have HX : Hid ((if amText ⟨2, N, 0, f⟩ = L s then some (⟨2, N, 0, f⟩ : Am) else none) = R) := Lib.hid (by have h := HTL2.out; simp only [hps] at h; exact h)
                    clear FP hps
                    by_cases hx : amText ⟨2, N, 0, f⟩ = L s
                    · have t3 : (T.toList == s.toList) = true := by rw [← hT, B_toList, L_toList]; simpa using hx
                      have HN : Hid (some (⟨2, N, 0, f⟩ : Am) = R) := Lib.hid (by rw [← HX.out, if_pos hx])
                      clear hx hT
                      rcases hor with ho | ⟨ho, hp⟩
                      all_goals
                        go_wp2_with (first | (rw [wpList_skip_eq]; rotate_left; · rfl) | (go_at_call 27; (with_reducible refine (HIN.out _).mono ?_); rintro e wu ⟨rfl, rfl⟩; dsimp only [aftRet]) | (go_at_call 28; (with_reducible refine (HFP.out _).mono ?_); rintro e w7 ⟨rfl, hb7⟩; have S7 := Lib.hid (ASt.below Si.out hb7); have g7 := Lib.hid (blk_below2 hb7 gi.out); dsimp only [fltRet]) | (refine wpList_store_row (by rfl) TF _ _ (by rfl) w7.heap.size f.cells (by rfl) (by rfl) TF zeroF.cells (heap_alloc_new w7 _) infoTF rfl (cells_one _) ?_; change wpList _ _ _ _ _ (stored w7 TF zeroF.cells f.cells); have f8 := Lib.hid (stored_new w7 TF zeroF.cells f.cells); have S8 := Lib.hid (ASt.below S7.out (stored_below w7 TF zeroF.cells f.cells)); have g8r := Lib.hid (blk_below2 (stored_below w7 TF zeroF.cells f.cells) g7.out); generalize stored w7 TF zeroF.cells f.cells = w8 at *) | refine wpList_load_row (by rfl) TF _ (by rfl) w7.heap.size (by rfl) TF f.cells (0, 0) _ f8.out Tryz.underlying25 rfl infoTF ?_ | (refine wpList_store_part (by rfl) TF _ _ (by rfl) g8 3 TAm (Am.cells ⟨2, N, 0, zeroF⟩) f.cells (Am.cells ⟨2, N, 0, f⟩) (by rfl) (by rfl) g8r.out (by simp [Am.cells, Flt.cells, zeroF]) (am_put _ f) infoTF (cells_one _) ?_; have g9 := Lib.hid (row_set (cs := Am.cells ⟨2, N, 0, f⟩) g8r.out); have S9 := Lib.hid (ASt.setRow S8.out HG8.out (Am.cells ⟨2, N, 0, f⟩)); generalize World.setRow w8 g8 (Am.cells ⟨2, N, 0, f⟩) = w9 at *) | refine wpList_load_row_g (by rfl) TAm _ (by rfl) g8 (by rfl) TAm (Am.cells ⟨2, N, 0, f⟩) (0, 0) _ g9.out Tryz.underlying27 rfl infoTAm ?_ | (go_at_call 12; (with_reducible refine (rAText_is ⟨2, N, 0, f⟩ T HT _).mono ?_); rintro e w10 ⟨rfl, hb10⟩; have S10 := Lib.hid (ASt.below S9.out hb10); have g10x := Lib.hid (blk_below2 hb10 g9.out)) | refine wpList_load_row_g (by rfl) TAm _ (by rfl) g8 (by rfl) TAm (Am.cells ⟨2, N, 0, f⟩) (0, 0) _ g10x.out Tryz.underlying27 rfl infoTAm ?_ | refine wpList_store_row (by rfl) TAm _ _ (by rfl) w.heap.size (Am.cells ⟨2, N, 0, f⟩) (by rfl) (by rfl) TAm zeroA.cells S10.out.1 infoTAm rfl (acells_one _) ?_)
                        exact bodyPost_ret (results_row_tmp rfl _ _ w.heap.size TAm (Am.cells ⟨2, N, 0, f⟩) (0, 0) _ rfl (row_set S10.out.1) Tryz.underlying27 rfl infoTAm) rfl ⟨ret_val (by rw [← HN.out]; rfl), below_setRow S10.out.2 (Nat.le_refl _) _⟩
                    · have t3 : (T.toList == s.toList) = false := by rw [← hT, B_toList, L_toList]; simpa using hx
                      have t4 : (!T.toList == s.toList) = true := by rw [t3]; rfl
                      have HN : Hid (none = R) := Lib.hid (by rw [← HX.out, if_neg hx])
                      clear hx hT
                      rcases hor with ho | ⟨ho, hp⟩
                      all_goals
                        go_wp2_with (first | (rw [wpList_skip_eq]; rotate_left; · rfl) | (go_at_call 27; (with_reducible refine (HIN.out _).mono ?_); rintro e wu ⟨rfl, rfl⟩; dsimp only [aftRet]) | (go_at_call 28; (with_reducible refine (HFP.out _).mono ?_); rintro e w7 ⟨rfl, hb7⟩; have S7 := Lib.hid (ASt.below Si.out hb7); have g7 := Lib.hid (blk_below2 hb7 gi.out); dsimp only [fltRet]) | (refine wpList_store_row (by rfl) TF _ _ (by rfl) w7.heap.size f.cells (by rfl) (by rfl) TF zeroF.cells (heap_alloc_new w7 _) infoTF rfl (cells_one _) ?_; change wpList _ _ _ _ _ (stored w7 TF zeroF.cells f.cells); have f8 := Lib.hid (stored_new w7 TF zeroF.cells f.cells); have S8 := Lib.hid (ASt.below S7.out (stored_below w7 TF zeroF.cells f.cells)); have g8r := Lib.hid (blk_below2 (stored_below w7 TF zeroF.cells f.cells) g7.out); generalize stored w7 TF zeroF.cells f.cells = w8 at *) | refine wpList_load_row (by rfl) TF _ (by rfl) w7.heap.size (by rfl) TF f.cells (0, 0) _ f8.out Tryz.underlying25 rfl infoTF ?_ | (refine wpList_store_part (by rfl) TF _ _ (by rfl) g8 3 TAm (Am.cells ⟨2, N, 0, zeroF⟩) f.cells (Am.cells ⟨2, N, 0, f⟩) (by rfl) (by rfl) g8r.out (by simp [Am.cells, Flt.cells, zeroF]) (am_put _ f) infoTF (cells_one _) ?_; have g9 := Lib.hid (row_set (cs := Am.cells ⟨2, N, 0, f⟩) g8r.out); have S9 := Lib.hid (ASt.setRow S8.out HG8.out (Am.cells ⟨2, N, 0, f⟩)); generalize World.setRow w8 g8 (Am.cells ⟨2, N, 0, f⟩) = w9 at *) | refine wpList_load_row_g (by rfl) TAm _ (by rfl) g8 (by rfl) TAm (Am.cells ⟨2, N, 0, f⟩) (0, 0) _ g9.out Tryz.underlying27 rfl infoTAm ?_ | (go_at_call 12; (with_reducible refine (rAText_is ⟨2, N, 0, f⟩ T HT _).mono ?_); rintro e w10 ⟨rfl, hb10⟩; have S10 := Lib.hid (ASt.below S9.out hb10); have g10x := Lib.hid (blk_below2 hb10 g9.out)) | refine wpList_build0_g (by rfl) TAm (by rfl) (.agg zeroA.cells) (build_zeroA _) ?_ | refine wpList_store_row (by rfl) TAm _ _ (by rfl) w.heap.size zeroA.cells (by rfl) (by rfl) TAm zeroA.cells S10.out.1 infoTAm rfl (acells_one _) ?_)
                        exact bodyPost_ret (results_row_tmp rfl _ _ w.heap.size TAm zeroA.cells (0, 0) _ rfl (row_set S10.out.1) Tryz.underlying27 rfl infoTAm) rfl ⟨ret_val (by rw [← HN.out]; rfl), below_setRow S10.out.2 (Nat.le_refl _) _⟩
end Go.Proofs.YtcbegdjmopgbbaaGreatDoor
