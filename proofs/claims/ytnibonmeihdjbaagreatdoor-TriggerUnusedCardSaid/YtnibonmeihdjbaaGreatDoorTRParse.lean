/- Walks of the reference: package cardgameref18: Parse. Conditions: the text is shorter than 100 million bytes. -/
import Derived.Test.YtnibonmeihdjbaaGreatDoorTRef
import Derived.Test.YtnibonmeihdjbaaGreatDoorTQ
import Derived.Test.YtnibonmeihdjbaaGreatDoorTLib
namespace Go.Proofs.YtnibonmeihdjbaaGreatDoor
set_option linter.all false
open Go.ChangeShapes Go.WideShapes Go.RowKit
theorem wpList_buildB {P : Program} {ops : Array Oper} {rest : List Oper} {o : Oper} {a : Act} {w : World} {Q : Exit → Act → World → Prop} (hgd : o.guard = none) (ty : TypeId) (i j : Nat) (x y : Operand) (ho : o.op = .build ty #[(i, x), (j, y)])
    (p q v : Value) (hx : a.eval x = p) (hy : a.eval y = q) (hv : (Instr.build ty #[(i, p), (j, q)]).run P w = .ok v w) (h : wpList P ops Q rest (a.put o.dst v) w) : wpList P ops Q (o :: rest) a w :=
  wpList_plain hgd fun _ hK => by
    unfold Oper.wp execOp
    simp only [ho, List.map_toArray, List.map_cons, List.map_nil, hx, hy, Sem.run_bind, hv, Sem.run_pure, Result.andThen_ok]
    exact hK _ _ h
set_option maxRecDepth 100000 in
set_option maxHeartbeats 8000000 in
theorem rTParse_any (s : ByteArray) (w : World) (hs : s.size < 100000000) :
    Calls Tryz.prog 16 #[.string s] w fun e w' => e = .returned (tgRet (qTg (L s))) ∧ Below w.heap.size w w' := by
  obtain ⟨R, hR⟩ : ∃ R, qTg (L s) = R := ⟨_, rfl⟩
  rw [hR]
  have HR := Lib.hid hR
  clear hR
  go_enter Tryz.func16, Tryz.ntmps16
  go_wp2
  go_loopw [4] (fun kv wr => ∃ k : Nat, 1 ≤ k ∧ k ≤ 15 ∧ kv = .int .i64 k ∧ Hid (TSt w wr) ∧ Hid (findT (L s) = (candK3 k (15 - k)).find? (hitT (L s)))) (fun kv _ => 15 - (intOf kv).toNat)
  case atStart => exact ⟨1, by omega, by omega, rfl, Lib.hid ⟨heap_alloc_new w _, (Below.refl _ _).alloc (Nat.le_refl _) _⟩, rfl⟩
  case round =>
    obtain ⟨k, hk1, hk2, rfl, HS, HL⟩ := hrel
    by_cases hlt : k ≤ 14
    · have hk8 : (k : Int) ≤ 14 := by omega
      go_wp2
      obtain ⟨wo, rfl⟩ : ∃ wo : World, wo = wr := ⟨_, rfl⟩
      go_loopw [5] (fun nv wi => ∃ n : Nat, n ≤ 3 ∧ nv = .int .i64 n ∧ Hid (TSt w wi) ∧ Hid (findT (L s) = (candN3 k n ++ candK3 (k + 1) (14 - k)).find? (hitT (L s)))) (fun nv _ => 3 - (intOf nv).toNat)
      case atStart => exact ⟨0, by omega, rfl, HS, Lib.hid (by rw [HL.out, show 15 - k = (14 - k) + 1 by omega]; rfl)⟩
      case round =>
        obtain ⟨n, hn, rfl, HSi, HLi⟩ := hrel
        by_cases hln : n < 3
        · have hn4 : (n : Int) ≤ 2 := by omega
          have HG8 : Hid (w.heap.size < wr.heap.size) := Lib.hid (blk_lt HSi.out.1)
          obtain ⟨X, hX⟩ : ∃ X, B (verbW (k : Int)) = X := ⟨_, rfl⟩
          obtain ⟨V, hV⟩ : ∃ V, B (whoText (n : Int)) = V := ⟨_, rfl⟩
          have hxs : X.size ≤ 7 := by rw [← hX, B_size]; exact verbW_len _
          have hvs : V.size ≤ 9 := by rw [← hV, B_size]; exact whoText_len _
          have HX := Lib.hid hX
          have HV0 := Lib.hid hV
          obtain ⟨Y, hy⟩ : ∃ Y, Hid (Y = B (tgBegin k n)) := ⟨_, Lib.hid rfl⟩
          have hz32 : (⟨#[32]⟩ : ByteArray).size = 1 := rfl
          have hz40 : (⟨#[32, 40]⟩ : ByteArray).size = 2 := rfl
          have hvn := verbW_nat k (by omega) hk8
          cases hW : usesW (k : Int) with
          | false =>
            have HW := Lib.hid hW
            have hyx : X ++ ⟨#[32, 40]⟩ = Y := by
              rw [hy.out, ← hX, show (⟨#[32, 40]⟩ : ByteArray) = B [32, 40] from rfl, B_append, hvn]; unfold tgBegin tgHead; rw [if_neg (by rw [hW]; simp), List.append_nil]; rfl
            have hys : Y.size ≤ 20 := by rw [← hyx, ByteArray.size_append]; omega
            have a3 : ∀ wx : World, (Op.stringOp .add X ⟨#[32, 40]⟩).run Tryz.prog wx = .ok (.string Y) wx := fun wx => by rw [← hyx]; exact run_string_add_sum (P := Tryz.prog) (w := wx) _ _ (by omega)
            clear hX hV hvn hyx hW hz32 hz40
            go_wp2_with (first | refine wpList_buildB rfl TTg 0 1 _ _ rfl (.int .i64 k) (.int .i64 n) (.agg (Tg.cells ⟨(k : Int), (n : Int), zeroF⟩)) rfl rfl (build_kw _ _ _) ?_ | (refine wpList_store_row rfl TTg _ _ rfl wr.heap.size (Tg.cells ⟨(k : Int), (n : Int), zeroF⟩) rfl rfl TTg zeroT.cells (heap_alloc_new wr _) infoTTg rfl (tcells_one _) ?_; change wpList _ _ _ _ _ (stored wr TTg zeroT.cells (Tg.cells ⟨(k : Int), (n : Int), zeroF⟩)); have g2 := Lib.hid (stored_new wr TTg zeroT.cells (Tg.cells ⟨(k : Int), (n : Int), zeroF⟩)); have S2 := Lib.hid (TSt.below HSi.out (stored_below wr TTg zeroT.cells (Tg.cells ⟨(k : Int), (n : Int), zeroF⟩))); generalize stored wr TTg zeroT.cells (Tg.cells ⟨(k : Int), (n : Int), zeroF⟩) = w2 at *) | (go_at_call 19; (with_reducible refine (rTWord_is (k : Int) X HX _).mono ?_); rintro e wu ⟨rfl, rfl⟩) | (go_at_call 20; (with_reducible refine (rTHasWho_any (k : Int) false HW _).mono ?_); rintro e wu ⟨rfl, rfl⟩))
            generalize wr.heap.size = g8 at *
            cases hF : usesF (k : Int) with
            | false =>
              have HF := Lib.hid hF
              have HCT : Hid (candT (L s) (k, n) = ⟨(k : Int), (n : Int), zeroF⟩) := Lib.hid (by unfold candT tgGo; rw [hF]; rfl)
              clear hF
              go_wp2_with (first | (go_at_call 21; (with_reducible refine (rTHasF_any (k : Int) false HF _).mono ?_); rintro e wu ⟨rfl, rfl⟩) | refine wpList_load_row_g rfl TTg _ rfl g8 rfl TTg (⟨(k : Int), (n : Int), zeroF⟩ : Tg).cells (0, 0) _ g2.out Tryz.underlying27 rfl infoTTg ?_)
              generalize (⟨(k : Int), (n : Int), zeroF⟩ : Tg) = t at *
              obtain ⟨T, hT⟩ : ∃ T, B (tgText t) = T := ⟨_, rfl⟩
              have HT := Lib.hid hT
              have hh : hitT (L s) (k, n) = (tgIs t && tgText t == L s) := by unfold hitT; rw [HCT.out]
              cases hv : tgIs t with
              | false =>
                have HV := Lib.hid hv
                have HN := Lib.hid (cand3_no hln (by rw [hh, hv]; rfl) HLi.out)
                clear hv hT hh
                go_wp2_with (first | refine wpList_load_row_g rfl TTg _ rfl g8 rfl TTg t.cells (0, 0) _ g2.out Tryz.underlying27 rfl infoTTg ?_ | (go_at_call 10; (with_reducible refine (rTIs_v t false HV _).mono ?_); rintro e w8 ⟨rfl, hb8⟩; have S8 := Lib.hid (TSt.below S2.out hb8)))
                go_roundw
                case rel => exact ⟨n + 1, by omega, by go_num, S8, HN⟩
                case measure => simp [intOf]; omega
              | true =>
                have HV := Lib.hid hv
                by_cases hx : tgText t = L s
                · have t3 : (T.toList == s.toList) = true := by rw [← hT, B_toList, L_toList]; simpa using hx
                  have HP := Lib.hid (cand3_yes hln (by rw [hh, hv, hx]; simp) HLi.out)
                  have HN : Hid (some t = R) := Lib.hid (by rw [← HR.out]; unfold qTg; rw [HP.out]; simp only; rw [HCT.out])
                  clear hv hT hx hh HP
                  go_wp2_with (first | refine wpList_load_row_g rfl TTg _ rfl g8 rfl TTg t.cells (0, 0) _ g9.out Tryz.underlying27 rfl infoTTg ?_ | refine wpList_load_row_g rfl TTg _ rfl g8 rfl TTg t.cells (0, 0) _ g8r.out Tryz.underlying27 rfl infoTTg ?_ | refine wpList_load_row_g rfl TTg _ rfl g8 rfl TTg t.cells (0, 0) _ g2.out Tryz.underlying27 rfl infoTTg ?_ | (go_at_call 10; (with_reducible refine (rTIs_v t true HV _).mono ?_); rintro e w8 ⟨rfl, hb8⟩; have S8 := Lib.hid (TSt.below S2.out hb8); have g8r := Lib.hid (blk_below2 hb8 g2.out)) | (go_at_call 14; (with_reducible refine (rTText_is t T HT _).mono ?_); rintro e w9 ⟨rfl, hb9⟩; have S9 := Lib.hid (TSt.below S8.out hb9); have g9 := Lib.hid (blk_below2 hb9 g8r.out)) | refine wpList_store_row rfl TTg _ _ rfl w.heap.size t.cells rfl rfl TTg zeroT.cells S9.out.1 infoTTg rfl (tcells_one _) ?_)
                  exact bodyPost_ret (results_row_tmp rfl _ _ w.heap.size TTg t.cells (0, 0) _ rfl (row_set S9.out.1) Tryz.underlying27 rfl infoTTg) rfl ⟨ret_val (by rw [← HN.out]; rfl), below_setRow S9.out.2 (Nat.le_refl _) _⟩
                · have t3 : (T.toList == s.toList) = false := by rw [← hT, B_toList, L_toList]; simpa using hx
                  have HN := Lib.hid (cand3_no hln (by rw [hh, hv]; simp [hx]) HLi.out)
                  clear hv hT hx hh
                  go_wp2_with (first | refine wpList_load_row_g rfl TTg _ rfl g8 rfl TTg t.cells (0, 0) _ g8r.out Tryz.underlying27 rfl infoTTg ?_ | refine wpList_load_row_g rfl TTg _ rfl g8 rfl TTg t.cells (0, 0) _ g2.out Tryz.underlying27 rfl infoTTg ?_ | (go_at_call 10; (with_reducible refine (rTIs_v t true HV _).mono ?_); rintro e w8 ⟨rfl, hb8⟩; have S8 := Lib.hid (TSt.below S2.out hb8); have g8r := Lib.hid (blk_below2 hb8 g2.out)) | (go_at_call 14; (with_reducible refine (rTText_is t T HT _).mono ?_); rintro e w9 ⟨rfl, hb9⟩; have S9 := Lib.hid (TSt.below S8.out hb9)))
                  go_roundw
                  case rel => exact ⟨n + 1, by omega, by go_num, S9, HN⟩
                  case measure => simp [intOf]; omega
            | true =>
              have HF := Lib.hid hF
              by_cases hlen : Y.size < s.size
              · have hlenI : (Y.size : Int) < s.size := by omega
                by_cases hpre : (L s).take (tgBegin k n).length = tgBegin k n
                · have HPQ : ((s.extract 0 Y.size).toList == Y.toList) = true := by rw [hy.out, B_toList, L_toList, L_extract, B_size]; simpa using hpre
                  have HM : Hid (L (s.extract Y.size (s.size - 1)) = tgMid (L s) k n) := Lib.hid (by rw [L_extract]; unfold tgMid; rw [size_l, hy.out, B_size])
                  have HCT0 : Hid (candT (L s) (k, n) = ⟨(k : Int), (n : Int), (parseS (tgMid (L s) k n)).getD zeroF⟩) := Lib.hid (by
                    unfold candT; rw [if_pos]; unfold tgGo; rw [hF, hpre, size_l, decide_eq_true (by rw [hy.out, B_size] at hlen; exact hlen)]; simp)
                  have hxs : (s.extract Y.size (s.size - 1)).size < 100000000 := by rw [ByteArray.size_extract]; omega
                  have FP : ∀ wx, Calls Tryz.prog 29 #[.string (s.extract Y.size (s.size - 1))] wx fun e w' => e = .returned (fltRet (parseS (tgMid (L s) k n))) ∧ Below wx.heap.size wx w' := fun wx => (rParse_any _ wx hxs).mono fun e w' h => ⟨by rw [h.1, HM.out, qParse_eq], h.2⟩
                  obtain ⟨f, c, hfc, hff⟩ : ∃ f c, fltRet (parseS (tgMid (L s) k n)) = .tuple #[.agg (Flt.cells f), .int .i64 c] ∧ (parseS (tgMid (L s) k n)).getD zeroF = f := by
                    cases parseS (tgMid (L s) k n) with
                    | none => exact ⟨zeroF, 3, rfl, rfl⟩
                    | some f => exact ⟨f, 0, rfl, rfl⟩
                  rw [hfc] at FP
                  have HFP := Lib.hid FP
                  have HCT : Hid (candT (L s) (k, n) = ⟨(k : Int), (n : Int), f⟩) := Lib.hid (by rw [HCT0.out, hff])
                  have hsub : (s.size : Int) - 1 = ((s.size - 1 : Nat) : Int) := by omega
                  clear hF hpre HM HCT0 hxs FP hfc hff
                  go_wp2_with (first | (go_at_call 21; (with_reducible refine (rTHasF_any (k : Int) true HF _).mono ?_); rintro e wu ⟨rfl, rfl⟩) | (go_at_call 29; (with_reducible refine (HFP.out _).mono ?_); rintro e w5 ⟨rfl, hb5⟩; have S5 := Lib.hid (TSt.below S2.out hb5); have g5 := Lib.hid (blk_below2 hb5 g2.out)) | (refine wpList_store_row rfl TF _ _ rfl w5.heap.size f.cells rfl rfl TF zeroF.cells (heap_alloc_new w5 _) infoTF rfl (cells_one _) ?_; change wpList _ _ _ _ _ (stored w5 TF zeroF.cells f.cells); have f6 := Lib.hid (stored_new w5 TF zeroF.cells f.cells); have S6 := Lib.hid (TSt.below S5.out (stored_below w5 TF zeroF.cells f.cells)); have g6 := Lib.hid (blk_below2 (stored_below w5 TF zeroF.cells f.cells) g5.out); generalize stored w5 TF zeroF.cells f.cells = w6 at *) | refine wpList_load_row rfl TF _ rfl w5.heap.size rfl TF f.cells (0, 0) _ f6.out Tryz.underlying25 rfl infoTF ?_ | (refine wpList_store_part rfl TF _ _ rfl g8 2 TTg (Tg.cells ⟨(k : Int), (n : Int), zeroF⟩) f.cells (Tg.cells ⟨(k : Int), (n : Int), f⟩) rfl rfl g6.out (by simp [Tg.cells, Flt.cells]) (tg_put _ f) infoTF (cells_one _) ?_; have g7 := Lib.hid (row_set (cs := Tg.cells ⟨(k : Int), (n : Int), f⟩) g6.out); have S7 := Lib.hid (TSt.setRow S6.out HG8.out (Tg.cells ⟨(k : Int), (n : Int), f⟩)); generalize World.setRow w6 g8 (Tg.cells ⟨(k : Int), (n : Int), f⟩) = w7 at *) | refine wpList_load_row_g rfl TTg _ rfl g8 rfl TTg (⟨(k : Int), (n : Int), f⟩ : Tg).cells (0, 0) _ g7.out Tryz.underlying27 rfl infoTTg ?_)
                  generalize (⟨(k : Int), (n : Int), f⟩ : Tg) = t at *
                  obtain ⟨T, hT⟩ : ∃ T, B (tgText t) = T := ⟨_, rfl⟩
                  have HT := Lib.hid hT
                  have hh : hitT (L s) (k, n) = (tgIs t && tgText t == L s) := by unfold hitT; rw [HCT.out]
                  cases hv : tgIs t with
                  | false =>
                    have HV := Lib.hid hv
                    have HN := Lib.hid (cand3_no hln (by rw [hh, hv]; rfl) HLi.out)
                    clear hv hT hh
                    go_wp2_with (first | refine wpList_load_row_g rfl TTg _ rfl g8 rfl TTg t.cells (0, 0) _ g7.out Tryz.underlying27 rfl infoTTg ?_ | (go_at_call 10; (with_reducible refine (rTIs_v t false HV _).mono ?_); rintro e w8 ⟨rfl, hb8⟩; have S8 := Lib.hid (TSt.below S7.out hb8)))
                    go_roundw
                    case rel => exact ⟨n + 1, by omega, by go_num, S8, HN⟩
                    case measure => simp [intOf]; omega
                  | true =>
                    have HV := Lib.hid hv
                    by_cases hx : tgText t = L s
                    · have t3 : (T.toList == s.toList) = true := by rw [← hT, B_toList, L_toList]; simpa using hx
                      have HP := Lib.hid (cand3_yes hln (by rw [hh, hv, hx]; simp) HLi.out)
                      have HN : Hid (some t = R) := Lib.hid (by rw [← HR.out]; unfold qTg; rw [HP.out]; simp only; rw [HCT.out])
                      clear hv hT hx hh HP
                      go_wp2_with (first | refine wpList_load_row_g rfl TTg _ rfl g8 rfl TTg t.cells (0, 0) _ g9.out Tryz.underlying27 rfl infoTTg ?_ | refine wpList_load_row_g rfl TTg _ rfl g8 rfl TTg t.cells (0, 0) _ g8r.out Tryz.underlying27 rfl infoTTg ?_ | refine wpList_load_row_g rfl TTg _ rfl g8 rfl TTg t.cells (0, 0) _ g7.out Tryz.underlying27 rfl infoTTg ?_ | (go_at_call 10; (with_reducible refine (rTIs_v t true HV _).mono ?_); rintro e w8 ⟨rfl, hb8⟩; have S8 := Lib.hid (TSt.below S7.out hb8); have g8r := Lib.hid (blk_below2 hb8 g7.out)) | (go_at_call 14; (with_reducible refine (rTText_is t T HT _).mono ?_); rintro e w9 ⟨rfl, hb9⟩; have S9 := Lib.hid (TSt.below S8.out hb9); have g9 := Lib.hid (blk_below2 hb9 g8r.out)) | refine wpList_store_row rfl TTg _ _ rfl w.heap.size t.cells rfl rfl TTg zeroT.cells S9.out.1 infoTTg rfl (tcells_one _) ?_)
                      exact bodyPost_ret (results_row_tmp rfl _ _ w.heap.size TTg t.cells (0, 0) _ rfl (row_set S9.out.1) Tryz.underlying27 rfl infoTTg) rfl ⟨ret_val (by rw [← HN.out]; rfl), below_setRow S9.out.2 (Nat.le_refl _) _⟩
                    · have t3 : (T.toList == s.toList) = false := by rw [← hT, B_toList, L_toList]; simpa using hx
                      have HN := Lib.hid (cand3_no hln (by rw [hh, hv]; simp [hx]) HLi.out)
                      clear hv hT hx hh
                      go_wp2_with (first | refine wpList_load_row_g rfl TTg _ rfl g8 rfl TTg t.cells (0, 0) _ g8r.out Tryz.underlying27 rfl infoTTg ?_ | refine wpList_load_row_g rfl TTg _ rfl g8 rfl TTg t.cells (0, 0) _ g7.out Tryz.underlying27 rfl infoTTg ?_ | (go_at_call 10; (with_reducible refine (rTIs_v t true HV _).mono ?_); rintro e w8 ⟨rfl, hb8⟩; have S8 := Lib.hid (TSt.below S7.out hb8); have g8r := Lib.hid (blk_below2 hb8 g7.out)) | (go_at_call 14; (with_reducible refine (rTText_is t T HT _).mono ?_); rintro e w9 ⟨rfl, hb9⟩; have S9 := Lib.hid (TSt.below S8.out hb9)))
                      go_roundw
                      case rel => exact ⟨n + 1, by omega, by go_num, S9, HN⟩
                      case measure => simp [intOf]; omega
                · have HPQ : ((s.extract 0 Y.size).toList == Y.toList) = false := by rw [hy.out, B_toList, L_toList, L_extract, B_size]; simpa using hpre
                  have HCT : Hid (candT (L s) (k, n) = ⟨(k : Int), (n : Int), zeroF⟩) := Lib.hid (by unfold candT; rw [if_neg]; unfold tgGo; simp [hpre])
                  clear hF hpre
                  go_wp2_with (first | (go_at_call 21; (with_reducible refine (rTHasF_any (k : Int) true HF _).mono ?_); rintro e wu ⟨rfl, rfl⟩) | refine wpList_load_row_g rfl TTg _ rfl g8 rfl TTg (⟨(k : Int), (n : Int), zeroF⟩ : Tg).cells (0, 0) _ g2.out Tryz.underlying27 rfl infoTTg ?_)
                  generalize (⟨(k : Int), (n : Int), zeroF⟩ : Tg) = t at *
                  obtain ⟨T, hT⟩ : ∃ T, B (tgText t) = T := ⟨_, rfl⟩
                  have HT := Lib.hid hT
                  have hh : hitT (L s) (k, n) = (tgIs t && tgText t == L s) := by unfold hitT; rw [HCT.out]
                  cases hv : tgIs t with
                  | false =>
                    have HV := Lib.hid hv
                    have HN := Lib.hid (cand3_no hln (by rw [hh, hv]; rfl) HLi.out)
                    clear hv hT hh
                    go_wp2_with (first | refine wpList_load_row_g rfl TTg _ rfl g8 rfl TTg t.cells (0, 0) _ g2.out Tryz.underlying27 rfl infoTTg ?_ | (go_at_call 10; (with_reducible refine (rTIs_v t false HV _).mono ?_); rintro e w8 ⟨rfl, hb8⟩; have S8 := Lib.hid (TSt.below S2.out hb8)))
                    go_roundw
                    case rel => exact ⟨n + 1, by omega, by go_num, S8, HN⟩
                    case measure => simp [intOf]; omega
                  | true =>
                    have HV := Lib.hid hv
                    by_cases hx : tgText t = L s
                    · have t3 : (T.toList == s.toList) = true := by rw [← hT, B_toList, L_toList]; simpa using hx
                      have HP := Lib.hid (cand3_yes hln (by rw [hh, hv, hx]; simp) HLi.out)
                      have HN : Hid (some t = R) := Lib.hid (by rw [← HR.out]; unfold qTg; rw [HP.out]; simp only; rw [HCT.out])
                      clear hv hT hx hh HP
                      go_wp2_with (first | refine wpList_load_row_g rfl TTg _ rfl g8 rfl TTg t.cells (0, 0) _ g9.out Tryz.underlying27 rfl infoTTg ?_ | refine wpList_load_row_g rfl TTg _ rfl g8 rfl TTg t.cells (0, 0) _ g8r.out Tryz.underlying27 rfl infoTTg ?_ | refine wpList_load_row_g rfl TTg _ rfl g8 rfl TTg t.cells (0, 0) _ g2.out Tryz.underlying27 rfl infoTTg ?_ | (go_at_call 10; (with_reducible refine (rTIs_v t true HV _).mono ?_); rintro e w8 ⟨rfl, hb8⟩; have S8 := Lib.hid (TSt.below S2.out hb8); have g8r := Lib.hid (blk_below2 hb8 g2.out)) | (go_at_call 14; (with_reducible refine (rTText_is t T HT _).mono ?_); rintro e w9 ⟨rfl, hb9⟩; have S9 := Lib.hid (TSt.below S8.out hb9); have g9 := Lib.hid (blk_below2 hb9 g8r.out)) | refine wpList_store_row rfl TTg _ _ rfl w.heap.size t.cells rfl rfl TTg zeroT.cells S9.out.1 infoTTg rfl (tcells_one _) ?_)
                      exact bodyPost_ret (results_row_tmp rfl _ _ w.heap.size TTg t.cells (0, 0) _ rfl (row_set S9.out.1) Tryz.underlying27 rfl infoTTg) rfl ⟨ret_val (by rw [← HN.out]; rfl), below_setRow S9.out.2 (Nat.le_refl _) _⟩
                    · have t3 : (T.toList == s.toList) = false := by rw [← hT, B_toList, L_toList]; simpa using hx
                      have HN := Lib.hid (cand3_no hln (by rw [hh, hv]; simp [hx]) HLi.out)
                      clear hv hT hx hh
                      go_wp2_with (first | refine wpList_load_row_g rfl TTg _ rfl g8 rfl TTg t.cells (0, 0) _ g8r.out Tryz.underlying27 rfl infoTTg ?_ | refine wpList_load_row_g rfl TTg _ rfl g8 rfl TTg t.cells (0, 0) _ g2.out Tryz.underlying27 rfl infoTTg ?_ | (go_at_call 10; (with_reducible refine (rTIs_v t true HV _).mono ?_); rintro e w8 ⟨rfl, hb8⟩; have S8 := Lib.hid (TSt.below S2.out hb8); have g8r := Lib.hid (blk_below2 hb8 g2.out)) | (go_at_call 14; (with_reducible refine (rTText_is t T HT _).mono ?_); rintro e w9 ⟨rfl, hb9⟩; have S9 := Lib.hid (TSt.below S8.out hb9)))
                      go_roundw
                      case rel => exact ⟨n + 1, by omega, by go_num, S9, HN⟩
                      case measure => simp [intOf]; omega
              · have hlenI : ¬ (Y.size : Int) < s.size := by omega
                have HCT : Hid (candT (L s) (k, n) = ⟨(k : Int), (n : Int), zeroF⟩) := Lib.hid (by unfold candT; rw [if_neg]; unfold tgGo; rw [size_l, decide_eq_false (by rw [hy.out, B_size] at hlen; exact hlen)]; simp)
                clear hF
                go_wp2_with (first | (go_at_call 21; (with_reducible refine (rTHasF_any (k : Int) true HF _).mono ?_); rintro e wu ⟨rfl, rfl⟩) | refine wpList_load_row_g rfl TTg _ rfl g8 rfl TTg (⟨(k : Int), (n : Int), zeroF⟩ : Tg).cells (0, 0) _ g2.out Tryz.underlying27 rfl infoTTg ?_)
                generalize (⟨(k : Int), (n : Int), zeroF⟩ : Tg) = t at *
                obtain ⟨T, hT⟩ : ∃ T, B (tgText t) = T := ⟨_, rfl⟩
                have HT := Lib.hid hT
                have hh : hitT (L s) (k, n) = (tgIs t && tgText t == L s) := by unfold hitT; rw [HCT.out]
                cases hv : tgIs t with
                | false =>
                  have HV := Lib.hid hv
                  have HN := Lib.hid (cand3_no hln (by rw [hh, hv]; rfl) HLi.out)
                  clear hv hT hh
                  go_wp2_with (first | refine wpList_load_row_g rfl TTg _ rfl g8 rfl TTg t.cells (0, 0) _ g2.out Tryz.underlying27 rfl infoTTg ?_ | (go_at_call 10; (with_reducible refine (rTIs_v t false HV _).mono ?_); rintro e w8 ⟨rfl, hb8⟩; have S8 := Lib.hid (TSt.below S2.out hb8)))
                  go_roundw
                  case rel => exact ⟨n + 1, by omega, by go_num, S8, HN⟩
                  case measure => simp [intOf]; omega
                | true =>
                  have HV := Lib.hid hv
                  by_cases hx : tgText t = L s
                  · have t3 : (T.toList == s.toList) = true := by rw [← hT, B_toList, L_toList]; simpa using hx
                    have HP := Lib.hid (cand3_yes hln (by rw [hh, hv, hx]; simp) HLi.out)
                    have HN : Hid (some t = R) := Lib.hid (by rw [← HR.out]; unfold qTg; rw [HP.out]; simp only; rw [HCT.out])
                    clear hv hT hx hh HP
                    go_wp2_with (first | refine wpList_load_row_g rfl TTg _ rfl g8 rfl TTg t.cells (0, 0) _ g9.out Tryz.underlying27 rfl infoTTg ?_ | refine wpList_load_row_g rfl TTg _ rfl g8 rfl TTg t.cells (0, 0) _ g8r.out Tryz.underlying27 rfl infoTTg ?_ | refine wpList_load_row_g rfl TTg _ rfl g8 rfl TTg t.cells (0, 0) _ g2.out Tryz.underlying27 rfl infoTTg ?_ | (go_at_call 10; (with_reducible refine (rTIs_v t true HV _).mono ?_); rintro e w8 ⟨rfl, hb8⟩; have S8 := Lib.hid (TSt.below S2.out hb8); have g8r := Lib.hid (blk_below2 hb8 g2.out)) | (go_at_call 14; (with_reducible refine (rTText_is t T HT _).mono ?_); rintro e w9 ⟨rfl, hb9⟩; have S9 := Lib.hid (TSt.below S8.out hb9); have g9 := Lib.hid (blk_below2 hb9 g8r.out)) | refine wpList_store_row rfl TTg _ _ rfl w.heap.size t.cells rfl rfl TTg zeroT.cells S9.out.1 infoTTg rfl (tcells_one _) ?_)
                    exact bodyPost_ret (results_row_tmp rfl _ _ w.heap.size TTg t.cells (0, 0) _ rfl (row_set S9.out.1) Tryz.underlying27 rfl infoTTg) rfl ⟨ret_val (by rw [← HN.out]; rfl), below_setRow S9.out.2 (Nat.le_refl _) _⟩
                  · have t3 : (T.toList == s.toList) = false := by rw [← hT, B_toList, L_toList]; simpa using hx
                    have HN := Lib.hid (cand3_no hln (by rw [hh, hv]; simp [hx]) HLi.out)
                    clear hv hT hx hh
                    go_wp2_with (first | refine wpList_load_row_g rfl TTg _ rfl g8 rfl TTg t.cells (0, 0) _ g8r.out Tryz.underlying27 rfl infoTTg ?_ | refine wpList_load_row_g rfl TTg _ rfl g8 rfl TTg t.cells (0, 0) _ g2.out Tryz.underlying27 rfl infoTTg ?_ | (go_at_call 10; (with_reducible refine (rTIs_v t true HV _).mono ?_); rintro e w8 ⟨rfl, hb8⟩; have S8 := Lib.hid (TSt.below S2.out hb8); have g8r := Lib.hid (blk_below2 hb8 g2.out)) | (go_at_call 14; (with_reducible refine (rTText_is t T HT _).mono ?_); rintro e w9 ⟨rfl, hb9⟩; have S9 := Lib.hid (TSt.below S8.out hb9)))
                    go_roundw
                    case rel => exact ⟨n + 1, by omega, by go_num, S9, HN⟩
                    case measure => simp [intOf]; omega
          | true =>
            have HW := Lib.hid hW
            have hyx : X ++ ⟨#[32]⟩ ++ V ++ ⟨#[32, 40]⟩ = Y := by
              rw [hy.out, ← hX, ← hV, show (⟨#[32, 40]⟩ : ByteArray) = B [32, 40] from rfl, show (⟨#[32]⟩ : ByteArray) = B [32] from rfl, B_append, B_append, B_append, hvn]; unfold tgBegin tgHead; rw [if_pos hW]; simp
            have hys : Y.size ≤ 20 := by rw [← hyx]; simp only [ByteArray.size_append]; omega
            have a1 : ∀ wx : World, (Op.stringOp .add X ⟨#[32]⟩).run Tryz.prog wx = .ok (.string (X ++ ⟨#[32]⟩)) wx := fun wx => run_string_add_sum (P := Tryz.prog) (w := wx) _ _ (by omega)
            have a2 : ∀ wx : World, (Op.stringOp .add (X ++ ⟨#[32]⟩) V).run Tryz.prog wx = .ok (.string (X ++ ⟨#[32]⟩ ++ V)) wx := fun wx => run_string_add_sum (P := Tryz.prog) (w := wx) _ _ (by rw [ByteArray.size_append]; omega)
            have a3 : ∀ wx : World, (Op.stringOp .add (X ++ ⟨#[32]⟩ ++ V) ⟨#[32, 40]⟩).run Tryz.prog wx = .ok (.string Y) wx := fun wx => by rw [← hyx]; exact run_string_add_sum (P := Tryz.prog) (w := wx) _ _ (by rw [ByteArray.size_append, ByteArray.size_append]; omega)
            clear hX hV hvn hyx hW hz32 hz40
            go_wp2_with (first | refine wpList_buildB rfl TTg 0 1 _ _ rfl (.int .i64 k) (.int .i64 n) (.agg (Tg.cells ⟨(k : Int), (n : Int), zeroF⟩)) rfl rfl (build_kw _ _ _) ?_ | (refine wpList_store_row rfl TTg _ _ rfl wr.heap.size (Tg.cells ⟨(k : Int), (n : Int), zeroF⟩) rfl rfl TTg zeroT.cells (heap_alloc_new wr _) infoTTg rfl (tcells_one _) ?_; change wpList _ _ _ _ _ (stored wr TTg zeroT.cells (Tg.cells ⟨(k : Int), (n : Int), zeroF⟩)); have g2 := Lib.hid (stored_new wr TTg zeroT.cells (Tg.cells ⟨(k : Int), (n : Int), zeroF⟩)); have S2 := Lib.hid (TSt.below HSi.out (stored_below wr TTg zeroT.cells (Tg.cells ⟨(k : Int), (n : Int), zeroF⟩))); generalize stored wr TTg zeroT.cells (Tg.cells ⟨(k : Int), (n : Int), zeroF⟩) = w2 at *) | (go_at_call 19; (with_reducible refine (rTWord_is (k : Int) X HX _).mono ?_); rintro e wu ⟨rfl, rfl⟩) | (go_at_call 20; (with_reducible refine (rTHasWho_any (k : Int) true HW _).mono ?_); rintro e wu ⟨rfl, rfl⟩) | (go_at_call 12; (with_reducible refine (rTWho_is (n : Int) V HV0 _).mono ?_); rintro e wu ⟨rfl, rfl⟩))
            generalize wr.heap.size = g8 at *
            cases hF : usesF (k : Int) with
            | false =>
              have HF := Lib.hid hF
              have HCT : Hid (candT (L s) (k, n) = ⟨(k : Int), (n : Int), zeroF⟩) := Lib.hid (by unfold candT tgGo; rw [hF]; rfl)
              clear hF
              go_wp2_with (first | (go_at_call 21; (with_reducible refine (rTHasF_any (k : Int) false HF _).mono ?_); rintro e wu ⟨rfl, rfl⟩) | refine wpList_load_row_g rfl TTg _ rfl g8 rfl TTg (⟨(k : Int), (n : Int), zeroF⟩ : Tg).cells (0, 0) _ g2.out Tryz.underlying27 rfl infoTTg ?_)
              generalize (⟨(k : Int), (n : Int), zeroF⟩ : Tg) = t at *
              obtain ⟨T, hT⟩ : ∃ T, B (tgText t) = T := ⟨_, rfl⟩
              have HT := Lib.hid hT
              have hh : hitT (L s) (k, n) = (tgIs t && tgText t == L s) := by unfold hitT; rw [HCT.out]
              cases hv : tgIs t with
              | false =>
                have HV := Lib.hid hv
                have HN := Lib.hid (cand3_no hln (by rw [hh, hv]; rfl) HLi.out)
                clear hv hT hh
                go_wp2_with (first | refine wpList_load_row_g rfl TTg _ rfl g8 rfl TTg t.cells (0, 0) _ g2.out Tryz.underlying27 rfl infoTTg ?_ | (go_at_call 10; (with_reducible refine (rTIs_v t false HV _).mono ?_); rintro e w8 ⟨rfl, hb8⟩; have S8 := Lib.hid (TSt.below S2.out hb8)))
                go_roundw
                case rel => exact ⟨n + 1, by omega, by go_num, S8, HN⟩
                case measure => simp [intOf]; omega
              | true =>
                have HV := Lib.hid hv
                by_cases hx : tgText t = L s
                · have t3 : (T.toList == s.toList) = true := by rw [← hT, B_toList, L_toList]; simpa using hx
                  have HP := Lib.hid (cand3_yes hln (by rw [hh, hv, hx]; simp) HLi.out)
                  have HN : Hid (some t = R) := Lib.hid (by rw [← HR.out]; unfold qTg; rw [HP.out]; simp only; rw [HCT.out])
                  clear hv hT hx hh HP
                  go_wp2_with (first | refine wpList_load_row_g rfl TTg _ rfl g8 rfl TTg t.cells (0, 0) _ g9.out Tryz.underlying27 rfl infoTTg ?_ | refine wpList_load_row_g rfl TTg _ rfl g8 rfl TTg t.cells (0, 0) _ g8r.out Tryz.underlying27 rfl infoTTg ?_ | refine wpList_load_row_g rfl TTg _ rfl g8 rfl TTg t.cells (0, 0) _ g2.out Tryz.underlying27 rfl infoTTg ?_ | (go_at_call 10; (with_reducible refine (rTIs_v t true HV _).mono ?_); rintro e w8 ⟨rfl, hb8⟩; have S8 := Lib.hid (TSt.below S2.out hb8); have g8r := Lib.hid (blk_below2 hb8 g2.out)) | (go_at_call 14; (with_reducible refine (rTText_is t T HT _).mono ?_); rintro e w9 ⟨rfl, hb9⟩; have S9 := Lib.hid (TSt.below S8.out hb9); have g9 := Lib.hid (blk_below2 hb9 g8r.out)) | refine wpList_store_row rfl TTg _ _ rfl w.heap.size t.cells rfl rfl TTg zeroT.cells S9.out.1 infoTTg rfl (tcells_one _) ?_)
                  exact bodyPost_ret (results_row_tmp rfl _ _ w.heap.size TTg t.cells (0, 0) _ rfl (row_set S9.out.1) Tryz.underlying27 rfl infoTTg) rfl ⟨ret_val (by rw [← HN.out]; rfl), below_setRow S9.out.2 (Nat.le_refl _) _⟩
                · have t3 : (T.toList == s.toList) = false := by rw [← hT, B_toList, L_toList]; simpa using hx
                  have HN := Lib.hid (cand3_no hln (by rw [hh, hv]; simp [hx]) HLi.out)
                  clear hv hT hx hh
                  go_wp2_with (first | refine wpList_load_row_g rfl TTg _ rfl g8 rfl TTg t.cells (0, 0) _ g8r.out Tryz.underlying27 rfl infoTTg ?_ | refine wpList_load_row_g rfl TTg _ rfl g8 rfl TTg t.cells (0, 0) _ g2.out Tryz.underlying27 rfl infoTTg ?_ | (go_at_call 10; (with_reducible refine (rTIs_v t true HV _).mono ?_); rintro e w8 ⟨rfl, hb8⟩; have S8 := Lib.hid (TSt.below S2.out hb8); have g8r := Lib.hid (blk_below2 hb8 g2.out)) | (go_at_call 14; (with_reducible refine (rTText_is t T HT _).mono ?_); rintro e w9 ⟨rfl, hb9⟩; have S9 := Lib.hid (TSt.below S8.out hb9)))
                  go_roundw
                  case rel => exact ⟨n + 1, by omega, by go_num, S9, HN⟩
                  case measure => simp [intOf]; omega
            | true =>
              have HF := Lib.hid hF
              by_cases hlen : Y.size < s.size
              · have hlenI : (Y.size : Int) < s.size := by omega
                by_cases hpre : (L s).take (tgBegin k n).length = tgBegin k n
                · have HPQ : ((s.extract 0 Y.size).toList == Y.toList) = true := by rw [hy.out, B_toList, L_toList, L_extract, B_size]; simpa using hpre
                  have HM : Hid (L (s.extract Y.size (s.size - 1)) = tgMid (L s) k n) := Lib.hid (by rw [L_extract]; unfold tgMid; rw [size_l, hy.out, B_size])
                  have HCT0 : Hid (candT (L s) (k, n) = ⟨(k : Int), (n : Int), (parseS (tgMid (L s) k n)).getD zeroF⟩) := Lib.hid (by
                    unfold candT; rw [if_pos]; unfold tgGo; rw [hF, hpre, size_l, decide_eq_true (by rw [hy.out, B_size] at hlen; exact hlen)]; simp)
                  have hxs : (s.extract Y.size (s.size - 1)).size < 100000000 := by rw [ByteArray.size_extract]; omega
                  have FP : ∀ wx, Calls Tryz.prog 29 #[.string (s.extract Y.size (s.size - 1))] wx fun e w' => e = .returned (fltRet (parseS (tgMid (L s) k n))) ∧ Below wx.heap.size wx w' := fun wx => (rParse_any _ wx hxs).mono fun e w' h => ⟨by rw [h.1, HM.out, qParse_eq], h.2⟩
                  obtain ⟨f, c, hfc, hff⟩ : ∃ f c, fltRet (parseS (tgMid (L s) k n)) = .tuple #[.agg (Flt.cells f), .int .i64 c] ∧ (parseS (tgMid (L s) k n)).getD zeroF = f := by
                    cases parseS (tgMid (L s) k n) with
                    | none => exact ⟨zeroF, 3, rfl, rfl⟩
                    | some f => exact ⟨f, 0, rfl, rfl⟩
                  rw [hfc] at FP
                  have HFP := Lib.hid FP
                  have HCT : Hid (candT (L s) (k, n) = ⟨(k : Int), (n : Int), f⟩) := Lib.hid (by rw [HCT0.out, hff])
                  have hsub : (s.size : Int) - 1 = ((s.size - 1 : Nat) : Int) := by omega
                  clear hF hpre HM HCT0 hxs FP hfc hff
                  go_wp2_with (first | (go_at_call 21; (with_reducible refine (rTHasF_any (k : Int) true HF _).mono ?_); rintro e wu ⟨rfl, rfl⟩) | (go_at_call 29; (with_reducible refine (HFP.out _).mono ?_); rintro e w5 ⟨rfl, hb5⟩; have S5 := Lib.hid (TSt.below S2.out hb5); have g5 := Lib.hid (blk_below2 hb5 g2.out)) | (refine wpList_store_row rfl TF _ _ rfl w5.heap.size f.cells rfl rfl TF zeroF.cells (heap_alloc_new w5 _) infoTF rfl (cells_one _) ?_; change wpList _ _ _ _ _ (stored w5 TF zeroF.cells f.cells); have f6 := Lib.hid (stored_new w5 TF zeroF.cells f.cells); have S6 := Lib.hid (TSt.below S5.out (stored_below w5 TF zeroF.cells f.cells)); have g6 := Lib.hid (blk_below2 (stored_below w5 TF zeroF.cells f.cells) g5.out); generalize stored w5 TF zeroF.cells f.cells = w6 at *) | refine wpList_load_row rfl TF _ rfl w5.heap.size rfl TF f.cells (0, 0) _ f6.out Tryz.underlying25 rfl infoTF ?_ | (refine wpList_store_part rfl TF _ _ rfl g8 2 TTg (Tg.cells ⟨(k : Int), (n : Int), zeroF⟩) f.cells (Tg.cells ⟨(k : Int), (n : Int), f⟩) rfl rfl g6.out (by simp [Tg.cells, Flt.cells]) (tg_put _ f) infoTF (cells_one _) ?_; have g7 := Lib.hid (row_set (cs := Tg.cells ⟨(k : Int), (n : Int), f⟩) g6.out); have S7 := Lib.hid (TSt.setRow S6.out HG8.out (Tg.cells ⟨(k : Int), (n : Int), f⟩)); generalize World.setRow w6 g8 (Tg.cells ⟨(k : Int), (n : Int), f⟩) = w7 at *) | refine wpList_load_row_g rfl TTg _ rfl g8 rfl TTg (⟨(k : Int), (n : Int), f⟩ : Tg).cells (0, 0) _ g7.out Tryz.underlying27 rfl infoTTg ?_)
                  generalize (⟨(k : Int), (n : Int), f⟩ : Tg) = t at *
                  obtain ⟨T, hT⟩ : ∃ T, B (tgText t) = T := ⟨_, rfl⟩
                  have HT := Lib.hid hT
                  have hh : hitT (L s) (k, n) = (tgIs t && tgText t == L s) := by unfold hitT; rw [HCT.out]
                  cases hv : tgIs t with
                  | false =>
                    have HV := Lib.hid hv
                    have HN := Lib.hid (cand3_no hln (by rw [hh, hv]; rfl) HLi.out)
                    clear hv hT hh
                    go_wp2_with (first | refine wpList_load_row_g rfl TTg _ rfl g8 rfl TTg t.cells (0, 0) _ g7.out Tryz.underlying27 rfl infoTTg ?_ | (go_at_call 10; (with_reducible refine (rTIs_v t false HV _).mono ?_); rintro e w8 ⟨rfl, hb8⟩; have S8 := Lib.hid (TSt.below S7.out hb8)))
                    go_roundw
                    case rel => exact ⟨n + 1, by omega, by go_num, S8, HN⟩
                    case measure => simp [intOf]; omega
                  | true =>
                    have HV := Lib.hid hv
                    by_cases hx : tgText t = L s
                    · have t3 : (T.toList == s.toList) = true := by rw [← hT, B_toList, L_toList]; simpa using hx
                      have HP := Lib.hid (cand3_yes hln (by rw [hh, hv, hx]; simp) HLi.out)
                      have HN : Hid (some t = R) := Lib.hid (by rw [← HR.out]; unfold qTg; rw [HP.out]; simp only; rw [HCT.out])
                      clear hv hT hx hh HP
                      go_wp2_with (first | refine wpList_load_row_g rfl TTg _ rfl g8 rfl TTg t.cells (0, 0) _ g9.out Tryz.underlying27 rfl infoTTg ?_ | refine wpList_load_row_g rfl TTg _ rfl g8 rfl TTg t.cells (0, 0) _ g8r.out Tryz.underlying27 rfl infoTTg ?_ | refine wpList_load_row_g rfl TTg _ rfl g8 rfl TTg t.cells (0, 0) _ g7.out Tryz.underlying27 rfl infoTTg ?_ | (go_at_call 10; (with_reducible refine (rTIs_v t true HV _).mono ?_); rintro e w8 ⟨rfl, hb8⟩; have S8 := Lib.hid (TSt.below S7.out hb8); have g8r := Lib.hid (blk_below2 hb8 g7.out)) | (go_at_call 14; (with_reducible refine (rTText_is t T HT _).mono ?_); rintro e w9 ⟨rfl, hb9⟩; have S9 := Lib.hid (TSt.below S8.out hb9); have g9 := Lib.hid (blk_below2 hb9 g8r.out)) | refine wpList_store_row rfl TTg _ _ rfl w.heap.size t.cells rfl rfl TTg zeroT.cells S9.out.1 infoTTg rfl (tcells_one _) ?_)
                      exact bodyPost_ret (results_row_tmp rfl _ _ w.heap.size TTg t.cells (0, 0) _ rfl (row_set S9.out.1) Tryz.underlying27 rfl infoTTg) rfl ⟨ret_val (by rw [← HN.out]; rfl), below_setRow S9.out.2 (Nat.le_refl _) _⟩
                    · have t3 : (T.toList == s.toList) = false := by rw [← hT, B_toList, L_toList]; simpa using hx
                      have HN := Lib.hid (cand3_no hln (by rw [hh, hv]; simp [hx]) HLi.out)
                      clear hv hT hx hh
                      go_wp2_with (first | refine wpList_load_row_g rfl TTg _ rfl g8 rfl TTg t.cells (0, 0) _ g8r.out Tryz.underlying27 rfl infoTTg ?_ | refine wpList_load_row_g rfl TTg _ rfl g8 rfl TTg t.cells (0, 0) _ g7.out Tryz.underlying27 rfl infoTTg ?_ | (go_at_call 10; (with_reducible refine (rTIs_v t true HV _).mono ?_); rintro e w8 ⟨rfl, hb8⟩; have S8 := Lib.hid (TSt.below S7.out hb8); have g8r := Lib.hid (blk_below2 hb8 g7.out)) | (go_at_call 14; (with_reducible refine (rTText_is t T HT _).mono ?_); rintro e w9 ⟨rfl, hb9⟩; have S9 := Lib.hid (TSt.below S8.out hb9)))
                      go_roundw
                      case rel => exact ⟨n + 1, by omega, by go_num, S9, HN⟩
                      case measure => simp [intOf]; omega
                · have HPQ : ((s.extract 0 Y.size).toList == Y.toList) = false := by rw [hy.out, B_toList, L_toList, L_extract, B_size]; simpa using hpre
                  have HCT : Hid (candT (L s) (k, n) = ⟨(k : Int), (n : Int), zeroF⟩) := Lib.hid (by unfold candT; rw [if_neg]; unfold tgGo; simp [hpre])
                  clear hF hpre
                  go_wp2_with (first | (go_at_call 21; (with_reducible refine (rTHasF_any (k : Int) true HF _).mono ?_); rintro e wu ⟨rfl, rfl⟩) | refine wpList_load_row_g rfl TTg _ rfl g8 rfl TTg (⟨(k : Int), (n : Int), zeroF⟩ : Tg).cells (0, 0) _ g2.out Tryz.underlying27 rfl infoTTg ?_)
                  generalize (⟨(k : Int), (n : Int), zeroF⟩ : Tg) = t at *
                  obtain ⟨T, hT⟩ : ∃ T, B (tgText t) = T := ⟨_, rfl⟩
                  have HT := Lib.hid hT
                  have hh : hitT (L s) (k, n) = (tgIs t && tgText t == L s) := by unfold hitT; rw [HCT.out]
                  cases hv : tgIs t with
                  | false =>
                    have HV := Lib.hid hv
                    have HN := Lib.hid (cand3_no hln (by rw [hh, hv]; rfl) HLi.out)
                    clear hv hT hh
                    go_wp2_with (first | refine wpList_load_row_g rfl TTg _ rfl g8 rfl TTg t.cells (0, 0) _ g2.out Tryz.underlying27 rfl infoTTg ?_ | (go_at_call 10; (with_reducible refine (rTIs_v t false HV _).mono ?_); rintro e w8 ⟨rfl, hb8⟩; have S8 := Lib.hid (TSt.below S2.out hb8)))
                    go_roundw
                    case rel => exact ⟨n + 1, by omega, by go_num, S8, HN⟩
                    case measure => simp [intOf]; omega
                  | true =>
                    have HV := Lib.hid hv
                    by_cases hx : tgText t = L s
                    · have t3 : (T.toList == s.toList) = true := by rw [← hT, B_toList, L_toList]; simpa using hx
                      have HP := Lib.hid (cand3_yes hln (by rw [hh, hv, hx]; simp) HLi.out)
                      have HN : Hid (some t = R) := Lib.hid (by rw [← HR.out]; unfold qTg; rw [HP.out]; simp only; rw [HCT.out])
                      clear hv hT hx hh HP
                      go_wp2_with (first | refine wpList_load_row_g rfl TTg _ rfl g8 rfl TTg t.cells (0, 0) _ g9.out Tryz.underlying27 rfl infoTTg ?_ | refine wpList_load_row_g rfl TTg _ rfl g8 rfl TTg t.cells (0, 0) _ g8r.out Tryz.underlying27 rfl infoTTg ?_ | refine wpList_load_row_g rfl TTg _ rfl g8 rfl TTg t.cells (0, 0) _ g2.out Tryz.underlying27 rfl infoTTg ?_ | (go_at_call 10; (with_reducible refine (rTIs_v t true HV _).mono ?_); rintro e w8 ⟨rfl, hb8⟩; have S8 := Lib.hid (TSt.below S2.out hb8); have g8r := Lib.hid (blk_below2 hb8 g2.out)) | (go_at_call 14; (with_reducible refine (rTText_is t T HT _).mono ?_); rintro e w9 ⟨rfl, hb9⟩; have S9 := Lib.hid (TSt.below S8.out hb9); have g9 := Lib.hid (blk_below2 hb9 g8r.out)) | refine wpList_store_row rfl TTg _ _ rfl w.heap.size t.cells rfl rfl TTg zeroT.cells S9.out.1 infoTTg rfl (tcells_one _) ?_)
                      exact bodyPost_ret (results_row_tmp rfl _ _ w.heap.size TTg t.cells (0, 0) _ rfl (row_set S9.out.1) Tryz.underlying27 rfl infoTTg) rfl ⟨ret_val (by rw [← HN.out]; rfl), below_setRow S9.out.2 (Nat.le_refl _) _⟩
                    · have t3 : (T.toList == s.toList) = false := by rw [← hT, B_toList, L_toList]; simpa using hx
                      have HN := Lib.hid (cand3_no hln (by rw [hh, hv]; simp [hx]) HLi.out)
                      clear hv hT hx hh
                      go_wp2_with (first | refine wpList_load_row_g rfl TTg _ rfl g8 rfl TTg t.cells (0, 0) _ g8r.out Tryz.underlying27 rfl infoTTg ?_ | refine wpList_load_row_g rfl TTg _ rfl g8 rfl TTg t.cells (0, 0) _ g2.out Tryz.underlying27 rfl infoTTg ?_ | (go_at_call 10; (with_reducible refine (rTIs_v t true HV _).mono ?_); rintro e w8 ⟨rfl, hb8⟩; have S8 := Lib.hid (TSt.below S2.out hb8); have g8r := Lib.hid (blk_below2 hb8 g2.out)) | (go_at_call 14; (with_reducible refine (rTText_is t T HT _).mono ?_); rintro e w9 ⟨rfl, hb9⟩; have S9 := Lib.hid (TSt.below S8.out hb9)))
                      go_roundw
                      case rel => exact ⟨n + 1, by omega, by go_num, S9, HN⟩
                      case measure => simp [intOf]; omega
              · have hlenI : ¬ (Y.size : Int) < s.size := by omega
                have HCT : Hid (candT (L s) (k, n) = ⟨(k : Int), (n : Int), zeroF⟩) := Lib.hid (by unfold candT; rw [if_neg]; unfold tgGo; rw [size_l, decide_eq_false (by rw [hy.out, B_size] at hlen; exact hlen)]; simp)
                clear hF
                go_wp2_with (first | (go_at_call 21; (with_reducible refine (rTHasF_any (k : Int) true HF _).mono ?_); rintro e wu ⟨rfl, rfl⟩) | refine wpList_load_row_g rfl TTg _ rfl g8 rfl TTg (⟨(k : Int), (n : Int), zeroF⟩ : Tg).cells (0, 0) _ g2.out Tryz.underlying27 rfl infoTTg ?_)
                generalize (⟨(k : Int), (n : Int), zeroF⟩ : Tg) = t at *
                obtain ⟨T, hT⟩ : ∃ T, B (tgText t) = T := ⟨_, rfl⟩
                have HT := Lib.hid hT
                have hh : hitT (L s) (k, n) = (tgIs t && tgText t == L s) := by unfold hitT; rw [HCT.out]
                cases hv : tgIs t with
                | false =>
                  have HV := Lib.hid hv
                  have HN := Lib.hid (cand3_no hln (by rw [hh, hv]; rfl) HLi.out)
                  clear hv hT hh
                  go_wp2_with (first | refine wpList_load_row_g rfl TTg _ rfl g8 rfl TTg t.cells (0, 0) _ g2.out Tryz.underlying27 rfl infoTTg ?_ | (go_at_call 10; (with_reducible refine (rTIs_v t false HV _).mono ?_); rintro e w8 ⟨rfl, hb8⟩; have S8 := Lib.hid (TSt.below S2.out hb8)))
                  go_roundw
                  case rel => exact ⟨n + 1, by omega, by go_num, S8, HN⟩
                  case measure => simp [intOf]; omega
                | true =>
                  have HV := Lib.hid hv
                  by_cases hx : tgText t = L s
                  · have t3 : (T.toList == s.toList) = true := by rw [← hT, B_toList, L_toList]; simpa using hx
                    have HP := Lib.hid (cand3_yes hln (by rw [hh, hv, hx]; simp) HLi.out)
                    have HN : Hid (some t = R) := Lib.hid (by rw [← HR.out]; unfold qTg; rw [HP.out]; simp only; rw [HCT.out])
                    clear hv hT hx hh HP
                    go_wp2_with (first | refine wpList_load_row_g rfl TTg _ rfl g8 rfl TTg t.cells (0, 0) _ g9.out Tryz.underlying27 rfl infoTTg ?_ | refine wpList_load_row_g rfl TTg _ rfl g8 rfl TTg t.cells (0, 0) _ g8r.out Tryz.underlying27 rfl infoTTg ?_ | refine wpList_load_row_g rfl TTg _ rfl g8 rfl TTg t.cells (0, 0) _ g2.out Tryz.underlying27 rfl infoTTg ?_ | (go_at_call 10; (with_reducible refine (rTIs_v t true HV _).mono ?_); rintro e w8 ⟨rfl, hb8⟩; have S8 := Lib.hid (TSt.below S2.out hb8); have g8r := Lib.hid (blk_below2 hb8 g2.out)) | (go_at_call 14; (with_reducible refine (rTText_is t T HT _).mono ?_); rintro e w9 ⟨rfl, hb9⟩; have S9 := Lib.hid (TSt.below S8.out hb9); have g9 := Lib.hid (blk_below2 hb9 g8r.out)) | refine wpList_store_row rfl TTg _ _ rfl w.heap.size t.cells rfl rfl TTg zeroT.cells S9.out.1 infoTTg rfl (tcells_one _) ?_)
                    exact bodyPost_ret (results_row_tmp rfl _ _ w.heap.size TTg t.cells (0, 0) _ rfl (row_set S9.out.1) Tryz.underlying27 rfl infoTTg) rfl ⟨ret_val (by rw [← HN.out]; rfl), below_setRow S9.out.2 (Nat.le_refl _) _⟩
                  · have t3 : (T.toList == s.toList) = false := by rw [← hT, B_toList, L_toList]; simpa using hx
                    have HN := Lib.hid (cand3_no hln (by rw [hh, hv]; simp [hx]) HLi.out)
                    clear hv hT hx hh
                    go_wp2_with (first | refine wpList_load_row_g rfl TTg _ rfl g8 rfl TTg t.cells (0, 0) _ g8r.out Tryz.underlying27 rfl infoTTg ?_ | refine wpList_load_row_g rfl TTg _ rfl g8 rfl TTg t.cells (0, 0) _ g2.out Tryz.underlying27 rfl infoTTg ?_ | (go_at_call 10; (with_reducible refine (rTIs_v t true HV _).mono ?_); rintro e w8 ⟨rfl, hb8⟩; have S8 := Lib.hid (TSt.below S2.out hb8); have g8r := Lib.hid (blk_below2 hb8 g2.out)) | (go_at_call 14; (with_reducible refine (rTText_is t T HT _).mono ?_); rintro e w9 ⟨rfl, hb9⟩; have S9 := Lib.hid (TSt.below S8.out hb9)))
                    go_roundw
                    case rel => exact ⟨n + 1, by omega, by go_num, S9, HN⟩
                    case measure => simp [intOf]; omega
        · obtain rfl : n = 3 := by omega
          have HN : Hid (findT (L s) = (candK3 (k + 1) (15 - (k + 1))).find? (hitT (L s))) := Lib.hid (by rw [HLi.out, show 15 - (k + 1) = 14 - k by omega]; rfl)
          go_wp2
          go_roundw
          case rel => exact ⟨k + 1, by omega, by omega, by go_num, HSi, HN⟩
          case measure => simp [intOf]; omega
    · obtain rfl : k = 15 := by omega
      have HN : Hid (none = R) := Lib.hid (by rw [← HR.out]; unfold qTg; rw [HL.out]; rfl)
      clear HL HR
      go_wp2_with (first | refine wpList_store_row rfl TTg _ _ rfl w.heap.size zeroT.cells rfl rfl TTg zeroT.cells HS.out.1 infoTTg rfl (tcells_one _) ?_)
      exact bodyPost_ret (results_row_tmp rfl _ _ w.heap.size TTg zeroT.cells (0, 0) _ rfl (row_set HS.out.1) Tryz.underlying27 rfl infoTTg) rfl ⟨ret_val (by rw [← HN.out]; rfl), below_setRow HS.out.2 (Nat.le_refl _) _⟩
end Go.Proofs.YtnibonmeihdjbaaGreatDoor
