/- Walks: package trigger: Parse. Conditions: LaidT; the text is shorter than 100 million bytes. -/
import Derived.Test.YtnibonmeihdjbaaGreatDoorTLib
namespace Go.Proofs.YtnibonmeihdjbaaGreatDoor
set_option linter.all false
open Go.ChangeShapes Go.WideShapes Go.RowKit
set_option maxRecDepth 100000 in
set_option maxHeartbeats 4000000 in
theorem tParse_any (s : ByteArray) (w : World) (hl : LaidT w) (hs : s.size < 100000000) :
    Calls Tryz.prog 15 #[.string s] w fun e w' => e = .returned (tgRet (tgParse (L s))) ∧ Below w.heap.size w w' := by
  obtain ⟨R, hR⟩ : ∃ R, tgParse (L s) = R := ⟨_, rfl⟩
  rw [hR]
  have HR := Lib.hid hR
  clear hR
  obtain ⟨v, hv0⟩ : ∃ v, (cutAt 32 (L s)).1 = v := ⟨_, rfl⟩
  obtain ⟨q, hq0⟩ : ∃ q, (cutAt 32 (L s)).2 = q := ⟨_, rfl⟩
  have hcl := cut_len 32 (L s)
  rw [hv0, hq0, size_l] at hcl
  have hql : q.length < 100000000 := by omega
  have hqs : Hid ((B q).size < 4294967281) := Lib.hid (by rw [B_size]; omega)
  have HC : Hid (cutAt 32 (L s) = (v, q)) := Lib.hid (by rw [← hv0, ← hq0])
  have HR1 : Hid ((match (match verbIx v with | some k => readW k q | none => none) with | some t => (if tgIs t = true ∧ tgText t = L s then some t else none) | none => none) = R) := Lib.hid (by
    rw [← HR.out, ← hv0, ← hq0]; rfl)
  have hss : Hid (s.size < 4294967281) := Lib.hid (by omega)
  have hl1 := hl.alloc (.cells zeroT.cells TTg)
  have S0 : Hid (TSt w (w.alloc (.cells zeroT.cells TTg))) := Lib.hid ⟨heap_alloc_new w _, (Below.refl _ _).alloc (Nat.le_refl _) _⟩
  clear hv0 hq0 hcl HR
  go_enter Tryz.func15, Tryz.ntmps15
  go_wp2_with (go_at_call 25; (refine (cutSp_is s v q HC hss.out _ hl1).mono ?_); rintro e w1 ⟨⟨b0, rfl⟩, hb1⟩; have S1 := Lib.hid (TSt.below S0.out hb1))
  go_loopw [5, 7] (fun rv kv wr => ∃ k : Nat, ∃ qx : Str, 1 ≤ k ∧ k ≤ 15 ∧ kv = .int .i64 k ∧ rv = .string (B qx) ∧ Hid (TSt w wr) ∧ ((qx = q ∧ Hid (verbIx v = (List.range' k (15 - k)).find? fun k => wd verbT k == v)) ∨ Hid (none = R ∧ ∀ j, k ≤ j → j < 15 → ¬ wd verbT j = v))) (fun _ kv _ => 15 - (intOf kv).toNat)
  case atStart => exact ⟨1, q, by omega, by omega, rfl, rfl, S1, .inl ⟨rfl, rfl⟩⟩
  case round =>
    clear S1 hb1
    obtain ⟨k, qx, hka, hkb, rfl, rfl, HS, HA⟩ := hrel
    by_cases hlt : k < 15
    · have hk14 : (k : Int) ≤ 14 := by omega
      have hk1 : (1 : Int) ≤ k := by omega
      have hk15 : (k : Int) < 15 := by omega
      have qv := (hl.below HS.out.2).verb hlt
      obtain ⟨x, hx⟩ : ∃ x, wd verbT k = x := ⟨_, rfl⟩
      rw [hx] at qv
      have hr : List.range' k (15 - k) = k :: List.range' (k + 1) (15 - (k + 1)) := by rw [show 15 - k = (15 - (k + 1)) + 1 by omega, List.range'_succ]
      by_cases he : x = v
      · have te := toList_B_yes he
        have HD : Hid (∀ j, k + 1 ≤ j → j < 15 → ¬ wd verbT j = v) := Lib.hid (fun j h1 h2 e => by
          have := congrArg Fin.val (verb_apart ⟨j, h2⟩ ⟨k, hlt⟩ (by show wd verbT j = wd verbT k; rw [e, hx, he]))
          simp at this; omega)
        rcases HA with ⟨rfl, HA⟩ | HA
        · have HV0 : Hid (verbIx v = some k) := Lib.hid (by rw [HA.out, hr, List.find?_cons, show (wd verbT k == v) = true by rw [hx]; simpa using he])
          have HRw : Hid ((match readW (k : Int) qx with | some t => (if tgIs t = true ∧ tgText t = L s then some t else none) | none => none) = R) := Lib.hid (by rw [← HR1.out, HV0.out])
          have HG8 : Hid (w.heap.size < wr.heap.size) := Lib.hid (blk_lt HS.out.1)
          clear he hx hr HA HV0
          cases hW : usesW (k : Int) with
          | false =>
            have HU : Hid (usesW (k : Int) = false ∧ usesF (k : Int) = true) := Lib.hid ⟨hW, uses_one hk1 hk14 hW⟩
            have HRk : Hid ((match readF (k : Int) 0 qx with | some t => (if tgIs t = true ∧ tgText t = L s then some t else none) | none => none) = R) := Lib.hid (by rw [← HRw.out]; unfold readW; rw [if_neg (by rw [hW]; simp)])
            clear hW HRw
            go_wp2_with (first | refine wpList_build1 rfl TTg 0 _ rfl (.int .i64 k) (.agg (Tg.cells ⟨(k : Int), 0, zeroF⟩)) rfl (build_k _ _) ?_ | (refine wpList_store_row rfl TTg _ _ rfl wr.heap.size (Tg.cells ⟨(k : Int), 0, zeroF⟩) rfl rfl TTg zeroT.cells (heap_alloc_new wr _) infoTTg rfl (tcells_one _) ?_; change wpList _ _ _ _ _ (stored wr TTg zeroT.cells (Tg.cells ⟨(k : Int), 0, zeroF⟩)); have g2 := Lib.hid (stored_new wr TTg zeroT.cells (Tg.cells ⟨(k : Int), 0, zeroF⟩)); have S2 := Lib.hid (TSt.below HS.out (stored_below wr TTg zeroT.cells (Tg.cells ⟨(k : Int), 0, zeroF⟩))); have hl2 := hl.below S2.out.2; generalize stored wr TTg zeroT.cells (Tg.cells ⟨(k : Int), 0, zeroF⟩) = w2 at *) | (go_at_call 17; (with_reducible refine (tgUses_is (k : Int) hk1 hk14 false true HU _).mono ?_); rintro e wu ⟨rfl, rfl⟩))
            generalize wr.heap.size = g8 at *
            obtain ⟨p1, hp1⟩ : ∃ p1, Lib.trimPrefix (L (B qx)) [40] = p1 := ⟨_, rfl⟩
            have hp1l : p1.length ≤ qx.length := by rw [← hp1, L_B]; exact Lib.trimPrefix_le _ _
            obtain ⟨p2, hp2⟩ : ∃ p2, Lib.trimSuffix (L (B p1)) [41] = p2 := ⟨_, rfl⟩
            have hp2l : p2.length ≤ p1.length := by rw [← hp2, L_B]; exact Lib.trimSuffix_le _ _
            have hp1s : Hid ((B p1).size < 1000000000) := Lib.hid (by rw [B_size]; omega)
            have hp2s : (B p2).size < 100000000 := by rw [B_size]; omega
            have FP : ∀ wx, Laid wx → Calls Tryz.prog 26 #[.string (B p2)] wx fun e w' => e = .returned (fltRet (parseS p2)) ∧ Below wx.heap.size wx w' := fun wx hlx => (fltParse_any _ wx hlx hp2s).mono fun e w' h => ⟨by rw [h.1, L_B], h.2⟩
            have HR2 : Hid ((match (match parseS p2 with | some f => some (⟨(k : Int), 0, f⟩ : Tg) | none => none) with | some t => (if tgIs t = true ∧ tgText t = L s then some t else none) | none => none) = R) := Lib.hid (by
              have h := HRk.out
              unfold readF at h
              rw [if_pos HU.out.2] at h
              rw [← hp2, ← hp1, L_B, L_B]
              exact h)
            have HP1 := Lib.hid hp1
            have HP2 := Lib.hid hp2
            clear hp1 hp2 hp1l hp2l hp2s
            cases hps : parseS p2 with
            | none =>
              rw [hps] at FP HR2
              have HFP := Lib.hid FP
              have HN : Hid (none = R) := HR2
              clear FP hps
              go_wp2_with (first | (go_at_call 28; (with_reducible refine (trimPre_is (B qx) ⟨#[40]⟩ _ [40] rfl p1 HP1).mono ?_); rintro e wu ⟨rfl, rfl⟩) | (go_at_call 27; (with_reducible refine (trimSuf_is (B p1) ⟨#[41]⟩ _ hp1s.out [41] rfl p2 HP2).mono ?_); rintro e wu ⟨rfl, rfl⟩) | (go_at_call 26; (with_reducible refine (HFP.out _ hl2.base).mono ?_); rintro e w5 ⟨rfl, hb5⟩; have S5 := Lib.hid (TSt.below S2.out hb5); have g5 := Lib.hid (blk_below2 hb5 g2.out); dsimp only [fltRet]) | (refine wpList_store_row rfl TF _ _ rfl w5.heap.size zeroF.cells rfl rfl TF zeroF.cells (heap_alloc_new w5 _) infoTF rfl (cells_one _) ?_; change wpList _ _ _ _ _ (stored w5 TF zeroF.cells zeroF.cells); have f6 := Lib.hid (stored_new w5 TF zeroF.cells zeroF.cells); have S6 := Lib.hid (TSt.below S5.out (stored_below w5 TF zeroF.cells zeroF.cells)); have g6 := Lib.hid (blk_below2 (stored_below w5 TF zeroF.cells zeroF.cells) g5.out); generalize stored w5 TF zeroF.cells zeroF.cells = w6 at *) | refine wpList_store_row rfl TTg _ _ rfl w.heap.size zeroT.cells rfl rfl TTg zeroT.cells S6.out.1 infoTTg rfl (tcells_one _) ?_)
              exact bodyPost_ret (results_row_tmp rfl _ _ w.heap.size TTg zeroT.cells (0, 0) _ rfl (row_set S6.out.1) Tryz.underlying27 rfl infoTTg) rfl ⟨ret_val (by rw [← HN.out]; rfl), below_setRow S6.out.2 (Nat.le_refl _) _⟩
            | some f =>
              rw [hps] at FP HR2
              have HFP := Lib.hid FP
              have HRt : Hid ((if tgIs (⟨(k : Int), 0, f⟩ : Tg) = true ∧ tgText (⟨(k : Int), 0, f⟩ : Tg) = L s then some (⟨(k : Int), 0, f⟩ : Tg) else none) = R) := HR2
              clear FP hps
              go_wp2_with (first | (go_at_call 28; (with_reducible refine (trimPre_is (B qx) ⟨#[40]⟩ _ [40] rfl p1 HP1).mono ?_); rintro e wu ⟨rfl, rfl⟩) | (go_at_call 27; (with_reducible refine (trimSuf_is (B p1) ⟨#[41]⟩ _ hp1s.out [41] rfl p2 HP2).mono ?_); rintro e wu ⟨rfl, rfl⟩) | (go_at_call 26; (with_reducible refine (HFP.out _ hl2.base).mono ?_); rintro e w5 ⟨rfl, hb5⟩; have S5 := Lib.hid (TSt.below S2.out hb5); have g5 := Lib.hid (blk_below2 hb5 g2.out); dsimp only [fltRet]) | (refine wpList_store_row rfl TF _ _ rfl w5.heap.size f.cells rfl rfl TF zeroF.cells (heap_alloc_new w5 _) infoTF rfl (cells_one _) ?_; change wpList _ _ _ _ _ (stored w5 TF zeroF.cells f.cells); have f6 := Lib.hid (stored_new w5 TF zeroF.cells f.cells); have S6 := Lib.hid (TSt.below S5.out (stored_below w5 TF zeroF.cells f.cells)); have g6 := Lib.hid (blk_below2 (stored_below w5 TF zeroF.cells f.cells) g5.out); generalize stored w5 TF zeroF.cells f.cells = w6 at *) | refine wpList_load_row rfl TF _ rfl w5.heap.size rfl TF f.cells (0, 0) _ f6.out Tryz.underlying25 rfl infoTF ?_ | (refine wpList_store_part rfl TF _ _ rfl g8 2 TTg (Tg.cells ⟨(k : Int), 0, zeroF⟩) f.cells (Tg.cells ⟨(k : Int), 0, f⟩) rfl rfl g6.out (by simp [Tg.cells, Flt.cells]) (tg_put _ f) infoTF (cells_one _) ?_; have g7 := Lib.hid (row_set (cs := Tg.cells ⟨(k : Int), 0, f⟩) g6.out); have S7 := Lib.hid (TSt.setRow S6.out HG8.out (Tg.cells ⟨(k : Int), 0, f⟩)); generalize World.setRow w6 g8 (Tg.cells ⟨(k : Int), 0, f⟩) = w7 at *) | refine wpList_load_row_g rfl TTg _ rfl g8 rfl TTg (⟨(k : Int), 0, f⟩ : Tg).cells (0, 0) _ g7.out Tryz.underlying27 rfl infoTTg ?_)
              generalize (⟨(k : Int), 0, f⟩ : Tg) = t at *
              have hlz := hl.below S7.out.2
              obtain ⟨T, hT⟩ : ∃ T, B (tgText t) = T := ⟨_, rfl⟩
              have HT := Lib.hid hT
              cases hv : tgIs t with
              | false =>
                have HV := Lib.hid hv
                have HN : Hid (none = R) := Lib.hid (by rw [← HRt.out, if_neg (by rw [hv]; simp)])
                clear hv hT
                go_wp2_with (first | refine wpList_load_row_g rfl TTg _ rfl g8 rfl TTg t.cells (0, 0) _ g7.out Tryz.underlying27 rfl infoTTg ?_ | (go_at_call 9; (with_reducible refine (tIs_v t false HV _ hlz).mono ?_); rintro e w8 ⟨rfl, hb8⟩; have S8 := Lib.hid (TSt.below S7.out hb8)))
                go_roundw
                case rel => exact ⟨k + 1, qx, by omega, by omega, by go_num, rfl, S8, .inr (Lib.hid ⟨HN.out, HD.out⟩)⟩
                case measure => simp [intOf]; omega
              | true =>
                have HV := Lib.hid hv
                by_cases hx : tgText t = L s
                · have t3 : (T.toList == s.toList) = true := by rw [← hT, B_toList, L_toList]; simpa using hx
                  have HN : Hid (some t = R) := Lib.hid (by rw [← HRt.out, if_pos ⟨hv, hx⟩])
                  clear hv hT hx
                  go_wp2_with (first | refine wpList_load_row_g rfl TTg _ rfl g8 rfl TTg t.cells (0, 0) _ g9.out Tryz.underlying27 rfl infoTTg ?_ | refine wpList_load_row_g rfl TTg _ rfl g8 rfl TTg t.cells (0, 0) _ g8r.out Tryz.underlying27 rfl infoTTg ?_ | refine wpList_load_row_g rfl TTg _ rfl g8 rfl TTg t.cells (0, 0) _ g7.out Tryz.underlying27 rfl infoTTg ?_ | (go_at_call 9; (with_reducible refine (tIs_v t true HV _ hlz).mono ?_); rintro e w8 ⟨rfl, hb8⟩; have S8 := Lib.hid (TSt.below S7.out hb8); have g8r := Lib.hid (blk_below2 hb8 g7.out); have hly := hl.below S8.out.2) | (go_at_call 13; (with_reducible refine (tText_is t T HT _ hly).mono ?_); rintro e w9 ⟨rfl, hb9⟩; have S9 := Lib.hid (TSt.below S8.out hb9); have g9 := Lib.hid (blk_below2 hb9 g8r.out)) | refine wpList_store_row rfl TTg _ _ rfl w.heap.size t.cells rfl rfl TTg zeroT.cells S9.out.1 infoTTg rfl (tcells_one _) ?_)
                  exact bodyPost_ret (results_row_tmp rfl _ _ w.heap.size TTg t.cells (0, 0) _ rfl (row_set S9.out.1) Tryz.underlying27 rfl infoTTg) rfl ⟨ret_val (by rw [← HN.out]; rfl), below_setRow S9.out.2 (Nat.le_refl _) _⟩
                · have t3 : (T.toList == s.toList) = false := by rw [← hT, B_toList, L_toList]; simpa using hx
                  have HN : Hid (none = R) := Lib.hid (by rw [← HRt.out, if_neg (fun h => hx h.2)])
                  clear hv hT hx
                  go_wp2_with (first | refine wpList_load_row_g rfl TTg _ rfl g8 rfl TTg t.cells (0, 0) _ g8r.out Tryz.underlying27 rfl infoTTg ?_ | refine wpList_load_row_g rfl TTg _ rfl g8 rfl TTg t.cells (0, 0) _ g7.out Tryz.underlying27 rfl infoTTg ?_ | (go_at_call 9; (with_reducible refine (tIs_v t true HV _ hlz).mono ?_); rintro e w8 ⟨rfl, hb8⟩; have S8 := Lib.hid (TSt.below S7.out hb8); have g8r := Lib.hid (blk_below2 hb8 g7.out); have hly := hl.below S8.out.2) | (go_at_call 13; (with_reducible refine (tText_is t T HT _ hly).mono ?_); rintro e w9 ⟨rfl, hb9⟩; have S9 := Lib.hid (TSt.below S8.out hb9)))
                  go_roundw
                  case rel => exact ⟨k + 1, qx, by omega, by omega, by go_num, rfl, S9, .inr (Lib.hid ⟨HN.out, HD.out⟩)⟩
                  case measure => simp [intOf]; omega
          | true =>
            obtain ⟨n, hn0⟩ : ∃ n, (cutAt 32 qx).1 = n := ⟨_, rfl⟩
            obtain ⟨m, hm0⟩ : ∃ m, (cutAt 32 qx).2 = m := ⟨_, rfl⟩
            have hcm := cut_len 32 qx
            rw [hm0] at hcm
            have hml : m.length < 100000000 := by omega
            have HC2 : Hid (cutAt 32 (L (B qx)) = (n, m)) := Lib.hid (by rw [L_B, ← hn0, ← hm0])
            have HRk0 : Hid ((match readF (k : Int) (whoIx n) m with | some t => (if tgIs t = true ∧ tgText t = L s then some t else none) | none => none) = R) := Lib.hid (by rw [← HRw.out, ← hn0, ← hm0]; unfold readW; rw [if_pos hW])
            clear hn0 hm0 hcm HRw
            cases hF : usesF (k : Int) with
            | true =>
              have HU : Hid (usesW (k : Int) = true ∧ usesF (k : Int) = true) := Lib.hid ⟨hW, hF⟩
              clear hW hF
              go_wp2_with (first | refine wpList_build1 rfl TTg 0 _ rfl (.int .i64 k) (.agg (Tg.cells ⟨(k : Int), 0, zeroF⟩)) rfl (build_k _ _) ?_ | (refine wpList_store_row rfl TTg _ _ rfl wr.heap.size (Tg.cells ⟨(k : Int), 0, zeroF⟩) rfl rfl TTg zeroT.cells (heap_alloc_new wr _) infoTTg rfl (tcells_one _) ?_; change wpList _ _ _ _ _ (stored wr TTg zeroT.cells (Tg.cells ⟨(k : Int), 0, zeroF⟩)); have g2 := Lib.hid (stored_new wr TTg zeroT.cells (Tg.cells ⟨(k : Int), 0, zeroF⟩)); have S2 := Lib.hid (TSt.below HS.out (stored_below wr TTg zeroT.cells (Tg.cells ⟨(k : Int), 0, zeroF⟩))); have hl2 := hl.below S2.out.2; generalize stored wr TTg zeroT.cells (Tg.cells ⟨(k : Int), 0, zeroF⟩) = w2 at *) | (go_at_call 17; (with_reducible refine (tgUses_is (k : Int) hk1 hk14 true true HU _).mono ?_); rintro e wu ⟨rfl, rfl⟩) | (go_at_call 25; (with_reducible refine (cutSp_is (B qx) n m HC2 hqs.out _ hl2).mono ?_); rintro e w3 ⟨⟨bb, rfl⟩, hb3⟩; have g3 := Lib.hid (blk_below2 hb3 g2.out); have S3 := Lib.hid (TSt.below S2.out hb3)))
              generalize wr.heap.size = g8 at *
              obtain ⟨wo, rfl⟩ : ∃ wo : World, wo = w3 := ⟨_, rfl⟩
              go_loopw [46] (fun jv wi => ∃ j : Nat, j ≤ 3 ∧ jv = .int .i64 j ∧ Hid (TSt w wi) ∧ Hid (wi.heap[g8]? = some (.cells (Tg.cells ⟨(k : Int), whoAcc n j, zeroF⟩) TTg))) (fun jv _ => 3 - (intOf jv).toNat)
              case atStart => exact ⟨0, by omega, rfl, S3, g3⟩
              case round =>
                clear S3 g3
                obtain ⟨j, hj, rfl, Sj, gj⟩ := hrel
                by_cases hlj : j < 3
                · have hj3 : (j : Int) < 3 := by omega
                  have hlj2 := hl.below Sj.out.2
                  have HWj : Hid (B (whoText (j : Int)) = B (wd pwT j)) := Lib.hid (by
                    have : ∀ j : Nat, j < 3 → whoText (j : Int) = wd pwT j := by
                      intro j hj
                      have : j = 0 ∨ j = 1 ∨ j = 2 := by omega
                      rcases this with rfl | rfl | rfl <;> rfl
                    rw [this j hlj])
                  by_cases he2 : wd pwT j = n
                  · have te := toList_B_yes he2
                    have HA : Hid (whoAcc n (j + 1) = (j : Int)) := Lib.hid (if_pos he2)
                    obtain ⟨x, hx⟩ : ∃ x, wd pwT j = x := ⟨_, rfl⟩
                    rw [hx] at te HWj
                    clear he2 hx
                    go_wp2_with (first | (go_at_call 11; (with_reducible refine (tgWho_is (j : Int) (B x) HWj _).mono ?_); rintro e wu ⟨rfl, rfl⟩) | (refine wpList_store_int rfl 3 _ _ rfl g8 1 TTg (Tg.cells ⟨(k : Int), whoAcc n j, zeroF⟩) (Tg.cells ⟨(k : Int), (j : Int), zeroF⟩) .i64 (j : Int) rfl rfl gj.out (by simp [Tg.cells]) (by simp [Tg.cells]) infoInt1 ?_; have gj2 := Lib.hid (row_set (cs := Tg.cells ⟨(k : Int), (j : Int), zeroF⟩) gj.out); have Sj2 := Lib.hid (TSt.setRow Sj.out HG8.out (Tg.cells ⟨(k : Int), (j : Int), zeroF⟩)); generalize World.setRow wr g8 (Tg.cells ⟨(k : Int), (j : Int), zeroF⟩) = wj at *))
                    go_roundw
                    case rel => exact ⟨j + 1, by omega, by go_num, Sj2, by rw [HA.out]; exact gj2⟩
                    case measure => simp [intOf]; omega
                  · have te := toList_B_no he2
                    have HA : Hid (whoAcc n (j + 1) = whoAcc n j) := Lib.hid (if_neg he2)
                    obtain ⟨x, hx⟩ : ∃ x, wd pwT j = x := ⟨_, rfl⟩
                    rw [hx] at te HWj
                    clear he2 hx
                    go_wp2_with (first | (go_at_call 11; (with_reducible refine (tgWho_is (j : Int) (B x) HWj _).mono ?_); rintro e wu ⟨rfl, rfl⟩))
                    go_roundw
                    case rel => exact ⟨j + 1, by omega, by go_num, Sj, by rw [HA.out]; exact gj⟩
                    case measure => simp [intOf]; omega
                · obtain rfl : j = 3 := by omega
                  have g3 : Hid (wr.heap[g8]? = some (.cells (Tg.cells ⟨(k : Int), whoIx n, zeroF⟩) TTg)) := Lib.hid (by rw [← whoAcc_three]; exact gj.out)
                  have S3 := Sj
                  clear gj Sj
                  generalize whoIx n = who at *
                  have hl3 := hl.below S3.out.2
                  have HRk := HRk0
                  obtain ⟨p1, hp1⟩ : ∃ p1, Lib.trimPrefix (L (B m)) [40] = p1 := ⟨_, rfl⟩
                  have hp1l : p1.length ≤ m.length := by rw [← hp1, L_B]; exact Lib.trimPrefix_le _ _
                  obtain ⟨p2, hp2⟩ : ∃ p2, Lib.trimSuffix (L (B p1)) [41] = p2 := ⟨_, rfl⟩
                  have hp2l : p2.length ≤ p1.length := by rw [← hp2, L_B]; exact Lib.trimSuffix_le _ _
                  have hp1s : Hid ((B p1).size < 1000000000) := Lib.hid (by rw [B_size]; omega)
                  have hp2s : (B p2).size < 100000000 := by rw [B_size]; omega
                  have FP : ∀ wx, Laid wx → Calls Tryz.prog 26 #[.string (B p2)] wx fun e w' => e = .returned (fltRet (parseS p2)) ∧ Below wx.heap.size wx w' := fun wx hlx => (fltParse_any _ wx hlx hp2s).mono fun e w' h => ⟨by rw [h.1, L_B], h.2⟩
                  have HR2 : Hid ((match (match parseS p2 with | some f => some (⟨(k : Int), who, f⟩ : Tg) | none => none) with | some t => (if tgIs t = true ∧ tgText t = L s then some t else none) | none => none) = R) := Lib.hid (by
                    have h := HRk.out
                    unfold readF at h
                    rw [if_pos HU.out.2] at h
                    rw [← hp2, ← hp1, L_B, L_B]
                    exact h)
                  have HP1 := Lib.hid hp1
                  have HP2 := Lib.hid hp2
                  clear hp1 hp2 hp1l hp2l hp2s
                  cases hps : parseS p2 with
                  | none =>
                    rw [hps] at FP HR2
                    have HFP := Lib.hid FP
                    have HN : Hid (none = R) := HR2
                    clear FP hps
                    go_wp2_with (first | (go_at_call 28; (with_reducible refine (trimPre_is (B m) ⟨#[40]⟩ _ [40] rfl p1 HP1).mono ?_); rintro e wu ⟨rfl, rfl⟩) | (go_at_call 27; (with_reducible refine (trimSuf_is (B p1) ⟨#[41]⟩ _ hp1s.out [41] rfl p2 HP2).mono ?_); rintro e wu ⟨rfl, rfl⟩) | (go_at_call 26; (with_reducible refine (HFP.out _ hl3.base).mono ?_); rintro e w5 ⟨rfl, hb5⟩; have S5 := Lib.hid (TSt.below S3.out hb5); have g5 := Lib.hid (blk_below2 hb5 g3.out); dsimp only [fltRet]) | (refine wpList_store_row rfl TF _ _ rfl w5.heap.size zeroF.cells rfl rfl TF zeroF.cells (heap_alloc_new w5 _) infoTF rfl (cells_one _) ?_; change wpList _ _ _ _ _ (stored w5 TF zeroF.cells zeroF.cells); have f6 := Lib.hid (stored_new w5 TF zeroF.cells zeroF.cells); have S6 := Lib.hid (TSt.below S5.out (stored_below w5 TF zeroF.cells zeroF.cells)); have g6 := Lib.hid (blk_below2 (stored_below w5 TF zeroF.cells zeroF.cells) g5.out); generalize stored w5 TF zeroF.cells zeroF.cells = w6 at *) | refine wpList_store_row rfl TTg _ _ rfl w.heap.size zeroT.cells rfl rfl TTg zeroT.cells S6.out.1 infoTTg rfl (tcells_one _) ?_)
                    exact bodyPost_ret (results_row_tmp rfl _ _ w.heap.size TTg zeroT.cells (0, 0) _ rfl (row_set S6.out.1) Tryz.underlying27 rfl infoTTg) rfl ⟨ret_val (by rw [← HN.out]; rfl), below_setRow S6.out.2 (Nat.le_refl _) _⟩
                  | some f =>
                    rw [hps] at FP HR2
                    have HFP := Lib.hid FP
                    have HRt : Hid ((if tgIs (⟨(k : Int), who, f⟩ : Tg) = true ∧ tgText (⟨(k : Int), who, f⟩ : Tg) = L s then some (⟨(k : Int), who, f⟩ : Tg) else none) = R) := HR2
                    clear FP hps
                    go_wp2_with (first | (go_at_call 28; (with_reducible refine (trimPre_is (B m) ⟨#[40]⟩ _ [40] rfl p1 HP1).mono ?_); rintro e wu ⟨rfl, rfl⟩) | (go_at_call 27; (with_reducible refine (trimSuf_is (B p1) ⟨#[41]⟩ _ hp1s.out [41] rfl p2 HP2).mono ?_); rintro e wu ⟨rfl, rfl⟩) | (go_at_call 26; (with_reducible refine (HFP.out _ hl3.base).mono ?_); rintro e w5 ⟨rfl, hb5⟩; have S5 := Lib.hid (TSt.below S3.out hb5); have g5 := Lib.hid (blk_below2 hb5 g3.out); dsimp only [fltRet]) | (refine wpList_store_row rfl TF _ _ rfl w5.heap.size f.cells rfl rfl TF zeroF.cells (heap_alloc_new w5 _) infoTF rfl (cells_one _) ?_; change wpList _ _ _ _ _ (stored w5 TF zeroF.cells f.cells); have f6 := Lib.hid (stored_new w5 TF zeroF.cells f.cells); have S6 := Lib.hid (TSt.below S5.out (stored_below w5 TF zeroF.cells f.cells)); have g6 := Lib.hid (blk_below2 (stored_below w5 TF zeroF.cells f.cells) g5.out); generalize stored w5 TF zeroF.cells f.cells = w6 at *) | refine wpList_load_row rfl TF _ rfl w5.heap.size rfl TF f.cells (0, 0) _ f6.out Tryz.underlying25 rfl infoTF ?_ | (refine wpList_store_part rfl TF _ _ rfl g8 2 TTg (Tg.cells ⟨(k : Int), who, zeroF⟩) f.cells (Tg.cells ⟨(k : Int), who, f⟩) rfl rfl g6.out (by simp [Tg.cells, Flt.cells]) (tg_put _ f) infoTF (cells_one _) ?_; have g7 := Lib.hid (row_set (cs := Tg.cells ⟨(k : Int), who, f⟩) g6.out); have S7 := Lib.hid (TSt.setRow S6.out HG8.out (Tg.cells ⟨(k : Int), who, f⟩)); generalize World.setRow w6 g8 (Tg.cells ⟨(k : Int), who, f⟩) = w7 at *) | refine wpList_load_row_g rfl TTg _ rfl g8 rfl TTg (⟨(k : Int), who, f⟩ : Tg).cells (0, 0) _ g7.out Tryz.underlying27 rfl infoTTg ?_)
                    generalize (⟨(k : Int), who, f⟩ : Tg) = t at *
                    have hlz := hl.below S7.out.2
                    obtain ⟨T, hT⟩ : ∃ T, B (tgText t) = T := ⟨_, rfl⟩
                    have HT := Lib.hid hT
                    cases hv : tgIs t with
                    | false =>
                      have HV := Lib.hid hv
                      have HN : Hid (none = R) := Lib.hid (by rw [← HRt.out, if_neg (by rw [hv]; simp)])
                      clear hv hT
                      go_wp2_with (first | refine wpList_load_row_g rfl TTg _ rfl g8 rfl TTg t.cells (0, 0) _ g7.out Tryz.underlying27 rfl infoTTg ?_ | (go_at_call 9; (with_reducible refine (tIs_v t false HV _ hlz).mono ?_); rintro e w8 ⟨rfl, hb8⟩; have S8 := Lib.hid (TSt.below S7.out hb8)))
                      go_roundw
                      case rel => exact ⟨k + 1, m, by omega, by omega, by go_num, rfl, S8, .inr (Lib.hid ⟨HN.out, HD.out⟩)⟩
                      case measure => simp [intOf]; omega
                    | true =>
                      have HV := Lib.hid hv
                      by_cases hx : tgText t = L s
                      · have t3 : (T.toList == s.toList) = true := by rw [← hT, B_toList, L_toList]; simpa using hx
                        have HN : Hid (some t = R) := Lib.hid (by rw [← HRt.out, if_pos ⟨hv, hx⟩])
                        clear hv hT hx
                        go_wp2_with (first | refine wpList_load_row_g rfl TTg _ rfl g8 rfl TTg t.cells (0, 0) _ g9.out Tryz.underlying27 rfl infoTTg ?_ | refine wpList_load_row_g rfl TTg _ rfl g8 rfl TTg t.cells (0, 0) _ g8r.out Tryz.underlying27 rfl infoTTg ?_ | refine wpList_load_row_g rfl TTg _ rfl g8 rfl TTg t.cells (0, 0) _ g7.out Tryz.underlying27 rfl infoTTg ?_ | (go_at_call 9; (with_reducible refine (tIs_v t true HV _ hlz).mono ?_); rintro e w8 ⟨rfl, hb8⟩; have S8 := Lib.hid (TSt.below S7.out hb8); have g8r := Lib.hid (blk_below2 hb8 g7.out); have hly := hl.below S8.out.2) | (go_at_call 13; (with_reducible refine (tText_is t T HT _ hly).mono ?_); rintro e w9 ⟨rfl, hb9⟩; have S9 := Lib.hid (TSt.below S8.out hb9); have g9 := Lib.hid (blk_below2 hb9 g8r.out)) | refine wpList_store_row rfl TTg _ _ rfl w.heap.size t.cells rfl rfl TTg zeroT.cells S9.out.1 infoTTg rfl (tcells_one _) ?_)
                        exact bodyPost_ret (results_row_tmp rfl _ _ w.heap.size TTg t.cells (0, 0) _ rfl (row_set S9.out.1) Tryz.underlying27 rfl infoTTg) rfl ⟨ret_val (by rw [← HN.out]; rfl), below_setRow S9.out.2 (Nat.le_refl _) _⟩
                      · have t3 : (T.toList == s.toList) = false := by rw [← hT, B_toList, L_toList]; simpa using hx
                        have HN : Hid (none = R) := Lib.hid (by rw [← HRt.out, if_neg (fun h => hx h.2)])
                        clear hv hT hx
                        go_wp2_with (first | refine wpList_load_row_g rfl TTg _ rfl g8 rfl TTg t.cells (0, 0) _ g8r.out Tryz.underlying27 rfl infoTTg ?_ | refine wpList_load_row_g rfl TTg _ rfl g8 rfl TTg t.cells (0, 0) _ g7.out Tryz.underlying27 rfl infoTTg ?_ | (go_at_call 9; (with_reducible refine (tIs_v t true HV _ hlz).mono ?_); rintro e w8 ⟨rfl, hb8⟩; have S8 := Lib.hid (TSt.below S7.out hb8); have g8r := Lib.hid (blk_below2 hb8 g7.out); have hly := hl.below S8.out.2) | (go_at_call 13; (with_reducible refine (tText_is t T HT _ hly).mono ?_); rintro e w9 ⟨rfl, hb9⟩; have S9 := Lib.hid (TSt.below S8.out hb9)))
                        go_roundw
                        case rel => exact ⟨k + 1, m, by omega, by omega, by go_num, rfl, S9, .inr (Lib.hid ⟨HN.out, HD.out⟩)⟩
                        case measure => simp [intOf]; omega
            | false =>
              have HU : Hid (usesW (k : Int) = true ∧ usesF (k : Int) = false) := Lib.hid ⟨hW, hF⟩
              clear hW hF
              go_wp2_with (first | refine wpList_build1 rfl TTg 0 _ rfl (.int .i64 k) (.agg (Tg.cells ⟨(k : Int), 0, zeroF⟩)) rfl (build_k _ _) ?_ | (refine wpList_store_row rfl TTg _ _ rfl wr.heap.size (Tg.cells ⟨(k : Int), 0, zeroF⟩) rfl rfl TTg zeroT.cells (heap_alloc_new wr _) infoTTg rfl (tcells_one _) ?_; change wpList _ _ _ _ _ (stored wr TTg zeroT.cells (Tg.cells ⟨(k : Int), 0, zeroF⟩)); have g2 := Lib.hid (stored_new wr TTg zeroT.cells (Tg.cells ⟨(k : Int), 0, zeroF⟩)); have S2 := Lib.hid (TSt.below HS.out (stored_below wr TTg zeroT.cells (Tg.cells ⟨(k : Int), 0, zeroF⟩))); have hl2 := hl.below S2.out.2; generalize stored wr TTg zeroT.cells (Tg.cells ⟨(k : Int), 0, zeroF⟩) = w2 at *) | (go_at_call 17; (with_reducible refine (tgUses_is (k : Int) hk1 hk14 true false HU _).mono ?_); rintro e wu ⟨rfl, rfl⟩) | (go_at_call 25; (with_reducible refine (cutSp_is (B qx) n m HC2 hqs.out _ hl2).mono ?_); rintro e w3 ⟨⟨bb, rfl⟩, hb3⟩; have g3 := Lib.hid (blk_below2 hb3 g2.out); have S3 := Lib.hid (TSt.below S2.out hb3)))
              generalize wr.heap.size = g8 at *
              obtain ⟨wo, rfl⟩ : ∃ wo : World, wo = w3 := ⟨_, rfl⟩
              go_loopw [46] (fun jv wi => ∃ j : Nat, j ≤ 3 ∧ jv = .int .i64 j ∧ Hid (TSt w wi) ∧ Hid (wi.heap[g8]? = some (.cells (Tg.cells ⟨(k : Int), whoAcc n j, zeroF⟩) TTg))) (fun jv _ => 3 - (intOf jv).toNat)
              case atStart => exact ⟨0, by omega, rfl, S3, g3⟩
              case round =>
                clear S3 g3
                obtain ⟨j, hj, rfl, Sj, gj⟩ := hrel
                by_cases hlj : j < 3
                · have hj3 : (j : Int) < 3 := by omega
                  have hlj2 := hl.below Sj.out.2
                  have HWj : Hid (B (whoText (j : Int)) = B (wd pwT j)) := Lib.hid (by
                    have : ∀ j : Nat, j < 3 → whoText (j : Int) = wd pwT j := by
                      intro j hj
                      have : j = 0 ∨ j = 1 ∨ j = 2 := by omega
                      rcases this with rfl | rfl | rfl <;> rfl
                    rw [this j hlj])
                  by_cases he2 : wd pwT j = n
                  · have te := toList_B_yes he2
                    have HA : Hid (whoAcc n (j + 1) = (j : Int)) := Lib.hid (if_pos he2)
                    obtain ⟨x, hx⟩ : ∃ x, wd pwT j = x := ⟨_, rfl⟩
                    rw [hx] at te HWj
                    clear he2 hx
                    go_wp2_with (first | (go_at_call 11; (with_reducible refine (tgWho_is (j : Int) (B x) HWj _).mono ?_); rintro e wu ⟨rfl, rfl⟩) | (refine wpList_store_int rfl 3 _ _ rfl g8 1 TTg (Tg.cells ⟨(k : Int), whoAcc n j, zeroF⟩) (Tg.cells ⟨(k : Int), (j : Int), zeroF⟩) .i64 (j : Int) rfl rfl gj.out (by simp [Tg.cells]) (by simp [Tg.cells]) infoInt1 ?_; have gj2 := Lib.hid (row_set (cs := Tg.cells ⟨(k : Int), (j : Int), zeroF⟩) gj.out); have Sj2 := Lib.hid (TSt.setRow Sj.out HG8.out (Tg.cells ⟨(k : Int), (j : Int), zeroF⟩)); generalize World.setRow wr g8 (Tg.cells ⟨(k : Int), (j : Int), zeroF⟩) = wj at *))
                    go_roundw
                    case rel => exact ⟨j + 1, by omega, by go_num, Sj2, by rw [HA.out]; exact gj2⟩
                    case measure => simp [intOf]; omega
                  · have te := toList_B_no he2
                    have HA : Hid (whoAcc n (j + 1) = whoAcc n j) := Lib.hid (if_neg he2)
                    obtain ⟨x, hx⟩ : ∃ x, wd pwT j = x := ⟨_, rfl⟩
                    rw [hx] at te HWj
                    clear he2 hx
                    go_wp2_with (first | (go_at_call 11; (with_reducible refine (tgWho_is (j : Int) (B x) HWj _).mono ?_); rintro e wu ⟨rfl, rfl⟩))
                    go_roundw
                    case rel => exact ⟨j + 1, by omega, by go_num, Sj, by rw [HA.out]; exact gj⟩
                    case measure => simp [intOf]; omega
                · obtain rfl : j = 3 := by omega
                  have g3 : Hid (wr.heap[g8]? = some (.cells (Tg.cells ⟨(k : Int), whoIx n, zeroF⟩) TTg)) := Lib.hid (by rw [← whoAcc_three]; exact gj.out)
                  have S3 := Sj
                  clear gj Sj
                  generalize whoIx n = who at *
                  have HRt : Hid ((if tgIs (⟨(k : Int), who, zeroF⟩ : Tg) = true ∧ tgText (⟨(k : Int), who, zeroF⟩ : Tg) = L s then some (⟨(k : Int), who, zeroF⟩ : Tg) else none) = R) := Lib.hid (by have h := HRk0.out; unfold readF at h; rw [if_neg (by rw [HU.out.2]; simp)] at h; exact h)
                  go_wp2_with (first | refine wpList_load_row_g rfl TTg _ rfl g8 rfl TTg (⟨(k : Int), who, zeroF⟩ : Tg).cells (0, 0) _ g3.out Tryz.underlying27 rfl infoTTg ?_)
                  generalize (⟨(k : Int), who, zeroF⟩ : Tg) = t at *
                  have hlz := hl.below S3.out.2
                  obtain ⟨T, hT⟩ : ∃ T, B (tgText t) = T := ⟨_, rfl⟩
                  have HT := Lib.hid hT
                  cases hv : tgIs t with
                  | false =>
                    have HV := Lib.hid hv
                    have HN : Hid (none = R) := Lib.hid (by rw [← HRt.out, if_neg (by rw [hv]; simp)])
                    clear hv hT
                    go_wp2_with (first | refine wpList_load_row_g rfl TTg _ rfl g8 rfl TTg t.cells (0, 0) _ g3.out Tryz.underlying27 rfl infoTTg ?_ | (go_at_call 9; (with_reducible refine (tIs_v t false HV _ hlz).mono ?_); rintro e w8 ⟨rfl, hb8⟩; have S8 := Lib.hid (TSt.below S3.out hb8)))
                    go_roundw
                    case rel => exact ⟨k + 1, m, by omega, by omega, by go_num, rfl, S8, .inr (Lib.hid ⟨HN.out, HD.out⟩)⟩
                    case measure => simp [intOf]; omega
                  | true =>
                    have HV := Lib.hid hv
                    by_cases hx : tgText t = L s
                    · have t3 : (T.toList == s.toList) = true := by rw [← hT, B_toList, L_toList]; simpa using hx
                      have HN : Hid (some t = R) := Lib.hid (by rw [← HRt.out, if_pos ⟨hv, hx⟩])
                      clear hv hT hx
                      go_wp2_with (first | refine wpList_load_row_g rfl TTg _ rfl g8 rfl TTg t.cells (0, 0) _ g9.out Tryz.underlying27 rfl infoTTg ?_ | refine wpList_load_row_g rfl TTg _ rfl g8 rfl TTg t.cells (0, 0) _ g8r.out Tryz.underlying27 rfl infoTTg ?_ | refine wpList_load_row_g rfl TTg _ rfl g8 rfl TTg t.cells (0, 0) _ g3.out Tryz.underlying27 rfl infoTTg ?_ | (go_at_call 9; (with_reducible refine (tIs_v t true HV _ hlz).mono ?_); rintro e w8 ⟨rfl, hb8⟩; have S8 := Lib.hid (TSt.below S3.out hb8); have g8r := Lib.hid (blk_below2 hb8 g3.out); have hly := hl.below S8.out.2) | (go_at_call 13; (with_reducible refine (tText_is t T HT _ hly).mono ?_); rintro e w9 ⟨rfl, hb9⟩; have S9 := Lib.hid (TSt.below S8.out hb9); have g9 := Lib.hid (blk_below2 hb9 g8r.out)) | refine wpList_store_row rfl TTg _ _ rfl w.heap.size t.cells rfl rfl TTg zeroT.cells S9.out.1 infoTTg rfl (tcells_one _) ?_)
                      exact bodyPost_ret (results_row_tmp rfl _ _ w.heap.size TTg t.cells (0, 0) _ rfl (row_set S9.out.1) Tryz.underlying27 rfl infoTTg) rfl ⟨ret_val (by rw [← HN.out]; rfl), below_setRow S9.out.2 (Nat.le_refl _) _⟩
                    · have t3 : (T.toList == s.toList) = false := by rw [← hT, B_toList, L_toList]; simpa using hx
                      have HN : Hid (none = R) := Lib.hid (by rw [← HRt.out, if_neg (fun h => hx h.2)])
                      clear hv hT hx
                      go_wp2_with (first | refine wpList_load_row_g rfl TTg _ rfl g8 rfl TTg t.cells (0, 0) _ g8r.out Tryz.underlying27 rfl infoTTg ?_ | refine wpList_load_row_g rfl TTg _ rfl g8 rfl TTg t.cells (0, 0) _ g3.out Tryz.underlying27 rfl infoTTg ?_ | (go_at_call 9; (with_reducible refine (tIs_v t true HV _ hlz).mono ?_); rintro e w8 ⟨rfl, hb8⟩; have S8 := Lib.hid (TSt.below S3.out hb8); have g8r := Lib.hid (blk_below2 hb8 g3.out); have hly := hl.below S8.out.2) | (go_at_call 13; (with_reducible refine (tText_is t T HT _ hly).mono ?_); rintro e w9 ⟨rfl, hb9⟩; have S9 := Lib.hid (TSt.below S8.out hb9)))
                      go_roundw
                      case rel => exact ⟨k + 1, m, by omega, by omega, by go_num, rfl, S9, .inr (Lib.hid ⟨HN.out, HD.out⟩)⟩
                      case measure => simp [intOf]; omega
        · exact absurd (by rw [hx, he]) (HA.out.2 k (Nat.le_refl _) hlt)
      · have te := toList_B_no he
        have HA2 : (qx = q ∧ Hid (verbIx v = (List.range' (k + 1) (15 - (k + 1))).find? fun k => wd verbT k == v)) ∨ Hid (none = R ∧ ∀ j, k + 1 ≤ j → j < 15 → ¬ wd verbT j = v) := by
          rcases HA with ⟨e, HA⟩ | HA
          · exact .inl ⟨e, Lib.hid (by rw [HA.out, hr, List.find?_cons, show (wd verbT k == v) = false by rw [hx]; simpa using he])⟩
          · exact .inr (Lib.hid ⟨HA.out.1, fun j h1 h2 => HA.out.2 j (by omega) h2⟩)
        have HA3 := Lib.hid HA2
        clear he hx hr HA HA2
        go_wp2
        go_roundw
        case rel => exact ⟨k + 1, qx, by omega, by omega, by go_num, rfl, HS, HA3.out⟩
        case measure => simp [intOf]; omega
    · obtain rfl : k = 15 := by omega
      have HN : Hid (none = R) := by
        rcases HA with ⟨e, HA⟩ | HA
        · exact Lib.hid (by rw [← HR1.out, HA.out]; rfl)
        · exact Lib.hid HA.out.1
      clear HA
      go_wp2_with (first | refine wpList_store_row rfl TTg _ _ rfl w.heap.size zeroT.cells rfl rfl TTg zeroT.cells HS.out.1 infoTTg rfl (tcells_one _) ?_)
      exact bodyPost_ret (results_row_tmp rfl _ _ w.heap.size TTg zeroT.cells (0, 0) _ rfl (row_set HS.out.1) Tryz.underlying27 rfl infoTTg) rfl ⟨ret_val (by rw [← HN.out]; rfl), below_setRow HS.out.2 (Nat.le_refl _) _⟩
end Go.Proofs.YtnibonmeihdjbaaGreatDoor
