/- Walks: package ref: read of any text, Parse. Conditions: Laid; the text is shorter than 100 million bytes. -/
import Derived.Test.YtbiakbogpbncfaaGreatDoorSReadB
namespace Go.Proofs.YtbiakbogpbncfaaGreatDoor
set_option linter.all false
open Go.ChangeShapes Go.WideShapes Go.RowKit
theorem fltRet_form (o : Option Flt) : ∃ G c, fltRet o = .tuple #[.agg (Flt.cells G), .int .i64 c] ∧ (c = 0 ∨ c = 3) ∧ (c = 0 → o = some G) ∧ (c = 3 → o = none) := by
  cases o with
  | none => exact ⟨zeroF, 3, rfl, .inr rfl, (fun h => by cases h), fun _ => rfl⟩
  | some G => exact ⟨G, 0, rfl, .inl rfl, fun _ => rfl, (fun h => by cases h)⟩
theorem trimSuf_le (s p : Str) : (Lib.trimSuffix s p).length ≤ s.length := Lib.trimSuffix_le s p
theorem read_any (s : ByteArray) (hs : s.size < 100000000) (w : World) (hl : Laid w) :
    Calls Tryz.prog 23 #[.string s] w fun e w' => e = .returned (.agg (readR (L s)).cells) ∧ Below w.heap.size w w' := by
  unfold readR
  by_cases n0 : L s = wd refT 1
  · rw [if_pos n0]; exact read_w0 s w n0
  by_cases n1 : L s = wd refT 2
  · rw [if_neg n0, if_pos n1]; exact read_w1 s w n0 n1
  by_cases n2 : L s = wd refT 5
  · rw [if_neg n0, if_neg n1, if_pos n2]; exact read_w2 s w n0 n1 n2
  by_cases n3 : L s = wd refT 6
  · rw [if_neg n0, if_neg n1, if_neg n2, if_pos n3]; exact read_w3 s w n0 n1 n2 n3
  by_cases n4 : L s = wd refT 7
  · rw [if_neg n0, if_neg n1, if_neg n2, if_neg n3, if_pos n4]; exact read_w4 s w n0 n1 n2 n3 n4
  rw [if_neg n0, if_neg n1, if_neg n2, if_neg n3, if_neg n4]
  cases hT : readNum (L s) targetW with
  | some m => exact read_target s hs w hl n0 n1 n2 n3 n4 m (Lib.hid hT)
  | none =>
    cases hO : readNum (L s) ownerW with
    | some m => exact read_owner s hs w hl n0 n1 n2 n3 n4 (Lib.hid hT) m (Lib.hid hO)
    | none =>
      have hr := Lib.trimPrefix_le (L s) eachW
      have hi := trimSuf_le (Lib.trimPrefix (L s) eachW) [41]
      rw [size_l] at hr
      obtain ⟨G, c, hf, hc, hc0, hc3⟩ := fltRet_form (parseS (Lib.trimSuffix (Lib.trimPrefix (L s) eachW) [41]))
      have hrl : Hid ((B (Lib.trimPrefix (L s) eachW)).size < 1000000000) := Lib.hid (by rw [B_size]; omega)
      have hil : Hid ((B (Lib.trimSuffix (Lib.trimPrefix (L s) eachW) [41])).size < 100000000) := Lib.hid (by rw [B_size]; omega)
      show Calls _ _ _ _ fun e w' => e = .returned (.agg (Rf.cells (match readEach (L s) with | some f => ⟨4, 0, f⟩ | none => zeroR))) ∧ Below w.heap.size w w'
      cases hb : Lib.hasPrefix (L s) eachW with
      | false =>
        have e : readEach (L s) = none := by unfold readEach; rw [if_neg (by rw [hb]; simp)]
        rw [e]
        exact read_zero1 s hs w hl n0 n1 n2 n3 n4 (Lib.hid hT) (Lib.hid hO) _ _ G _ c (Lib.hid ⟨rfl, hb⟩) (Lib.hid ⟨rfl, rfl⟩) (Lib.hid hf) hrl hil
      | true =>
        cases he : Lib.hasSuffix (Lib.trimPrefix (L s) eachW) [41] with
        | false =>
          have e : readEach (L s) = none := by unfold readEach; rw [if_neg (by rw [he]; simp)]
          rw [e]
          exact read_zero2 s hs w hl n0 n1 n2 n3 n4 (Lib.hid hT) (Lib.hid hO) _ _ G c (Lib.hid ⟨rfl, hb⟩) (Lib.hid ⟨rfl, he⟩) (Lib.hid hf) hrl hil
        | true =>
          have e : readEach (L s) = parseS (Lib.trimSuffix (Lib.trimPrefix (L s) eachW) [41]) := by unfold readEach; rw [if_pos ⟨hb, he⟩]
          rw [e]
          rcases hc with rfl | rfl
          · rw [hc0 rfl]
            exact read_eachW s hs w hl n0 n1 n2 n3 n4 (Lib.hid hT) (Lib.hid hO) _ _ G (Lib.hid ⟨rfl, hb⟩) (Lib.hid ⟨rfl, he⟩) (Lib.hid hf) hrl hil
          · rw [hc3 rfl]
            exact read_zero3 s hs w hl n0 n1 n2 n3 n4 (Lib.hid hT) (Lib.hid hO) _ _ G (Lib.hid ⟨rfl, hb⟩) (Lib.hid ⟨rfl, he⟩) (Lib.hid hf) hrl hil
def refRet (o : Option Rf) : Value := match o with | some r => .tuple #[.agg r.cells, .int .i64 0] | none => .tuple #[.agg zeroR.cells, .int .i64 3]
theorem rfText_is (r : Rf) (T : ByteArray) (hT : Hid (B (refText r) = T)) (w : World) (hl : Laid w) :
    Calls Tryz.prog 11 #[.agg r.cells] w fun e w' => e = .returned (.string T) ∧ Below w.heap.size w w' :=
  (rfText_v r w hl).mono fun e w' h => ⟨by rw [h.1, hT.out], h.2⟩
theorem read_is (s : ByteArray) (hs : s.size < 100000000) (r : Rf) (hr : Hid (readR (L s) = r)) (w : World) (hl : Laid w) :
    Calls Tryz.prog 23 #[.string s] w fun e w' => e = .returned (.agg r.cells) ∧ Below w.heap.size w w' :=
  (read_any s hs w hl).mono fun e w' h => ⟨by rw [h.1, hr.out], h.2⟩
set_option maxRecDepth 100000 in
set_option maxHeartbeats 2000000 in
theorem rfParse_any (s : ByteArray) (w : World) (hl : Laid w) (hs : s.size < 100000000) :
    Calls Tryz.prog 13 #[.string s] w fun e w' => e = .returned (refRet (refParse (L s))) ∧ Below w.heap.size w w' := by
  obtain ⟨r, hr⟩ : ∃ r, readR (L s) = r := ⟨_, rfl⟩
  have hp : refParse (L s) = if refIs r 4 = true ∧ refText r = L s then some r else none := by unfold refParse; rw [hr]
  rw [hp]
  have HR := Lib.hid hr
  obtain ⟨T, hT⟩ : ∃ T, B (refText r) = T := ⟨_, rfl⟩
  have HT := Lib.hid hT
  have hl0 := hl.alloc (.cells zeroR.cells TRf)
  have r0 := Lib.hid (heap_alloc_new w (.cells zeroR.cells TRf))
  have k0 : Hid (Below w.heap.size w (w.alloc (.cells zeroR.cells TRf))) := Lib.hid ((Below.refl _ _).alloc (Nat.le_refl _) _)
  clear hr hp
  cases hv : refIs r 4 with
  | false =>
    have HV := Lib.hid hv
    rw [if_neg (by simp)]
    clear hv hT
    go_enter Tryz.func13, Tryz.ntmps13
    go_wp2_with (first
      | refine wpList_load_row rfl TRf (.tmp 4) rfl w1.heap.size rfl TRf r.cells (0, 0) _ r2n.out Tryz.underlying27 rfl infoTRf ?_
      | (refine wpList_store_row rfl TRf (.tmp 4) (.tmp 6) rfl w1.heap.size r.cells rfl rfl TRf zeroR.cells (heap_alloc_new w1 _) infoTRf rfl (rcells_one _) ?_; change wpList _ _ _ _ _ (stored w1 TRf zeroR.cells r.cells); have r2n := Lib.hid (stored_new w1 TRf zeroR.cells r.cells); have r2 := Lib.hid (stored_old (t := TRf) (o := zeroR.cells) (cs := r.cells) r1.out); have k2 := Lib.hid (k1.out.trans ((stored_below w1 TRf zeroR.cells r.cells).mono k1.out.size)); have hl2 := hl1.below (stored_below w1 TRf zeroR.cells r.cells); generalize stored w1 TRf zeroR.cells r.cells = w2 at *)
      | refine wpList_store_row rfl TRf (.tmp 2) (.tmp 16) rfl w.heap.size zeroR.cells rfl rfl TRf zeroR.cells r3.out infoTRf rfl (rcells_one _) ?_
      | (go_at_call 23; refine (read_is s hs r HR _ hl0).mono ?_; rintro e w1 ⟨rfl, hb1⟩; have r1 := Lib.hid (blk_new hb1); have k1 := Lib.hid (below_two k0.out hb1); have hl1 := hl0.below hb1)
      | (go_at_call 9; (with_reducible refine (rfIs_v r 4 false HV _ hl2).mono ?_); rintro e w3 ⟨rfl, hb3⟩; have r3 := Lib.hid (blk_below2 hb3 r2.out); have k3 := Lib.hid (below_two k2.out hb3)))
    exact bodyPost_ret (results_row_tmp rfl _ _ w.heap.size TRf zeroR.cells (0, 0) _ rfl (row_set r3.out) Tryz.underlying27 rfl infoTRf) rfl ⟨rfl, below_setRow k3.out (Nat.le_refl _) _⟩
  | true =>
    have HV := Lib.hid hv
    by_cases ht : refText r = L s
    · have t3 : (T.toList == s.toList) = true := by rw [← hT, B_toList, L_toList]; simpa using ht
      rw [if_pos ⟨rfl, ht⟩]
      clear hv hT ht
      go_enter Tryz.func13, Tryz.ntmps13
      go_wp2_with (first
        | refine wpList_load_row rfl TRf (.tmp 4) rfl w1.heap.size rfl TRf r.cells (0, 0) _ r4n.out Tryz.underlying27 rfl infoTRf ?_
        | refine wpList_load_row_g rfl TRf (.tmp 4) rfl w1.heap.size rfl TRf r.cells (0, 0) _ r3n.out Tryz.underlying27 rfl infoTRf ?_
        | refine wpList_load_row rfl TRf (.tmp 4) rfl w1.heap.size rfl TRf r.cells (0, 0) _ r2n.out Tryz.underlying27 rfl infoTRf ?_
        | (refine wpList_store_row rfl TRf (.tmp 4) (.tmp 6) rfl w1.heap.size r.cells rfl rfl TRf zeroR.cells (heap_alloc_new w1 _) infoTRf rfl (rcells_one _) ?_; change wpList _ _ _ _ _ (stored w1 TRf zeroR.cells r.cells); have r2n := Lib.hid (stored_new w1 TRf zeroR.cells r.cells); have r2 := Lib.hid (stored_old (t := TRf) (o := zeroR.cells) (cs := r.cells) r1.out); have k2 := Lib.hid (k1.out.trans ((stored_below w1 TRf zeroR.cells r.cells).mono k1.out.size)); have hl2 := hl1.below (stored_below w1 TRf zeroR.cells r.cells); generalize stored w1 TRf zeroR.cells r.cells = w2 at *)
        | refine wpList_store_row rfl TRf (.tmp 2) (.tmp 17) rfl w.heap.size r.cells rfl rfl TRf zeroR.cells r4.out infoTRf rfl (rcells_one _) ?_
        | (go_at_call 23; refine (read_is s hs r HR _ hl0).mono ?_; rintro e w1 ⟨rfl, hb1⟩; have r1 := Lib.hid (blk_new hb1); have k1 := Lib.hid (below_two k0.out hb1); have hl1 := hl0.below hb1)
        | (go_at_call 9; (with_reducible refine (rfIs_v r 4 true HV _ hl2).mono ?_); rintro e w3 ⟨rfl, hb3⟩; have r3 := Lib.hid (blk_below2 hb3 r2.out); have r3n := Lib.hid (blk_below2 hb3 r2n.out); have k3 := Lib.hid (below_two k2.out hb3); have hl3 := hl2.below hb3)
        | (go_at_call 11; (with_reducible refine (rfText_is r T HT _ hl3).mono ?_); rintro e w4 ⟨rfl, hb4⟩; have r4 := Lib.hid (blk_below2 hb4 r3.out); have r4n := Lib.hid (blk_below2 hb4 r3n.out); have k4 := Lib.hid (below_two k3.out hb4)))
      exact bodyPost_ret (results_row_tmp rfl _ _ w.heap.size TRf r.cells (0, 0) _ rfl (row_set r4.out) Tryz.underlying27 rfl infoTRf) rfl ⟨rfl, below_setRow k4.out (Nat.le_refl _) _⟩
    · have t3 : (T.toList == s.toList) = false := by rw [← hT, B_toList, L_toList]; simpa using ht
      have t4 : (!T.toList == s.toList) = true := by rw [t3]; rfl
      rw [if_neg (fun h => ht h.2)]
      clear hv hT ht
      go_enter Tryz.func13, Tryz.ntmps13
      go_wp2_with (first
        | refine wpList_load_row_g rfl TRf (.tmp 4) rfl w1.heap.size rfl TRf r.cells (0, 0) _ r3n.out Tryz.underlying27 rfl infoTRf ?_
        | refine wpList_load_row rfl TRf (.tmp 4) rfl w1.heap.size rfl TRf r.cells (0, 0) _ r2n.out Tryz.underlying27 rfl infoTRf ?_
        | (refine wpList_store_row rfl TRf (.tmp 4) (.tmp 6) rfl w1.heap.size r.cells rfl rfl TRf zeroR.cells (heap_alloc_new w1 _) infoTRf rfl (rcells_one _) ?_; change wpList _ _ _ _ _ (stored w1 TRf zeroR.cells r.cells); have r2n := Lib.hid (stored_new w1 TRf zeroR.cells r.cells); have r2 := Lib.hid (stored_old (t := TRf) (o := zeroR.cells) (cs := r.cells) r1.out); have k2 := Lib.hid (k1.out.trans ((stored_below w1 TRf zeroR.cells r.cells).mono k1.out.size)); have hl2 := hl1.below (stored_below w1 TRf zeroR.cells r.cells); generalize stored w1 TRf zeroR.cells r.cells = w2 at *)
        | refine wpList_store_row rfl TRf (.tmp 2) (.tmp 16) rfl w.heap.size zeroR.cells rfl rfl TRf zeroR.cells r4.out infoTRf rfl (rcells_one _) ?_
        | (go_at_call 23; refine (read_is s hs r HR _ hl0).mono ?_; rintro e w1 ⟨rfl, hb1⟩; have r1 := Lib.hid (blk_new hb1); have k1 := Lib.hid (below_two k0.out hb1); have hl1 := hl0.below hb1)
        | (go_at_call 9; (with_reducible refine (rfIs_v r 4 true HV _ hl2).mono ?_); rintro e w3 ⟨rfl, hb3⟩; have r3 := Lib.hid (blk_below2 hb3 r2.out); have r3n := Lib.hid (blk_below2 hb3 r2n.out); have k3 := Lib.hid (below_two k2.out hb3); have hl3 := hl2.below hb3)
        | (go_at_call 11; (with_reducible refine (rfText_is r T HT _ hl3).mono ?_); rintro e w4 ⟨rfl, hb4⟩; have r4 := Lib.hid (blk_below2 hb4 r3.out); have k4 := Lib.hid (below_two k3.out hb4)))
      exact bodyPost_ret (results_row_tmp rfl _ _ w.heap.size TRf zeroR.cells (0, 0) _ rfl (row_set r4.out) Tryz.underlying27 rfl infoTRf) rfl ⟨rfl, below_setRow k4.out (Nat.le_refl _) _⟩
end Go.Proofs.YtbiakbogpbncfaaGreatDoor
