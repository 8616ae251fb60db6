/- Walks: package filter: Parse of words. Conditions: Laid; the text is shorter than 100 million bytes. -/
import Derived.Test.YthpleohkngfdfaaDoorParse
namespace Go.Proofs.YthpleohkngfdfaaDoor
set_option linter.all false
open Go.ChangeShapes Go.WideShapes Go.RowKit
set_option maxRecDepth 100000 in
set_option maxHeartbeats 2000000 in
theorem fltParse_words (s : ByteArray) (w : World) (hl : Laid w) (hs : s.size < 100000000) (hany : ¬ L s = anyW) :
    Calls Tryd.prog 8 #[.string s] w fun e w' => e = .returned (fltRet (match foldT zeroF (splitOn 32 (L s)) with | some f => if textOf f = L s then some f else none | none => none)) ∧ Below w.heap.size w w' := by
  obtain ⟨R, hR⟩ : ∃ R, R = (match foldT zeroF (splitOn 32 (L s)) with | some f => if textOf f = L s then some f else none | none => none) := ⟨_, rfl⟩
  rw [← hR]
  have HR := Lib.hid hR; clear hR
  have t0 : (s.toList == [97, 110, 121]) = false := toList_lit_no hany
  have t2 : (!s.toList == [97, 110, 121]) = true := by rw [t0]; rfl
  clear hany
  have hlen := splitOn_len 32 (L s)
  have hmem : Hid (∀ x ∈ splitOn 32 (L s), x.length < 100000000) := fun x hx => by have := splitOn_mem 32 (L s) x hx; rw [size_l] at this; omega
  rw [size_l] at hlen
  have hl2 : Laid ((w.alloc (.cells zeroF.cells TF)).alloc (.cells zeroF.cells TR)) := hl.below (((Below.refl _ _).alloc (Nat.le_refl _) _).alloc (by simp) _)
  have hsp : s.size < 4294967281 := by omega
  go_enter Tryd.func8, Tryd.ntmps8
  go_wp2_with (go_at_call 19; refine (split_any _ _ ((w.alloc (.cells zeroF.cells TF)).alloc (.cells zeroF.cells TR)) hl2.shaped hsp).mono ?_; rintro e w3 ⟨A, c, rfl, ht, hb3⟩)
  have hr3 := Lib.hid (first_block hb3)
  have hg3 := second_block hb3
  have HRd : Rd w3 (w.heap.size + 1) (w.heap.size + 1) zeroF := ⟨hg3, Nat.le_refl _⟩
  have hB3 := two_allocs hb3
  have hLB : LB (w.heap.size + 1) w3 := ⟨w, hl, Nat.le_succ _, hB3⟩
  generalize splitOn 32 (L s) = ws at *
  have hbase : Hid (w.heap.size + 2 = ((w.alloc (.cells zeroF.cells TF)).alloc (.cells zeroF.cells TR)).heap.size) := by show _ = _; simp
  go_loopw [17] (fun i wr => ∃ k : Nat, ∃ f : Flt, k ≤ ws.length ∧ i = .int .i64 k ∧ Rd wr (w.heap.size + 1) (w.heap.size + 1) f ∧ Fr (w.heap.size + 1) (w.heap.size + 1) w3 wr ∧ Hid (foldT zeroF ws = foldT f (ws.drop k))) (fun i _ => ws.length - (intOf i).toNat)
  case atStart => exact ⟨0, zeroF, by omega, rfl, HRd, Fr.refl _ _ _, rfl⟩
  case round =>
    obtain ⟨k, f, hk, rfl, hrd, hfr, HF⟩ := hrel
    have hsz := hfr.bel.size
    have hLr := hLB.below hfr.bel
    have hrr : Hid (wr.heap[w.heap.size]? = some (.cells zeroF.cells TF (0, 0))) := (hfr.bel.block _ (by omega)).trans hr3.out
    by_cases hlt : k < ws.length
    · obtain ⟨g3, rfl, hge, hg3l, hcl⟩ := ht.at3 hlt
      have hcell : wr.cell? ⟨g3, k, none⟩ = some (.string (B ws[k])) := (World.cell?_of_block (w := w3) (a := ⟨g3, k, none⟩) (hfr.keep g3 hg3l (by have := hbase.out; omega))).trans hcl
      have hxs : (B ws[k]).size < 100000000 := by rw [B_size]; exact hmem.out _ (List.getElem_mem hlt)
      have HST := Lib.hid (foldT_step (f := f) hlt)
      clear hcl ht
      generalize ws[k] = x at *
      go_wp2_with fail
      refine (take_any (B x) f wr _ _ hrd hLr hxs).mono ?_
      rw [L_B]
      rintro e w4 ⟨hf4, ⟨f', hf, rfl, hw4⟩ | ⟨hf, rfl, f', hw4⟩⟩
      · have HN : Hid (foldT zeroF ws = foldT f' (ws.drop (k + 1))) := Lib.hid (by rw [HF.out, HST.out, hf])
        have hf5 := hfr.trans hf4
        clear hf HST HF hf4 hcell
        dsimp only
        go_wp2
        go_roundw
        case rel => exact ⟨k + 1, f', by omega, by go_num, hw4, hf5, HN⟩
        case measure => simp [intOf]; omega
      · have HN : Hid (R = none) := Lib.hid (by rw [HR.out, HF.out, HST.out, hf])
        have hf5 := hfr.trans hf4
        have hr4 : Hid (w4.heap[w.heap.size]? = some (.cells zeroF.cells TF (0, 0))) := (hf4.bel.block _ (by omega)).trans hrr.out
        clear hf HST HF hf4 hcell HR
        dsimp only
        go_wp2_with (refine wpList_store_row rfl TF (.tmp 2) (.tmp 25) rfl w.heap.size zeroF.cells rfl rfl TF zeroF.cells hr4 infoTF rfl (cells_one _) ?_)
        refine bodyPost_ret (results_row_tmp rfl _ _ w.heap.size TF zeroF.cells (0, 0) _ rfl (row_set hr4) Tryd.underlying25 rfl infoTF) rfl ⟨?_, below_setRow (hB3.trans (hf5.bel.mono (Nat.le_succ _))) (Nat.le_refl _) _⟩
        exact ret_val (by rw [HN.out]; rfl)
    · obtain rfl : k = ws.length := by omega
      have HE : Hid (foldT zeroF ws = some f) := Lib.hid (by rw [HF.out, List.drop_length]; rfl)
      have hgr := Lib.hid hrd.1
      have hLd := hLr.laid
      clear HF
      by_cases hT : textOf f = L s
      · have t3 := toList_yes hT
        have HN : Hid (R = some f) := Lib.hid (by rw [HR.out, HE.out]; exact if_pos hT)
        clear hT HR HE
        go_wp2_with (first | (go_at_call 7; refine (fltText_v f _ hLd).mono ?_; rintro e w4 ⟨rfl, hb4⟩; have hr4 := Lib.hid ((hb4.block w.heap.size (by have := hrd.lt; omega)).trans hrr.out); have hg4 := Lib.hid ((hb4.block _ hrd.lt).trans hgr.out)) | refine wpList_load_row rfl TF (.tmp 29) rfl (w.heap.size + 1) rfl TR f.cells (0, 0) _ hgr Tryd.underlying25 rfl infoTF ?_ | refine wpList_load_row rfl TF (.tmp 37) rfl (w.heap.size + 1) rfl TR f.cells (0, 0) _ hg4 Tryd.underlying25 rfl infoTF ?_ | refine wpList_store_row rfl TF (.tmp 2) (.tmp 38) rfl w.heap.size f.cells rfl rfl TF zeroF.cells hr4 infoTF rfl (cells_one _) ?_)
        refine bodyPost_ret (results_row_tmp rfl _ _ w.heap.size TF f.cells (0, 0) _ rfl (row_set hr4) Tryd.underlying25 rfl infoTF) rfl ⟨?_, below_setRow ((hB3.trans (hfr.bel.mono (Nat.le_succ _))).trans (hb4.mono (by have := hB3.size; omega))) (Nat.le_refl _) _⟩
        exact ret_val (by rw [HN.out]; rfl)
      · have t3 := toList_no hT
        have HN : Hid (R = none) := Lib.hid (by rw [HR.out, HE.out]; exact if_neg hT)
        clear hT HR HE
        go_wp2_with (first | (go_at_call 7; refine (fltText_v f _ hLd).mono ?_; rintro e w4 ⟨rfl, hb4⟩; have hr4 := Lib.hid ((hb4.block w.heap.size (by have := hrd.lt; omega)).trans hrr.out); have hg4 := Lib.hid ((hb4.block _ hrd.lt).trans hgr.out)) | refine wpList_load_row rfl TF (.tmp 29) rfl (w.heap.size + 1) rfl TR f.cells (0, 0) _ hgr Tryd.underlying25 rfl infoTF ?_ | refine wpList_store_row rfl TF (.tmp 2) (.tmp 34) rfl w.heap.size zeroF.cells rfl rfl TF zeroF.cells hr4 infoTF rfl (cells_one _) ?_)
        refine bodyPost_ret (results_row_tmp rfl _ _ w.heap.size TF zeroF.cells (0, 0) _ rfl (row_set hr4) Tryd.underlying25 rfl infoTF) rfl ⟨?_, below_setRow ((hB3.trans (hfr.bel.mono (Nat.le_succ _))).trans (hb4.mono (by have := hB3.size; omega))) (Nat.le_refl _) _⟩
        exact ret_val (by rw [HN.out]; rfl)
end Go.Proofs.YthpleohkngfdfaaDoor
