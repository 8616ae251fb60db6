/- Walks of the reference: package cardgameref13: Parse. Conditions: the text is shorter than 100 million bytes. -/
import Derived.Test.YtakgfbcmkhcdkaaGreatDoorRefC
import Derived.Test.YtakgfbcmkhcdkaaGreatDoorMRFText
import Derived.Test.YtakgfbcmkhcdkaaGreatDoorFil
import Derived.StillTailTactics
namespace Go.Proofs.YtakgfbcmkhcdkaaGreatDoor
set_option linter.all false
open Go.ChangeShapes Go.WideShapes Go.RowKit
theorem rSplit32 (s : ByteArray) (w : World) (hs : s.size < 100000000) : Calls Tryz.prog 141 #[.string s, .int .u8 32] w (RetTexts w (dsplit 32 (L s))) :=
  rSplit_any s 32 w hs (by decide)
theorem rIs_v (f : Flt) (R : Bool) (HR : Hid (fltIs f = R)) (w : World) : Calls Tryz.prog 35 #[.agg f.cells] w fun e w' => e = .returned (.bool R) ∧ Below w.heap.size w w' :=
  rIs_any f.zone f.who f.self f.types f.ntypes f.colors f.ncolors f.sub f.keys f.tap f.pk f.pn f.tk f.tn f.vk f.vn w R HR
theorem Fr.setRow {g b : Nat} {w w' : World} (h : Fr g b w w') (cs : Array Value) (hg : b ≤ g := by exact Nat.le_refl _) : Fr g b w (w'.setRow g cs) := ⟨below_setRow h.bel hg cs, fun k hk hkg => (setRow_other w' g k cs (by omega)).trans (h.keep k hk hkg)⟩
theorem dst_mem (c : UInt8) (s : Str) : ∀ i, ∀ x ∈ (dst c s i).1, x.length ≤ s.length
  | 0, x, h => by simp [dst] at h
  | i + 1, x, h => by
    rw [dst] at h; split at h
    · rcases List.mem_append.1 h with h | h
      · exact dst_mem c s i x h
      · rw [List.mem_singleton.1 h]; simp; omega
    · exact dst_mem c s i x h
theorem dsplit_mem (c : UInt8) (s : Str) : ∀ x ∈ dsplit c s, x.length ≤ s.length := by
  intro x h
  unfold dsplit at h
  rcases List.mem_append.1 h with h | h
  · exact dst_mem c s _ x h
  · rw [List.mem_singleton.1 h]; simp
theorem dsplit_len (c : UInt8) (s : Str) : (dsplit c s).length ≤ s.length + 1 := by
  unfold dsplit; have := (dst_le c s s.length).2; simp; omega
theorem drop_foldl {α β : Type} (st : α → β → α) (f : α) (l : List β) (k : Nat) (h : k < l.length) : (l.drop k).foldl st f = (l.drop (k + 1)).foldl st (st f l[k]) := by
  rw [List.drop_eq_getElem_cons h]; rfl
set_option maxRecDepth 100000 in
set_option maxHeartbeats 4000000 in
theorem rParse_any (s : ByteArray) (w : World) (hs : s.size < 100000000) :
    Calls Tryz.prog 109 #[.string s] w fun e w' => e = .returned (fltRet (qParse (L s))) ∧ Below w.heap.size w w' := by
  obtain ⟨R, hR⟩ : ∃ R, qParse (L s) = R := ⟨_, rfl⟩
  rw [hR]
  have HR : Hid ((if textOf ((dsplit 32 (L s)).foldl qWord zeroF) = L s ∧ fltIs ((dsplit 32 (L s)).foldl qWord zeroF) = true then some ((dsplit 32 (L s)).foldl qWord zeroF) else none) = R) := Lib.hid hR
  clear hR
  have hlen := dsplit_len 32 (L s)
  have hmem : Hid (∀ x ∈ dsplit 32 (L s), x.length < 100000000) := fun x hx => by have := dsplit_mem 32 (L s) x hx; rw [size_l] at this; omega
  rw [size_l] at hlen
  have HB0 : Hid (Below w.heap.size w ((w.alloc (.cells zeroF.cells TF)).alloc (.cells zeroF.cells TF))) := Lib.hid (((Below.refl _ _).alloc (Nat.le_refl _) _).alloc (by simp) _)
  go_enter Tryz.func109, Tryz.ntmps109
  go_wp2_with (go_at_call 141; refine (rSplit32 _ ((w.alloc (.cells zeroF.cells TF)).alloc (.cells zeroF.cells TF)) hs).mono ?_; rintro e w3 ⟨A, c, rfl, ht, hb3⟩)
  have hr3 := Lib.hid (first_block hb3)
  have R1 : RB w3 (w.heap.size + 1) (fM zeroF 0 0 0 0 0) := second_block hb3
  have HB3 : Hid (Below w.heap.size w w3) := Lib.hid (two_allocs hb3)
  generalize dsplit 32 (L s) = ws at *
  have hbase : Hid (w.heap.size + 2 = ((w.alloc (.cells zeroF.cells TF)).alloc (.cells zeroF.cells TF)).heap.size) := by show _ = _; simp
  have F1 := Fr.refl (w.heap.size + 1) (w.heap.size + 1) w3
  clear hb3
  go_loopw [6] (fun i wr => ∃ k : Nat, ∃ f : Flt, ∃ a b c d e : Nat, k ≤ ws.length ∧ i = .int .i64 k ∧ RB wr (w.heap.size + 1) (fM f a b c d e) ∧ Fr (w.heap.size + 1) (w.heap.size + 1) w3 wr ∧ Hid ((a < 2 ^ 17 ∧ b < 2 ^ 17 ∧ c < 2 ^ 17 ∧ d < 2 ^ 17 ∧ e < 2 ^ 17) ∧ ws.foldl qWord zeroF = (ws.drop k).foldl qWord (fM f a b c d e))) (fun i _ => ws.length - (intOf i).toNat)
  case atStart => exact ⟨0, zeroF, 0, 0, 0, 0, 0, by omega, rfl, R1, F1, Lib.hid ⟨by decide, rfl⟩⟩
  case round =>
    clear R1 F1
    obtain ⟨k, f, a, b, c2, d, e, hk, rfl, R1, F1, HK⟩ := hrel
    have hsz := F1.bel.size
    by_cases hlt : k < ws.length
    · obtain ⟨g3, rfl, hge, hg3l, hcl⟩ := ht.at3 hlt
      have hcell : wr.cell? ⟨g3, k, none⟩ = some (.string (B ws[k])) := (World.cell?_of_block (w := w3) (a := ⟨g3, k, none⟩) (F1.keep g3 hg3l (by have := hbase.out; omega))).trans hcl
      have hxs : (B ws[k]).size < 100000000 := by rw [B_size]; exact hmem.out _ (List.getElem_mem hlt)
      have HST := Lib.hid (drop_foldl qWord (fM f a b c2 d e) ws k hlt)
      clear hcl ht
      generalize ws[k] = x at *
      have hgw := R1.lt
      have q0 : wr.cell? ⟨w.heap.size + 1, 0, none⟩ = some (.int .i64 f.zone) := R1.cell 0
      have q1 : wr.cell? ⟨w.heap.size + 1, 1, none⟩ = some (.int .i64 f.who) := R1.cell 1
      have q2 : wr.cell? ⟨w.heap.size + 1, 2, none⟩ = some (.int .i64 f.self) := R1.cell 2
      have q3 : wr.cell? ⟨w.heap.size + 1, 3, none⟩ = some (.int .i64 ((a : Nat) : Int)) := R1.cell 3
      have q4 : wr.cell? ⟨w.heap.size + 1, 4, none⟩ = some (.int .i64 ((b : Nat) : Int)) := R1.cell 4
      have q5 : wr.cell? ⟨w.heap.size + 1, 5, none⟩ = some (.int .i64 ((c2 : Nat) : Int)) := R1.cell 5
      have q6 : wr.cell? ⟨w.heap.size + 1, 6, none⟩ = some (.int .i64 ((d : Nat) : Int)) := R1.cell 6
      have q7 : wr.cell? ⟨w.heap.size + 1, 7, none⟩ = some (.string f.sub) := R1.cell 7
      have q8 : wr.cell? ⟨w.heap.size + 1, 8, none⟩ = some (.int .i64 ((e : Nat) : Int)) := R1.cell 8
      have q9 : wr.cell? ⟨w.heap.size + 1, 9, none⟩ = some (.int .i64 f.tap) := R1.cell 9
      have q10 : wr.cell? ⟨w.heap.size + 1, 10, none⟩ = some (.int .i64 f.pk) := R1.cell 10
      have q11 : wr.cell? ⟨w.heap.size + 1, 11, none⟩ = some (.int .i64 f.pn) := R1.cell 11
      have q12 : wr.cell? ⟨w.heap.size + 1, 12, none⟩ = some (.int .i64 f.tk) := R1.cell 12
      have q13 : wr.cell? ⟨w.heap.size + 1, 13, none⟩ = some (.int .i64 f.tn) := R1.cell 13
      have q14 : wr.cell? ⟨w.heap.size + 1, 14, none⟩ = some (.int .i64 f.vk) := R1.cell 14
      have q15 : wr.cell? ⟨w.heap.size + 1, 15, none⟩ = some (.int .i64 f.vn) := R1.cell 15
      go_upto_region 6 with fail
      go_still_tail 5, (by kernel_rfl)
      clear q0 q1 q2 q3 q4 q5 q6 q7 q8 q9 q10 q11 q12 q13 q14 q15
      change wpList _ _ _ _ _ wr.drew
      have R2 : RB wr.drew (w.heap.size + 1) (fM f a b c2 d e) := R1
      have F2 := F1.drew
      have hgl : w.heap.size + 1 ≤ wr.drew.heap.size := Nat.le_of_lt hgw
      obtain ⟨b1, b2, b3, b4, b5⟩ := HK.out.1
      obtain ⟨FF, hF⟩ := fWord_any (B x) f a b c2 d e b1 b2 b3 b4 b5 hxs wr.drew
      have HF := Lib.hid hF
      clear hF R1 F1 hgw hsz b1 b2 b3 b4 b5
      generalize wr.drew = w4 at *
      go_wp2_with fail
      refine HF.out.mono ?_
      rw [L_B]
      rintro e0 w5 ⟨rfl, hb5, a2, bb2, cc2, d2, e2, hform, hbnd⟩
      have HN : Hid ((a2 < 2 ^ 17 ∧ bb2 < 2 ^ 17 ∧ cc2 < 2 ^ 17 ∧ d2 < 2 ^ 17 ∧ e2 < 2 ^ 17) ∧ ws.foldl qWord zeroF = (ws.drop (k + 1)).foldl qWord (fM FF a2 bb2 cc2 d2 e2)) := Lib.hid ⟨hbnd, by rw [HK.out.2, HST.out, hform]⟩
      rw [hform]
      have R3 := Lib.hid (R2.below hb5)
      have F3 := F2.trans (Fr.of hb5 hgl)
      clear hform hbnd HST HK HF R2 F2 hb5
      dsimp only
      go_wp2_with (refine wpList_store_row rfl TF (.tmp 4) (.tmp 20) rfl (w.heap.size + 1) (fM FF a2 bb2 cc2 d2 e2).cells rfl rfl TF (fM f a b c2 d e).cells R3.out infoTF rfl (cells_one _) ?_)
      have R4 : RB (w5.setRow (w.heap.size + 1) (fM FF a2 bb2 cc2 d2 e2).cells) (w.heap.size + 1) (fM FF a2 bb2 cc2 d2 e2) := row_set R3.out
      have F4 := F3.setRow (fM FF a2 bb2 cc2 d2 e2).cells
      clear F3 R3
      go_roundw
      case rel => exact ⟨k + 1, FF, a2, bb2, cc2, d2, e2, by omega, by go_num, R4, F4, HN⟩
      case measure => simp [intOf]; omega
    · obtain rfl : k = ws.length := by omega
      have HE : Hid (ws.foldl qWord zeroF = fM f a b c2 d e) := Lib.hid (by rw [HK.out.2, List.drop_length]; rfl)
      have HR2 : Hid ((if textOf (fM f a b c2 d e) = L s ∧ fltIs (fM f a b c2 d e) = true then some (fM f a b c2 d e) else none) = R) := Lib.hid (by rw [← HR.out, HE.out])
      have hBr := Lib.hid (HB3.out.trans (F1.bel.mono (Nat.le_succ _)))
      have hrr : Hid (wr.heap[w.heap.size]? = some (.cells zeroF.cells TF (0, 0))) := Lib.hid ((F1.bel.block _ (Nat.lt_succ_self _)).trans hr3.out)
      have hg := Lib.hid R1
      have hgl := R1.lt
      have hwl : w.heap.size < wr.heap.size := by omega
      clear HK HR HE R1 F1
      generalize fM f a b c2 d e = G at *
      cases hv : fltIs G with
      | false =>
        have HV := Lib.hid hv
        have HN : Hid (none = R) := Lib.hid (by rw [← HR2.out, if_neg (by rw [hv]; simp)])
        clear hv
        go_wp2_with (first | refine wpList_load_row rfl TF (.tmp 4) rfl (w.heap.size + 1) rfl TF G.cells (0, 0) _ hg.out Tryz.underlying25 rfl infoTF ?_ | (go_at_call 35; (with_reducible refine (rIs_v G false HV _).mono ?_); rintro e0 w4 ⟨rfl, hb4⟩; have hr4 := Lib.hid ((hb4.block _ hwl).trans hrr.out)) | refine wpList_store_row rfl TF (.tmp 2) (.tmp 30) rfl w.heap.size zeroF.cells rfl rfl TF zeroF.cells hr4.out infoTF rfl (cells_one _) ?_)
        refine bodyPost_ret (results_row_tmp rfl _ _ w.heap.size TF zeroF.cells (0, 0) _ rfl (row_set hr4.out) Tryz.underlying25 rfl infoTF) rfl ⟨?_, below_setRow (below_two hBr.out hb4) (Nat.le_refl _) _⟩
        exact ret_val (by rw [← HN.out]; rfl)
      | true =>
        have HV := Lib.hid hv
        by_cases hT : textOf G = L s
        · have t3 := toList_yes hT
          have HN : Hid (some G = R) := Lib.hid (by rw [← HR2.out, if_pos ⟨hT, hv⟩])
          clear hT hv
          go_wp2_with (first | refine wpList_load_row rfl TF (.tmp 4) rfl (w.heap.size + 1) rfl TF G.cells (0, 0) _ hg5.out Tryz.underlying25 rfl infoTF ?_ | refine wpList_load_row_g rfl TF (.tmp 4) rfl (w.heap.size + 1) rfl TF G.cells (0, 0) _ hg4.out Tryz.underlying25 rfl infoTF ?_ | refine wpList_load_row rfl TF (.tmp 4) rfl (w.heap.size + 1) rfl TF G.cells (0, 0) _ hg.out Tryz.underlying25 rfl infoTF ?_ | (go_at_call 35; (with_reducible refine (rIs_v G true HV _).mono ?_); rintro e0 w4 ⟨rfl, hb4⟩; have hr4 := Lib.hid ((hb4.block _ hwl).trans hrr.out); have hg4 := Lib.hid ((hb4.block _ hgl).trans hg.out)) | (go_at_call 44; (with_reducible refine (rFltText_any G _).mono ?_); rintro e0 w5 ⟨rfl, hb5⟩; have hr5 := Lib.hid (blk_below2 hb5 hr4.out); have hg5 := Lib.hid (blk_below2 hb5 hg4.out)) | refine wpList_store_row rfl TF (.tmp 2) (.tmp 31) rfl w.heap.size G.cells rfl rfl TF zeroF.cells hr5.out infoTF rfl (cells_one _) ?_)
          refine bodyPost_ret (results_row_tmp rfl _ _ w.heap.size TF G.cells (0, 0) _ rfl (row_set hr5.out) Tryz.underlying25 rfl infoTF) rfl ⟨?_, below_setRow (below_two (below_two hBr.out hb4) hb5) (Nat.le_refl _) _⟩
          exact ret_val (by rw [← HN.out]; rfl)
        · have t3 := toList_no hT
          have t4 : (!textOf G == s.toList) = true := by rw [t3]; rfl
          have HN : Hid (none = R) := Lib.hid (by rw [← HR2.out, if_neg (fun h => hT h.1)])
          clear hT hv
          go_wp2_with (first | refine wpList_load_row_g rfl TF (.tmp 4) rfl (w.heap.size + 1) rfl TF G.cells (0, 0) _ hg4.out Tryz.underlying25 rfl infoTF ?_ | refine wpList_load_row rfl TF (.tmp 4) rfl (w.heap.size + 1) rfl TF G.cells (0, 0) _ hg.out Tryz.underlying25 rfl infoTF ?_ | (go_at_call 35; (with_reducible refine (rIs_v G true HV _).mono ?_); rintro e0 w4 ⟨rfl, hb4⟩; have hr4 := Lib.hid ((hb4.block _ hwl).trans hrr.out); have hg4 := Lib.hid ((hb4.block _ hgl).trans hg.out)) | (go_at_call 44; (with_reducible refine (rFltText_any G _).mono ?_); rintro e0 w5 ⟨rfl, hb5⟩; have hr5 := Lib.hid (blk_below2 hb5 hr4.out)) | refine wpList_store_row rfl TF (.tmp 2) (.tmp 30) rfl w.heap.size zeroF.cells rfl rfl TF zeroF.cells hr5.out infoTF rfl (cells_one _) ?_)
          refine bodyPost_ret (results_row_tmp rfl _ _ w.heap.size TF zeroF.cells (0, 0) _ rfl (row_set hr5.out) Tryz.underlying25 rfl infoTF) rfl ⟨?_, below_setRow (below_two (below_two hBr.out hb4) hb5) (Nat.le_refl _) _⟩
          exact ret_val (by rw [← HN.out]; rfl)
end Go.Proofs.YtakgfbcmkhcdkaaGreatDoor
