/- Walks: package trigger: Text. Conditions: LaidT. -/
import Derived.Test.YtnibonmeihdjbaaGreatDoorTIs
import Derived.Test.YtnibonmeihdjbaaGreatDoorFTextC
namespace Go.Proofs.YtnibonmeihdjbaaGreatDoor
set_option linter.all false
open Go.ChangeShapes Go.WideShapes Go.RowKit
theorem textOf_len {f : Flt} : (textOf f).length ≤ 1000000 := by
  unfold textOf; split
  · rename_i h
    obtain ⟨_, hok⟩ := fltIs_fn h
    unfold fltText; split
    · decide
    · have hs : (toFN f).sub.length ≤ 32 := by
        rcases hok.sub with e | e
        · rw [e]; simp
        · exact isSub_len e
      have := fltJoin_len (toFN f) hs hok.pn hok.tn hok.vn
      omega
  · decide
theorem verb_len : ∀ k : Nat, (wd verbT k).length ≤ 7 := wd_len (by decide)
theorem whoText_len (who : Int) : (whoText who).length ≤ 9 := by
  unfold whoText; split
  · decide
  split
  · decide
  split
  · decide
  · decide
theorem tgText_F {k : Nat} {who : Int} {f : Flt} (hv : tgIs ⟨(k : Int), who, f⟩ = true) (hW : usesW k = false) (hF : usesF k = true) : B (wd verbT k) ++ (⟨#[32, 40]⟩ ++ B (textOf f) ++ ⟨#[41]⟩) = B (tgText ⟨(k : Int), who, f⟩) := by
  rw [show (⟨#[32, 40]⟩ : ByteArray) = B [32, 40] from rfl, show (⟨#[41]⟩ : ByteArray) = B [41] from rfl, B_append, B_append, B_append]
  rw [show tgText ⟨(k : Int), who, f⟩ = tgBody ⟨(k : Int), who, f⟩ from if_pos hv]
  unfold tgBody tgHead tgTail; simp only [Int.toNat_natCast]; rw [if_pos hF, if_neg (by simp [hW])]; try simp
theorem tgText_W {k : Nat} {who : Int} {f : Flt} (hv : tgIs ⟨(k : Int), who, f⟩ = true) (hW : usesW k = true) (hF : usesF k = false) : B (wd verbT k) ++ (⟨#[32]⟩ ++ B (whoText who)) = B (tgText ⟨(k : Int), who, f⟩) := by
  rw [show (⟨#[32]⟩ : ByteArray) = B [32] from rfl, B_append, B_append]
  rw [show tgText ⟨(k : Int), who, f⟩ = tgBody ⟨(k : Int), who, f⟩ from if_pos hv]
  unfold tgBody tgHead tgTail; simp only [Int.toNat_natCast]; rw [if_pos hW, if_neg (by simp [hF])]; try simp
theorem tgText_WF {k : Nat} {who : Int} {f : Flt} (hv : tgIs ⟨(k : Int), who, f⟩ = true) (hW : usesW k = true) (hF : usesF k = true) : B (wd verbT k) ++ (⟨#[32]⟩ ++ B (whoText who)) ++ (⟨#[32, 40]⟩ ++ B (textOf f) ++ ⟨#[41]⟩) = B (tgText ⟨(k : Int), who, f⟩) := by
  rw [show (⟨#[32, 40]⟩ : ByteArray) = B [32, 40] from rfl, show (⟨#[41]⟩ : ByteArray) = B [41] from rfl, show (⟨#[32]⟩ : ByteArray) = B [32] from rfl, B_append, B_append, B_append, B_append, B_append]
  rw [show tgText ⟨(k : Int), who, f⟩ = tgBody ⟨(k : Int), who, f⟩ from if_pos hv]
  unfold tgBody tgHead tgTail; simp only [Int.toNat_natCast]; rw [if_pos hF, if_pos hW]; try simp
set_option maxRecDepth 100000 in
set_option maxHeartbeats 1000000 in
theorem tText_F (k : Nat) (who : Int) (f : Flt) (h1 : (1 : Int) ≤ k) (h2 : (k : Int) ≤ 14) (HU : Hid (usesW k = false ∧ usesF k = true)) (HV : Hid (tgIs ⟨(k : Int), who, f⟩ = true)) (w : World) (hl : LaidT w) :
    Calls Tryz.prog 13 #[.agg (Tg.cells ⟨(k : Int), who, f⟩)] w fun e w' => e = .returned (.string (B (tgText ⟨(k : Int), who, f⟩))) ∧ Below w.heap.size w w' := by
  have hk : k < 15 := by omega
  have HR := Lib.hid (tgText_F HV.out HU.out.1 HU.out.2)
  have hil := textOf_len (f := f)
  obtain ⟨X, hX⟩ : ∃ X, B (wd verbT k) = X := ⟨_, rfl⟩
  obtain ⟨W, hW⟩ : ∃ W, B (whoText who) = W := ⟨_, rfl⟩
  have hxs : X.size ≤ 7 := by rw [← hX, B_size]; exact verb_len k
  have hws : W.size ≤ 9 := by rw [← hW, B_size]; exact whoText_len who
  rw [hX] at HR
  try rw [hW] at HR
  have HX := Lib.hid hX
  have HW := Lib.hid hW
  clear hX hW
  have r0 := Lib.hid (heap_alloc_new w (.cells (Tg.cells ⟨(k : Int), who, f⟩) TTg))
  have hl1 := hl.alloc (.cells (Tg.cells ⟨(k : Int), who, f⟩) TTg)
  have k0 : Hid (Below w.heap.size w (w.alloc (.cells (Tg.cells ⟨(k : Int), who, f⟩) TTg))) := Lib.hid ((Below.refl _ _).alloc (Nat.le_refl _) _)
  go_enter Tryz.func13, Tryz.ntmps13
  go_wp2_with (first | refine wpList_load_row rfl TTg _ rfl w.heap.size rfl TTg (Tg.cells ⟨(k : Int), who, f⟩) (0, 0) _ r0.out Tryz.underlying27 rfl infoTTg ?_ | refine wpList_load_part rfl TF _ rfl w.heap.size 2 rfl TTg (Tg.cells ⟨(k : Int), who, f⟩) f.cells (0, 0) _ r1.out (tg_part ⟨(k : Int), who, f⟩) Tryz.underlying25 rfl infoTF ?_ | (go_at_call 9; (with_reducible refine (tIs_v ⟨(k : Int), who, f⟩ true HV _ hl1).mono ?_); rintro e w1 ⟨rfl, hb1⟩; have r1 := Lib.hid (blk_below2 hb1 r0.out); have hl2 := hl1.below hb1; have k1 := Lib.hid (below_two k0.out hb1); have q0 : w1.cell? ⟨w.heap.size, 0, none⟩ = some (.int .i64 (k : Int)) := cell_of_row _ _ 0 _ _ (0, 0) r1.out; have q1 : w1.cell? ⟨w.heap.size, 1, none⟩ = some (.int .i64 who) := cell_of_row _ _ 1 _ _ (0, 0) r1.out; have qv : w1.cell? ⟨(0 : Nat), k, none⟩ = some (.string X) := (hl2.verb hk).trans (by rw [HX.out])) | (go_at_call 17; (with_reducible refine (tgUses_is (k : Int) h1 h2 false true HU _).mono ?_); rintro e w2 ⟨rfl, rfl⟩) | (go_at_call 23; (with_reducible refine (fltText_v f _ hl2.base).mono ?_); rintro e w3 ⟨rfl, hb3⟩))
  go_ret
  exact ⟨ret_str HR.out, below_two k1.out hb3⟩
set_option maxRecDepth 100000 in
set_option maxHeartbeats 1000000 in
theorem tText_W (k : Nat) (who : Int) (f : Flt) (h1 : (1 : Int) ≤ k) (h2 : (k : Int) ≤ 14) (HU : Hid (usesW k = true ∧ usesF k = false)) (HV : Hid (tgIs ⟨(k : Int), who, f⟩ = true)) (w : World) (hl : LaidT w) :
    Calls Tryz.prog 13 #[.agg (Tg.cells ⟨(k : Int), who, f⟩)] w fun e w' => e = .returned (.string (B (tgText ⟨(k : Int), who, f⟩))) ∧ Below w.heap.size w w' := by
  have hk : k < 15 := by omega
  have HR := Lib.hid (tgText_W HV.out HU.out.1 HU.out.2)
  have hil := textOf_len (f := f)
  obtain ⟨X, hX⟩ : ∃ X, B (wd verbT k) = X := ⟨_, rfl⟩
  obtain ⟨W, hW⟩ : ∃ W, B (whoText who) = W := ⟨_, rfl⟩
  have hxs : X.size ≤ 7 := by rw [← hX, B_size]; exact verb_len k
  have hws : W.size ≤ 9 := by rw [← hW, B_size]; exact whoText_len who
  rw [hX] at HR
  try rw [hW] at HR
  have HX := Lib.hid hX
  have HW := Lib.hid hW
  clear hX hW
  have r0 := Lib.hid (heap_alloc_new w (.cells (Tg.cells ⟨(k : Int), who, f⟩) TTg))
  have hl1 := hl.alloc (.cells (Tg.cells ⟨(k : Int), who, f⟩) TTg)
  have k0 : Hid (Below w.heap.size w (w.alloc (.cells (Tg.cells ⟨(k : Int), who, f⟩) TTg))) := Lib.hid ((Below.refl _ _).alloc (Nat.le_refl _) _)
  go_enter Tryz.func13, Tryz.ntmps13
  go_wp2_with (first | refine wpList_load_row rfl TTg _ rfl w.heap.size rfl TTg (Tg.cells ⟨(k : Int), who, f⟩) (0, 0) _ r0.out Tryz.underlying27 rfl infoTTg ?_ | (go_at_call 9; (with_reducible refine (tIs_v ⟨(k : Int), who, f⟩ true HV _ hl1).mono ?_); rintro e w1 ⟨rfl, hb1⟩; have r1 := Lib.hid (blk_below2 hb1 r0.out); have hl2 := hl1.below hb1; have k1 := Lib.hid (below_two k0.out hb1); have q0 : w1.cell? ⟨w.heap.size, 0, none⟩ = some (.int .i64 (k : Int)) := cell_of_row _ _ 0 _ _ (0, 0) r1.out; have q1 : w1.cell? ⟨w.heap.size, 1, none⟩ = some (.int .i64 who) := cell_of_row _ _ 1 _ _ (0, 0) r1.out; have qv : w1.cell? ⟨(0 : Nat), k, none⟩ = some (.string X) := (hl2.verb hk).trans (by rw [HX.out])) | (go_at_call 17; (with_reducible refine (tgUses_is (k : Int) h1 h2 true false HU _).mono ?_); rintro e w2 ⟨rfl, rfl⟩) | (go_at_call 11; (with_reducible refine (tgWho_is who W HW _).mono ?_); rintro e w2 ⟨rfl, rfl⟩))
  go_ret
  exact ⟨ret_str HR.out, k1.out⟩
set_option maxRecDepth 100000 in
set_option maxHeartbeats 1000000 in
theorem tText_WF (k : Nat) (who : Int) (f : Flt) (h1 : (1 : Int) ≤ k) (h2 : (k : Int) ≤ 14) (HU : Hid (usesW k = true ∧ usesF k = true)) (HV : Hid (tgIs ⟨(k : Int), who, f⟩ = true)) (w : World) (hl : LaidT w) :
    Calls Tryz.prog 13 #[.agg (Tg.cells ⟨(k : Int), who, f⟩)] w fun e w' => e = .returned (.string (B (tgText ⟨(k : Int), who, f⟩))) ∧ Below w.heap.size w w' := by
  have hk : k < 15 := by omega
  have HR := Lib.hid (tgText_WF HV.out HU.out.1 HU.out.2)
  have hil := textOf_len (f := f)
  obtain ⟨X, hX⟩ : ∃ X, B (wd verbT k) = X := ⟨_, rfl⟩
  obtain ⟨W, hW⟩ : ∃ W, B (whoText who) = W := ⟨_, rfl⟩
  have hxs : X.size ≤ 7 := by rw [← hX, B_size]; exact verb_len k
  have hws : W.size ≤ 9 := by rw [← hW, B_size]; exact whoText_len who
  rw [hX] at HR
  try rw [hW] at HR
  have HX := Lib.hid hX
  have HW := Lib.hid hW
  clear hX hW
  have r0 := Lib.hid (heap_alloc_new w (.cells (Tg.cells ⟨(k : Int), who, f⟩) TTg))
  have hl1 := hl.alloc (.cells (Tg.cells ⟨(k : Int), who, f⟩) TTg)
  have k0 : Hid (Below w.heap.size w (w.alloc (.cells (Tg.cells ⟨(k : Int), who, f⟩) TTg))) := Lib.hid ((Below.refl _ _).alloc (Nat.le_refl _) _)
  go_enter Tryz.func13, Tryz.ntmps13
  go_wp2_with (first | refine wpList_load_row rfl TTg _ rfl w.heap.size rfl TTg (Tg.cells ⟨(k : Int), who, f⟩) (0, 0) _ r0.out Tryz.underlying27 rfl infoTTg ?_ | refine wpList_load_part rfl TF _ rfl w.heap.size 2 rfl TTg (Tg.cells ⟨(k : Int), who, f⟩) f.cells (0, 0) _ r1.out (tg_part ⟨(k : Int), who, f⟩) Tryz.underlying25 rfl infoTF ?_ | (go_at_call 9; (with_reducible refine (tIs_v ⟨(k : Int), who, f⟩ true HV _ hl1).mono ?_); rintro e w1 ⟨rfl, hb1⟩; have r1 := Lib.hid (blk_below2 hb1 r0.out); have hl2 := hl1.below hb1; have k1 := Lib.hid (below_two k0.out hb1); have q0 : w1.cell? ⟨w.heap.size, 0, none⟩ = some (.int .i64 (k : Int)) := cell_of_row _ _ 0 _ _ (0, 0) r1.out; have q1 : w1.cell? ⟨w.heap.size, 1, none⟩ = some (.int .i64 who) := cell_of_row _ _ 1 _ _ (0, 0) r1.out; have qv : w1.cell? ⟨(0 : Nat), k, none⟩ = some (.string X) := (hl2.verb hk).trans (by rw [HX.out])) | (go_at_call 17; (with_reducible refine (tgUses_is (k : Int) h1 h2 true true HU _).mono ?_); rintro e w2 ⟨rfl, rfl⟩) | (go_at_call 11; (with_reducible refine (tgWho_is who W HW _).mono ?_); rintro e w2 ⟨rfl, rfl⟩) | (go_at_call 23; (with_reducible refine (fltText_v f _ hl2.base).mono ?_); rintro e w3 ⟨rfl, hb3⟩))
  go_ret
  exact ⟨ret_str HR.out, below_two k1.out hb3⟩
set_option maxRecDepth 100000 in
theorem tText_no (t : Tg) (HV : Hid (tgIs t = false)) (w : World) (hl : LaidT w) :
    Calls Tryz.prog 13 #[.agg t.cells] w fun e w' => e = .returned (.string ⟨#[]⟩) ∧ Below w.heap.size w w' := by
  have r0 := Lib.hid (heap_alloc_new w (.cells t.cells TTg))
  have hl1 := hl.alloc (.cells t.cells TTg)
  go_enter Tryz.func13, Tryz.ntmps13
  go_wp2_with (first | refine wpList_load_row rfl TTg _ rfl w.heap.size rfl TTg t.cells (0, 0) _ r0.out Tryz.underlying27 rfl infoTTg ?_ | (go_at_call 9; (with_reducible refine (tIs_v t false HV _ hl1).mono ?_); rintro e w1 ⟨rfl, hb1⟩))
  go_ret
  exact ⟨rfl, below_two ((Below.refl _ _).alloc (Nat.le_refl _) _) hb1⟩
theorem uses_one {k : Int} (h1 : 1 ≤ k) (h2 : k ≤ 14) (h : usesW k = false) : usesF k = true := by
  unfold usesW at h; unfold usesF; simp at h; simp; omega
theorem tText_v (t : Tg) (w : World) (hl : LaidT w) :
    Calls Tryz.prog 13 #[.agg t.cells] w fun e w' => e = .returned (.string (B (tgText t))) ∧ Below w.heap.size w w' := by
  cases hv : tgIs t with
  | false => exact (tText_no t (Lib.hid hv) w hl).mono fun e w' ⟨he, hb⟩ => ⟨by rw [he, tgText_no hv]; rfl, hb⟩
  | true =>
    obtain ⟨k, who, f⟩ := t
    have hk : 1 ≤ k ∧ k ≤ 14 := by
      have h := hv
      unfold tgIs at h
      simp only [Bool.and_eq_true, decide_eq_true_eq] at h
      exact h.1
    obtain ⟨h1, h2⟩ := hk
    obtain ⟨m, rfl⟩ : ∃ m : Nat, k = (m : Int) := ⟨k.toNat, by omega⟩
    cases hW : usesW (m : Int) with
    | false => exact tText_F m who f h1 h2 (Lib.hid ⟨hW, uses_one h1 h2 hW⟩) (Lib.hid hv) w hl
    | true =>
      cases hF : usesF (m : Int) with
      | false => exact tText_W m who f h1 h2 (Lib.hid ⟨hW, hF⟩) (Lib.hid hv) w hl
      | true => exact tText_WF m who f h1 h2 (Lib.hid ⟨hW, hF⟩) (Lib.hid hv) w hl
theorem tText_is (t : Tg) (T : ByteArray) (hT : Hid (B (tgText t) = T)) (w : World) (hl : LaidT w) :
    Calls Tryz.prog 13 #[.agg t.cells] w fun e w' => e = .returned (.string T) ∧ Below w.heap.size w w' :=
  (tText_v t w hl).mono fun e w' h => ⟨by rw [h.1, hT.out], h.2⟩
end Go.Proofs.YtnibonmeihdjbaaGreatDoor
