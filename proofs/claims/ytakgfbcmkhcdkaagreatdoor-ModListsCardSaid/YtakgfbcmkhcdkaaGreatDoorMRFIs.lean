/- Walks of the reference: package cardgameref13: Is. Conditions: none. -/
import Derived.Test.YtakgfbcmkhcdkaaGreatDoorRefB
namespace Go.Proofs.YtakgfbcmkhcdkaaGreatDoor
set_option linter.all false
open Go.ChangeShapes Go.WideShapes Go.RowKit
/-- The parts of a filter's test, in the reference's order. -/
theorem fltIs_ref (f : Flt) : fltIs f = (btw f.zone 5 && (btw f.who 2 && (btw f.self 2 && (btw f.tap 2 && (okMasks f.types f.ntypes 63 && (okMasks f.colors f.ncolors 31 && ((decide (f.sub.toList = []) || isSub (L f.sub)) && (btw f.keys 131071 && (bnd f.pk f.pn && (bnd f.tk f.tn && bnd f.vk f.vn)))))))))) := by
  have e : decide (f.sub.toList = []) = (L f.sub == []) := by rw [L_toList, Bool.eq_iff_iff]; simp
  unfold fltIs
  rw [e]
  cases btw f.zone 5 <;> cases btw f.who 2 <;> cases btw f.self 2 <;> cases btw f.tap 2 <;> cases btw f.keys 131071 <;> simp
theorem kept_all {w w1 w2 : World} {o : Obj} (h : Below (w.alloc o).heap.size (w.alloc o) w1) (hb : Below w1.heap.size w1 w2) : Below (w.alloc o).heap.size (w.alloc o) w2 := below_two h hb
set_option maxRecDepth 100000 in
set_option maxHeartbeats 4000000 in
theorem rIs_any (zone who self types ntypes colors ncolors : Int) (sub : ByteArray) (keys tap pk pn tk tn vk vn : Int) (w : World) (R : Bool) (HR : Hid (fltIs ⟨zone, who, self, types, ntypes, colors, ncolors, sub, keys, tap, pk, pn, tk, tn, vk, vn⟩ = R)) :
    Calls Tryz.prog 35 #[.agg #[.int .i64 zone, .int .i64 who, .int .i64 self, .int .i64 types, .int .i64 ntypes, .int .i64 colors, .int .i64 ncolors, .string sub, .int .i64 keys, .int .i64 tap, .int .i64 pk, .int .i64 pn, .int .i64 tk, .int .i64 tn, .int .i64 vk, .int .i64 vn]] w fun e w' => e = .returned (.bool R) ∧ Below w.heap.size w w' := by
  obtain ⟨b1, H1⟩ : ∃ b, Hid (okMasks types ntypes 63 = b) := ⟨_, rfl⟩
  obtain ⟨b2, H2⟩ : ∃ b, Hid (okMasks colors ncolors 31 = b) := ⟨_, rfl⟩
  obtain ⟨b3, H3⟩ : ∃ b, Hid (isSub (L sub) = b) := ⟨_, rfl⟩
  obtain ⟨b5, H5⟩ : ∃ b, Hid (bnd pk pn = b) := ⟨_, rfl⟩
  obtain ⟨b6, H6⟩ : ∃ b, Hid (bnd tk tn = b) := ⟨_, rfl⟩
  obtain ⟨b7, H7⟩ : ∃ b, Hid (bnd vk vn = b) := ⟨_, rfl⟩
  have HD : Hid (R = (btw zone 5 && (btw who 2 && (btw self 2 && (btw tap 2 && (b1 && (b2 && ((decide (sub.toList = []) || b3) && (btw keys 131071 && (b5 && (b6 && b7))))))))))) := Lib.hid (by rw [← HR.out, fltIs_ref, ← H1.out, ← H2.out, ← H3.out, ← H5.out, ← H6.out, ← H7.out])
  clear HR
  have hb : Hid (Below w.heap.size w (w.alloc (.cells #[.int .i64 zone, .int .i64 who, .int .i64 self, .int .i64 types, .int .i64 ntypes, .int .i64 colors, .int .i64 ncolors, .string sub, .int .i64 keys, .int .i64 tap, .int .i64 pk, .int .i64 pn, .int .i64 tk, .int .i64 tn, .int .i64 vk, .int .i64 vn] 25))) := Lib.hid ((Below.refl _ _).alloc (Nat.le_refl _) _)
  go_enter Tryz.func35, Tryz.ntmps35
  go_wp2_with (first | (go_at_call 69; (with_reducible refine (fApart_any types ntypes 63 _ (by decide)).mono ?_); rw [H1.out]; rintro e w1 ⟨rfl, rfl⟩) | (go_at_call 69; (with_reducible refine (fApart_any colors ncolors 31 _ (by decide)).mono ?_); rw [H2.out]; rintro e w1 ⟨rfl, rfl⟩) | (go_at_call 34; (with_reducible refine (carry (rIsSub_any sub _) (Below.refl _ _)).mono ?_); rw [H3.out]; rintro e w2 ⟨rfl, hb2⟩; have hc2 := kept_cells hb2) | (go_at_call 70; (with_reducible refine (carry (fBound_any _ _ _) (by first | assumption | exact Below.refl _ _)).mono ?_); (first | rw [H5.out] | rw [H6.out] | rw [H7.out]); rintro e w2 ⟨rfl, hb2⟩; have hc2 := kept_cells hb2))
  all_goals
    go_ret
    refine ⟨ret_bool ?_, ?_⟩
    · rw [HD.out]; first | (simp [btw, *]; done) | (simp [btw, *]; omega) | (simp_all [btw]; done) | (simp_all [btw]; omega)
    · first | exact hb.out | exact below_two hb.out (by assumption)
end Go.Proofs.YtakgfbcmkhcdkaaGreatDoor
