/- Walks of the reference: package cardgameref13: Text of whatever filter. Conditions: none. -/
import Derived.Test.YtcbegdjmopgbbaaGreatDoorRFText
namespace Go.Proofs.YtcbegdjmopgbbaaGreatDoor
set_option linter.all false
open Go.ChangeShapes Go.WideShapes Go.RowKit
set_option maxRecDepth 100000 in
theorem rText_no (zone who self types ntypes colors ncolors : Int) (sub : ByteArray) (keys tap pk pn tk tn vk vn : Int) (w : World) (HV : Hid (fltIs ⟨zone, who, self, types, ntypes, colors, ncolors, sub, keys, tap, pk, pn, tk, tn, vk, vn⟩ = false)) :
    Calls Tryz.prog 24 #[.agg #[.int .i64 zone, .int .i64 who, .int .i64 self, .int .i64 types, .int .i64 ntypes, .int .i64 colors, .int .i64 ncolors, .string sub, .int .i64 keys, .int .i64 tap, .int .i64 pk, .int .i64 pn, .int .i64 tk, .int .i64 tn, .int .i64 vk, .int .i64 vn]] w fun e w' => e = .returned (.string ⟨#[]⟩) ∧ Below w.heap.size w w' := by
  go_enter Tryz.func24, Tryz.ntmps24
  go_wp2_with (go_at_call 18; (with_reducible refine (rIs_any _ _ _ _ _ _ _ _ _ _ _ _ _ _ _ _ _ false HV).mono ?_); rintro e w1 ⟨rfl, hb1⟩)
  go_ret
  exact ⟨rfl, below_two ((Below.refl _ _).alloc (Nat.le_refl _) _) hb1⟩
theorem rFltText_any (f : Flt) (w : World) :
    Calls Tryz.prog 24 #[.agg f.cells] w fun e w' => e = .returned (.string (B (textOf f))) ∧ Below w.heap.size w w' := by
  obtain ⟨zone, who, self, types, ntypes, colors, ncolors, sub, keys, tap, pk, pn, tk, tn, vk, vn⟩ := f
  cases hv : fltIs ⟨zone, who, self, types, ntypes, colors, ncolors, sub, keys, tap, pk, pn, tk, tn, vk, vn⟩ with
  | false =>
    refine (rText_no _ _ _ _ _ _ _ _ _ _ _ _ _ _ _ _ w (Lib.hid hv)).mono fun e w' ⟨he, hb⟩ => ⟨?_, hb⟩
    rw [he, textOf, hv]; rfl
  | true =>
    have hv2 := hv
    simp only [fltIs, okMasks, Bool.and_eq_true, Bool.or_eq_true, beq_iff_eq] at hv2
    obtain ⟨⟨g1, g2, g3, g4, g5⟩, ⟨g6, g7, g8⟩, ⟨g9, g10, g11⟩, g12, g13, g14, g15⟩ := hv2
    obtain ⟨z, rfl, hz⟩ := btw_nat g1
    obtain ⟨wh, rfl, hwh⟩ := btw_nat g2
    obtain ⟨se, rfl, hse⟩ := btw_nat g3
    obtain ⟨ta, rfl, hta⟩ := btw_nat g4
    obtain ⟨ke, rfl, hke⟩ := btw_nat g5
    obtain ⟨ty, rfl, hty⟩ := btw_nat g6
    obtain ⟨nt, rfl, hnt⟩ := btw_nat g7
    obtain ⟨co, rfl, hco⟩ := btw_nat g9
    obtain ⟨nc, rfl, hnc⟩ := btw_nat g10
    obtain ⟨pk, pn, rfl, rfl, hpk, hpn⟩ := bnd_nat g13
    obtain ⟨tk, tn, rfl, rfl, htk, htn⟩ := bnd_nat g14
    obtain ⟨vk, vn, rfl, rfl, hvk, hvn⟩ := bnd_nat g15
    have hsub : sub.size ≤ 32 := by
      rw [← size_l]
      rcases g12 with h | h
      · rw [h]; simp
      · exact isSub_len h
    have hj := fltJoin_len (mkFN z wh se ty nt co nc sub ke ta pk pn tk tn vk vn) (by show (L sub).length ≤ 32; rw [size_l]; exact hsub) hpn htn hvn
    refine (rText_yes z wh se ty nt co nc sub ke ta pk pn tk tn vk vn w (Lib.hid hv) (by omega) (by omega) (by omega) (by omega) (by omega) (by omega) (by omega) hsub (by omega) (by omega) hpk hpn htk htn hvk hvn (Lib.hid (by omega))).mono fun e w' ⟨he, hb⟩ => ⟨?_, hb⟩
    rw [he, textOf, hv]; rfl
end Go.Proofs.YtcbegdjmopgbbaaGreatDoor
