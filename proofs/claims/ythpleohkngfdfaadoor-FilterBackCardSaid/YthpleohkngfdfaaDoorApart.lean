/- FilterApart: two valid filters have the same text exactly if they are equal. Conditions: Laid. -/
import Derived.Test.YthpleohkngfdfaaDoorAliveW
import Derived.Test.YthpleohkngfdfaaDoorLawC
import Derived.Laws.StructEq
namespace Go.Proofs.YthpleohkngfdfaaDoor
set_option linter.all false
open Go.ChangeShapes Go.WideShapes Go.RowKit

theorem text_ret (f : Flt) (s : ByteArray) (hs : Hid (B (textOf f) = s)) (w : World) (hl : Laid w) : Calls Tryd.prog 7 #[.agg f.cells] w fun e w' => e = .returned (.string s) ∧ Below w.heap.size w w' :=
  (fltText_v f w hl).mono fun e w' ⟨he, hb⟩ => ⟨by rw [he, hs.out], hb⟩
theorem text_ret2 (zone who self types ntypes colors ncolors : Int) (sub : ByteArray) (keys tap pk pn tk tn vk vn : Int) (s : ByteArray) (hs : Hid (B (textOf ⟨zone, who, self, types, ntypes, colors, ncolors, sub, keys, tap, pk, pn, tk, tn, vk, vn⟩) = s)) (w : World) (hl : Laid w) : Calls Tryd.prog 7 #[.agg #[.int .i64 zone, .int .i64 who, .int .i64 self, .int .i64 types, .int .i64 ntypes, .int .i64 colors, .int .i64 ncolors, .string sub, .int .i64 keys, .int .i64 tap, .int .i64 pk, .int .i64 pn, .int .i64 tk, .int .i64 tn, .int .i64 vk, .int .i64 vn]] w fun e w' => e = .returned (.string s) ∧ Below w.heap.size w w' := text_ret ⟨zone, who, self, types, ntypes, colors, ncolors, sub, keys, tap, pk, pn, tk, tn, vk, vn⟩ s hs w hl

/-- Two filters, field for field. -/
def fltEq (f g : Flt) : Bool := f.zone == g.zone && (f.who == g.who && (f.self == g.self && (f.types == g.types && (f.ntypes == g.ntypes && (f.colors == g.colors && (f.ncolors == g.ncolors && (f.sub.toList == g.sub.toList && (f.keys == g.keys && (f.tap == g.tap && (f.pk == g.pk && (f.pn == g.pn && (f.tk == g.tk && (f.tn == g.tn && (f.vk == g.vk && (f.vn == g.vn)))))))))))))))
theorem toList_eq_iff (a b : ByteArray) : a.toList = b.toList ↔ a = b := by
  rw [L_toList, L_toList]; exact ⟨L_inj, fun h => by rw [h]⟩
theorem ite_and_res {p : Prop} [Decidable p] {b c : Bool} {X : Result Value} {w : World} (hb : b = true ↔ p) (h : X = .ok (.bool c) w) : (if p then X else .ok (.bool false) w) = .ok (.bool (b && c)) w := by
  by_cases hp : p
  · rw [if_pos hp, hb.2 hp, h]; rfl
  · rw [if_neg hp]; cases hbb : b
    · rfl
    · exact absurd (hb.1 hbb) hp
theorem fltEq_iff (f g : Flt) : fltEq f g = true ↔ f = g := by
  obtain ⟨zone, who, self, types, ntypes, colors, ncolors, sub, keys, tap, pk, pn, tk, tn, vk, vn⟩ := f
  obtain ⟨zone2, who2, self2, types2, ntypes2, colors2, ncolors2, sub2, keys2, tap2, pk2, pn2, tk2, tn2, vk2, vn2⟩ := g
  simp only [fltEq, Bool.and_eq_true, beq_iff_eq, toList_eq_iff, Flt.mk.injEq]
set_option maxRecDepth 100000 in
/-- The model's == of two filters. -/
theorem eq_flt (zone who self types ntypes colors ncolors : Int) (sub : ByteArray) (keys tap pk pn tk tn vk vn : Int) (zone2 who2 self2 types2 ntypes2 colors2 ncolors2 : Int) (sub2 : ByteArray) (keys2 tap2 pk2 pn2 tk2 tn2 vk2 vn2 : Int) (w : World) : (binOp .eql 25 (.agg #[.int .i64 zone, .int .i64 who, .int .i64 self, .int .i64 types, .int .i64 ntypes, .int .i64 colors, .int .i64 ncolors, .string sub, .int .i64 keys, .int .i64 tap, .int .i64 pk, .int .i64 pn, .int .i64 tk, .int .i64 tn, .int .i64 vk, .int .i64 vn]) (.agg #[.int .i64 zone2, .int .i64 who2, .int .i64 self2, .int .i64 types2, .int .i64 ntypes2, .int .i64 colors2, .int .i64 ncolors2, .string sub2, .int .i64 keys2, .int .i64 tap2, .int .i64 pk2, .int .i64 pn2, .int .i64 tk2, .int .i64 tn2, .int .i64 vk2, .int .i64 vn2])).run Tryd.prog w = .ok (.bool (fltEq ⟨zone, who, self, types, ntypes, colors, ncolors, sub, keys, tap, pk, pn, tk, tn, vk, vn⟩ ⟨zone2, who2, self2, types2, ntypes2, colors2, ncolors2, sub2, keys2, tap2, pk2, pn2, tk2, tn2, vk2, vn2⟩)) w := by
  rw [run_eql_struct, run_equalIn_agg w 9999 25 _ _ (by kernel_rfl) (by kernel_rfl)]
  simp [fltEq, go_sem, Tryd.underlying25, Tryd.underlying23, Tryd.underlying3, Tryd.underlying9]
  iterate 15 (refine ite_and_res (by simp) ?_)
  split
  · rename_i h; rw [h]; simp
  · rename_i h; rw [beq_eq_false_iff_ne.2 h]
theorem blk_below {w w2 : World} {k : Nat} {p : Obj} (hb : Below w.heap.size w w2) (h : w.heap[k]? = some p) : w2.heap[k]? = some p := (hb.block k (blk_lt h)).trans h
set_option maxRecDepth 100000 in
set_option maxHeartbeats 1000000 in
theorem apart_a (zone who self types ntypes colors ncolors : Int) (sub : ByteArray) (keys tap pk pn tk tn vk vn : Int) (zone2 who2 self2 types2 ntypes2 colors2 ncolors2 : Int) (sub2 : ByteArray) (keys2 tap2 pk2 pn2 tk2 tn2 vk2 vn2 : Int) (w : World) (hl : Laid w) (HF : Hid (fltIs ⟨zone, who, self, types, ntypes, colors, ncolors, sub, keys, tap, pk, pn, tk, tn, vk, vn⟩ = false)) :
    Calls Tryd.prog 4 #[.agg #[.int .i64 zone, .int .i64 who, .int .i64 self, .int .i64 types, .int .i64 ntypes, .int .i64 colors, .int .i64 ncolors, .string sub, .int .i64 keys, .int .i64 tap, .int .i64 pk, .int .i64 pn, .int .i64 tk, .int .i64 tn, .int .i64 vk, .int .i64 vn], .agg #[.int .i64 zone2, .int .i64 who2, .int .i64 self2, .int .i64 types2, .int .i64 ntypes2, .int .i64 colors2, .int .i64 ncolors2, .string sub2, .int .i64 keys2, .int .i64 tap2, .int .i64 pk2, .int .i64 pn2, .int .i64 tk2, .int .i64 tn2, .int .i64 vk2, .int .i64 vn2]] w fun e w' => e = .returned (.bool true) ∧ Below w.heap.size w w' := by
  go_enter Tryd.func4, Tryd.ntmps4
  go_wp2_with (first | (go_at_call 9; (with_reducible refine (fltIs_any zone who self types ntypes colors ncolors sub keys tap pk pn tk tn vk vn _ ((hl.alloc _).alloc _) false HF).mono ?_); rintro e w1 ⟨rfl, hb1⟩; have hl1 := ((hl.alloc _).alloc _).below hb1; have r1 := Lib.hid (first_block hb1); have r2 := Lib.hid (second_block hb1); have q1 := row_cells r2.out) | (go_at_call 6; (with_reducible refine (alive_any _ hl1).mono ?_); rintro e w3 ⟨rfl, hb3⟩))
  go_ret
  exact ⟨rfl, (two_allocs hb1).trans (hb3.mono (two_allocs hb1).size)⟩
set_option maxRecDepth 100000 in
set_option maxHeartbeats 1000000 in
theorem apart_b (zone who self types ntypes colors ncolors : Int) (sub : ByteArray) (keys tap pk pn tk tn vk vn : Int) (zone2 who2 self2 types2 ntypes2 colors2 ncolors2 : Int) (sub2 : ByteArray) (keys2 tap2 pk2 pn2 tk2 tn2 vk2 vn2 : Int) (w : World) (hl : Laid w) (HF : Hid (fltIs ⟨zone, who, self, types, ntypes, colors, ncolors, sub, keys, tap, pk, pn, tk, tn, vk, vn⟩ = true)) (HG : Hid (fltIs ⟨zone2, who2, self2, types2, ntypes2, colors2, ncolors2, sub2, keys2, tap2, pk2, pn2, tk2, tn2, vk2, vn2⟩ = false)) :
    Calls Tryd.prog 4 #[.agg #[.int .i64 zone, .int .i64 who, .int .i64 self, .int .i64 types, .int .i64 ntypes, .int .i64 colors, .int .i64 ncolors, .string sub, .int .i64 keys, .int .i64 tap, .int .i64 pk, .int .i64 pn, .int .i64 tk, .int .i64 tn, .int .i64 vk, .int .i64 vn], .agg #[.int .i64 zone2, .int .i64 who2, .int .i64 self2, .int .i64 types2, .int .i64 ntypes2, .int .i64 colors2, .int .i64 ncolors2, .string sub2, .int .i64 keys2, .int .i64 tap2, .int .i64 pk2, .int .i64 pn2, .int .i64 tk2, .int .i64 tn2, .int .i64 vk2, .int .i64 vn2]] w fun e w' => e = .returned (.bool true) ∧ Below w.heap.size w w' := by
  go_enter Tryd.func4, Tryd.ntmps4
  go_wp2_with (first | (go_at_call 9; (with_reducible refine (fltIs_any zone who self types ntypes colors ncolors sub keys tap pk pn tk tn vk vn _ ((hl.alloc _).alloc _) true HF).mono ?_); rintro e w1 ⟨rfl, hb1⟩; have hl1 := ((hl.alloc _).alloc _).below hb1; have r1 := Lib.hid (first_block hb1); have r2 := Lib.hid (second_block hb1); have q1 := row_cells r2.out) | (go_at_call 9; (with_reducible refine (fltIs_any zone2 who2 self2 types2 ntypes2 colors2 ncolors2 sub2 keys2 tap2 pk2 pn2 tk2 tn2 vk2 vn2 _ hl1 false HG).mono ?_); rintro e w2 ⟨rfl, hb2⟩; have hl2 := hl1.below hb2) | (go_at_call 6; (with_reducible refine (alive_any _ hl2).mono ?_); rintro e w3 ⟨rfl, hb3⟩))
  go_ret
  have k2 := (two_allocs hb1).trans (hb2.mono (two_allocs hb1).size)
  exact ⟨rfl, k2.trans (hb3.mono k2.size)⟩
end Go.Proofs.YthpleohkngfdfaaDoor
