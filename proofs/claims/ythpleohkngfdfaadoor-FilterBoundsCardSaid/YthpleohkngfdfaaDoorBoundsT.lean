/- Walks: FilterBounds, a part of its cases. Conditions: Laid. -/
import Derived.Test.YthpleohkngfdfaaDoorBoundsA
namespace Go.Proofs.YthpleohkngfdfaaDoor
set_option linter.all false
open Go.ChangeShapes Go.WideShapes Go.RowKit
set_option maxRecDepth 100000 in
theorem bounds_t0 (k : Int) (n : Int) (hk : k < 0) (w : World) (hl : Laid w) :
    Calls Tryd.prog 5 #[.agg #[.int .i64 k, .int .i64 n], .int .i64 1] w fun e w' => e = .returned (.bool true) ∧ Below w.heap.size w w' := by
  have HD : Hid (bnd k n = false) := Lib.hid (by unfold bnd btw; simp; omega)
  go_enter Tryd.func5, Tryd.ntmps5
  go_wp2_with (first | (go_at_call 6; (with_reducible refine (alive_any _ ((hl.alloc _).alloc _)).mono ?_); rintro e w1 ⟨rfl, hb1⟩; have q := row_cells (two_new_block hb1); have hl1 := ((hl.alloc _).alloc _).below hb1) | (go_at_call 9; (with_reducible refine (fltIs_any 0 0 0 0 0 0 0 ⟨#[]⟩ 0 0 0 0 k n 0 0 _ hl1 false (Lib.hid ((is1_t _ _).trans HD.out))).mono ?_); rintro e w5 ⟨rfl, hb5⟩))
  go_ret
  exact ⟨rfl, (two_allocs hb1).trans (hb5.mono (two_allocs hb1).size)⟩
set_option maxRecDepth 100000 in
theorem bounds_t1 (k : Int) (n : Int) (hk : 3 < k) (w : World) (hl : Laid w) :
    Calls Tryd.prog 5 #[.agg #[.int .i64 k, .int .i64 n], .int .i64 1] w fun e w' => e = .returned (.bool true) ∧ Below w.heap.size w w' := by
  have HD : Hid (bnd k n = false) := Lib.hid (by unfold bnd btw; simp; omega)
  go_enter Tryd.func5, Tryd.ntmps5
  go_wp2_with (first | (go_at_call 6; (with_reducible refine (alive_any _ ((hl.alloc _).alloc _)).mono ?_); rintro e w1 ⟨rfl, hb1⟩; have q := row_cells (two_new_block hb1); have hl1 := ((hl.alloc _).alloc _).below hb1) | (go_at_call 9; (with_reducible refine (fltIs_any 0 0 0 0 0 0 0 ⟨#[]⟩ 0 0 0 0 k n 0 0 _ hl1 false (Lib.hid ((is1_t _ _).trans HD.out))).mono ?_); rintro e w5 ⟨rfl, hb5⟩))
  go_ret
  exact ⟨rfl, (two_allocs hb1).trans (hb5.mono (two_allocs hb1).size)⟩
set_option maxRecDepth 100000 in
theorem bounds_t2 (k : Int) (n : Int) (hk0 : 0 ≤ k) (hk : k ≤ 3) (hn : n < 0) (w : World) (hl : Laid w) :
    Calls Tryd.prog 5 #[.agg #[.int .i64 k, .int .i64 n], .int .i64 1] w fun e w' => e = .returned (.bool true) ∧ Below w.heap.size w w' := by
  have HD : Hid (bnd k n = false) := Lib.hid (by unfold bnd btw; simp; omega)
  go_enter Tryd.func5, Tryd.ntmps5
  go_wp2_with (first | (go_at_call 6; (with_reducible refine (alive_any _ ((hl.alloc _).alloc _)).mono ?_); rintro e w1 ⟨rfl, hb1⟩; have q := row_cells (two_new_block hb1); have hl1 := ((hl.alloc _).alloc _).below hb1) | (go_at_call 9; (with_reducible refine (fltIs_any 0 0 0 0 0 0 0 ⟨#[]⟩ 0 0 0 0 k n 0 0 _ hl1 false (Lib.hid ((is1_t _ _).trans HD.out))).mono ?_); rintro e w5 ⟨rfl, hb5⟩))
  go_ret
  exact ⟨rfl, (two_allocs hb1).trans (hb5.mono (two_allocs hb1).size)⟩
set_option maxRecDepth 100000 in
theorem bounds_t3 (k : Int) (n : Int) (hk0 : 0 ≤ k) (hk : k ≤ 3) (hn : 1000000 < n) (w : World) (hl : Laid w) :
    Calls Tryd.prog 5 #[.agg #[.int .i64 k, .int .i64 n], .int .i64 1] w fun e w' => e = .returned (.bool true) ∧ Below w.heap.size w w' := by
  have HD : Hid (bnd k n = false) := Lib.hid (by unfold bnd btw; simp; omega)
  go_enter Tryd.func5, Tryd.ntmps5
  go_wp2_with (first | (go_at_call 6; (with_reducible refine (alive_any _ ((hl.alloc _).alloc _)).mono ?_); rintro e w1 ⟨rfl, hb1⟩; have q := row_cells (two_new_block hb1); have hl1 := ((hl.alloc _).alloc _).below hb1) | (go_at_call 9; (with_reducible refine (fltIs_any 0 0 0 0 0 0 0 ⟨#[]⟩ 0 0 0 0 k n 0 0 _ hl1 false (Lib.hid ((is1_t _ _).trans HD.out))).mono ?_); rintro e w5 ⟨rfl, hb5⟩))
  go_ret
  exact ⟨rfl, (two_allocs hb1).trans (hb5.mono (two_allocs hb1).size)⟩
set_option maxRecDepth 100000 in
theorem bounds_t4 (n : Int) (hn0 : 0 < n) (hn : n ≤ 1000000) (w : World) (hl : Laid w) :
    Calls Tryd.prog 5 #[.agg #[.int .i64 0, .int .i64 n], .int .i64 1] w fun e w' => e = .returned (.bool true) ∧ Below w.heap.size w w' := by
  have HD : Hid (bnd 0 n = false) := Lib.hid (by unfold bnd btw; simp; omega)
  have e1 : (n == 0) = false := by simp only [beq_eq_false_iff_ne, ne_eq]; omega
  go_enter Tryd.func5, Tryd.ntmps5
  go_wp2_with (first | (go_at_call 6; (with_reducible refine (alive_any _ ((hl.alloc _).alloc _)).mono ?_); rintro e w1 ⟨rfl, hb1⟩; have q := row_cells (two_new_block hb1); have hl1 := ((hl.alloc _).alloc _).below hb1) | (go_at_call 9; (with_reducible refine (fltIs_any 0 0 0 0 0 0 0 ⟨#[]⟩ 0 0 0 0 0 n 0 0 _ hl1 false (Lib.hid ((is1_t _ _).trans HD.out))).mono ?_); rintro e w5 ⟨rfl, hb5⟩))
  go_ret
  exact ⟨rfl, (two_allocs hb1).trans (hb5.mono (two_allocs hb1).size)⟩
set_option maxRecDepth 100000 in
theorem bounds_t5 (w : World) (hl : Laid w) :
    Calls Tryd.prog 5 #[.agg #[.int .i64 0, .int .i64 0], .int .i64 1] w fun e w' => e = .returned (.bool true) ∧ Below w.heap.size w w' := by
  have HD : Hid (bnd 0 0 = true) := Lib.hid (by unfold bnd btw; decide +kernel)
  go_enter Tryd.func5, Tryd.ntmps5
  go_wp2_with (first | (go_at_call 6; (with_reducible refine (alive_any _ ((hl.alloc _).alloc _)).mono ?_); rintro e w1 ⟨rfl, hb1⟩; have q := row_cells (two_new_block hb1); have hl1 := ((hl.alloc _).alloc _).below hb1) | (go_at_call 9; (with_reducible refine (fltIs_any 0 0 0 0 0 0 0 ⟨#[]⟩ 0 0 0 0 0 0 0 0 _ hl1 true (Lib.hid ((is1_t _ _).trans HD.out))).mono ?_); rintro e w5 ⟨rfl, hb5⟩))
  go_ret
  exact ⟨rfl, (two_allocs hb1).trans (hb5.mono (two_allocs hb1).size)⟩
set_option maxRecDepth 100000 in
theorem bounds_t6 (k : Int) (n : Int) (hk0 : 0 < k) (hk : k ≤ 3) (hn0 : 0 ≤ n) (hn : n ≤ 1000000) (w : World) (hl : Laid w) :
    Calls Tryd.prog 5 #[.agg #[.int .i64 k, .int .i64 n], .int .i64 1] w fun e w' => e = .returned (.bool true) ∧ Below w.heap.size w w' := by
  have HD : Hid (bnd k n = true) := Lib.hid (by unfold bnd btw; simp; omega)
  have e1 : (k != 0) = true := by simp only [bne_iff_ne, ne_eq]; omega
  go_enter Tryd.func5, Tryd.ntmps5
  go_wp2_with (first | (go_at_call 6; (with_reducible refine (alive_any _ ((hl.alloc _).alloc _)).mono ?_); rintro e w1 ⟨rfl, hb1⟩; have q := row_cells (two_new_block hb1); have hl1 := ((hl.alloc _).alloc _).below hb1) | (go_at_call 9; (with_reducible refine (fltIs_any 0 0 0 0 0 0 0 ⟨#[]⟩ 0 0 0 0 k n 0 0 _ hl1 true (Lib.hid ((is1_t _ _).trans HD.out))).mono ?_); rintro e w5 ⟨rfl, hb5⟩))
  go_ret
  exact ⟨rfl, (two_allocs hb1).trans (hb5.mono (two_allocs hb1).size)⟩
end Go.Proofs.YthpleohkngfdfaaDoor
