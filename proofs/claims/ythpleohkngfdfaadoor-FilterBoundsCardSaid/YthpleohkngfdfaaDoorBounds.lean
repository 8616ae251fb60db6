/- FilterBounds: a filter with a single bound is valid exactly if the bound is. Conditions: Laid. -/
import Derived.Test.YthpleohkngfdfaaDoorBoundsP
import Derived.Test.YthpleohkngfdfaaDoorBoundsT
import Derived.Test.YthpleohkngfdfaaDoorBoundsV
namespace Go.Proofs.YthpleohkngfdfaaDoor
set_option linter.all false
open Go.ChangeShapes Go.WideShapes Go.RowKit
theorem bounds_any (k n which : Int) (w : World) (hl : Laid w) :
    Calls Tryd.prog 5 #[.agg #[.int .i64 k, .int .i64 n], .int .i64 which] w fun e w' => e = .returned (.bool true) ∧ Below w.heap.size w w' := by
  have hw : which = 0 ∨ which = 1 ∨ ((which == 0) = false ∧ (which == 1) = false) := by simp only [beq_eq_false_iff_ne, ne_eq]; omega
  have hc : k < 0 ∨ 3 < k ∨ (0 ≤ k ∧ k ≤ 3 ∧ n < 0) ∨ (0 ≤ k ∧ k ≤ 3 ∧ 1000000 < n) ∨ (k = 0 ∧ 0 < n ∧ n ≤ 1000000) ∨ (k = 0 ∧ n = 0) ∨ (0 < k ∧ k ≤ 3 ∧ 0 ≤ n ∧ n ≤ 1000000) := by omega
  rcases hw with rfl | rfl | ⟨w0, w1⟩ <;> rcases hc with h | h | ⟨h0, h1, h2⟩ | ⟨h0, h1, h2⟩ | ⟨rfl, h1, h2⟩ | ⟨rfl, rfl⟩ | ⟨h0, h1, h2, h3⟩
  · exact bounds_p0 k n h w hl
  · exact bounds_p1 k n h w hl
  · exact bounds_p2 k n h0 h1 h2 w hl
  · exact bounds_p3 k n h0 h1 h2 w hl
  · exact bounds_p4 n h1 h2 w hl
  · exact bounds_p5  w hl
  · exact bounds_p6 k n h0 h1 h2 h3 w hl
  · exact bounds_t0 k n h w hl
  · exact bounds_t1 k n h w hl
  · exact bounds_t2 k n h0 h1 h2 w hl
  · exact bounds_t3 k n h0 h1 h2 w hl
  · exact bounds_t4 n h1 h2 w hl
  · exact bounds_t5  w hl
  · exact bounds_t6 k n h0 h1 h2 h3 w hl
  · exact bounds_v0 which w0 w1 k n h w hl
  · exact bounds_v1 which w0 w1 k n h w hl
  · exact bounds_v2 which w0 w1 k n h0 h1 h2 w hl
  · exact bounds_v3 which w0 w1 k n h0 h1 h2 w hl
  · exact bounds_v4 which w0 w1 n h1 h2 w hl
  · exact bounds_v5 which w0 w1  w hl
  · exact bounds_v6 which w0 w1 k n h0 h1 h2 h3 w hl
end Go.Proofs.YthpleohkngfdfaaDoor
