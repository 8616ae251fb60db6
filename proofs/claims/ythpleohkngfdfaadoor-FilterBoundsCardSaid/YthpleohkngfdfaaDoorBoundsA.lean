/- Walks: FilterBounds: a filter with a single bound is valid exactly if the bound is. Conditions: Laid. -/
import Derived.Test.YthpleohkngfdfaaDoorAliveW
namespace Go.Proofs.YthpleohkngfdfaaDoor
set_option linter.all false
open Go.ChangeShapes Go.WideShapes Go.RowKit
theorem two_new_block {w w3 : World} {o o2 : Obj} (hb : Below ((w.alloc o).alloc o2).heap.size ((w.alloc o).alloc o2) w3) : w3.heap[w.heap.size + 1]? = some o2 := second_block hb
theorem is1_p (k n : Int) : fltIs ⟨0, 0, 0, 0, 0, 0, 0, ⟨#[]⟩, 0, 0, k, n, 0, 0, 0, 0⟩ = bnd k n := by
  have h1 : fltIs ⟨0, 0, 0, 0, 0, 0, 0, ⟨#[]⟩, 0, 0, 0, 0, 0, 0, 0, 0⟩ = true := by decide +kernel
  simp only [fltIs, Bool.and_eq_true] at h1
  obtain ⟨⟨g1, g2, g3, g4, g5⟩, g6, g7, g8, g9, g10, g11⟩ := h1
  simp only [fltIs, g1, g2, g3, g4, g5, g6, g7, g8, g9, g10, g11, Bool.true_and, Bool.and_true]
theorem is1_t (k n : Int) : fltIs ⟨0, 0, 0, 0, 0, 0, 0, ⟨#[]⟩, 0, 0, 0, 0, k, n, 0, 0⟩ = bnd k n := by
  have h1 : fltIs ⟨0, 0, 0, 0, 0, 0, 0, ⟨#[]⟩, 0, 0, 0, 0, 0, 0, 0, 0⟩ = true := by decide +kernel
  simp only [fltIs, Bool.and_eq_true] at h1
  obtain ⟨⟨g1, g2, g3, g4, g5⟩, g6, g7, g8, g9, g10, g11⟩ := h1
  simp only [fltIs, g1, g2, g3, g4, g5, g6, g7, g8, g9, g10, g11, Bool.true_and, Bool.and_true]
theorem is1_v (k n : Int) : fltIs ⟨0, 0, 0, 0, 0, 0, 0, ⟨#[]⟩, 0, 0, 0, 0, 0, 0, k, n⟩ = bnd k n := by
  have h1 : fltIs ⟨0, 0, 0, 0, 0, 0, 0, ⟨#[]⟩, 0, 0, 0, 0, 0, 0, 0, 0⟩ = true := by decide +kernel
  simp only [fltIs, Bool.and_eq_true] at h1
  obtain ⟨⟨g1, g2, g3, g4, g5⟩, g6, g7, g8, g9, g10, g11⟩ := h1
  simp only [fltIs, g1, g2, g3, g4, g5, g6, g7, g8, g9, g10, g11, Bool.true_and, Bool.and_true]
end Go.Proofs.YthpleohkngfdfaaDoor
