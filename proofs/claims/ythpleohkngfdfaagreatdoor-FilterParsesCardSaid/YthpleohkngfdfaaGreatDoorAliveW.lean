/- Walks: the statements' fixed calls. Conditions: Laid. -/
import Derived.Test.YthpleohkngfdfaaGreatDoorFil
namespace Go.Proofs.YthpleohkngfdfaaGreatDoor
set_option linter.all false
open Go.ChangeShapes Go.WideShapes Go.RowKit
theorem parseA (w : World) (hl : Laid w) :
    Calls Tryz.prog 11 #[.string ⟨#[121, 111, 117, 114, 115, 32, 111, 116, 104, 101, 114, 32, 99, 114, 101, 97, 116, 117, 114, 101, 32, 119, 105, 116, 104, 58, 102, 108, 121, 105, 110, 103, 32, 112, 111, 119, 101, 114, 62, 61, 51]⟩] w fun e w' => e = .returned (.tuple #[.agg #[.int .i64 0, .int .i64 1, .int .i64 2, .int .i64 1, .int .i64 0, .int .i64 0, .int .i64 0, .string ⟨#[]⟩, .int .i64 1, .int .i64 0, .int .i64 1, .int .i64 3, .int .i64 0, .int .i64 0, .int .i64 0, .int .i64 0], .int .i64 0]) ∧ Below w.heap.size w w' :=
  (fltParse_any ⟨#[121, 111, 117, 114, 115, 32, 111, 116, 104, 101, 114, 32, 99, 114, 101, 97, 116, 117, 114, 101, 32, 119, 105, 116, 104, 58, 102, 108, 121, 105, 110, 103, 32, 112, 111, 119, 101, 114, 62, 61, 51]⟩ w hl (by decide +kernel)).mono fun e w' ⟨he, hb⟩ => ⟨by rw [he]; exact ret_val (congrArg fltRet a8), hb⟩
theorem parseB (w : World) (hl : Laid w) :
    Calls Tryz.prog 11 #[.string ⟨#[97, 110, 121]⟩] w fun e w' => e = .returned (.tuple #[.agg #[.int .i64 0, .int .i64 0, .int .i64 0, .int .i64 0, .int .i64 0, .int .i64 0, .int .i64 0, .string ⟨#[]⟩, .int .i64 0, .int .i64 0, .int .i64 0, .int .i64 0, .int .i64 0, .int .i64 0, .int .i64 0, .int .i64 0], .int .i64 0]) ∧ Below w.heap.size w w' :=
  (fltParse_any ⟨#[97, 110, 121]⟩ w hl (by decide +kernel)).mono fun e w' ⟨he, hb⟩ => ⟨by rw [he]; exact ret_val (congrArg fltRet a9), hb⟩
theorem parseC (w : World) (hl : Laid w) :
    Calls Tryz.prog 11 #[.string ⟨#[99, 114, 101, 97, 116, 117, 114, 101, 32, 121, 111, 117, 114, 115]⟩] w fun e w' => e = .returned (.tuple #[.agg #[.int .i64 0, .int .i64 0, .int .i64 0, .int .i64 0, .int .i64 0, .int .i64 0, .int .i64 0, .string ⟨#[]⟩, .int .i64 0, .int .i64 0, .int .i64 0, .int .i64 0, .int .i64 0, .int .i64 0, .int .i64 0, .int .i64 0], .int .i64 3]) ∧ Below w.heap.size w w' :=
  (fltParse_any ⟨#[99, 114, 101, 97, 116, 117, 114, 101, 32, 121, 111, 117, 114, 115]⟩ w hl (by decide +kernel)).mono fun e w' ⟨he, hb⟩ => ⟨by rw [he]; exact ret_val (congrArg fltRet a10), hb⟩
theorem textA (w : World) (hl : Laid w) :
    Calls Tryz.prog 9 #[.agg #[.int .i64 0, .int .i64 1, .int .i64 2, .int .i64 1, .int .i64 0, .int .i64 0, .int .i64 0, .string ⟨#[]⟩, .int .i64 1, .int .i64 0, .int .i64 1, .int .i64 3, .int .i64 0, .int .i64 0, .int .i64 0, .int .i64 0]] w fun e w' => e = .returned (.string ⟨#[121, 111, 117, 114, 115, 32, 111, 116, 104, 101, 114, 32, 99, 114, 101, 97, 116, 117, 114, 101, 32, 119, 105, 116, 104, 58, 102, 108, 121, 105, 110, 103, 32, 112, 111, 119, 101, 114, 62, 61, 51]⟩) ∧ Below w.heap.size w w' :=
  (fltText_v aliveF w hl).mono fun e w' ⟨he, hb⟩ => ⟨by rw [he, a7]; rfl, hb⟩
theorem isA (w : World) (hl : Laid w) :
    Calls Tryz.prog 7 #[.agg #[.int .i64 0, .int .i64 0, .int .i64 0, .int .i64 0, .int .i64 0, .int .i64 0, .int .i64 0, .string ⟨#[]⟩, .int .i64 0, .int .i64 3, .int .i64 0, .int .i64 0, .int .i64 0, .int .i64 0, .int .i64 0, .int .i64 0]] w fun e w' => e = .returned (.bool false) ∧ Below w.heap.size w w' :=
  fltIs_any 0 0 0 0 0 0 0 ⟨#[]⟩ 0 3 0 0 0 0 0 0 w hl false (Lib.hid (by kernel_rfl))
theorem below_stepA {B : Nat} {w a c : World} {o : Obj} (h : Below B w a) (k : Below (a.alloc o).heap.size (a.alloc o) c) (hB : B ≤ a.heap.size) : Below B w c :=
  (h.alloc hB o).trans (k.mono (by simp; omega))
theorem row_cells {w : World} {g t : Nat} {cs : Array Value} {fr : Nat × Nat} (h : w.heap[g]? = some (.cells cs t fr)) (j : Nat) : w.cell? ⟨g, j, none⟩ = cs[j]? := cell_of_row w g j cs t fr h
theorem Laid.alloc {w : World} (h : Laid w) (o : Obj) : Laid (w.alloc o) := h.below ((Below.refl _ _).alloc (Nat.le_refl _) _)
theorem blk_new {w w2 : World} {o : Obj} (hb : Below (w.alloc o).heap.size (w.alloc o) w2) : w2.heap[w.heap.size]? = some o := (hb.block _ (by simp)).trans (heap_alloc_new w o)
theorem blk_old {w w2 : World} {o : Obj} {k : Nat} {p : Obj} (hb : Below (w.alloc o).heap.size (w.alloc o) w2) (h : w.heap[k]? = some p) : w2.heap[k]? = some p := by
  have hk : k < w.heap.size := (Array.getElem?_eq_some_iff.1 h).1
  exact (hb.block _ (by simp; omega)).trans ((Below.heap_alloc w o k hk).trans h)
theorem blk_lt {w : World} {k : Nat} {p : Obj} (h : w.heap[k]? = some p) : k < w.heap.size := (Array.getElem?_eq_some_iff.1 h).1
set_option maxRecDepth 100000 in
set_option maxHeartbeats 1000000 in
theorem alive_any (w : World) (hl : Laid w) :
    Calls Tryz.prog 6 #[] w fun e w' => e = .returned (.bool true) ∧ Below w.heap.size w w' := by
  go_enter Tryz.func6, Tryz.ntmps6
  go_wp2_with (first | (go_at_call 11; (with_reducible refine (parseA _ hl).mono ?_); rintro e w1 ⟨rfl, hb1⟩; have hl1 := hl.below hb1) | (go_at_call 11; (with_reducible refine (parseB _ (hl1.alloc _)).mono ?_); rintro e w2 ⟨rfl, hb2⟩; have hl2 := (hl1.alloc _).below hb2; have r1 := Lib.hid (blk_new hb2)) | (go_at_call 11; (with_reducible refine (parseC _ (hl2.alloc _)).mono ?_); rintro e w3 ⟨rfl, hb3⟩; have hl3 := (hl2.alloc _).below hb3; have s1 := Lib.hid (blk_old hb3 r1.out); have s2 := Lib.hid (blk_new hb3); have n1 := blk_lt s1.out; have n2 := blk_lt s2.out; have q1 := row_cells s1.out; have q2 := row_cells s2.out) | (go_at_call 9; (with_reducible refine (textA _ (hl3.alloc _)).mono ?_); rintro e w4 ⟨rfl, hb4⟩; have hl4 := (hl3.alloc _).below hb4; have u1 := row_cells (blk_old hb4 s1.out); have u2 := row_cells (blk_old hb4 s2.out)) | (go_at_call 7; (with_reducible refine (isA _ hl4).mono ?_); rintro e w5 ⟨rfl, hb5⟩))
  go_ret
  have k2 := below_stepA hb1 hb2 hb1.size
  have k3 := below_stepA k2 hb3 k2.size
  have k4 := below_stepA k3 hb4 k3.size
  exact ⟨rfl, k4.trans (hb5.mono k4.size)⟩
end Go.Proofs.YthpleohkngfdfaaGreatDoor
