/- Walks of the reference: package cardgameref16: numbered, Is. Conditions: none. -/
import Derived.Test.YtbiakbogpbncfaaGreatDoorSIs
import Derived.Test.YtbiakbogpbncfaaGreatDoorRFIs
namespace Go.Proofs.YtbiakbogpbncfaaGreatDoor
set_option linter.all false
open Go.ChangeShapes Go.WideShapes Go.RowKit
theorem flt_litR (f : Flt) (w : World) (b : Bool) (h : Hid (fltIs f = b)) : Calls Tryz.prog 17 #[.agg #[.int .i64 f.zone, .int .i64 f.who, .int .i64 f.self, .int .i64 f.types, .int .i64 f.ntypes, .int .i64 f.colors, .int .i64 f.ncolors, .string f.sub, .int .i64 f.keys, .int .i64 f.tap, .int .i64 f.pk, .int .i64 f.pn, .int .i64 f.tk, .int .i64 f.tn, .int .i64 f.vk, .int .i64 f.vn]] w fun e w' => e = .returned (.bool b) ∧ Below w.heap.size w w' := rIs_any f.zone f.who f.self f.types f.ntypes f.colors f.ncolors f.sub f.keys f.tap f.pk f.pn f.tk f.tn f.vk f.vn w b h
theorem rNumK_any (k : Int) (w : World) : Calls Tryz.prog 16 #[.int .i64 k] w fun e w' => e = .returned (.bool (kNum k)) ∧ w = w' := by
  have hk : kNum k = (k == 3 || k == 8) := rfl
  have HK := Lib.hid hk
  generalize kNum k = R at *
  clear hk
  cases h3 : (k == 3) <;> cases h8 : (k == 8)
  all_goals
    go_enter Tryz.func16, Tryz.ntmps16
    go_wp2
    go_ret
    exact ⟨ret_bool (by rw [HK.out, h3, h8]; rfl), rfl⟩
set_option maxRecDepth 100000 in
set_option maxHeartbeats 1000000 in
theorem rrIs_k1 (n specs : Int) (f : Flt) (w : World) :
    Calls Tryz.prog 10 #[.agg (Rf.cells ⟨1, n, f⟩), .int .i64 specs] w fun e w' => e = .returned (.bool (n == 0 && fltEq f zeroF)) ∧ Below w.heap.size w w' := by
  obtain ⟨z, hz⟩ : ∃ z, fltEq f zeroF = z := ⟨_, rfl⟩
  have heq : ∀ wx : World, (binOp .eql TF (.agg #[.int .i64 f.zone, .int .i64 f.who, .int .i64 f.self, .int .i64 f.types, .int .i64 f.ntypes, .int .i64 f.colors, .int .i64 f.ncolors, .string f.sub, .int .i64 f.keys, .int .i64 f.tap, .int .i64 f.pk, .int .i64 f.pn, .int .i64 f.tk, .int .i64 f.tn, .int .i64 f.vk, .int .i64 f.vn]) (.agg #[.int .i64 0, .int .i64 0, .int .i64 0, .int .i64 0, .int .i64 0, .int .i64 0, .int .i64 0, .string ⟨#[]⟩, .int .i64 0, .int .i64 0, .int .i64 0, .int .i64 0, .int .i64 0, .int .i64 0, .int .i64 0, .int .i64 0])).run Tryz.prog wx = .ok (.bool z) wx := fun wx => (eq_lit f wx).trans (by rw [hz])
  obtain ⟨v, hv⟩ : ∃ v, fltIs f = v := ⟨_, rfl⟩
  try rw [hz]
  try rw [hv]
  have HV := Lib.hid hv
  clear hz hv
  have q0 : (w.alloc (.cells (Rf.cells ⟨1, n, f⟩) TRf)).cell? ⟨w.heap.size, 0, none⟩ = some (.int .i64 1) := cell_of_row _ _ 0 _ _ (0, 0) (heap_alloc_new w _)
  have q1 : (w.alloc (.cells (Rf.cells ⟨1, n, f⟩) TRf)).cell? ⟨w.heap.size, 1, none⟩ = some (.int .i64 n) := cell_of_row _ _ 1 _ _ (0, 0) (heap_alloc_new w _)
  have q2 : (w.alloc (.cells (Rf.cells ⟨1, n, f⟩) TRf)).cell? ⟨w.heap.size, 2, none⟩ = some (.int .i64 f.zone) := cell_of_row _ _ 2 _ _ (0, 0) (heap_alloc_new w _)
  have q3 : (w.alloc (.cells (Rf.cells ⟨1, n, f⟩) TRf)).cell? ⟨w.heap.size, 3, none⟩ = some (.int .i64 f.who) := cell_of_row _ _ 3 _ _ (0, 0) (heap_alloc_new w _)
  have q4 : (w.alloc (.cells (Rf.cells ⟨1, n, f⟩) TRf)).cell? ⟨w.heap.size, 4, none⟩ = some (.int .i64 f.self) := cell_of_row _ _ 4 _ _ (0, 0) (heap_alloc_new w _)
  have q5 : (w.alloc (.cells (Rf.cells ⟨1, n, f⟩) TRf)).cell? ⟨w.heap.size, 5, none⟩ = some (.int .i64 f.types) := cell_of_row _ _ 5 _ _ (0, 0) (heap_alloc_new w _)
  have q6 : (w.alloc (.cells (Rf.cells ⟨1, n, f⟩) TRf)).cell? ⟨w.heap.size, 6, none⟩ = some (.int .i64 f.ntypes) := cell_of_row _ _ 6 _ _ (0, 0) (heap_alloc_new w _)
  have q7 : (w.alloc (.cells (Rf.cells ⟨1, n, f⟩) TRf)).cell? ⟨w.heap.size, 7, none⟩ = some (.int .i64 f.colors) := cell_of_row _ _ 7 _ _ (0, 0) (heap_alloc_new w _)
  have q8 : (w.alloc (.cells (Rf.cells ⟨1, n, f⟩) TRf)).cell? ⟨w.heap.size, 8, none⟩ = some (.int .i64 f.ncolors) := cell_of_row _ _ 8 _ _ (0, 0) (heap_alloc_new w _)
  have q9 : (w.alloc (.cells (Rf.cells ⟨1, n, f⟩) TRf)).cell? ⟨w.heap.size, 9, none⟩ = some (.string f.sub) := cell_of_row _ _ 9 _ _ (0, 0) (heap_alloc_new w _)
  have q10 : (w.alloc (.cells (Rf.cells ⟨1, n, f⟩) TRf)).cell? ⟨w.heap.size, 10, none⟩ = some (.int .i64 f.keys) := cell_of_row _ _ 10 _ _ (0, 0) (heap_alloc_new w _)
  have q11 : (w.alloc (.cells (Rf.cells ⟨1, n, f⟩) TRf)).cell? ⟨w.heap.size, 11, none⟩ = some (.int .i64 f.tap) := cell_of_row _ _ 11 _ _ (0, 0) (heap_alloc_new w _)
  have q12 : (w.alloc (.cells (Rf.cells ⟨1, n, f⟩) TRf)).cell? ⟨w.heap.size, 12, none⟩ = some (.int .i64 f.pk) := cell_of_row _ _ 12 _ _ (0, 0) (heap_alloc_new w _)
  have q13 : (w.alloc (.cells (Rf.cells ⟨1, n, f⟩) TRf)).cell? ⟨w.heap.size, 13, none⟩ = some (.int .i64 f.pn) := cell_of_row _ _ 13 _ _ (0, 0) (heap_alloc_new w _)
  have q14 : (w.alloc (.cells (Rf.cells ⟨1, n, f⟩) TRf)).cell? ⟨w.heap.size, 14, none⟩ = some (.int .i64 f.tk) := cell_of_row _ _ 14 _ _ (0, 0) (heap_alloc_new w _)
  have q15 : (w.alloc (.cells (Rf.cells ⟨1, n, f⟩) TRf)).cell? ⟨w.heap.size, 15, none⟩ = some (.int .i64 f.tn) := cell_of_row _ _ 15 _ _ (0, 0) (heap_alloc_new w _)
  have q16 : (w.alloc (.cells (Rf.cells ⟨1, n, f⟩) TRf)).cell? ⟨w.heap.size, 16, none⟩ = some (.int .i64 f.vk) := cell_of_row _ _ 16 _ _ (0, 0) (heap_alloc_new w _)
  have q17 : (w.alloc (.cells (Rf.cells ⟨1, n, f⟩) TRf)).cell? ⟨w.heap.size, 17, none⟩ = some (.int .i64 f.vn) := cell_of_row _ _ 17 _ _ (0, 0) (heap_alloc_new w _)
  have hb : Hid (Below w.heap.size w (w.alloc (.cells (Rf.cells ⟨1, n, f⟩) TRf))) := Lib.hid ((Below.refl _ _).alloc (Nat.le_refl _) _)
  go_enter Tryz.func10, Tryz.ntmps10
  go_wp2_with (go_at_call 16; (with_reducible refine (rNumK_any _ _).mono ?_); rintro e w0 ⟨rfl, rfl⟩)
  all_goals
    go_ret
    refine ⟨ret_bool ?_, ?_⟩
    · clear q0 q1 q2 q3 q4 q5 q6 q7 q8 q9 q10 q11 q12 q13 q14 q15 q16 q17
      try clear heq
      first | rfl | (rw [decide_eq_true (by omega : 1 ≤ n), decide_eq_true (by omega : n ≤ specs), decide_eq_true (by omega : n ≤ 4)]; rfl) | (rw [decide_eq_false (by omega : ¬ 1 ≤ n)]; rfl) | (by_cases a : n ≤ specs; (rw [decide_eq_false (by omega : ¬ n ≤ 4)]; simp); (rw [decide_eq_false a]; simp)) | (simp_all; done)
    · first | exact hb.out | exact below_two hb.out (by assumption)
set_option maxRecDepth 100000 in
set_option maxHeartbeats 1000000 in
theorem rrIs_k2 (n specs : Int) (f : Flt) (w : World) :
    Calls Tryz.prog 10 #[.agg (Rf.cells ⟨2, n, f⟩), .int .i64 specs] w fun e w' => e = .returned (.bool (n == 0 && fltEq f zeroF)) ∧ Below w.heap.size w w' := by
  obtain ⟨z, hz⟩ : ∃ z, fltEq f zeroF = z := ⟨_, rfl⟩
  have heq : ∀ wx : World, (binOp .eql TF (.agg #[.int .i64 f.zone, .int .i64 f.who, .int .i64 f.self, .int .i64 f.types, .int .i64 f.ntypes, .int .i64 f.colors, .int .i64 f.ncolors, .string f.sub, .int .i64 f.keys, .int .i64 f.tap, .int .i64 f.pk, .int .i64 f.pn, .int .i64 f.tk, .int .i64 f.tn, .int .i64 f.vk, .int .i64 f.vn]) (.agg #[.int .i64 0, .int .i64 0, .int .i64 0, .int .i64 0, .int .i64 0, .int .i64 0, .int .i64 0, .string ⟨#[]⟩, .int .i64 0, .int .i64 0, .int .i64 0, .int .i64 0, .int .i64 0, .int .i64 0, .int .i64 0, .int .i64 0])).run Tryz.prog wx = .ok (.bool z) wx := fun wx => (eq_lit f wx).trans (by rw [hz])
  obtain ⟨v, hv⟩ : ∃ v, fltIs f = v := ⟨_, rfl⟩
  try rw [hz]
  try rw [hv]
  have HV := Lib.hid hv
  clear hz hv
  have q0 : (w.alloc (.cells (Rf.cells ⟨2, n, f⟩) TRf)).cell? ⟨w.heap.size, 0, none⟩ = some (.int .i64 2) := cell_of_row _ _ 0 _ _ (0, 0) (heap_alloc_new w _)
  have q1 : (w.alloc (.cells (Rf.cells ⟨2, n, f⟩) TRf)).cell? ⟨w.heap.size, 1, none⟩ = some (.int .i64 n) := cell_of_row _ _ 1 _ _ (0, 0) (heap_alloc_new w _)
  have q2 : (w.alloc (.cells (Rf.cells ⟨2, n, f⟩) TRf)).cell? ⟨w.heap.size, 2, none⟩ = some (.int .i64 f.zone) := cell_of_row _ _ 2 _ _ (0, 0) (heap_alloc_new w _)
  have q3 : (w.alloc (.cells (Rf.cells ⟨2, n, f⟩) TRf)).cell? ⟨w.heap.size, 3, none⟩ = some (.int .i64 f.who) := cell_of_row _ _ 3 _ _ (0, 0) (heap_alloc_new w _)
  have q4 : (w.alloc (.cells (Rf.cells ⟨2, n, f⟩) TRf)).cell? ⟨w.heap.size, 4, none⟩ = some (.int .i64 f.self) := cell_of_row _ _ 4 _ _ (0, 0) (heap_alloc_new w _)
  have q5 : (w.alloc (.cells (Rf.cells ⟨2, n, f⟩) TRf)).cell? ⟨w.heap.size, 5, none⟩ = some (.int .i64 f.types) := cell_of_row _ _ 5 _ _ (0, 0) (heap_alloc_new w _)
  have q6 : (w.alloc (.cells (Rf.cells ⟨2, n, f⟩) TRf)).cell? ⟨w.heap.size, 6, none⟩ = some (.int .i64 f.ntypes) := cell_of_row _ _ 6 _ _ (0, 0) (heap_alloc_new w _)
  have q7 : (w.alloc (.cells (Rf.cells ⟨2, n, f⟩) TRf)).cell? ⟨w.heap.size, 7, none⟩ = some (.int .i64 f.colors) := cell_of_row _ _ 7 _ _ (0, 0) (heap_alloc_new w _)
  have q8 : (w.alloc (.cells (Rf.cells ⟨2, n, f⟩) TRf)).cell? ⟨w.heap.size, 8, none⟩ = some (.int .i64 f.ncolors) := cell_of_row _ _ 8 _ _ (0, 0) (heap_alloc_new w _)
  have q9 : (w.alloc (.cells (Rf.cells ⟨2, n, f⟩) TRf)).cell? ⟨w.heap.size, 9, none⟩ = some (.string f.sub) := cell_of_row _ _ 9 _ _ (0, 0) (heap_alloc_new w _)
  have q10 : (w.alloc (.cells (Rf.cells ⟨2, n, f⟩) TRf)).cell? ⟨w.heap.size, 10, none⟩ = some (.int .i64 f.keys) := cell_of_row _ _ 10 _ _ (0, 0) (heap_alloc_new w _)
  have q11 : (w.alloc (.cells (Rf.cells ⟨2, n, f⟩) TRf)).cell? ⟨w.heap.size, 11, none⟩ = some (.int .i64 f.tap) := cell_of_row _ _ 11 _ _ (0, 0) (heap_alloc_new w _)
  have q12 : (w.alloc (.cells (Rf.cells ⟨2, n, f⟩) TRf)).cell? ⟨w.heap.size, 12, none⟩ = some (.int .i64 f.pk) := cell_of_row _ _ 12 _ _ (0, 0) (heap_alloc_new w _)
  have q13 : (w.alloc (.cells (Rf.cells ⟨2, n, f⟩) TRf)).cell? ⟨w.heap.size, 13, none⟩ = some (.int .i64 f.pn) := cell_of_row _ _ 13 _ _ (0, 0) (heap_alloc_new w _)
  have q14 : (w.alloc (.cells (Rf.cells ⟨2, n, f⟩) TRf)).cell? ⟨w.heap.size, 14, none⟩ = some (.int .i64 f.tk) := cell_of_row _ _ 14 _ _ (0, 0) (heap_alloc_new w _)
  have q15 : (w.alloc (.cells (Rf.cells ⟨2, n, f⟩) TRf)).cell? ⟨w.heap.size, 15, none⟩ = some (.int .i64 f.tn) := cell_of_row _ _ 15 _ _ (0, 0) (heap_alloc_new w _)
  have q16 : (w.alloc (.cells (Rf.cells ⟨2, n, f⟩) TRf)).cell? ⟨w.heap.size, 16, none⟩ = some (.int .i64 f.vk) := cell_of_row _ _ 16 _ _ (0, 0) (heap_alloc_new w _)
  have q17 : (w.alloc (.cells (Rf.cells ⟨2, n, f⟩) TRf)).cell? ⟨w.heap.size, 17, none⟩ = some (.int .i64 f.vn) := cell_of_row _ _ 17 _ _ (0, 0) (heap_alloc_new w _)
  have hb : Hid (Below w.heap.size w (w.alloc (.cells (Rf.cells ⟨2, n, f⟩) TRf))) := Lib.hid ((Below.refl _ _).alloc (Nat.le_refl _) _)
  go_enter Tryz.func10, Tryz.ntmps10
  go_wp2_with (go_at_call 16; (with_reducible refine (rNumK_any _ _).mono ?_); rintro e w0 ⟨rfl, rfl⟩)
  all_goals
    go_ret
    refine ⟨ret_bool ?_, ?_⟩
    · clear q0 q1 q2 q3 q4 q5 q6 q7 q8 q9 q10 q11 q12 q13 q14 q15 q16 q17
      try clear heq
      first | rfl | (rw [decide_eq_true (by omega : 1 ≤ n), decide_eq_true (by omega : n ≤ specs), decide_eq_true (by omega : n ≤ 4)]; rfl) | (rw [decide_eq_false (by omega : ¬ 1 ≤ n)]; rfl) | (by_cases a : n ≤ specs; (rw [decide_eq_false (by omega : ¬ n ≤ 4)]; simp); (rw [decide_eq_false a]; simp)) | (simp_all; done)
    · first | exact hb.out | exact below_two hb.out (by assumption)
set_option maxRecDepth 100000 in
set_option maxHeartbeats 1000000 in
theorem rrIs_k5 (n specs : Int) (f : Flt) (w : World) :
    Calls Tryz.prog 10 #[.agg (Rf.cells ⟨5, n, f⟩), .int .i64 specs] w fun e w' => e = .returned (.bool (n == 0 && fltEq f zeroF)) ∧ Below w.heap.size w w' := by
  obtain ⟨z, hz⟩ : ∃ z, fltEq f zeroF = z := ⟨_, rfl⟩
  have heq : ∀ wx : World, (binOp .eql TF (.agg #[.int .i64 f.zone, .int .i64 f.who, .int .i64 f.self, .int .i64 f.types, .int .i64 f.ntypes, .int .i64 f.colors, .int .i64 f.ncolors, .string f.sub, .int .i64 f.keys, .int .i64 f.tap, .int .i64 f.pk, .int .i64 f.pn, .int .i64 f.tk, .int .i64 f.tn, .int .i64 f.vk, .int .i64 f.vn]) (.agg #[.int .i64 0, .int .i64 0, .int .i64 0, .int .i64 0, .int .i64 0, .int .i64 0, .int .i64 0, .string ⟨#[]⟩, .int .i64 0, .int .i64 0, .int .i64 0, .int .i64 0, .int .i64 0, .int .i64 0, .int .i64 0, .int .i64 0])).run Tryz.prog wx = .ok (.bool z) wx := fun wx => (eq_lit f wx).trans (by rw [hz])
  obtain ⟨v, hv⟩ : ∃ v, fltIs f = v := ⟨_, rfl⟩
  try rw [hz]
  try rw [hv]
  have HV := Lib.hid hv
  clear hz hv
  have q0 : (w.alloc (.cells (Rf.cells ⟨5, n, f⟩) TRf)).cell? ⟨w.heap.size, 0, none⟩ = some (.int .i64 5) := cell_of_row _ _ 0 _ _ (0, 0) (heap_alloc_new w _)
  have q1 : (w.alloc (.cells (Rf.cells ⟨5, n, f⟩) TRf)).cell? ⟨w.heap.size, 1, none⟩ = some (.int .i64 n) := cell_of_row _ _ 1 _ _ (0, 0) (heap_alloc_new w _)
  have q2 : (w.alloc (.cells (Rf.cells ⟨5, n, f⟩) TRf)).cell? ⟨w.heap.size, 2, none⟩ = some (.int .i64 f.zone) := cell_of_row _ _ 2 _ _ (0, 0) (heap_alloc_new w _)
  have q3 : (w.alloc (.cells (Rf.cells ⟨5, n, f⟩) TRf)).cell? ⟨w.heap.size, 3, none⟩ = some (.int .i64 f.who) := cell_of_row _ _ 3 _ _ (0, 0) (heap_alloc_new w _)
  have q4 : (w.alloc (.cells (Rf.cells ⟨5, n, f⟩) TRf)).cell? ⟨w.heap.size, 4, none⟩ = some (.int .i64 f.self) := cell_of_row _ _ 4 _ _ (0, 0) (heap_alloc_new w _)
  have q5 : (w.alloc (.cells (Rf.cells ⟨5, n, f⟩) TRf)).cell? ⟨w.heap.size, 5, none⟩ = some (.int .i64 f.types) := cell_of_row _ _ 5 _ _ (0, 0) (heap_alloc_new w _)
  have q6 : (w.alloc (.cells (Rf.cells ⟨5, n, f⟩) TRf)).cell? ⟨w.heap.size, 6, none⟩ = some (.int .i64 f.ntypes) := cell_of_row _ _ 6 _ _ (0, 0) (heap_alloc_new w _)
  have q7 : (w.alloc (.cells (Rf.cells ⟨5, n, f⟩) TRf)).cell? ⟨w.heap.size, 7, none⟩ = some (.int .i64 f.colors) := cell_of_row _ _ 7 _ _ (0, 0) (heap_alloc_new w _)
  have q8 : (w.alloc (.cells (Rf.cells ⟨5, n, f⟩) TRf)).cell? ⟨w.heap.size, 8, none⟩ = some (.int .i64 f.ncolors) := cell_of_row _ _ 8 _ _ (0, 0) (heap_alloc_new w _)
  have q9 : (w.alloc (.cells (Rf.cells ⟨5, n, f⟩) TRf)).cell? ⟨w.heap.size, 9, none⟩ = some (.string f.sub) := cell_of_row _ _ 9 _ _ (0, 0) (heap_alloc_new w _)
  have q10 : (w.alloc (.cells (Rf.cells ⟨5, n, f⟩) TRf)).cell? ⟨w.heap.size, 10, none⟩ = some (.int .i64 f.keys) := cell_of_row _ _ 10 _ _ (0, 0) (heap_alloc_new w _)
  have q11 : (w.alloc (.cells (Rf.cells ⟨5, n, f⟩) TRf)).cell? ⟨w.heap.size, 11, none⟩ = some (.int .i64 f.tap) := cell_of_row _ _ 11 _ _ (0, 0) (heap_alloc_new w _)
  have q12 : (w.alloc (.cells (Rf.cells ⟨5, n, f⟩) TRf)).cell? ⟨w.heap.size, 12, none⟩ = some (.int .i64 f.pk) := cell_of_row _ _ 12 _ _ (0, 0) (heap_alloc_new w _)
  have q13 : (w.alloc (.cells (Rf.cells ⟨5, n, f⟩) TRf)).cell? ⟨w.heap.size, 13, none⟩ = some (.int .i64 f.pn) := cell_of_row _ _ 13 _ _ (0, 0) (heap_alloc_new w _)
  have q14 : (w.alloc (.cells (Rf.cells ⟨5, n, f⟩) TRf)).cell? ⟨w.heap.size, 14, none⟩ = some (.int .i64 f.tk) := cell_of_row _ _ 14 _ _ (0, 0) (heap_alloc_new w _)
  have q15 : (w.alloc (.cells (Rf.cells ⟨5, n, f⟩) TRf)).cell? ⟨w.heap.size, 15, none⟩ = some (.int .i64 f.tn) := cell_of_row _ _ 15 _ _ (0, 0) (heap_alloc_new w _)
  have q16 : (w.alloc (.cells (Rf.cells ⟨5, n, f⟩) TRf)).cell? ⟨w.heap.size, 16, none⟩ = some (.int .i64 f.vk) := cell_of_row _ _ 16 _ _ (0, 0) (heap_alloc_new w _)
  have q17 : (w.alloc (.cells (Rf.cells ⟨5, n, f⟩) TRf)).cell? ⟨w.heap.size, 17, none⟩ = some (.int .i64 f.vn) := cell_of_row _ _ 17 _ _ (0, 0) (heap_alloc_new w _)
  have hb : Hid (Below w.heap.size w (w.alloc (.cells (Rf.cells ⟨5, n, f⟩) TRf))) := Lib.hid ((Below.refl _ _).alloc (Nat.le_refl _) _)
  go_enter Tryz.func10, Tryz.ntmps10
  go_wp2_with (go_at_call 16; (with_reducible refine (rNumK_any _ _).mono ?_); rintro e w0 ⟨rfl, rfl⟩)
  all_goals
    go_ret
    refine ⟨ret_bool ?_, ?_⟩
    · clear q0 q1 q2 q3 q4 q5 q6 q7 q8 q9 q10 q11 q12 q13 q14 q15 q16 q17
      try clear heq
      first | rfl | (rw [decide_eq_true (by omega : 1 ≤ n), decide_eq_true (by omega : n ≤ specs), decide_eq_true (by omega : n ≤ 4)]; rfl) | (rw [decide_eq_false (by omega : ¬ 1 ≤ n)]; rfl) | (by_cases a : n ≤ specs; (rw [decide_eq_false (by omega : ¬ n ≤ 4)]; simp); (rw [decide_eq_false a]; simp)) | (simp_all; done)
    · first | exact hb.out | exact below_two hb.out (by assumption)
set_option maxRecDepth 100000 in
set_option maxHeartbeats 1000000 in
theorem rrIs_k6 (n specs : Int) (f : Flt) (w : World) :
    Calls Tryz.prog 10 #[.agg (Rf.cells ⟨6, n, f⟩), .int .i64 specs] w fun e w' => e = .returned (.bool (n == 0 && fltEq f zeroF)) ∧ Below w.heap.size w w' := by
  obtain ⟨z, hz⟩ : ∃ z, fltEq f zeroF = z := ⟨_, rfl⟩
  have heq : ∀ wx : World, (binOp .eql TF (.agg #[.int .i64 f.zone, .int .i64 f.who, .int .i64 f.self, .int .i64 f.types, .int .i64 f.ntypes, .int .i64 f.colors, .int .i64 f.ncolors, .string f.sub, .int .i64 f.keys, .int .i64 f.tap, .int .i64 f.pk, .int .i64 f.pn, .int .i64 f.tk, .int .i64 f.tn, .int .i64 f.vk, .int .i64 f.vn]) (.agg #[.int .i64 0, .int .i64 0, .int .i64 0, .int .i64 0, .int .i64 0, .int .i64 0, .int .i64 0, .string ⟨#[]⟩, .int .i64 0, .int .i64 0, .int .i64 0, .int .i64 0, .int .i64 0, .int .i64 0, .int .i64 0, .int .i64 0])).run Tryz.prog wx = .ok (.bool z) wx := fun wx => (eq_lit f wx).trans (by rw [hz])
  obtain ⟨v, hv⟩ : ∃ v, fltIs f = v := ⟨_, rfl⟩
  try rw [hz]
  try rw [hv]
  have HV := Lib.hid hv
  clear hz hv
  have q0 : (w.alloc (.cells (Rf.cells ⟨6, n, f⟩) TRf)).cell? ⟨w.heap.size, 0, none⟩ = some (.int .i64 6) := cell_of_row _ _ 0 _ _ (0, 0) (heap_alloc_new w _)
  have q1 : (w.alloc (.cells (Rf.cells ⟨6, n, f⟩) TRf)).cell? ⟨w.heap.size, 1, none⟩ = some (.int .i64 n) := cell_of_row _ _ 1 _ _ (0, 0) (heap_alloc_new w _)
  have q2 : (w.alloc (.cells (Rf.cells ⟨6, n, f⟩) TRf)).cell? ⟨w.heap.size, 2, none⟩ = some (.int .i64 f.zone) := cell_of_row _ _ 2 _ _ (0, 0) (heap_alloc_new w _)
  have q3 : (w.alloc (.cells (Rf.cells ⟨6, n, f⟩) TRf)).cell? ⟨w.heap.size, 3, none⟩ = some (.int .i64 f.who) := cell_of_row _ _ 3 _ _ (0, 0) (heap_alloc_new w _)
  have q4 : (w.alloc (.cells (Rf.cells ⟨6, n, f⟩) TRf)).cell? ⟨w.heap.size, 4, none⟩ = some (.int .i64 f.self) := cell_of_row _ _ 4 _ _ (0, 0) (heap_alloc_new w _)
  have q5 : (w.alloc (.cells (Rf.cells ⟨6, n, f⟩) TRf)).cell? ⟨w.heap.size, 5, none⟩ = some (.int .i64 f.types) := cell_of_row _ _ 5 _ _ (0, 0) (heap_alloc_new w _)
  have q6 : (w.alloc (.cells (Rf.cells ⟨6, n, f⟩) TRf)).cell? ⟨w.heap.size, 6, none⟩ = some (.int .i64 f.ntypes) := cell_of_row _ _ 6 _ _ (0, 0) (heap_alloc_new w _)
  have q7 : (w.alloc (.cells (Rf.cells ⟨6, n, f⟩) TRf)).cell? ⟨w.heap.size, 7, none⟩ = some (.int .i64 f.colors) := cell_of_row _ _ 7 _ _ (0, 0) (heap_alloc_new w _)
  have q8 : (w.alloc (.cells (Rf.cells ⟨6, n, f⟩) TRf)).cell? ⟨w.heap.size, 8, none⟩ = some (.int .i64 f.ncolors) := cell_of_row _ _ 8 _ _ (0, 0) (heap_alloc_new w _)
  have q9 : (w.alloc (.cells (Rf.cells ⟨6, n, f⟩) TRf)).cell? ⟨w.heap.size, 9, none⟩ = some (.string f.sub) := cell_of_row _ _ 9 _ _ (0, 0) (heap_alloc_new w _)
  have q10 : (w.alloc (.cells (Rf.cells ⟨6, n, f⟩) TRf)).cell? ⟨w.heap.size, 10, none⟩ = some (.int .i64 f.keys) := cell_of_row _ _ 10 _ _ (0, 0) (heap_alloc_new w _)
  have q11 : (w.alloc (.cells (Rf.cells ⟨6, n, f⟩) TRf)).cell? ⟨w.heap.size, 11, none⟩ = some (.int .i64 f.tap) := cell_of_row _ _ 11 _ _ (0, 0) (heap_alloc_new w _)
  have q12 : (w.alloc (.cells (Rf.cells ⟨6, n, f⟩) TRf)).cell? ⟨w.heap.size, 12, none⟩ = some (.int .i64 f.pk) := cell_of_row _ _ 12 _ _ (0, 0) (heap_alloc_new w _)
  have q13 : (w.alloc (.cells (Rf.cells ⟨6, n, f⟩) TRf)).cell? ⟨w.heap.size, 13, none⟩ = some (.int .i64 f.pn) := cell_of_row _ _ 13 _ _ (0, 0) (heap_alloc_new w _)
  have q14 : (w.alloc (.cells (Rf.cells ⟨6, n, f⟩) TRf)).cell? ⟨w.heap.size, 14, none⟩ = some (.int .i64 f.tk) := cell_of_row _ _ 14 _ _ (0, 0) (heap_alloc_new w _)
  have q15 : (w.alloc (.cells (Rf.cells ⟨6, n, f⟩) TRf)).cell? ⟨w.heap.size, 15, none⟩ = some (.int .i64 f.tn) := cell_of_row _ _ 15 _ _ (0, 0) (heap_alloc_new w _)
  have q16 : (w.alloc (.cells (Rf.cells ⟨6, n, f⟩) TRf)).cell? ⟨w.heap.size, 16, none⟩ = some (.int .i64 f.vk) := cell_of_row _ _ 16 _ _ (0, 0) (heap_alloc_new w _)
  have q17 : (w.alloc (.cells (Rf.cells ⟨6, n, f⟩) TRf)).cell? ⟨w.heap.size, 17, none⟩ = some (.int .i64 f.vn) := cell_of_row _ _ 17 _ _ (0, 0) (heap_alloc_new w _)
  have hb : Hid (Below w.heap.size w (w.alloc (.cells (Rf.cells ⟨6, n, f⟩) TRf))) := Lib.hid ((Below.refl _ _).alloc (Nat.le_refl _) _)
  go_enter Tryz.func10, Tryz.ntmps10
  go_wp2_with (go_at_call 16; (with_reducible refine (rNumK_any _ _).mono ?_); rintro e w0 ⟨rfl, rfl⟩)
  all_goals
    go_ret
    refine ⟨ret_bool ?_, ?_⟩
    · clear q0 q1 q2 q3 q4 q5 q6 q7 q8 q9 q10 q11 q12 q13 q14 q15 q16 q17
      try clear heq
      first | rfl | (rw [decide_eq_true (by omega : 1 ≤ n), decide_eq_true (by omega : n ≤ specs), decide_eq_true (by omega : n ≤ 4)]; rfl) | (rw [decide_eq_false (by omega : ¬ 1 ≤ n)]; rfl) | (by_cases a : n ≤ specs; (rw [decide_eq_false (by omega : ¬ n ≤ 4)]; simp); (rw [decide_eq_false a]; simp)) | (simp_all; done)
    · first | exact hb.out | exact below_two hb.out (by assumption)
set_option maxRecDepth 100000 in
set_option maxHeartbeats 1000000 in
theorem rrIs_k7 (n specs : Int) (f : Flt) (w : World) :
    Calls Tryz.prog 10 #[.agg (Rf.cells ⟨7, n, f⟩), .int .i64 specs] w fun e w' => e = .returned (.bool (n == 0 && fltEq f zeroF)) ∧ Below w.heap.size w w' := by
  obtain ⟨z, hz⟩ : ∃ z, fltEq f zeroF = z := ⟨_, rfl⟩
  have heq : ∀ wx : World, (binOp .eql TF (.agg #[.int .i64 f.zone, .int .i64 f.who, .int .i64 f.self, .int .i64 f.types, .int .i64 f.ntypes, .int .i64 f.colors, .int .i64 f.ncolors, .string f.sub, .int .i64 f.keys, .int .i64 f.tap, .int .i64 f.pk, .int .i64 f.pn, .int .i64 f.tk, .int .i64 f.tn, .int .i64 f.vk, .int .i64 f.vn]) (.agg #[.int .i64 0, .int .i64 0, .int .i64 0, .int .i64 0, .int .i64 0, .int .i64 0, .int .i64 0, .string ⟨#[]⟩, .int .i64 0, .int .i64 0, .int .i64 0, .int .i64 0, .int .i64 0, .int .i64 0, .int .i64 0, .int .i64 0])).run Tryz.prog wx = .ok (.bool z) wx := fun wx => (eq_lit f wx).trans (by rw [hz])
  obtain ⟨v, hv⟩ : ∃ v, fltIs f = v := ⟨_, rfl⟩
  try rw [hz]
  try rw [hv]
  have HV := Lib.hid hv
  clear hz hv
  have q0 : (w.alloc (.cells (Rf.cells ⟨7, n, f⟩) TRf)).cell? ⟨w.heap.size, 0, none⟩ = some (.int .i64 7) := cell_of_row _ _ 0 _ _ (0, 0) (heap_alloc_new w _)
  have q1 : (w.alloc (.cells (Rf.cells ⟨7, n, f⟩) TRf)).cell? ⟨w.heap.size, 1, none⟩ = some (.int .i64 n) := cell_of_row _ _ 1 _ _ (0, 0) (heap_alloc_new w _)
  have q2 : (w.alloc (.cells (Rf.cells ⟨7, n, f⟩) TRf)).cell? ⟨w.heap.size, 2, none⟩ = some (.int .i64 f.zone) := cell_of_row _ _ 2 _ _ (0, 0) (heap_alloc_new w _)
  have q3 : (w.alloc (.cells (Rf.cells ⟨7, n, f⟩) TRf)).cell? ⟨w.heap.size, 3, none⟩ = some (.int .i64 f.who) := cell_of_row _ _ 3 _ _ (0, 0) (heap_alloc_new w _)
  have q4 : (w.alloc (.cells (Rf.cells ⟨7, n, f⟩) TRf)).cell? ⟨w.heap.size, 4, none⟩ = some (.int .i64 f.self) := cell_of_row _ _ 4 _ _ (0, 0) (heap_alloc_new w _)
  have q5 : (w.alloc (.cells (Rf.cells ⟨7, n, f⟩) TRf)).cell? ⟨w.heap.size, 5, none⟩ = some (.int .i64 f.types) := cell_of_row _ _ 5 _ _ (0, 0) (heap_alloc_new w _)
  have q6 : (w.alloc (.cells (Rf.cells ⟨7, n, f⟩) TRf)).cell? ⟨w.heap.size, 6, none⟩ = some (.int .i64 f.ntypes) := cell_of_row _ _ 6 _ _ (0, 0) (heap_alloc_new w _)
  have q7 : (w.alloc (.cells (Rf.cells ⟨7, n, f⟩) TRf)).cell? ⟨w.heap.size, 7, none⟩ = some (.int .i64 f.colors) := cell_of_row _ _ 7 _ _ (0, 0) (heap_alloc_new w _)
  have q8 : (w.alloc (.cells (Rf.cells ⟨7, n, f⟩) TRf)).cell? ⟨w.heap.size, 8, none⟩ = some (.int .i64 f.ncolors) := cell_of_row _ _ 8 _ _ (0, 0) (heap_alloc_new w _)
  have q9 : (w.alloc (.cells (Rf.cells ⟨7, n, f⟩) TRf)).cell? ⟨w.heap.size, 9, none⟩ = some (.string f.sub) := cell_of_row _ _ 9 _ _ (0, 0) (heap_alloc_new w _)
  have q10 : (w.alloc (.cells (Rf.cells ⟨7, n, f⟩) TRf)).cell? ⟨w.heap.size, 10, none⟩ = some (.int .i64 f.keys) := cell_of_row _ _ 10 _ _ (0, 0) (heap_alloc_new w _)
  have q11 : (w.alloc (.cells (Rf.cells ⟨7, n, f⟩) TRf)).cell? ⟨w.heap.size, 11, none⟩ = some (.int .i64 f.tap) := cell_of_row _ _ 11 _ _ (0, 0) (heap_alloc_new w _)
  have q12 : (w.alloc (.cells (Rf.cells ⟨7, n, f⟩) TRf)).cell? ⟨w.heap.size, 12, none⟩ = some (.int .i64 f.pk) := cell_of_row _ _ 12 _ _ (0, 0) (heap_alloc_new w _)
  have q13 : (w.alloc (.cells (Rf.cells ⟨7, n, f⟩) TRf)).cell? ⟨w.heap.size, 13, none⟩ = some (.int .i64 f.pn) := cell_of_row _ _ 13 _ _ (0, 0) (heap_alloc_new w _)
  have q14 : (w.alloc (.cells (Rf.cells ⟨7, n, f⟩) TRf)).cell? ⟨w.heap.size, 14, none⟩ = some (.int .i64 f.tk) := cell_of_row _ _ 14 _ _ (0, 0) (heap_alloc_new w _)
  have q15 : (w.alloc (.cells (Rf.cells ⟨7, n, f⟩) TRf)).cell? ⟨w.heap.size, 15, none⟩ = some (.int .i64 f.tn) := cell_of_row _ _ 15 _ _ (0, 0) (heap_alloc_new w _)
  have q16 : (w.alloc (.cells (Rf.cells ⟨7, n, f⟩) TRf)).cell? ⟨w.heap.size, 16, none⟩ = some (.int .i64 f.vk) := cell_of_row _ _ 16 _ _ (0, 0) (heap_alloc_new w _)
  have q17 : (w.alloc (.cells (Rf.cells ⟨7, n, f⟩) TRf)).cell? ⟨w.heap.size, 17, none⟩ = some (.int .i64 f.vn) := cell_of_row _ _ 17 _ _ (0, 0) (heap_alloc_new w _)
  have hb : Hid (Below w.heap.size w (w.alloc (.cells (Rf.cells ⟨7, n, f⟩) TRf))) := Lib.hid ((Below.refl _ _).alloc (Nat.le_refl _) _)
  go_enter Tryz.func10, Tryz.ntmps10
  go_wp2_with (go_at_call 16; (with_reducible refine (rNumK_any _ _).mono ?_); rintro e w0 ⟨rfl, rfl⟩)
  all_goals
    go_ret
    refine ⟨ret_bool ?_, ?_⟩
    · clear q0 q1 q2 q3 q4 q5 q6 q7 q8 q9 q10 q11 q12 q13 q14 q15 q16 q17
      try clear heq
      first | rfl | (rw [decide_eq_true (by omega : 1 ≤ n), decide_eq_true (by omega : n ≤ specs), decide_eq_true (by omega : n ≤ 4)]; rfl) | (rw [decide_eq_false (by omega : ¬ 1 ≤ n)]; rfl) | (by_cases a : n ≤ specs; (rw [decide_eq_false (by omega : ¬ n ≤ 4)]; simp); (rw [decide_eq_false a]; simp)) | (simp_all; done)
    · first | exact hb.out | exact below_two hb.out (by assumption)
set_option maxRecDepth 100000 in
set_option maxHeartbeats 1000000 in
theorem rrIs_k4 (n specs : Int) (f : Flt) (w : World) :
    Calls Tryz.prog 10 #[.agg (Rf.cells ⟨4, n, f⟩), .int .i64 specs] w fun e w' => e = .returned (.bool (n == 0 && fltIs f)) ∧ Below w.heap.size w w' := by
  obtain ⟨z, hz⟩ : ∃ z, fltEq f zeroF = z := ⟨_, rfl⟩
  have heq : ∀ wx : World, (binOp .eql TF (.agg #[.int .i64 f.zone, .int .i64 f.who, .int .i64 f.self, .int .i64 f.types, .int .i64 f.ntypes, .int .i64 f.colors, .int .i64 f.ncolors, .string f.sub, .int .i64 f.keys, .int .i64 f.tap, .int .i64 f.pk, .int .i64 f.pn, .int .i64 f.tk, .int .i64 f.tn, .int .i64 f.vk, .int .i64 f.vn]) (.agg #[.int .i64 0, .int .i64 0, .int .i64 0, .int .i64 0, .int .i64 0, .int .i64 0, .int .i64 0, .string ⟨#[]⟩, .int .i64 0, .int .i64 0, .int .i64 0, .int .i64 0, .int .i64 0, .int .i64 0, .int .i64 0, .int .i64 0])).run Tryz.prog wx = .ok (.bool z) wx := fun wx => (eq_lit f wx).trans (by rw [hz])
  obtain ⟨v, hv⟩ : ∃ v, fltIs f = v := ⟨_, rfl⟩
  try rw [hz]
  try rw [hv]
  have HV := Lib.hid hv
  clear hz hv
  have q0 : (w.alloc (.cells (Rf.cells ⟨4, n, f⟩) TRf)).cell? ⟨w.heap.size, 0, none⟩ = some (.int .i64 4) := cell_of_row _ _ 0 _ _ (0, 0) (heap_alloc_new w _)
  have q1 : (w.alloc (.cells (Rf.cells ⟨4, n, f⟩) TRf)).cell? ⟨w.heap.size, 1, none⟩ = some (.int .i64 n) := cell_of_row _ _ 1 _ _ (0, 0) (heap_alloc_new w _)
  have q2 : (w.alloc (.cells (Rf.cells ⟨4, n, f⟩) TRf)).cell? ⟨w.heap.size, 2, none⟩ = some (.int .i64 f.zone) := cell_of_row _ _ 2 _ _ (0, 0) (heap_alloc_new w _)
  have q3 : (w.alloc (.cells (Rf.cells ⟨4, n, f⟩) TRf)).cell? ⟨w.heap.size, 3, none⟩ = some (.int .i64 f.who) := cell_of_row _ _ 3 _ _ (0, 0) (heap_alloc_new w _)
  have q4 : (w.alloc (.cells (Rf.cells ⟨4, n, f⟩) TRf)).cell? ⟨w.heap.size, 4, none⟩ = some (.int .i64 f.self) := cell_of_row _ _ 4 _ _ (0, 0) (heap_alloc_new w _)
  have q5 : (w.alloc (.cells (Rf.cells ⟨4, n, f⟩) TRf)).cell? ⟨w.heap.size, 5, none⟩ = some (.int .i64 f.types) := cell_of_row _ _ 5 _ _ (0, 0) (heap_alloc_new w _)
  have q6 : (w.alloc (.cells (Rf.cells ⟨4, n, f⟩) TRf)).cell? ⟨w.heap.size, 6, none⟩ = some (.int .i64 f.ntypes) := cell_of_row _ _ 6 _ _ (0, 0) (heap_alloc_new w _)
  have q7 : (w.alloc (.cells (Rf.cells ⟨4, n, f⟩) TRf)).cell? ⟨w.heap.size, 7, none⟩ = some (.int .i64 f.colors) := cell_of_row _ _ 7 _ _ (0, 0) (heap_alloc_new w _)
  have q8 : (w.alloc (.cells (Rf.cells ⟨4, n, f⟩) TRf)).cell? ⟨w.heap.size, 8, none⟩ = some (.int .i64 f.ncolors) := cell_of_row _ _ 8 _ _ (0, 0) (heap_alloc_new w _)
  have q9 : (w.alloc (.cells (Rf.cells ⟨4, n, f⟩) TRf)).cell? ⟨w.heap.size, 9, none⟩ = some (.string f.sub) := cell_of_row _ _ 9 _ _ (0, 0) (heap_alloc_new w _)
  have q10 : (w.alloc (.cells (Rf.cells ⟨4, n, f⟩) TRf)).cell? ⟨w.heap.size, 10, none⟩ = some (.int .i64 f.keys) := cell_of_row _ _ 10 _ _ (0, 0) (heap_alloc_new w _)
  have q11 : (w.alloc (.cells (Rf.cells ⟨4, n, f⟩) TRf)).cell? ⟨w.heap.size, 11, none⟩ = some (.int .i64 f.tap) := cell_of_row _ _ 11 _ _ (0, 0) (heap_alloc_new w _)
  have q12 : (w.alloc (.cells (Rf.cells ⟨4, n, f⟩) TRf)).cell? ⟨w.heap.size, 12, none⟩ = some (.int .i64 f.pk) := cell_of_row _ _ 12 _ _ (0, 0) (heap_alloc_new w _)
  have q13 : (w.alloc (.cells (Rf.cells ⟨4, n, f⟩) TRf)).cell? ⟨w.heap.size, 13, none⟩ = some (.int .i64 f.pn) := cell_of_row _ _ 13 _ _ (0, 0) (heap_alloc_new w _)
  have q14 : (w.alloc (.cells (Rf.cells ⟨4, n, f⟩) TRf)).cell? ⟨w.heap.size, 14, none⟩ = some (.int .i64 f.tk) := cell_of_row _ _ 14 _ _ (0, 0) (heap_alloc_new w _)
  have q15 : (w.alloc (.cells (Rf.cells ⟨4, n, f⟩) TRf)).cell? ⟨w.heap.size, 15, none⟩ = some (.int .i64 f.tn) := cell_of_row _ _ 15 _ _ (0, 0) (heap_alloc_new w _)
  have q16 : (w.alloc (.cells (Rf.cells ⟨4, n, f⟩) TRf)).cell? ⟨w.heap.size, 16, none⟩ = some (.int .i64 f.vk) := cell_of_row _ _ 16 _ _ (0, 0) (heap_alloc_new w _)
  have q17 : (w.alloc (.cells (Rf.cells ⟨4, n, f⟩) TRf)).cell? ⟨w.heap.size, 17, none⟩ = some (.int .i64 f.vn) := cell_of_row _ _ 17 _ _ (0, 0) (heap_alloc_new w _)
  have hb : Hid (Below w.heap.size w (w.alloc (.cells (Rf.cells ⟨4, n, f⟩) TRf))) := Lib.hid ((Below.refl _ _).alloc (Nat.le_refl _) _)
  go_enter Tryz.func10, Tryz.ntmps10
  go_wp2_with (first | (go_at_call 16; (with_reducible refine (rNumK_any _ _).mono ?_); rintro e w0 ⟨rfl, rfl⟩) | (go_at_call 17; (with_reducible refine (flt_litR f _ v HV).mono ?_); rintro e w1 ⟨rfl, hb1⟩))
  all_goals
    go_ret
    refine ⟨ret_bool ?_, ?_⟩
    · clear q0 q1 q2 q3 q4 q5 q6 q7 q8 q9 q10 q11 q12 q13 q14 q15 q16 q17
      try clear heq
      first | rfl | (rw [decide_eq_true (by omega : 1 ≤ n), decide_eq_true (by omega : n ≤ specs), decide_eq_true (by omega : n ≤ 4)]; rfl) | (rw [decide_eq_false (by omega : ¬ 1 ≤ n)]; rfl) | (by_cases a : n ≤ specs; (rw [decide_eq_false (by omega : ¬ n ≤ 4)]; simp); (rw [decide_eq_false a]; simp)) | (simp_all; done)
    · first | exact hb.out | exact below_two hb.out (by assumption)
set_option maxRecDepth 100000 in
set_option maxHeartbeats 1000000 in
theorem rrIs_k3 (n specs : Int) (f : Flt) (w : World) :
    Calls Tryz.prog 10 #[.agg (Rf.cells ⟨3, n, f⟩), .int .i64 specs] w fun e w' => e = .returned (.bool (decide (1 ≤ n) && (decide (n ≤ specs) && (decide (n ≤ 4) && fltEq f zeroF)))) ∧ Below w.heap.size w w' := by
  obtain ⟨z, hz⟩ : ∃ z, fltEq f zeroF = z := ⟨_, rfl⟩
  have heq : ∀ wx : World, (binOp .eql TF (.agg #[.int .i64 f.zone, .int .i64 f.who, .int .i64 f.self, .int .i64 f.types, .int .i64 f.ntypes, .int .i64 f.colors, .int .i64 f.ncolors, .string f.sub, .int .i64 f.keys, .int .i64 f.tap, .int .i64 f.pk, .int .i64 f.pn, .int .i64 f.tk, .int .i64 f.tn, .int .i64 f.vk, .int .i64 f.vn]) (.agg #[.int .i64 0, .int .i64 0, .int .i64 0, .int .i64 0, .int .i64 0, .int .i64 0, .int .i64 0, .string ⟨#[]⟩, .int .i64 0, .int .i64 0, .int .i64 0, .int .i64 0, .int .i64 0, .int .i64 0, .int .i64 0, .int .i64 0])).run Tryz.prog wx = .ok (.bool z) wx := fun wx => (eq_lit f wx).trans (by rw [hz])
  obtain ⟨v, hv⟩ : ∃ v, fltIs f = v := ⟨_, rfl⟩
  try rw [hz]
  try rw [hv]
  have HV := Lib.hid hv
  clear hz hv
  have q0 : (w.alloc (.cells (Rf.cells ⟨3, n, f⟩) TRf)).cell? ⟨w.heap.size, 0, none⟩ = some (.int .i64 3) := cell_of_row _ _ 0 _ _ (0, 0) (heap_alloc_new w _)
  have q1 : (w.alloc (.cells (Rf.cells ⟨3, n, f⟩) TRf)).cell? ⟨w.heap.size, 1, none⟩ = some (.int .i64 n) := cell_of_row _ _ 1 _ _ (0, 0) (heap_alloc_new w _)
  have q2 : (w.alloc (.cells (Rf.cells ⟨3, n, f⟩) TRf)).cell? ⟨w.heap.size, 2, none⟩ = some (.int .i64 f.zone) := cell_of_row _ _ 2 _ _ (0, 0) (heap_alloc_new w _)
  have q3 : (w.alloc (.cells (Rf.cells ⟨3, n, f⟩) TRf)).cell? ⟨w.heap.size, 3, none⟩ = some (.int .i64 f.who) := cell_of_row _ _ 3 _ _ (0, 0) (heap_alloc_new w _)
  have q4 : (w.alloc (.cells (Rf.cells ⟨3, n, f⟩) TRf)).cell? ⟨w.heap.size, 4, none⟩ = some (.int .i64 f.self) := cell_of_row _ _ 4 _ _ (0, 0) (heap_alloc_new w _)
  have q5 : (w.alloc (.cells (Rf.cells ⟨3, n, f⟩) TRf)).cell? ⟨w.heap.size, 5, none⟩ = some (.int .i64 f.types) := cell_of_row _ _ 5 _ _ (0, 0) (heap_alloc_new w _)
  have q6 : (w.alloc (.cells (Rf.cells ⟨3, n, f⟩) TRf)).cell? ⟨w.heap.size, 6, none⟩ = some (.int .i64 f.ntypes) := cell_of_row _ _ 6 _ _ (0, 0) (heap_alloc_new w _)
  have q7 : (w.alloc (.cells (Rf.cells ⟨3, n, f⟩) TRf)).cell? ⟨w.heap.size, 7, none⟩ = some (.int .i64 f.colors) := cell_of_row _ _ 7 _ _ (0, 0) (heap_alloc_new w _)
  have q8 : (w.alloc (.cells (Rf.cells ⟨3, n, f⟩) TRf)).cell? ⟨w.heap.size, 8, none⟩ = some (.int .i64 f.ncolors) := cell_of_row _ _ 8 _ _ (0, 0) (heap_alloc_new w _)
  have q9 : (w.alloc (.cells (Rf.cells ⟨3, n, f⟩) TRf)).cell? ⟨w.heap.size, 9, none⟩ = some (.string f.sub) := cell_of_row _ _ 9 _ _ (0, 0) (heap_alloc_new w _)
  have q10 : (w.alloc (.cells (Rf.cells ⟨3, n, f⟩) TRf)).cell? ⟨w.heap.size, 10, none⟩ = some (.int .i64 f.keys) := cell_of_row _ _ 10 _ _ (0, 0) (heap_alloc_new w _)
  have q11 : (w.alloc (.cells (Rf.cells ⟨3, n, f⟩) TRf)).cell? ⟨w.heap.size, 11, none⟩ = some (.int .i64 f.tap) := cell_of_row _ _ 11 _ _ (0, 0) (heap_alloc_new w _)
  have q12 : (w.alloc (.cells (Rf.cells ⟨3, n, f⟩) TRf)).cell? ⟨w.heap.size, 12, none⟩ = some (.int .i64 f.pk) := cell_of_row _ _ 12 _ _ (0, 0) (heap_alloc_new w _)
  have q13 : (w.alloc (.cells (Rf.cells ⟨3, n, f⟩) TRf)).cell? ⟨w.heap.size, 13, none⟩ = some (.int .i64 f.pn) := cell_of_row _ _ 13 _ _ (0, 0) (heap_alloc_new w _)
  have q14 : (w.alloc (.cells (Rf.cells ⟨3, n, f⟩) TRf)).cell? ⟨w.heap.size, 14, none⟩ = some (.int .i64 f.tk) := cell_of_row _ _ 14 _ _ (0, 0) (heap_alloc_new w _)
  have q15 : (w.alloc (.cells (Rf.cells ⟨3, n, f⟩) TRf)).cell? ⟨w.heap.size, 15, none⟩ = some (.int .i64 f.tn) := cell_of_row _ _ 15 _ _ (0, 0) (heap_alloc_new w _)
  have q16 : (w.alloc (.cells (Rf.cells ⟨3, n, f⟩) TRf)).cell? ⟨w.heap.size, 16, none⟩ = some (.int .i64 f.vk) := cell_of_row _ _ 16 _ _ (0, 0) (heap_alloc_new w _)
  have q17 : (w.alloc (.cells (Rf.cells ⟨3, n, f⟩) TRf)).cell? ⟨w.heap.size, 17, none⟩ = some (.int .i64 f.vn) := cell_of_row _ _ 17 _ _ (0, 0) (heap_alloc_new w _)
  have hb : Hid (Below w.heap.size w (w.alloc (.cells (Rf.cells ⟨3, n, f⟩) TRf))) := Lib.hid ((Below.refl _ _).alloc (Nat.le_refl _) _)
  go_enter Tryz.func10, Tryz.ntmps10
  go_wp2_with (go_at_call 16; (with_reducible refine (rNumK_any _ _).mono ?_); rintro e w0 ⟨rfl, rfl⟩)
  all_goals
    go_ret
    refine ⟨ret_bool ?_, ?_⟩
    · clear q0 q1 q2 q3 q4 q5 q6 q7 q8 q9 q10 q11 q12 q13 q14 q15 q16 q17
      try clear heq
      first | rfl | (rw [decide_eq_true (by omega : 1 ≤ n), decide_eq_true (by omega : n ≤ specs), decide_eq_true (by omega : n ≤ 4)]; rfl) | (rw [decide_eq_false (by omega : ¬ 1 ≤ n)]; rfl) | (by_cases a : n ≤ specs; (rw [decide_eq_false (by omega : ¬ n ≤ 4)]; simp); (rw [decide_eq_false a]; simp)) | (simp_all; done)
    · first | exact hb.out | exact below_two hb.out (by assumption)
set_option maxRecDepth 100000 in
set_option maxHeartbeats 1000000 in
theorem rrIs_k8 (n specs : Int) (f : Flt) (w : World) :
    Calls Tryz.prog 10 #[.agg (Rf.cells ⟨8, n, f⟩), .int .i64 specs] w fun e w' => e = .returned (.bool (decide (1 ≤ n) && (decide (n ≤ specs) && (decide (n ≤ 4) && fltEq f zeroF)))) ∧ Below w.heap.size w w' := by
  obtain ⟨z, hz⟩ : ∃ z, fltEq f zeroF = z := ⟨_, rfl⟩
  have heq : ∀ wx : World, (binOp .eql TF (.agg #[.int .i64 f.zone, .int .i64 f.who, .int .i64 f.self, .int .i64 f.types, .int .i64 f.ntypes, .int .i64 f.colors, .int .i64 f.ncolors, .string f.sub, .int .i64 f.keys, .int .i64 f.tap, .int .i64 f.pk, .int .i64 f.pn, .int .i64 f.tk, .int .i64 f.tn, .int .i64 f.vk, .int .i64 f.vn]) (.agg #[.int .i64 0, .int .i64 0, .int .i64 0, .int .i64 0, .int .i64 0, .int .i64 0, .int .i64 0, .string ⟨#[]⟩, .int .i64 0, .int .i64 0, .int .i64 0, .int .i64 0, .int .i64 0, .int .i64 0, .int .i64 0, .int .i64 0])).run Tryz.prog wx = .ok (.bool z) wx := fun wx => (eq_lit f wx).trans (by rw [hz])
  obtain ⟨v, hv⟩ : ∃ v, fltIs f = v := ⟨_, rfl⟩
  try rw [hz]
  try rw [hv]
  have HV := Lib.hid hv
  clear hz hv
  have q0 : (w.alloc (.cells (Rf.cells ⟨8, n, f⟩) TRf)).cell? ⟨w.heap.size, 0, none⟩ = some (.int .i64 8) := cell_of_row _ _ 0 _ _ (0, 0) (heap_alloc_new w _)
  have q1 : (w.alloc (.cells (Rf.cells ⟨8, n, f⟩) TRf)).cell? ⟨w.heap.size, 1, none⟩ = some (.int .i64 n) := cell_of_row _ _ 1 _ _ (0, 0) (heap_alloc_new w _)
  have q2 : (w.alloc (.cells (Rf.cells ⟨8, n, f⟩) TRf)).cell? ⟨w.heap.size, 2, none⟩ = some (.int .i64 f.zone) := cell_of_row _ _ 2 _ _ (0, 0) (heap_alloc_new w _)
  have q3 : (w.alloc (.cells (Rf.cells ⟨8, n, f⟩) TRf)).cell? ⟨w.heap.size, 3, none⟩ = some (.int .i64 f.who) := cell_of_row _ _ 3 _ _ (0, 0) (heap_alloc_new w _)
  have q4 : (w.alloc (.cells (Rf.cells ⟨8, n, f⟩) TRf)).cell? ⟨w.heap.size, 4, none⟩ = some (.int .i64 f.self) := cell_of_row _ _ 4 _ _ (0, 0) (heap_alloc_new w _)
  have q5 : (w.alloc (.cells (Rf.cells ⟨8, n, f⟩) TRf)).cell? ⟨w.heap.size, 5, none⟩ = some (.int .i64 f.types) := cell_of_row _ _ 5 _ _ (0, 0) (heap_alloc_new w _)
  have q6 : (w.alloc (.cells (Rf.cells ⟨8, n, f⟩) TRf)).cell? ⟨w.heap.size, 6, none⟩ = some (.int .i64 f.ntypes) := cell_of_row _ _ 6 _ _ (0, 0) (heap_alloc_new w _)
  have q7 : (w.alloc (.cells (Rf.cells ⟨8, n, f⟩) TRf)).cell? ⟨w.heap.size, 7, none⟩ = some (.int .i64 f.colors) := cell_of_row _ _ 7 _ _ (0, 0) (heap_alloc_new w _)
  have q8 : (w.alloc (.cells (Rf.cells ⟨8, n, f⟩) TRf)).cell? ⟨w.heap.size, 8, none⟩ = some (.int .i64 f.ncolors) := cell_of_row _ _ 8 _ _ (0, 0) (heap_alloc_new w _)
  have q9 : (w.alloc (.cells (Rf.cells ⟨8, n, f⟩) TRf)).cell? ⟨w.heap.size, 9, none⟩ = some (.string f.sub) := cell_of_row _ _ 9 _ _ (0, 0) (heap_alloc_new w _)
  have q10 : (w.alloc (.cells (Rf.cells ⟨8, n, f⟩) TRf)).cell? ⟨w.heap.size, 10, none⟩ = some (.int .i64 f.keys) := cell_of_row _ _ 10 _ _ (0, 0) (heap_alloc_new w _)
  have q11 : (w.alloc (.cells (Rf.cells ⟨8, n, f⟩) TRf)).cell? ⟨w.heap.size, 11, none⟩ = some (.int .i64 f.tap) := cell_of_row _ _ 11 _ _ (0, 0) (heap_alloc_new w _)
  have q12 : (w.alloc (.cells (Rf.cells ⟨8, n, f⟩) TRf)).cell? ⟨w.heap.size, 12, none⟩ = some (.int .i64 f.pk) := cell_of_row _ _ 12 _ _ (0, 0) (heap_alloc_new w _)
  have q13 : (w.alloc (.cells (Rf.cells ⟨8, n, f⟩) TRf)).cell? ⟨w.heap.size, 13, none⟩ = some (.int .i64 f.pn) := cell_of_row _ _ 13 _ _ (0, 0) (heap_alloc_new w _)
  have q14 : (w.alloc (.cells (Rf.cells ⟨8, n, f⟩) TRf)).cell? ⟨w.heap.size, 14, none⟩ = some (.int .i64 f.tk) := cell_of_row _ _ 14 _ _ (0, 0) (heap_alloc_new w _)
  have q15 : (w.alloc (.cells (Rf.cells ⟨8, n, f⟩) TRf)).cell? ⟨w.heap.size, 15, none⟩ = some (.int .i64 f.tn) := cell_of_row _ _ 15 _ _ (0, 0) (heap_alloc_new w _)
  have q16 : (w.alloc (.cells (Rf.cells ⟨8, n, f⟩) TRf)).cell? ⟨w.heap.size, 16, none⟩ = some (.int .i64 f.vk) := cell_of_row _ _ 16 _ _ (0, 0) (heap_alloc_new w _)
  have q17 : (w.alloc (.cells (Rf.cells ⟨8, n, f⟩) TRf)).cell? ⟨w.heap.size, 17, none⟩ = some (.int .i64 f.vn) := cell_of_row _ _ 17 _ _ (0, 0) (heap_alloc_new w _)
  have hb : Hid (Below w.heap.size w (w.alloc (.cells (Rf.cells ⟨8, n, f⟩) TRf))) := Lib.hid ((Below.refl _ _).alloc (Nat.le_refl _) _)
  go_enter Tryz.func10, Tryz.ntmps10
  go_wp2_with (go_at_call 16; (with_reducible refine (rNumK_any _ _).mono ?_); rintro e w0 ⟨rfl, rfl⟩)
  all_goals
    go_ret
    refine ⟨ret_bool ?_, ?_⟩
    · clear q0 q1 q2 q3 q4 q5 q6 q7 q8 q9 q10 q11 q12 q13 q14 q15 q16 q17
      try clear heq
      first | rfl | (rw [decide_eq_true (by omega : 1 ≤ n), decide_eq_true (by omega : n ≤ specs), decide_eq_true (by omega : n ≤ 4)]; rfl) | (rw [decide_eq_false (by omega : ¬ 1 ≤ n)]; rfl) | (by_cases a : n ≤ specs; (rw [decide_eq_false (by omega : ¬ n ≤ 4)]; simp); (rw [decide_eq_false a]; simp)) | (simp_all; done)
    · first | exact hb.out | exact below_two hb.out (by assumption)
set_option maxRecDepth 100000 in
set_option maxHeartbeats 1000000 in
theorem rrIs_lo (kind n specs : Int) (f : Flt) (w : World) (h : kind < 1) :
    Calls Tryz.prog 10 #[.agg (Rf.cells ⟨kind, n, f⟩), .int .i64 specs] w fun e w' => e = .returned (.bool (false)) ∧ Below w.heap.size w w' := by
  have q0 : (w.alloc (.cells (Rf.cells ⟨kind, n, f⟩) TRf)).cell? ⟨w.heap.size, 0, none⟩ = some (.int .i64 kind) := cell_of_row _ _ 0 _ _ (0, 0) (heap_alloc_new w _)
  have q1 : (w.alloc (.cells (Rf.cells ⟨kind, n, f⟩) TRf)).cell? ⟨w.heap.size, 1, none⟩ = some (.int .i64 n) := cell_of_row _ _ 1 _ _ (0, 0) (heap_alloc_new w _)
  have q2 : (w.alloc (.cells (Rf.cells ⟨kind, n, f⟩) TRf)).cell? ⟨w.heap.size, 2, none⟩ = some (.int .i64 f.zone) := cell_of_row _ _ 2 _ _ (0, 0) (heap_alloc_new w _)
  have q3 : (w.alloc (.cells (Rf.cells ⟨kind, n, f⟩) TRf)).cell? ⟨w.heap.size, 3, none⟩ = some (.int .i64 f.who) := cell_of_row _ _ 3 _ _ (0, 0) (heap_alloc_new w _)
  have q4 : (w.alloc (.cells (Rf.cells ⟨kind, n, f⟩) TRf)).cell? ⟨w.heap.size, 4, none⟩ = some (.int .i64 f.self) := cell_of_row _ _ 4 _ _ (0, 0) (heap_alloc_new w _)
  have q5 : (w.alloc (.cells (Rf.cells ⟨kind, n, f⟩) TRf)).cell? ⟨w.heap.size, 5, none⟩ = some (.int .i64 f.types) := cell_of_row _ _ 5 _ _ (0, 0) (heap_alloc_new w _)
  have q6 : (w.alloc (.cells (Rf.cells ⟨kind, n, f⟩) TRf)).cell? ⟨w.heap.size, 6, none⟩ = some (.int .i64 f.ntypes) := cell_of_row _ _ 6 _ _ (0, 0) (heap_alloc_new w _)
  have q7 : (w.alloc (.cells (Rf.cells ⟨kind, n, f⟩) TRf)).cell? ⟨w.heap.size, 7, none⟩ = some (.int .i64 f.colors) := cell_of_row _ _ 7 _ _ (0, 0) (heap_alloc_new w _)
  have q8 : (w.alloc (.cells (Rf.cells ⟨kind, n, f⟩) TRf)).cell? ⟨w.heap.size, 8, none⟩ = some (.int .i64 f.ncolors) := cell_of_row _ _ 8 _ _ (0, 0) (heap_alloc_new w _)
  have q9 : (w.alloc (.cells (Rf.cells ⟨kind, n, f⟩) TRf)).cell? ⟨w.heap.size, 9, none⟩ = some (.string f.sub) := cell_of_row _ _ 9 _ _ (0, 0) (heap_alloc_new w _)
  have q10 : (w.alloc (.cells (Rf.cells ⟨kind, n, f⟩) TRf)).cell? ⟨w.heap.size, 10, none⟩ = some (.int .i64 f.keys) := cell_of_row _ _ 10 _ _ (0, 0) (heap_alloc_new w _)
  have q11 : (w.alloc (.cells (Rf.cells ⟨kind, n, f⟩) TRf)).cell? ⟨w.heap.size, 11, none⟩ = some (.int .i64 f.tap) := cell_of_row _ _ 11 _ _ (0, 0) (heap_alloc_new w _)
  have q12 : (w.alloc (.cells (Rf.cells ⟨kind, n, f⟩) TRf)).cell? ⟨w.heap.size, 12, none⟩ = some (.int .i64 f.pk) := cell_of_row _ _ 12 _ _ (0, 0) (heap_alloc_new w _)
  have q13 : (w.alloc (.cells (Rf.cells ⟨kind, n, f⟩) TRf)).cell? ⟨w.heap.size, 13, none⟩ = some (.int .i64 f.pn) := cell_of_row _ _ 13 _ _ (0, 0) (heap_alloc_new w _)
  have q14 : (w.alloc (.cells (Rf.cells ⟨kind, n, f⟩) TRf)).cell? ⟨w.heap.size, 14, none⟩ = some (.int .i64 f.tk) := cell_of_row _ _ 14 _ _ (0, 0) (heap_alloc_new w _)
  have q15 : (w.alloc (.cells (Rf.cells ⟨kind, n, f⟩) TRf)).cell? ⟨w.heap.size, 15, none⟩ = some (.int .i64 f.tn) := cell_of_row _ _ 15 _ _ (0, 0) (heap_alloc_new w _)
  have q16 : (w.alloc (.cells (Rf.cells ⟨kind, n, f⟩) TRf)).cell? ⟨w.heap.size, 16, none⟩ = some (.int .i64 f.vk) := cell_of_row _ _ 16 _ _ (0, 0) (heap_alloc_new w _)
  have q17 : (w.alloc (.cells (Rf.cells ⟨kind, n, f⟩) TRf)).cell? ⟨w.heap.size, 17, none⟩ = some (.int .i64 f.vn) := cell_of_row _ _ 17 _ _ (0, 0) (heap_alloc_new w _)
  have hb : Hid (Below w.heap.size w (w.alloc (.cells (Rf.cells ⟨kind, n, f⟩) TRf))) := Lib.hid ((Below.refl _ _).alloc (Nat.le_refl _) _)
  go_enter Tryz.func10, Tryz.ntmps10
  go_wp2_with (go_at_call 16; (with_reducible refine (rNumK_any _ _).mono ?_); rintro e w0 ⟨rfl, rfl⟩)
  all_goals
    go_ret
    refine ⟨ret_bool ?_, ?_⟩
    · clear q0 q1 q2 q3 q4 q5 q6 q7 q8 q9 q10 q11 q12 q13 q14 q15 q16 q17
      try clear heq
      first | rfl | (rw [decide_eq_true (by omega : 1 ≤ n), decide_eq_true (by omega : n ≤ specs), decide_eq_true (by omega : n ≤ 4)]; rfl) | (rw [decide_eq_false (by omega : ¬ 1 ≤ n)]; rfl) | (by_cases a : n ≤ specs; (rw [decide_eq_false (by omega : ¬ n ≤ 4)]; simp); (rw [decide_eq_false a]; simp)) | (simp_all; done)
    · first | exact hb.out | exact below_two hb.out (by assumption)
set_option maxRecDepth 100000 in
set_option maxHeartbeats 1000000 in
theorem rrIs_hi (kind n specs : Int) (f : Flt) (w : World) (h : 8 < kind) :
    Calls Tryz.prog 10 #[.agg (Rf.cells ⟨kind, n, f⟩), .int .i64 specs] w fun e w' => e = .returned (.bool (false)) ∧ Below w.heap.size w w' := by
  have q0 : (w.alloc (.cells (Rf.cells ⟨kind, n, f⟩) TRf)).cell? ⟨w.heap.size, 0, none⟩ = some (.int .i64 kind) := cell_of_row _ _ 0 _ _ (0, 0) (heap_alloc_new w _)
  have q1 : (w.alloc (.cells (Rf.cells ⟨kind, n, f⟩) TRf)).cell? ⟨w.heap.size, 1, none⟩ = some (.int .i64 n) := cell_of_row _ _ 1 _ _ (0, 0) (heap_alloc_new w _)
  have q2 : (w.alloc (.cells (Rf.cells ⟨kind, n, f⟩) TRf)).cell? ⟨w.heap.size, 2, none⟩ = some (.int .i64 f.zone) := cell_of_row _ _ 2 _ _ (0, 0) (heap_alloc_new w _)
  have q3 : (w.alloc (.cells (Rf.cells ⟨kind, n, f⟩) TRf)).cell? ⟨w.heap.size, 3, none⟩ = some (.int .i64 f.who) := cell_of_row _ _ 3 _ _ (0, 0) (heap_alloc_new w _)
  have q4 : (w.alloc (.cells (Rf.cells ⟨kind, n, f⟩) TRf)).cell? ⟨w.heap.size, 4, none⟩ = some (.int .i64 f.self) := cell_of_row _ _ 4 _ _ (0, 0) (heap_alloc_new w _)
  have q5 : (w.alloc (.cells (Rf.cells ⟨kind, n, f⟩) TRf)).cell? ⟨w.heap.size, 5, none⟩ = some (.int .i64 f.types) := cell_of_row _ _ 5 _ _ (0, 0) (heap_alloc_new w _)
  have q6 : (w.alloc (.cells (Rf.cells ⟨kind, n, f⟩) TRf)).cell? ⟨w.heap.size, 6, none⟩ = some (.int .i64 f.ntypes) := cell_of_row _ _ 6 _ _ (0, 0) (heap_alloc_new w _)
  have q7 : (w.alloc (.cells (Rf.cells ⟨kind, n, f⟩) TRf)).cell? ⟨w.heap.size, 7, none⟩ = some (.int .i64 f.colors) := cell_of_row _ _ 7 _ _ (0, 0) (heap_alloc_new w _)
  have q8 : (w.alloc (.cells (Rf.cells ⟨kind, n, f⟩) TRf)).cell? ⟨w.heap.size, 8, none⟩ = some (.int .i64 f.ncolors) := cell_of_row _ _ 8 _ _ (0, 0) (heap_alloc_new w _)
  have q9 : (w.alloc (.cells (Rf.cells ⟨kind, n, f⟩) TRf)).cell? ⟨w.heap.size, 9, none⟩ = some (.string f.sub) := cell_of_row _ _ 9 _ _ (0, 0) (heap_alloc_new w _)
  have q10 : (w.alloc (.cells (Rf.cells ⟨kind, n, f⟩) TRf)).cell? ⟨w.heap.size, 10, none⟩ = some (.int .i64 f.keys) := cell_of_row _ _ 10 _ _ (0, 0) (heap_alloc_new w _)
  have q11 : (w.alloc (.cells (Rf.cells ⟨kind, n, f⟩) TRf)).cell? ⟨w.heap.size, 11, none⟩ = some (.int .i64 f.tap) := cell_of_row _ _ 11 _ _ (0, 0) (heap_alloc_new w _)
  have q12 : (w.alloc (.cells (Rf.cells ⟨kind, n, f⟩) TRf)).cell? ⟨w.heap.size, 12, none⟩ = some (.int .i64 f.pk) := cell_of_row _ _ 12 _ _ (0, 0) (heap_alloc_new w _)
  have q13 : (w.alloc (.cells (Rf.cells ⟨kind, n, f⟩) TRf)).cell? ⟨w.heap.size, 13, none⟩ = some (.int .i64 f.pn) := cell_of_row _ _ 13 _ _ (0, 0) (heap_alloc_new w _)
  have q14 : (w.alloc (.cells (Rf.cells ⟨kind, n, f⟩) TRf)).cell? ⟨w.heap.size, 14, none⟩ = some (.int .i64 f.tk) := cell_of_row _ _ 14 _ _ (0, 0) (heap_alloc_new w _)
  have q15 : (w.alloc (.cells (Rf.cells ⟨kind, n, f⟩) TRf)).cell? ⟨w.heap.size, 15, none⟩ = some (.int .i64 f.tn) := cell_of_row _ _ 15 _ _ (0, 0) (heap_alloc_new w _)
  have q16 : (w.alloc (.cells (Rf.cells ⟨kind, n, f⟩) TRf)).cell? ⟨w.heap.size, 16, none⟩ = some (.int .i64 f.vk) := cell_of_row _ _ 16 _ _ (0, 0) (heap_alloc_new w _)
  have q17 : (w.alloc (.cells (Rf.cells ⟨kind, n, f⟩) TRf)).cell? ⟨w.heap.size, 17, none⟩ = some (.int .i64 f.vn) := cell_of_row _ _ 17 _ _ (0, 0) (heap_alloc_new w _)
  have hb : Hid (Below w.heap.size w (w.alloc (.cells (Rf.cells ⟨kind, n, f⟩) TRf))) := Lib.hid ((Below.refl _ _).alloc (Nat.le_refl _) _)
  go_enter Tryz.func10, Tryz.ntmps10
  go_wp2_with (go_at_call 16; (with_reducible refine (rNumK_any _ _).mono ?_); rintro e w0 ⟨rfl, rfl⟩)
  all_goals
    go_ret
    refine ⟨ret_bool ?_, ?_⟩
    · clear q0 q1 q2 q3 q4 q5 q6 q7 q8 q9 q10 q11 q12 q13 q14 q15 q16 q17
      try clear heq
      first | rfl | (rw [decide_eq_true (by omega : 1 ≤ n), decide_eq_true (by omega : n ≤ specs), decide_eq_true (by omega : n ≤ 4)]; rfl) | (rw [decide_eq_false (by omega : ¬ 1 ≤ n)]; rfl) | (by_cases a : n ≤ specs; (rw [decide_eq_false (by omega : ¬ n ≤ 4)]; simp); (rw [decide_eq_false a]; simp)) | (simp_all; done)
    · first | exact hb.out | exact below_two hb.out (by assumption)
theorem rrIs_other (kind n specs : Int) (f : Flt) (w : World) (t1 : (kind == 1) = false) (t2 : (kind == 2) = false) (t3 : (kind == 3) = false) (t4 : (kind == 4) = false) (t5 : (kind == 5) = false) (t6 : (kind == 6) = false) (t7 : (kind == 7) = false) (t8 : (kind == 8) = false) :
    Calls Tryz.prog 10 #[.agg (Rf.cells ⟨kind, n, f⟩), .int .i64 specs] w fun e w' => e = .returned (.bool (false)) ∧ Below w.heap.size w w' := by
  have : kind < 1 ∨ 8 < kind := by
    simp only [beq_eq_false_iff_ne] at *
    omega
  rcases this with h | h
  · exact rrIs_lo kind n specs f w h
  · exact rrIs_hi kind n specs f w h
end Go.Proofs.YtbiakbogpbncfaaGreatDoor
