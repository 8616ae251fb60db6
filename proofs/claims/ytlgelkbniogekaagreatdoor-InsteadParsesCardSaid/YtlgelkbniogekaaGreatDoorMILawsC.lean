/- InsteadParses: the program's reading is the reference's. Conditions: LaidM. -/
import Derived.Test.YtlgelkbniogekaaGreatDoorMIParseF
import Derived.Test.YtlgelkbniogekaaGreatDoorMIRTry
namespace Go.Proofs.YtlgelkbniogekaaGreatDoor
set_option linter.all false
open Go.ChangeShapes Go.WideShapes Go.RowKit
attribute [local irreducible] wpList Code.wp Calls
set_option maxRecDepth 100000 in
set_option maxHeartbeats 4000000 in
theorem iparses_at (s : Str) (G : Rp) (n : Int) (hs : s.length ≤ 600) (w : World) (hl : LaidM w)
    (h1 : ∀ w, LaidM w → Calls Tryz.prog 14 #[.string (B s)] w fun e w' => e = .returned (.tuple #[.agg G.cells, .int .i64 n]) ∧ Below w.heap.size w w')
    (h2 : ∀ w, LaidM w → Calls Tryz.prog 15 #[.string (B s)] w fun e w' => e = .returned (.tuple #[.agg G.cells, .int .i64 n]) ∧ Below w.heap.size w w') :
    Calls Tryz.prog 5 #[.string (B s)] w fun e w' => e = .returned (.bool true) ∧ Below w.heap.size w w' := by
  have hs' : ¬ (600 : Int) < s.length := by omega
  have heq := fun wx : World => (eq_rp G G wx).trans (by rw [rpEq_refl])
  have H1 := Lib.hid h1
  have H2 := Lib.hid h2
  clear h1 h2
  have hS := St.start hl keepsM
  go_enter Tryz.func5, Tryz.ntmps5
  go_wp2_with (first | (go_at_call 9; (with_reducible refine (St.call hS fun hl => aliveI_any _ hl).mono ?_); rintro e w ⟨rfl, hS⟩) | (go_at_call 14; (with_reducible refine (St.call hS fun hl => H1.out _ hl).mono ?_); rintro e w ⟨rfl, hS⟩) | (go_at_call 15; (with_reducible refine (St.call hS fun hl => H2.out _ hl).mono ?_); rintro e w ⟨rfl, hS⟩) | ((with_reducible refine at_alloc ?_); (first | (refine wpList_new 27 rfl hS rfl _ rp_new ?_; intro g w hS)); (try simp only [Act.put, List.setIfInBounds_toArray, List.set_cons_zero, List.set_cons_succ])) | ((with_reducible refine at_load ?_); (first | (refine rp_ldw rfl hS rfl rfl (by (first | exact .head | exact .tail .head | exact .tail (.tail .head) | exact .tail (.tail (.tail .head)) | exact .tail (.tail (.tail (.tail .head))) | fail)) ?_)); (try simp only [Act.put, List.setIfInBounds_toArray, List.set_cons_zero, List.set_cons_succ])) | ((with_reducible refine at_store ?_); (first | (refine rp_stw rfl hS rfl rfl rfl (by first | exact .head | exact .tail .head | exact .tail (.tail .head) | exact .tail (.tail (.tail .head)) | exact .tail (.tail (.tail (.tail .head))) | fail) ?_; intro w hS)); (try simp only [Act.put, List.setIfInBounds_toArray, List.set_cons_zero, List.set_cons_succ])))
  all_goals go_ret
  all_goals exact ⟨ret_bool (by simp), hS.below⟩
set_option maxRecDepth 100000 in
set_option maxHeartbeats 4000000 in
theorem iparses_long (s : Str) (hs : ¬ s.length ≤ 600) (w : World) (hl : LaidM w) : Calls Tryz.prog 5 #[.string (B s)] w fun e w' => e = .returned (.bool true) ∧ Below w.heap.size w w' := by
  have hs' : (600 : Int) < s.length := by omega
  have hS := St.start hl keepsM
  go_enter Tryz.func5, Tryz.ntmps5
  go_wp2_with (first | (go_at_call 9; (with_reducible refine (St.call hS fun hl => aliveI_any _ hl).mono ?_); rintro e w ⟨rfl, hS⟩))
  all_goals go_ret
  all_goals exact ⟨ret_bool (by simp), hS.below⟩
theorem insteadParses_law (s : ByteArray) (w : World) (hl : LaidM w) : Calls Tryz.prog 5 #[.string s] w fun e w' => e = .returned (.bool true) ∧ Below w.heap.size w w' := by
  rw [← B_L s]
  generalize L s = s
  by_cases hs : s.length ≤ 600
  · cases hp : rpParse s with
    | some G => exact iparses_at s G 0 hs w hl (fun w hl => inParse_lit s _ hp (by omega) w hl) (fun w hl => by have := i19Parse_any s (by omega) w hl; rw [hp] at this; exact this)
    | none => exact iparses_at s zeroI 3 hs w hl (fun w hl => inParse_lit s _ hp (by omega) w hl) (fun w hl => by have := i19Parse_any s (by omega) w hl; rw [hp] at this; exact this)
  · exact iparses_long s hs w hl
end Go.Proofs.YtlgelkbniogekaaGreatDoor
