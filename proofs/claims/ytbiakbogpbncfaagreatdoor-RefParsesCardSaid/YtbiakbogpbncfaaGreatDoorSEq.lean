/- Plain words on memory: == of two references. Conditions: none. -/
import Derived.Test.YtbiakbogpbncfaaGreatDoorSPure
namespace Go.Proofs.YtbiakbogpbncfaaGreatDoor
set_option linter.all false
open Go.ChangeShapes Go.WideShapes Go.RowKit
def rfEq (r q : Rf) : Bool := r.kind == q.kind && (r.n == q.n && fltEq r.f q.f)
theorem rfEq_iff (r q : Rf) : rfEq r q = true ↔ r = q := by
  obtain ⟨a, b, f⟩ := r
  obtain ⟨a2, b2, f2⟩ := q
  simp only [rfEq, Bool.and_eq_true, beq_iff_eq, fltEq_iff, Rf.mk.injEq]
theorem rfEq_refl (r : Rf) : rfEq r r = true := (rfEq_iff r r).2 rfl
theorem Tryz.fieldsF : Tryz.prog.underlying 25 = some (.struct (Tryz.prog.fieldsOf 25)) := by kernel_rfl
theorem Tryz.stoodF : Tryz.prog.stoodInHeld 25 = false := by kernel_rfl
set_option maxRecDepth 100000 in
/-- The model's == of two references. -/
theorem eq_rf (r q : Rf) (w : World) : (binOp .eql 27 (.agg r.cells) (.agg q.cells)).run Tryz.prog w = .ok (.bool (rfEq r q)) w := by
  rw [run_eql_struct, run_equalIn_agg w 9999 27 _ _ (by kernel_rfl) (by kernel_rfl)]
  simp [rfEq, fltEq, Rf.cells, go_sem, Tryz.underlying27, Tryz.fieldsF, Tryz.stoodF, Tryz.underlying25, Tryz.underlying23, Tryz.underlying3, Tryz.underlying9]
  iterate 17 (refine ite_and_res (by simp) ?_)
  split
  · rename_i h; rw [h]; simp
  · rename_i h; rw [beq_eq_false_iff_ne.2 h]
theorem neq_rf (r q : Rf) (w : World) : (binOp .neq 27 (.agg r.cells) (.agg q.cells)).run Tryz.prog w = .ok (.bool (!rfEq r q)) w := by
  have h := eq_rf r q w
  rw [run_eql_struct] at h
  rw [run_neq_struct]
  generalize (Op.equalIn 10000 27 (.agg r.cells) (.agg q.cells)).run Tryz.prog w = x at *
  cases x <;> simp_all [Result.andThen]
end Go.Proofs.YtbiakbogpbncfaaGreatDoor
