/- Walks: package ref: Is of any reference. Conditions: Laid. -/
import Derived.Test.YtdnnbfbhifelkaaGreatDoorQ9
import Derived.Test.YtdnnbfbhifelkaaGreatDoorQ7
set_option linter.all false
set_option maxRecDepth 100000
set_option maxHeartbeats 16000000
namespace Go.Proofs.YtdnnbfbhifelkaaGreatDoor
open Go.ChangeShapes Go.WideShapes Go.RowKit
abbrev TRf : Nat := 27
instance (r : Rf) : Part (Rf.cells r) 0 27 (Rf.cells r) := .of (n := 18) rfl Tryz.underlying27 rfl (by kernel_rfl)
instance (r v : Rf) : Put (Rf.cells r) 0 27 (.agg (Rf.cells v)) (Rf.cells v) := .of rfl rfl (by kernel_rfl) rfl
instance : Zer 27 (Rf.cells zeroR) := ⟨fun _ => by kernel_rfl⟩
instance (r : Rf) (x : Int) : Put (Rf.cells r) 0 3 (.int .i64 x) (Rf.cells ⟨x, r.n, r.f⟩) := .of rfl rfl (by kernel_rfl) rfl
instance (r : Rf) (x : Int) : Put (Rf.cells r) 1 3 (.int .i64 x) (Rf.cells ⟨r.kind, x, r.f⟩) := .of rfl rfl (by kernel_rfl) rfl
instance (r : Rf) : Part (Rf.cells r) 2 25 (Flt.cells r.f) := .of (n := 16) rfl Tryz.underlying25 rfl (by kernel_rfl)
instance (r : Rf) (x : Flt) : Put (Rf.cells r) 2 25 (.agg (Flt.cells x)) (Rf.cells ⟨r.kind, r.n, x⟩) := .of rfl rfl (by kernel_rfl) rfl
instance : Bld 27 [] (.agg (Rf.cells zeroR)) := ⟨fun _ => by kernel_rfl⟩
instance (x0 : Int) : Bld 27 [(0, .int .i64 x0)] (.agg (Rf.cells ⟨x0, 0, zeroF⟩)) := ⟨fun _ => by kernel_rfl⟩
instance (x0 : Int) (x1 : Int) : Bld 27 [(0, .int .i64 x0), (1, .int .i64 x1)] (.agg (Rf.cells ⟨x0, x1, zeroF⟩)) := ⟨fun _ => by kernel_rfl⟩
instance (x0 : Int) (x2 : Flt) : Bld 27 [(0, .int .i64 x0), (2, .agg (Flt.cells x2))] (.agg (Rf.cells ⟨x0, 0, x2⟩)) := ⟨fun _ => by kernel_rfl⟩
instance (r q : Rf) : EqC TRf (Rf.cells r) (Rf.cells q) (rfEq r q) := ⟨eq_rf r q⟩
attribute [local irreducible] wpList Code.wp Calls fltIs fltEq
attribute [local simp] fltEq_refl
theorem rfIs_w (kind n specs : Int) (f : Flt) (w0 : World) (hl : Laid w0) :
 Calls Tryz.prog 54 #[.agg (Rf.cells ⟨kind, n, f⟩), .int .i64 specs] w0 fun e w' => e = .returned (.bool (refIs ⟨kind, n, f⟩ specs)) ∧ Below w0.heap.size w0 w' := by
 have hS := St.start hl fun _ _ h hb => h.below hb
 go_in
 go_wp2_with (first | (have hq := iE; subst hq) | (have hq := sE; subst hq) | refine s0 ?_ | (refine s1 ?_; clear hS; intro w hS) | (refine s2 ?_; clear hS; intro g w hS) | (refine s4 ?_; clear hS; intro g cur cw w hw hcw hS) | (refine s3 ?_ ?_ <;> intro hb <;> (try subst hb) <;> (try (exfalso; first | omega | exact Bool.noConfusion hb))))
 all_goals go_ret
 all_goals refine ⟨ret_bool ?_, hS.below⟩
 all_goals clear hS
 all_goals (simp_all [refIs, kNum, kBare, Int.le_min] <;> exact fin)
instance {L : World → Prop} [Sub L Laid] (r : Rf) (n : Int) : Con 54 #[.agg (Rf.cells r), .int .i64 n] L (.bool (refIs r n)) := ⟨fun w hl => rfIs_w r.kind r.n n r.f w (Sub.sub w hl)⟩
end Go.Proofs.YtdnnbfbhifelkaaGreatDoor
