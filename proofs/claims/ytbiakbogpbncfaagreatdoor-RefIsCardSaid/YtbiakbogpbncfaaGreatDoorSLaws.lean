/- RefIs, RefTexts: the program's answer is the reference's. Conditions: Laid. -/
import Derived.Test.YtbiakbogpbncfaaGreatDoorSAlive
import Derived.Test.YtbiakbogpbncfaaGreatDoorSRText
import Derived.Deep.RegionHeld3
namespace Go.Proofs.YtbiakbogpbncfaaGreatDoor
set_option linter.all false
open Go.ChangeShapes Go.WideShapes Go.RowKit
/-- A block holds a reference; nothing older has turned. -/
def OneR (w : World) (r : Rf) (w' : World) : Prop := Laid w' ∧ Below w.heap.size w w' ∧ w'.heap[w.heap.size]? = some (.cells r.cells TRf)
theorem OneR.below {w w1 w2 : World} {r : Rf} (h : OneR w r w1) (hb : Below w1.heap.size w1 w2) : OneR w r w2 := ⟨h.1.below hb, below_two h.2.1 hb, blk_below2 hb h.2.2⟩
theorem OneR.drew {w w1 : World} {r : Rf} (h : OneR w r w1) : OneR w r w1.drew := h.below (Below.refl _ _).drew
theorem OneR.open_ {w w1 : World} {r : Rf} (h : OneR w r w1) : Laid w1 ∧ Below w.heap.size w w1 ∧ w1.heap[w.heap.size]? = some (.cells r.cells TRf) := h
theorem oneR_call {w w1 : World} {f : Rf} {k : Nat} {args : Array Value} {v : Value} (h : OneR w f w1) (hc : Laid w1 → Calls Tryz.prog k args w1 fun e w' => e = .returned v ∧ Below w1.heap.size w1 w') : Calls Tryz.prog k args w1 fun e w' => e = .returned v ∧ OneR w f w' :=
  (hc h.1).mono fun e w' ⟨he, hb⟩ => ⟨he, h.below hb⟩
/-- A load that the walk does not open. -/
def rowLd (t : TypeId) (p : Value) : Sem Value := Instr.loadAt t p
theorem rowLd_fold (p : Value) : Instr.loadAt 27 p = rowLd 27 p := rfl
theorem load_ref (r : Rf) (g : Nat) (w : World) (h : w.heap[g]? = some (.cells r.cells TRf)) : (rowLd 27 (.pointer (some ⟨g, 0, none⟩))).run Tryz.prog w = .ok (.agg r.cells) w := by
  simp only [rowLd, Instr.loadAt, Instr.sureAddr, Sem.run_bind, Sem.run_pure, Result.andThen_ok, run_loadVar_row w g TRf TRf r.cells (0, 0) _ h Tryz.underlying27 rfl infoTRfR]
attribute [local go_sem ↓] rowLd_fold
set_option maxRecDepth 100000 in
set_option maxHeartbeats 1000000 in
theorem lawRefIs_at (r : Rf) (specs : Int) (R : Bool) (HR : Hid (refIs r specs = R)) (w : World) (hl : Laid w) :
    Calls Tryz.prog 3 #[.agg r.cells, .int .i64 specs] w fun e w' => e = .returned (.bool true) ∧ Below w.heap.size w w' := by
  have hT : OneR w r (w.alloc (.cells r.cells TRf)) := ⟨hl.alloc _, (Below.refl _ _).alloc (Nat.le_refl _) _, heap_alloc_new w _⟩
  have hld := fun (w' : World) (h : w'.heap[w.heap.size]? = some (.cells r.cells TRf)) => load_ref r w.heap.size w' h
  go_enter Tryz.func3, Tryz.ntmps3
  go_wp2_with fail
  as_aux_lemma =>
   go_region_held3 (fun w' => Laid w' ∧ Below w.heap.size w w' ∧ w'.heap[w.heap.size]? = some (.cells r.cells TRf)) (exact OneR.open_ (by first | assumption | exact OneR.drew hT)) (first | (go_at_call 8; (with_reducible refine (oneR_call (OneR.drew hT) (fun hl0 => aliveR_any _ hl0)).mono ?_); rintro e w3 ⟨rfl, hT1⟩) | (go_at_call 9; (with_reducible refine (oneR_call hT1 (fun hl1 => rfIs_v r specs R HR _ hl1)).mono ?_); rintro e w4 ⟨rfl, hT2⟩) | (go_at_call 10; (with_reducible refine (oneR_call hT2 (fun _ => rrIs_v r specs R HR _)).mono ?_); rintro e w5 ⟨rfl, hT3⟩))
   all_goals as_aux_lemma =>
    go_wp2
    go_ret
    exact ⟨ret_bool (by simp), hT3.2.1⟩
theorem refIs_law (r : Rf) (specs : Int) (w : World) (hl : Laid w) : Calls Tryz.prog 3 #[.agg r.cells, .int .i64 specs] w fun e w' => e = .returned (.bool true) ∧ Below w.heap.size w w' := lawRefIs_at r specs (refIs r specs) (Lib.hid rfl) w hl
set_option maxRecDepth 100000 in
set_option maxHeartbeats 1000000 in
theorem lawRefTexts_at (r : Rf) (R : ByteArray) (HR : Hid (B (refText r) = R)) (w : World) (hl : Laid w) :
    Calls Tryz.prog 4 #[.agg r.cells] w fun e w' => e = .returned (.bool true) ∧ Below w.heap.size w w' := by
  have hT : OneR w r (w.alloc (.cells r.cells TRf)) := ⟨hl.alloc _, (Below.refl _ _).alloc (Nat.le_refl _) _, heap_alloc_new w _⟩
  have hld := fun (w' : World) (h : w'.heap[w.heap.size]? = some (.cells r.cells TRf)) => load_ref r w.heap.size w' h
  go_enter Tryz.func4, Tryz.ntmps4
  go_wp2_with fail
  as_aux_lemma =>
   go_region_held3 (fun w' => Laid w' ∧ Below w.heap.size w w' ∧ w'.heap[w.heap.size]? = some (.cells r.cells TRf)) (exact OneR.open_ (by first | assumption | exact OneR.drew hT)) (first | (go_at_call 8; (with_reducible refine (oneR_call (OneR.drew hT) (fun hl0 => aliveR_any _ hl0)).mono ?_); rintro e w3 ⟨rfl, hT1⟩) | (go_at_call 11; (with_reducible refine (oneR_call hT1 (fun hl1 => rfText_is r R HR _ hl1)).mono ?_); rintro e w4 ⟨rfl, hT2⟩) | (go_at_call 12; (with_reducible refine (oneR_call hT2 (fun _ => (rrText_v r _).mono fun e w' h => ⟨by rw [h.1, HR.out], h.2⟩)).mono ?_); rintro e w5 ⟨rfl, hT3⟩))
   all_goals as_aux_lemma =>
    go_wp2
    go_ret
    exact ⟨ret_bool (by simp), hT3.2.1⟩
theorem refTexts_law (r : Rf) (w : World) (hl : Laid w) : Calls Tryz.prog 4 #[.agg r.cells] w fun e w' => e = .returned (.bool true) ∧ Below w.heap.size w w' := lawRefTexts_at r (B (refText r)) (Lib.hid rfl) w hl
end Go.Proofs.YtbiakbogpbncfaaGreatDoor
