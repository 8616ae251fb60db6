/- TriggerText: the program's answers are the reference's. Conditions: LaidT. -/
import Derived.Test.YtnibonmeihdjbaaGreatDoorTAlive
import Derived.Deep.RegionHeld3
namespace Go.Proofs.YtnibonmeihdjbaaGreatDoor
set_option linter.all false
open Go.ChangeShapes Go.WideShapes Go.RowKit
/-- A block holds a trigger; nothing older has turned. -/
def OneT (w : World) (r : Tg) (w' : World) : Prop := LaidT w' ∧ Below w.heap.size w w' ∧ w'.heap[w.heap.size]? = some (.cells r.cells TTg)
theorem OneT.below {w w1 w2 : World} {r : Tg} (h : OneT w r w1) (hb : Below w1.heap.size w1 w2) : OneT w r w2 := ⟨h.1.below hb, below_two h.2.1 hb, blk_below2 hb h.2.2⟩
theorem OneT.drew {w w1 : World} {r : Tg} (h : OneT w r w1) : OneT w r w1.drew := h.below (Below.refl _ _).drew
theorem OneT.open_ {w w1 : World} {r : Tg} (h : OneT w r w1) : LaidT w1 ∧ Below w.heap.size w w1 ∧ w1.heap[w.heap.size]? = some (.cells r.cells TTg) ∧ w1.cell? ⟨w.heap.size, 1, none⟩ = some (.int .i64 r.who) := ⟨h.1, h.2.1, h.2.2, cell_of_row _ _ 1 _ _ (0, 0) h.2.2⟩
theorem oneT_call {w w1 : World} {f : Tg} {k : Nat} {args : Array Value} {v : Value} (h : OneT w f w1) (hc : LaidT w1 → Calls Tryz.prog k args w1 fun e w' => e = .returned v ∧ Below w1.heap.size w1 w') : Calls Tryz.prog k args w1 fun e w' => e = .returned v ∧ OneT w f w' :=
  (hc h.1).mono fun e w' ⟨he, hb⟩ => ⟨he, h.below hb⟩
theorem oneT_still {w w1 : World} {f : Tg} {k : Nat} {args : Array Value} {v : Value} (h : OneT w f w1) (hc : Calls Tryz.prog k args w1 fun e w' => e = .returned v ∧ w1 = w') : Calls Tryz.prog k args w1 fun e w' => e = .returned v ∧ OneT w f w' :=
  hc.mono fun e w' ⟨he, hb⟩ => ⟨he, hb ▸ h⟩
/-- A load that the walk does not open. -/
def rowLdT (t : TypeId) (p : Value) : Sem Value := Instr.loadAt t p
theorem rowLdT_fold (p : Value) : Instr.loadAt 27 p = rowLdT 27 p := rfl
theorem load_tg (r : Tg) (g : Nat) (w : World) (h : w.heap[g]? = some (.cells r.cells TTg)) : (rowLdT 27 (.pointer (some ⟨g, 0, none⟩))).run Tryz.prog w = .ok (.agg r.cells) w := by
  simp only [rowLdT, Instr.loadAt, Instr.sureAddr, Sem.run_bind, Sem.run_pure, Result.andThen_ok, run_loadVar_row w g TTg TTg r.cells (0, 0) _ h Tryz.underlying27 rfl infoTTg]
attribute [local go_sem ↓] rowLdT_fold
set_option maxRecDepth 100000 in
set_option maxHeartbeats 2000000 in
theorem tText_law_at (t : Tg) (R : Bool) (T W : ByteArray) (HR : Hid (tgIs t = R)) (HT : Hid (B (tgText t) = T)) (HW : Hid (B (whoText t.who) = W)) (hs : ¬ (100 : Int) < t.f.sub.size) (w : World) (hl : LaidT w) :
    Calls Tryz.prog 3 #[.agg t.cells] w fun e w' => e = .returned (.bool true) ∧ Below w.heap.size w w' := by
  have hT : OneT w t (w.alloc (.cells t.cells TTg)) := ⟨hl.alloc _, (Below.refl _ _).alloc (Nat.le_refl _) _, heap_alloc_new w _⟩
  have hld := fun (w' : World) (h : w'.heap[w.heap.size]? = some (.cells t.cells TTg)) => load_tg t w.heap.size w' h
  have q9 : (w.alloc (.cells t.cells TTg)).cell? ⟨w.heap.size, 9, none⟩ = some (.string t.f.sub) := cell_of_row _ _ 9 _ _ (0, 0) hT.2.2
  go_enter Tryz.func3, Tryz.ntmps3
  go_wp2_with fail
  as_aux_lemma =>
   go_region_held3 (fun w' => LaidT w' ∧ Below w.heap.size w w' ∧ w'.heap[w.heap.size]? = some (.cells t.cells TTg) ∧ w'.cell? ⟨w.heap.size, 1, none⟩ = some (.int .i64 t.who)) (exact OneT.open_ (by first | assumption | exact OneT.drew hT)) (first | (go_at_call 9; (with_reducible refine (oneT_call (by first | exact hT3 | exact OneT.drew hT3 | exact OneT.drew hT) (fun hl1 => tIs_v t R HR _ hl1)).mono ?_); rintro e w4 ⟨rfl, hT3⟩) | (go_at_call 10; (with_reducible refine (oneT_call (by first | exact hT3 | exact OneT.drew hT3 | exact OneT.drew hT) (fun hl1 => rTIs_v t R HR _)).mono ?_); rintro e w4 ⟨rfl, hT3⟩) | (go_at_call 11; (with_reducible refine (oneT_still (by first | exact hT3 | exact OneT.drew hT3 | exact OneT.drew hT) (tgWho_is t.who W HW _)).mono ?_); rintro e w4 ⟨rfl, hT3⟩) | (go_at_call 12; (with_reducible refine (oneT_still (by first | exact hT3 | exact OneT.drew hT3 | exact OneT.drew hT) (rTWho_is t.who W HW _)).mono ?_); rintro e w4 ⟨rfl, hT3⟩) | (go_at_call 13; (with_reducible refine (oneT_call (by first | exact hT3 | exact OneT.drew hT3 | exact OneT.drew hT) (fun hl1 => tText_is t T HT _ hl1)).mono ?_); rintro e w4 ⟨rfl, hT3⟩) | (go_at_call 14; (with_reducible refine (oneT_call (by first | exact hT3 | exact OneT.drew hT3 | exact OneT.drew hT) (fun hl1 => rTText_is t T HT _)).mono ?_); rintro e w4 ⟨rfl, hT3⟩) | (go_at_call 8; (with_reducible refine (oneT_call (by first | exact hT3 | exact OneT.drew hT3 | exact OneT.drew hT) (fun hl1 => aliveT_any _ hl1)).mono ?_); rintro e w4 ⟨rfl, hT3⟩))
   all_goals as_aux_lemma =>
    go_wp2
    go_ret
    exact ⟨ret_bool (by simp), hT3.2.1⟩
theorem triggerText_law (t : Tg) (w : World) (hl : LaidT w) : Calls Tryz.prog 3 #[.agg t.cells] w fun e w' => e = .returned (.bool true) ∧ Below w.heap.size w w' := by
  by_cases hs : (100 : Int) < t.f.sub.size
  · have hl1 := hl.alloc (.cells t.cells TTg)
    have q9 : (w.alloc (.cells t.cells TTg)).cell? ⟨w.heap.size, 9, none⟩ = some (.string t.f.sub) := cell_of_row _ _ 9 _ _ (0, 0) (heap_alloc_new w _)
    go_enter Tryz.func3, Tryz.ntmps3
    go_wp2_with (go_at_call 8; (with_reducible refine (aliveT_any _ hl1).mono ?_); rintro e w1 ⟨rfl, hb1⟩)
    go_ret
    exact ⟨rfl, below_two ((Below.refl _ _).alloc (Nat.le_refl _) _) hb1⟩
  · exact tText_law_at t _ _ _ (Lib.hid rfl) (Lib.hid rfl) (Lib.hid rfl) hs w hl
end Go.Proofs.YtnibonmeihdjbaaGreatDoor
