/- AmountIs: the program's answers are the reference's. Conditions: LaidM. -/
import Derived.Test.YtcbegdjmopgbbaaGreatDoorMAlive
import Derived.Test.YtcbegdjmopgbbaaGreatDoorMRef
import Derived.Deep.RegionHeld3
namespace Go.Proofs.YtcbegdjmopgbbaaGreatDoor
set_option linter.all false
open Go.ChangeShapes Go.WideShapes Go.RowKit
/-- A block holds an amount; nothing older has turned. -/
def OneM (w : World) (r : Am) (w' : World) : Prop := LaidM w' ∧ Below w.heap.size w w' ∧ w'.heap[w.heap.size]? = some (.cells r.cells TAm)
theorem OneM.below {w w1 w2 : World} {r : Am} (h : OneM w r w1) (hb : Below w1.heap.size w1 w2) : OneM w r w2 := ⟨h.1.below hb, below_two h.2.1 hb, blk_below2 hb h.2.2⟩
theorem OneM.drew {w w1 : World} {r : Am} (h : OneM w r w1) : OneM w r w1.drew := h.below (Below.refl _ _).drew
theorem OneM.open_ {w w1 : World} {r : Am} (h : OneM w r w1) : LaidM w1 ∧ Below w.heap.size w w1 ∧ w1.heap[w.heap.size]? = some (.cells r.cells TAm) := h
theorem oneM_call {w w1 : World} {f : Am} {k : Nat} {args : Array Value} {v : Value} (h : OneM w f w1) (hc : LaidM w1 → Calls Tryz.prog k args w1 fun e w' => e = .returned v ∧ Below w1.heap.size w1 w') : Calls Tryz.prog k args w1 fun e w' => e = .returned v ∧ OneM w f w' :=
  (hc h.1).mono fun e w' ⟨he, hb⟩ => ⟨he, h.below hb⟩
/-- A load that the walk does not open. -/
def rowLdM (t : TypeId) (p : Value) : Sem Value := Instr.loadAt t p
theorem rowLdM_fold (p : Value) : Instr.loadAt 27 p = rowLdM 27 p := rfl
theorem load_am (r : Am) (g : Nat) (w : World) (h : w.heap[g]? = some (.cells r.cells TAm)) : (rowLdM 27 (.pointer (some ⟨g, 0, none⟩))).run Tryz.prog w = .ok (.agg r.cells) w := by
  simp only [rowLdM, Instr.loadAt, Instr.sureAddr, Sem.run_bind, Sem.run_pure, Result.andThen_ok, run_loadVar_row w g TAm TAm r.cells (0, 0) _ h Tryz.underlying27 rfl infoTAm]
attribute [local go_sem ↓] rowLdM_fold
set_option maxRecDepth 100000 in
set_option maxHeartbeats 2000000 in
theorem aIs_law_at (a : Am) (R : Bool) (T : ByteArray) (HR : Hid (amIs a = R)) (HT : Hid (B (amText a) = T)) (hs : ¬ (100 : Int) < a.f.sub.size) (w : World) (hl : LaidM w) :
    Calls Tryz.prog 3 #[.agg a.cells] w fun e w' => e = .returned (.bool true) ∧ Below w.heap.size w w' := by
  have hT : OneM w a (w.alloc (.cells a.cells TAm)) := ⟨hl.alloc _, (Below.refl _ _).alloc (Nat.le_refl _) _, heap_alloc_new w _⟩
  have hld := fun (w' : World) (h : w'.heap[w.heap.size]? = some (.cells a.cells TAm)) => load_am a w.heap.size w' h
  have q10 : (w.alloc (.cells a.cells TAm)).cell? ⟨w.heap.size, 10, none⟩ = some (.string a.f.sub) := cell_of_row _ _ 10 _ _ (0, 0) hT.2.2
  go_enter Tryz.func3, Tryz.ntmps3
  go_wp2_with fail
  as_aux_lemma =>
   go_region_held3 (fun w' => LaidM w' ∧ Below w.heap.size w w' ∧ w'.heap[w.heap.size]? = some (.cells a.cells TAm)) (exact OneM.open_ (by first | assumption | exact OneM.drew hT)) (first | (go_at_call 9; (with_reducible refine (oneM_call (by first | exact hT3 | exact OneM.drew hT3 | exact OneM.drew hT) (fun hl1 => aIs_v a R HR _ hl1)).mono ?_); rintro e w4 ⟨rfl, hT3⟩) | (go_at_call 10; (with_reducible refine (oneM_call (by first | exact hT3 | exact OneM.drew hT3 | exact OneM.drew hT) (fun hl1 => rAIs_v a R HR _)).mono ?_); rintro e w4 ⟨rfl, hT3⟩) | (go_at_call 11; (with_reducible refine (oneM_call (by first | exact hT3 | exact OneM.drew hT3 | exact OneM.drew hT) (fun hl1 => aText_is a T HT _ hl1)).mono ?_); rintro e w4 ⟨rfl, hT3⟩) | (go_at_call 12; (with_reducible refine (oneM_call (by first | exact hT3 | exact OneM.drew hT3 | exact OneM.drew hT) (fun hl1 => rAText_is a T HT _)).mono ?_); rintro e w4 ⟨rfl, hT3⟩) | (go_at_call 8; (with_reducible refine (oneM_call (by first | exact hT3 | exact OneM.drew hT3 | exact OneM.drew hT) (fun hl1 => aliveM_any _ hl1)).mono ?_); rintro e w4 ⟨rfl, hT3⟩))
   all_goals as_aux_lemma =>
    go_wp2
    go_ret
    exact ⟨ret_bool (by simp), hT3.2.1⟩
theorem amountIs_law (a : Am) (w : World) (hl : LaidM w) : Calls Tryz.prog 3 #[.agg a.cells] w fun e w' => e = .returned (.bool true) ∧ Below w.heap.size w w' := by
  by_cases hs : (100 : Int) < a.f.sub.size
  · have hl1 := hl.alloc (.cells a.cells TAm)
    have q10 : (w.alloc (.cells a.cells TAm)).cell? ⟨w.heap.size, 10, none⟩ = some (.string a.f.sub) := cell_of_row _ _ 10 _ _ (0, 0) (heap_alloc_new w _)
    go_enter Tryz.func3, Tryz.ntmps3
    go_wp2_with (go_at_call 8; (with_reducible refine (aliveM_any _ hl1).mono ?_); rintro e w1 ⟨rfl, hb1⟩)
    go_ret
    exact ⟨rfl, below_two ((Below.refl _ _).alloc (Nat.le_refl _) _) hb1⟩
  · exact aIs_law_at a _ _ (Lib.hid rfl) (Lib.hid rfl) hs w hl
end Go.Proofs.YtcbegdjmopgbbaaGreatDoor
