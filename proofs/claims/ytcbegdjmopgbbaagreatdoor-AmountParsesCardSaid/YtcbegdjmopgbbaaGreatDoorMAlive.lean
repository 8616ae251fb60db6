/- Walks: the statements' fixed calls of chapter 14. Conditions: LaidM. -/
import Derived.Test.YtcbegdjmopgbbaaGreatDoorMParseB
namespace Go.Proofs.YtcbegdjmopgbbaaGreatDoor
set_option linter.all false
open Go.ChangeShapes Go.WideShapes Go.RowKit
theorem wpList_build3_g {P : Program} {ops : Array Oper} {rest : List Oper} {o : Oper} {a : Act} {w : World} {Q : Exit → Act → World → Prop} (hw : Region.wanted o (yielded ops a.tmps) = true) (ty : TypeId) (i j k : Nat) (x y z : Operand) (ho : o.op = .build ty #[(i, x), (j, y), (k, z)])
    (p q r v : Value) (hx : a.eval x = p) (hy : a.eval y = q) (hz : a.eval z = r) (hv : (Instr.build ty #[(i, p), (j, q), (k, r)]).run P w = .ok v w) (h : wpList P ops Q rest (a.put o.dst v) w) : wpList P ops Q (o :: rest) a w := by
  unfold wpList
  rw [if_pos hw]
  refine .inl ?_
  unfold Oper.wp execOp
  simp only [ho, List.map_toArray, List.map_cons, List.map_nil, hx, hy, hz, Sem.run_bind, hv, Sem.run_pure, Result.andThen_ok]
  exact h
theorem wpList_build1_g {P : Program} {ops : Array Oper} {rest : List Oper} {o : Oper} {a : Act} {w : World} {Q : Exit → Act → World → Prop} (hw : Region.wanted o (yielded ops a.tmps) = true) (ty : TypeId) (i : Nat) (x : Operand) (ho : o.op = .build ty #[(i, x)])
    (p v : Value) (hx : a.eval x = p) (hv : (Instr.build ty #[(i, p)]).run P w = .ok v w) (h : wpList P ops Q rest (a.put o.dst v) w) : wpList P ops Q (o :: rest) a w := by
  unfold wpList
  rw [if_pos hw]
  refine .inl ?_
  unfold Oper.wp execOp
  simp only [ho, List.map_toArray, List.map_cons, List.map_nil, hx, Sem.run_bind, hv, Sem.run_pure, Result.andThen_ok]
  exact h
theorem build_fm (w : World) : (Instr.build TF #[(1, .int .i64 1), (3, .int .i64 1)]).run Tryz.prog w = .ok (.agg (Flt.cells ⟨0, 1, 0, 1, 0, 0, 0, ⟨#[]⟩, 0, 0, 0, 0, 0, 0, 0, 0⟩)) w := by kernel_rfl
theorem build_amf (k n : Int) (f : Flt) (w : World) : (Instr.build TAm #[(0, .int .i64 k), (1, .int .i64 n), (3, .agg f.cells)]).run Tryz.prog w = .ok (.agg (Am.cells ⟨k, n, 0, f⟩)) w := by kernel_rfl
theorem ma1 : amParse [50, 42, 99, 111, 117, 110, 116, 40, 121, 111, 117, 114, 115, 32, 99, 114, 101, 97, 116, 117, 114, 101, 41] = some ⟨2, 2, 0, ⟨0, 1, 0, 1, 0, 0, 0, ⟨#[]⟩, 0, 0, 0, 0, 0, 0, 0, 0⟩⟩ := by kernel_rfl
theorem ma2 : amParse [49, 42, 99, 111, 117, 110, 116, 40, 97, 110, 121, 41] = none := by kernel_rfl
theorem ma3 : amParse [99, 111, 117, 110, 116, 40, 97, 110, 121, 41] = some ⟨2, 1, 0, zeroF⟩ := by kernel_rfl
theorem ma4 : amText ⟨0, 3, 0, zeroF⟩ = [51] := by kernel_rfl
set_option maxRecDepth 100000 in
set_option maxHeartbeats 1000000 in
theorem aliveM_any (w0 : World) (hl : LaidM w0) :
    Calls Tryz.prog 8 #[] w0 fun e w' => e = .returned (.bool true) ∧ Below w0.heap.size w0 w' := by
  have k0 : Hid (Below w0.heap.size w0 w0) := Lib.hid (Below.refl _ _)
  have e1 : ∀ wx : World, (binOp .eql TAm (.agg (Am.cells ⟨2, 2, 0, ⟨0, 1, 0, 1, 0, 0, 0, ⟨#[]⟩, 0, 0, 0, 0, 0, 0, 0, 0⟩⟩)) (.agg (Am.cells ⟨2, 2, 0, ⟨0, 1, 0, 1, 0, 0, 0, ⟨#[]⟩, 0, 0, 0, 0, 0, 0, 0, 0⟩⟩))).run Tryz.prog wx = .ok (.bool true) wx := fun wx => (eq_am _ _ wx).trans (by rw [amEq_refl])
  have P1 : Hid (amParse (L ⟨#[50, 42, 99, 111, 117, 110, 116, 40, 121, 111, 117, 114, 115, 32, 99, 114, 101, 97, 116, 117, 114, 101, 41]⟩) = some ⟨2, 2, 0, ⟨0, 1, 0, 1, 0, 0, 0, ⟨#[]⟩, 0, 0, 0, 0, 0, 0, 0, 0⟩⟩) := Lib.hid ma1
  have P2 : Hid (amParse (L ⟨#[49, 42, 99, 111, 117, 110, 116, 40, 97, 110, 121, 41]⟩) = none) := Lib.hid ma2
  have P3 : Hid (amParse (L ⟨#[99, 111, 117, 110, 116, 40, 97, 110, 121, 41]⟩) = some ⟨2, 1, 0, zeroF⟩) := Lib.hid ma3
  have HT : Hid (B (amText ⟨0, 3, 0, zeroF⟩) = ⟨#[51]⟩) := Lib.hid (by rw [ma4]; rfl)
  go_enter Tryz.func8, Tryz.ntmps8
  go_wp2_with (first
    | (rw [wpList_skip_eq]; rotate_left; · rfl)
    | refine wpList_build1_g (by rfl) TAm 1 _ (by rfl) (.int .i64 3) (.agg (Am.cells ⟨0, 3, 0, zeroF⟩)) (by rfl) (build_an _ _) ?_
    | refine wpList_build3_g (by rfl) TAm 0 1 3 _ _ _ (by rfl) (.int .i64 2) (.int .i64 2) (.agg (Flt.cells ⟨0, 1, 0, 1, 0, 0, 0, ⟨#[]⟩, 0, 0, 0, 0, 0, 0, 0, 0⟩)) (.agg (Am.cells ⟨2, 2, 0, ⟨0, 1, 0, 1, 0, 0, 0, ⟨#[]⟩, 0, 0, 0, 0, 0, 0, 0, 0⟩⟩)) (by rfl) (by rfl) (by rfl) (build_amf _ _ _ _) ?_
    | refine wpList_build_g (by rfl) TF 1 3 _ _ (by rfl) (.int .i64 1) (.int .i64 1) (.agg (Flt.cells ⟨0, 1, 0, 1, 0, 0, 0, ⟨#[]⟩, 0, 0, 0, 0, 0, 0, 0, 0⟩)) (by rfl) (by rfl) (build_fm _) ?_
    | (go_at_call 11; (with_reducible refine (aText_is ⟨0, 3, 0, zeroF⟩ ⟨#[51]⟩ HT _ hl6).mono ?_); rintro e w7 ⟨rfl, hb7⟩; have r7c := Lib.hid (blk_below2 hb7 r6c.out); have r7b := Lib.hid (blk_below2 hb7 r6b.out); have r7a := Lib.hid (blk_below2 hb7 r6a.out); have hl7 := hl6.below hb7; have k7 := Lib.hid (below_two k6.out hb7))
    | refine wpList_load_row_g (by rfl) TAm _ (by rfl) w1.heap.size (by rfl) TAm (Am.cells ⟨2, 2, 0, ⟨0, 1, 0, 1, 0, 0, 0, ⟨#[]⟩, 0, 0, 0, 0, 0, 0, 0, 0⟩⟩) (0, 0) _ r6a.out Tryz.underlying27 rfl infoTAm ?_
    | refine wpList_load_row_g (by rfl) TAm _ (by rfl) w3.heap.size (by rfl) TAm zeroA.cells (0, 0) _ r6b.out Tryz.underlying27 rfl infoTAm ?_
    | refine wpList_load_row_g (by rfl) TAm _ (by rfl) w5.heap.size (by rfl) TAm (Am.cells ⟨2, 1, 0, zeroF⟩) (0, 0) _ r6c.out Tryz.underlying27 rfl infoTAm ?_
    | (refine wpList_store_row (by rfl) TAm _ _ (by rfl) w5.heap.size (Am.cells ⟨2, 1, 0, zeroF⟩) (by rfl) (by rfl) TAm zeroA.cells (heap_alloc_new w5 _) infoTAm rfl (acells_one _) ?_; change wpList _ _ _ _ _ (stored w5 TAm zeroA.cells (Am.cells ⟨2, 1, 0, zeroF⟩)); have r6c := Lib.hid (stored_new w5 TAm zeroA.cells (Am.cells ⟨2, 1, 0, zeroF⟩)); have r6b := Lib.hid (stored_old (t := TAm) (o := zeroA.cells) (cs := (Am.cells ⟨2, 1, 0, zeroF⟩)) r5b.out); have r6a := Lib.hid (stored_old (t := TAm) (o := zeroA.cells) (cs := (Am.cells ⟨2, 1, 0, zeroF⟩)) r5a.out); have hl6 := hl5.below (stored_below w5 TAm zeroA.cells (Am.cells ⟨2, 1, 0, zeroF⟩)); have k6 := Lib.hid (k5.out.trans ((stored_below w5 TAm zeroA.cells (Am.cells ⟨2, 1, 0, zeroF⟩)).mono k5.out.size)); have qc : World.cell? (stored w5 TAm zeroA.cells (Am.cells ⟨2, 1, 0, zeroF⟩)) ⟨w5.heap.size, 1, none⟩ = some (.int .i64 1) := cell_of_row _ _ 1 _ _ (0, 0) r6c.out; generalize stored w5 TAm zeroA.cells (Am.cells ⟨2, 1, 0, zeroF⟩) = w6 at *)
    | (go_at_call 13; (with_reducible refine (aParse_some _ _ P3 (by decide) _ hl4).mono ?_); rintro e w5 ⟨rfl, hb5⟩; have r5b := Lib.hid (blk_below2 hb5 r4b.out); have r5a := Lib.hid (blk_below2 hb5 r4a.out); have hl5 := hl4.below hb5; have k5 := Lib.hid (below_two k4.out hb5))
    | (refine wpList_store_row (by rfl) TAm _ _ (by rfl) w3.heap.size zeroA.cells (by rfl) (by rfl) TAm zeroA.cells (heap_alloc_new w3 _) infoTAm rfl (acells_one _) ?_; change wpList _ _ _ _ _ (stored w3 TAm zeroA.cells zeroA.cells); have r4b := Lib.hid (stored_new w3 TAm zeroA.cells zeroA.cells); have r4a := Lib.hid (stored_old (t := TAm) (o := zeroA.cells) (cs := zeroA.cells) r3a.out); have hl4 := hl3.below (stored_below w3 TAm zeroA.cells zeroA.cells); have k4 := Lib.hid (k3.out.trans ((stored_below w3 TAm zeroA.cells zeroA.cells).mono k3.out.size)); generalize stored w3 TAm zeroA.cells zeroA.cells = w4 at *)
    | (go_at_call 13; (with_reducible refine (aParse_none _ P2 (by decide) _ hl2).mono ?_); rintro e w3 ⟨rfl, hb3⟩; have r3a := Lib.hid (blk_below2 hb3 r2a.out); have hl3 := hl2.below hb3; have k3 := Lib.hid (below_two k2.out hb3))
    | (refine wpList_store_row (by rfl) TAm _ _ (by rfl) w1.heap.size (Am.cells ⟨2, 2, 0, ⟨0, 1, 0, 1, 0, 0, 0, ⟨#[]⟩, 0, 0, 0, 0, 0, 0, 0, 0⟩⟩) (by rfl) (by rfl) TAm zeroA.cells (heap_alloc_new w1 _) infoTAm rfl (acells_one _) ?_; change wpList _ _ _ _ _ (stored w1 TAm zeroA.cells (Am.cells ⟨2, 2, 0, ⟨0, 1, 0, 1, 0, 0, 0, ⟨#[]⟩, 0, 0, 0, 0, 0, 0, 0, 0⟩⟩)); have r2a := Lib.hid (stored_new w1 TAm zeroA.cells (Am.cells ⟨2, 2, 0, ⟨0, 1, 0, 1, 0, 0, 0, ⟨#[]⟩, 0, 0, 0, 0, 0, 0, 0, 0⟩⟩)); have hl2 := hl1.below (stored_below w1 TAm zeroA.cells (Am.cells ⟨2, 2, 0, ⟨0, 1, 0, 1, 0, 0, 0, ⟨#[]⟩, 0, 0, 0, 0, 0, 0, 0, 0⟩⟩)); have k2 := Lib.hid (k1.out.trans ((stored_below w1 TAm zeroA.cells (Am.cells ⟨2, 2, 0, ⟨0, 1, 0, 1, 0, 0, 0, ⟨#[]⟩, 0, 0, 0, 0, 0, 0, 0, 0⟩⟩)).mono k1.out.size)); generalize stored w1 TAm zeroA.cells (Am.cells ⟨2, 2, 0, ⟨0, 1, 0, 1, 0, 0, 0, ⟨#[]⟩, 0, 0, 0, 0, 0, 0, 0, 0⟩⟩) = w2 at *)
    | (go_at_call 13; (with_reducible refine (aParse_some _ _ P1 (by decide) _ hl).mono ?_); rintro e w1 ⟨rfl, hb1⟩; have hl1 := hl.below hb1; have k1 := Lib.hid (below_two k0.out hb1)))
  go_ret
  exact ⟨rfl, k7.out⟩
end Go.Proofs.YtcbegdjmopgbbaaGreatDoor
