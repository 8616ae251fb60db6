/- Walks: the statements' fixed calls of chapter 18. Conditions: LaidT. -/
import Derived.Test.YtnibonmeihdjbaaGreatDoorTParse
import Derived.Test.YtnibonmeihdjbaaGreatDoorTRParse
namespace Go.Proofs.YtnibonmeihdjbaaGreatDoor
set_option linter.all false
open Go.ChangeShapes Go.WideShapes Go.RowKit
theorem wpList_build_g {P : Program} {ops : Array Oper} {rest : List Oper} {o : Oper} {a : Act} {w : World} {Q : Exit → Act → World → Prop} (hw : Region.wanted o (yielded ops a.tmps) = true) (ty : TypeId) (i j : Nat) (x y : Operand) (ho : o.op = .build ty #[(i, x), (j, y)])
    (p q v : Value) (hx : a.eval x = p) (hy : a.eval y = q) (hv : (Instr.build ty #[(i, p), (j, q)]).run P w = .ok v w) (h : wpList P ops Q rest (a.put o.dst v) w) : wpList P ops Q (o :: rest) a w := by
  unfold wpList
  rw [if_pos hw]
  refine .inl ?_
  unfold Oper.wp execOp
  simp only [ho, List.map_toArray, List.map_cons, List.map_nil, hx, hy, Sem.run_bind, hv, Sem.run_pure, Result.andThen_ok]
  exact h
/-- A guarded operation that is not wanted. -/
theorem wpList_skip_eq {P : Program} {ops : Array Oper} {rest : List Oper} {o : Oper} {a : Act} {w : World} {Q : Exit → Act → World → Prop} (hw : Region.wanted o (yielded ops a.tmps) = false) : wpList P ops Q (o :: rest) a w = wpList P ops Q rest (a.put o.dst undef) w := by
  conv => lhs; unfold wpList
  rw [if_neg (by rw [hw]; simp)]
theorem wpList_build0_g {P : Program} {ops : Array Oper} {rest : List Oper} {o : Oper} {a : Act} {w : World} {Q : Exit → Act → World → Prop} (hw : Region.wanted o (yielded ops a.tmps) = true) (ty : TypeId) (ho : o.op = .build ty #[])
    (v : Value) (hv : (Instr.build ty #[]).run P w = .ok v w) (h : wpList P ops Q rest (a.put o.dst v) w) : wpList P ops Q (o :: rest) a w := by
  unfold wpList
  rw [if_pos hw]
  refine .inl ?_
  unfold Oper.wp execOp
  simp only [ho, List.map_toArray, List.map_nil, Sem.run_bind, hv, Sem.run_pure, Result.andThen_ok]
  exact h
theorem build_zero (w : World) : (Instr.build TTg #[]).run Tryz.prog w = .ok (.agg zeroT.cells) w := by kernel_rfl
theorem build_f1 (w : World) : (Instr.build TF #[(2, .int .i64 2), (3, .int .i64 1)]).run Tryz.prog w = .ok (.agg (Flt.cells ⟨0, 0, 2, 1, 0, 0, 0, ⟨#[]⟩, 0, 0, 0, 0, 0, 0, 0, 0⟩)) w := by kernel_rfl
theorem build_kf (k : Int) (f : Flt) (w : World) : (Instr.build TTg #[(0, .int .i64 k), (2, .agg f.cells)]).run Tryz.prog w = .ok (.agg (Tg.cells ⟨k, 0, f⟩)) w := by kernel_rfl
theorem ta1 : tgParse [100, 105, 101, 115, 32, 40, 111, 116, 104, 101, 114, 32, 99, 114, 101, 97, 116, 117, 114, 101, 41] = some ⟨3, 0, ⟨0, 0, 2, 1, 0, 0, 0, ⟨#[]⟩, 0, 0, 0, 0, 0, 0, 0, 0⟩⟩ := by kernel_rfl
theorem ta2 : tgParse [117, 112, 107, 101, 101, 112, 32, 121, 111, 117] = some ⟨10, 1, zeroF⟩ := by kernel_rfl
theorem ta3 : tgText ⟨10, 1, zeroF⟩ = [117, 112, 107, 101, 101, 112, 32, 121, 111, 117] := by kernel_rfl
theorem tParse_some (s : ByteArray) (r : Tg) (h : Hid (tgParse (L s) = some r)) (hs : s.size < 100000000) (w : World) (hl : LaidT w) : Calls Tryz.prog 15 #[.string s] w fun e w' => e = .returned (.tuple #[.agg r.cells, .int .i64 0]) ∧ Below w.heap.size w w' :=
  (tParse_any s w hl hs).mono fun e w' ⟨he, hb⟩ => ⟨by rw [he, h.out]; rfl, hb⟩
theorem tParse_none (s : ByteArray) (h : Hid (tgParse (L s) = none)) (hs : s.size < 100000000) (w : World) (hl : LaidT w) : Calls Tryz.prog 15 #[.string s] w fun e w' => e = .returned (.tuple #[.agg zeroT.cells, .int .i64 3]) ∧ Below w.heap.size w w' :=
  (tParse_any s w hl hs).mono fun e w' ⟨he, hb⟩ => ⟨by rw [he, h.out]; rfl, hb⟩
set_option maxRecDepth 100000 in
set_option maxHeartbeats 2000000 in
theorem aliveT_any (w0 : World) (hl : LaidT w0) :
    Calls Tryz.prog 8 #[] w0 fun e w' => e = .returned (.bool true) ∧ Below w0.heap.size w0 w' := by
  have k0 : Hid (Below w0.heap.size w0 w0) := Lib.hid (Below.refl _ _)
  have e1 : ∀ wx : World, (binOp .eql TTg (.agg (Tg.cells ⟨3, 0, ⟨0, 0, 2, 1, 0, 0, 0, ⟨#[]⟩, 0, 0, 0, 0, 0, 0, 0, 0⟩⟩)) (.agg (Tg.cells ⟨3, 0, ⟨0, 0, 2, 1, 0, 0, 0, ⟨#[]⟩, 0, 0, 0, 0, 0, 0, 0, 0⟩⟩))).run Tryz.prog wx = .ok (.bool true) wx := fun wx => (eq_tg _ _ wx).trans (by rw [tgEq_refl])
  have e2 : ∀ wx : World, (binOp .eql TTg (.agg (Tg.cells ⟨10, 1, zeroF⟩)) (.agg (Tg.cells ⟨10, 1, zeroF⟩))).run Tryz.prog wx = .ok (.bool true) wx := fun wx => (eq_tg _ _ wx).trans (by rw [tgEq_refl])
  have P1 : Hid (tgParse (L ⟨#[100, 105, 101, 115, 32, 40, 111, 116, 104, 101, 114, 32, 99, 114, 101, 97, 116, 117, 114, 101, 41]⟩) = some ⟨3, 0, ⟨0, 0, 2, 1, 0, 0, 0, ⟨#[]⟩, 0, 0, 0, 0, 0, 0, 0, 0⟩⟩) := Lib.hid ta1
  have P2 : Hid (tgParse (L ⟨#[117, 112, 107, 101, 101, 112, 32, 121, 111, 117]⟩) = some ⟨10, 1, zeroF⟩) := Lib.hid ta2
  have HT : Hid (B (tgText ⟨10, 1, zeroF⟩) = ⟨#[117, 112, 107, 101, 101, 112, 32, 121, 111, 117]⟩) := Lib.hid (by rw [ta3]; rfl)
  have HI : Hid (tgIs ⟨3, 0, ⟨0, 0, 2, 1, 0, 0, 0, ⟨#[]⟩, 0, 0, 0, 0, 0, 0, 0, 0⟩⟩ = true) := Lib.hid (by kernel_rfl)
  have HW : Hid (B (whoText 2) = ⟨#[111, 112, 112, 111, 110, 101, 110, 116, 115]⟩) := Lib.hid rfl
  go_enter Tryz.func8, Tryz.ntmps8
  go_wp2_with (first
    | (rw [wpList_skip_eq]; rotate_left; · rfl)
    | refine wpList_build_g rfl TTg 0 1 _ _ rfl (.int .i64 10) (.int .i64 1) (.agg (Tg.cells ⟨10, 1, zeroF⟩)) rfl rfl (build_kw _ _ _) ?_
    | refine wpList_build_g rfl TTg 0 2 _ _ rfl (.int .i64 3) (.agg (Flt.cells ⟨0, 0, 2, 1, 0, 0, 0, ⟨#[]⟩, 0, 0, 0, 0, 0, 0, 0, 0⟩)) (.agg (Tg.cells ⟨3, 0, ⟨0, 0, 2, 1, 0, 0, 0, ⟨#[]⟩, 0, 0, 0, 0, 0, 0, 0, 0⟩⟩)) rfl rfl (build_kf _ _ _) ?_
    | refine wpList_build_g rfl TF 2 3 _ _ rfl (.int .i64 2) (.int .i64 1) (.agg (Flt.cells ⟨0, 0, 2, 1, 0, 0, 0, ⟨#[]⟩, 0, 0, 0, 0, 0, 0, 0, 0⟩)) rfl rfl (build_f1 _) ?_
    | (go_at_call 11; (with_reducible refine (tgWho_is 2 ⟨#[111, 112, 112, 111, 110, 101, 110, 116, 115]⟩ HW _).mono ?_); rintro e wu ⟨rfl, rfl⟩)
    | (go_at_call 9; (with_reducible refine (tIs_v ⟨3, 0, ⟨0, 0, 2, 1, 0, 0, 0, ⟨#[]⟩, 0, 0, 0, 0, 0, 0, 0, 0⟩⟩ true HI _ hl5).mono ?_); rintro e w6 ⟨rfl, hb6⟩; have r6b := Lib.hid (blk_below2 hb6 r5b.out); have r6a := Lib.hid (blk_below2 hb6 r5a.out); have hl6 := hl5.below hb6; have k6 := Lib.hid (below_two k5.out hb6))
    | refine wpList_load_row_g (by rfl) TTg _ (by rfl) w1.heap.size (by rfl) TTg (Tg.cells ⟨3, 0, ⟨0, 0, 2, 1, 0, 0, 0, ⟨#[]⟩, 0, 0, 0, 0, 0, 0, 0, 0⟩⟩) (0, 0) _ r5a.out Tryz.underlying27 rfl infoTTg ?_
    | refine wpList_load_row_g (by rfl) TTg _ (by rfl) w3.heap.size (by rfl) TTg (Tg.cells ⟨10, 1, zeroF⟩) (0, 0) _ r5b.out Tryz.underlying27 rfl infoTTg ?_
    | (go_at_call 13; (with_reducible refine (tText_is ⟨10, 1, zeroF⟩ ⟨#[117, 112, 107, 101, 101, 112, 32, 121, 111, 117]⟩ HT _ hl4).mono ?_); rintro e w5 ⟨rfl, hb5⟩; have r5b := Lib.hid (blk_below2 hb5 r4b.out); have r5a := Lib.hid (blk_below2 hb5 r4a.out); have hl5 := hl4.below hb5; have k5 := Lib.hid (below_two k4.out hb5))
    | refine wpList_load_row_g (by rfl) TTg _ (by rfl) w1.heap.size (by rfl) TTg (Tg.cells ⟨3, 0, ⟨0, 0, 2, 1, 0, 0, 0, ⟨#[]⟩, 0, 0, 0, 0, 0, 0, 0, 0⟩⟩) (0, 0) _ r4a.out Tryz.underlying27 rfl infoTTg ?_
    | refine wpList_load_row_g (by rfl) TTg _ (by rfl) w3.heap.size (by rfl) TTg (Tg.cells ⟨10, 1, zeroF⟩) (0, 0) _ r4b.out Tryz.underlying27 rfl infoTTg ?_
    | (refine wpList_store_row (by rfl) TTg _ _ (by rfl) w3.heap.size (Tg.cells ⟨10, 1, zeroF⟩) (by rfl) (by rfl) TTg zeroT.cells (heap_alloc_new w3 _) infoTTg rfl (tcells_one _) ?_; change wpList _ _ _ _ _ (stored w3 TTg zeroT.cells (Tg.cells ⟨10, 1, zeroF⟩)); have r4b := Lib.hid (stored_new w3 TTg zeroT.cells (Tg.cells ⟨10, 1, zeroF⟩)); have r4a := Lib.hid (stored_old (t := TTg) (o := zeroT.cells) (cs := (Tg.cells ⟨10, 1, zeroF⟩)) r3a.out); have hl4 := hl3.below (stored_below w3 TTg zeroT.cells (Tg.cells ⟨10, 1, zeroF⟩)); have k4 := Lib.hid (k3.out.trans ((stored_below w3 TTg zeroT.cells (Tg.cells ⟨10, 1, zeroF⟩)).mono k3.out.size)); generalize stored w3 TTg zeroT.cells (Tg.cells ⟨10, 1, zeroF⟩) = w4 at *)
    | (go_at_call 15; (with_reducible refine (tParse_some _ _ P2 (by decide) _ hl2).mono ?_); rintro e w3 ⟨rfl, hb3⟩; have r3a := Lib.hid (blk_below2 hb3 r2a.out); have hl3 := hl2.below hb3; have k3 := Lib.hid (below_two k2.out hb3))
    | (refine wpList_store_row (by rfl) TTg _ _ (by rfl) w1.heap.size (Tg.cells ⟨3, 0, ⟨0, 0, 2, 1, 0, 0, 0, ⟨#[]⟩, 0, 0, 0, 0, 0, 0, 0, 0⟩⟩) (by rfl) (by rfl) TTg zeroT.cells (heap_alloc_new w1 _) infoTTg rfl (tcells_one _) ?_; change wpList _ _ _ _ _ (stored w1 TTg zeroT.cells (Tg.cells ⟨3, 0, ⟨0, 0, 2, 1, 0, 0, 0, ⟨#[]⟩, 0, 0, 0, 0, 0, 0, 0, 0⟩⟩)); have r2a := Lib.hid (stored_new w1 TTg zeroT.cells (Tg.cells ⟨3, 0, ⟨0, 0, 2, 1, 0, 0, 0, ⟨#[]⟩, 0, 0, 0, 0, 0, 0, 0, 0⟩⟩)); have hl2 := hl1.below (stored_below w1 TTg zeroT.cells (Tg.cells ⟨3, 0, ⟨0, 0, 2, 1, 0, 0, 0, ⟨#[]⟩, 0, 0, 0, 0, 0, 0, 0, 0⟩⟩)); have k2 := Lib.hid (k1.out.trans ((stored_below w1 TTg zeroT.cells (Tg.cells ⟨3, 0, ⟨0, 0, 2, 1, 0, 0, 0, ⟨#[]⟩, 0, 0, 0, 0, 0, 0, 0, 0⟩⟩)).mono k1.out.size)); generalize stored w1 TTg zeroT.cells (Tg.cells ⟨3, 0, ⟨0, 0, 2, 1, 0, 0, 0, ⟨#[]⟩, 0, 0, 0, 0, 0, 0, 0, 0⟩⟩) = w2 at *)
    | (go_at_call 15; (with_reducible refine (tParse_some _ _ P1 (by decide) _ hl).mono ?_); rintro e w1 ⟨rfl, hb1⟩; have hl1 := hl.below hb1; have k1 := Lib.hid (below_two k0.out hb1)))
  go_ret
  exact ⟨rfl, k6.out⟩
end Go.Proofs.YtnibonmeihdjbaaGreatDoor
