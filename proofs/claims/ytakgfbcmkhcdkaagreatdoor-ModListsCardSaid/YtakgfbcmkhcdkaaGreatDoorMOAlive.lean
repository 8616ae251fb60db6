/- Walks: package cardgamelaw15: alive, short. Conditions: Laid. -/
import Derived.Test.YtakgfbcmkhcdkaaGreatDoorMOTrA
namespace Go.Proofs.YtakgfbcmkhcdkaaGreatDoor
set_option linter.all false
open Go.ChangeShapes Go.WideShapes Go.RowKit
attribute [local irreducible] wpList Code.wp Calls
theorem parseM_pt (w : World) (hl : Laid w) : Calls Tryz.prog 18 #[.string ⟨#[112, 116, 43, 61, 50, 47, 45, 49]⟩] w fun e w' => e = .returned (.tuple #[.agg (Md.cells (numM 13 2 (-1))), .int .i64 0]) ∧ Below w.heap.size w w' :=
  mdParse_some [112, 116, 43, 61, 50, 47, 45, 49] (by decide) (numM 13 2 (-1)) (Lib.hid (by kernel_rfl)) w hl
theorem listM {w0 w : World} {rows : List Row} (hS : St Laid w0 rows w) : Calls Tryz.prog 24 #[.string ⟨#[99, 111, 110, 116, 114, 111, 108, 44, 32, 98, 108, 97, 110, 107]⟩] w fun e w' => ∃ g c cur, e = .returned (.tuple #[.slice (some ⟨g, 0, none⟩) 2 c, .int .i64 0]) ∧ cur[20]? = some (.int .i64 10) ∧ St Laid w0 ((g, cur, TMd) :: rows) w' := by
  refine (parseList_any [99, 111, 110, 116, 114, 111, 108, 44, 32, 98, 108, 97, 110, 107] (by decide) w hS.laid).mono ?_
  rintro e w' ⟨hb, h⟩
  have hp : mlParse [99, 111, 110, 116, 114, 111, 108, 44, 32, 98, 108, 97, 110, 107] = some [numM 1 0 0, numM 10 0 0] := by kernel_rfl
  rcases h with ⟨h1, _⟩ | ⟨l, v, h1, rfl, own⟩
  · rw [hp] at h1; cases h1
  · rw [hp] at h1
    obtain rfl := Option.some.inj h1
    rcases own.2 with ⟨_, h0⟩ | ⟨g, cap, cur, rfl, hbs, hg, hn, hcap, hcs, htk⟩
    · cases h0
    · refine ⟨g, cap, cur, rfl, ?_, hS.grow hb hg hbs⟩
      have e := congrArg (fun z => z[20]?) htk
      have e2 : (mdFlat [numM 1 0 0, numM 10 0 0])[20]? = some (.int .i64 10) := by kernel_rfl
      simp only [e2] at e
      simpa using e
theorem textM_none (w : World) (hl : Laid w) : Calls Tryz.prog 14 #[.agg (Md.cells ⟨6, zeroM.n, zeroM.m, zeroM.sub, zeroM.f⟩)] w fun e w' => e = .returned (.string (B [99, 111, 108, 111, 114, 115, 61, 110, 111, 110, 101])) ∧ Below w.heap.size w w' :=
  mdText_is _ _ (Lib.hid (by kernel_rfl)) w hl
theorem stageM14 (w : World) : Calls Tryz.prog 16 #[.int .i64 14] w fun e w' => e = .returned (.int .i64 8) ∧ w = w' := mdStage_any 14 w
theorem trB1 : ∀ w : World, (Instr.build 45 ([(4, .int .i64 1), (5, .int .i64 1)] : List (Nat × Value)).toArray).run Tryz.prog w = .ok (.agg (Tr.cells (trN 1 1 0))) w := fun _ => by kernel_rfl
theorem trB2 : ∀ w : World, (Instr.build 45 ([(6, .int .i64 1)] : List (Nat × Value)).toArray).run Tryz.prog w = .ok (.agg (Tr.cells (trN 0 0 1))) w := fun _ => by kernel_rfl
theorem applyB' (w : World) (hl : Laid w) : Calls Tryz.prog 22 #[.agg (Tr.cells (trN 0 0 1)), .agg (Md.cells ⟨8, 4, zeroM.m, zeroM.sub, zeroM.f⟩), .int .i64 0, .int .i64 0] w fun e w' => e = .returned (.agg (Tr.cells (trN 0 0 5))) ∧ Below w.heap.size w w' := applyB w hl
set_option maxRecDepth 100000 in
set_option maxHeartbeats 4000000 in
theorem aliveO_any (w : World) (hl : Laid w) : Calls Tryz.prog 11 #[] w fun e w' => e = .returned (.bool true) ∧ Below w.heap.size w w' := by
  have heq := fun (wx : World) => (eq_md (numM 13 2 (-1)) ⟨13, 2, -1, zeroM.sub, zeroM.f⟩ wx).trans (by rw [show mdEq (numM 13 2 (-1)) ⟨13, 2, -1, zeroM.sub, zeroM.f⟩ = true by kernel_rfl])
  have hS := St.start hl keepsL
  go_enter Tryz.func11, Tryz.ntmps11
  go_wp2_with (first | (go_at_call 18; (with_reducible refine (St.call hS fun hl => parseM_pt _ hl).mono ?_); rintro e w ⟨rfl, hS⟩) | (go_at_call 22; (with_reducible refine (St.call hS fun hl => applyA _ hl).mono ?_); rintro e w ⟨rfl, hS⟩) | (go_at_call 22; (with_reducible refine (St.call hS fun hl => applyB' _ hl).mono ?_); rintro e w ⟨rfl, hS⟩) | (go_at_call 14; (with_reducible refine (St.call hS fun hl => textM_none _ hl).mono ?_); rintro e w ⟨rfl, hS⟩) | (go_at_call 16; (with_reducible refine (St.still hS fun hl => stageM14 _).mono ?_); rintro e w ⟨rfl, hS⟩) | (go_at_call 24; (with_reducible refine (listM hS).mono ?_); rintro e w ⟨g9, c9, cur, rfl, hc9, hS⟩) | ((with_reducible refine at_build ?_); refine wpList_bld rfl rfl rfl trB1 ?_; (try simp only [Act.put, List.setIfInBounds_toArray, List.set_cons_zero, List.set_cons_succ])) | ((with_reducible refine at_build ?_); refine wpList_bld rfl rfl rfl trB2 ?_; (try simp only [Act.put, List.setIfInBounds_toArray, List.set_cons_zero, List.set_cons_succ])) | ((with_reducible refine at_load ?_); refine wpList_ld_cell rfl hS rfl rfl .head scal3 hc9 ?_; (try simp only [Act.put, List.setIfInBounds_toArray, List.set_cons_zero, List.set_cons_succ])) | ((with_reducible refine at_alloc ?_); (first | (refine wpList_new 27 rfl hS rfl _ md_new ?_; intro g w hS) | (refine wpList_new 45 rfl hS rfl _ tr_new ?_; intro g w hS)); (try simp only [Act.put, List.setIfInBounds_toArray, List.set_cons_zero, List.set_cons_succ])) | ((with_reducible refine md_shape_0 ?_); refine md_bld_0 rfl rfl ?_; (try simp only [Act.put, List.setIfInBounds_toArray, List.set_cons_zero, List.set_cons_succ])) | ((with_reducible refine md_shape_0_1_2 ?_); refine md_bld_0_1_2 rfl rfl rfl rfl ?_; (try simp only [Act.put, List.setIfInBounds_toArray, List.set_cons_zero, List.set_cons_succ])) | ((with_reducible refine md_shape_0_1 ?_); refine md_bld_0_1 rfl rfl rfl ?_; (try simp only [Act.put, List.setIfInBounds_toArray, List.set_cons_zero, List.set_cons_succ])) | ((with_reducible refine at_load ?_); (first | (refine md_ldw rfl hS rfl rfl (by (first | exact .head | exact .tail .head | exact .tail (.tail .head) | exact .tail (.tail (.tail .head)) | exact .tail (.tail (.tail (.tail .head))) | fail)) ?_) | (refine tr_ld12 rfl hS rfl rfl (by (first | exact .head | exact .tail .head | exact .tail (.tail .head) | exact .tail (.tail (.tail .head)) | exact .tail (.tail (.tail (.tail .head))) | fail)) ?_) | (refine tr_ld13 rfl hS rfl rfl (by (first | exact .head | exact .tail .head | exact .tail (.tail .head) | exact .tail (.tail (.tail .head)) | exact .tail (.tail (.tail (.tail .head))) | fail)) ?_) | (refine tr_ld14 rfl hS rfl rfl (by (first | exact .head | exact .tail .head | exact .tail (.tail .head) | exact .tail (.tail (.tail .head)) | exact .tail (.tail (.tail (.tail .head))) | fail)) ?_)); (try simp only [Act.put, List.setIfInBounds_toArray, List.set_cons_zero, List.set_cons_succ])) | ((with_reducible refine at_store ?_); (first | (refine md_stw rfl hS rfl rfl rfl (by first | exact .head | exact .tail .head | exact .tail (.tail .head) | exact .tail (.tail (.tail .head)) | exact .tail (.tail (.tail (.tail .head))) | fail) ?_; intro w hS) | (refine tr_stw rfl hS rfl rfl rfl (by first | exact .head | exact .tail .head | exact .tail (.tail .head) | exact .tail (.tail (.tail .head)) | exact .tail (.tail (.tail (.tail .head))) | fail) ?_; intro w hS)); (try simp only [Act.put, List.setIfInBounds_toArray, List.set_cons_zero, List.set_cons_succ])))
  all_goals go_ret
  all_goals exact ⟨ret_bool (by simp), hS.below⟩
set_option maxRecDepth 100000 in
set_option maxHeartbeats 1000000 in
theorem shortO_any (r : Md) (w : World) (hl : Laid w) : Calls Tryz.prog 10 #[.agg r.cells] w fun e w' => e = .returned (.bool (decide (r.sub.size ≤ 100) && decide (r.f.sub.size ≤ 100))) ∧ Below w.heap.size w w' := by
  obtain ⟨kind, n, m, sub, f⟩ := r
  have hS := St.start hl keepsL
  go_enter Tryz.func10, Tryz.ntmps10
  go_wp2_with (first | ((with_reducible refine at_guard ?_); (first | (refine wpList_pass rfl ?_) | ((fail_if_success refine wpList_wanted rfl ?_); refine wpList_ask _ _ rfl rfl (fun hb => ?_) (fun hb => ?_) <;> (first | (obtain rfl := eq_of_beq hb) | (simp only [hb])))); (try simp only [Act.put, List.setIfInBounds_toArray, List.set_cons_zero, List.set_cons_succ])) | ((with_reducible refine at_box ?_); (first | (refine wpList_box_agg rfl hS rfl rfl ?_; intro g w hS)); (try simp only [Act.put, List.setIfInBounds_toArray, List.set_cons_zero, List.set_cons_succ])) | ((with_reducible refine at_load ?_); (first | (refine md_ld3 rfl hS rfl rfl (by (first | exact .head | exact .tail .head | exact .tail (.tail .head) | exact .tail (.tail (.tail .head)) | exact .tail (.tail (.tail (.tail .head))) | fail)) ?_) | (refine md_ldd11 rfl hS rfl rfl (by (first | exact .head | exact .tail .head | exact .tail (.tail .head) | exact .tail (.tail (.tail .head)) | exact .tail (.tail (.tail (.tail .head))) | fail)) ?_)); (try simp only [Act.put, List.setIfInBounds_toArray, List.set_cons_zero, List.set_cons_succ])))
  all_goals go_ret
  all_goals exact ⟨ret_bool (by rw [Bool.eq_iff_iff]; simp_all <;> (intros; omega)), hS.below⟩
end Go.Proofs.YtakgfbcmkhcdkaaGreatDoor
