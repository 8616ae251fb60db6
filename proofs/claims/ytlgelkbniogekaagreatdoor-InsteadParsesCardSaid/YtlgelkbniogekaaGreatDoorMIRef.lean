/- Plain words: the reference's validity of a replacement effect is the program's (chapter 19). No program in sight. Walks: the reference of chapter 19: field, plain, moves, Is. Conditions: LaidM. -/
import Derived.Test.YtlgelkbniogekaaGreatDoorMIMem
import Derived.Test.YtlgelkbniogekaaGreatDoorMRFIs
import Derived.Test.YtlgelkbniogekaaGreatDoorMRFText
import Derived.Test.YtlgelkbniogekaaGreatDoorRefA
import Derived.Test.YtlgelkbniogekaaGreatDoorMRWho
namespace Go.Proofs.YtlgelkbniogekaaGreatDoor
set_option linter.all false
open Go.ChangeShapes Go.WideShapes Go.RowKit
def fieldB (f : Flt) : Bool := fltIs f && f.zone == 0
def plainB (r : Rp) : Bool := r.z == 0 && (r.c == 0 && (if r.d = 2 ∨ r.d = 4 then decide (1 ≤ r.n) && decide (r.n ≤ 99) else r.n == 0))
def movesB (r : Rp) : Bool := r.who == 0 && (fieldB r.f && (if r.d = 5 then r.n == 0 && (r.c == 0 && (r.z == 1 || (r.z == 2 || r.z == 4))) else if r.d = 6 then r.n == 0 && (r.c == 0 && r.z == 0)
  else if r.d = 7 then r.z == 0 && (decide (1 ≤ r.n) && (decide (r.n ≤ 99) && (decide (0 ≤ r.c) && decide (r.c < 3)))) else false))
def countsB (d : Int) : Bool := d == 3 || (d == 4 || d == 8)
def isB (r : Rp) : Bool :=
  if r.on = 2 then movesB r else plainB r && (
    if r.on = 1 then (r.d == 1 || (r.d == 2 || (r.d == 3 || r.d == 4))) && ((r.who == 0 && fieldB r.f) || ((r.who == 1 || r.who == 2) && fltEq r.f zeroF))
    else if r.on = 8 then countsB r.d && (r.who == 0 && fieldB r.f)
    else if r.on = 3 then (r.d == 4 || r.d == 8) && (decide (0 ≤ r.who) && (decide (r.who ≤ 2) && fltEq r.f zeroF))
    else if r.on = 4 ∨ r.on = 5 ∨ r.on = 10 then countsB r.d && (decide (0 ≤ r.who) && (decide (r.who ≤ 2) && fltEq r.f zeroF))
    else false)
theorem fieldB_zero : fieldB zeroF = true := by kernel_rfl
theorem fieldB_iff (f : Flt) : fieldB f = true ↔ (fltIs f = true ∧ f.zone = 0) := by simp [fieldB]
theorem if_same {α : Type} (b : Bool) (x y : α) : (x = if b = true then x else y) ↔ (b = false → x = y) := by cases b <;> simp
theorem isB_eq (r : Rp) : isB r = rpIs r := by
  obtain ⟨on, who, f, d, n, z, c⟩ := r
  have hz0 := fieldB_zero
  rw [Bool.eq_iff_iff]
  have hz : f = zeroF → fieldB f = true := fun e => by rw [e]; exact hz0
  have e1 : rpIs ⟨on, who, f, d, n, z, c⟩ = true ↔ doesR on d = true ∧ (who = (if on = 2 ∨ on = 8 then 0 else who)) ∧ (filtR on who = false → f = zeroF) ∧ (n = if d = 2 ∨ d = 4 ∨ d = 7 then n else 0) ∧ (z = if d = 5 then z else 0) ∧ (c = if d = 7 then c else 0) ∧ 0 ≤ who ∧ who ≤ 2 ∧ fieldB f = true ∧ numsR ⟨on, who, f, d, n, z, c⟩ = true := by
    unfold rpIs
    simp only [Bool.and_eq_true, rpEq_iff, normR, Rp.mk.injEq, true_and, if_same, decide_eq_true_eq, beq_iff_eq, fieldB_iff]
    constructor
    · rintro ⟨h1, ⟨h2, h3, h4, h5, h6⟩, h7, h8, h9, h10, h11⟩; exact ⟨h1, h2, h3, h4, h5, h6, h7, h8, ⟨h9, h10⟩, h11⟩
    · rintro ⟨h1, h2, h3, h4, h5, h6, h7, h8, ⟨h9, h10⟩, h11⟩; exact ⟨h1, ⟨h2, h3, h4, h5, h6⟩, h7, h8, h9, h10, h11⟩
  rw [e1]
  unfold isB movesB plainB countsB doesR numsR filtR
  have hE := fltEq_iff f zeroF
  generalize fltEq f zeroF = Z at *
  generalize fieldB f = F at *
  have ho : on = 1 ∨ on = 2 ∨ on = 3 ∨ on = 4 ∨ on = 5 ∨ on = 8 ∨ on = 10 ∨ (on ≠ 1 ∧ on ≠ 2 ∧ on ≠ 3 ∧ on ≠ 4 ∧ on ≠ 5 ∧ on ≠ 8 ∧ on ≠ 10) := by omega
  have hd : d = 1 ∨ d = 2 ∨ d = 3 ∨ d = 4 ∨ d = 5 ∨ d = 6 ∨ d = 7 ∨ d = 8 ∨ (d ≠ 1 ∧ d ≠ 2 ∧ d ≠ 3 ∧ d ≠ 4 ∧ d ≠ 5 ∧ d ≠ 6 ∧ d ≠ 7 ∧ d ≠ 8) := by omega
  clear e1 hz0
  generalize (f = zeroF) = P at *
  rcases ho with rfl | rfl | rfl | rfl | rfl | rfl | rfl | ⟨o1, o2, o3, o4, o5, o8, o10⟩
  all_goals rcases hd with rfl | rfl | rfl | rfl | rfl | rfl | rfl | rfl | ⟨d1, d2, d3, d4, d5, d6, d7, d8⟩
  all_goals (cases F <;> cases Z <;> simp_all <;> omega)
end Go.Proofs.YtlgelkbniogekaaGreatDoor
namespace Go.Proofs.YtlgelkbniogekaaGreatDoor
set_option linter.all false
open Go.ChangeShapes Go.WideShapes Go.RowKit
attribute [local irreducible] wpList Code.wp
theorem rFltIs_c (f : Flt) (w : World) : Calls Tryz.prog 44 #[.agg f.cells] w fun e w' => e = .returned (.bool (fltIs f)) ∧ Below w.heap.size w w' := rIs_v f _ (Lib.hid rfl) w
set_option maxRecDepth 100000 in
set_option maxHeartbeats 2000000 in
theorem i19Field_any (f : Flt) (w : World) (hl : LaidM w) : Calls Tryz.prog 22 #[.agg f.cells] w fun e w' => e = .returned (.bool (fieldB f)) ∧ Below w.heap.size w w' := by
  have hS := St.start hl keepsM
  go_enter Tryz.func22, Tryz.ntmps22
  go_wp2_with (first | (go_at_call 44; (with_reducible refine (St.call hS fun hl => rFltIs_c _ _).mono ?_); rintro e w ⟨rfl, hS⟩) | ((with_reducible refine at_guard ?_); (first | (refine wpList_pass rfl ?_) | ((fail_if_success refine wpList_wanted rfl ?_); refine wpList_ask _ _ rfl rfl (fun hb => ?_) (fun hb => ?_) <;> (first | (obtain rfl := eq_of_beq hb) | (simp only [hb])))); (try simp only [Act.put, List.setIfInBounds_toArray, List.set_cons_zero, List.set_cons_succ])) | ((with_reducible refine at_box ?_); (first | (refine wpList_box_agg rfl hS rfl rfl ?_; intro g w hS)); (try simp only [Act.put, List.setIfInBounds_toArray, List.set_cons_zero, List.set_cons_succ])) | ((with_reducible refine at_load ?_); (first | (refine flt_ldw rfl hS rfl rfl (by (first | exact .head | exact .tail .head | exact .tail (.tail .head) | exact .tail (.tail (.tail .head)) | exact .tail (.tail (.tail (.tail .head))) | fail)) ?_) | (refine flt_ld0 rfl hS rfl rfl (by (first | exact .head | exact .tail .head | exact .tail (.tail .head) | exact .tail (.tail (.tail .head)) | exact .tail (.tail (.tail (.tail .head))) | fail)) ?_)); (try simp only [Act.put, List.setIfInBounds_toArray, List.set_cons_zero, List.set_cons_succ])))
  all_goals go_ret
  all_goals (refine ⟨ret_bool ?_, hS.below⟩; clear hS hl; rw [Bool.eq_iff_iff]; simp_all [fieldB])
set_option maxRecDepth 100000 in
set_option maxHeartbeats 2000000 in
theorem i19Plain_any (r : Rp) (w : World) (hl : LaidM w) : Calls Tryz.prog 21 #[.agg r.cells] w fun e w' => e = .returned (.bool (plainB r)) ∧ Below w.heap.size w w' := by
  obtain ⟨on, who, f, d, n, z, c⟩ := r
  have hS := St.start hl keepsM
  go_enter Tryz.func21, Tryz.ntmps21
  go_wp2_with (first | ((first | (with_reducible refine wpList_here ?_) | (with_reducible refine region_here ?_)); (have hq := int_eq (by assumption); subst hq)) | ((with_reducible refine at_guard ?_); (first | (refine wpList_pass rfl ?_) | ((fail_if_success refine wpList_wanted rfl ?_); refine wpList_ask _ _ rfl rfl (fun hb => ?_) (fun hb => ?_) <;> (first | (obtain rfl := eq_of_beq hb) | (simp only [hb])))); (try simp only [Act.put, List.setIfInBounds_toArray, List.set_cons_zero, List.set_cons_succ])) | ((with_reducible refine at_box ?_); (first | (refine wpList_box_agg rfl hS rfl rfl ?_; intro g w hS)); (try simp only [Act.put, List.setIfInBounds_toArray, List.set_cons_zero, List.set_cons_succ])) | ((with_reducible refine at_load ?_); (first | (refine rp_ld18 rfl hS rfl rfl (by (first | exact .head | exact .tail .head | exact .tail (.tail .head) | exact .tail (.tail (.tail .head)) | exact .tail (.tail (.tail (.tail .head))) | fail)) ?_) | (refine rp_ld19 rfl hS rfl rfl (by (first | exact .head | exact .tail .head | exact .tail (.tail .head) | exact .tail (.tail (.tail .head)) | exact .tail (.tail (.tail (.tail .head))) | fail)) ?_) | (refine rp_ld20 rfl hS rfl rfl (by (first | exact .head | exact .tail .head | exact .tail (.tail .head) | exact .tail (.tail (.tail .head)) | exact .tail (.tail (.tail (.tail .head))) | fail)) ?_) | (refine rp_ld21 rfl hS rfl rfl (by (first | exact .head | exact .tail .head | exact .tail (.tail .head) | exact .tail (.tail (.tail .head)) | exact .tail (.tail (.tail (.tail .head))) | fail)) ?_)); (try simp only [Act.put, List.setIfInBounds_toArray, List.set_cons_zero, List.set_cons_succ])))
  all_goals go_ret
  all_goals (refine ⟨ret_bool ?_, hS.below⟩; clear hS hl; rw [Bool.eq_iff_iff]; simp_all [plainB] <;> (intros; omega))
set_option maxRecDepth 100000 in
set_option maxHeartbeats 2000000 in
theorem i19Moves_any (r : Rp) (w : World) (hl : LaidM w) : Calls Tryz.prog 20 #[.agg r.cells] w fun e w' => e = .returned (.bool (movesB r)) ∧ Below w.heap.size w w' := by
  obtain ⟨on, who, f, d, n, z, c⟩ := r
  have hS := St.start hl keepsM
  go_enter Tryz.func20, Tryz.ntmps20
  go_wp2_with (first | ((first | (with_reducible refine wpList_here ?_) | (with_reducible refine region_here ?_)); (have hq := int_eq (by assumption); subst hq)) | (go_at_call 22; (with_reducible refine (St.call hS fun hl => i19Field_any _ _ hl).mono ?_); rintro e w ⟨rfl, hS⟩) | ((with_reducible refine at_guard ?_); (first | (refine wpList_pass rfl ?_) | ((fail_if_success refine wpList_wanted rfl ?_); refine wpList_ask _ _ rfl rfl (fun hb => ?_) (fun hb => ?_) <;> (first | (obtain rfl := eq_of_beq hb) | (simp only [hb])))); (try simp only [Act.put, List.setIfInBounds_toArray, List.set_cons_zero, List.set_cons_succ])) | ((with_reducible refine at_box ?_); (first | (refine wpList_box_agg rfl hS rfl rfl ?_; intro g w hS)); (try simp only [Act.put, List.setIfInBounds_toArray, List.set_cons_zero, List.set_cons_succ])) | ((with_reducible refine at_load ?_); (first | (refine rp_ld1 rfl hS rfl rfl (by (first | exact .head | exact .tail .head | exact .tail (.tail .head) | exact .tail (.tail (.tail .head)) | exact .tail (.tail (.tail (.tail .head))) | fail)) ?_) | (refine rp_ld2 rfl hS rfl rfl (by (first | exact .head | exact .tail .head | exact .tail (.tail .head) | exact .tail (.tail (.tail .head)) | exact .tail (.tail (.tail (.tail .head))) | fail)) ?_) | (refine rp_ld18 rfl hS rfl rfl (by (first | exact .head | exact .tail .head | exact .tail (.tail .head) | exact .tail (.tail (.tail .head)) | exact .tail (.tail (.tail (.tail .head))) | fail)) ?_) | (refine rp_ld19 rfl hS rfl rfl (by (first | exact .head | exact .tail .head | exact .tail (.tail .head) | exact .tail (.tail (.tail .head)) | exact .tail (.tail (.tail (.tail .head))) | fail)) ?_) | (refine rp_ld20 rfl hS rfl rfl (by (first | exact .head | exact .tail .head | exact .tail (.tail .head) | exact .tail (.tail (.tail .head)) | exact .tail (.tail (.tail (.tail .head))) | fail)) ?_) | (refine rp_ld21 rfl hS rfl rfl (by (first | exact .head | exact .tail .head | exact .tail (.tail .head) | exact .tail (.tail (.tail .head)) | exact .tail (.tail (.tail (.tail .head))) | fail)) ?_)); (try simp only [Act.put, List.setIfInBounds_toArray, List.set_cons_zero, List.set_cons_succ])))
  all_goals go_ret
  all_goals (refine ⟨ret_bool ?_, hS.below⟩; clear hS hl; rw [Bool.eq_iff_iff]; simp_all [movesB] <;> (intros; omega))
set_option maxRecDepth 100000 in
set_option maxHeartbeats 4000000 in
theorem i19Is_any (r : Rp) (w : World) (hl : LaidM w) : Calls Tryz.prog 11 #[.agg r.cells] w fun e w' => e = .returned (.bool (isB r)) ∧ Below w.heap.size w w' := by
  obtain ⟨on, who, f, d, n, z, c⟩ := r
  have heq := fun wx : World => eq_v f zeroF wx
  have hS := St.start hl keepsM
  go_enter Tryz.func11, Tryz.ntmps11
  go_wp2_with (first | ((first | (with_reducible refine wpList_here ?_) | (with_reducible refine region_here ?_)); (have hq := int_eq (by assumption); subst hq)) | (go_at_call 20; (with_reducible refine (St.call hS fun hl => i19Moves_any _ _ hl).mono ?_); rintro e w ⟨rfl, hS⟩) | (go_at_call 21; (with_reducible refine (St.call hS fun hl => i19Plain_any _ _ hl).mono ?_); rintro e w ⟨rfl, hS⟩) | (go_at_call 22; (with_reducible refine (St.call hS fun hl => i19Field_any _ _ hl).mono ?_); rintro e w ⟨rfl, hS⟩) | ((with_reducible refine at_guard ?_); (first | (refine wpList_pass rfl ?_) | ((fail_if_success refine wpList_wanted rfl ?_); refine wpList_ask _ _ rfl rfl (fun hb => ?_) (fun hb => ?_) <;> (first | (obtain rfl := eq_of_beq hb) | (simp only [hb])))); (try simp only [Act.put, List.setIfInBounds_toArray, List.set_cons_zero, List.set_cons_succ])) | ((with_reducible refine at_box ?_); (first | (refine wpList_box_agg rfl hS rfl rfl ?_; intro g w hS)); (try simp only [Act.put, List.setIfInBounds_toArray, List.set_cons_zero, List.set_cons_succ])) | ((with_reducible refine flt_shape_ ?_); refine flt_bld_ rfl ?_; (try simp only [Act.put, List.setIfInBounds_toArray, List.set_cons_zero, List.set_cons_succ])) | ((with_reducible refine at_load ?_); (first | (refine rp_ldw rfl hS rfl rfl (by (first | exact .head | exact .tail .head | exact .tail (.tail .head) | exact .tail (.tail (.tail .head)) | exact .tail (.tail (.tail (.tail .head))) | fail)) ?_) | (refine rp_ld0 rfl hS rfl rfl (by (first | exact .head | exact .tail .head | exact .tail (.tail .head) | exact .tail (.tail (.tail .head)) | exact .tail (.tail (.tail (.tail .head))) | fail)) ?_) | (refine rp_ld1 rfl hS rfl rfl (by (first | exact .head | exact .tail .head | exact .tail (.tail .head) | exact .tail (.tail (.tail .head)) | exact .tail (.tail (.tail (.tail .head))) | fail)) ?_) | (refine rp_ld2 rfl hS rfl rfl (by (first | exact .head | exact .tail .head | exact .tail (.tail .head) | exact .tail (.tail (.tail .head)) | exact .tail (.tail (.tail (.tail .head))) | fail)) ?_) | (refine rp_ld18 rfl hS rfl rfl (by (first | exact .head | exact .tail .head | exact .tail (.tail .head) | exact .tail (.tail (.tail .head)) | exact .tail (.tail (.tail (.tail .head))) | fail)) ?_)); (try simp only [Act.put, List.setIfInBounds_toArray, List.set_cons_zero, List.set_cons_succ])))
  all_goals go_ret
  all_goals (refine ⟨ret_bool ?_, hS.below⟩; clear hS hl heq; rw [Bool.eq_iff_iff]; simp_all [isB, countsB] <;> (intros; omega))
end Go.Proofs.YtlgelkbniogekaaGreatDoor
