/- Walks: the reference of chapter 19: action, word, filtered, Text; chapter 17's ZoneName. Conditions: LaidM. -/
import Derived.Test.YtlgelkbniogekaaGreatDoorMIRef
import Derived.Test.YtlgelkbniogekaaGreatDoorMIText
namespace Go.Proofs.YtlgelkbniogekaaGreatDoor
set_option linter.all false
open Go.ChangeShapes Go.WideShapes Go.RowKit
attribute [local irreducible] wpList Code.wp
theorem r17Zone_any (z : Int) (w : World) : Calls Tryz.prog 67 #[.int .i64 z] w fun e w' => e = .returned (.string (B (zoneName z))) ∧ Below w.heap.size w w' := by
  by_cases h0 : z = 0
  · subst h0
    have k0 := Lib.hid (Below.refl w.heap.size w)
    go_enter Tryz.func67, Tryz.ntmps67
    go_wp2
    go_ret
    exact ⟨rfl, (k0.out.alloc (Nat.le_refl _) _)⟩
  by_cases h1 : z = 1
  · subst h1
    have k0 := Lib.hid (Below.refl w.heap.size w)
    go_enter Tryz.func67, Tryz.ntmps67
    go_wp2
    go_ret
    exact ⟨rfl, (k0.out.alloc (Nat.le_refl _) _)⟩
  by_cases h2 : z = 2
  · subst h2
    have k0 := Lib.hid (Below.refl w.heap.size w)
    go_enter Tryz.func67, Tryz.ntmps67
    go_wp2
    go_ret
    exact ⟨rfl, (k0.out.alloc (Nat.le_refl _) _)⟩
  by_cases h3 : z = 3
  · subst h3
    have k0 := Lib.hid (Below.refl w.heap.size w)
    go_enter Tryz.func67, Tryz.ntmps67
    go_wp2
    go_ret
    exact ⟨rfl, (k0.out.alloc (Nat.le_refl _) _)⟩
  by_cases h4 : z = 4
  · subst h4
    have k0 := Lib.hid (Below.refl w.heap.size w)
    go_enter Tryz.func67, Tryz.ntmps67
    go_wp2
    go_ret
    exact ⟨rfl, (k0.out.alloc (Nat.le_refl _) _)⟩
  by_cases h5 : z = 5
  · subst h5
    have k0 := Lib.hid (Below.refl w.heap.size w)
    go_enter Tryz.func67, Tryz.ntmps67
    go_wp2
    go_ret
    exact ⟨rfl, (k0.out.alloc (Nat.le_refl _) _)⟩
  · have HR : Hid (zoneName z = []) := Lib.hid (by unfold zoneName; rw [if_neg h0, if_neg h1, if_neg h2, if_neg h3, if_neg h4, if_neg h5])
    have hc : z < 0 ∨ (0 ≤ z ∧ 5 < z) := by omega
    clear h0 h1 h2 h3 h4 h5
    generalize zoneName z = R at *
    rcases hc with hc | ⟨hc, hd⟩
    all_goals
      go_enter Tryz.func67, Tryz.ntmps67
      go_wp2
      go_ret
      exact ⟨ret_str (by rw [HR.out]; rfl), Below.refl _ _⟩
set_option maxRecDepth 100000 in
set_option maxHeartbeats 2000000 in
theorem i19Action_any (r : Rp) (hn : 0 ≤ r.n ∧ r.n ≤ 1000000) (w : World) (hl : LaidM w) : Calls Tryz.prog 30 #[.agg r.cells] w fun e w' => e = .returned (.string (B (actS r.d r.n r.z r.c))) ∧ Below w.heap.size w w' := by
  have hi := Lib.itoa_length_le r.n (by omega) (by omega)
  have hc := cntText_len r.c
  have hS := St.start hl keepsM
  go_enter Tryz.func30, Tryz.ntmps30
  go_wp2_with (first | (go_at_call 66; (with_reducible refine (St.call hS fun hl => rText_any _ _ (by omega) (by omega)).mono ?_); rintro e w ⟨rfl, hS⟩) | (go_at_call 67; (with_reducible refine (St.call hS fun hl => r17Zone_any _ _).mono ?_); rintro e w ⟨rfl, hS⟩) | ((with_reducible refine at_cat ?_); (first | (refine wpList_cat rfl rfl rfl rfl (by first | (simp only [List.length_append, List.length_cons, List.length_nil]; omega) | fail) ?_)); (try simp only [Act.put, List.setIfInBounds_toArray, List.set_cons_zero, List.set_cons_succ])) | ((with_reducible refine at_box ?_); (first | (refine wpList_box_agg rfl hS rfl rfl ?_; intro g w hS)); (try simp only [Act.put, List.setIfInBounds_toArray, List.set_cons_zero, List.set_cons_succ])) | ((with_reducible refine at_load ?_); (first | (refine rp_ld18 rfl hS rfl rfl (by (first | exact .head | exact .tail .head | exact .tail (.tail .head) | exact .tail (.tail (.tail .head)) | exact .tail (.tail (.tail (.tail .head))) | fail)) ?_) | (refine rp_ld19 rfl hS rfl rfl (by (first | exact .head | exact .tail .head | exact .tail (.tail .head) | exact .tail (.tail (.tail .head)) | exact .tail (.tail (.tail (.tail .head))) | fail)) ?_) | (refine rp_ld20 rfl hS rfl rfl (by (first | exact .head | exact .tail .head | exact .tail (.tail .head) | exact .tail (.tail (.tail .head)) | exact .tail (.tail (.tail (.tail .head))) | fail)) ?_)); (try simp only [Act.put, List.setIfInBounds_toArray, List.set_cons_zero, List.set_cons_succ])) | ((with_reducible refine region_here ?_); refine wp_region_St hS (by kernel_rfl) (by kernel_rfl) ?_) | ((with_reducible refine runS_end ?_); intro w hS) | ((with_reducible refine rat_cat ?_); (first | (refine runS_cat rfl rfl rfl rfl (by first | (simp only [List.length_append, List.length_cons, List.length_nil]; omega) | fail) (fun _ _ _ h => h) ?_)); (try simp only [Act.put, List.setIfInBounds_toArray, List.set_cons_zero, List.set_cons_succ])) | ((with_reducible refine rat_load ?_); (first | (refine rp_rl19 rfl rfl rfl (by (first | exact .head | exact .tail .head | exact .tail (.tail .head) | exact .tail (.tail (.tail .head)) | exact .tail (.tail (.tail (.tail .head))) | fail)) (fun _ _ _ h => h) ?_) | (refine rp_rl21 rfl rfl rfl (by (first | exact .head | exact .tail .head | exact .tail (.tail .head) | exact .tail (.tail (.tail .head)) | exact .tail (.tail (.tail (.tail .head))) | fail)) (fun _ _ _ h => h) ?_)); (try simp only [Act.put, List.setIfInBounds_toArray, List.set_cons_zero, List.set_cons_succ])) | ((with_reducible refine rat_call ?_); (first | (refine runS_call (v := ?_) (args := ?_) 66 rfl (fun _ _ _ h => h) ?_ ?_ ?_; rotate_left 2; (focus ((intro w; go_simp) <;> with_reducible rfl)); (focus (intro w hS; refine St.callE hS (fun hl => rText_any _ _ (by omega) (by omega)) ?_; with_reducible rfl))) | (refine runS_call (v := ?_) (args := ?_) 68 rfl (fun _ _ _ h => h) ?_ ?_ ?_; rotate_left 2; (focus ((intro w; go_simp) <;> with_reducible rfl)); (focus (intro w hS; refine St.stillE hS (fun hl => rCnt_any _ _) ?_; with_reducible rfl)))); (try simp only [Act.put, List.setIfInBounds_toArray, List.set_cons_zero, List.set_cons_succ])) | ((with_reducible refine runS_here ?_); (refine runS_val (v := ?_) rfl (fun _ _ _ h => h) ?_ ?_; rotate_left; (focus ((intro w hS; go_simp) <;> with_reducible rfl))); (try simp only [Act.put, List.setIfInBounds_toArray, List.set_cons_zero, List.set_cons_succ])))
  all_goals go_ret
  all_goals (refine ⟨ret_B ?_, hS.below⟩; clear hi hc; simp_all [actS] <;> rfl)
set_option maxRecDepth 100000 in
set_option maxHeartbeats 2000000 in
theorem i19Word_any (r : Rp) (w : World) (hl : LaidM w) : Calls Tryz.prog 28 #[.agg r.cells] w fun e w' => e = .returned (.string (B (aboutS r.on r.who r.d))) ∧ Below w.heap.size w w' := by
  have hS := St.start hl keepsM
  go_enter Tryz.func28, Tryz.ntmps28
  go_wp2_with (first | ((with_reducible refine at_box ?_); (first | (refine wpList_box_agg rfl hS rfl rfl ?_; intro g w hS)); (try simp only [Act.put, List.setIfInBounds_toArray, List.set_cons_zero, List.set_cons_succ])) | ((with_reducible refine at_load ?_); (first | (refine rp_ld0 rfl hS rfl rfl (by (first | exact .head | exact .tail .head | exact .tail (.tail .head) | exact .tail (.tail (.tail .head)) | exact .tail (.tail (.tail (.tail .head))) | fail)) ?_) | (refine rp_ld1 rfl hS rfl rfl (by (first | exact .head | exact .tail .head | exact .tail (.tail .head) | exact .tail (.tail (.tail .head)) | exact .tail (.tail (.tail (.tail .head))) | fail)) ?_) | (refine rp_ld18 rfl hS rfl rfl (by (first | exact .head | exact .tail .head | exact .tail (.tail .head) | exact .tail (.tail (.tail .head)) | exact .tail (.tail (.tail (.tail .head))) | fail)) ?_)); (try simp only [Act.put, List.setIfInBounds_toArray, List.set_cons_zero, List.set_cons_succ])))
  all_goals go_ret
  all_goals (refine ⟨ret_B ?_, hS.below⟩; simp_all [aboutS] <;> rfl)
set_option maxRecDepth 100000 in
set_option maxHeartbeats 2000000 in
theorem i19Filtered_any (r : Rp) (w : World) (hl : LaidM w) : Calls Tryz.prog 27 #[.agg r.cells] w fun e w' => e = .returned (.bool (filtR r.on r.who)) ∧ Below w.heap.size w w' := by
  obtain ⟨on, who, f, d, n, z, c⟩ := r
  have hS := St.start hl keepsM
  go_enter Tryz.func27, Tryz.ntmps27
  go_wp2_with (first | ((with_reducible refine at_guard ?_); (first | (refine wpList_pass rfl ?_) | ((fail_if_success refine wpList_wanted rfl ?_); refine wpList_ask _ _ rfl rfl (fun hb => ?_) (fun hb => ?_) <;> (first | (obtain rfl := eq_of_beq hb) | (simp only [hb])))); (try simp only [Act.put, List.setIfInBounds_toArray, List.set_cons_zero, List.set_cons_succ])) | ((with_reducible refine at_box ?_); (first | (refine wpList_box_agg rfl hS rfl rfl ?_; intro g w hS)); (try simp only [Act.put, List.setIfInBounds_toArray, List.set_cons_zero, List.set_cons_succ])) | ((with_reducible refine at_load ?_); (first | (refine rp_ld0 rfl hS rfl rfl (by (first | exact .head | exact .tail .head | exact .tail (.tail .head) | exact .tail (.tail (.tail .head)) | exact .tail (.tail (.tail (.tail .head))) | fail)) ?_) | (refine rp_ld1 rfl hS rfl rfl (by (first | exact .head | exact .tail .head | exact .tail (.tail .head) | exact .tail (.tail (.tail .head)) | exact .tail (.tail (.tail (.tail .head))) | fail)) ?_)); (try simp only [Act.put, List.setIfInBounds_toArray, List.set_cons_zero, List.set_cons_succ])))
  all_goals go_ret
  all_goals (refine ⟨ret_bool ?_, hS.below⟩; clear hS hl; rw [Bool.eq_iff_iff]; simp_all [filtR])
theorem i19Is_is (r : Rp) (R : Bool) (h : Hid (R = rpIs r)) (w : World) (hl : LaidM w) : Calls Tryz.prog 11 #[.agg r.cells] w fun e w' => e = .returned (.bool R) ∧ Below w.heap.size w w' :=
  (i19Is_any r w hl).mono fun e w' h' => ⟨by rw [h'.1, h.out, isB_eq], h'.2⟩
set_option maxRecDepth 100000 in
set_option maxHeartbeats 2000000 in
theorem i19Text_any (r : Rp) (w : World) (hl : LaidM w) : Calls Tryz.prog 13 #[.agg r.cells] w fun e w' => e = .returned (.string (B (rpText r))) ∧ Below w.heap.size w w' := by
  obtain ⟨on, who, f, d, n, z, c⟩ := r
  have h1 := textOf_len (f := f)
  have h2 := aboutS_len on who d
  have h3 := whoText_len who
  cases hv : rpIs ⟨on, who, f, d, n, z, c⟩ with
  | false =>
    have HV : Hid (false = rpIs ⟨on, who, f, d, n, z, c⟩) := Lib.hid hv.symm
    clear hv
    have hS := St.start hl keepsM
    go_enter Tryz.func13, Tryz.ntmps13
    go_wp2_with (first | (go_at_call 11; (with_reducible refine (St.call hS fun hl => i19Is_is _ _ HV _ hl).mono ?_); rintro e w ⟨rfl, hS⟩) | ((with_reducible refine at_box ?_); (first | (refine wpList_box_agg rfl hS rfl rfl ?_; intro g w hS)); (try simp only [Act.put, List.setIfInBounds_toArray, List.set_cons_zero, List.set_cons_succ])) | ((with_reducible refine at_load ?_); (first | (refine rp_ldw rfl hS rfl rfl (by (first | exact .head | exact .tail .head | exact .tail (.tail .head) | exact .tail (.tail (.tail .head)) | exact .tail (.tail (.tail (.tail .head))) | fail)) ?_)); (try simp only [Act.put, List.setIfInBounds_toArray, List.set_cons_zero, List.set_cons_succ])))
    go_ret
    exact ⟨ret_B (p := []) (rpText_no HV.out.symm).symm, hS.below⟩
  | true =>
    have HV : Hid (true = rpIs ⟨on, who, f, d, n, z, c⟩) := Lib.hid hv.symm
    obtain ⟨_, _, _, _, f1, f2, hac⟩ := rp_facts hv
    have hn : 0 ≤ n ∧ n ≤ 1000000 := by unfold actOk at hac; simp only at hac; omega
    have h4 := actS_len d n z c hn
    clear hv f1 f2 hac
    have HR : Hid (rpText ⟨on, who, f, d, n, z, c⟩ = rpBody ⟨on, who, f, d, n, z, c⟩) := Lib.hid (if_pos HV.out.symm)
    have hS := St.start hl keepsM
    go_enter Tryz.func13, Tryz.ntmps13
    go_wp2_with (first | (go_at_call 11; (with_reducible refine (St.call hS fun hl => i19Is_is _ _ HV _ hl).mono ?_); rintro e w ⟨rfl, hS⟩) | (go_at_call 27; (with_reducible refine (St.call hS fun hl => i19Filtered_any _ _ hl).mono ?_); rintro e w ⟨rfl, hS⟩) | ((with_reducible refine at_box ?_); (first | (refine wpList_box_agg rfl hS rfl rfl ?_; intro g w hS)); (try simp only [Act.put, List.setIfInBounds_toArray, List.set_cons_zero, List.set_cons_succ])) | ((with_reducible refine at_load ?_); (first | (refine rp_ldw rfl hS rfl rfl (by (first | exact .head | exact .tail .head | exact .tail (.tail .head) | exact .tail (.tail (.tail .head)) | exact .tail (.tail (.tail (.tail .head))) | fail)) ?_)); (try simp only [Act.put, List.setIfInBounds_toArray, List.set_cons_zero, List.set_cons_succ])) | ((with_reducible refine region_here ?_); refine wp_region_St hS (by kernel_rfl) (by kernel_rfl) ?_) | ((with_reducible refine runS_end ?_); intro w hS) | ((with_reducible refine rat_cat ?_); (first | (refine runS_cat rfl rfl rfl rfl (by first | (simp only [List.length_append, List.length_cons, List.length_nil]; omega) | fail) (fun _ _ _ h => h) ?_)); (try simp only [Act.put, List.setIfInBounds_toArray, List.set_cons_zero, List.set_cons_succ])) | ((with_reducible refine rat_load ?_); (first | (refine rp_rlw rfl rfl rfl (by (first | exact .head | exact .tail .head | exact .tail (.tail .head) | exact .tail (.tail (.tail .head)) | exact .tail (.tail (.tail (.tail .head))) | fail)) (fun _ _ _ h => h) ?_) | (refine rp_rl1 rfl rfl rfl (by (first | exact .head | exact .tail .head | exact .tail (.tail .head) | exact .tail (.tail (.tail .head)) | exact .tail (.tail (.tail (.tail .head))) | fail)) (fun _ _ _ h => h) ?_) | (refine rp_rl2 rfl rfl rfl (by (first | exact .head | exact .tail .head | exact .tail (.tail .head) | exact .tail (.tail (.tail .head)) | exact .tail (.tail (.tail (.tail .head))) | fail)) (fun _ _ _ h => h) ?_)); (try simp only [Act.put, List.setIfInBounds_toArray, List.set_cons_zero, List.set_cons_succ])) | ((with_reducible refine rat_call ?_); (first | (refine runS_call (v := ?_) (args := ?_) 31 rfl (fun _ _ _ h => h) ?_ ?_ ?_; rotate_left 2; (focus ((intro w; go_simp) <;> with_reducible rfl)); (focus (intro w hS; refine St.stillE hS (fun hl => rTWho_any _ _) ?_; with_reducible rfl))) | (refine runS_call (v := ?_) (args := ?_) 29 rfl (fun _ _ _ h => h) ?_ ?_ ?_; rotate_left 2; (focus ((intro w; go_simp) <;> with_reducible rfl)); (focus (intro w hS; refine St.callE hS (fun hl => rFltText_any _ _) ?_; with_reducible rfl))) | (refine runS_call (v := ?_) (args := ?_) 28 rfl (fun _ _ _ h => h) ?_ ?_ ?_; rotate_left 2; (focus ((intro w; go_simp) <;> with_reducible rfl)); (focus (intro w hS; refine St.callE hS (fun hl => i19Word_any _ _ hl) ?_; with_reducible rfl))) | (refine runS_call (v := ?_) (args := ?_) 30 rfl (fun _ _ _ h => h) ?_ ?_ ?_; rotate_left 2; (focus ((intro w; go_simp) <;> with_reducible rfl)); (focus (intro w hS; refine St.callE hS (fun hl => i19Action_any _ hn _ hl) ?_; with_reducible rfl)))); (try simp only [Act.put, List.setIfInBounds_toArray, List.set_cons_zero, List.set_cons_succ])) | ((with_reducible refine runS_here ?_); (refine runS_val (v := ?_) rfl (fun _ _ _ h => h) ?_ ?_; rotate_left; (focus ((intro w hS; go_simp) <;> with_reducible rfl))); (try simp only [Act.put, List.setIfInBounds_toArray, List.set_cons_zero, List.set_cons_succ])))
    all_goals go_ret
    all_goals (refine ⟨ret_B ?_, hS.below⟩; rw [HR.out]; clear h1 h2 h3 h4 hn; unfold rpBody whomS; simp_all)
end Go.Proofs.YtlgelkbniogekaaGreatDoor
