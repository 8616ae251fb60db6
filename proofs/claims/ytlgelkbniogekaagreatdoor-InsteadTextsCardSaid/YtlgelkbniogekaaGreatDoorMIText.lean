/- Walks: package effect: ZoneName; package instead: about, action, Text. Conditions: LaidM. Walks: package instead: Text. Conditions: LaidM. -/
import Derived.Test.YtlgelkbniogekaaGreatDoorMIIs
import Derived.Test.YtlgelkbniogekaaGreatDoorMCnt
namespace Go.Proofs.YtlgelkbniogekaaGreatDoor
set_option linter.all false
open Go.ChangeShapes Go.WideShapes Go.RowKit
attribute [local irreducible] wpList Code.wp
theorem zone_any (z : Int) (w : World) : Calls Tryz.prog 54 #[.int .i64 z] w fun e w' => e = .returned (.string (B (zoneName z))) ∧ Below w.heap.size w w' := by
  by_cases h0 : z = 0
  · subst h0
    have k0 := Lib.hid (Below.refl w.heap.size w)
    go_enter Tryz.func54, Tryz.ntmps54
    go_wp2
    go_ret
    exact ⟨rfl, (k0.out.alloc (Nat.le_refl _) _)⟩
  by_cases h1 : z = 1
  · subst h1
    have k0 := Lib.hid (Below.refl w.heap.size w)
    go_enter Tryz.func54, Tryz.ntmps54
    go_wp2
    go_ret
    exact ⟨rfl, (k0.out.alloc (Nat.le_refl _) _)⟩
  by_cases h2 : z = 2
  · subst h2
    have k0 := Lib.hid (Below.refl w.heap.size w)
    go_enter Tryz.func54, Tryz.ntmps54
    go_wp2
    go_ret
    exact ⟨rfl, (k0.out.alloc (Nat.le_refl _) _)⟩
  by_cases h3 : z = 3
  · subst h3
    have k0 := Lib.hid (Below.refl w.heap.size w)
    go_enter Tryz.func54, Tryz.ntmps54
    go_wp2
    go_ret
    exact ⟨rfl, (k0.out.alloc (Nat.le_refl _) _)⟩
  by_cases h4 : z = 4
  · subst h4
    have k0 := Lib.hid (Below.refl w.heap.size w)
    go_enter Tryz.func54, Tryz.ntmps54
    go_wp2
    go_ret
    exact ⟨rfl, (k0.out.alloc (Nat.le_refl _) _)⟩
  by_cases h5 : z = 5
  · subst h5
    have k0 := Lib.hid (Below.refl w.heap.size w)
    go_enter Tryz.func54, Tryz.ntmps54
    go_wp2
    go_ret
    exact ⟨rfl, (k0.out.alloc (Nat.le_refl _) _)⟩
  · have HR : Hid (zoneName z = []) := Lib.hid (by unfold zoneName; rw [if_neg h0, if_neg h1, if_neg h2, if_neg h3, if_neg h4, if_neg h5])
    have hc : z < 0 ∨ (0 ≤ z ∧ 6 ≤ z) := by omega
    clear h0 h1 h2 h3 h4 h5
    generalize zoneName z = R at *
    rcases hc with hc | ⟨hc, hd⟩
    all_goals
      go_enter Tryz.func54, Tryz.ntmps54
      go_wp2
      go_ret
      exact ⟨ret_str (by rw [HR.out]; rfl), (Below.refl _ _).alloc (Nat.le_refl _) _⟩
theorem zoneName_len (z : Int) : (zoneName z).length ≤ 11 := by
  unfold zoneName
  repeat' split
  all_goals decide
set_option maxRecDepth 100000 in
set_option maxHeartbeats 1000000 in
theorem about_any (r : Rp) (w : World) (hl : LaidM w) : Calls Tryz.prog 25 #[.agg r.cells] w fun e w' => e = .returned (.string (B (aboutS r.on r.who r.d))) ∧ Below w.heap.size w w' := by
  have hS := St.start hl keepsM
  go_enter Tryz.func25, Tryz.ntmps25
  go_wp2_with (first | ((with_reducible refine at_box ?_); (first | (refine wpList_box_agg rfl hS rfl rfl ?_; intro g w hS)); (try simp only [Act.put, List.setIfInBounds_toArray, List.set_cons_zero, List.set_cons_succ])) | ((with_reducible refine at_load ?_); (first | (refine rp_ld0 rfl hS rfl rfl (by (first | exact .head | exact .tail .head | exact .tail (.tail .head) | exact .tail (.tail (.tail .head)) | exact .tail (.tail (.tail (.tail .head))) | fail)) ?_) | (refine rp_ld1 rfl hS rfl rfl (by (first | exact .head | exact .tail .head | exact .tail (.tail .head) | exact .tail (.tail (.tail .head)) | exact .tail (.tail (.tail (.tail .head))) | fail)) ?_) | (refine rp_ld18 rfl hS rfl rfl (by (first | exact .head | exact .tail .head | exact .tail (.tail .head) | exact .tail (.tail (.tail .head)) | exact .tail (.tail (.tail (.tail .head))) | fail)) ?_)); (try simp only [Act.put, List.setIfInBounds_toArray, List.set_cons_zero, List.set_cons_succ])))
  all_goals go_ret
  all_goals (refine ⟨ret_B ?_, hS.below⟩; simp_all [aboutS] <;> rfl)
set_option maxRecDepth 100000 in
set_option maxHeartbeats 1000000 in
theorem action_any (r : Rp) (hn : 0 ≤ r.n ∧ r.n ≤ 1000000) (w : World) (hl : LaidM w) : Calls Tryz.prog 26 #[.agg r.cells] w fun e w' => e = .returned (.string (B (actS r.d r.n r.z r.c))) ∧ Below w.heap.size w w' := by
  have hi := Lib.itoa_length_le r.n (by omega) (by omega)
  have hc := cntText_len r.c
  have hS := St.start hl keepsM
  go_enter Tryz.func26, Tryz.ntmps26
  go_wp2_with (first | (go_at_call 53; (with_reducible refine (St.call hS fun hl => numText_any _ (by omega) (by omega) _ hl.base).mono ?_); rintro e w ⟨rfl, hS⟩) | (go_at_call 54; (with_reducible refine (St.call hS fun hl => zone_any _ _).mono ?_); rintro e w ⟨rfl, hS⟩) | ((with_reducible refine at_cat ?_); (first | (refine wpList_cat rfl rfl rfl rfl (by first | (simp only [List.length_append, List.length_cons, List.length_nil]; omega) | fail) ?_)); (try simp only [Act.put, List.setIfInBounds_toArray, List.set_cons_zero, List.set_cons_succ])) | ((with_reducible refine at_box ?_); (first | (refine wpList_box_agg rfl hS rfl rfl ?_; intro g w hS)); (try simp only [Act.put, List.setIfInBounds_toArray, List.set_cons_zero, List.set_cons_succ])) | ((with_reducible refine at_load ?_); (first | (refine rp_ld18 rfl hS rfl rfl (by (first | exact .head | exact .tail .head | exact .tail (.tail .head) | exact .tail (.tail (.tail .head)) | exact .tail (.tail (.tail (.tail .head))) | fail)) ?_) | (refine rp_ld19 rfl hS rfl rfl (by (first | exact .head | exact .tail .head | exact .tail (.tail .head) | exact .tail (.tail (.tail .head)) | exact .tail (.tail (.tail (.tail .head))) | fail)) ?_) | (refine rp_ld20 rfl hS rfl rfl (by (first | exact .head | exact .tail .head | exact .tail (.tail .head) | exact .tail (.tail (.tail .head)) | exact .tail (.tail (.tail (.tail .head))) | fail)) ?_)); (try simp only [Act.put, List.setIfInBounds_toArray, List.set_cons_zero, List.set_cons_succ])) | ((with_reducible refine region_here ?_); refine wp_region_St hS (by kernel_rfl) (by kernel_rfl) ?_) | ((with_reducible refine runS_end ?_); intro w hS) | ((with_reducible refine rat_cat ?_); (first | (refine runS_cat rfl rfl rfl rfl (by first | (simp only [List.length_append, List.length_cons, List.length_nil]; omega) | fail) (fun _ _ _ h => h) ?_)); (try simp only [Act.put, List.setIfInBounds_toArray, List.set_cons_zero, List.set_cons_succ])) | ((with_reducible refine rat_load ?_); (first | (refine rp_rl19 rfl rfl rfl (by (first | exact .head | exact .tail .head | exact .tail (.tail .head) | exact .tail (.tail (.tail .head)) | exact .tail (.tail (.tail (.tail .head))) | fail)) (fun _ _ _ h => h) ?_) | (refine rp_rl21 rfl rfl rfl (by (first | exact .head | exact .tail .head | exact .tail (.tail .head) | exact .tail (.tail (.tail .head)) | exact .tail (.tail (.tail (.tail .head))) | fail)) (fun _ _ _ h => h) ?_)); (try simp only [Act.put, List.setIfInBounds_toArray, List.set_cons_zero, List.set_cons_succ])) | ((with_reducible refine rat_call ?_); (first | (refine runS_call (v := ?_) (args := ?_) 53 rfl (fun _ _ _ h => h) ?_ ?_ ?_; rotate_left 2; (focus ((intro w; go_simp) <;> with_reducible rfl)); (focus (intro w hS; refine St.callE hS (fun hl => numText_any _ (by omega) (by omega) _ hl.base) ?_; with_reducible rfl))) | (refine runS_call (v := ?_) (args := ?_) 19 rfl (fun _ _ _ h => h) ?_ ?_ ?_; rotate_left 2; (focus ((intro w; go_simp) <;> with_reducible rfl)); (focus (intro w hS; refine St.stillE hS (fun hl => cntName_any _ _ hl) ?_; with_reducible rfl)))); (try simp only [Act.put, List.setIfInBounds_toArray, List.set_cons_zero, List.set_cons_succ])) | ((with_reducible refine runS_here ?_); (refine runS_val (v := ?_) rfl (fun _ _ _ h => h) ?_ ?_; rotate_left; (focus ((intro w hS; go_simp) <;> with_reducible rfl))); (try simp only [Act.put, List.setIfInBounds_toArray, List.set_cons_zero, List.set_cons_succ])))
  all_goals go_ret
  all_goals (refine ⟨ret_B ?_, hS.below⟩; clear hi hc; simp_all [actS] <;> rfl)
theorem aboutS_len (on who d : Int) : (aboutS on who d).length ≤ 6 := by
  unfold aboutS
  repeat' split
  all_goals decide
theorem actS_len (d n z c : Int) (h : 0 ≤ n ∧ n ≤ 1000000) : (actS d n z c).length ≤ 100 := by
  have hi := Lib.itoa_length_le n (by omega) (by omega)
  have hc := cntText_len c
  have hz := zoneName_len z
  unfold actS
  repeat' split
  all_goals simp [preventV, reduceV, doubleV, addV, tappedV, withV, skipV]
  all_goals omega
theorem inIs_is (r : Rp) (R : Bool) (h : Hid (R = rpIs r)) (w : World) (hl : LaidM w) : Calls Tryz.prog 10 #[.agg r.cells] w fun e w' => e = .returned (.bool R) ∧ Below w.heap.size w w' :=
  (inIs_any r w hl).mono fun e w' h' => ⟨by rw [h'.1, h.out], h'.2⟩
end Go.Proofs.YtlgelkbniogekaaGreatDoor
namespace Go.Proofs.YtlgelkbniogekaaGreatDoor
set_option linter.all false
open Go.ChangeShapes Go.WideShapes Go.RowKit
attribute [local irreducible] wpList Code.wp
set_option maxRecDepth 100000 in
set_option maxHeartbeats 1000000 in
theorem inText_any (r : Rp) (w : World) (hl : LaidM w) : Calls Tryz.prog 12 #[.agg r.cells] w fun e w' => e = .returned (.string (B (rpText r))) ∧ Below w.heap.size w w' := by
  obtain ⟨on, who, f, d, n, z, c⟩ := r
  have h1 := textOf_len (f := f)
  have h2 := aboutS_len on who d
  have h3 := whoText_len who
  cases hv : rpIs ⟨on, who, f, d, n, z, c⟩ with
  | false =>
    have HV : Hid (false = rpIs ⟨on, who, f, d, n, z, c⟩) := Lib.hid hv.symm
    clear hv
    have hS := St.start hl keepsM
    go_enter Tryz.func12, Tryz.ntmps12
    go_wp2_with (first | (go_at_call 10; (with_reducible refine (St.call hS fun hl => inIs_is _ _ HV _ hl).mono ?_); rintro e w ⟨rfl, hS⟩) | ((with_reducible refine at_box ?_); (first | (refine wpList_box_agg rfl hS rfl rfl ?_; intro g w hS)); (try simp only [Act.put, List.setIfInBounds_toArray, List.set_cons_zero, List.set_cons_succ])) | ((with_reducible refine at_load ?_); (first | (refine rp_ldw rfl hS rfl rfl (by (first | exact .head | exact .tail .head | exact .tail (.tail .head) | exact .tail (.tail (.tail .head)) | exact .tail (.tail (.tail (.tail .head))) | fail)) ?_)); (try simp only [Act.put, List.setIfInBounds_toArray, List.set_cons_zero, List.set_cons_succ])))
    go_ret
    exact ⟨ret_B (p := []) (rpText_no HV.out.symm).symm, hS.below⟩
  | true =>
    have HV : Hid (true = rpIs ⟨on, who, f, d, n, z, c⟩) := Lib.hid hv.symm
    obtain ⟨_, _, _, _, f1, f2, hac⟩ := rp_facts hv
    have hn : 0 ≤ n ∧ n ≤ 1000000 := by unfold actOk at hac; simp only at hac; omega
    have h4 := actS_len d n z c hn
    clear hv f1 f2 hac
    have HR : Hid (rpText ⟨on, who, f, d, n, z, c⟩ = rpBody ⟨on, who, f, d, n, z, c⟩) := Lib.hid (if_pos HV.out.symm)
    have hS := St.start hl keepsM
    go_enter Tryz.func12, Tryz.ntmps12
    go_wp2_with (first | ((first | (with_reducible refine wpList_here ?_) | (with_reducible refine region_here ?_)); (have hq := int_eq (by assumption); subst hq)) | (go_at_call 10; (with_reducible refine (St.call hS fun hl => inIs_is _ _ HV _ hl).mono ?_); rintro e w ⟨rfl, hS⟩) | (go_at_call 23; (with_reducible refine (St.still hS fun hl => tgWho_any _ _).mono ?_); rintro e w ⟨rfl, hS⟩) | (go_at_call 24; (with_reducible refine (St.call hS fun hl => fltText_v _ _ hl.base).mono ?_); rintro e w ⟨rfl, hS⟩) | ((with_reducible refine at_guard ?_); (first | (refine wpList_pass rfl ?_) | ((fail_if_success refine wpList_wanted rfl ?_); refine wpList_ask _ _ rfl rfl (fun hb => ?_) (fun hb => ?_) <;> (first | (obtain rfl := eq_of_beq hb) | (simp only [hb])))); (try simp only [Act.put, List.setIfInBounds_toArray, List.set_cons_zero, List.set_cons_succ])) | ((with_reducible refine at_cat ?_); (first | (refine wpList_cat rfl rfl rfl rfl (by first | (simp only [List.length_append, List.length_cons, List.length_nil]; omega) | fail) ?_)); (try simp only [Act.put, List.setIfInBounds_toArray, List.set_cons_zero, List.set_cons_succ])) | ((with_reducible refine at_box ?_); (first | (refine wpList_box_agg rfl hS rfl rfl ?_; intro g w hS)); (try simp only [Act.put, List.setIfInBounds_toArray, List.set_cons_zero, List.set_cons_succ])) | ((with_reducible refine at_load ?_); (first | (refine rp_ldw rfl hS rfl rfl (by (first | exact .head | exact .tail .head | exact .tail (.tail .head) | exact .tail (.tail (.tail .head)) | exact .tail (.tail (.tail (.tail .head))) | fail)) ?_) | (refine rp_ld0 rfl hS rfl rfl (by (first | exact .head | exact .tail .head | exact .tail (.tail .head) | exact .tail (.tail (.tail .head)) | exact .tail (.tail (.tail (.tail .head))) | fail)) ?_) | (refine rp_ld1 rfl hS rfl rfl (by (first | exact .head | exact .tail .head | exact .tail (.tail .head) | exact .tail (.tail (.tail .head)) | exact .tail (.tail (.tail (.tail .head))) | fail)) ?_) | (refine rp_ld2 rfl hS rfl rfl (by (first | exact .head | exact .tail .head | exact .tail (.tail .head) | exact .tail (.tail (.tail .head)) | exact .tail (.tail (.tail (.tail .head))) | fail)) ?_)); (try simp only [Act.put, List.setIfInBounds_toArray, List.set_cons_zero, List.set_cons_succ])) | ((with_reducible refine region_here ?_); refine wp_region_St hS (by kernel_rfl) (by kernel_rfl) ?_) | ((with_reducible refine runS_end ?_); intro w hS) | ((with_reducible refine rat_cat ?_); (first | (refine runS_cat rfl rfl rfl rfl (by first | (simp only [List.length_append, List.length_cons, List.length_nil]; omega) | fail) (fun _ _ _ h => h) ?_)); (try simp only [Act.put, List.setIfInBounds_toArray, List.set_cons_zero, List.set_cons_succ])) | ((with_reducible refine rat_load ?_); (first | (refine rp_rlw rfl rfl rfl (by (first | exact .head | exact .tail .head | exact .tail (.tail .head) | exact .tail (.tail (.tail .head)) | exact .tail (.tail (.tail (.tail .head))) | fail)) (fun _ _ _ h => h) ?_)); (try simp only [Act.put, List.setIfInBounds_toArray, List.set_cons_zero, List.set_cons_succ])) | ((with_reducible refine rat_call ?_); (first | (refine runS_call (v := ?_) (args := ?_) 25 rfl (fun _ _ _ h => h) ?_ ?_ ?_; rotate_left 2; (focus ((intro w; go_simp) <;> with_reducible rfl)); (focus (intro w hS; refine St.callE hS (fun hl => about_any _ _ hl) ?_; with_reducible rfl))) | (refine runS_call (v := ?_) (args := ?_) 26 rfl (fun _ _ _ h => h) ?_ ?_ ?_; rotate_left 2; (focus ((intro w; go_simp) <;> with_reducible rfl)); (focus (intro w hS; refine St.callE hS (fun hl => action_any _ hn _ hl) ?_; with_reducible rfl)))); (try simp only [Act.put, List.setIfInBounds_toArray, List.set_cons_zero, List.set_cons_succ])) | ((with_reducible refine runS_here ?_); (refine runS_val (v := ?_) rfl (fun _ _ _ h => h) ?_ ?_; rotate_left; (focus ((intro w hS; go_simp) <;> with_reducible rfl))); (try simp only [Act.put, List.setIfInBounds_toArray, List.set_cons_zero, List.set_cons_succ])))
    all_goals go_ret
    all_goals (refine ⟨ret_B ?_, hS.below⟩; rw [HR.out]; clear h1 h2 h3 h4 hn; unfold rpBody whomS; simp_all [filtR])
end Go.Proofs.YtlgelkbniogekaaGreatDoor
