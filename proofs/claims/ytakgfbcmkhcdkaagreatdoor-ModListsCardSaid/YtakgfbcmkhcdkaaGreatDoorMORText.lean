/- Walks: the reference of chapter 15: Text. Conditions: Laid. -/
import Derived.Test.YtakgfbcmkhcdkaaGreatDoorMOText
import Derived.Test.YtakgfbcmkhcdkaaGreatDoorMORef
import Derived.Test.YtakgfbcmkhcdkaaGreatDoorMORRead
import Derived.Test.YtakgfbcmkhcdkaaGreatDoorMRFText
namespace Go.Proofs.YtakgfbcmkhcdkaaGreatDoor
set_option linter.all false
open Go.ChangeShapes Go.WideShapes Go.RowKit
attribute [local irreducible] wpList Code.wp Calls
set_option maxRecDepth 100000 in
set_option maxHeartbeats 1000000 in
theorem r15Text_none (r : Md) (HV : Hid (false = mdIs r)) (w : World) (hl : Laid w) : Calls Tryz.prog 15 #[.agg r.cells] w fun e w' => e = .returned (.string (B [])) ∧ Below w.heap.size w w' := by
  obtain ⟨kind, n, m, sub, f⟩ := r
  have hS := St.start hl keepsL
  go_enter Tryz.func15, Tryz.ntmps15
  go_wp2_with (first | (go_at_call 13; (with_reducible refine (St.call hS fun hl => r15Is_is _ _ HV _ hl).mono ?_); rintro e w ⟨rfl, hS⟩) | ((with_reducible refine at_box ?_); (first | (refine wpList_box_agg rfl hS rfl rfl ?_; intro g w hS)); (try simp only [Act.put, List.setIfInBounds_toArray, List.set_cons_zero, List.set_cons_succ])) | ((with_reducible refine at_load ?_); (first | (refine md_ldw rfl hS rfl rfl (by (first | exact .head | exact .tail .head | exact .tail (.tail .head) | exact .tail (.tail (.tail .head)) | exact .tail (.tail (.tail (.tail .head))) | fail)) ?_)); (try simp only [Act.put, List.setIfInBounds_toArray, List.set_cons_zero, List.set_cons_succ])))
  go_ret
  exact ⟨rfl, hS.below⟩
set_option maxRecDepth 100000 in
set_option maxHeartbeats 4000000 in
theorem r15Text_some (r : Md) (hr : MdForm r) (HV : Hid (true = mdIs r)) (w : World) (hl : Laid w) : Calls Tryz.prog 15 #[.agg r.cells] w fun e w' => e = .returned (.string (B (mdBody r))) ∧ Below w.heap.size w w' := by
  cases hr with
  | control | blank | switch =>
    have hS := St.start hl keepsL
    go_enter Tryz.func15, Tryz.ntmps15
    go_wp2_with (first | (go_at_call 13; (with_reducible refine (St.call hS fun hl => r15Is_is _ _ HV _ hl).mono ?_); rintro e w ⟨rfl, hS⟩) | ((with_reducible refine at_box ?_); (first | (refine wpList_box_agg rfl hS rfl rfl ?_; intro g w hS)); (try simp only [Act.put, List.setIfInBounds_toArray, List.set_cons_zero, List.set_cons_succ])) | ((with_reducible refine at_load ?_); (first | (refine md_ldw rfl hS rfl rfl (by (first | exact .head | exact .tail .head | exact .tail (.tail .head) | exact .tail (.tail (.tail .head)) | exact .tail (.tail (.tail (.tail .head))) | fail)) ?_) | (refine md_ld0 rfl hS rfl rfl (by (first | exact .head | exact .tail .head | exact .tail (.tail .head) | exact .tail (.tail (.tail .head)) | exact .tail (.tail (.tail (.tail .head))) | fail)) ?_)); (try simp only [Act.put, List.setIfInBounds_toArray, List.set_cons_zero, List.set_cons_succ])))
    all_goals go_ret
    all_goals exact ⟨ret_B rfl, hS.below⟩
  | types2 k h1 h2 | types3 k h1 h2 =>
    have h3 := types_len ⟨k, by omega⟩
    simp only at h3
    have hS := St.start hl keepsL
    go_enter Tryz.func15, Tryz.ntmps15
    go_wp2_with (first | (go_at_call 13; (with_reducible refine (St.call hS fun hl => r15Is_is _ _ HV _ hl).mono ?_); rintro e w ⟨rfl, hS⟩) | (go_at_call 41; (with_reducible refine (St.call hS fun hl => rTypesText_any _ h1 h2 _).mono ?_); rintro e w ⟨rfl, hS⟩) | ((with_reducible refine at_cat ?_); (first | (refine wpList_cat rfl rfl rfl rfl (by first | (simp only [List.length_append, List.length_cons, List.length_nil]; omega) | fail) ?_)); (try simp only [Act.put, List.setIfInBounds_toArray, List.set_cons_zero, List.set_cons_succ])) | ((with_reducible refine at_box ?_); (first | (refine wpList_box_agg rfl hS rfl rfl ?_; intro g w hS)); (try simp only [Act.put, List.setIfInBounds_toArray, List.set_cons_zero, List.set_cons_succ])) | ((with_reducible refine at_load ?_); (first | (refine md_ldw rfl hS rfl rfl (by (first | exact .head | exact .tail .head | exact .tail (.tail .head) | exact .tail (.tail (.tail .head)) | exact .tail (.tail (.tail (.tail .head))) | fail)) ?_) | (refine md_ld0 rfl hS rfl rfl (by (first | exact .head | exact .tail .head | exact .tail (.tail .head) | exact .tail (.tail (.tail .head)) | exact .tail (.tail (.tail (.tail .head))) | fail)) ?_) | (refine md_ld1 rfl hS rfl rfl (by (first | exact .head | exact .tail .head | exact .tail (.tail .head) | exact .tail (.tail (.tail .head)) | exact .tail (.tail (.tail (.tail .head))) | fail)) ?_)); (try simp only [Act.put, List.setIfInBounds_toArray, List.set_cons_zero, List.set_cons_succ])))
    all_goals go_ret
    all_goals exact ⟨ret_B rfl, hS.below⟩
  | sub4 s hs | sub5 s hs =>
    obtain ⟨p, rfl⟩ : ∃ p, s = B p := ⟨L s, (B_L s).symm⟩
    have h3 := isSub_len hs
    rw [L_B] at h3
    have hS := St.start hl keepsL
    go_enter Tryz.func15, Tryz.ntmps15
    go_wp2_with (first | (go_at_call 13; (with_reducible refine (St.call hS fun hl => r15Is_is _ _ HV _ hl).mono ?_); rintro e w ⟨rfl, hS⟩) | ((with_reducible refine at_cat ?_); (first | (refine wpList_cat rfl rfl rfl rfl (by first | (simp only [List.length_append, List.length_cons, List.length_nil]; omega) | fail) ?_)); (try simp only [Act.put, List.setIfInBounds_toArray, List.set_cons_zero, List.set_cons_succ])) | ((with_reducible refine at_box ?_); (first | (refine wpList_box_agg rfl hS rfl rfl ?_; intro g w hS)); (try simp only [Act.put, List.setIfInBounds_toArray, List.set_cons_zero, List.set_cons_succ])) | ((with_reducible refine at_load ?_); (first | (refine md_ldw rfl hS rfl rfl (by (first | exact .head | exact .tail .head | exact .tail (.tail .head) | exact .tail (.tail (.tail .head)) | exact .tail (.tail (.tail (.tail .head))) | fail)) ?_) | (refine md_ld0 rfl hS rfl rfl (by (first | exact .head | exact .tail .head | exact .tail (.tail .head) | exact .tail (.tail (.tail .head)) | exact .tail (.tail (.tail (.tail .head))) | fail)) ?_) | (refine md_ld3 rfl hS rfl rfl (by (first | exact .head | exact .tail .head | exact .tail (.tail .head) | exact .tail (.tail (.tail .head)) | exact .tail (.tail (.tail (.tail .head))) | fail)) ?_)); (try simp only [Act.put, List.setIfInBounds_toArray, List.set_cons_zero, List.set_cons_succ])))
    all_goals go_ret
    all_goals exact ⟨ret_B rfl, hS.below⟩
  | colors6 k h1 =>
    have h3 := colors_len ⟨k, by omega⟩
    simp only at h3
    have hS := St.start hl keepsL
    go_enter Tryz.func15, Tryz.ntmps15
    go_wp2_with (first | (go_at_call 13; (with_reducible refine (St.call hS fun hl => r15Is_is _ _ HV _ hl).mono ?_); rintro e w ⟨rfl, hS⟩) | (go_at_call 42; (with_reducible refine (St.call hS fun hl => r09Text_any _ (by omega) _ hl).mono ?_); rintro e w ⟨rfl, hS⟩) | ((with_reducible refine at_cat ?_); (first | (refine wpList_cat rfl rfl rfl rfl (by first | (simp only [List.length_append, List.length_cons, List.length_nil]; omega) | fail) ?_)); (try simp only [Act.put, List.setIfInBounds_toArray, List.set_cons_zero, List.set_cons_succ])) | ((with_reducible refine at_box ?_); (first | (refine wpList_box_agg rfl hS rfl rfl ?_; intro g w hS)); (try simp only [Act.put, List.setIfInBounds_toArray, List.set_cons_zero, List.set_cons_succ])) | ((with_reducible refine at_load ?_); (first | (refine md_ldw rfl hS rfl rfl (by (first | exact .head | exact .tail .head | exact .tail (.tail .head) | exact .tail (.tail (.tail .head)) | exact .tail (.tail (.tail (.tail .head))) | fail)) ?_) | (refine md_ld0 rfl hS rfl rfl (by (first | exact .head | exact .tail .head | exact .tail (.tail .head) | exact .tail (.tail (.tail .head)) | exact .tail (.tail (.tail (.tail .head))) | fail)) ?_) | (refine md_ld1 rfl hS rfl rfl (by (first | exact .head | exact .tail .head | exact .tail (.tail .head) | exact .tail (.tail (.tail .head)) | exact .tail (.tail (.tail (.tail .head))) | fail)) ?_)); (try simp only [Act.put, List.setIfInBounds_toArray, List.set_cons_zero, List.set_cons_succ])))
    all_goals go_ret
    all_goals exact ⟨ret_B rfl, hS.below⟩
  | colors7 k h1 h2 =>
    have h3 := colors_len ⟨k, by omega⟩
    simp only at h3
    have hS := St.start hl keepsL
    go_enter Tryz.func15, Tryz.ntmps15
    go_wp2_with (first | (go_at_call 13; (with_reducible refine (St.call hS fun hl => r15Is_is _ _ HV _ hl).mono ?_); rintro e w ⟨rfl, hS⟩) | (go_at_call 42; (with_reducible refine (St.call hS fun hl => r09Text_any _ (by omega) _ hl).mono ?_); rintro e w ⟨rfl, hS⟩) | ((with_reducible refine at_cat ?_); (first | (refine wpList_cat rfl rfl rfl rfl (by first | (simp only [List.length_append, List.length_cons, List.length_nil]; omega) | fail) ?_)); (try simp only [Act.put, List.setIfInBounds_toArray, List.set_cons_zero, List.set_cons_succ])) | ((with_reducible refine at_box ?_); (first | (refine wpList_box_agg rfl hS rfl rfl ?_; intro g w hS)); (try simp only [Act.put, List.setIfInBounds_toArray, List.set_cons_zero, List.set_cons_succ])) | ((with_reducible refine at_load ?_); (first | (refine md_ldw rfl hS rfl rfl (by (first | exact .head | exact .tail .head | exact .tail (.tail .head) | exact .tail (.tail (.tail .head)) | exact .tail (.tail (.tail (.tail .head))) | fail)) ?_) | (refine md_ld0 rfl hS rfl rfl (by (first | exact .head | exact .tail .head | exact .tail (.tail .head) | exact .tail (.tail (.tail .head)) | exact .tail (.tail (.tail (.tail .head))) | fail)) ?_) | (refine md_ld1 rfl hS rfl rfl (by (first | exact .head | exact .tail .head | exact .tail (.tail .head) | exact .tail (.tail (.tail .head)) | exact .tail (.tail (.tail (.tail .head))) | fail)) ?_)); (try simp only [Act.put, List.setIfInBounds_toArray, List.set_cons_zero, List.set_cons_succ])))
    all_goals go_ret
    all_goals exact ⟨ret_B rfl, hS.below⟩
  | keys8 k h1 h2 | keys9 k h1 h2 =>
    have h3 := keyText_le (m := k)
    have hS := St.start hl keepsL
    go_enter Tryz.func15, Tryz.ntmps15
    go_wp2_with (first | (go_at_call 13; (with_reducible refine (St.call hS fun hl => r15Is_is _ _ HV _ hl).mono ?_); rintro e w ⟨rfl, hS⟩) | (go_at_call 43; (with_reducible refine (St.call hS fun hl => r11Text_any _ (by omega) _ hl).mono ?_); rintro e w ⟨rfl, hS⟩) | ((with_reducible refine at_cat ?_); (first | (refine wpList_cat rfl rfl rfl rfl (by first | (simp only [List.length_append, List.length_cons, List.length_nil]; omega) | fail) ?_)); (try simp only [Act.put, List.setIfInBounds_toArray, List.set_cons_zero, List.set_cons_succ])) | ((with_reducible refine at_box ?_); (first | (refine wpList_box_agg rfl hS rfl rfl ?_; intro g w hS)); (try simp only [Act.put, List.setIfInBounds_toArray, List.set_cons_zero, List.set_cons_succ])) | ((with_reducible refine at_load ?_); (first | (refine md_ldw rfl hS rfl rfl (by (first | exact .head | exact .tail .head | exact .tail (.tail .head) | exact .tail (.tail (.tail .head)) | exact .tail (.tail (.tail (.tail .head))) | fail)) ?_) | (refine md_ld0 rfl hS rfl rfl (by (first | exact .head | exact .tail .head | exact .tail (.tail .head) | exact .tail (.tail (.tail .head)) | exact .tail (.tail (.tail (.tail .head))) | fail)) ?_) | (refine md_ld1 rfl hS rfl rfl (by (first | exact .head | exact .tail .head | exact .tail (.tail .head) | exact .tail (.tail (.tail .head)) | exact .tail (.tail (.tail (.tail .head))) | fail)) ?_)); (try simp only [Act.put, List.setIfInBounds_toArray, List.set_cons_zero, List.set_cons_succ])))
    all_goals go_ret
    all_goals exact ⟨ret_B rfl, hS.below⟩
  | count f hf =>
    have h3 := textOf_len (f := f)
    have hS := St.start hl keepsL
    go_enter Tryz.func15, Tryz.ntmps15
    go_wp2_with (first | (go_at_call 13; (with_reducible refine (St.call hS fun hl => r15Is_is _ _ HV _ hl).mono ?_); rintro e w ⟨rfl, hS⟩) | (go_at_call 44; (with_reducible refine (St.call hS fun hl => rFltText_any _ _).mono ?_); rintro e w ⟨rfl, hS⟩) | ((with_reducible refine at_cat ?_); (first | (refine wpList_cat rfl rfl rfl rfl (by first | (simp only [List.length_append, List.length_cons, List.length_nil]; omega) | fail) ?_)); (try simp only [Act.put, List.setIfInBounds_toArray, List.set_cons_zero, List.set_cons_succ])) | ((with_reducible refine at_box ?_); (first | (refine wpList_box_agg rfl hS rfl rfl ?_; intro g w hS)); (try simp only [Act.put, List.setIfInBounds_toArray, List.set_cons_zero, List.set_cons_succ])) | ((with_reducible refine at_load ?_); (first | (refine md_ldw rfl hS rfl rfl (by (first | exact .head | exact .tail .head | exact .tail (.tail .head) | exact .tail (.tail (.tail .head)) | exact .tail (.tail (.tail (.tail .head))) | fail)) ?_) | (refine md_ld0 rfl hS rfl rfl (by (first | exact .head | exact .tail .head | exact .tail (.tail .head) | exact .tail (.tail (.tail .head)) | exact .tail (.tail (.tail (.tail .head))) | fail)) ?_) | (refine md_ld4 rfl hS rfl rfl (by (first | exact .head | exact .tail .head | exact .tail (.tail .head) | exact .tail (.tail (.tail .head)) | exact .tail (.tail (.tail (.tail .head))) | fail)) ?_)); (try simp only [Act.put, List.setIfInBounds_toArray, List.set_cons_zero, List.set_cons_succ])))
    all_goals go_ret
    all_goals (refine ⟨ret_B ?_, hS.below⟩; simp [mdBody, ptV, countPV])
  | set12 n m h1 h2 h3 h4 =>
    have h5 := itoa99_le n (by omega) h2
    have h6 := itoa99_le m (by omega) h4
    have hS := St.start hl keepsL
    go_enter Tryz.func15, Tryz.ntmps15
    go_wp2_with (first | (go_at_call 13; (with_reducible refine (St.call hS fun hl => r15Is_is _ _ HV _ hl).mono ?_); rintro e w ⟨rfl, hS⟩) | ((with_reducible refine at_box ?_); (first | (refine wpList_box_agg rfl hS rfl rfl ?_; intro g w hS)); (try simp only [Act.put, List.setIfInBounds_toArray, List.set_cons_zero, List.set_cons_succ])) | ((with_reducible refine at_load ?_); (first | (refine md_ldw rfl hS rfl rfl (by (first | exact .head | exact .tail .head | exact .tail (.tail .head) | exact .tail (.tail (.tail .head)) | exact .tail (.tail (.tail (.tail .head))) | fail)) ?_) | (refine md_ld0 rfl hS rfl rfl (by (first | exact .head | exact .tail .head | exact .tail (.tail .head) | exact .tail (.tail (.tail .head)) | exact .tail (.tail (.tail (.tail .head))) | fail)) ?_)); (try simp only [Act.put, List.setIfInBounds_toArray, List.set_cons_zero, List.set_cons_succ])) | ((with_reducible refine region_here ?_); refine wp_region_St hS (by kernel_rfl) (by kernel_rfl) ?_) | ((with_reducible refine runS_end ?_); intro w hS) | ((with_reducible refine rat_cat ?_); (first | (refine runS_cat rfl rfl rfl rfl (by first | (simp only [List.length_append, List.length_cons, List.length_nil]; omega) | fail) (fun _ _ _ h => h) ?_)); (try simp only [Act.put, List.setIfInBounds_toArray, List.set_cons_zero, List.set_cons_succ])) | ((with_reducible refine rat_load ?_); (first | (refine md_rl1 rfl rfl rfl (by (first | exact .head | exact .tail .head | exact .tail (.tail .head) | exact .tail (.tail (.tail .head)) | exact .tail (.tail (.tail (.tail .head))) | fail)) (fun _ _ _ h => h) ?_) | (refine md_rl2 rfl rfl rfl (by (first | exact .head | exact .tail .head | exact .tail (.tail .head) | exact .tail (.tail (.tail .head)) | exact .tail (.tail (.tail (.tail .head))) | fail)) (fun _ _ _ h => h) ?_)); (try simp only [Act.put, List.setIfInBounds_toArray, List.set_cons_zero, List.set_cons_succ])) | ((with_reducible refine rat_call ?_); (first | (refine runS_call (v := ?_) (args := ?_) 45 rfl (fun _ _ _ h => h) ?_ ?_ ?_; rotate_left 2; (focus ((intro w; go_simp) <;> with_reducible rfl)); (focus (intro w hS; refine St.callE hS (fun hl => rText_any _ _ (by omega) (by omega)) ?_; with_reducible rfl)))); (try simp only [Act.put, List.setIfInBounds_toArray, List.set_cons_zero, List.set_cons_succ])) | ((with_reducible refine runS_here ?_); (refine runS_val (v := ?_) rfl (fun _ _ _ h => h) ?_ ?_; rotate_left; (focus ((intro w hS; go_simp) <;> with_reducible rfl))); (try simp only [Act.put, List.setIfInBounds_toArray, List.set_cons_zero, List.set_cons_succ])))
    all_goals go_ret
    all_goals (refine ⟨ret_B ?_, hS.below⟩; simp [mdBody, ptV])
  | add13 n m h1 h2 h3 h4 =>
    have h5 := itoa99_le n h1 h2
    have h6 := itoa99_le m h3 h4
    have hS := St.start hl keepsL
    go_enter Tryz.func15, Tryz.ntmps15
    go_wp2_with (first | (go_at_call 13; (with_reducible refine (St.call hS fun hl => r15Is_is _ _ HV _ hl).mono ?_); rintro e w ⟨rfl, hS⟩) | ((with_reducible refine at_box ?_); (first | (refine wpList_box_agg rfl hS rfl rfl ?_; intro g w hS)); (try simp only [Act.put, List.setIfInBounds_toArray, List.set_cons_zero, List.set_cons_succ])) | ((with_reducible refine at_load ?_); (first | (refine md_ldw rfl hS rfl rfl (by (first | exact .head | exact .tail .head | exact .tail (.tail .head) | exact .tail (.tail (.tail .head)) | exact .tail (.tail (.tail (.tail .head))) | fail)) ?_) | (refine md_ld0 rfl hS rfl rfl (by (first | exact .head | exact .tail .head | exact .tail (.tail .head) | exact .tail (.tail (.tail .head)) | exact .tail (.tail (.tail (.tail .head))) | fail)) ?_)); (try simp only [Act.put, List.setIfInBounds_toArray, List.set_cons_zero, List.set_cons_succ])) | ((with_reducible refine region_here ?_); refine wp_region_St hS (by kernel_rfl) (by kernel_rfl) ?_) | ((with_reducible refine runS_end ?_); intro w hS) | ((with_reducible refine rat_cat ?_); (first | (refine runS_cat rfl rfl rfl rfl (by first | (simp only [List.length_append, List.length_cons, List.length_nil]; omega) | fail) (fun _ _ _ h => h) ?_)); (try simp only [Act.put, List.setIfInBounds_toArray, List.set_cons_zero, List.set_cons_succ])) | ((with_reducible refine rat_load ?_); (first | (refine md_rl1 rfl rfl rfl (by (first | exact .head | exact .tail .head | exact .tail (.tail .head) | exact .tail (.tail (.tail .head)) | exact .tail (.tail (.tail (.tail .head))) | fail)) (fun _ _ _ h => h) ?_) | (refine md_rl2 rfl rfl rfl (by (first | exact .head | exact .tail .head | exact .tail (.tail .head) | exact .tail (.tail (.tail .head)) | exact .tail (.tail (.tail (.tail .head))) | fail)) (fun _ _ _ h => h) ?_)); (try simp only [Act.put, List.setIfInBounds_toArray, List.set_cons_zero, List.set_cons_succ])) | ((with_reducible refine rat_call ?_); (first | (refine runS_call (v := ?_) (args := ?_) 45 rfl (fun _ _ _ h => h) ?_ ?_ ?_; rotate_left 2; (focus ((intro w; go_simp) <;> with_reducible rfl)); (focus (intro w hS; refine St.callE hS (fun hl => rText_any _ _ (by omega) (by omega)) ?_; with_reducible rfl)))); (try simp only [Act.put, List.setIfInBounds_toArray, List.set_cons_zero, List.set_cons_succ])) | ((with_reducible refine runS_here ?_); (refine runS_val (v := ?_) rfl (fun _ _ _ h => h) ?_ ?_; rotate_left; (focus ((intro w hS; go_simp) <;> with_reducible rfl))); (try simp only [Act.put, List.setIfInBounds_toArray, List.set_cons_zero, List.set_cons_succ])))
    all_goals go_ret
    all_goals (refine ⟨ret_B ?_, hS.below⟩; simp [mdBody, ptPV])
theorem r15Text_any (r : Md) (w : World) (hl : Laid w) : Calls Tryz.prog 15 #[.agg r.cells] w fun e w' => e = .returned (.string (B (mdText r))) ∧ Below w.heap.size w w' := by
  cases hv : mdIs r with
  | false => rw [mdText_no hv]; exact r15Text_none r (Lib.hid hv.symm) w hl
  | true => rw [show mdText r = mdBody r from if_pos hv]; exact r15Text_some r (md_form hv) (Lib.hid hv.symm) w hl
theorem r15Text_is (r : Md) (T : Str) (h : Hid (mdText r = T)) (w : World) (hl : Laid w) : Calls Tryz.prog 15 #[.agg r.cells] w fun e w' => e = .returned (.string (B T)) ∧ Below w.heap.size w w' :=
  (r15Text_any r w hl).mono fun e w' h' => ⟨by rw [h'.1, h.out], h'.2⟩
end Go.Proofs.YtakgfbcmkhcdkaaGreatDoor
