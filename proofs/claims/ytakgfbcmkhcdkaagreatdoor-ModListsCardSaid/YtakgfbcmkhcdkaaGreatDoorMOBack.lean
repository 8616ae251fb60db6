/- ModBack: Parse inverts Text. Conditions: Laid. -/
import Derived.Test.YtakgfbcmkhcdkaaGreatDoorMOLaws
namespace Go.Proofs.YtakgfbcmkhcdkaaGreatDoor
set_option linter.all false
open Go.ChangeShapes Go.WideShapes Go.RowKit
attribute [local irreducible] wpList Code.wp Calls
theorem mdParse_nil : mdParse [] = none := by kernel_rfl
theorem shortO_is (r : Md) (b : Bool) (h : Hid (b = (decide (r.sub.size ≤ 100) && decide (r.f.sub.size ≤ 100)))) (w : World) (hl : Laid w) : Calls Tryz.prog 10 #[.agg r.cells] w fun e w' => e = .returned (.bool b) ∧ Below w.heap.size w w' :=
  (shortO_any r w hl).mono fun e w' h' => ⟨by rw [h'.1, h.out], h'.2⟩
set_option maxRecDepth 100000 in
set_option maxHeartbeats 8000000 in
theorem modBack_law (r : Md) (s : Str) (w : World) (hl : Laid w) : Calls Tryz.prog 5 #[.agg r.cells, .string (B s)] w fun e w' => e = .returned (.bool true) ∧ Below w.heap.size w w' := by
  have hS := St.start hl keepsL
  obtain ⟨b, hb⟩ : ∃ b, b = (decide (r.sub.size ≤ 100) && decide (r.f.sub.size ≤ 100)) := ⟨_, rfl⟩
  have HB := Lib.hid hb
  clear hb
  cases b with
  | false =>
    go_enter Tryz.func5, Tryz.ntmps5
    go_wp2_with (first | (go_at_call 11; (with_reducible refine (St.call hS fun hl => aliveO_any _ hl).mono ?_); rintro e w ⟨rfl, hS⟩) | (go_at_call 10; (with_reducible refine (St.call hS fun hl => shortO_is _ _ HB _ hl).mono ?_); rintro e w ⟨rfl, hS⟩) | ((with_reducible refine at_box ?_); (first | (refine wpList_box_agg rfl hS rfl rfl ?_; intro g w hS)); (try simp only [Act.put, List.setIfInBounds_toArray, List.set_cons_zero, List.set_cons_succ])) | ((with_reducible refine at_load ?_); (first | (refine md_ldw rfl hS rfl rfl (by (first | exact .head | exact .tail .head | exact .tail (.tail .head) | exact .tail (.tail (.tail .head)) | exact .tail (.tail (.tail (.tail .head))) | fail)) ?_)); (try simp only [Act.put, List.setIfInBounds_toArray, List.set_cons_zero, List.set_cons_succ])))
    all_goals go_ret
    all_goals exact ⟨ret_bool (by simp), hS.below⟩
  | true =>
  by_cases h5 : s.length ≤ 500
  · have heq := fun (wx : World) => (eq_md r r wx).trans (by rw [mdEq_refl])
    have hTl := mdText_lt r
    have hTm := fun h : mdIs r = true => mdParse_text h
    have hTn := fun h : mdIs r = false => mdText_no h
    obtain ⟨T, hT⟩ : ∃ T, mdText r = T := ⟨_, rfl⟩
    rw [hT] at hTl hTm hTn
    have HT := Lib.hid hT
    clear hT
    cases hp : mdParse s with
    | some a =>
      obtain ⟨hi, ht⟩ := mdParse_back hp
      have HPa := Lib.hid hp
      have HIa := Lib.hid hi.symm
      have HTa := Lib.hid ht
      clear hp hi ht
      cases hv : mdIs r with
      | true =>
        have HPm := Lib.hid (hTm hv)
        have HIm := Lib.hid hv.symm
        clear hTm hTn hv
        go_enter Tryz.func5, Tryz.ntmps5
        go_wp2_with (first | (go_at_call 11; (with_reducible refine (St.call hS fun hl => aliveO_any _ hl).mono ?_); rintro e w ⟨rfl, hS⟩) | (go_at_call 10; (with_reducible refine (St.call hS fun hl => shortO_is _ _ HB _ hl).mono ?_); rintro e w ⟨rfl, hS⟩) | (go_at_call 18; (with_reducible refine (St.call hS fun hl => mdParse_some s (by omega) a HPa _ hl).mono ?_); rintro e w ⟨rfl, hS⟩) | (go_at_call 18; (with_reducible refine (St.call hS fun hl => mdParse_some T hTl r HPm _ hl).mono ?_); rintro e w ⟨rfl, hS⟩) | (go_at_call 14; (with_reducible refine (St.call hS fun hl => mdText_is _ _ HTa _ hl).mono ?_); rintro e w ⟨rfl, hS⟩) | (go_at_call 14; (with_reducible refine (St.call hS fun hl => mdText_is _ _ HT _ hl).mono ?_); rintro e w ⟨rfl, hS⟩) | (go_at_call 12; (with_reducible refine (St.call hS fun hl => mdIs_is _ _ HIa _ hl).mono ?_); rintro e w ⟨rfl, hS⟩) | (go_at_call 12; (with_reducible refine (St.call hS fun hl => mdIs_is _ _ HIm _ hl).mono ?_); rintro e w ⟨rfl, hS⟩) | ((with_reducible refine at_box ?_); (first | (refine wpList_box_agg rfl hS rfl rfl ?_; intro g w hS)); (try simp only [Act.put, List.setIfInBounds_toArray, List.set_cons_zero, List.set_cons_succ])) | ((with_reducible refine at_alloc ?_); (first | (refine wpList_new 27 rfl hS rfl _ md_new ?_; intro g w hS)); (try simp only [Act.put, List.setIfInBounds_toArray, List.set_cons_zero, List.set_cons_succ])) | ((with_reducible refine at_load ?_); (first | (refine md_ldw rfl hS rfl rfl (by (first | exact .head | exact .tail .head | exact .tail (.tail .head) | exact .tail (.tail (.tail .head)) | exact .tail (.tail (.tail (.tail .head))) | fail)) ?_)); (try simp only [Act.put, List.setIfInBounds_toArray, List.set_cons_zero, List.set_cons_succ])) | ((with_reducible refine at_store ?_); (first | (refine md_stw rfl hS rfl rfl rfl (by first | exact .head | exact .tail .head | exact .tail (.tail .head) | exact .tail (.tail (.tail .head)) | exact .tail (.tail (.tail (.tail .head))) | fail) ?_; intro w hS)); (try simp only [Act.put, List.setIfInBounds_toArray, List.set_cons_zero, List.set_cons_succ])))
        all_goals go_ret
        all_goals exact ⟨ret_bool (by simp), hS.below⟩
      | false =>
        have hT0 := hTn hv
        subst hT0
        have HIm := Lib.hid hv.symm
        have HP0 := Lib.hid mdParse_nil
        clear hTm hTn hv
        go_enter Tryz.func5, Tryz.ntmps5
        go_wp2_with (first | (go_at_call 11; (with_reducible refine (St.call hS fun hl => aliveO_any _ hl).mono ?_); rintro e w ⟨rfl, hS⟩) | (go_at_call 10; (with_reducible refine (St.call hS fun hl => shortO_is _ _ HB _ hl).mono ?_); rintro e w ⟨rfl, hS⟩) | (go_at_call 18; (with_reducible refine (St.call hS fun hl => mdParse_some s (by omega) a HPa _ hl).mono ?_); rintro e w ⟨rfl, hS⟩) | (go_at_call 18; (with_reducible refine (St.call hS fun hl => mdParse_none [] (by decide) HP0 _ hl).mono ?_); rintro e w ⟨rfl, hS⟩) | (go_at_call 14; (with_reducible refine (St.call hS fun hl => mdText_is _ _ HTa _ hl).mono ?_); rintro e w ⟨rfl, hS⟩) | (go_at_call 14; (with_reducible refine (St.call hS fun hl => mdText_is _ _ HT _ hl).mono ?_); rintro e w ⟨rfl, hS⟩) | (go_at_call 12; (with_reducible refine (St.call hS fun hl => mdIs_is _ _ HIa _ hl).mono ?_); rintro e w ⟨rfl, hS⟩) | (go_at_call 12; (with_reducible refine (St.call hS fun hl => mdIs_is _ _ HIm _ hl).mono ?_); rintro e w ⟨rfl, hS⟩) | ((with_reducible refine at_box ?_); (first | (refine wpList_box_agg rfl hS rfl rfl ?_; intro g w hS)); (try simp only [Act.put, List.setIfInBounds_toArray, List.set_cons_zero, List.set_cons_succ])) | ((with_reducible refine at_alloc ?_); (first | (refine wpList_new 27 rfl hS rfl _ md_new ?_; intro g w hS)); (try simp only [Act.put, List.setIfInBounds_toArray, List.set_cons_zero, List.set_cons_succ])) | ((with_reducible refine at_load ?_); (first | (refine md_ldw rfl hS rfl rfl (by (first | exact .head | exact .tail .head | exact .tail (.tail .head) | exact .tail (.tail (.tail .head)) | exact .tail (.tail (.tail (.tail .head))) | fail)) ?_)); (try simp only [Act.put, List.setIfInBounds_toArray, List.set_cons_zero, List.set_cons_succ])) | ((with_reducible refine at_store ?_); (first | (refine md_stw rfl hS rfl rfl rfl (by first | exact .head | exact .tail .head | exact .tail (.tail .head) | exact .tail (.tail (.tail .head)) | exact .tail (.tail (.tail (.tail .head))) | fail) ?_; intro w hS)); (try simp only [Act.put, List.setIfInBounds_toArray, List.set_cons_zero, List.set_cons_succ])))
        all_goals go_ret
        all_goals exact ⟨ret_bool (by simp), hS.below⟩
    | none =>
      have HPa := Lib.hid hp
      clear hp
      cases hv : mdIs r with
      | true =>
        have HPm := Lib.hid (hTm hv)
        have HIm := Lib.hid hv.symm
        clear hTm hTn hv
        go_enter Tryz.func5, Tryz.ntmps5
        go_wp2_with (first | (go_at_call 11; (with_reducible refine (St.call hS fun hl => aliveO_any _ hl).mono ?_); rintro e w ⟨rfl, hS⟩) | (go_at_call 10; (with_reducible refine (St.call hS fun hl => shortO_is _ _ HB _ hl).mono ?_); rintro e w ⟨rfl, hS⟩) | (go_at_call 18; (with_reducible refine (St.call hS fun hl => mdParse_none s (by omega) HPa _ hl).mono ?_); rintro e w ⟨rfl, hS⟩) | (go_at_call 18; (with_reducible refine (St.call hS fun hl => mdParse_some T hTl r HPm _ hl).mono ?_); rintro e w ⟨rfl, hS⟩) | (go_at_call 14; (with_reducible refine (St.call hS fun hl => mdText_is _ _ HT _ hl).mono ?_); rintro e w ⟨rfl, hS⟩) | (go_at_call 12; (with_reducible refine (St.call hS fun hl => mdIs_is _ _ HIm _ hl).mono ?_); rintro e w ⟨rfl, hS⟩) | ((with_reducible refine at_guard ?_); (first | (refine wpList_pass rfl ?_)); (try simp only [Act.put, List.setIfInBounds_toArray, List.set_cons_zero, List.set_cons_succ])) | ((with_reducible refine at_box ?_); (first | (refine wpList_box_agg rfl hS rfl rfl ?_; intro g w hS)); (try simp only [Act.put, List.setIfInBounds_toArray, List.set_cons_zero, List.set_cons_succ])) | ((with_reducible refine at_alloc ?_); (first | (refine wpList_new 27 rfl hS rfl _ md_new ?_; intro g w hS)); (try simp only [Act.put, List.setIfInBounds_toArray, List.set_cons_zero, List.set_cons_succ])) | ((with_reducible refine at_load ?_); (first | (refine md_ldw rfl hS rfl rfl (by (first | exact .head | exact .tail .head | exact .tail (.tail .head) | exact .tail (.tail (.tail .head)) | exact .tail (.tail (.tail (.tail .head))) | fail)) ?_)); (try simp only [Act.put, List.setIfInBounds_toArray, List.set_cons_zero, List.set_cons_succ])) | ((with_reducible refine at_store ?_); (first | (refine md_stw rfl hS rfl rfl rfl (by first | exact .head | exact .tail .head | exact .tail (.tail .head) | exact .tail (.tail (.tail .head)) | exact .tail (.tail (.tail (.tail .head))) | fail) ?_; intro w hS)); (try simp only [Act.put, List.setIfInBounds_toArray, List.set_cons_zero, List.set_cons_succ])))
        all_goals go_ret
        all_goals exact ⟨ret_bool (by simp), hS.below⟩
      | false =>
        have hT0 := hTn hv
        subst hT0
        have HIm := Lib.hid hv.symm
        have HP0 := Lib.hid mdParse_nil
        clear hTm hTn hv
        go_enter Tryz.func5, Tryz.ntmps5
        go_wp2_with (first | (go_at_call 11; (with_reducible refine (St.call hS fun hl => aliveO_any _ hl).mono ?_); rintro e w ⟨rfl, hS⟩) | (go_at_call 10; (with_reducible refine (St.call hS fun hl => shortO_is _ _ HB _ hl).mono ?_); rintro e w ⟨rfl, hS⟩) | (go_at_call 18; (with_reducible refine (St.call hS fun hl => mdParse_none s (by omega) HPa _ hl).mono ?_); rintro e w ⟨rfl, hS⟩) | (go_at_call 18; (with_reducible refine (St.call hS fun hl => mdParse_none [] (by decide) HP0 _ hl).mono ?_); rintro e w ⟨rfl, hS⟩) | (go_at_call 14; (with_reducible refine (St.call hS fun hl => mdText_is _ _ HT _ hl).mono ?_); rintro e w ⟨rfl, hS⟩) | (go_at_call 12; (with_reducible refine (St.call hS fun hl => mdIs_is _ _ HIm _ hl).mono ?_); rintro e w ⟨rfl, hS⟩) | ((with_reducible refine at_guard ?_); (first | (refine wpList_pass rfl ?_)); (try simp only [Act.put, List.setIfInBounds_toArray, List.set_cons_zero, List.set_cons_succ])) | ((with_reducible refine at_box ?_); (first | (refine wpList_box_agg rfl hS rfl rfl ?_; intro g w hS)); (try simp only [Act.put, List.setIfInBounds_toArray, List.set_cons_zero, List.set_cons_succ])) | ((with_reducible refine at_alloc ?_); (first | (refine wpList_new 27 rfl hS rfl _ md_new ?_; intro g w hS)); (try simp only [Act.put, List.setIfInBounds_toArray, List.set_cons_zero, List.set_cons_succ])) | ((with_reducible refine at_load ?_); (first | (refine md_ldw rfl hS rfl rfl (by (first | exact .head | exact .tail .head | exact .tail (.tail .head) | exact .tail (.tail (.tail .head)) | exact .tail (.tail (.tail (.tail .head))) | fail)) ?_)); (try simp only [Act.put, List.setIfInBounds_toArray, List.set_cons_zero, List.set_cons_succ])) | ((with_reducible refine at_store ?_); (first | (refine md_stw rfl hS rfl rfl rfl (by first | exact .head | exact .tail .head | exact .tail (.tail .head) | exact .tail (.tail (.tail .head)) | exact .tail (.tail (.tail (.tail .head))) | fail) ?_; intro w hS)); (try simp only [Act.put, List.setIfInBounds_toArray, List.set_cons_zero, List.set_cons_succ])))
        all_goals go_ret
        all_goals exact ⟨ret_bool (by simp), hS.below⟩
  · go_enter Tryz.func5, Tryz.ntmps5
    go_wp2_with (first | (go_at_call 11; (with_reducible refine (St.call hS fun hl => aliveO_any _ hl).mono ?_); rintro e w ⟨rfl, hS⟩) | (go_at_call 10; (with_reducible refine (St.call hS fun hl => shortO_is _ _ HB _ hl).mono ?_); rintro e w ⟨rfl, hS⟩) | ((with_reducible refine at_box ?_); (first | (refine wpList_box_agg rfl hS rfl rfl ?_; intro g w hS)); (try simp only [Act.put, List.setIfInBounds_toArray, List.set_cons_zero, List.set_cons_succ])) | ((with_reducible refine at_load ?_); (first | (refine md_ldw rfl hS rfl rfl (by (first | exact .head | exact .tail .head | exact .tail (.tail .head) | exact .tail (.tail (.tail .head)) | exact .tail (.tail (.tail (.tail .head))) | fail)) ?_)); (try simp only [Act.put, List.setIfInBounds_toArray, List.set_cons_zero, List.set_cons_succ])))
    all_goals go_ret
    all_goals exact ⟨ret_bool (by simp), hS.below⟩
theorem modBack_lawB (r : Md) (s : ByteArray) (w : World) (hl : Laid w) : Calls Tryz.prog 5 #[.agg r.cells, .string s] w fun e w' => e = .returned (.bool true) ∧ Below w.heap.size w w' := by
  have := modBack_law r (L s) w hl
  rwa [B_L] at this
end Go.Proofs.YtakgfbcmkhcdkaaGreatDoor
