/- Walks: the reference of chapter 15: types, used, Is, Stage. Conditions: Laid. Walks of the reference: colours' and keywords' texts and readings, types' readings (cardgameref09, 10, 11). Conditions: bounds. -/
import Derived.Test.YtakgfbcmkhcdkaaGreatDoorMOMem
import Derived.Test.YtakgfbcmkhcdkaaGreatDoorRefA
import Derived.Test.YtakgfbcmkhcdkaaGreatDoorMRWho
import Derived.Test.YtakgfbcmkhcdkaaGreatDoorRefB
import Derived.Test.YtakgfbcmkhcdkaaGreatDoorMCnt
import Derived.Test.YtakgfbcmkhcdkaaGreatDoorMOPlain
namespace Go.Proofs.YtakgfbcmkhcdkaaGreatDoor
set_option linter.all false
open Go.ChangeShapes Go.WideShapes Go.RowKit
attribute [local irreducible] wpList Code.wp Calls
def rusedM (r : Md) : Md := ⟨0, if usesN r.kind = true then 0 else r.n, if r.kind = 12 ∨ r.kind = 13 then 0 else r.m, if r.kind = 4 ∨ r.kind = 5 then ⟨#[]⟩ else r.sub, if r.kind = 11 then zeroF else r.f⟩
theorem rused_eq (r : Md) : mdEq (rusedM r) zeroM = mdEq r (usedM r) := by
  rw [Bool.eq_iff_iff, mdEq_iff, mdEq_iff]
  obtain ⟨k, n, m, s, f⟩ := r
  simp only [rusedM, usedM, zeroM, Md.mk.injEq, true_and]
  by_cases h1 : usesN k = true <;> by_cases h2 : k = 12 ∨ k = 13 <;> by_cases h3 : k = 4 ∨ k = 5 <;> by_cases h4 : k = 11 <;> simp [h1, h2, h3, h4]
def typesR (n : Int) : Bool := decide (1 ≤ n) && (decide (n ≤ 63) && (bits .and .i64 n 6 == 0))
set_option maxRecDepth 100000 in
set_option maxHeartbeats 1000000 in
theorem r15Types_any (n : Int) (w : World) : Calls Tryz.prog 33 #[.int .i64 n] w fun e w' => e = .returned (.bool (typesR n)) ∧ w = w' := by
  go_enter Tryz.func33, Tryz.ntmps33
  go_wp2_with (first | ((with_reducible refine at_guard ?_); (first | (refine wpList_pass rfl ?_)); (try simp only [Act.put, List.setIfInBounds_toArray, List.set_cons_zero, List.set_cons_succ])))
  all_goals go_ret
  all_goals exact ⟨ret_bool (by rw [Bool.eq_iff_iff]; simp_all [typesR] <;> (intros; omega)), rfl⟩
set_option maxRecDepth 100000 in
set_option maxHeartbeats 1000000 in
theorem r15Used_any (r : Md) (w : World) (hl : Laid w) : Calls Tryz.prog 32 #[.agg r.cells] w fun e w' => e = .returned (.agg (rusedM r).cells) ∧ Below w.heap.size w w' := by
  obtain ⟨kind, n, m, sub, f⟩ := r
  have hS := St.start hl keepsL
  go_enter Tryz.func32, Tryz.ntmps32
  go_wp2_with (first | ((first | (with_reducible refine wpList_here ?_) | (with_reducible refine region_here ?_)); (have hq := int_eq (by assumption); subst hq)) | ((with_reducible refine at_box ?_); (first | (refine wpList_box_agg rfl hS rfl rfl ?_; intro g w hS)); (try simp only [Act.put, List.setIfInBounds_toArray, List.set_cons_zero, List.set_cons_succ])) | ((with_reducible refine at_alloc ?_); (first | (refine wpList_new 27 rfl hS rfl _ md_new ?_; intro g w hS)); (try simp only [Act.put, List.setIfInBounds_toArray, List.set_cons_zero, List.set_cons_succ])) | ((with_reducible refine flt_shape_ ?_); refine flt_bld_ rfl ?_; (try simp only [Act.put, List.setIfInBounds_toArray, List.set_cons_zero, List.set_cons_succ])) | ((with_reducible refine at_load ?_); (first | (refine md_ldw rfl hS rfl rfl (by (first | exact .head | exact .tail .head | exact .tail (.tail .head) | exact .tail (.tail (.tail .head)) | exact .tail (.tail (.tail (.tail .head))) | fail)) ?_) | (refine md_ld0 rfl hS rfl rfl (by (first | exact .head | exact .tail .head | exact .tail (.tail .head) | exact .tail (.tail (.tail .head)) | exact .tail (.tail (.tail (.tail .head))) | fail)) ?_)); (try simp only [Act.put, List.setIfInBounds_toArray, List.set_cons_zero, List.set_cons_succ])) | ((with_reducible refine at_store ?_); (first | (refine md_stw rfl hS rfl rfl rfl (by first | exact .head | exact .tail .head | exact .tail (.tail .head) | exact .tail (.tail (.tail .head)) | exact .tail (.tail (.tail (.tail .head))) | fail) ?_; intro w hS) | (refine md_st0 rfl hS rfl rfl rfl (by first | exact .head | exact .tail .head | exact .tail (.tail .head) | exact .tail (.tail (.tail .head)) | exact .tail (.tail (.tail (.tail .head))) | fail) ?_; intro w hS) | (refine md_st1 rfl hS rfl rfl rfl (by first | exact .head | exact .tail .head | exact .tail (.tail .head) | exact .tail (.tail (.tail .head)) | exact .tail (.tail (.tail (.tail .head))) | fail) ?_; intro w hS) | (refine md_st2 rfl hS rfl rfl rfl (by first | exact .head | exact .tail .head | exact .tail (.tail .head) | exact .tail (.tail (.tail .head)) | exact .tail (.tail (.tail (.tail .head))) | fail) ?_; intro w hS) | (refine md_st3 rfl hS rfl rfl rfl (by first | exact .head | exact .tail .head | exact .tail (.tail .head) | exact .tail (.tail (.tail .head)) | exact .tail (.tail (.tail (.tail .head))) | fail) ?_; intro w hS) | (refine md_st4 rfl hS rfl rfl rfl (by first | exact .head | exact .tail .head | exact .tail (.tail .head) | exact .tail (.tail (.tail .head)) | exact .tail (.tail (.tail (.tail .head))) | fail) ?_; intro w hS)); (try simp only [Act.put, List.setIfInBounds_toArray, List.set_cons_zero, List.set_cons_succ])))
  all_goals (refine md_res hS rfl rfl (by (first | exact .head | exact .tail .head | exact .tail (.tail .head) | exact .tail (.tail (.tail .head)) | exact .tail (.tail (.tail (.tail .head))) | fail)) rfl (fun hb => ⟨ret_cells (f := Md.cells) ?_, hb⟩))
  all_goals (simp_all [rusedM, usesN, zeroM])
theorem rFltO_any (f : Flt) (w : World) : Calls Tryz.prog 35 #[.agg f.cells] w fun e w' => e = .returned (.bool (fltIs f)) ∧ Below w.heap.size w w' := rIs_v f _ (Lib.hid rfl) w
set_option maxRecDepth 100000 in
set_option maxHeartbeats 2000000 in
theorem r15Is_any (r : Md) (w : World) (hl : Laid w) : Calls Tryz.prog 13 #[.agg r.cells] w fun e w' => e = .returned (.bool (mdIs r)) ∧ Below w.heap.size w w' := by
  have heq := fun (wx : World) => (neq_md (rusedM r) zeroM wx).trans (by rw [rused_eq r])
  have hS := St.start hl keepsL
  go_enter Tryz.func13, Tryz.ntmps13
  go_wp2_with (first | (go_at_call 33; (with_reducible refine (St.still hS fun hl => r15Types_any _ _).mono ?_); rintro e w ⟨rfl, hS⟩) | (go_at_call 32; (with_reducible refine (St.call hS fun hl => r15Used_any _ _ hl).mono ?_); rintro e w ⟨rfl, hS⟩) | (go_at_call 34; (with_reducible refine (St.call hS fun hl => rIsSub_any _ _).mono ?_); rintro e w ⟨rfl, hS⟩) | (go_at_call 35; (with_reducible refine (St.call hS fun hl => rFltO_any _ _).mono ?_); rintro e w ⟨rfl, hS⟩) | ((with_reducible refine at_guard ?_); (first | (refine wpList_pass rfl ?_) | ((fail_if_success refine wpList_wanted rfl ?_); refine wpList_ask _ _ rfl rfl (fun hb => ?_) (fun hb => ?_) <;> (first | (obtain rfl := eq_of_beq hb) | (simp only [hb])))); (try simp only [Act.put, List.setIfInBounds_toArray, List.set_cons_zero, List.set_cons_succ])) | ((with_reducible refine at_box ?_); (first | (refine wpList_box_agg rfl hS rfl rfl ?_; intro g w hS)); (try simp only [Act.put, List.setIfInBounds_toArray, List.set_cons_zero, List.set_cons_succ])) | ((with_reducible refine md_shape_ ?_); refine md_bld_ rfl ?_; (try simp only [Act.put, List.setIfInBounds_toArray, List.set_cons_zero, List.set_cons_succ])) | ((with_reducible refine at_load ?_); (first | (refine md_ldw rfl hS rfl rfl (by (first | exact .head | exact .tail .head | exact .tail (.tail .head) | exact .tail (.tail (.tail .head)) | exact .tail (.tail (.tail (.tail .head))) | fail)) ?_) | (refine md_ld0 rfl hS rfl rfl (by (first | exact .head | exact .tail .head | exact .tail (.tail .head) | exact .tail (.tail (.tail .head)) | exact .tail (.tail (.tail (.tail .head))) | fail)) ?_) | (refine md_ld1 rfl hS rfl rfl (by (first | exact .head | exact .tail .head | exact .tail (.tail .head) | exact .tail (.tail (.tail .head)) | exact .tail (.tail (.tail (.tail .head))) | fail)) ?_) | (refine md_ld2 rfl hS rfl rfl (by (first | exact .head | exact .tail .head | exact .tail (.tail .head) | exact .tail (.tail (.tail .head)) | exact .tail (.tail (.tail (.tail .head))) | fail)) ?_) | (refine md_ld3 rfl hS rfl rfl (by (first | exact .head | exact .tail .head | exact .tail (.tail .head) | exact .tail (.tail (.tail .head)) | exact .tail (.tail (.tail (.tail .head))) | fail)) ?_) | (refine md_ld4 rfl hS rfl rfl (by (first | exact .head | exact .tail .head | exact .tail (.tail .head) | exact .tail (.tail (.tail .head)) | exact .tail (.tail (.tail (.tail .head))) | fail)) ?_)); (try simp only [Act.put, List.setIfInBounds_toArray, List.set_cons_zero, List.set_cons_succ])))
  all_goals go_ret
  all_goals (refine ⟨ret_bool ?_, hS.below⟩; clear heq hS hl; rw [Bool.eq_iff_iff]; simp_all [mdIs, mdNums, typesR] <;> (intros; omega))
theorem r15Is_is (r : Md) (R : Bool) (h : Hid (R = mdIs r)) (w : World) (hl : Laid w) : Calls Tryz.prog 13 #[.agg r.cells] w fun e w' => e = .returned (.bool R) ∧ Below w.heap.size w w' :=
  (r15Is_any r w hl).mono fun e w' h' => ⟨by rw [h'.1, h.out], h'.2⟩
set_option maxRecDepth 100000 in
set_option maxHeartbeats 1000000 in
theorem r15Stage_any (k : Int) (w : World) : Calls Tryz.prog 17 #[.int .i64 k] w fun e w' => e = .returned (.int .i64 (stageM k)) ∧ w = w' := by
  go_enter Tryz.func17, Tryz.ntmps17
  go_wp2_with (first | fail)
  all_goals go_ret
  all_goals exact ⟨ret_int (by simp_all [stageM]), rfl⟩
end Go.Proofs.YtakgfbcmkhcdkaaGreatDoor
namespace Go.Proofs.YtakgfbcmkhcdkaaGreatDoor
set_option linter.all false
open Go.ChangeShapes Go.WideShapes Go.RowKit
attribute [local irreducible] wpList Code.wp Calls
theorem jBits_join (T : List Str) (m : Nat) (sep : Str) : ∀ k, (∀ i, i < k → T.getD i [] ≠ []) → jBits T m sep k = Lib.join ((bitsUpto m k).map fun i => T.getD i []) sep ∧ (jBits T m sep k = [] ↔ bitsUpto m k = [])
  | 0, _ => by simp [jBits, bitsUpto, Lib.join_nil]
  | k + 1, h => by
    obtain ⟨h1, h2⟩ := jBits_join T m sep k (fun i hi => h i (by omega))
    rw [jBits]
    cases hb : m.testBit k with
    | false => rw [bitsUpto_no hb]; exact ⟨h1, h2⟩
    | true =>
      rw [bitsUpto_yes hb, List.map_append, List.map_cons, List.map_nil, join_snoc, if_pos rfl]
      by_cases h0 : bitsUpto m k = []
      · rw [if_pos (h2.2 h0)]
        have hk := h k (by omega)
        simp [h0]; simpa using hk
      · have h0' := fun e => h0 (h2.1 e)
        rw [if_neg h0', if_neg (by simpa using h0), ← h1]
        refine ⟨rfl, fun e => ?_, fun e => ?_⟩
        · exact absurd (List.append_eq_nil_iff.1 (List.append_eq_nil_iff.1 e).1).1 h0'
        · simp at e
theorem jKeys (m : Nat) (hm : m < 2 ^ 17) : keyText m = if jBits kwT m [43] 17 = [] then noneW else jBits kwT m [43] 17 := by
  obtain ⟨h1, h2⟩ := jBits_join kwT m [43] 17 (fun i hi => wd_ne0 ⟨i, hi⟩)
  have e : maskWords kwT m = (bitsUpto m 17).map fun i => kwT.getD i [] := by unfold maskWords; rw [bitsUpto_ge hm (show 17 ≤ 31 by omega)]
  unfold keyText
  rw [e, ← h1]
  by_cases h0 : m = 0
  · subst h0; rw [if_pos rfl, if_pos (h2.2 rfl)]
  · rw [if_neg h0, if_neg]
    intro hj
    apply mask_ne (T := kwT) h0 (Nat.lt_of_lt_of_le hm (Nat.pow_le_pow_right (by omega) (by omega)))
    rw [e, h2.1 hj]; rfl
theorem colN0 (w : World) : Calls Tryz.prog 86 #[.int .i64 0] w fun e w' => e = .returned (.string (B [97, 109, 98, 101, 114])) ∧ w = w' := fColor_any 0 (by decide) w
theorem colN1 (w : World) : Calls Tryz.prog 86 #[.int .i64 1] w fun e w' => e = .returned (.string (B [99, 111, 98, 97, 108, 116])) ∧ w = w' := fColor_any 1 (by decide) w
theorem colN2 (w : World) : Calls Tryz.prog 86 #[.int .i64 2] w fun e w' => e = .returned (.string (B [106, 101, 116])) ∧ w = w' := fColor_any 2 (by decide) w
theorem colN3 (w : World) : Calls Tryz.prog 86 #[.int .i64 3] w fun e w' => e = .returned (.string (B [114, 117, 98, 121])) ∧ w = w' := fColor_any 3 (by decide) w
theorem colN4 (w : World) : Calls Tryz.prog 86 #[.int .i64 4] w fun e w' => e = .returned (.string (B [101, 109, 101, 114, 97, 108, 100])) ∧ w = w' := fColor_any 4 (by decide) w
def in09 (n : Int) : Bool := decide (0 ≤ n) && decide (n ≤ 31)
set_option maxRecDepth 100000 in
theorem r09Is_any (n : Int) (w : World) : Calls Tryz.prog 85 #[.int .i64 n] w fun e w' => e = .returned (.bool (in09 n)) ∧ w = w' := by
  go_enter Tryz.func85, Tryz.ntmps85
  go_wp2_with (first | ((with_reducible refine at_guard ?_); (first | (refine wpList_pass rfl ?_)); (try simp only [Act.put, List.setIfInBounds_toArray, List.set_cons_zero, List.set_cons_succ])))
  all_goals go_ret
  all_goals exact ⟨ret_bool (by rw [Bool.eq_iff_iff]; simp_all [in09] <;> (intros; omega)), rfl⟩
theorem colorT5 : colorT = [[97, 109, 98, 101, 114], [99, 111, 98, 97, 108, 116], [106, 101, 116], [114, 117, 98, 121], [101, 109, 101, 114, 97, 108, 100]] := rfl
def cj (p : Str) (b : Bool) (x : Str) : Str := if b = true then (if p = [] then x else p ++ 43 :: x) else p
theorem colorBits : ∀ m : Fin 32, colorText m.val = if m.val = 0 then noneW else cj (cj (cj (cj (cj [] (m.val % 2 == 1) [97, 109, 98, 101, 114]) (m.val / 2 % 2 == 1) [99, 111, 98, 97, 108, 116]) (m.val / 4 % 2 == 1) [106, 101, 116]) (m.val / 8 % 2 == 1) [114, 117, 98, 121]) (m.val / 16 % 2 == 1) [101, 109, 101, 114, 97, 108, 100] := by decide +kernel
set_option maxRecDepth 100000 in
set_option maxHeartbeats 8000000 in
theorem r09Text_any (m : Nat) (hm : m < 32) (w0 : World) (hl : Laid w0) : Calls Tryz.prog 42 #[.int .i64 m] w0 fun e w' => e = .returned (.string (B (colorText m))) ∧ Below w0.heap.size w0 w' := by
  have hS := St.start hl keepsL
  have hc : m = 0 ∨ m = 1 ∨ m = 2 ∨ m = 3 ∨ m = 4 ∨ m = 5 ∨ m = 6 ∨ m = 7 ∨ m = 8 ∨ m = 9 ∨ m = 10 ∨ m = 11 ∨ m = 12 ∨ m = 13 ∨ m = 14 ∨ m = 15 ∨ m = 16 ∨ m = 17 ∨ m = 18 ∨ m = 19 ∨ m = 20 ∨ m = 21 ∨ m = 22 ∨ m = 23 ∨ m = 24 ∨ m = 25 ∨ m = 26 ∨ m = 27 ∨ m = 28 ∨ m = 29 ∨ m = 30 ∨ m = 31 := by omega
  rcases hc with rfl | rfl | rfl | rfl | rfl | rfl | rfl | rfl | rfl | rfl | rfl | rfl | rfl | rfl | rfl | rfl | rfl | rfl | rfl | rfl | rfl | rfl | rfl | rfl | rfl | rfl | rfl | rfl | rfl | rfl | rfl | rfl
  all_goals
    go_enter Tryz.func42, Tryz.ntmps42
    go_wp2_with (first | (go_at_call 85; (with_reducible refine (St.still hS fun hl => r09Is_any _ _).mono ?_); rintro e w ⟨rfl, hS⟩) | (go_at_call 86; (with_reducible refine (St.still hS fun hl => colN0 _).mono ?_); rintro e w ⟨rfl, hS⟩) | (go_at_call 86; (with_reducible refine (St.still hS fun hl => colN1 _).mono ?_); rintro e w ⟨rfl, hS⟩) | (go_at_call 86; (with_reducible refine (St.still hS fun hl => colN2 _).mono ?_); rintro e w ⟨rfl, hS⟩) | (go_at_call 86; (with_reducible refine (St.still hS fun hl => colN3 _).mono ?_); rintro e w ⟨rfl, hS⟩) | (go_at_call 86; (with_reducible refine (St.still hS fun hl => colN4 _).mono ?_); rintro e w ⟨rfl, hS⟩) | ((with_reducible refine loop_here ?_); refine wp_loop_rounds 6 ?_) | (with_reducible refine rounds_step ?_) | ((with_reducible refine at_cat ?_); (first | (refine wpList_cat rfl rfl rfl rfl (by first | (simp only [List.length_append, List.length_cons, List.length_nil]; omega) | fail) ?_)); (try simp only [Act.put, List.setIfInBounds_toArray, List.set_cons_zero, List.set_cons_succ])))
    all_goals go_ret
    all_goals exact ⟨ret_B (by decide +kernel), hS.below⟩
end Go.Proofs.YtakgfbcmkhcdkaaGreatDoor
