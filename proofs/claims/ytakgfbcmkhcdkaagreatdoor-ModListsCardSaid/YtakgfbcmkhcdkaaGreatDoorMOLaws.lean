/- ModText, ModParse, ModBack: the program answers as the reference; Parse inverts Text. Conditions: Laid. -/
import Derived.Test.YtakgfbcmkhcdkaaGreatDoorMOAlive
import Derived.Test.YtakgfbcmkhcdkaaGreatDoorMORParse
namespace Go.Proofs.YtakgfbcmkhcdkaaGreatDoor
set_option linter.all false
open Go.ChangeShapes Go.WideShapes Go.RowKit
attribute [local irreducible] wpList Code.wp Calls
theorem r15Guess_is (s : Str) (G : Md) (h : Hid (guessR s = G)) (hs : s.length < 100000000) (w : World) (hl : Laid w) : Calls Tryz.prog 47 #[.string (B s)] w fun e w' => e = .returned (.agg G.cells) ∧ Below w.heap.size w w' :=
  (r15Guess_any s hs w hl).mono fun e w' h' => ⟨by rw [h'.1, h.out], h'.2⟩
set_option maxRecDepth 100000 in
set_option maxHeartbeats 2000000 in
theorem r15Parse_at (s : Str) (hs : s.length < 100000000) (G : Md) (HG : Hid (guessR s = G)) (T : Str) (HT : Hid (mdText G = T)) (R : Option Md) (HR : Hid ((if s = [] then none else if T = s then some G else none) = R)) (w : World) (hl : Laid w) :
    Calls Tryz.prog 19 #[.string (B s)] w fun e w' => e = .returned (mdRet R) ∧ Below w.heap.size w w' := by
  have hS := St.start hl keepsL
  by_cases h0 : s = []
  · obtain rfl : R = none := by rw [← HR.out, if_pos h0]
    subst h0
    clear HR
    go_enter Tryz.func19, Tryz.ntmps19
    go_wp2_with (first | (go_at_call 47; (with_reducible refine (St.call hS fun hl => r15Guess_is _ _ HG hs _ hl).mono ?_); rintro e w ⟨rfl, hS⟩) | ((with_reducible refine at_guard ?_); (first | (refine wpList_pass rfl ?_)); (try simp only [Act.put, List.setIfInBounds_toArray, List.set_cons_zero, List.set_cons_succ])) | ((with_reducible refine at_alloc ?_); (first | (refine wpList_new 27 rfl hS rfl _ md_new ?_; intro g w hS)); (try simp only [Act.put, List.setIfInBounds_toArray, List.set_cons_zero, List.set_cons_succ])) | ((with_reducible refine md_shape_ ?_); refine md_bld_ rfl ?_; (try simp only [Act.put, List.setIfInBounds_toArray, List.set_cons_zero, List.set_cons_succ])) | ((with_reducible refine at_store ?_); (first | (refine md_stw rfl hS rfl rfl rfl (by first | exact .head | exact .tail .head | exact .tail (.tail .head) | exact .tail (.tail (.tail .head)) | exact .tail (.tail (.tail (.tail .head))) | fail) ?_; intro w hS)); (try simp only [Act.put, List.setIfInBounds_toArray, List.set_cons_zero, List.set_cons_succ])))
    all_goals (refine md_res2 hS rfl rfl (by (first | exact .head | exact .tail .head | exact .tail (.tail .head) | exact .tail (.tail (.tail .head)) | exact .tail (.tail (.tail (.tail .head))) | fail)) rfl rfl (fun hb => ⟨rfl, hb⟩))
  · have h1 : (s == []) = false := by simpa using h0
    by_cases hx : T = s
    · subst hx
      obtain rfl : R = some G := by rw [← HR.out, if_neg h0, if_pos rfl]
      clear HR h0
      have ht : (T == T) = true := by simp
      go_enter Tryz.func19, Tryz.ntmps19
      go_wp2_with (first | (go_at_call 47; (with_reducible refine (St.call hS fun hl => r15Guess_is _ _ HG hs _ hl).mono ?_); rintro e w ⟨rfl, hS⟩) | (go_at_call 15; (with_reducible refine (St.call hS fun hl => r15Text_is _ _ HT _ hl).mono ?_); rintro e w ⟨rfl, hS⟩) | ((with_reducible refine at_alloc ?_); (first | (refine wpList_new 27 rfl hS rfl _ md_new ?_; intro g w hS)); (try simp only [Act.put, List.setIfInBounds_toArray, List.set_cons_zero, List.set_cons_succ])) | ((with_reducible refine at_load ?_); (first | (refine md_ldw rfl hS rfl rfl (by (first | exact .head | exact .tail .head | exact .tail (.tail .head) | exact .tail (.tail (.tail .head)) | exact .tail (.tail (.tail (.tail .head))) | fail)) ?_)); (try simp only [Act.put, List.setIfInBounds_toArray, List.set_cons_zero, List.set_cons_succ])) | ((with_reducible refine at_store ?_); (first | (refine md_stw rfl hS rfl rfl rfl (by first | exact .head | exact .tail .head | exact .tail (.tail .head) | exact .tail (.tail (.tail .head)) | exact .tail (.tail (.tail (.tail .head))) | fail) ?_; intro w hS)); (try simp only [Act.put, List.setIfInBounds_toArray, List.set_cons_zero, List.set_cons_succ])))
      all_goals (refine md_res2 hS rfl rfl (by (first | exact .head | exact .tail .head | exact .tail (.tail .head) | exact .tail (.tail (.tail .head)) | exact .tail (.tail (.tail (.tail .head))) | fail)) rfl rfl (fun hb => ⟨rfl, hb⟩))
    · obtain rfl : R = none := by rw [← HR.out, if_neg h0, if_neg hx]
      have hx' : (T == s) = false := by simpa using hx
      clear hx HR h0
      go_enter Tryz.func19, Tryz.ntmps19
      go_wp2_with (first | (go_at_call 47; (with_reducible refine (St.call hS fun hl => r15Guess_is _ _ HG hs _ hl).mono ?_); rintro e w ⟨rfl, hS⟩) | (go_at_call 15; (with_reducible refine (St.call hS fun hl => r15Text_is _ _ HT _ hl).mono ?_); rintro e w ⟨rfl, hS⟩) | ((with_reducible refine at_alloc ?_); (first | (refine wpList_new 27 rfl hS rfl _ md_new ?_; intro g w hS)); (try simp only [Act.put, List.setIfInBounds_toArray, List.set_cons_zero, List.set_cons_succ])) | ((with_reducible refine md_shape_ ?_); refine md_bld_ rfl ?_; (try simp only [Act.put, List.setIfInBounds_toArray, List.set_cons_zero, List.set_cons_succ])) | ((with_reducible refine at_load ?_); (first | (refine md_ldw rfl hS rfl rfl (by (first | exact .head | exact .tail .head | exact .tail (.tail .head) | exact .tail (.tail (.tail .head)) | exact .tail (.tail (.tail (.tail .head))) | fail)) ?_)); (try simp only [Act.put, List.setIfInBounds_toArray, List.set_cons_zero, List.set_cons_succ])) | ((with_reducible refine at_store ?_); (first | (refine md_stw rfl hS rfl rfl rfl (by first | exact .head | exact .tail .head | exact .tail (.tail .head) | exact .tail (.tail (.tail .head)) | exact .tail (.tail (.tail (.tail .head))) | fail) ?_; intro w hS)); (try simp only [Act.put, List.setIfInBounds_toArray, List.set_cons_zero, List.set_cons_succ])))
      all_goals (refine md_res2 hS rfl rfl (by (first | exact .head | exact .tail .head | exact .tail (.tail .head) | exact .tail (.tail (.tail .head)) | exact .tail (.tail (.tail (.tail .head))) | fail)) rfl rfl (fun hb => ⟨rfl, hb⟩))
theorem r15Parse_is (s : Str) (hs : s.length < 100000000) (R : Option Md) (h : Hid (mdParse s = R)) (w : World) (hl : Laid w) : Calls Tryz.prog 19 #[.string (B s)] w fun e w' => e = .returned (mdRet R) ∧ Below w.heap.size w w' :=
  r15Parse_at s hs _ (Lib.hid rfl) _ (Lib.hid rfl) R (Lib.hid (by rw [← h.out, ← qMd_eq]; rfl)) w hl
theorem mdText_lt (r : Md) : (mdText r).length < 100000000 := by
  cases hv : mdIs r with
  | false => rw [mdText_no hv]; decide
  | true =>
    rw [show mdText r = mdBody r from if_pos hv]
    cases md_form hv with
    | control => decide
    | blank => decide
    | switch => decide
    | types2 k h1 h2 =>
      have h3 := types_len ⟨k, by omega⟩
      simp only at h3
      show (typesV ++ 61 :: typesText k).length < _
      simp [typesV]; omega
    | types3 k h1 h2 =>
      have h3 := types_len ⟨k, by omega⟩
      simp only at h3
      show (typesPV ++ 61 :: typesText k).length < _
      simp [typesPV]; omega
    | sub4 s hs =>
      have h3 := isSub_len hs
      show (subV ++ 61 :: L s).length < _
      simp [subV]; omega
    | sub5 s hs =>
      have h3 := isSub_len hs
      show (subPV ++ 61 :: L s).length < _
      simp [subPV]; omega
    | colors6 k h1 =>
      have h3 := colors_len ⟨k, by omega⟩
      simp only at h3
      show (colorsV ++ 61 :: colorText k).length < _
      simp [colorsV]; omega
    | colors7 k h1 h2 =>
      have h3 := colors_len ⟨k, by omega⟩
      simp only at h3
      show (colorsPV ++ 61 :: colorText k).length < _
      simp [colorsPV]; omega
    | keys8 k h1 h2 =>
      have h3 := keyText_le (m := k)
      show (keysPV ++ 61 :: keyText k).length < _
      simp [keysPV]; omega
    | keys9 k h1 h2 =>
      have h3 := keyText_le (m := k)
      show (keysMV ++ 61 :: keyText k).length < _
      simp [keysMV]; omega
    | count f hf =>
      have h3 := textOf_len (f := f)
      show (ptV ++ 61 :: (countPV ++ (textOf f ++ [41]))).length < _
      simp [ptV, countPV]; omega
    | set12 n m h1 h2 h3 h4 =>
      have h5 := itoa99_le n (by omega) h2
      have h6 := itoa99_le m (by omega) h4
      show (ptV ++ 61 :: (Lib.itoa n ++ 47 :: Lib.itoa m)).length < _
      simp [ptV]; omega
    | add13 n m h1 h2 h3 h4 =>
      have h5 := itoa99_le n h1 h2
      have h6 := itoa99_le m h3 h4
      show (ptPV ++ 61 :: (Lib.itoa n ++ 47 :: Lib.itoa m)).length < _
      simp [ptPV]; omega
set_option maxRecDepth 100000 in
set_option maxHeartbeats 4000000 in
theorem modText_law (r : Md) (w : World) (hl : Laid w) : Calls Tryz.prog 3 #[.agg r.cells] w fun e w' => e = .returned (.bool true) ∧ Below w.heap.size w w' := by
  obtain ⟨R, hR⟩ : ∃ R, R = mdIs r := ⟨_, rfl⟩
  obtain ⟨T, hT⟩ : ∃ T, mdText r = T := ⟨_, rfl⟩
  have HR := Lib.hid hR
  have HT := Lib.hid hT
  clear hR hT
  have hS := St.start hl keepsL
  go_enter Tryz.func3, Tryz.ntmps3
  go_wp2_with (first | (go_at_call 11; (with_reducible refine (St.call hS fun hl => aliveO_any _ hl).mono ?_); rintro e w ⟨rfl, hS⟩) | (go_at_call 10; (with_reducible refine (St.call hS fun hl => shortO_any _ _ hl).mono ?_); rintro e w ⟨rfl, hS⟩) | ((with_reducible refine at_box ?_); (first | (refine wpList_box_agg rfl hS rfl rfl ?_; intro g w hS)); (try simp only [Act.put, List.setIfInBounds_toArray, List.set_cons_zero, List.set_cons_succ])) | ((with_reducible refine at_load ?_); (first | (refine md_ldw rfl hS rfl rfl (by (first | exact .head | exact .tail .head | exact .tail (.tail .head) | exact .tail (.tail (.tail .head)) | exact .tail (.tail (.tail (.tail .head))) | fail)) ?_)); (try simp only [Act.put, List.setIfInBounds_toArray, List.set_cons_zero, List.set_cons_succ])) | ((with_reducible refine region_here ?_); refine wp_region_St hS (by kernel_rfl) (by kernel_rfl) ?_) | ((with_reducible refine runS_end ?_); intro w hS) | ((with_reducible refine rat_load ?_); (first | (refine md_rlw rfl rfl rfl (by (first | exact .head | exact .tail .head | exact .tail (.tail .head) | exact .tail (.tail (.tail .head)) | exact .tail (.tail (.tail (.tail .head))) | fail)) (fun _ _ _ h => h) ?_) | (refine md_rl0 rfl rfl rfl (by (first | exact .head | exact .tail .head | exact .tail (.tail .head) | exact .tail (.tail (.tail .head)) | exact .tail (.tail (.tail (.tail .head))) | fail)) (fun _ _ _ h => h) ?_)); (try simp only [Act.put, List.setIfInBounds_toArray, List.set_cons_zero, List.set_cons_succ])) | ((with_reducible refine rat_call ?_); (first | (refine runS_call (v := ?_) (args := ?_) 11 rfl (fun _ _ _ h => h) ?_ ?_ ?_; rotate_left 2; (focus ((intro w; go_simp) <;> with_reducible rfl)); (focus (intro w hS; refine St.callE hS (fun hl => aliveO_any _ hl) ?_; with_reducible rfl))) | (refine runS_call (v := ?_) (args := ?_) 12 rfl (fun _ _ _ h => h) ?_ ?_ ?_; rotate_left 2; (focus ((intro w; go_simp) <;> with_reducible rfl)); (focus (intro w hS; refine St.callE hS (fun hl => mdIs_is _ _ HR _ hl) ?_; with_reducible rfl))) | (refine runS_call (v := ?_) (args := ?_) 13 rfl (fun _ _ _ h => h) ?_ ?_ ?_; rotate_left 2; (focus ((intro w; go_simp) <;> with_reducible rfl)); (focus (intro w hS; refine St.callE hS (fun hl => r15Is_is _ _ HR _ hl) ?_; with_reducible rfl))) | (refine runS_call (v := ?_) (args := ?_) 14 rfl (fun _ _ _ h => h) ?_ ?_ ?_; rotate_left 2; (focus ((intro w; go_simp) <;> with_reducible rfl)); (focus (intro w hS; refine St.callE hS (fun hl => mdText_is _ _ HT _ hl) ?_; with_reducible rfl))) | (refine runS_call (v := ?_) (args := ?_) 15 rfl (fun _ _ _ h => h) ?_ ?_ ?_; rotate_left 2; (focus ((intro w; go_simp) <;> with_reducible rfl)); (focus (intro w hS; refine St.callE hS (fun hl => r15Text_is _ _ HT _ hl) ?_; with_reducible rfl))) | (refine runS_call (v := ?_) (args := ?_) 16 rfl (fun _ _ _ h => h) ?_ ?_ ?_; rotate_left 2; (focus ((intro w; go_simp) <;> with_reducible rfl)); (focus (intro w hS; refine St.stillE hS (fun hl => mdStage_any _ _) ?_; with_reducible rfl))) | (refine runS_call (v := ?_) (args := ?_) 17 rfl (fun _ _ _ h => h) ?_ ?_ ?_; rotate_left 2; (focus ((intro w; go_simp) <;> with_reducible rfl)); (focus (intro w hS; refine St.stillE hS (fun hl => r15Stage_any _ _) ?_; with_reducible rfl)))); (try simp only [Act.put, List.setIfInBounds_toArray, List.set_cons_zero, List.set_cons_succ])) | ((with_reducible refine runS_here ?_); (refine runS_val (v := ?_) rfl (fun _ _ _ h => h) ?_ ?_; rotate_left; (focus ((intro w hS; go_simp) <;> with_reducible rfl))); (try simp only [Act.put, List.setIfInBounds_toArray, List.set_cons_zero, List.set_cons_succ])))
  all_goals go_ret
  all_goals exact ⟨ret_bool (by simp), hS.below⟩
set_option maxRecDepth 100000 in
set_option maxHeartbeats 4000000 in
theorem modParse_law (s : Str) (w : World) (hl : Laid w) : Calls Tryz.prog 4 #[.string (B s)] w fun e w' => e = .returned (.bool true) ∧ Below w.heap.size w w' := by
  have hS := St.start hl keepsL
  by_cases h5 : s.length ≤ 500
  · obtain ⟨X, e, HX⟩ : ∃ (X : Md) (e : Int), Hid (mdRet (mdParse s) = .tuple #[.agg X.cells, .int .i64 e]) := by
      cases mdParse s with
      | some x => exact ⟨x, 0, Lib.hid rfl⟩
      | none => exact ⟨zeroM, 3, Lib.hid rfl⟩
    have ca : ∀ w, Laid w → Calls Tryz.prog 18 #[.string (B s)] w fun e' w' => e' = .returned (.tuple #[.agg X.cells, .int .i64 e]) ∧ Below w.heap.size w w' := fun w hl => by
      have := mdParse_any s (by omega) w hl
      rwa [HX.out] at this
    have cb : ∀ w, Laid w → Calls Tryz.prog 19 #[.string (B s)] w fun e' w' => e' = .returned (.tuple #[.agg X.cells, .int .i64 e]) ∧ Below w.heap.size w w' := fun w hl => by
      have := r15Parse_is s (by omega) _ (Lib.hid rfl) w hl
      rwa [HX.out] at this
    have heq := fun (wx : World) => (eq_md X X wx).trans (by rw [mdEq_refl])
    go_enter Tryz.func4, Tryz.ntmps4
    go_wp2_with (first | (go_at_call 11; (with_reducible refine (St.call hS fun hl => aliveO_any _ hl).mono ?_); rintro e w ⟨rfl, hS⟩) | (go_at_call 18; (with_reducible refine (St.call hS fun hl => ca _ hl).mono ?_); rintro e w ⟨rfl, hS⟩) | (go_at_call 19; (with_reducible refine (St.call hS fun hl => cb _ hl).mono ?_); rintro e w ⟨rfl, hS⟩) | ((with_reducible refine at_alloc ?_); (first | (refine wpList_new 27 rfl hS rfl _ md_new ?_; intro g w hS)); (try simp only [Act.put, List.setIfInBounds_toArray, List.set_cons_zero, List.set_cons_succ])) | ((with_reducible refine at_load ?_); (first | (refine md_ldw rfl hS rfl rfl (by (first | exact .head | exact .tail .head | exact .tail (.tail .head) | exact .tail (.tail (.tail .head)) | exact .tail (.tail (.tail (.tail .head))) | fail)) ?_)); (try simp only [Act.put, List.setIfInBounds_toArray, List.set_cons_zero, List.set_cons_succ])) | ((with_reducible refine at_store ?_); (first | (refine md_stw rfl hS rfl rfl rfl (by first | exact .head | exact .tail .head | exact .tail (.tail .head) | exact .tail (.tail (.tail .head)) | exact .tail (.tail (.tail (.tail .head))) | fail) ?_; intro w hS)); (try simp only [Act.put, List.setIfInBounds_toArray, List.set_cons_zero, List.set_cons_succ])))
    all_goals go_ret
    all_goals exact ⟨ret_bool (by simp), hS.below⟩
  · go_enter Tryz.func4, Tryz.ntmps4
    go_wp2_with (first | (go_at_call 11; (with_reducible refine (St.call hS fun hl => aliveO_any _ hl).mono ?_); rintro e w ⟨rfl, hS⟩))
    all_goals go_ret
    all_goals exact ⟨ret_bool (by simp), hS.below⟩
theorem modParse_lawB (s : ByteArray) (w : World) (hl : Laid w) : Calls Tryz.prog 4 #[.string s] w fun e w' => e = .returned (.bool true) ∧ Below w.heap.size w w' := by
  have := modParse_law (L s) w hl
  rwa [B_L] at this
end Go.Proofs.YtakgfbcmkhcdkaaGreatDoor
