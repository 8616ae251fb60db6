/- Walks: package instead: Parse, the roads by a filter. Conditions: LaidM; the text is shorter than a million bytes. Walks: package instead: Parse. Conditions: LaidM; the text is shorter than a million bytes. Laws of chapter 19: the fixed calls. Conditions: LaidM. -/
import Derived.Test.YtlgelkbniogekaaGreatDoorMIParseB
import Derived.Test.YtlgelkbniogekaaGreatDoorMIParseD
namespace Go.Proofs.YtlgelkbniogekaaGreatDoor
set_option linter.all false
open Go.ChangeShapes Go.WideShapes Go.RowKit
attribute [local irreducible] wpList Code.wp Calls
set_option maxRecDepth 100000 in
set_option maxHeartbeats 4000000 in
theorem inParse_flt3 (s : Str) (hs : s.length < 90000000) (x y z : Str) (l : List Str) (hR : splitDep 32 s = x :: y :: z :: l) (hp : Lib.hasPrefix y [40] = true) (G : Flt) (c : Int) (HG : Hid (fltRet (parseS (Lib.trimSuffix (Lib.trimPrefix y [40]) [41])) = .tuple #[.agg G.cells, .int .i64 c])) (hc : (c != 0) = true) (w : World) (hl : LaidM w) :
    Calls Tryz.prog 14 #[.string (B s)] w fun e w' => e = .returned (.tuple #[.agg (Rp.cells zeroI), .int .i64 3]) ∧ Below w.heap.size w w' := by
  have HZ := Lib.hid (in_memz hs hR)
  have hym := in_mem hs hR y (by simp)
  have HX := Lib.hid (show (Lib.trimPrefix y [40]).length < 1000000000 by have := trimPre_len y [40]; omega)
  have HY := Lib.hid (show (Lib.trimSuffix (Lib.trimPrefix y [40]) [41]).length < 100000000 by have := trimPre_len y [40]; have := trimSuf_len (Lib.trimPrefix y [40]) [41]; omega)
  have HR := Lib.hid hR
  clear hym
  clear hR
  have k0 : ¬ (l.length : Int) + 1 + 1 + 1 < 3 := by omega
  have k1 : (1 : Int) < (l.length : Int) + 1 + 1 + 1 := by omega
  have k2 : (0 : Int) < (l.length : Int) + 1 + 1 + 1 := by omega
  have k3 : (2 : Int) ≤ (l.length : Int) + 1 + 1 + 1 := by omega
  have hS := St.start hl keepsM
  go_enter Tryz.func14, Tryz.ntmps14
  go_wp2_with (first | (go_at_call 33; (with_reducible refine (St.still hS fun hl => kind_any _ _).mono ?_); rintro e w ⟨rfl, hS⟩) | (go_at_call 34; (with_reducible refine (St.still hS fun hl => cutB_any _ _).mono ?_); rintro e w ⟨rfl, hS⟩) | (go_at_call 36; (with_reducible refine (St.still hS fun hl => trimB_any _ HX.out _).mono ?_); rintro e w ⟨rfl, hS⟩) | (go_at_call 35; (with_reducible refine (St.call hS fun hl => fltParse_B _ HY.out _ _ HG _ hl.base).mono ?_); rintro e w ⟨rfl, hS⟩) | (go_at_call 32; (with_reducible refine (wsplit_B s (by omega) _ HR _).mono ?_); rintro e w ⟨A, c, rfl, ht, hbw⟩; obtain ⟨gw, cur, rfl, hw, hcap, hS⟩ := hS.words ht hbw (by simp); clear ht hbw; simp only [List.length_cons] at hcap; have hc2 : ¬ c = 2 := by omega) | ((with_reducible refine at_load ?_); (first | refine wpList_ld_cell rfl hS rfl rfl (by (first | exact .head | exact .tail .head | exact .tail (.tail .head) | exact .tail (.tail (.tail .head)) | exact .tail (.tail (.tail (.tail .head))) | fail)) scal9 (hw 0 _ rfl) ?_ | refine wpList_ld_cell rfl hS rfl rfl (by (first | exact .head | exact .tail .head | exact .tail (.tail .head) | exact .tail (.tail (.tail .head)) | exact .tail (.tail (.tail (.tail .head))) | fail)) scal9 (hw 1 _ rfl) ?_); (try simp only [Act.put, List.setIfInBounds_toArray, List.set_cons_zero, List.set_cons_succ])) | ((with_reducible refine at_build ?_); refine wpList_bld (l := [(0, _)]) rfl rfl (ps := [(0, .int .i64 (kindOf x))]) rfl (rp_bld0 _) ?_; (try simp only [Act.put, List.setIfInBounds_toArray, List.set_cons_zero, List.set_cons_succ])) | ((with_reducible refine at_alloc ?_); (first | (refine wpList_new 27 rfl hS rfl _ rp_new ?_; intro g w hS) | (refine wpList_new 25 rfl hS rfl _ flt_new ?_; intro g w hS)); (try simp only [Act.put, List.setIfInBounds_toArray, List.set_cons_zero, List.set_cons_succ])) | ((with_reducible refine rp_shape_ ?_); refine rp_bld_ rfl ?_; (try simp only [Act.put, List.setIfInBounds_toArray, List.set_cons_zero, List.set_cons_succ])) | ((with_reducible refine at_store ?_); (first | (refine rp_stw rfl hS rfl rfl rfl (by first | exact .head | exact .tail .head | exact .tail (.tail .head) | exact .tail (.tail (.tail .head)) | exact .tail (.tail (.tail (.tail .head))) | fail) ?_; intro w hS) | (refine flt_stw rfl hS rfl rfl rfl (by first | exact .head | exact .tail .head | exact .tail (.tail .head) | exact .tail (.tail (.tail .head)) | exact .tail (.tail (.tail (.tail .head))) | fail) ?_; intro w hS)); (try simp only [Act.put, List.setIfInBounds_toArray, List.set_cons_zero, List.set_cons_succ])))
  all_goals (refine rp_res2 hS rfl rfl (by (first | exact .head | exact .tail .head | exact .tail (.tail .head) | exact .tail (.tail (.tail .head)) | exact .tail (.tail (.tail (.tail .head))) | fail)) rfl rfl (fun hb => ⟨rfl, hb⟩))
set_option maxRecDepth 100000 in
set_option maxHeartbeats 4000000 in
theorem inParse_flt0 (s : Str) (hs : s.length < 90000000) (x y z : Str) (l : List Str) (hR : splitDep 32 s = x :: y :: z :: l) (hp : Lib.hasPrefix y [40] = true) (G : Flt) (c : Int) (HG : Hid (fltRet (parseS (Lib.trimSuffix (Lib.trimPrefix y [40]) [41])) = .tuple #[.agg G.cells, .int .i64 c])) (hc : c = 0) (D : Rp) (hD : Hid (doingR (kindOf x) 0 G (z :: l) = D)) (T : Str) (HT : Hid (rpText D = T)) (HI : Hid (false = rpIs D)) (w : World) (hl : LaidM w) :
    Calls Tryz.prog 14 #[.string (B s)] w fun e w' => e = .returned (.tuple #[.agg (Rp.cells zeroI), .int .i64 3]) ∧ Below w.heap.size w w' := by
  have HZ := Lib.hid (in_memz hs hR)
  have hym := in_mem hs hR y (by simp)
  have HX := Lib.hid (show (Lib.trimPrefix y [40]).length < 1000000000 by have := trimPre_len y [40]; omega)
  have HY := Lib.hid (show (Lib.trimSuffix (Lib.trimPrefix y [40]) [41]).length < 100000000 by have := trimPre_len y [40]; have := trimSuf_len (Lib.trimPrefix y [40]) [41]; omega)
  have HR := Lib.hid hR
  clear hym
  subst hc
  have HD := hD
  clear hD
  clear hR
  have k0 : ¬ (l.length : Int) + 1 + 1 + 1 < 3 := by omega
  have k1 : (1 : Int) < (l.length : Int) + 1 + 1 + 1 := by omega
  have k2 : (0 : Int) < (l.length : Int) + 1 + 1 + 1 := by omega
  have k3 : (2 : Int) ≤ (l.length : Int) + 1 + 1 + 1 := by omega
  have hS := St.start hl keepsM
  go_enter Tryz.func14, Tryz.ntmps14
  go_wp2_with (first | (go_at_call 33; (with_reducible refine (St.still hS fun hl => kind_any _ _).mono ?_); rintro e w ⟨rfl, hS⟩) | (go_at_call 34; (with_reducible refine (St.still hS fun hl => cutB_any _ _).mono ?_); rintro e w ⟨rfl, hS⟩) | (go_at_call 36; (with_reducible refine (St.still hS fun hl => trimB_any _ HX.out _).mono ?_); rintro e w ⟨rfl, hS⟩) | (go_at_call 35; (with_reducible refine (St.call hS fun hl => fltParse_B _ HY.out _ _ HG _ hl.base).mono ?_); rintro e w ⟨rfl, hS⟩) | (go_at_call 10; (with_reducible refine (St.call hS fun hl => inIs_is _ _ HI _ hl).mono ?_); rintro e w ⟨rfl, hS⟩) | (go_at_call 32; (with_reducible refine (wsplit_B s (by omega) _ HR _).mono ?_); rintro e w ⟨A, c, rfl, ht, hbw⟩; obtain ⟨gw, cur, rfl, hw, hcap, hS⟩ := hS.words ht hbw (by simp); clear ht hbw; simp only [List.length_cons] at hcap; have hc2 : ¬ c = 2 := by omega) | ((with_reducible refine at_load ?_); (first | refine wpList_ld_cell rfl hS rfl rfl (by (first | exact .head | exact .tail .head | exact .tail (.tail .head) | exact .tail (.tail (.tail .head)) | exact .tail (.tail (.tail (.tail .head))) | fail)) scal9 (hw 0 _ rfl) ?_ | refine wpList_ld_cell rfl hS rfl rfl (by (first | exact .head | exact .tail .head | exact .tail (.tail .head) | exact .tail (.tail (.tail .head)) | exact .tail (.tail (.tail (.tail .head))) | fail)) scal9 (hw 1 _ rfl) ?_); (try simp only [Act.put, List.setIfInBounds_toArray, List.set_cons_zero, List.set_cons_succ])) | ((with_reducible refine at_build ?_); refine wpList_bld (l := [(0, _)]) rfl rfl (ps := [(0, .int .i64 (kindOf x))]) rfl (rp_bld0 _) ?_; (try simp only [Act.put, List.setIfInBounds_toArray, List.set_cons_zero, List.set_cons_succ])) | ((with_reducible refine at_guard ?_); (first | (refine wpList_pass rfl ?_)); (try simp only [Act.put, List.setIfInBounds_toArray, List.set_cons_zero, List.set_cons_succ])) | ((with_reducible refine at_alloc ?_); (first | (refine wpList_new 27 rfl hS rfl _ rp_new ?_; intro g w hS) | (refine wpList_new 25 rfl hS rfl _ flt_new ?_; intro g w hS)); (try simp only [Act.put, List.setIfInBounds_toArray, List.set_cons_zero, List.set_cons_succ])) | ((with_reducible refine rp_shape_ ?_); refine rp_bld_ rfl ?_; (try simp only [Act.put, List.setIfInBounds_toArray, List.set_cons_zero, List.set_cons_succ])) | ((with_reducible refine at_load ?_); (first | (refine rp_ldw rfl hS rfl rfl (by (first | exact .head | exact .tail .head | exact .tail (.tail .head) | exact .tail (.tail (.tail .head)) | exact .tail (.tail (.tail (.tail .head))) | fail)) ?_) | (refine flt_ldw rfl hS rfl rfl (by (first | exact .head | exact .tail .head | exact .tail (.tail .head) | exact .tail (.tail (.tail .head)) | exact .tail (.tail (.tail (.tail .head))) | fail)) ?_)); (try simp only [Act.put, List.setIfInBounds_toArray, List.set_cons_zero, List.set_cons_succ])) | ((with_reducible refine at_store ?_); (first | (refine rp_stw rfl hS rfl rfl rfl (by first | exact .head | exact .tail .head | exact .tail (.tail .head) | exact .tail (.tail (.tail .head)) | exact .tail (.tail (.tail (.tail .head))) | fail) ?_; intro w hS) | (refine rp_st2 rfl hS rfl rfl rfl (by first | exact .head | exact .tail .head | exact .tail (.tail .head) | exact .tail (.tail (.tail .head)) | exact .tail (.tail (.tail (.tail .head))) | fail) ?_; intro w hS) | (refine flt_stw rfl hS rfl rfl rfl (by first | exact .head | exact .tail .head | exact .tail (.tail .head) | exact .tail (.tail (.tail .head)) | exact .tail (.tail (.tail (.tail .head))) | fail) ?_; intro w hS)); (try simp only [Act.put, List.setIfInBounds_toArray, List.set_cons_zero, List.set_cons_succ])) | ((with_reducible refine region_here ?_); refine wp_region_Tt 4 hS rfl (by kernel_rfl) (by kernel_rfl) (by kernel_rfl) ?_) | ((with_reducible refine runT_fin ?_); intro w hS) | ((with_reducible refine tat_load ?_); (first | (refine rp_tlw rfl rfl rfl (by (first | exact .head | exact .tail .head | exact .tail (.tail .head) | exact .tail (.tail (.tail .head)) | exact .tail (.tail (.tail (.tail .head))) | fail)) (fun _ _ _ h => h) ?_)); (try simp only [Act.put, List.setIfInBounds_toArray, List.set_cons_zero, List.set_cons_succ])) | ((with_reducible refine tat_call ?_); (first | (refine runT_call (v := ?_) (args := ?_) 37 rfl (fun _ _ _ h => h) ?_ ?_ ?_; rotate_left 2; (focus ((intro w; go_simp) <;> with_reducible rfl)); (focus (intro w hS; refine St.callE hS (fun hl => doing_here hS (by (first | exact .head | exact .tail .head | exact .tail (.tail .head) | exact .tail (.tail (.tail .head)) | exact .tail (.tail (.tail (.tail .head))) | fail)) hw HD HZ.out) ?_; with_reducible rfl)))); (try simp only [Act.put, List.setIfInBounds_toArray, List.set_cons_zero, List.set_cons_succ])) | ((with_reducible refine tat_any ?_); (refine runT_val (v := ?_) rfl (fun _ _ _ h => h) ?_ ?_; rotate_left; (focus ((intro w hS; go_simp) <;> with_reducible rfl))); (try simp only [Act.put, List.setIfInBounds_toArray, List.set_cons_zero, List.set_cons_succ])))
  all_goals (refine rp_res2 hS rfl rfl (by (first | exact .head | exact .tail .head | exact .tail (.tail .head) | exact .tail (.tail (.tail .head)) | exact .tail (.tail (.tail (.tail .head))) | fail)) rfl rfl (fun hb => ⟨rfl, hb⟩))
set_option maxRecDepth 100000 in
set_option maxHeartbeats 4000000 in
theorem inParse_flt1 (s : Str) (hs : s.length < 90000000) (x y z : Str) (l : List Str) (hR : splitDep 32 s = x :: y :: z :: l) (hp : Lib.hasPrefix y [40] = true) (G : Flt) (c : Int) (HG : Hid (fltRet (parseS (Lib.trimSuffix (Lib.trimPrefix y [40]) [41])) = .tuple #[.agg G.cells, .int .i64 c])) (hc : c = 0) (D : Rp) (hD : Hid (doingR (kindOf x) 0 G (z :: l) = D)) (T : Str) (HT : Hid (rpText D = T)) (HI : Hid (true = rpIs D)) (ht : (T == s) = false) (w : World) (hl : LaidM w) :
    Calls Tryz.prog 14 #[.string (B s)] w fun e w' => e = .returned (.tuple #[.agg (Rp.cells zeroI), .int .i64 3]) ∧ Below w.heap.size w w' := by
  have HZ := Lib.hid (in_memz hs hR)
  have hym := in_mem hs hR y (by simp)
  have HX := Lib.hid (show (Lib.trimPrefix y [40]).length < 1000000000 by have := trimPre_len y [40]; omega)
  have HY := Lib.hid (show (Lib.trimSuffix (Lib.trimPrefix y [40]) [41]).length < 100000000 by have := trimPre_len y [40]; have := trimSuf_len (Lib.trimPrefix y [40]) [41]; omega)
  have HR := Lib.hid hR
  clear hym
  subst hc
  have HD := hD
  clear hD
  clear hR
  have k0 : ¬ (l.length : Int) + 1 + 1 + 1 < 3 := by omega
  have k1 : (1 : Int) < (l.length : Int) + 1 + 1 + 1 := by omega
  have k2 : (0 : Int) < (l.length : Int) + 1 + 1 + 1 := by omega
  have k3 : (2 : Int) ≤ (l.length : Int) + 1 + 1 + 1 := by omega
  have hS := St.start hl keepsM
  go_enter Tryz.func14, Tryz.ntmps14
  go_wp2_with (first | (go_at_call 33; (with_reducible refine (St.still hS fun hl => kind_any _ _).mono ?_); rintro e w ⟨rfl, hS⟩) | (go_at_call 34; (with_reducible refine (St.still hS fun hl => cutB_any _ _).mono ?_); rintro e w ⟨rfl, hS⟩) | (go_at_call 36; (with_reducible refine (St.still hS fun hl => trimB_any _ HX.out _).mono ?_); rintro e w ⟨rfl, hS⟩) | (go_at_call 35; (with_reducible refine (St.call hS fun hl => fltParse_B _ HY.out _ _ HG _ hl.base).mono ?_); rintro e w ⟨rfl, hS⟩) | (go_at_call 10; (with_reducible refine (St.call hS fun hl => inIs_is _ _ HI _ hl).mono ?_); rintro e w ⟨rfl, hS⟩) | (go_at_call 12; (with_reducible refine (St.call hS fun hl => inText_is _ _ HT _ hl).mono ?_); rintro e w ⟨rfl, hS⟩) | (go_at_call 32; (with_reducible refine (wsplit_B s (by omega) _ HR _).mono ?_); rintro e w ⟨A, c, rfl, ht, hbw⟩; obtain ⟨gw, cur, rfl, hw, hcap, hS⟩ := hS.words ht hbw (by simp); clear ht hbw; simp only [List.length_cons] at hcap; have hc2 : ¬ c = 2 := by omega) | ((with_reducible refine at_load ?_); (first | refine wpList_ld_cell rfl hS rfl rfl (by (first | exact .head | exact .tail .head | exact .tail (.tail .head) | exact .tail (.tail (.tail .head)) | exact .tail (.tail (.tail (.tail .head))) | fail)) scal9 (hw 0 _ rfl) ?_ | refine wpList_ld_cell rfl hS rfl rfl (by (first | exact .head | exact .tail .head | exact .tail (.tail .head) | exact .tail (.tail (.tail .head)) | exact .tail (.tail (.tail (.tail .head))) | fail)) scal9 (hw 1 _ rfl) ?_); (try simp only [Act.put, List.setIfInBounds_toArray, List.set_cons_zero, List.set_cons_succ])) | ((with_reducible refine at_build ?_); refine wpList_bld (l := [(0, _)]) rfl rfl (ps := [(0, .int .i64 (kindOf x))]) rfl (rp_bld0 _) ?_; (try simp only [Act.put, List.setIfInBounds_toArray, List.set_cons_zero, List.set_cons_succ])) | ((with_reducible refine at_alloc ?_); (first | (refine wpList_new 27 rfl hS rfl _ rp_new ?_; intro g w hS) | (refine wpList_new 25 rfl hS rfl _ flt_new ?_; intro g w hS)); (try simp only [Act.put, List.setIfInBounds_toArray, List.set_cons_zero, List.set_cons_succ])) | ((with_reducible refine rp_shape_ ?_); refine rp_bld_ rfl ?_; (try simp only [Act.put, List.setIfInBounds_toArray, List.set_cons_zero, List.set_cons_succ])) | ((with_reducible refine at_load ?_); (first | (refine rp_ldw rfl hS rfl rfl (by (first | exact .head | exact .tail .head | exact .tail (.tail .head) | exact .tail (.tail (.tail .head)) | exact .tail (.tail (.tail (.tail .head))) | fail)) ?_) | (refine flt_ldw rfl hS rfl rfl (by (first | exact .head | exact .tail .head | exact .tail (.tail .head) | exact .tail (.tail (.tail .head)) | exact .tail (.tail (.tail (.tail .head))) | fail)) ?_)); (try simp only [Act.put, List.setIfInBounds_toArray, List.set_cons_zero, List.set_cons_succ])) | ((with_reducible refine at_store ?_); (first | (refine rp_stw rfl hS rfl rfl rfl (by first | exact .head | exact .tail .head | exact .tail (.tail .head) | exact .tail (.tail (.tail .head)) | exact .tail (.tail (.tail (.tail .head))) | fail) ?_; intro w hS) | (refine rp_st2 rfl hS rfl rfl rfl (by first | exact .head | exact .tail .head | exact .tail (.tail .head) | exact .tail (.tail (.tail .head)) | exact .tail (.tail (.tail (.tail .head))) | fail) ?_; intro w hS) | (refine flt_stw rfl hS rfl rfl rfl (by first | exact .head | exact .tail .head | exact .tail (.tail .head) | exact .tail (.tail (.tail .head)) | exact .tail (.tail (.tail (.tail .head))) | fail) ?_; intro w hS)); (try simp only [Act.put, List.setIfInBounds_toArray, List.set_cons_zero, List.set_cons_succ])) | ((with_reducible refine region_here ?_); refine wp_region_Tt 4 hS rfl (by kernel_rfl) (by kernel_rfl) (by kernel_rfl) ?_) | ((with_reducible refine runT_fin ?_); intro w hS) | ((with_reducible refine tat_load ?_); (first | (refine rp_tlw rfl rfl rfl (by (first | exact .head | exact .tail .head | exact .tail (.tail .head) | exact .tail (.tail (.tail .head)) | exact .tail (.tail (.tail (.tail .head))) | fail)) (fun _ _ _ h => h) ?_)); (try simp only [Act.put, List.setIfInBounds_toArray, List.set_cons_zero, List.set_cons_succ])) | ((with_reducible refine tat_call ?_); (first | (refine runT_call (v := ?_) (args := ?_) 37 rfl (fun _ _ _ h => h) ?_ ?_ ?_; rotate_left 2; (focus ((intro w; go_simp) <;> with_reducible rfl)); (focus (intro w hS; refine St.callE hS (fun hl => doing_here hS (by (first | exact .head | exact .tail .head | exact .tail (.tail .head) | exact .tail (.tail (.tail .head)) | exact .tail (.tail (.tail (.tail .head))) | fail)) hw HD HZ.out) ?_; with_reducible rfl)))); (try simp only [Act.put, List.setIfInBounds_toArray, List.set_cons_zero, List.set_cons_succ])) | ((with_reducible refine tat_any ?_); (refine runT_val (v := ?_) rfl (fun _ _ _ h => h) ?_ ?_; rotate_left; (focus ((intro w hS; go_simp) <;> with_reducible rfl))); (try simp only [Act.put, List.setIfInBounds_toArray, List.set_cons_zero, List.set_cons_succ])))
  all_goals (refine rp_res2 hS rfl rfl (by (first | exact .head | exact .tail .head | exact .tail (.tail .head) | exact .tail (.tail (.tail .head)) | exact .tail (.tail (.tail (.tail .head))) | fail)) rfl rfl (fun hb => ⟨rfl, hb⟩))
set_option maxRecDepth 100000 in
set_option maxHeartbeats 4000000 in
theorem inParse_flt2 (s : Str) (hs : s.length < 90000000) (x y z : Str) (l : List Str) (hR : splitDep 32 s = x :: y :: z :: l) (hp : Lib.hasPrefix y [40] = true) (G : Flt) (c : Int) (HG : Hid (fltRet (parseS (Lib.trimSuffix (Lib.trimPrefix y [40]) [41])) = .tuple #[.agg G.cells, .int .i64 c])) (hc : c = 0) (D : Rp) (hD : Hid (doingR (kindOf x) 0 G (z :: l) = D)) (HT : Hid (rpText D = s)) (HI : Hid (true = rpIs D)) (w : World) (hl : LaidM w) :
    Calls Tryz.prog 14 #[.string (B s)] w fun e w' => e = .returned (.tuple #[.agg (Rp.cells D), .int .i64 0]) ∧ Below w.heap.size w w' := by
  have HZ := Lib.hid (in_memz hs hR)
  have hym := in_mem hs hR y (by simp)
  have HX := Lib.hid (show (Lib.trimPrefix y [40]).length < 1000000000 by have := trimPre_len y [40]; omega)
  have HY := Lib.hid (show (Lib.trimSuffix (Lib.trimPrefix y [40]) [41]).length < 100000000 by have := trimPre_len y [40]; have := trimSuf_len (Lib.trimPrefix y [40]) [41]; omega)
  have HR := Lib.hid hR
  clear hym
  subst hc
  have HD := hD
  clear hD
  clear hR
  have k0 : ¬ (l.length : Int) + 1 + 1 + 1 < 3 := by omega
  have k1 : (1 : Int) < (l.length : Int) + 1 + 1 + 1 := by omega
  have k2 : (0 : Int) < (l.length : Int) + 1 + 1 + 1 := by omega
  have k3 : (2 : Int) ≤ (l.length : Int) + 1 + 1 + 1 := by omega
  have hS := St.start hl keepsM
  go_enter Tryz.func14, Tryz.ntmps14
  go_wp2_with (first | (go_at_call 33; (with_reducible refine (St.still hS fun hl => kind_any _ _).mono ?_); rintro e w ⟨rfl, hS⟩) | (go_at_call 34; (with_reducible refine (St.still hS fun hl => cutB_any _ _).mono ?_); rintro e w ⟨rfl, hS⟩) | (go_at_call 36; (with_reducible refine (St.still hS fun hl => trimB_any _ HX.out _).mono ?_); rintro e w ⟨rfl, hS⟩) | (go_at_call 35; (with_reducible refine (St.call hS fun hl => fltParse_B _ HY.out _ _ HG _ hl.base).mono ?_); rintro e w ⟨rfl, hS⟩) | (go_at_call 10; (with_reducible refine (St.call hS fun hl => inIs_is _ _ HI _ hl).mono ?_); rintro e w ⟨rfl, hS⟩) | (go_at_call 12; (with_reducible refine (St.call hS fun hl => inText_is _ _ HT _ hl).mono ?_); rintro e w ⟨rfl, hS⟩) | (go_at_call 32; (with_reducible refine (wsplit_B s (by omega) _ HR _).mono ?_); rintro e w ⟨A, c, rfl, ht, hbw⟩; obtain ⟨gw, cur, rfl, hw, hcap, hS⟩ := hS.words ht hbw (by simp); clear ht hbw; simp only [List.length_cons] at hcap; have hc2 : ¬ c = 2 := by omega) | ((with_reducible refine at_load ?_); (first | refine wpList_ld_cell rfl hS rfl rfl (by (first | exact .head | exact .tail .head | exact .tail (.tail .head) | exact .tail (.tail (.tail .head)) | exact .tail (.tail (.tail (.tail .head))) | fail)) scal9 (hw 0 _ rfl) ?_ | refine wpList_ld_cell rfl hS rfl rfl (by (first | exact .head | exact .tail .head | exact .tail (.tail .head) | exact .tail (.tail (.tail .head)) | exact .tail (.tail (.tail (.tail .head))) | fail)) scal9 (hw 1 _ rfl) ?_); (try simp only [Act.put, List.setIfInBounds_toArray, List.set_cons_zero, List.set_cons_succ])) | ((with_reducible refine at_build ?_); refine wpList_bld (l := [(0, _)]) rfl rfl (ps := [(0, .int .i64 (kindOf x))]) rfl (rp_bld0 _) ?_; (try simp only [Act.put, List.setIfInBounds_toArray, List.set_cons_zero, List.set_cons_succ])) | ((with_reducible refine at_alloc ?_); (first | (refine wpList_new 27 rfl hS rfl _ rp_new ?_; intro g w hS) | (refine wpList_new 25 rfl hS rfl _ flt_new ?_; intro g w hS)); (try simp only [Act.put, List.setIfInBounds_toArray, List.set_cons_zero, List.set_cons_succ])) | ((with_reducible refine at_load ?_); (first | (refine rp_ldw rfl hS rfl rfl (by (first | exact .head | exact .tail .head | exact .tail (.tail .head) | exact .tail (.tail (.tail .head)) | exact .tail (.tail (.tail (.tail .head))) | fail)) ?_) | (refine flt_ldw rfl hS rfl rfl (by (first | exact .head | exact .tail .head | exact .tail (.tail .head) | exact .tail (.tail (.tail .head)) | exact .tail (.tail (.tail (.tail .head))) | fail)) ?_)); (try simp only [Act.put, List.setIfInBounds_toArray, List.set_cons_zero, List.set_cons_succ])) | ((with_reducible refine at_store ?_); (first | (refine rp_stw rfl hS rfl rfl rfl (by first | exact .head | exact .tail .head | exact .tail (.tail .head) | exact .tail (.tail (.tail .head)) | exact .tail (.tail (.tail (.tail .head))) | fail) ?_; intro w hS) | (refine rp_st2 rfl hS rfl rfl rfl (by first | exact .head | exact .tail .head | exact .tail (.tail .head) | exact .tail (.tail (.tail .head)) | exact .tail (.tail (.tail (.tail .head))) | fail) ?_; intro w hS) | (refine flt_stw rfl hS rfl rfl rfl (by first | exact .head | exact .tail .head | exact .tail (.tail .head) | exact .tail (.tail (.tail .head)) | exact .tail (.tail (.tail (.tail .head))) | fail) ?_; intro w hS)); (try simp only [Act.put, List.setIfInBounds_toArray, List.set_cons_zero, List.set_cons_succ])) | ((with_reducible refine region_here ?_); refine wp_region_Tt 4 hS rfl (by kernel_rfl) (by kernel_rfl) (by kernel_rfl) ?_) | ((with_reducible refine runT_fin ?_); intro w hS) | ((with_reducible refine tat_load ?_); (first | (refine rp_tlw rfl rfl rfl (by (first | exact .head | exact .tail .head | exact .tail (.tail .head) | exact .tail (.tail (.tail .head)) | exact .tail (.tail (.tail (.tail .head))) | fail)) (fun _ _ _ h => h) ?_)); (try simp only [Act.put, List.setIfInBounds_toArray, List.set_cons_zero, List.set_cons_succ])) | ((with_reducible refine tat_call ?_); (first | (refine runT_call (v := ?_) (args := ?_) 37 rfl (fun _ _ _ h => h) ?_ ?_ ?_; rotate_left 2; (focus ((intro w; go_simp) <;> with_reducible rfl)); (focus (intro w hS; refine St.callE hS (fun hl => doing_here hS (by (first | exact .head | exact .tail .head | exact .tail (.tail .head) | exact .tail (.tail (.tail .head)) | exact .tail (.tail (.tail (.tail .head))) | fail)) hw HD HZ.out) ?_; with_reducible rfl)))); (try simp only [Act.put, List.setIfInBounds_toArray, List.set_cons_zero, List.set_cons_succ])) | ((with_reducible refine tat_any ?_); (refine runT_val (v := ?_) rfl (fun _ _ _ h => h) ?_ ?_; rotate_left; (focus ((intro w hS; go_simp) <;> with_reducible rfl))); (try simp only [Act.put, List.setIfInBounds_toArray, List.set_cons_zero, List.set_cons_succ])))
  all_goals (refine rp_res2 hS rfl rfl (by (first | exact .head | exact .tail .head | exact .tail (.tail .head) | exact .tail (.tail (.tail .head)) | exact .tail (.tail (.tail (.tail .head))) | fail)) rfl rfl (fun hb => ⟨rfl, hb⟩))
end Go.Proofs.YtlgelkbniogekaaGreatDoor
namespace Go.Proofs.YtlgelkbniogekaaGreatDoor
set_option linter.all false
open Go.ChangeShapes Go.WideShapes Go.RowKit
attribute [local irreducible] wpList Code.wp Calls
theorem inParse_any (s : Str) (hs : s.length < 90000000) (w : World) (hl : LaidM w) : Calls Tryz.prog 14 #[.string (B s)] w fun e w' => e = .returned (rpRet (rpParse s)) ∧ Below w.heap.size w w' := by
  have hgo : ∀ o, guessI s = o → rpParse s = match o with | some r => if rpIs r = true ∧ rpText r = s then some r else none | none => none := fun o h => by unfold rpParse; rw [h]; cases o <;> rfl
  match hR : splitDep 32 s with
  | [] => rw [hgo none (by unfold guessI; rw [hR])]; exact inParse_short s hs [] hR (by simp) w hl
  | [a] => rw [hgo none (by unfold guessI; rw [hR])]; exact inParse_short s hs _ hR (by simp) w hl
  | [a, b] => rw [hgo none (by unfold guessI; rw [hR])]; exact inParse_short s hs _ hR (by simp) w hl
  | x :: y :: z :: l =>
    have hg : guessI s = (whomOf y).map fun p => doingR (kindOf x) p.1 p.2 (z :: l) := by unfold guessI; rw [hR]
    cases hp : Lib.hasPrefix y [40] with
    | false =>
      have hw : whomOf y = some (whoIx y, zeroF) := by unfold whomOf; rw [hp]; rfl
      rw [hw] at hg
      rw [hgo _ hg]
      simp only [Option.map_some]
      obtain ⟨D, hD⟩ : ∃ D, doingR (kindOf x) (whoIx y) zeroF (z :: l) = D := ⟨_, rfl⟩
      rw [hD]
      cases hI : rpIs D with
      | false => rw [if_neg (fun h => by cases h.1)]; exact inParse_who0 s hs x y z l hR hp D hD _ (Lib.hid rfl) (Lib.hid hI.symm) w hl
      | true =>
        by_cases ht : rpText D = s
        · rw [if_pos ⟨rfl, ht⟩]; exact inParse_who2 s hs x y z l hR hp D hD (Lib.hid ht) (Lib.hid hI.symm) w hl
        · rw [if_neg (fun h => ht h.2)]; exact inParse_who1 s hs x y z l hR hp D hD _ (Lib.hid rfl) (Lib.hid hI.symm) (by simpa using ht) w hl
    | true =>
      have hw : whomOf y = (parseS (Lib.trimSuffix (Lib.trimPrefix y [40]) [41])).map fun f => (0, f) := by unfold whomOf; rw [hp]; rfl
      rw [hw] at hg
      cases hq : parseS (Lib.trimSuffix (Lib.trimPrefix y [40]) [41]) with
      | none =>
        rw [hq] at hg
        rw [hgo _ hg]
        exact inParse_flt3 s hs x y z l hR hp zeroF 3 (Lib.hid (by rw [hq]; rfl)) rfl w hl
      | some G =>
        rw [hq] at hg
        rw [hgo _ hg]
        simp only [Option.map_some]
        have HG : Hid (fltRet (parseS (Lib.trimSuffix (Lib.trimPrefix y [40]) [41])) = .tuple #[.agg G.cells, .int .i64 0]) := Lib.hid (by rw [hq]; rfl)
        obtain ⟨D, hD⟩ : ∃ D, doingR (kindOf x) 0 G (z :: l) = D := ⟨_, rfl⟩
        rw [hD]
        cases hI : rpIs D with
        | false => rw [if_neg (fun h => by cases h.1)]; exact inParse_flt0 s hs x y z l hR hp G 0 HG rfl D (Lib.hid hD) _ (Lib.hid rfl) (Lib.hid hI.symm) w hl
        | true =>
          by_cases ht : rpText D = s
          · rw [if_pos ⟨rfl, ht⟩]; exact inParse_flt2 s hs x y z l hR hp G 0 HG rfl D (Lib.hid hD) (Lib.hid ht) (Lib.hid hI.symm) w hl
          · rw [if_neg (fun h => ht h.2)]; exact inParse_flt1 s hs x y z l hR hp G 0 HG rfl D (Lib.hid hD) _ (Lib.hid rfl) (Lib.hid hI.symm) (by simpa using ht) w hl
end Go.Proofs.YtlgelkbniogekaaGreatDoor
namespace Go.Proofs.YtlgelkbniogekaaGreatDoor
set_option linter.all false
open Go.ChangeShapes Go.WideShapes Go.RowKit
attribute [local irreducible] wpList Code.wp Calls
theorem inParse_lit (l : Str) (o : Option Rp) (h : rpParse l = o) (hs : l.length < 90000000) (w : World) (hl : LaidM w) : Calls Tryz.prog 14 #[.string (B l)] w fun e w' => e = .returned (rpRet o) ∧ Below w.heap.size w w' := by
  rw [← h]; exact inParse_any l hs w hl
def zeroS : Flt := ⟨0, 0, 1, 0, 0, 0, 0, ⟨#[]⟩, 0, 0, 0, 0, 0, 0, 0, 0⟩
theorem aliveI_a (w : World) (hl : LaidM w) : Calls Tryz.prog 14 #[.string ⟨#[104, 117, 114, 116, 32, 121, 111, 117, 32, 112, 114, 101, 118, 101, 110, 116]⟩] w fun e w' => e = .returned (.tuple #[.agg (Rp.cells ⟨1, 1, zeroF, 1, 0, 0, 0⟩), .int .i64 0]) ∧ Below w.heap.size w w' :=
  inParse_lit [104, 117, 114, 116, 32, 121, 111, 117, 32, 112, 114, 101, 118, 101, 110, 116] (some ⟨1, 1, zeroF, 1, 0, 0, 0⟩) (by kernel_rfl) (by decide) w hl
theorem aliveI_b (w : World) (hl : LaidM w) : Calls Tryz.prog 14 #[.string ⟨#[101, 110, 116, 101, 114, 115, 32, 40, 115, 101, 108, 102, 41, 32, 119, 105, 116, 104, 32, 51, 32, 112, 108, 117, 115]⟩] w fun e w' => e = .returned (.tuple #[.agg (Rp.cells ⟨2, 0, zeroS, 7, 3, 0, 0⟩), .int .i64 0]) ∧ Below w.heap.size w w' :=
  inParse_lit [101, 110, 116, 101, 114, 115, 32, 40, 115, 101, 108, 102, 41, 32, 119, 105, 116, 104, 32, 51, 32, 112, 108, 117, 115] (some ⟨2, 0, zeroS, 7, 3, 0, 0⟩) (by kernel_rfl) (by decide) w hl
theorem aliveI_c (w : World) (hl : LaidM w) : Calls Tryz.prog 14 #[.string ⟨#[100, 114, 97, 119, 32, 121, 111, 117, 32, 100, 111, 117, 98, 108, 101]⟩] w fun e w' => e = .returned (.tuple #[.agg (Rp.cells zeroI), .int .i64 3]) ∧ Below w.heap.size w w' :=
  inParse_lit [100, 114, 97, 119, 32, 121, 111, 117, 32, 100, 111, 117, 98, 108, 101] none (by kernel_rfl) (by decide) w hl
theorem aliveI_t : Hid (rpText ⟨2, 0, zeroS, 7, 3, 0, 0⟩ = [101, 110, 116, 101, 114, 115, 32, 40, 115, 101, 108, 102, 41, 32, 119, 105, 116, 104, 32, 51, 32, 112, 108, 117, 115]) := Lib.hid (by kernel_rfl)
theorem aliveI_i : Hid (false = rpIs zeroI) := Lib.hid (by kernel_rfl)
set_option maxRecDepth 100000 in
set_option maxHeartbeats 4000000 in
theorem aliveI_any (w : World) (hl : LaidM w) : Calls Tryz.prog 9 #[] w fun e w' => e = .returned (.bool true) ∧ Below w.heap.size w w' := by
  have heq := fun wx : World => (eq_rp ⟨1, 1, zeroF, 1, 0, 0, 0⟩ ⟨1, 1, zeroI.f, 1, zeroI.n, zeroI.z, zeroI.c⟩ wx).trans (by rw [show rpEq ⟨1, 1, zeroF, 1, 0, 0, 0⟩ ⟨1, 1, zeroI.f, 1, zeroI.n, zeroI.z, zeroI.c⟩ = true by kernel_rfl])
  have hself : zeroS.self = 1 := rfl
  have hS := St.start hl keepsM
  go_enter Tryz.func9, Tryz.ntmps9
  go_wp2_with (first | (go_at_call 14; (with_reducible refine (St.call hS fun hl => aliveI_a _ hl).mono ?_); rintro e w ⟨rfl, hS⟩) | (go_at_call 14; (with_reducible refine (St.call hS fun hl => aliveI_b _ hl).mono ?_); rintro e w ⟨rfl, hS⟩) | (go_at_call 14; (with_reducible refine (St.call hS fun hl => aliveI_c _ hl).mono ?_); rintro e w ⟨rfl, hS⟩) | (go_at_call 12; (with_reducible refine (St.call hS fun hl => inText_is _ _ aliveI_t _ hl).mono ?_); rintro e w ⟨rfl, hS⟩) | (go_at_call 10; (with_reducible refine (St.call hS fun hl => inIs_is _ _ aliveI_i _ hl).mono ?_); rintro e w ⟨rfl, hS⟩) | ((with_reducible refine at_alloc ?_); (first | (refine wpList_new 27 rfl hS rfl _ rp_new ?_; intro g w hS)); (try simp only [Act.put, List.setIfInBounds_toArray, List.set_cons_zero, List.set_cons_succ])) | ((with_reducible refine rp_shape_ ?_); refine rp_bld_ rfl ?_; (try simp only [Act.put, List.setIfInBounds_toArray, List.set_cons_zero, List.set_cons_succ])) | ((with_reducible refine rp_shape_0_1_3 ?_); refine rp_bld_0_1_3 rfl rfl rfl rfl ?_; (try simp only [Act.put, List.setIfInBounds_toArray, List.set_cons_zero, List.set_cons_succ])) | ((with_reducible refine at_load ?_); (first | (refine rp_ldw rfl hS rfl rfl (by (first | exact .head | exact .tail .head | exact .tail (.tail .head) | exact .tail (.tail (.tail .head)) | exact .tail (.tail (.tail (.tail .head))) | fail)) ?_) | (refine rp_ld18 rfl hS rfl rfl (by (first | exact .head | exact .tail .head | exact .tail (.tail .head) | exact .tail (.tail (.tail .head)) | exact .tail (.tail (.tail (.tail .head))) | fail)) ?_) | (refine rp_ld19 rfl hS rfl rfl (by (first | exact .head | exact .tail .head | exact .tail (.tail .head) | exact .tail (.tail (.tail .head)) | exact .tail (.tail (.tail (.tail .head))) | fail)) ?_) | (refine rp_ldd4 rfl hS rfl rfl (by (first | exact .head | exact .tail .head | exact .tail (.tail .head) | exact .tail (.tail (.tail .head)) | exact .tail (.tail (.tail (.tail .head))) | fail)) ?_)); (try simp only [Act.put, List.setIfInBounds_toArray, List.set_cons_zero, List.set_cons_succ])) | ((with_reducible refine at_store ?_); (first | (refine rp_stw rfl hS rfl rfl rfl (by first | exact .head | exact .tail .head | exact .tail (.tail .head) | exact .tail (.tail (.tail .head)) | exact .tail (.tail (.tail (.tail .head))) | fail) ?_; intro w hS)); (try simp only [Act.put, List.setIfInBounds_toArray, List.set_cons_zero, List.set_cons_succ])))
  all_goals go_ret
  all_goals exact ⟨ret_bool (by simp), hS.below⟩
end Go.Proofs.YtlgelkbniogekaaGreatDoor
