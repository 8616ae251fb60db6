/- Walks: the reference of chapter 8: Is, cost, Text, PoolText. Conditions: Laid. Walks: the reference of chapter 8: Text, PoolText. Conditions: Laid. Walks: the reference of chapter 8: PoolText, coun -/
import Derived.Test.YtdnnbfbhifelkaaGreatDoorMEMem
import Derived.Test.YtdnnbfbhifelkaaGreatDoorQ7
import Derived.Test.YtdnnbfbhifelkaaGreatDoorQ4
import Derived.Test.YtdnnbfbhifelkaaGreatDoorQ5
import Derived.Test.YtdnnbfbhifelkaaGreatDoorMUE
import Derived.Test.YtdnnbfbhifelkaaGreatDoorQ9
import Derived.Test.YtdnnbfbhifelkaaGreatDoorQ3
set_option linter.all false
set_option maxRecDepth 100000
set_option maxHeartbeats 16000000
namespace Go.Proofs.YtdnnbfbhifelkaaGreatDoor
attribute [local irreducible] wpList Code.wp Calls
open Go.ChangeShapes Go.WideShapes Go.RowKit
theorem r08Is_any (c : Co) (w : World) (hl : Laid w) : Calls Tryz.prog 110 #[.agg c.cells] w fun e w' => e = .returned (.bool (coIs c)) ∧ Below w.heap.size w w' := by
 obtain ⟨g, x, c0, c1, c2, c3, c4⟩ := c
 have hS := St.start hl keepsL
 go_enter Tryz.func110, Tryz.ntmps110
 go_wp2_with (first | ((with_reducible refine loop_here ?_); refine wp_loop_rounds 6 ?_) | (with_reducible refine rounds_step ?_) | ((with_reducible refine at_guard ?_); (first | (refine wpList_pass rfl ?_) | ((fail_if_success refine wpList_wanted rfl ?_); refine wpList_ask _ _ rfl rfl (fun hb => ?_) (fun hb => ?_) <;> (first | (obtain rfl := eq_of_beq hb) | (simp only [hb])))); (try simp only [put0, put1, put2, put3, put4])) | ((with_reducible refine at_box ?_); (first | (refine wpList_box_agg rfl hS rfl rfl ?_; intro g w hS)); (try simp only [put0, put1, put2, put3, put4])) | ((with_reducible refine at_load ?_); (first | (refine cos_ld0 rfl hS rfl rfl (by repeat constructor) ?_) | (refine cos_ld1 rfl hS rfl rfl (by repeat constructor) ?_) | (refine cos_ld2 rfl hS rfl rfl (by repeat constructor) ?_) | (refine cos_ld3 rfl hS rfl rfl (by repeat constructor) ?_) | (refine cos_ld4 rfl hS rfl rfl (by repeat constructor) ?_) | (refine cos_ld5 rfl hS rfl rfl (by repeat constructor) ?_) | (refine cos_ld6 rfl hS rfl rfl (by repeat constructor) ?_)); (try simp only [put0, put1, put2, put3, put4])))
 all_goals (try (exfalso; simp only [decide_eq_false_iff_not] at *; omega))
 all_goals go_ret
 all_goals exact ⟨ret_bool (by rw [Bool.eq_iff_iff]; simp_all [coIs, in09C] <;> (intros; omega)), hS.below⟩
theorem r08Is_is (c : Co) (R : Bool) (h : Hid (coIs c = R)) (w : World) (hl : Laid w) : Calls Tryz.prog 110 #[.agg c.cells] w fun e w' => e = .returned (.bool R) ∧ Below w.heap.size w w' :=
 (r08Is_any c w hl).mono fun e w' h' => ⟨by rw [h'.1, h.out], h'.2⟩
theorem r08Cost_any (p : Po) (w : World) (hl : Laid w) : Calls Tryz.prog 63 #[.agg p.cells] w fun e w' => e = .returned (.agg (coOf p).cells) ∧ Below w.heap.size w w' := by
 obtain ⟨pg, c0, c1, c2, c3, c4⟩ := p
 have hS := St.start hl keepsL
 go_enter Tryz.func63, Tryz.ntmps63
 go_wp2_with (first | ((with_reducible refine loop_here ?_); refine wp_loop_rounds 6 ?_) | (with_reducible refine rounds_step ?_) | ((with_reducible refine at_box ?_); (first | (refine wpList_box_agg rfl hS rfl rfl ?_; intro g w hS)); (try simp only [put0, put1, put2, put3, put4])) | ((with_reducible refine at_alloc ?_); (first | (refine wpList_new 86 rfl hS rfl _ cos_new ?_; intro g w hS)); (try simp only [put0, put1, put2, put3, put4])) | ((with_reducible refine cos_shape_0 ?_); refine cos_bld_0 rfl rfl ?_; (try simp only [put0, put1, put2, put3, put4])) | ((with_reducible refine at_load ?_); (first | (refine cos_ldw rfl hS rfl rfl (by repeat constructor) ?_) | (refine pol_ld0 rfl hS rfl rfl (by repeat constructor) ?_) | (refine pol_ld1 rfl hS rfl rfl (by repeat constructor) ?_) | (refine pol_ld2 rfl hS rfl rfl (by repeat constructor) ?_) | (refine pol_ld3 rfl hS rfl rfl (by repeat constructor) ?_) | (refine pol_ld4 rfl hS rfl rfl (by repeat constructor) ?_) | (refine pol_ld5 rfl hS rfl rfl (by repeat constructor) ?_)); (try simp only [put0, put1, put2, put3, put4])) | ((with_reducible refine at_store ?_); (first | (refine cos_stw rfl hS rfl rfl rfl (by repeat constructor) ?_; intro w hS) | (refine cos_st2 rfl hS rfl rfl rfl (by repeat constructor) ?_; intro w hS) | (refine cos_st3 rfl hS rfl rfl rfl (by repeat constructor) ?_; intro w hS) | (refine cos_st4 rfl hS rfl rfl rfl (by repeat constructor) ?_; intro w hS) | (refine cos_st5 rfl hS rfl rfl rfl (by repeat constructor) ?_; intro w hS) | (refine cos_st6 rfl hS rfl rfl rfl (by repeat constructor) ?_; intro w hS)); (try simp only [put0, put1, put2, put3, put4])))
 all_goals (refine cos_res hS rfl rfl (by repeat constructor) rfl (fun hb => ⟨rfl, hb⟩))
def nthN (n0 n1 n2 n3 n4 : Nat) : Nat → Nat | 0 => n0 | 1 => n1 | 2 => n2 | 3 => n3 | _ => n4
def letN : Nat → UInt8 | 0 => 65 | 1 => 67 | 2 => 74 | 3 => 82 | _ => 69
def symsN (f : Nat → Nat) : Nat → Str | 0 => [] | i + 1 => symsN f i ++ List.replicate (f i) (letN i)
theorem r08Text_walk (c : Co) (h : coIs c = true) (T : Str) (HT : Hid (coText c = T)) (w0 : World) (hl : Laid w0) : Calls Tryz.prog 62 #[.agg c.cells] w0 fun e w' => e = .returned (.string (B T)) ∧ Below w0.heap.size w0 w' := by
 have HV := Lib.hid h
 have hT := HT.out
 simp only [coIs, in09C, Bool.and_eq_true, decide_eq_true_eq] at h
 obtain ⟨cg, cx, c0, c1, c2, c3, c4⟩ := c
 simp only at h
 obtain ⟨⟨a0, b0⟩, ⟨a1, b1⟩, ⟨a2, b2⟩, ⟨a3, b3⟩, ⟨a4, b4⟩, ag, bg, ax, bx⟩ := h
 obtain ⟨n0, rfl⟩ := Int.eq_ofNat_of_zero_le a0
 obtain ⟨n1, rfl⟩ := Int.eq_ofNat_of_zero_le a1
 obtain ⟨n2, rfl⟩ := Int.eq_ofNat_of_zero_le a2
 obtain ⟨n3, rfl⟩ := Int.eq_ofNat_of_zero_le a3
 obtain ⟨n4, rfl⟩ := Int.eq_ofNat_of_zero_le a4
 obtain ⟨nx, rfl⟩ := Int.eq_ofNat_of_zero_le ax
 have lg := itoa99_le cg (by omega) bg
 have hfin : symsN (nthN n0 n1 n2 n3 n4) 5 = coSyms ⟨cg, nx, n0, n1, n2, n3, n4⟩ := by simp [symsN, nthN, letN, coSyms, rep]
 have hbody : coText ⟨cg, nx, n0, n1, n2, n3, n4⟩ = if coBody ⟨cg, nx, n0, n1, n2, n3, n4⟩ = [] then [48] else coBody ⟨cg, nx, n0, n1, n2, n3, n4⟩ := by
  unfold coText
  rw [if_pos HV.out]
  by_cases hz : coEq ⟨cg, nx, n0, n1, n2, n3, n4⟩ zeroCo = true
  ·rw [if_pos hz, (coEq_iff _ _).1 hz, if_pos (by decide +kernel)]
  ·rw [if_neg hz, if_neg (body_ne HV.out (by simpa using hz))]
 have hS := St.start hl keepsL
 go_enter Tryz.func62, Tryz.ntmps62
 go_wp2_with (first | (go_at_call 110; refine c_call (fun hl => r08Is_is _ _ HV _ hl) hS ?_; clear hS; intro w hS) | refine s0 ?_ | (refine s2 ?_; clear hS; intro g w hS))
 go_loopw [3, 4] (fun sv iv wr => ∃ i : Nat, i ≤ nx ∧ iv = .int .i64 i ∧ sv = .string (B (List.replicate i 88)) ∧ Hid (St Laid w0 [(g, Co.cells ⟨cg, nx, n0, n1, n2, n3, n4⟩, 86)] wr)) (fun _ iv _ => nx - (intOf iv).toNat)
 case atStart => exact ⟨0, by omega, rfl, rfl, Lib.hid hS⟩
 case round =>
  clear hS
  obtain ⟨i, hi, rfl, rfl, HS⟩ := hrel
  have hS := HS.out
  clear HS
  have hlx : (List.replicate i (88 : UInt8)).length = i := by simp
  by_cases hlt : i < nx
  ·
   go_wp2_with (first | ((with_reducible refine at_cat ?_); refine wpList_cat rfl rfl rfl rfl (by simp only [List.length_cons, List.length_nil]; omega) ?_; (try simp only [put0, put1, put2, put3, put4])) | refine s0 ?_)
   go_roundw
   case rel => exact ⟨i + 1, by omega, by go_num, by rw [List.replicate_succ'], Lib.hid hS⟩
   case measure => simp [intOf]; omega
  ·obtain rfl : i = nx := by omega
   obtain ⟨PX, hPX⟩ : ∃ PX, List.replicate i (88 : UInt8) = PX := ⟨_, rfl⟩
   rw [hPX] at hlx ⊢
   obtain ⟨P, hP⟩ : ∃ P, PX ++ coNum cg = P := ⟨_, rfl⟩
   have hPl : P.length ≤ 1002 := by
    rw [← hP, List.length_append]; unfold coNum; split
    ·omega
    ·simp; omega
   have HP := Lib.hid (show rep 88 (i : Int) ++ coNum cg = P by rw [← hP, ← hPX]; simp [rep])
   obtain ⟨gz, hgz⟩ : ∃ b, (cg == 0) = b := ⟨_, rfl⟩
   have hcn : P = if gz = true then PX else PX ++ Lib.itoa cg := by
    rw [← hP, ← hgz]; unfold coNum
    by_cases h0 : cg = 0
    ·subst h0; simp
    ·rw [if_pos (by omega), if_neg (by simpa using h0)]
   clear hP hPX
   have HB := Lib.hid hbody
   have HF := Lib.hid hfin
   clear hbody hfin hT
   cases gz with
   | false =>
     have hcn : P = (PX ++ Lib.itoa cg) := hcn
     subst hcn
     go_wp2_with (first | ((with_reducible refine at_cat ?_); refine wpList_cat rfl rfl rfl rfl (by omega) ?_; (try simp only [put0, put1, put2, put3, put4])) | (go_at_call 111; refine c_call (fun hl => rText_any _ _ (by omega) (by omega)) hS ?_; clear hS; intro w hS) | refine s0 ?_)
     go_loopw [3, 5] (fun sv jv wr => ∃ j : Nat, ∃ Z : Str, j ≤ 5 ∧ jv = .int .i64 j ∧ sv = .string (B Z) ∧ Hid (Z = (PX ++ Lib.itoa cg) ++ symsN (nthN n0 n1 n2 n3 n4) j) ∧ Z.length ≤ 1002 + 9 * j ∧ Hid (St Laid w0 [(g, Co.cells ⟨cg, i, n0, n1, n2, n3, n4⟩, 86)] wr)) (fun _ jv _ => 5 - (intOf jv).toNat)
     case atStart => exact ⟨0, (PX ++ Lib.itoa cg), by omega, rfl, rfl, Lib.hid (by simp [symsN]), by omega, Lib.hid hS⟩
     case round =>
      clear hS
      obtain ⟨j, Z, hj, rfl, rfl, HZ, hZl, HS⟩ := hrel
      have hS := HS.out
      clear HS
      by_cases hj5 : j < 5
      ·have hjc : j = 0 ∨ j = 1 ∨ j = 2 ∨ j = 3 ∨ j = 4 := by omega
       rcases hjc with rfl | rfl | rfl | rfl | rfl
       ·have hE : (⟨#[65, 67, 74, 82, 69]⟩ : ByteArray).extract 0 1 = B [65] := by decide +kernel
        go_wp2_with (first | fail)
        go_loopw [3, 6] (fun sv kv wr => ∃ k : Nat, ∃ Y : Str, k ≤ n0 ∧ kv = .int .i64 k ∧ sv = .string (B Y) ∧ Hid (Y = Z ++ List.replicate k 65) ∧ Y.length ≤ Z.length + k ∧ Hid (St Laid w0 [(g, Co.cells ⟨cg, i, n0, n1, n2, n3, n4⟩, 86)] wr)) (fun _ kv _ => n0 - (intOf kv).toNat)
        case atStart => exact ⟨0, Z, by omega, rfl, rfl, Lib.hid (by simp), by omega, Lib.hid hS⟩
        case round =>
         clear hS
         obtain ⟨k, Y, hk, rfl, rfl, HY, hYl, HS⟩ := hrel
         have hS := HS.out
         clear HS
         by_cases hkn : k < n0
         ·
          go_wp2_with (first | ((with_reducible refine at_cat ?_); refine wpList_cat rfl rfl rfl rfl (by simp only [List.length_cons, List.length_nil]; omega) ?_; (try simp only [put0, put1, put2, put3, put4])) | refine s0 ?_)
          go_roundw
          case rel => exact ⟨k + 1, Y ++ [65], by omega, by go_num, rfl, Lib.hid (by rw [HY.out, List.replicate_succ', List.append_assoc]), by simp; omega, Lib.hid hS⟩
          case measure => simp [intOf]; omega
         ·obtain rfl : k = n0 := by omega
          go_wp2_with (first | refine s0 ?_)
          go_roundw
          case rel => exact ⟨1, Y, by omega, by go_num, rfl, Lib.hid (by rw [HY.out, HZ.out, List.append_assoc]; rfl), by omega, Lib.hid hS⟩
          case measure => simp [intOf]
       ·have hE : (⟨#[65, 67, 74, 82, 69]⟩ : ByteArray).extract 1 2 = B [67] := by decide +kernel
        go_wp2_with (first | fail)
        go_loopw [3, 6] (fun sv kv wr => ∃ k : Nat, ∃ Y : Str, k ≤ n1 ∧ kv = .int .i64 k ∧ sv = .string (B Y) ∧ Hid (Y = Z ++ List.replicate k 67) ∧ Y.length ≤ Z.length + k ∧ Hid (St Laid w0 [(g, Co.cells ⟨cg, i, n0, n1, n2, n3, n4⟩, 86)] wr)) (fun _ kv _ => n1 - (intOf kv).toNat)
        case atStart => exact ⟨0, Z, by omega, rfl, rfl, Lib.hid (by simp), by omega, Lib.hid hS⟩
        case round =>
         clear hS
         obtain ⟨k, Y, hk, rfl, rfl, HY, hYl, HS⟩ := hrel
         have hS := HS.out
         clear HS
         by_cases hkn : k < n1
         ·
          go_wp2_with (first | ((with_reducible refine at_cat ?_); refine wpList_cat rfl rfl rfl rfl (by simp only [List.length_cons, List.length_nil]; omega) ?_; (try simp only [put0, put1, put2, put3, put4])) | refine s0 ?_)
          go_roundw
          case rel => exact ⟨k + 1, Y ++ [67], by omega, by go_num, rfl, Lib.hid (by rw [HY.out, List.replicate_succ', List.append_assoc]), by simp; omega, Lib.hid hS⟩
          case measure => simp [intOf]; omega
         ·obtain rfl : k = n1 := by omega
          go_wp2_with (first | refine s0 ?_)
          go_roundw
          case rel => exact ⟨2, Y, by omega, by go_num, rfl, Lib.hid (by rw [HY.out, HZ.out, List.append_assoc]; rfl), by omega, Lib.hid hS⟩
          case measure => simp [intOf]
       ·have hE : (⟨#[65, 67, 74, 82, 69]⟩ : ByteArray).extract 2 3 = B [74] := by decide +kernel
        go_wp2_with (first | fail)
        go_loopw [3, 6] (fun sv kv wr => ∃ k : Nat, ∃ Y : Str, k ≤ n2 ∧ kv = .int .i64 k ∧ sv = .string (B Y) ∧ Hid (Y = Z ++ List.replicate k 74) ∧ Y.length ≤ Z.length + k ∧ Hid (St Laid w0 [(g, Co.cells ⟨cg, i, n0, n1, n2, n3, n4⟩, 86)] wr)) (fun _ kv _ => n2 - (intOf kv).toNat)
        case atStart => exact ⟨0, Z, by omega, rfl, rfl, Lib.hid (by simp), by omega, Lib.hid hS⟩
        case round =>
         clear hS
         obtain ⟨k, Y, hk, rfl, rfl, HY, hYl, HS⟩ := hrel
         have hS := HS.out
         clear HS
         by_cases hkn : k < n2
         ·
          go_wp2_with (first | ((with_reducible refine at_cat ?_); refine wpList_cat rfl rfl rfl rfl (by simp only [List.length_cons, List.length_nil]; omega) ?_; (try simp only [put0, put1, put2, put3, put4])) | refine s0 ?_)
          go_roundw
          case rel => exact ⟨k + 1, Y ++ [74], by omega, by go_num, rfl, Lib.hid (by rw [HY.out, List.replicate_succ', List.append_assoc]), by simp; omega, Lib.hid hS⟩
          case measure => simp [intOf]; omega
         ·obtain rfl : k = n2 := by omega
          go_wp2_with (first | refine s0 ?_)
          go_roundw
          case rel => exact ⟨3, Y, by omega, by go_num, rfl, Lib.hid (by rw [HY.out, HZ.out, List.append_assoc]; rfl), by omega, Lib.hid hS⟩
          case measure => simp [intOf]
       ·have hE : (⟨#[65, 67, 74, 82, 69]⟩ : ByteArray).extract 3 4 = B [82] := by decide +kernel
        go_wp2_with (first | fail)
        go_loopw [3, 6] (fun sv kv wr => ∃ k : Nat, ∃ Y : Str, k ≤ n3 ∧ kv = .int .i64 k ∧ sv = .string (B Y) ∧ Hid (Y = Z ++ List.replicate k 82) ∧ Y.length ≤ Z.length + k ∧ Hid (St Laid w0 [(g, Co.cells ⟨cg, i, n0, n1, n2, n3, n4⟩, 86)] wr)) (fun _ kv _ => n3 - (intOf kv).toNat)
        case atStart => exact ⟨0, Z, by omega, rfl, rfl, Lib.hid (by simp), by omega, Lib.hid hS⟩
        case round =>
         clear hS
         obtain ⟨k, Y, hk, rfl, rfl, HY, hYl, HS⟩ := hrel
         have hS := HS.out
         clear HS
         by_cases hkn : k < n3
         ·
          go_wp2_with (first | ((with_reducible refine at_cat ?_); refine wpList_cat rfl rfl rfl rfl (by simp only [List.length_cons, List.length_nil]; omega) ?_; (try simp only [put0, put1, put2, put3, put4])) | refine s0 ?_)
          go_roundw
          case rel => exact ⟨k + 1, Y ++ [82], by omega, by go_num, rfl, Lib.hid (by rw [HY.out, List.replicate_succ', List.append_assoc]), by simp; omega, Lib.hid hS⟩
          case measure => simp [intOf]; omega
         ·obtain rfl : k = n3 := by omega
          go_wp2_with (first | refine s0 ?_)
          go_roundw
          case rel => exact ⟨4, Y, by omega, by go_num, rfl, Lib.hid (by rw [HY.out, HZ.out, List.append_assoc]; rfl), by omega, Lib.hid hS⟩
          case measure => simp [intOf]
       ·have hE : (⟨#[65, 67, 74, 82, 69]⟩ : ByteArray).extract 4 5 = B [69] := by decide +kernel
        go_wp2_with (first | fail)
        go_loopw [3, 6] (fun sv kv wr => ∃ k : Nat, ∃ Y : Str, k ≤ n4 ∧ kv = .int .i64 k ∧ sv = .string (B Y) ∧ Hid (Y = Z ++ List.replicate k 69) ∧ Y.length ≤ Z.length + k ∧ Hid (St Laid w0 [(g, Co.cells ⟨cg, i, n0, n1, n2, n3, n4⟩, 86)] wr)) (fun _ kv _ => n4 - (intOf kv).toNat)
        case atStart => exact ⟨0, Z, by omega, rfl, rfl, Lib.hid (by simp), by omega, Lib.hid hS⟩
        case round =>
         clear hS
         obtain ⟨k, Y, hk, rfl, rfl, HY, hYl, HS⟩ := hrel
         have hS := HS.out
         clear HS
         by_cases hkn : k < n4
         ·
          go_wp2_with (first | ((with_reducible refine at_cat ?_); refine wpList_cat rfl rfl rfl rfl (by simp only [List.length_cons, List.length_nil]; omega) ?_; (try simp only [put0, put1, put2, put3, put4])) | refine s0 ?_)
          go_roundw
          case rel => exact ⟨k + 1, Y ++ [69], by omega, by go_num, rfl, Lib.hid (by rw [HY.out, List.replicate_succ', List.append_assoc]), by simp; omega, Lib.hid hS⟩
          case measure => simp [intOf]; omega
         ·obtain rfl : k = n4 := by omega
          go_wp2_with (first | refine s0 ?_)
          go_roundw
          case rel => exact ⟨5, Y, by omega, by go_num, rfl, Lib.hid (by rw [HY.out, HZ.out, List.append_assoc]; rfl), by omega, Lib.hid hS⟩
          case measure => simp [intOf]
      ·obtain rfl : j = 5 := by omega
       have hZ : Z = coBody ⟨cg, i, n0, n1, n2, n3, n4⟩ := by
        rw [HZ.out, HF.out]; unfold coBody; rw [← List.append_assoc, HP.out]
       rw [HB.out, ← hZ] at HT
       clear hZ
       by_cases hz : Z = []
       ·have HT2 := HT.out
        rw [if_pos hz] at HT2
        subst hz HT2
        go_wp2_with (first | fail)
        all_goals go_ret
        all_goals exact ⟨rfl, hS.below⟩
       ·have HT2 := HT.out
        rw [if_neg hz] at HT2
        subst HT2
        have h1 : (Z == []) = false := by simpa using hz
        clear HB HF HP
        go_wp2_with (first | fail)
        all_goals go_ret
        all_goals exact ⟨rfl, hS.below⟩
   | true =>
     obtain rfl : PX = P := hcn.symm
     obtain rfl : cg = 0 := by simpa using hgz
     go_wp2_with (first | refine s0 ?_)
     go_loopw [3, 5] (fun sv jv wr => ∃ j : Nat, ∃ Z : Str, j ≤ 5 ∧ jv = .int .i64 j ∧ sv = .string (B Z) ∧ Hid (Z = PX ++ symsN (nthN n0 n1 n2 n3 n4) j) ∧ Z.length ≤ 1002 + 9 * j ∧ Hid (St Laid w0 [(g, Co.cells ⟨0, i, n0, n1, n2, n3, n4⟩, 86)] wr)) (fun _ jv _ => 5 - (intOf jv).toNat)
     case atStart => exact ⟨0, PX, by omega, rfl, rfl, Lib.hid (by simp [symsN]), by omega, Lib.hid hS⟩
     case round =>
      clear hS
      obtain ⟨j, Z, hj, rfl, rfl, HZ, hZl, HS⟩ := hrel
      have hS := HS.out
      clear HS
      by_cases hj5 : j < 5
      ·have hjc : j = 0 ∨ j = 1 ∨ j = 2 ∨ j = 3 ∨ j = 4 := by omega
       rcases hjc with rfl | rfl | rfl | rfl | rfl
       ·have hE : (⟨#[65, 67, 74, 82, 69]⟩ : ByteArray).extract 0 1 = B [65] := by decide +kernel
        go_wp2_with (first | fail)
        go_loopw [3, 6] (fun sv kv wr => ∃ k : Nat, ∃ Y : Str, k ≤ n0 ∧ kv = .int .i64 k ∧ sv = .string (B Y) ∧ Hid (Y = Z ++ List.replicate k 65) ∧ Y.length ≤ Z.length + k ∧ Hid (St Laid w0 [(g, Co.cells ⟨0, i, n0, n1, n2, n3, n4⟩, 86)] wr)) (fun _ kv _ => n0 - (intOf kv).toNat)
        case atStart => exact ⟨0, Z, by omega, rfl, rfl, Lib.hid (by simp), by omega, Lib.hid hS⟩
        case round =>
         clear hS
         obtain ⟨k, Y, hk, rfl, rfl, HY, hYl, HS⟩ := hrel
         have hS := HS.out
         clear HS
         by_cases hkn : k < n0
         ·
          go_wp2_with (first | ((with_reducible refine at_cat ?_); refine wpList_cat rfl rfl rfl rfl (by simp only [List.length_cons, List.length_nil]; omega) ?_; (try simp only [put0, put1, put2, put3, put4])) | refine s0 ?_)
          go_roundw
          case rel => exact ⟨k + 1, Y ++ [65], by omega, by go_num, rfl, Lib.hid (by rw [HY.out, List.replicate_succ', List.append_assoc]), by simp; omega, Lib.hid hS⟩
          case measure => simp [intOf]; omega
         ·obtain rfl : k = n0 := by omega
          go_wp2_with (first | refine s0 ?_)
          go_roundw
          case rel => exact ⟨1, Y, by omega, by go_num, rfl, Lib.hid (by rw [HY.out, HZ.out, List.append_assoc]; rfl), by omega, Lib.hid hS⟩
          case measure => simp [intOf]
       ·have hE : (⟨#[65, 67, 74, 82, 69]⟩ : ByteArray).extract 1 2 = B [67] := by decide +kernel
        go_wp2_with (first | fail)
        go_loopw [3, 6] (fun sv kv wr => ∃ k : Nat, ∃ Y : Str, k ≤ n1 ∧ kv = .int .i64 k ∧ sv = .string (B Y) ∧ Hid (Y = Z ++ List.replicate k 67) ∧ Y.length ≤ Z.length + k ∧ Hid (St Laid w0 [(g, Co.cells ⟨0, i, n0, n1, n2, n3, n4⟩, 86)] wr)) (fun _ kv _ => n1 - (intOf kv).toNat)
        case atStart => exact ⟨0, Z, by omega, rfl, rfl, Lib.hid (by simp), by omega, Lib.hid hS⟩
        case round =>
         clear hS
         obtain ⟨k, Y, hk, rfl, rfl, HY, hYl, HS⟩ := hrel
         have hS := HS.out
         clear HS
         by_cases hkn : k < n1
         ·
          go_wp2_with (first | ((with_reducible refine at_cat ?_); refine wpList_cat rfl rfl rfl rfl (by simp only [List.length_cons, List.length_nil]; omega) ?_; (try simp only [put0, put1, put2, put3, put4])) | refine s0 ?_)
          go_roundw
          case rel => exact ⟨k + 1, Y ++ [67], by omega, by go_num, rfl, Lib.hid (by rw [HY.out, List.replicate_succ', List.append_assoc]), by simp; omega, Lib.hid hS⟩
          case measure => simp [intOf]; omega
         ·obtain rfl : k = n1 := by omega
          go_wp2_with (first | refine s0 ?_)
          go_roundw
          case rel => exact ⟨2, Y, by omega, by go_num, rfl, Lib.hid (by rw [HY.out, HZ.out, List.append_assoc]; rfl), by omega, Lib.hid hS⟩
          case measure => simp [intOf]
       ·have hE : (⟨#[65, 67, 74, 82, 69]⟩ : ByteArray).extract 2 3 = B [74] := by decide +kernel
        go_wp2_with (first | fail)
        go_loopw [3, 6] (fun sv kv wr => ∃ k : Nat, ∃ Y : Str, k ≤ n2 ∧ kv = .int .i64 k ∧ sv = .string (B Y) ∧ Hid (Y = Z ++ List.replicate k 74) ∧ Y.length ≤ Z.length + k ∧ Hid (St Laid w0 [(g, Co.cells ⟨0, i, n0, n1, n2, n3, n4⟩, 86)] wr)) (fun _ kv _ => n2 - (intOf kv).toNat)
        case atStart => exact ⟨0, Z, by omega, rfl, rfl, Lib.hid (by simp), by omega, Lib.hid hS⟩
        case round =>
         clear hS
         obtain ⟨k, Y, hk, rfl, rfl, HY, hYl, HS⟩ := hrel
         have hS := HS.out
         clear HS
         by_cases hkn : k < n2
         ·
          go_wp2_with (first | ((with_reducible refine at_cat ?_); refine wpList_cat rfl rfl rfl rfl (by simp only [List.length_cons, List.length_nil]; omega) ?_; (try simp only [put0, put1, put2, put3, put4])) | refine s0 ?_)
          go_roundw
          case rel => exact ⟨k + 1, Y ++ [74], by omega, by go_num, rfl, Lib.hid (by rw [HY.out, List.replicate_succ', List.append_assoc]), by simp; omega, Lib.hid hS⟩
          case measure => simp [intOf]; omega
         ·obtain rfl : k = n2 := by omega
          go_wp2_with (first | refine s0 ?_)
          go_roundw
          case rel => exact ⟨3, Y, by omega, by go_num, rfl, Lib.hid (by rw [HY.out, HZ.out, List.append_assoc]; rfl), by omega, Lib.hid hS⟩
          case measure => simp [intOf]
       ·have hE : (⟨#[65, 67, 74, 82, 69]⟩ : ByteArray).extract 3 4 = B [82] := by decide +kernel
        go_wp2_with (first | fail)
        go_loopw [3, 6] (fun sv kv wr => ∃ k : Nat, ∃ Y : Str, k ≤ n3 ∧ kv = .int .i64 k ∧ sv = .string (B Y) ∧ Hid (Y = Z ++ List.replicate k 82) ∧ Y.length ≤ Z.length + k ∧ Hid (St Laid w0 [(g, Co.cells ⟨0, i, n0, n1, n2, n3, n4⟩, 86)] wr)) (fun _ kv _ => n3 - (intOf kv).toNat)
        case atStart => exact ⟨0, Z, by omega, rfl, rfl, Lib.hid (by simp), by omega, Lib.hid hS⟩
        case round =>
         clear hS
         obtain ⟨k, Y, hk, rfl, rfl, HY, hYl, HS⟩ := hrel
         have hS := HS.out
         clear HS
         by_cases hkn : k < n3
         ·
          go_wp2_with (first | ((with_reducible refine at_cat ?_); refine wpList_cat rfl rfl rfl rfl (by simp only [List.length_cons, List.length_nil]; omega) ?_; (try simp only [put0, put1, put2, put3, put4])) | refine s0 ?_)
          go_roundw
          case rel => exact ⟨k + 1, Y ++ [82], by omega, by go_num, rfl, Lib.hid (by rw [HY.out, List.replicate_succ', List.append_assoc]), by simp; omega, Lib.hid hS⟩
          case measure => simp [intOf]; omega
         ·obtain rfl : k = n3 := by omega
          go_wp2_with (first | refine s0 ?_)
          go_roundw
          case rel => exact ⟨4, Y, by omega, by go_num, rfl, Lib.hid (by rw [HY.out, HZ.out, List.append_assoc]; rfl), by omega, Lib.hid hS⟩
          case measure => simp [intOf]
       ·have hE : (⟨#[65, 67, 74, 82, 69]⟩ : ByteArray).extract 4 5 = B [69] := by decide +kernel
        go_wp2_with (first | fail)
        go_loopw [3, 6] (fun sv kv wr => ∃ k : Nat, ∃ Y : Str, k ≤ n4 ∧ kv = .int .i64 k ∧ sv = .string (B Y) ∧ Hid (Y = Z ++ List.replicate k 69) ∧ Y.length ≤ Z.length + k ∧ Hid (St Laid w0 [(g, Co.cells ⟨0, i, n0, n1, n2, n3, n4⟩, 86)] wr)) (fun _ kv _ => n4 - (intOf kv).toNat)
        case atStart => exact ⟨0, Z, by omega, rfl, rfl, Lib.hid (by simp), by omega, Lib.hid hS⟩
        case round =>
         clear hS
         obtain ⟨k, Y, hk, rfl, rfl, HY, hYl, HS⟩ := hrel
         have hS := HS.out
         clear HS
         by_cases hkn : k < n4
         ·
          go_wp2_with (first | ((with_reducible refine at_cat ?_); refine wpList_cat rfl rfl rfl rfl (by simp only [List.length_cons, List.length_nil]; omega) ?_; (try simp only [put0, put1, put2, put3, put4])) | refine s0 ?_)
          go_roundw
          case rel => exact ⟨k + 1, Y ++ [69], by omega, by go_num, rfl, Lib.hid (by rw [HY.out, List.replicate_succ', List.append_assoc]), by simp; omega, Lib.hid hS⟩
          case measure => simp [intOf]; omega
         ·obtain rfl : k = n4 := by omega
          go_wp2_with (first | refine s0 ?_)
          go_roundw
          case rel => exact ⟨5, Y, by omega, by go_num, rfl, Lib.hid (by rw [HY.out, HZ.out, List.append_assoc]; rfl), by omega, Lib.hid hS⟩
          case measure => simp [intOf]
      ·obtain rfl : j = 5 := by omega
       have hZ : Z = coBody ⟨0, i, n0, n1, n2, n3, n4⟩ := by
        rw [HZ.out, HF.out]; unfold coBody; rw [← List.append_assoc, HP.out]
       rw [HB.out, ← hZ] at HT
       clear hZ
       by_cases hz : Z = []
       ·have HT2 := HT.out
        rw [if_pos hz] at HT2
        subst hz HT2
        go_wp2_with (first | fail)
        all_goals go_ret
        all_goals exact ⟨rfl, hS.below⟩
       ·have HT2 := HT.out
        rw [if_neg hz] at HT2
        subst HT2
        have h1 : (Z == []) = false := by simpa using hz
        clear HB HF HP
        go_wp2_with (first | fail)
        all_goals go_ret
        all_goals exact ⟨rfl, hS.below⟩
theorem r08Text_is (c : Co) (T : Str) (HT : Hid (coText c = T)) (w : World) (hl : Laid w) : Calls Tryz.prog 62 #[.agg c.cells] w fun e w' => e = .returned (.string (B T)) ∧ Below w.heap.size w w' := by
 cases hv : coIs c with
 | true => exact r08Text_walk c hv T HT w hl
 | false =>
   have HV := Lib.hid hv
   obtain rfl : T = [] := by rw [← HT.out, coText_no hv]
   clear HT hv
   have hS := St.start hl keepsL
   go_enter Tryz.func62, Tryz.ntmps62
   go_wp2_with (first | (go_at_call 110; refine c_call (fun hl => r08Is_is _ _ HV _ hl) hS ?_; clear hS; intro w hS) | refine s0 ?_ | (refine s2 ?_; clear hS; intro g w hS))
   all_goals go_ret
   all_goals exact ⟨rfl, hS.below⟩
theorem r08PoolText_is (p : Po) (T : Str) (HT : Hid (poText p = T)) (w : World) (hl : Laid w) : Calls Tryz.prog 36 #[.agg p.cells] w fun e w' => e = .returned (.string (B T)) ∧ Below w.heap.size w w' := by
 have HT : Hid (coText (coOf p) = T) := HT
 have hS := St.start hl keepsL
 go_enter Tryz.func36, Tryz.ntmps36
 go_wp2_with (first | (go_at_call 63; (with_reducible refine (St.call hS fun hl => r08Cost_any _ _ hl).mono ?_); rintro e w ⟨rfl, hS⟩) | (go_at_call 62; (with_reducible refine (St.call hS fun hl => r08Text_is _ _ HT _ hl).mono ?_); rintro e w ⟨rfl, hS⟩) | ((with_reducible refine at_box ?_); (first | (refine wpList_box_agg rfl hS rfl rfl ?_; intro g w hS)); (try simp only [put0, put1, put2, put3, put4])) | ((with_reducible refine at_load ?_); (first | (refine pol_ldw rfl hS rfl rfl (by repeat constructor) ?_)); (try simp only [put0, put1, put2, put3, put4])))
 all_goals go_ret
 all_goals exact ⟨rfl, hS.below⟩
structure Small (c : Co) (n : Int) : Prop where
 x : 0 ≤ c.x ∧ c.x ≤ n
 c0 : 0 ≤ c.c0 ∧ c.c0 ≤ n
 c1 : 0 ≤ c.c1 ∧ c.c1 ≤ n
 c2 : 0 ≤ c.c2 ∧ c.c2 ≤ n
 c3 : 0 ≤ c.c3 ∧ c.c3 ≤ n
 c4 : 0 ≤ c.c4 ∧ c.c4 ≤ n
 g : 0 ≤ c.g ∧ c.g ≤ 99
theorem Small.step {c d : Co} {b : UInt8} {n : Int} (h : Small c n) (hc : cntC c b = some d) (hg : d.g ≤ 99) : Small d (n + 1) := by
 obtain ⟨a1, a2, a3, a4, a5, a6, a7⟩ := cntC_small hc h.x h.c0 h.c1 h.c2 h.c3 h.c4 h.g.1
 exact ⟨a1, a2, a3, a4, a5, a6, a7, hg⟩
end Go.Proofs.YtdnnbfbhifelkaaGreatDoor
