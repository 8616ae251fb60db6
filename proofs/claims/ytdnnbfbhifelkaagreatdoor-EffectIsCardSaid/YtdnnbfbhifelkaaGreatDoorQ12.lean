/- Walks: chapter 17's reference: Word. Conditions: none. Walks: chapter 17's reference: ZoneName. Conditions: none. Walks: the reference of chapter 17: Uses, uses, mods, filter, inner. Conditions: La -/
import Derived.Test.YtdnnbfbhifelkaaGreatDoorQ7
import Derived.Test.YtdnnbfbhifelkaaGreatDoorQ3
import Derived.Test.YtdnnbfbhifelkaaGreatDoorMEParse
import Derived.Test.YtdnnbfbhifelkaaGreatDoorQ4
import Derived.Test.YtdnnbfbhifelkaaGreatDoorQ10
import Derived.Test.YtdnnbfbhifelkaaGreatDoorQ11
import Derived.Deep.DeepCutAuto
import Derived.Test.YtdnnbfbhifelkaaGreatDoorQ8
set_option linter.all false
set_option maxRecDepth 100000
set_option maxHeartbeats 16000000
namespace Go.Proofs.YtdnnbfbhifelkaaGreatDoor
attribute [local irreducible] wpList Code.wp Calls
open Go.ChangeShapes Go.WideShapes Go.RowKit
theorem r17Word_any (op : Int) (w : World) : Calls Tryz.prog 29 #[.int .i64 op] w fun e w' => e = .returned (.string (B (opName op))) ∧ Below w.heap.size w w' := by
 by_cases h : 1 ≤ op ∧ op ≤ 26
 ·obtain ⟨k, hk⟩ : ∃ k : Nat, op = k := ⟨op.toNat, by omega⟩
  subst hk
  have hc : k = 1 ∨ k = 2 ∨ k = 3 ∨ k = 4 ∨ k = 5 ∨ k = 6 ∨ k = 7 ∨ k = 8 ∨ k = 9 ∨ k = 10 ∨ k = 11 ∨ k = 12 ∨ k = 13 ∨ k = 14 ∨ k = 15 ∨ k = 16 ∨ k = 17 ∨ k = 18 ∨ k = 19 ∨ k = 20 ∨ k = 21 ∨ k = 22 ∨ k = 23 ∨ k = 24 ∨ k = 25 ∨ k = 26 := by omega
  clear h
  rcases hc with rfl | rfl | rfl | rfl | rfl | rfl | rfl | rfl | rfl | rfl | rfl | rfl | rfl | rfl | rfl | rfl | rfl | rfl | rfl | rfl | rfl | rfl | rfl | rfl | rfl | rfl
  all_goals
   have k0 := Lib.hid (Below.refl w.heap.size w)
   go_enter Tryz.func29, Tryz.ntmps29
   go_wp2
   go_ret
   first | exact ⟨rfl, (k0.out.alloc (Nat.le_refl _) _)⟩ | exact ⟨rfl, k0.out⟩
 ·have HR : Hid (opName op = []) := Lib.hid (by
   unfold opName
   by_cases h2 : 0 ≤ op ∧ op ≤ 26
   ·obtain rfl : op = 0 := by omega
    rfl
   ·rw [if_neg h2])
  have hc : op < 0 ∨ (0 ≤ op ∧ op = 0) ∨ (0 ≤ op ∧ 26 < op) := by omega
  clear h
  generalize opName op = R at *
  rcases hc with hc | ⟨hc, rfl⟩ | ⟨hc, hd⟩
  all_goals
   go_enter Tryz.func29, Tryz.ntmps29
   go_wp2
   go_ret
   first | exact ⟨ret_str (by rw [HR.out]; rfl), (Below.refl _ _).alloc (Nat.le_refl _) _⟩ | exact ⟨ret_str (by rw [HR.out]; rfl), Below.refl _ _⟩
end Go.Proofs.YtdnnbfbhifelkaaGreatDoor
namespace Go.Proofs.YtdnnbfbhifelkaaGreatDoor
attribute [local irreducible] wpList Code.wp
open Go.ChangeShapes Go.WideShapes Go.RowKit
theorem r17Zone_any (z : Int) (w : World) : Calls Tryz.prog 16 #[.int .i64 z] w fun e w' => e = .returned (.string (B (zoneName z))) ∧ Below w.heap.size w w' := by
 by_cases h0 : z = 0
 ·subst h0
  have k0 := Lib.hid (Below.refl w.heap.size w)
  go_enter Tryz.func16, Tryz.ntmps16
  go_wp2
  go_ret
  exact ⟨rfl, (k0.out.alloc (Nat.le_refl _) _)⟩
 by_cases h1 : z = 1
 ·subst h1
  have k0 := Lib.hid (Below.refl w.heap.size w)
  go_enter Tryz.func16, Tryz.ntmps16
  go_wp2
  go_ret
  exact ⟨rfl, (k0.out.alloc (Nat.le_refl _) _)⟩
 by_cases h2 : z = 2
 ·subst h2
  have k0 := Lib.hid (Below.refl w.heap.size w)
  go_enter Tryz.func16, Tryz.ntmps16
  go_wp2
  go_ret
  exact ⟨rfl, (k0.out.alloc (Nat.le_refl _) _)⟩
 by_cases h3 : z = 3
 ·subst h3
  have k0 := Lib.hid (Below.refl w.heap.size w)
  go_enter Tryz.func16, Tryz.ntmps16
  go_wp2
  go_ret
  exact ⟨rfl, (k0.out.alloc (Nat.le_refl _) _)⟩
 by_cases h4 : z = 4
 ·subst h4
  have k0 := Lib.hid (Below.refl w.heap.size w)
  go_enter Tryz.func16, Tryz.ntmps16
  go_wp2
  go_ret
  exact ⟨rfl, (k0.out.alloc (Nat.le_refl _) _)⟩
 by_cases h5 : z = 5
 ·subst h5
  have k0 := Lib.hid (Below.refl w.heap.size w)
  go_enter Tryz.func16, Tryz.ntmps16
  go_wp2
  go_ret
  exact ⟨rfl, (k0.out.alloc (Nat.le_refl _) _)⟩
 ·have HR : Hid (zoneName z = []) := Lib.hid (by unfold zoneName; rw [if_neg h0, if_neg h1, if_neg h2, if_neg h3, if_neg h4, if_neg h5])
  have hc : z < 0 ∨ (0 ≤ z ∧ 5 < z) := by omega
  clear h0 h1 h2 h3 h4 h5
  generalize zoneName z = R at *
  rcases hc with hc | ⟨hc, hd⟩
  all_goals
   go_enter Tryz.func16, Tryz.ntmps16
   go_wp2
   go_ret
   exact ⟨ret_str (by rw [HR.out]; rfl), Below.refl _ _⟩
end Go.Proofs.YtdnnbfbhifelkaaGreatDoor
namespace Go.Proofs.YtdnnbfbhifelkaaGreatDoor
attribute [local irreducible] wpList Code.wp Calls
open Go.ChangeShapes Go.WideShapes Go.RowKit
theorem op_cases {op : Int} (h : 1 ≤ op ∧ op ≤ 26) : ∃ k : Nat, op = k ∧ (k = 1 ∨ k = 2 ∨ k = 3 ∨ k = 4 ∨ k = 5 ∨ k = 6 ∨ k = 7 ∨ k = 8 ∨ k = 9 ∨ k = 10 ∨ k = 11 ∨ k = 12 ∨ k = 13 ∨ k = 14 ∨ k = 15 ∨ k = 16 ∨ k = 17 ∨ k = 18 ∨ k = 19 ∨ k = 20 ∨ k = 21 ∨ k = 22 ∨ k = 23 ∨ k = 24 ∨ k = 25 ∨ k = 26) := ⟨op.toNat, by omega, by omega⟩
theorem r17Uses_any (op : Int) (h : 1 ≤ op ∧ op ≤ 26) (w : World) : Calls Tryz.prog 46 #[.int .i64 op] w fun e w' => e = .returned (.string (B (usesS op))) ∧ w = w' := by
 obtain ⟨k, rfl, hc⟩ := op_cases h
 clear h
 rcases hc with rfl | rfl | rfl | rfl | rfl | rfl | rfl | rfl | rfl | rfl | rfl | rfl | rfl | rfl | rfl | rfl | rfl | rfl | rfl | rfl | rfl | rfl | rfl | rfl | rfl | rfl
 all_goals
  go_enter Tryz.func46, Tryz.ntmps46
  go_wp2
  go_ret
  exact ⟨rfl, rfl⟩
theorem r17Uses_is (op : Int) (h : 1 ≤ op ∧ op ≤ 26) (U : Str) (HU : Hid (usesS op = U)) (w : World) : Calls Tryz.prog 46 #[.int .i64 op] w fun e w' => e = .returned (.string (B U)) ∧ w = w' :=
 (r17Uses_any op h w).mono fun e w' h' => ⟨h'.1.trans (by rw [HU.out]), h'.2⟩
theorem uses_len {op : Int} (h : 1 ≤ op ∧ op ≤ 26) : (usesS op).length ≤ 3 := by
 obtain ⟨k, rfl, hc⟩ := op_cases h
 rcases hc with rfl | rfl | rfl | rfl | rfl | rfl | rfl | rfl | rfl | rfl | rfl | rfl | rfl | rfl | rfl | rfl | rfl | rfl | rfl | rfl | rfl | rfl | rfl | rfl | rfl | rfl <;> decide
theorem takeU_any {U : Str} {k : Nat} (hk : k < U.length) (p : UInt8 → Bool) : (U.take (k + 1)).any p = ((U.take k).any p || p U[k]) := by
 rw [List.take_succ, List.getElem?_eq_getElem hk, List.any_append]; simp
theorem any_at {U : Str} {k : Nat} (hk : k < U.length) (p : UInt8 → Bool) (h : p U[k] = true) : U.any p = true := List.any_eq_true.2 ⟨_, List.getElem_mem hk, h⟩
theorem r17uses_any (op : Int) (hop : 1 ≤ op ∧ op ≤ 26) (n : Nat) (hn : n < 256) (b : Bool) (HB : Hid (((usesS op).any fun c => c.toNat == n) = b)) (w0 : World) (hl : Laid w0) : Calls Tryz.prog 30 #[.int .i64 op, .int .u8 (n : Int)] w0 fun e w' => e = .returned (.bool b) ∧ Below w0.heap.size w0 w' := by
 have hlen := uses_len hop
 have HOP := Lib.hid hop
 obtain ⟨U, hU⟩ : ∃ U, usesS op = U := ⟨_, rfl⟩
 rw [hU] at hlen HB
 have HU := Lib.hid hU
 clear hU hop
 have hsz : (B U).size = U.length := B_size U
 have hgt := get_l (B U)
 rw [L_B] at hgt
 have hS := St.start hl keepsL
 go_enter Tryz.func30, Tryz.ntmps30
 go_wp2_with (first | (go_at_call 46; (with_reducible refine (St.still hS fun hl => r17Uses_is _ HOP.out _ HU _).mono ?_); rintro e w ⟨rfl, hS⟩))
 go_loopw [6] (fun iv wr => ∃ k : Nat, k ≤ U.length ∧ iv = .int .i64 k ∧ Hid (((U.take k).any fun c => c.toNat == n) = false) ∧ Hid (St Laid w0 [] wr)) (fun iv _ => U.length - (intOf iv).toNat)
 case atStart => exact ⟨0, by omega, rfl, Lib.hid rfl, Lib.hid hS⟩
 case round =>
  clear hS
  obtain ⟨k, hk, rfl, HK, HS⟩ := hrel
  have hS := HS.out
  clear HS
  by_cases hlt : k < U.length
  ·have hbt := byt_at' hlt
   cases hq : ((U[k]).toNat == n) with
   | true =>
     obtain rfl : b = true := by rw [← HB.out]; exact any_at hlt (fun c => c.toNat == n) hq
     have ht : (((byt U k : Nat) : Int) == (n : Int)) = true := by rw [hbt]; rw [beq_iff_eq] at hq ⊢; omega
     clear hq hbt
     go_wp2_with (first | fail)
     all_goals go_ret
     all_goals exact ⟨rfl, hS.below⟩
   | false =>
     have HN : Hid (((U.take (k + 1)).any fun c => c.toNat == n) = false) := Lib.hid (by rw [takeU_any hlt, HK.out, hq]; rfl)
     have ht : (((byt U k : Nat) : Int) == (n : Int)) = false := by rw [hbt]; rw [beq_eq_false_iff_ne] at hq ⊢; omega
     clear hq hbt
     go_wp2_with (first | fail)
     go_roundw
     case rel => exact ⟨k + 1, by omega, by go_num, HN, Lib.hid hS⟩
     case measure => simp [intOf]; omega
  ·obtain rfl : k = U.length := by omega
   obtain rfl : b = false := by rw [← HB.out, ← HK.out, List.take_length]
   go_wp2_with (first | fail)
   all_goals go_ret
   all_goals exact ⟨rfl, hS.below⟩
theorem uses_at : ∀ k : Fin 27, 1 ≤ k.val → ((usesS (k.val : Int)).any (fun c => c.toNat == 114)) = uR (k.val : Int) ∧ ((usesS (k.val : Int)).any (fun c => c.toNat == 122)) = uZ (k.val : Int) ∧ ((usesS (k.val : Int)).any (fun c => c.toNat == 107)) = uK (k.val : Int) ∧ ((usesS (k.val : Int)).any (fun c => c.toNat == 99)) = uC (k.val : Int) ∧ ((usesS (k.val : Int)).any (fun c => c.toNat == 97)) = uA (k.val : Int) ∧ ((usesS (k.val : Int)).any (fun c => c.toNat == 109)) = uM (k.val : Int) ∧ ((usesS (k.val : Int)).any (fun c => c.toNat == 112)) = uP (k.val : Int) ∧ ((usesS (k.val : Int)).any (fun c => c.toNat == 102)) = uF (k.val : Int) := by decide +kernel
theorem uses_is {op : Int} (h : 1 ≤ op ∧ op ≤ 26) : ((usesS op).any (fun c => c.toNat == 114)) = uR op ∧ ((usesS op).any (fun c => c.toNat == 122)) = uZ op ∧ ((usesS op).any (fun c => c.toNat == 107)) = uK op ∧ ((usesS op).any (fun c => c.toNat == 99)) = uC op ∧ ((usesS op).any (fun c => c.toNat == 97)) = uA op ∧ ((usesS op).any (fun c => c.toNat == 109)) = uM op ∧ ((usesS op).any (fun c => c.toNat == 112)) = uP op ∧ ((usesS op).any (fun c => c.toNat == 102)) = uF op := by
 obtain ⟨k, rfl, hc⟩ := op_cases h
 exact uses_at ⟨k, by omega⟩ (by simp only; omega)
theorem r17u_r (op : Int) (hop : 1 ≤ op ∧ op ≤ 26) (b : Bool) (HB : Hid (uR op = b)) (w : World) (hl : Laid w) : Calls Tryz.prog 30 #[.int .i64 op, .int .u8 114] w fun e w' => e = .returned (.bool b) ∧ Below w.heap.size w w' := r17uses_any op hop 114 (by decide) b (Lib.hid ((uses_is hop).1.trans HB.out)) w hl
theorem r17u_z (op : Int) (hop : 1 ≤ op ∧ op ≤ 26) (b : Bool) (HB : Hid (uZ op = b)) (w : World) (hl : Laid w) : Calls Tryz.prog 30 #[.int .i64 op, .int .u8 122] w fun e w' => e = .returned (.bool b) ∧ Below w.heap.size w w' := r17uses_any op hop 122 (by decide) b (Lib.hid ((uses_is hop).2.1.trans HB.out)) w hl
theorem r17u_k (op : Int) (hop : 1 ≤ op ∧ op ≤ 26) (b : Bool) (HB : Hid (uK op = b)) (w : World) (hl : Laid w) : Calls Tryz.prog 30 #[.int .i64 op, .int .u8 107] w fun e w' => e = .returned (.bool b) ∧ Below w.heap.size w w' := r17uses_any op hop 107 (by decide) b (Lib.hid ((uses_is hop).2.2.1.trans HB.out)) w hl
theorem r17u_c (op : Int) (hop : 1 ≤ op ∧ op ≤ 26) (b : Bool) (HB : Hid (uC op = b)) (w : World) (hl : Laid w) : Calls Tryz.prog 30 #[.int .i64 op, .int .u8 99] w fun e w' => e = .returned (.bool b) ∧ Below w.heap.size w w' := r17uses_any op hop 99 (by decide) b (Lib.hid ((uses_is hop).2.2.2.1.trans HB.out)) w hl
theorem r17u_a (op : Int) (hop : 1 ≤ op ∧ op ≤ 26) (b : Bool) (HB : Hid (uA op = b)) (w : World) (hl : Laid w) : Calls Tryz.prog 30 #[.int .i64 op, .int .u8 97] w fun e w' => e = .returned (.bool b) ∧ Below w.heap.size w w' := r17uses_any op hop 97 (by decide) b (Lib.hid ((uses_is hop).2.2.2.2.1.trans HB.out)) w hl
theorem r17u_m (op : Int) (hop : 1 ≤ op ∧ op ≤ 26) (b : Bool) (HB : Hid (uM op = b)) (w : World) (hl : Laid w) : Calls Tryz.prog 30 #[.int .i64 op, .int .u8 109] w fun e w' => e = .returned (.bool b) ∧ Below w.heap.size w w' := r17uses_any op hop 109 (by decide) b (Lib.hid ((uses_is hop).2.2.2.2.2.1.trans HB.out)) w hl
theorem r17u_p (op : Int) (hop : 1 ≤ op ∧ op ≤ 26) (b : Bool) (HB : Hid (uP op = b)) (w : World) (hl : Laid w) : Calls Tryz.prog 30 #[.int .i64 op, .int .u8 112] w fun e w' => e = .returned (.bool b) ∧ Below w.heap.size w w' := r17uses_any op hop 112 (by decide) b (Lib.hid ((uses_is hop).2.2.2.2.2.2.1.trans HB.out)) w hl
theorem r17u_f (op : Int) (hop : 1 ≤ op ∧ op ≤ 26) (b : Bool) (HB : Hid (uF op = b)) (w : World) (hl : Laid w) : Calls Tryz.prog 30 #[.int .i64 op, .int .u8 102] w fun e w' => e = .returned (.bool b) ∧ Below w.heap.size w w' := r17uses_any op hop 102 (by decide) b (Lib.hid ((uses_is hop).2.2.2.2.2.2.2.trans HB.out)) w hl
theorem r17mods_e (e : Ef) (v : Sl) (b : Bool) (HB : Hid ((!(mlText e.mods == [])) = b)) (w : World) (hl : LaidE e v w) : Calls Tryz.prog 35 #[.slice v.a v.n v.c] w fun x w' => x = .returned (.bool b) ∧ Below w.heap.size w w' := by
 obtain ⟨T, hT⟩ : ∃ T, mlText e.mods = T := ⟨_, rfl⟩
 have HT := Lib.hid hT
 rw [hT] at HB
 have hq : (T != []) = b := HB.out
 clear hT
 have hS := St.start hl (keepsE e v)
 go_enter Tryz.func35, Tryz.ntmps35
 go_wp2_with (first | (go_at_call 61; (with_reducible refine (St.call hS fun hl => r15ListText_e e v T HT _ hl).mono ?_); rintro e w ⟨rfl, hS⟩))
 all_goals go_ret
 all_goals exact ⟨ret_bool (by rw [← hq]; cases T <;> rfl), hS.below⟩
theorem r17filter_is (op : Int) (f : Flt) (b : Bool) (HB : Hid ((fltIs f && f.zone == wantZ op) = b)) (w : World) (hl : Laid w) : Calls Tryz.prog 37 #[.int .i64 op, .agg f.cells] w fun x w' => x = .returned (.bool b) ∧ Below w.heap.size w w' := by
 rw [← HB.out]
 clear HB
 obtain ⟨R, hR⟩ : ∃ R, fltIs f = R := ⟨_, rfl⟩
 have HR := Lib.hid hR
 rw [hR]
 clear hR
 have hS := St.start hl keepsL
 by_cases h : op = 21
 ·subst h
  rw [show wantZ 21 = 2 from rfl]
  go_enter Tryz.func37, Tryz.ntmps37
  go_wp2_with (first | (go_at_call 59; (with_reducible refine (St.call hS fun hl => rIs_v _ _ HR _).mono ?_); rintro e w ⟨rfl, hS⟩) | ((with_reducible refine at_guard ?_); (first | (refine wpList_pass rfl ?_) | ((fail_if_success refine wpList_wanted rfl ?_); refine wpList_ask _ _ rfl rfl (fun hb => ?_) (fun hb => ?_) <;> (first | (obtain rfl := eq_of_beq hb) | (simp only [hb])))); (try simp only [put0, put1, put2, put3, put4])) | ((with_reducible refine at_box ?_); (first | (refine wpList_box_agg rfl hS rfl rfl ?_; intro g w hS)); (try simp only [put0, put1, put2, put3, put4])) | ((with_reducible refine at_load ?_); (first | (refine flt_ldw rfl hS rfl rfl (by repeat constructor) ?_) | (refine flt_ld0 rfl hS rfl rfl (by repeat constructor) ?_)); (try simp only [put0, put1, put2, put3, put4])))
  all_goals go_ret
  all_goals exact ⟨ret_bool (by simp_all), hS.below⟩
 ·rw [show wantZ op = 0 from if_neg h]
  have hz : (op == 21) = false := by simpa using h
  clear h
  go_enter Tryz.func37, Tryz.ntmps37
  go_wp2_with (first | (go_at_call 59; (with_reducible refine (St.call hS fun hl => rIs_v _ _ HR _).mono ?_); rintro e w ⟨rfl, hS⟩) | ((with_reducible refine at_guard ?_); (first | (refine wpList_pass rfl ?_) | ((fail_if_success refine wpList_wanted rfl ?_); refine wpList_ask _ _ rfl rfl (fun hb => ?_) (fun hb => ?_) <;> (first | (obtain rfl := eq_of_beq hb) | (simp only [hb])))); (try simp only [put0, put1, put2, put3, put4])) | ((with_reducible refine at_box ?_); (first | (refine wpList_box_agg rfl hS rfl rfl ?_; intro g w hS)); (try simp only [put0, put1, put2, put3, put4])) | ((with_reducible refine at_load ?_); (first | (refine flt_ldw rfl hS rfl rfl (by repeat constructor) ?_) | (refine flt_ld0 rfl hS rfl rfl (by repeat constructor) ?_)); (try simp only [put0, put1, put2, put3, put4])))
  all_goals go_ret
  all_goals exact ⟨ret_bool (by simp_all), hS.below⟩
theorem r16Text_B (r : Rf) (T : Str) (h : Hid (refText r = T)) (w : World) : Calls Tryz.prog 78 #[.agg r.cells] w fun e w' => e = .returned (.string (B T)) ∧ Below w.heap.size w w' := (rrText_v r w).mono fun e w' h' => ⟨by rw [h'.1, h.out], h'.2⟩
theorem r14Text_B (a : Am) (T : Str) (h : Hid (amText a = T)) (w : World) : Calls Tryz.prog 79 #[.agg a.cells] w fun e w' => e = .returned (.string (B T)) ∧ Below w.heap.size w w' := (rAText_v a w).mono fun e w' h' => ⟨by rw [h'.1, h.out], h'.2⟩
theorem r13Text_B (f : Flt) (T : Str) (h : Hid (textOf f = T)) (w : World) : Calls Tryz.prog 80 #[.agg f.cells] w fun e w' => e = .returned (.string (B T)) ∧ Below w.heap.size w w' := (rFltText_any f w).mono fun e w' h' => ⟨by rw [h'.1, h.out], h'.2⟩
theorem r12Name_B (c : Int) (T : Str) (h : Hid (cntText c = T)) (w : World) : Calls Tryz.prog 32 #[.int .i64 c] w fun e w' => e = .returned (.string (B T)) ∧ w = w' := (rCnt_any c w).mono fun e w' h' => ⟨by rw [h'.1, h.out], h'.2⟩
theorem r17Zone_B (z : Int) (T : Str) (h : Hid (zoneName z = T)) (w : World) : Calls Tryz.prog 16 #[.int .i64 z] w fun e w' => e = .returned (.string (B T)) ∧ Below w.heap.size w w' := (r17Zone_any z w).mono fun e w' h' => ⟨by rw [h'.1, h.out], h'.2⟩
theorem r17part_r (e : Ef) (v : Sl) (T : Str) (HT : Hid (refText e.ref = T)) (w : World) (hl : LaidE e v w) : Calls Tryz.prog 47 #[.agg (e.at v).cells, .int .u8 114] w fun x w' => x = .returned (.string (B (T))) ∧ Below w.heap.size w w' := by
 obtain ⟨op, ref, amt, ctr, zone, card, flt, pool, mods⟩ := e
 obtain ⟨va, vn, vc⟩ := v
 change Calls Tryz.prog _ #[.agg (Em.cells ⟨op, ref, amt, ctr, zone, card, flt, pool, ⟨va, vn, vc⟩⟩), _] _ _
 have hS := St.start hl (keepsE _ _)
 go_enter Tryz.func47, Tryz.ntmps47
 go_wp2_with (first | fail | ((refine hot_here rfl ?_); (first | ((with_reducible refine at_load (T := 27) ?_); (first | (refine em_ld1 rfl hS rfl rfl (by repeat constructor) ?_)); (try simp only [put0, put1, put2, put3, put4])) | ((with_reducible refine at_box ?_); (first | (refine wpList_box_agg rfl hS rfl rfl ?_; intro g w hS)); (try simp only [put0, put1, put2, put3, put4])))) | ((fail_if_success (with_reducible refine wpList_here ?_)); (first | (go_at_call 78; (with_reducible refine (St.call hS fun hl => r16Text_B _ _ HT _).mono ?_); rintro e w ⟨rfl, hS⟩))))
 all_goals go_ret
 all_goals exact ⟨ret_B (by simp), hS.below⟩
theorem r17part_z (e : Ef) (v : Sl) (T : Str) (HT : Hid (zoneName e.zone = T)) (w : World) (hl : LaidE e v w) : Calls Tryz.prog 47 #[.agg (e.at v).cells, .int .u8 122] w fun x w' => x = .returned (.string (B (T))) ∧ Below w.heap.size w w' := by
 obtain ⟨op, ref, amt, ctr, zone, card, flt, pool, mods⟩ := e
 obtain ⟨va, vn, vc⟩ := v
 change Calls Tryz.prog _ #[.agg (Em.cells ⟨op, ref, amt, ctr, zone, card, flt, pool, ⟨va, vn, vc⟩⟩), _] _ _
 have hS := St.start hl (keepsE _ _)
 go_enter Tryz.func47, Tryz.ntmps47
 go_wp2_with (first | fail | ((refine hot_here rfl ?_); (first | ((with_reducible refine at_load (T := 3) ?_); (first | (refine em_ld39 rfl hS rfl rfl (by repeat constructor) ?_)); (try simp only [put0, put1, put2, put3, put4])) | ((with_reducible refine at_box ?_); (first | (refine wpList_box_agg rfl hS rfl rfl ?_; intro g w hS)); (try simp only [put0, put1, put2, put3, put4])))) | ((fail_if_success (with_reducible refine wpList_here ?_)); (first | (go_at_call 16; (with_reducible refine (St.call hS fun hl => r17Zone_B _ _ HT _).mono ?_); rintro e w ⟨rfl, hS⟩))))
 all_goals go_ret
 all_goals exact ⟨ret_B (by simp), hS.below⟩
theorem r17part_k (e : Ef) (v : Sl) (T : Str) (HT : Hid (cntText e.ctr = T)) (w : World) (hl : LaidE e v w) : Calls Tryz.prog 47 #[.agg (e.at v).cells, .int .u8 107] w fun x w' => x = .returned (.string (B (T))) ∧ Below w.heap.size w w' := by
 obtain ⟨op, ref, amt, ctr, zone, card, flt, pool, mods⟩ := e
 obtain ⟨va, vn, vc⟩ := v
 change Calls Tryz.prog _ #[.agg (Em.cells ⟨op, ref, amt, ctr, zone, card, flt, pool, ⟨va, vn, vc⟩⟩), _] _ _
 have hS := St.start hl (keepsE _ _)
 go_enter Tryz.func47, Tryz.ntmps47
 go_wp2_with (first | fail | ((refine hot_here rfl ?_); (first | ((with_reducible refine at_load (T := 3) ?_); (first | (refine em_ld38 rfl hS rfl rfl (by repeat constructor) ?_)); (try simp only [put0, put1, put2, put3, put4])) | ((with_reducible refine at_box ?_); (first | (refine wpList_box_agg rfl hS rfl rfl ?_; intro g w hS)); (try simp only [put0, put1, put2, put3, put4])))) | ((fail_if_success (with_reducible refine wpList_here ?_)); (first | (go_at_call 32; (with_reducible refine (St.still hS fun hl => r12Name_B _ _ HT _).mono ?_); rintro e w ⟨rfl, hS⟩))))
 all_goals go_ret
 all_goals exact ⟨ret_B (by simp), hS.below⟩
theorem r17part_a (e : Ef) (v : Sl) (T : Str) (HT : Hid (amText e.amt = T)) (w : World) (hl : LaidE e v w) : Calls Tryz.prog 47 #[.agg (e.at v).cells, .int .u8 97] w fun x w' => x = .returned (.string (B (T))) ∧ Below w.heap.size w w' := by
 obtain ⟨op, ref, amt, ctr, zone, card, flt, pool, mods⟩ := e
 obtain ⟨va, vn, vc⟩ := v
 change Calls Tryz.prog _ #[.agg (Em.cells ⟨op, ref, amt, ctr, zone, card, flt, pool, ⟨va, vn, vc⟩⟩), _] _ _
 have hS := St.start hl (keepsE _ _)
 go_enter Tryz.func47, Tryz.ntmps47
 go_wp2_with (first | fail | ((refine hot_here rfl ?_); (first | ((with_reducible refine at_load (T := 29) ?_); (first | (refine em_ld19 rfl hS rfl rfl (by repeat constructor) ?_)); (try simp only [put0, put1, put2, put3, put4])) | ((with_reducible refine at_box ?_); (first | (refine wpList_box_agg rfl hS rfl rfl ?_; intro g w hS)); (try simp only [put0, put1, put2, put3, put4])))) | ((fail_if_success (with_reducible refine wpList_here ?_)); (first | (go_at_call 79; (with_reducible refine (St.call hS fun hl => r14Text_B _ _ HT _).mono ?_); rintro e w ⟨rfl, hS⟩))))
 all_goals go_ret
 all_goals exact ⟨ret_B (by simp), hS.below⟩
theorem r17part_p (e : Ef) (v : Sl) (T : Str) (HT : Hid (poText e.pool = T)) (w : World) (hl : LaidE e v w) : Calls Tryz.prog 47 #[.agg (e.at v).cells, .int .u8 112] w fun x w' => x = .returned (.string (B (T))) ∧ Below w.heap.size w w' := by
 obtain ⟨op, ref, amt, ctr, zone, card, flt, pool, mods⟩ := e
 obtain ⟨va, vn, vc⟩ := v
 change Calls Tryz.prog _ #[.agg (Em.cells ⟨op, ref, amt, ctr, zone, card, flt, pool, ⟨va, vn, vc⟩⟩), _] _ _
 have hS := St.start hl (keepsE _ _)
 go_enter Tryz.func47, Tryz.ntmps47
 go_wp2_with (first | fail | ((refine hot_here rfl ?_); (first | ((with_reducible refine at_load (T := 31) ?_); (first | (refine em_ld57 rfl hS rfl rfl (by repeat constructor) ?_)); (try simp only [put0, put1, put2, put3, put4])) | ((with_reducible refine at_box ?_); (first | (refine wpList_box_agg rfl hS rfl rfl ?_; intro g w hS)); (try simp only [put0, put1, put2, put3, put4])))) | ((fail_if_success (with_reducible refine wpList_here ?_)); (first | (go_at_call 36; (with_reducible refine (St.call hS fun hl => r08PoolText_is _ _ HT _ hl.1.base).mono ?_); rintro e w ⟨rfl, hS⟩))))
 all_goals go_ret
 all_goals exact ⟨ret_B (by simp), hS.below⟩
theorem r17part_m (e : Ef) (v : Sl) (T : Str) (HT : Hid (mlText e.mods = T)) (w : World) (hl : LaidE e v w) : Calls Tryz.prog 47 #[.agg (e.at v).cells, .int .u8 109] w fun x w' => x = .returned (.string (B (91 :: (T ++ [93])))) ∧ Below w.heap.size w w' := by
 have hlen := mlText_len e.mods
 rw [HT.out] at hlen
 obtain ⟨op, ref, amt, ctr, zone, card, flt, pool, mods⟩ := e
 obtain ⟨va, vn, vc⟩ := v
 change Calls Tryz.prog _ #[.agg (Em.cells ⟨op, ref, amt, ctr, zone, card, flt, pool, ⟨va, vn, vc⟩⟩), _] _ _
 have hS := St.start hl (keepsE _ _)
 go_enter Tryz.func47, Tryz.ntmps47
 go_wp2_with (first | fail | ((refine hot_here rfl ?_); (first | ((with_reducible refine at_load (T := 32) ?_); (first | (refine em_ld63 rfl hS rfl rfl (by repeat constructor) ?_)); (try simp only [put0, put1, put2, put3, put4])) | ((with_reducible refine at_cat ?_); (first | (refine wpList_cat rfl rfl rfl rfl (by first | (simp only [List.length_append, List.length_cons, List.length_nil]; omega) | fail) ?_)); (try simp only [put0, put1, put2, put3, put4])) | ((with_reducible refine at_box ?_); (first | (refine wpList_box_agg rfl hS rfl rfl ?_; intro g w hS)); (try simp only [put0, put1, put2, put3, put4])))) | ((fail_if_success (with_reducible refine wpList_here ?_)); (first | (go_at_call 61; (with_reducible refine (St.call hS fun hl => r15ListText_e ⟨op, ref, amt, ctr, zone, card, flt, pool, mods⟩ ⟨va, vn, vc⟩ T HT _ hl).mono ?_); rintro e w ⟨rfl, hS⟩))))
 all_goals go_ret
 all_goals exact ⟨ret_B (by simp), hS.below⟩
theorem r17part_f (e : Ef) (v : Sl) (T : Str) (HT : Hid (textOf e.flt = T)) (w : World) (hl : LaidE e v w) : Calls Tryz.prog 47 #[.agg (e.at v).cells, .int .u8 102] w fun x w' => x = .returned (.string (B (40 :: (T ++ [41])))) ∧ Below w.heap.size w w' := by
 have hlen := textOf_len (f := e.flt)
 rw [HT.out] at hlen
 obtain ⟨op, ref, amt, ctr, zone, card, flt, pool, mods⟩ := e
 obtain ⟨va, vn, vc⟩ := v
 change Calls Tryz.prog _ #[.agg (Em.cells ⟨op, ref, amt, ctr, zone, card, flt, pool, ⟨va, vn, vc⟩⟩), _] _ _
 have hS := St.start hl (keepsE _ _)
 go_enter Tryz.func47, Tryz.ntmps47
 go_wp2_with (first | fail | ((refine hot_here rfl ?_); (first | ((with_reducible refine at_load (T := 25) ?_); (first | (refine em_ld41 rfl hS rfl rfl (by repeat constructor) ?_)); (try simp only [put0, put1, put2, put3, put4])) | ((with_reducible refine at_cat ?_); (first | (refine wpList_cat rfl rfl rfl rfl (by first | (simp only [List.length_append, List.length_cons, List.length_nil]; omega) | fail) ?_)); (try simp only [put0, put1, put2, put3, put4])) | ((with_reducible refine at_box ?_); (first | (refine wpList_box_agg rfl hS rfl rfl ?_; intro g w hS)); (try simp only [put0, put1, put2, put3, put4])))) | ((fail_if_success (with_reducible refine wpList_here ?_)); (first | (go_at_call 80; (with_reducible refine (St.call hS fun hl => r13Text_B _ _ HT _).mono ?_); rintro e w ⟨rfl, hS⟩))))
 all_goals go_ret
 all_goals exact ⟨ret_B (by simp), hS.below⟩
theorem r17part_c (e : Ef) (v : Sl) (T : Str) (HT : Hid (e.card = B T)) (w : World) (hl : LaidE e v w) : Calls Tryz.prog 47 #[.agg (e.at v).cells, .int .u8 99] w fun x w' => x = .returned (.string (B T)) ∧ Below w.heap.size w w' := by
 obtain ⟨op, ref, amt, ctr, zone, card, flt, pool, mods⟩ := e
 obtain ⟨va, vn, vc⟩ := v
 obtain rfl : card = B T := HT.out
 change Calls Tryz.prog _ #[.agg (Em.cells ⟨op, ref, amt, ctr, zone, B T, flt, pool, ⟨va, vn, vc⟩⟩), _] _ _
 have hS := St.start hl (keepsE _ _)
 go_enter Tryz.func47, Tryz.ntmps47
 go_wp2_with (first | fail | ((refine hot_here rfl ?_); (first | ((with_reducible refine at_load (T := 9) ?_); (first | (refine em_ld40 rfl hS rfl rfl (by repeat constructor) ?_)); (try simp only [put0, put1, put2, put3, put4])) | ((with_reducible refine at_box ?_); (first | (refine wpList_box_agg rfl hS rfl rfl ?_; intro g w hS)); (try simp only [put0, put1, put2, put3, put4])))) | ((fail_if_success (with_reducible refine wpList_here ?_)); (first | fail)))
 all_goals go_ret
 all_goals exact ⟨rfl, hS.below⟩
theorem r17part_is (e : Ef) (v : Sl) (f : UInt8) (hf : f = 114 ∨ f = 122 ∨ f = 107 ∨ f = 99 ∨ f = 97 ∨ f = 109 ∨ f = 112 ∨ f = 102) (T : Str) (HT : Hid (partS e f = T)) (w : World) (hl : LaidE e v w) : Calls Tryz.prog 47 #[.agg (e.at v).cells, .int .u8 (f.toNat : Int)] w fun x w' => x = .returned (.string (B T)) ∧ Below w.heap.size w w' := by
 rw [← HT.out]
 rcases hf with rfl | rfl | rfl | rfl | rfl | rfl | rfl | rfl
 ·exact r17part_r e v _ (Lib.hid rfl) w hl
 ·exact r17part_z e v _ (Lib.hid rfl) w hl
 ·exact r17part_k e v _ (Lib.hid rfl) w hl
 ·exact r17part_c e v _ (Lib.hid (B_L e.card).symm) w hl
 ·exact r17part_a e v _ (Lib.hid rfl) w hl
 ·exact r17part_m e v _ (Lib.hid rfl) w hl
 ·exact r17part_p e v _ (Lib.hid rfl) w hl
 ·exact r17part_f e v _ (Lib.hid rfl) w hl
theorem uses_letters {op : Int} (h : 1 ≤ op ∧ op ≤ 26) : ∀ f ∈ usesS op, f = 114 ∨ f = 122 ∨ f = 107 ∨ f = 99 ∨ f = 97 ∨ f = 109 ∨ f = 112 ∨ f = 102 := by
 obtain ⟨k, rfl, hc⟩ := op_cases h
 rcases hc with rfl | rfl | rfl | rfl | rfl | rfl | rfl | rfl | rfl | rfl | rfl | rfl | rfl | rfl | rfl | rfl | rfl | rfl | rfl | rfl | rfl | rfl | rfl | rfl | rfl | rfl <;> decide
end Go.Proofs.YtdnnbfbhifelkaaGreatDoor
namespace Go.Proofs.YtdnnbfbhifelkaaGreatDoor
attribute [local irreducible] wpList Code.wp Calls refIs amIs fltIs mlText poText cntText isName fRef fAmt fCtr fZone fCard fFlt fPool fMods rfEq amEq fltEq poEq textOf
open Go.ChangeShapes Go.WideShapes Go.RowKit
theorem eq_flR (f g : Flt) (w : World) : (binOp .eql 25 (.agg f.cells) (.agg g.cells)).run Tryz.prog w = .ok (.bool (fltEq f g)) w := by
 obtain ⟨a, b, c, d, e, f, g, h, i, j, k, l, m, n, o, p⟩ := f
 rename_i G
 obtain ⟨a, b, c, d, e, f, g, h, i, j, k, l, m, n, o, p⟩ := G
 exact eq_flt _ _ _ _ _ _ _ _ _ _ _ _ _ _ _ _ _ _ _ _ _ _ _ _ _ _ _ _ _ _ _ _ w
theorem r14Is_B (a : Am) (R : Bool) (h : Hid (amIs a = R)) (w : World) : Calls Tryz.prog 34 #[.agg a.cells] w fun e w' => e = .returned (.bool R) ∧ Below w.heap.size w w' := rAIs_v a R h w
theorem r02Is_B (s : ByteArray) (R : Bool) (h : Hid (isName (L s) = R)) (w : World) : Calls Tryz.prog 33 #[.string s] w fun e w' => e = .returned (.bool R) ∧ w = w' := (rWordIs_any s w).mono fun e w' h' => ⟨by rw [h'.1, h.out], h'.2⟩
theorem r17Word_B (op : Int) (T : Str) (h : Hid (opName op = T)) (w : World) : Calls Tryz.prog 29 #[.int .i64 op] w fun e w' => e = .returned (.string (B T)) ∧ Below w.heap.size w w' := (r17Word_any op w).mono fun e w' h' => ⟨by rw [h'.1, h.out], h'.2⟩
theorem fFlt_eq (op : Int) (ref : Rf) (amt : Am) (ctr zone : Int) (card : ByteArray) (flt : Flt) (pool : Po) (mods : List Md) (h : uF op = true) : fFlt ⟨op, ref, amt, ctr, zone, card, flt, pool, mods⟩ = (fltIs flt && flt.zone == wantZ op) := by unfold fFlt; rw [if_pos h]
theorem fFlt_no (op : Int) (ref : Rf) (amt : Am) (ctr zone : Int) (card : ByteArray) (flt : Flt) (pool : Po) (mods : List Md) (h : uF op = false) : fFlt ⟨op, ref, amt, ctr, zone, card, flt, pool, mods⟩ = fltEq flt zeroF := by unfold fFlt; rw [if_neg (by rw [h]; decide)]
theorem ctr_zero : cntText 0 ≠ [] := by decide +kernel
theorem r17Is_walk (op : Int) (ref : Rf) (amt : Am) (ctr zone : Int) (card : Str) (flt : Flt) (pool : Po) (mods : List Md) (va : Option Addr) (vn vc : Nat) (specs : Int) (hop : 1 ≤ op ∧ op ≤ 26) (w0 : World) (hl : LaidE ⟨op, ref, amt, ctr, zone, B card, flt, pool, mods⟩ ⟨va, vn, vc⟩ w0) :
 Calls Tryz.prog 12 #[.agg (Em.cells ⟨op, ref, amt, ctr, zone, B card, flt, pool, ⟨va, vn, vc⟩⟩), .int .i64 specs] w0 fun e w' => e = .returned (.bool (fWhole ⟨op, ref, amt, ctr, zone, B card, flt, pool, mods⟩ specs)) ∧ Below w0.heap.size w0 w' := by
 have HOP := Lib.hid hop
 obtain ⟨N0, hN⟩ : ∃ T, opName op = T := ⟨_, rfl⟩
 have hN0 : (N0 == []) = false := by
  rw [← hN]
  obtain ⟨k, rfl, hc⟩ := op_cases hop
  have := opName_ne ⟨k, by omega⟩ (by simp only; omega)
  simpa using this
 have GN := Lib.hid hN
 obtain ⟨u1, hu1⟩ : ∃ u, uR op = u := ⟨_, rfl⟩
 obtain ⟨u2, hu2⟩ : ∃ u, uA op = u := ⟨_, rfl⟩
 obtain ⟨u3, hu3⟩ : ∃ u, uK op = u := ⟨_, rfl⟩
 obtain ⟨u4, hu4⟩ : ∃ u, uZ op = u := ⟨_, rfl⟩
 obtain ⟨u5, hu5⟩ : ∃ u, uC op = u := ⟨_, rfl⟩
 obtain ⟨u6, hu6⟩ : ∃ u, uF op = u := ⟨_, rfl⟩
 obtain ⟨u7, hu7⟩ : ∃ u, uP op = u := ⟨_, rfl⟩
 obtain ⟨u8, hu8⟩ : ∃ u, uM op = u := ⟨_, rfl⟩
 have U1 := Lib.hid hu1
 have U2 := Lib.hid hu2
 have U3 := Lib.hid hu3
 have U4 := Lib.hid hu4
 have U5 := Lib.hid hu5
 have U6 := Lib.hid hu6
 have U7 := Lib.hid hu7
 have U8 := Lib.hid hu8
 obtain ⟨c1, hc1⟩ : ∃ c, rfEq ref zeroR = c := ⟨_, rfl⟩
 obtain ⟨c2, hc2⟩ : ∃ c, amEq amt zeroA = c := ⟨_, rfl⟩
 obtain ⟨c6, hc6⟩ : ∃ c, fltEq flt zeroF = c := ⟨_, rfl⟩
 obtain ⟨c7, hc7⟩ : ∃ c, poEq pool zeroPo = c := ⟨_, rfl⟩
 have e1 := fun wx => (eq_rf ref ⟨zeroR.kind, zeroR.n, zeroR.f⟩ wx).trans (by rw [show (⟨zeroR.kind, zeroR.n, zeroR.f⟩ : Rf) = zeroR from rfl, hc1])
 have e2 := fun wx => (eq_am amt ⟨zeroA.k, zeroA.n, zeroA.c, zeroA.f⟩ wx).trans (by rw [show (⟨zeroA.k, zeroA.n, zeroA.c, zeroA.f⟩ : Am) = zeroA from rfl, hc2])
 have e6 := fun wx => (eq_flR flt ⟨zeroF.zone, zeroF.who, zeroF.self, zeroF.types, zeroF.ntypes, zeroF.colors, zeroF.ncolors, zeroF.sub, zeroF.keys, zeroF.tap, zeroF.pk, zeroF.pn, zeroF.tk, zeroF.tn, zeroF.vk, zeroF.vn⟩ wx).trans (by rw [show (⟨zeroF.zone, zeroF.who, zeroF.self, zeroF.types, zeroF.ntypes, zeroF.colors, zeroF.ncolors, zeroF.sub, zeroF.keys, zeroF.tap, zeroF.pk, zeroF.pn, zeroF.tk, zeroF.tn, zeroF.vk, zeroF.vn⟩ : Flt) = zeroF from rfl, hc6])
 have e7 := fun wx => (eq_po pool ⟨zeroPo.g, zeroPo.c0, zeroPo.c1, zeroPo.c2, zeroPo.c3, zeroPo.c4⟩ wx).trans (by rw [show (⟨zeroPo.g, zeroPo.c0, zeroPo.c1, zeroPo.c2, zeroPo.c3, zeroPo.c4⟩ : Po) = zeroPo from rfl, hc7])
 obtain ⟨c5, hc5⟩ : ∃ c, (card == []) = c := ⟨_, rfl⟩
 obtain ⟨c8, hc8⟩ : ∃ c, ((vn : Int) == 0) = c := ⟨_, rfl⟩
 have C1 := Lib.hid hc1
 have C2 := Lib.hid hc2
 have C6 := Lib.hid hc6
 have C7 := Lib.hid hc7
 have C5 := Lib.hid hc5
 have C8 : Hid (decide (mods.length = 0) = c8) := Lib.hid (by
  rw [← hc8]
  have := hl.2.1
  simp only at this
  rw [this, Bool.eq_iff_iff, decide_eq_true_eq, beq_iff_eq]; omega)
 obtain ⟨I1, hI1⟩ : ∃ T, refIs ref specs = T := ⟨_, rfl⟩
 obtain ⟨I2, hI2⟩ : ∃ T, amIs amt = T := ⟨_, rfl⟩
 obtain ⟨I5, hI5⟩ : ∃ T, isName (L (B card)) = T := ⟨_, rfl⟩
 obtain ⟨I6, hI6⟩ : ∃ T, (fltIs flt && flt.zone == wantZ op) = T := ⟨_, rfl⟩
 obtain ⟨T3, hT3⟩ : ∃ T, cntText ctr = T := ⟨_, rfl⟩
 obtain ⟨T7, hT7⟩ : ∃ T, poText pool = T := ⟨_, rfl⟩
 obtain ⟨I8, hI8⟩ : ∃ T, (!(mlText mods == [])) = T := ⟨_, rfl⟩
 have G1 := Lib.hid hI1
 have G2 := Lib.hid hI2
 have G3 := Lib.hid hT3
 have G5 := Lib.hid hI5
 have G6 := Lib.hid hI6
 have G7 := Lib.hid hT7
 have G8 := Lib.hid hI8
 clear hop hN hu1 hu2 hu3 hu4 hu5 hu6 hu7 hu8 hc1 hc2 hc6 hc7 hI1 hI2 hI5 hI6 hT3 hT7 hI8
 unfold fWhole
 have hS := St.start hl (keepsE _ _)
 go_enter Tryz.func12, Tryz.ntmps12
 go_upto_if 23 with (first | fail | ((refine hot_here rfl ?_); (first | ((with_reducible refine at_load (T := 3) ?_); (first | (refine em_ld0 rfl hS rfl rfl (by repeat constructor) ?_)); (try simp only [put0, put1, put2, put3, put4])) | ((with_reducible refine at_load (T := 27) ?_); (first | (refine em_ld1 rfl hS rfl rfl (by repeat constructor) ?_)); (try simp only [put0, put1, put2, put3, put4])) | ((with_reducible refine at_box ?_); (first | (refine wpList_box_agg rfl hS rfl rfl ?_; intro g w hS)); (try simp only [put0, put1, put2, put3, put4])) | ((with_reducible refine rfs_shape_ ?_); refine rfs_bld_ rfl ?_; (try simp only [put0, put1, put2, put3, put4])))) | ((fail_if_success (with_reducible refine wpList_here ?_)); (first | (go_at_call 29; (with_reducible refine (St.call hS fun hl => r17Word_B _ _ GN _).mono ?_); rintro e w ⟨rfl, hS⟩) | (go_at_call 30; (with_reducible refine (St.call hS fun hl => r17u_r _ HOP.out _ U1 _ hl.1.base).mono ?_); rintro e w ⟨rfl, hS⟩) | ((with_reducible refine wp_cond_here ?_); refine wp_cond_split rfl (fun hb => ?_) (fun hb => ?_) <;> (first | (exfalso; exact Bool.noConfusion hb) | (obtain rfl := eq_of_beq hb) | skip) <;> (try simp only [decide_eq_true_eq, decide_eq_false_iff_not, Bool.and_eq_true, Bool.or_eq_true, Bool.and_eq_false_iff, Bool.or_eq_false_iff] at hb) <;> go_prune))))
 go_cut [5] (fun rv wc => ∃ b : Bool, rv = .bool b ∧ Hid (fRef ⟨op, ref, amt, ctr, zone, B card, flt, pool, mods⟩ specs = b) ∧ Hid (St (LaidE ⟨op, ref, amt, ctr, zone, B card, flt, pool, mods⟩ ⟨va, vn, vc⟩) w0 [(g, Em.cells ⟨op, ref, amt, ctr, zone, B card, flt, pool, ⟨va, vn, vc⟩⟩, 34)] wc))
 case first =>
  cases u1
  ·skip
   go_wp2_with (first | fail | ((refine hot_here rfl ?_); (first | fail)) | ((fail_if_success (with_reducible refine wpList_here ?_)); (first | fail)))
   all_goals go_meet
   all_goals exact ⟨c1, rfl, Lib.hid (by unfold fRef; rw [if_neg (by rw [U1.out]; decide)]; exact C1.out), Lib.hid hS⟩
  ·skip
   go_wp2_with (first | fail | ((refine hot_here rfl ?_); (first | ((with_reducible refine at_load (T := 27) ?_); (first | (refine em_ld1 rfl hS rfl rfl (by repeat constructor) ?_)); (try simp only [put0, put1, put2, put3, put4])))) | ((fail_if_success (with_reducible refine wpList_here ?_)); (first | (go_at_call 31; (with_reducible refine (St.call hS fun hl => rrIs_v _ _ _ G1 _).mono ?_); rintro e w ⟨rfl, hS⟩))))
   all_goals go_meet
   all_goals exact ⟨I1, rfl, Lib.hid (by unfold fRef; rw [if_pos U1.out]; exact G1.out), Lib.hid hS⟩
 case rest =>
  clear hS
  obtain ⟨b1, rfl, Hb1, HS⟩ := hcut
  have hS := HS.out
  clear HS
  go_upto_region 6 with (first | fail | ((refine hot_here rfl ?_); (first | fail)) | ((fail_if_success (with_reducible refine wpList_here ?_)); (first | fail)))
  go_cut [6] (fun rv wc => ∃ b : Bool, rv = .bool b ∧ Hid (fZone ⟨op, ref, amt, ctr, zone, B card, flt, pool, mods⟩ = b) ∧ Hid (St (LaidE ⟨op, ref, amt, ctr, zone, B card, flt, pool, mods⟩ ⟨va, vn, vc⟩) w0 [(g, Em.cells ⟨op, ref, amt, ctr, zone, B card, flt, pool, ⟨va, vn, vc⟩⟩, 34)] wc))
  case first =>
   have hf : fZone ⟨op, ref, amt, ctr, zone, B card, flt, pool, mods⟩ = if u4 = true then decide (0 ≤ zone) && decide (zone ≤ 4) else zone == 0 := by unfold fZone; rw [← U4.out]
   have HF := Lib.hid hf
   clear hf
   by_cases hz : zone = 0
   ·subst hz
    go_wp2_with (first | fail | ((refine hot_here rfl ?_); (first | ((with_reducible refine at_guard ?_); (first | (refine wpList_pass rfl ?_)); (try simp only [put0, put1, put2, put3, put4])) | ((with_reducible refine at_load (T := 3) ?_); (first | (refine em_ld39 rfl hS rfl rfl (by repeat constructor) ?_)); (try simp only [put0, put1, put2, put3, put4])))) | ((fail_if_success (with_reducible refine wpList_here ?_)); (first | fail)))
    all_goals go_meet
    all_goals exact ⟨true, rfl, Lib.hid (by rw [HF.out]; cases u4 <;> rfl), Lib.hid hS⟩
   ·have hz' : (zone == 0) = false := by simpa using hz
    clear hz
    cases u4
    ·skip
     go_wp2_with (first | fail | ((refine hot_here rfl ?_); (first | ((with_reducible refine at_guard ?_); (first | (refine wpList_pass rfl ?_)); (try simp only [put0, put1, put2, put3, put4])) | ((with_reducible refine at_load (T := 3) ?_); (first | (refine em_ld0 rfl hS rfl rfl (by repeat constructor) ?_) | (refine em_ld39 rfl hS rfl rfl (by repeat constructor) ?_)); (try simp only [put0, put1, put2, put3, put4])))) | ((fail_if_success (with_reducible refine wpList_here ?_)); (first | (go_at_call 30; (with_reducible refine (St.call hS fun hl => r17u_z _ HOP.out _ U4 _ hl.1.base).mono ?_); rintro e w ⟨rfl, hS⟩))))
     all_goals go_meet
     all_goals exact ⟨false, rfl, Lib.hid (by rw [HF.out]; simpa using hz'), Lib.hid hS⟩
    ·by_cases h0 : 0 < zone
     ·have t1 : decide (zone > 0) = true := by simpa using h0
      have t1' : decide (0 < zone) = true := by simpa using h0
      have h00 : 0 ≤ zone := by omega
      go_wp2_with (first | fail | ((refine hot_here rfl ?_); (first | ((with_reducible refine at_load (T := 3) ?_); (first | (refine em_ld0 rfl hS rfl rfl (by repeat constructor) ?_) | (refine em_ld39 rfl hS rfl rfl (by repeat constructor) ?_)); (try simp only [put0, put1, put2, put3, put4])))) | ((fail_if_success (with_reducible refine wpList_here ?_)); (first | (go_at_call 30; (with_reducible refine (St.call hS fun hl => r17u_z _ HOP.out _ U4 _ hl.1.base).mono ?_); rintro e w ⟨rfl, hS⟩))))
      all_goals go_meet
      all_goals exact ⟨_, rfl, Lib.hid (by rw [HF.out]; simp_all), Lib.hid hS⟩
     ·have t1 : decide (zone > 0) = false := by simpa using h0
      have t1' : decide (0 < zone) = false := by simpa using h0
      have h00 : ¬ 0 ≤ zone := by rw [beq_eq_false_iff_ne] at hz'; omega
      go_wp2_with (first | fail | ((refine hot_here rfl ?_); (first | ((with_reducible refine at_guard ?_); (first | (refine wpList_pass rfl ?_)); (try simp only [put0, put1, put2, put3, put4])) | ((with_reducible refine at_load (T := 3) ?_); (first | (refine em_ld0 rfl hS rfl rfl (by repeat constructor) ?_) | (refine em_ld39 rfl hS rfl rfl (by repeat constructor) ?_)); (try simp only [put0, put1, put2, put3, put4])))) | ((fail_if_success (with_reducible refine wpList_here ?_)); (first | (go_at_call 30; (with_reducible refine (St.call hS fun hl => r17u_z _ HOP.out _ U4 _ hl.1.base).mono ?_); rintro e w ⟨rfl, hS⟩))))
      all_goals go_meet
      all_goals exact ⟨false, rfl, Lib.hid (by rw [HF.out, decide_eq_false (show ¬ 0 ≤ zone by omega)]; rfl), Lib.hid hS⟩
  case rest =>
   clear hS
   obtain ⟨b4, rfl, Hb4, HS⟩ := hcut
   have hS := HS.out
   clear HS
   go_upto_region 7 with (first | fail | ((refine hot_here rfl ?_); (first | fail)) | ((fail_if_success (with_reducible refine wpList_here ?_)); (first | fail)))
   go_cut [7] (fun rv wc => ∃ b : Bool, rv = .bool b ∧ Hid (fCtr ⟨op, ref, amt, ctr, zone, B card, flt, pool, mods⟩ = b) ∧ Hid (St (LaidE ⟨op, ref, amt, ctr, zone, B card, flt, pool, mods⟩ ⟨va, vn, vc⟩) w0 [(g, Em.cells ⟨op, ref, amt, ctr, zone, B card, flt, pool, ⟨va, vn, vc⟩⟩, 34)] wc))
   case first =>
    have hf : fCtr ⟨op, ref, amt, ctr, zone, B card, flt, pool, mods⟩ = if u3 = true then !(T3 == []) else ctr == 0 := by unfold fCtr; simp only; rw [← U3.out, ← G3.out]
    have h03 : ctr = 0 → (T3 == []) = false := fun e => by have := ctr_zero; rw [← e, G3.out] at this; simpa using this
    have HF := Lib.hid hf
    have H03 := Lib.hid h03
    clear hf h03
    by_cases hz : ctr = 0
    ·have h3 := H03.out hz
     subst hz
     go_wp2_with (first | fail | ((refine hot_here rfl ?_); (first | ((with_reducible refine at_guard ?_); (first | (refine wpList_pass rfl ?_)); (try simp only [put0, put1, put2, put3, put4])) | ((with_reducible refine at_load (T := 3) ?_); (first | (refine em_ld38 rfl hS rfl rfl (by repeat constructor) ?_)); (try simp only [put0, put1, put2, put3, put4])))) | ((fail_if_success (with_reducible refine wpList_here ?_)); (first | fail)))
     all_goals go_meet
     all_goals exact ⟨true, rfl, Lib.hid (by rw [HF.out, h3]; cases u3 <;> rfl), Lib.hid hS⟩
    ·have hz' : (ctr == 0) = false := by simpa using hz
     clear hz
     obtain ⟨q3, hq3⟩ : ∃ q, (T3 == []) = q := ⟨_, rfl⟩
     have hq3' : (T3 != []) = !q3 := by rw [← hq3]; rfl
     cases u3
     ·skip
      go_wp2_with (first | fail | ((refine hot_here rfl ?_); (first | ((with_reducible refine at_guard ?_); (first | (refine wpList_pass rfl ?_)); (try simp only [put0, put1, put2, put3, put4])) | ((with_reducible refine at_load (T := 3) ?_); (first | (refine em_ld0 rfl hS rfl rfl (by repeat constructor) ?_) | (refine em_ld38 rfl hS rfl rfl (by repeat constructor) ?_)); (try simp only [put0, put1, put2, put3, put4])))) | ((fail_if_success (with_reducible refine wpList_here ?_)); (first | (go_at_call 30; (with_reducible refine (St.call hS fun hl => r17u_k _ HOP.out _ U3 _ hl.1.base).mono ?_); rintro e w ⟨rfl, hS⟩))))
      all_goals go_meet
      all_goals exact ⟨false, rfl, Lib.hid (by rw [HF.out]; simpa using hz'), Lib.hid hS⟩
     ·skip
      go_wp2_with (first | fail | ((refine hot_here rfl ?_); (first | ((with_reducible refine at_load (T := 3) ?_); (first | (refine em_ld0 rfl hS rfl rfl (by repeat constructor) ?_) | (refine em_ld38 rfl hS rfl rfl (by repeat constructor) ?_)); (try simp only [put0, put1, put2, put3, put4])))) | ((fail_if_success (with_reducible refine wpList_here ?_)); (first | (go_at_call 30; (with_reducible refine (St.call hS fun hl => r17u_k _ HOP.out _ U3 _ hl.1.base).mono ?_); rintro e w ⟨rfl, hS⟩) | (go_at_call 32; (with_reducible refine (St.still hS fun hl => r12Name_B _ _ G3 _).mono ?_); rintro e w ⟨rfl, hS⟩))))
      all_goals go_meet
      all_goals exact ⟨!q3, rfl, Lib.hid (by rw [HF.out, hq3]; rfl), Lib.hid hS⟩
   case rest =>
    clear hS
    obtain ⟨b3, rfl, Hb3, HS⟩ := hcut
    have hS := HS.out
    clear HS
    go_upto_if 65 with (first | fail | ((refine hot_here rfl ?_); (first | ((with_reducible refine at_load (T := 3) ?_); (first | (refine em_ld0 rfl hS rfl rfl (by repeat constructor) ?_)); (try simp only [put0, put1, put2, put3, put4])) | ((with_reducible refine at_load (T := 9) ?_); (first | (refine em_ld40 rfl hS rfl rfl (by repeat constructor) ?_)); (try simp only [put0, put1, put2, put3, put4])))) | ((fail_if_success (with_reducible refine wpList_here ?_)); (first | (go_at_call 30; (with_reducible refine (St.call hS fun hl => r17u_c _ HOP.out _ U5 _ hl.1.base).mono ?_); rintro e w ⟨rfl, hS⟩))))
    go_cut [8] (fun rv wc => ∃ b : Bool, rv = .bool b ∧ Hid (fCard ⟨op, ref, amt, ctr, zone, B card, flt, pool, mods⟩ = b) ∧ Hid (St (LaidE ⟨op, ref, amt, ctr, zone, B card, flt, pool, mods⟩ ⟨va, vn, vc⟩) w0 [(g, Em.cells ⟨op, ref, amt, ctr, zone, B card, flt, pool, ⟨va, vn, vc⟩⟩, 34)] wc))
    case first =>
     cases u5
     ·skip
      go_wp2_with (first | fail | ((refine hot_here rfl ?_); (first | fail)) | ((fail_if_success (with_reducible refine wpList_here ?_)); (first | fail)))
      all_goals go_meet
      all_goals exact ⟨c5, rfl, Lib.hid (by unfold fCard; rw [if_neg (by rw [U5.out]; decide)]; simp only; rw [L_B]; exact C5.out), Lib.hid hS⟩
     ·skip
      go_wp2_with (first | fail | ((refine hot_here rfl ?_); (first | ((with_reducible refine at_load (T := 9) ?_); (first | (refine em_ld40 rfl hS rfl rfl (by repeat constructor) ?_)); (try simp only [put0, put1, put2, put3, put4])))) | ((fail_if_success (with_reducible refine wpList_here ?_)); (first | (go_at_call 33; (with_reducible refine (St.still hS fun hl => r02Is_B _ _ G5 _).mono ?_); rintro e w ⟨rfl, hS⟩))))
      all_goals go_meet
      all_goals exact ⟨I5, rfl, Lib.hid (by unfold fCard; rw [if_pos U5.out]; exact G5.out), Lib.hid hS⟩
    case rest =>
     clear hS
     obtain ⟨b5, rfl, Hb5, HS⟩ := hcut
     have hS := HS.out
     clear HS
     go_upto_if 75 with (first | fail | ((refine hot_here rfl ?_); (first | ((with_reducible refine at_load (T := 3) ?_); (first | (refine em_ld0 rfl hS rfl rfl (by repeat constructor) ?_)); (try simp only [put0, put1, put2, put3, put4])) | ((with_reducible refine at_load (T := 29) ?_); (first | (refine em_ld19 rfl hS rfl rfl (by repeat constructor) ?_)); (try simp only [put0, put1, put2, put3, put4])) | ((with_reducible refine ams_shape_ ?_); refine ams_bld_ rfl ?_; (try simp only [put0, put1, put2, put3, put4])))) | ((fail_if_success (with_reducible refine wpList_here ?_)); (first | (go_at_call 30; (with_reducible refine (St.call hS fun hl => r17u_a _ HOP.out _ U2 _ hl.1.base).mono ?_); rintro e w ⟨rfl, hS⟩))))
     go_cut [9] (fun rv wc => ∃ b : Bool, rv = .bool b ∧ Hid (fAmt ⟨op, ref, amt, ctr, zone, B card, flt, pool, mods⟩ = b) ∧ Hid (St (LaidE ⟨op, ref, amt, ctr, zone, B card, flt, pool, mods⟩ ⟨va, vn, vc⟩) w0 [(g, Em.cells ⟨op, ref, amt, ctr, zone, B card, flt, pool, ⟨va, vn, vc⟩⟩, 34)] wc))
     case first =>
      cases u2
      ·skip
       go_wp2_with (first | fail | ((refine hot_here rfl ?_); (first | fail)) | ((fail_if_success (with_reducible refine wpList_here ?_)); (first | fail)))
       all_goals go_meet
       all_goals exact ⟨c2, rfl, Lib.hid (by unfold fAmt; rw [if_neg (by rw [U2.out]; decide)]; exact C2.out), Lib.hid hS⟩
      ·skip
       go_wp2_with (first | fail | ((refine hot_here rfl ?_); (first | ((with_reducible refine at_load (T := 29) ?_); (first | (refine em_ld19 rfl hS rfl rfl (by repeat constructor) ?_)); (try simp only [put0, put1, put2, put3, put4])))) | ((fail_if_success (with_reducible refine wpList_here ?_)); (first | (go_at_call 34; (with_reducible refine (St.call hS fun hl => r14Is_B _ _ G2 _).mono ?_); rintro e w ⟨rfl, hS⟩))))
       all_goals go_meet
       all_goals exact ⟨I2, rfl, Lib.hid (by unfold fAmt; rw [if_pos U2.out]; exact G2.out), Lib.hid hS⟩
     case rest =>
      clear hS
      obtain ⟨b2, rfl, Hb2, HS⟩ := hcut
      have hS := HS.out
      clear HS
      go_upto_if 85 with (first | fail | ((refine hot_here rfl ?_); (first | ((with_reducible refine at_load (T := 3) ?_); (first | (refine em_ld0 rfl hS rfl rfl (by repeat constructor) ?_)); (try simp only [put0, put1, put2, put3, put4])) | ((with_reducible refine at_load (T := 32) ?_); (first | (refine em_ld63 rfl hS rfl rfl (by repeat constructor) ?_)); (try simp only [put0, put1, put2, put3, put4])))) | ((fail_if_success (with_reducible refine wpList_here ?_)); (first | (go_at_call 30; (with_reducible refine (St.call hS fun hl => r17u_m _ HOP.out _ U8 _ hl.1.base).mono ?_); rintro e w ⟨rfl, hS⟩))))
      go_cut [10] (fun rv wc => ∃ b : Bool, rv = .bool b ∧ Hid (fMods ⟨op, ref, amt, ctr, zone, B card, flt, pool, mods⟩ = b) ∧ Hid (St (LaidE ⟨op, ref, amt, ctr, zone, B card, flt, pool, mods⟩ ⟨va, vn, vc⟩) w0 [(g, Em.cells ⟨op, ref, amt, ctr, zone, B card, flt, pool, ⟨va, vn, vc⟩⟩, 34)] wc))
      case first =>
       cases u8
       ·skip
        go_wp2_with (first | fail | ((refine hot_here rfl ?_); (first | fail)) | ((fail_if_success (with_reducible refine wpList_here ?_)); (first | fail)))
        all_goals go_meet
        all_goals exact ⟨c8, rfl, Lib.hid (by unfold fMods; rw [if_neg (by rw [U8.out]; decide)]; exact C8.out), Lib.hid hS⟩
       ·skip
        go_wp2_with (first | fail | ((refine hot_here rfl ?_); (first | ((with_reducible refine at_load (T := 32) ?_); (first | (refine em_ld63 rfl hS rfl rfl (by repeat constructor) ?_)); (try simp only [put0, put1, put2, put3, put4])))) | ((fail_if_success (with_reducible refine wpList_here ?_)); (first | (go_at_call 35; (with_reducible refine (St.call hS fun hl => r17mods_e ⟨op, ref, amt, ctr, zone, B card, flt, pool, mods⟩ ⟨va, vn, vc⟩ _ G8 _ hl).mono ?_); rintro e w ⟨rfl, hS⟩))))
        all_goals go_meet
        all_goals exact ⟨I8, rfl, Lib.hid (by unfold fMods; rw [if_pos U8.out]; exact G8.out), Lib.hid hS⟩
      case rest =>
       clear hS
       obtain ⟨b8, rfl, Hb8, HS⟩ := hcut
       have hS := HS.out
       clear HS
       go_upto_if 95 with (first | fail | ((refine hot_here rfl ?_); (first | ((with_reducible refine at_load (T := 3) ?_); (first | (refine em_ld0 rfl hS rfl rfl (by repeat constructor) ?_)); (try simp only [put0, put1, put2, put3, put4])) | ((with_reducible refine at_load (T := 31) ?_); (first | (refine em_ld57 rfl hS rfl rfl (by repeat constructor) ?_)); (try simp only [put0, put1, put2, put3, put4])) | ((with_reducible refine pol_shape_ ?_); refine pol_bld_ rfl ?_; (try simp only [put0, put1, put2, put3, put4])))) | ((fail_if_success (with_reducible refine wpList_here ?_)); (first | (go_at_call 30; (with_reducible refine (St.call hS fun hl => r17u_p _ HOP.out _ U7 _ hl.1.base).mono ?_); rintro e w ⟨rfl, hS⟩))))
       go_cut [11] (fun rv wc => ∃ b : Bool, rv = .bool b ∧ Hid (fPool ⟨op, ref, amt, ctr, zone, B card, flt, pool, mods⟩ = b) ∧ Hid (St (LaidE ⟨op, ref, amt, ctr, zone, B card, flt, pool, mods⟩ ⟨va, vn, vc⟩) w0 [(g, Em.cells ⟨op, ref, amt, ctr, zone, B card, flt, pool, ⟨va, vn, vc⟩⟩, 34)] wc))
       case first =>
        have hf : fPool ⟨op, ref, amt, ctr, zone, B card, flt, pool, mods⟩ = if u7 = true then !c7 && !(T7 == []) else c7 := by unfold fPool; simp only; rw [← U7.out, C7.out, G7.out]
        have HF := Lib.hid hf
        clear hf
        obtain ⟨q7, hq7⟩ : ∃ q, (T7 == []) = q := ⟨_, rfl⟩
        have hq7' : (T7 != []) = !q7 := by rw [← hq7]; rfl
        cases u7
        ·skip
         go_wp2_with (first | fail | ((refine hot_here rfl ?_); (first | fail)) | ((fail_if_success (with_reducible refine wpList_here ?_)); (first | fail)))
         all_goals go_meet
         all_goals exact ⟨c7, rfl, Lib.hid (by rw [HF.out]; rfl), Lib.hid hS⟩
        ·cases c7
         ·skip
          go_wp2_with (first | fail | ((refine hot_here rfl ?_); (first | ((with_reducible refine at_load (T := 31) ?_); (first | (refine em_ld57 rfl hS rfl rfl (by repeat constructor) ?_)); (try simp only [put0, put1, put2, put3, put4])))) | ((fail_if_success (with_reducible refine wpList_here ?_)); (first | (go_at_call 36; (with_reducible refine (St.call hS fun hl => r08PoolText_is _ _ G7 _ hl.1.base).mono ?_); rintro e w ⟨rfl, hS⟩))))
          all_goals go_meet
          all_goals exact ⟨!q7, rfl, Lib.hid (by rw [HF.out, hq7]; rfl), Lib.hid hS⟩
         ·skip
          go_wp2_with (first | fail | ((refine hot_here rfl ?_); (first | ((with_reducible refine at_guard ?_); (first | (refine wpList_pass rfl ?_)); (try simp only [put0, put1, put2, put3, put4])))) | ((fail_if_success (with_reducible refine wpList_here ?_)); (first | fail)))
          all_goals go_meet
          all_goals exact ⟨false, rfl, Lib.hid (by rw [HF.out]; rfl), Lib.hid hS⟩
       case rest =>
        clear hS
        obtain ⟨b7, rfl, Hb7, HS⟩ := hcut
        have hS := HS.out
        clear HS
        go_upto_if 110 with (first | fail | ((refine hot_here rfl ?_); (first | ((with_reducible refine at_load (T := 3) ?_); (first | (refine em_ld0 rfl hS rfl rfl (by repeat constructor) ?_)); (try simp only [put0, put1, put2, put3, put4])) | ((with_reducible refine at_load (T := 25) ?_); (first | (refine em_ld41 rfl hS rfl rfl (by repeat constructor) ?_)); (try simp only [put0, put1, put2, put3, put4])) | ((with_reducible refine flt_shape_ ?_); refine flt_bld_ rfl ?_; (try simp only [put0, put1, put2, put3, put4])))) | ((fail_if_success (with_reducible refine wpList_here ?_)); (first | (go_at_call 30; (with_reducible refine (St.call hS fun hl => r17u_f _ HOP.out _ U6 _ hl.1.base).mono ?_); rintro e w ⟨rfl, hS⟩))))
        go_cut [12] (fun rv wc => ∃ b : Bool, rv = .bool b ∧ Hid (fFlt ⟨op, ref, amt, ctr, zone, B card, flt, pool, mods⟩ = b) ∧ Hid (St (LaidE ⟨op, ref, amt, ctr, zone, B card, flt, pool, mods⟩ ⟨va, vn, vc⟩) w0 [(g, Em.cells ⟨op, ref, amt, ctr, zone, B card, flt, pool, ⟨va, vn, vc⟩⟩, 34)] wc))
        case first =>
         cases u6
         ·skip
          go_wp2_with (first | fail | ((refine hot_here rfl ?_); (first | fail)) | ((fail_if_success (with_reducible refine wpList_here ?_)); (first | fail)))
          all_goals go_meet
          all_goals exact ⟨c6, rfl, Lib.hid (by rw [fFlt_no _ _ _ _ _ _ _ _ _ U6.out]; exact C6.out), Lib.hid hS⟩
         ·skip
          go_wp2_with (first | fail | ((refine hot_here rfl ?_); (first | ((with_reducible refine at_load (T := 3) ?_); (first | (refine em_ld0 rfl hS rfl rfl (by repeat constructor) ?_)); (try simp only [put0, put1, put2, put3, put4])) | ((with_reducible refine at_load (T := 25) ?_); (first | (refine em_ld41 rfl hS rfl rfl (by repeat constructor) ?_)); (try simp only [put0, put1, put2, put3, put4])))) | ((fail_if_success (with_reducible refine wpList_here ?_)); (first | (go_at_call 37; (with_reducible refine (St.call hS fun hl => r17filter_is _ _ _ G6 _ hl.1.base).mono ?_); rintro e w ⟨rfl, hS⟩))))
          all_goals go_meet
          all_goals exact ⟨I6, rfl, Lib.hid (by rw [fFlt_eq _ _ _ _ _ _ _ _ _ U6.out]; exact G6.out), Lib.hid hS⟩
        case rest =>
         clear hS
         obtain ⟨b6, rfl, Hb6, HS⟩ := hcut
         have hS := HS.out
         clear HS
         go_wp2_with (first | fail | ((refine hot_here rfl ?_); (first | fail)) | ((fail_if_success (with_reducible refine wpList_here ?_)); (first | fail)))
         all_goals go_ret
         all_goals exact ⟨ret_bool (by rw [Hb1.out, Hb2.out, Hb3.out, Hb4.out, Hb5.out, Hb6.out, Hb7.out, Hb8.out]; first | rfl | (simp; done) | (clear Hb1 Hb2 Hb3 Hb4 Hb5 Hb6 Hb7 Hb8 hS; simp_all; done)), hS.below⟩
theorem r17Is_none (e : Ef) (v : Sl) (specs : Int) (h : Hid (opName e.op = [])) (w : World) (hl : LaidE e v w) : Calls Tryz.prog 12 #[.agg (e.at v).cells, .int .i64 specs] w fun x w' => x = .returned (.bool false) ∧ Below w.heap.size w w' := by
 obtain ⟨op, ref, amt, ctr, zone, card, flt, pool, mods⟩ := e
 obtain ⟨va, vn, vc⟩ := v
 change Calls Tryz.prog _ #[.agg (Em.cells ⟨op, ref, amt, ctr, zone, card, flt, pool, ⟨va, vn, vc⟩⟩), _] _ _
 have h2 : Hid (opName op = []) := h
 clear h
 have hS := St.start hl (keepsE _ _)
 go_enter Tryz.func12, Tryz.ntmps12
 go_wp2_with (first | fail | ((refine hot_here rfl ?_); (first | ((with_reducible refine at_load (T := 3) ?_); (first | (refine em_ld0 rfl hS rfl rfl (by repeat constructor) ?_)); (try simp only [put0, put1, put2, put3, put4])) | ((with_reducible refine at_box ?_); (first | (refine wpList_box_agg rfl hS rfl rfl ?_; intro g w hS)); (try simp only [put0, put1, put2, put3, put4])))) | ((fail_if_success (with_reducible refine wpList_here ?_)); (first | (go_at_call 29; (with_reducible refine (St.call hS fun hl => r17Word_B _ _ h2 _).mono ?_); rintro e w ⟨rfl, hS⟩))))
 all_goals go_ret
 all_goals exact ⟨rfl, hS.below⟩
theorem r17Is_any (e : Ef) (v : Sl) (specs : Int) (R : Bool) (HR : Hid (eIs e specs = R)) (w : World) (hl : LaidE e v w) : Calls Tryz.prog 12 #[.agg (e.at v).cells, .int .i64 specs] w fun x w' => x = .returned (.bool R) ∧ Below w.heap.size w w' := by
 rw [← HR.out]
 by_cases h : opName e.op = []
 ·refine (r17Is_none e v specs (Lib.hid h) w hl).mono fun x w' h' => ⟨h'.1.trans (ret_bool ?_), h'.2⟩
  unfold eIs; rw [h]; rfl
 ·obtain ⟨k, hk, h1⟩ := opName_some h
  have hE : eIs e specs = fWhole e specs := by
   unfold eIs
   rw [show (opName e.op == []) = false by simpa using h]; rfl
  rw [hE]
  have hop : 1 ≤ e.op ∧ e.op ≤ 26 := by rw [hk]; have := k.isLt; omega
  obtain ⟨op, ref, amt, ctr, zone, card, flt, pool, mods⟩ := e
  obtain ⟨va, vn, vc⟩ := v
  obtain ⟨p, rfl⟩ : ∃ p, card = B p := ⟨L card, (B_L card).symm⟩
  exact r17Is_walk op ref amt ctr zone p flt pool mods va vn vc specs hop w hl
end Go.Proofs.YtdnnbfbhifelkaaGreatDoor
namespace Go.Proofs.YtdnnbfbhifelkaaGreatDoor
attribute [local irreducible] wpList Code.wp Calls
open Go.ChangeShapes Go.WideShapes Go.RowKit
theorem partS_len {e : Ef} (h : eIs e 4 = true) {f : UInt8} (hf : f ∈ usesS e.op) : (partS e f).length ≤ 8000000 :=
 eWords_len h _ (by rw [words_uses e (e_ok h).opk]; exact .tail _ (List.mem_map.2 ⟨f, hf, rfl⟩))
theorem e_op {e : Ef} (h : eIs e 4 = true) : 1 ≤ e.op ∧ e.op ≤ 26 := by
 obtain ⟨k, hk, h1⟩ := (e_ok h).opk
 rw [hk]; have := k.isLt; omega
theorem r17part_n (e : Ef) (v : Sl) (f : UInt8) (n : Nat) (hn : Hid (n = f.toNat)) (hf : Hid (f = 114 ∨ f = 122 ∨ f = 107 ∨ f = 99 ∨ f = 97 ∨ f = 109 ∨ f = 112 ∨ f = 102)) (T : Str) (HT : Hid (partS e f = T)) (w : World) (hl : LaidE e v w) : Calls Tryz.prog 47 #[.agg (e.at v).cells, .int .u8 (n : Int)] w fun x w' => x = .returned (.string (B T)) ∧ Below w.heap.size w w' := by
 rw [hn.out]
 exact r17part_is e v f hf.out T HT w hl
theorem r17Text_yes (e : Ef) (v : Sl) (hv : eIs e 4 = true) (w0 : World) (hl : LaidE e v w0) : Calls Tryz.prog 14 #[.agg (e.at v).cells] w0 fun x w' => x = .returned (.string (B (eText e))) ∧ Below w0.heap.size w0 w' := by
 have hE : eText e = Lib.join (opName e.op :: (usesS e.op).map (partS e)) [32] := by rw [eText_yes hv, words_uses e (e_ok hv).opk]
 rw [hE]
 clear hE
 have hop := e_op hv
 have HOP := Lib.hid hop
 have hul := uses_len hop
 have hlet := uses_letters hop
 have hpl := fun f hf => partS_len hv (f := f) hf
 have hnl := opName_len e.op
 have HV := Lib.hid hv
 obtain ⟨U, hU⟩ : ∃ U, usesS e.op = U := ⟨_, rfl⟩
 obtain ⟨N0, hN⟩ : ∃ T, opName e.op = T := ⟨_, rfl⟩
 rw [hU] at hul hlet hpl ⊢
 rw [hN] at hnl ⊢
 have HU := Lib.hid hU
 have GN := Lib.hid hN
 have HLET := Lib.hid hlet
 have HPL := Lib.hid hpl
 clear hU hN hv hop hlet hpl
 have hsz : (B U).size = U.length := B_size U
 have hgt := get_l (B U)
 rw [L_B] at hgt
 obtain ⟨op, ref, amt, ctr, zone, card, flt, pool, mods⟩ := e
 obtain ⟨va, vn, vc⟩ := v
 change Calls Tryz.prog _ #[.agg (Em.cells ⟨op, ref, amt, ctr, zone, card, flt, pool, ⟨va, vn, vc⟩⟩)] _ _
 have HIS : Hid (∀ w, LaidE ⟨op, ref, amt, ctr, zone, card, flt, pool, mods⟩ ⟨va, vn, vc⟩ w → Calls Tryz.prog 12 #[.agg (Em.cells ⟨op, ref, amt, ctr, zone, card, flt, pool, ⟨va, vn, vc⟩⟩), .int .i64 4] w fun x w' => x = .returned (.bool true) ∧ Below w.heap.size w w') := Lib.hid fun w hl => r17Is_any ⟨op, ref, amt, ctr, zone, card, flt, pool, mods⟩ ⟨va, vn, vc⟩ 4 true HV w hl
 have HPA : Hid (∀ (f : UInt8) (n : Nat), Hid (n = f.toNat) → Hid (f = 114 ∨ f = 122 ∨ f = 107 ∨ f = 99 ∨ f = 97 ∨ f = 109 ∨ f = 112 ∨ f = 102) → ∀ T : Str, Hid (partS ⟨op, ref, amt, ctr, zone, card, flt, pool, mods⟩ f = T) → ∀ w, LaidE ⟨op, ref, amt, ctr, zone, card, flt, pool, mods⟩ ⟨va, vn, vc⟩ w → Calls Tryz.prog 47 #[.agg (Em.cells ⟨op, ref, amt, ctr, zone, card, flt, pool, ⟨va, vn, vc⟩⟩), .int .u8 (n : Int)] w fun x w' => x = .returned (.string (B T)) ∧ Below w.heap.size w w') := Lib.hid fun f n hn hf T HT w hl => r17part_n ⟨op, ref, amt, ctr, zone, card, flt, pool, mods⟩ ⟨va, vn, vc⟩ f n hn hf T HT w hl
 have hS := St.start hl (keepsE _ _)
 go_enter Tryz.func14, Tryz.ntmps14
 go_wp2_with (first | fail | ((refine hot_here rfl ?_); (first | ((with_reducible refine at_load (T := 34) ?_); (first | (refine em_ldw rfl hS rfl rfl (by repeat constructor) ?_)); (try simp only [put0, put1, put2, put3, put4])) | ((with_reducible refine at_load (T := 3) ?_); (first | (refine em_ld0 rfl hS rfl rfl (by repeat constructor) ?_)); (try simp only [put0, put1, put2, put3, put4])) | ((with_reducible refine at_box ?_); (first | (refine wpList_box_agg rfl hS rfl rfl ?_; intro g w hS)); (try simp only [put0, put1, put2, put3, put4])))) | ((fail_if_success (with_reducible refine wpList_here ?_)); (first | (go_at_call 12; (with_reducible refine (St.call hS fun hl => HIS.out _ hl).mono ?_); rintro e w ⟨rfl, hS⟩) | (go_at_call 29; (with_reducible refine (St.call hS fun hl => r17Word_B _ _ GN _).mono ?_); rintro e w ⟨rfl, hS⟩) | (go_at_call 46; (with_reducible refine (St.still hS fun hl => r17Uses_is _ HOP.out _ HU _).mono ?_); rintro e w ⟨rfl, hS⟩))))
 go_loopw [3, 5] (fun sv iv wr => ∃ (k : Nat) (p : Str), k ≤ U.length ∧ p.length ≤ 100 + 9000000 * k ∧ sv = .string (B p) ∧ iv = .int .i64 k ∧ Hid (Lib.join (N0 :: (U.take k).map (partS ⟨op, ref, amt, ctr, zone, card, flt, pool, mods⟩)) [32] = p) ∧ Hid (St (LaidE ⟨op, ref, amt, ctr, zone, card, flt, pool, mods⟩ ⟨va, vn, vc⟩) w0 [(g, Em.cells ⟨op, ref, amt, ctr, zone, card, flt, pool, ⟨va, vn, vc⟩⟩, 34)] wr)) (fun _ iv _ => U.length - (intOf iv).toNat)
 case atStart => exact ⟨0, N0, by omega, by omega, rfl, rfl, Lib.hid (by rw [List.take_zero, List.map_nil, Lib.join_one]), Lib.hid hS⟩
 case round =>
  clear hS
  obtain ⟨k, p, hk, hp, rfl, rfl, HP, HS⟩ := hrel
  have hS := HS.out
  clear HS
  by_cases hlt : k < U.length
  ·have hbt := Lib.hid (byt_at' hlt)
   have HLE := Lib.hid (HLET.out U[k] (List.getElem_mem hlt))
   have hTl := HPL.out U[k] (List.getElem_mem hlt)
   obtain ⟨T, hT⟩ : ∃ T, partS ⟨op, ref, amt, ctr, zone, card, flt, pool, mods⟩ U[k] = T := ⟨_, rfl⟩
   rw [hT] at hTl
   have HN : Hid (Lib.join (N0 :: (U.take (k + 1)).map (partS ⟨op, ref, amt, ctr, zone, card, flt, pool, mods⟩)) [32] = p ++ [32] ++ T) := Lib.hid (by
    rw [List.take_succ, List.getElem?_eq_getElem hlt, Option.toList_some, List.map_append, List.map_cons, List.map_nil, ← List.cons_append, join_snoc, if_neg (by simp), HP.out, hT])
   have HT := Lib.hid hT
   clear hT
   go_wp2_with (first | fail | ((refine hot_here rfl ?_); (first | fail)) | ((fail_if_success (with_reducible refine wpList_here ?_)); (first | ((with_reducible refine region_here ?_); refine wp_region_St hS (by kernel_rfl) (by kernel_rfl) ?_) | ((with_reducible refine runS_end ?_); intro w hS) | ((with_reducible refine rat_cat ?_); (first | (refine runS_cat rfl rfl rfl rfl (by first | (simp only [List.length_append, List.length_cons, List.length_nil]; omega) | fail) (fun _ _ _ h => h) ?_)); (try simp only [put0, put1, put2, put3, put4])) | ((with_reducible refine rat_load ?_); (first | (refine em_rlw rfl rfl rfl (by repeat constructor) (fun _ _ _ h => h) ?_)); (try simp only [put0, put1, put2, put3, put4])) | ((with_reducible refine rat_call ?_); (first | (refine runS_call (v := ?_) (args := ?_) 47 rfl (fun _ _ _ h => h) ?_ ?_ ?_; rotate_left 2; (focus ((intro w; go_simp) <;> with_reducible rfl)); (focus (intro w hS; refine St.callE hS (fun hl => HPA.out U[k] (byt U k) hbt HLE T HT _ hl) ?_; with_reducible rfl)))); (try simp only [put0, put1, put2, put3, put4])) | ((with_reducible refine runS_here ?_); (refine runS_val (v := ?_) rfl (fun _ _ _ h => h) ?_ ?_; rotate_left; (focus ((intro w hS; go_simp) <;> with_reducible rfl))); (try simp only [put0, put1, put2, put3, put4])))))
   go_roundw
   case rel => exact ⟨k + 1, p ++ [32] ++ T, by omega, by simp; omega, by first | rfl | simp, by go_num, HN, Lib.hid hS⟩
   case measure => simp [intOf]; omega
  ·obtain rfl : k = U.length := by omega
   go_wp2_with (first | fail | ((refine hot_here rfl ?_); (first | fail)) | ((fail_if_success (with_reducible refine wpList_here ?_)); (first | fail)))
   all_goals go_ret
   all_goals exact ⟨ret_B (by rw [← HP.out, List.take_length]), hS.below⟩
theorem r17Text_none (e : Ef) (v : Sl) (HV : Hid (eIs e 4 = false)) (w : World) (hl : LaidE e v w) : Calls Tryz.prog 14 #[.agg (e.at v).cells] w fun x w' => x = .returned (.string (B [])) ∧ Below w.heap.size w w' := by
 have hS := St.start hl (keepsE e v)
 go_enter Tryz.func14, Tryz.ntmps14
 go_wp2_with (first | fail | ((refine hot_here rfl ?_); (first | ((with_reducible refine at_load (T := 34) ?_); (first | (refine em_ldw rfl hS rfl rfl (by repeat constructor) ?_)); (try simp only [put0, put1, put2, put3, put4])) | ((with_reducible refine at_box ?_); (first | (refine wpList_box_agg rfl hS rfl rfl ?_; intro g w hS)); (try simp only [put0, put1, put2, put3, put4])))) | ((fail_if_success (with_reducible refine wpList_here ?_)); (first | (go_at_call 12; (with_reducible refine (St.call hS fun hl => r17Is_any e v 4 _ HV _ hl).mono ?_); rintro e w ⟨rfl, hS⟩))))
 all_goals go_ret
 all_goals exact ⟨rfl, hS.below⟩
theorem r17Text_any (e : Ef) (v : Sl) (T : Str) (HT : Hid (eText e = T)) (w : World) (hl : LaidE e v w) : Calls Tryz.prog 14 #[.agg (e.at v).cells] w fun x w' => x = .returned (.string (B T)) ∧ Below w.heap.size w w' := by
 rw [← HT.out]
 cases hv : eIs e 4 with
 | false => rw [eText_no hv]; exact r17Text_none e v (Lib.hid hv) w hl
 | true => exact r17Text_yes e v hv w hl
end Go.Proofs.YtdnnbfbhifelkaaGreatDoor
