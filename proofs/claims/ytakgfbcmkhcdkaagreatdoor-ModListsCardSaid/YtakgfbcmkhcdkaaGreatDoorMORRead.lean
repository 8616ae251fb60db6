/- Walks of the reference: keywords' text; colours', types' and keywords' readings (cardgameref09, 10, 11). Conditions: bounds. Walks of the reference: the reading of keywords (cardgameref11). Conditions: Laid; the text is shorter than a hundred million bytes. -/
import Derived.Test.YtakgfbcmkhcdkaaGreatDoorMORef
import Derived.Test.YtakgfbcmkhcdkaaGreatDoorMOParse
namespace Go.Proofs.YtakgfbcmkhcdkaaGreatDoor
set_option linter.all false
open Go.ChangeShapes Go.WideShapes Go.RowKit
attribute [local irreducible] wpList Code.wp Calls
theorem r11Is_nat (m : Nat) (hm : m ≤ 131071) (w : World) : Calls Tryz.prog 87 #[.int .i64 m] w fun e w' => e = .returned (.bool true) ∧ w = w' := by
  go_enter Tryz.func87, Tryz.ntmps87
  go_wp2
  all_goals go_ret
  all_goals first | exact ⟨rfl, rfl⟩ | exact ⟨ret_bool (by simp; omega), rfl⟩
theorem kw_le : ∀ i : Fin 17, (wd kwT i.val).length ≤ 20 := by decide +kernel
theorem rKey_is (i : Nat) (hi : i < 17) (W : Str) (h : Hid (wd kwT i = W)) (w : World) : Calls Tryz.prog 88 #[.int .i64 i] w fun e w' => e = .returned (.string (B W)) ∧ Below w.heap.size w w' :=
  (fKey_any i hi w).mono fun e w' h' => ⟨by rw [h'.1, h.out], h'.2⟩
theorem jk_len (m : Nat) (k : Nat) : (jBits kwT m [43] k).length ≤ 200 * k := jBits_len kwT m [43] (by decide) (by decide) k
theorem jk_step (m k : Nat) : jBits kwT m [43] (k + 1) = if m.testBit k = true then (if jBits kwT m [43] k = [] then wd kwT k else jBits kwT m [43] k ++ ([43] ++ wd kwT k)) else jBits kwT m [43] k := by
  rw [jBits, List.append_assoc]; rfl
set_option maxRecDepth 100000 in
set_option maxHeartbeats 4000000 in
theorem r11Text_any (m : Nat) (hm : m < 2 ^ 17) (w0 : World) (hl : Laid w0) : Calls Tryz.prog 43 #[.int .i64 m] w0 fun e w' => e = .returned (.string (B (keyText m))) ∧ Below w0.heap.size w0 w' := by
  have HJ := Lib.hid (jKeys m hm)
  have hm' : m ≤ 131071 := by omega
  have hS := St.start hl keepsL
  go_enter Tryz.func43, Tryz.ntmps43
  go_wp2_with (first | (go_at_call 87; (with_reducible refine (St.still hS fun hl => r11Is_nat m hm' _).mono ?_); rintro e w ⟨rfl, hS⟩))
  go_loopw [0, 3, 4] (fun mv sv iv wr => ∃ (k x : Nat) (p : Str), k ≤ 17 ∧ x ≤ 131071 ∧ p.length ≤ 200 * k ∧ mv = .int .i64 x ∧ sv = .string (B p) ∧ iv = .int .i64 k ∧ Hid (x = m / 2 ^ k) ∧ Hid (jBits kwT m [43] k = p) ∧ Hid (St Laid w0 [] wr)) (fun _ _ iv _ => 17 - (intOf iv).toNat)
  case atStart => exact ⟨0, m, [], by omega, hm', by simp, rfl, rfl, rfl, by simp [Hid], rfl, Lib.hid hS⟩
  case round =>
    clear hS
    obtain ⟨k, x, p, hk, hx, hp, rfl, rfl, rfl, HX, HP, HS⟩ := hrel
    have hS := HS.out
    clear HS
    by_cases hlt : k < 17
    · have HX2 : Hid (x / 2 = m / 2 ^ (k + 1)) := Lib.hid (by rw [HX.out, Nat.pow_succ, Nat.div_div_eq_div_mul])
      have hst := jk_step m k
      rw [Nat.testBit_eq_decide_div_mod_eq, ← HX.out, HP.out] at hst
      have hw := kw_le ⟨k, hlt⟩
      simp only at hw
      generalize hW : wd kwT k = W at *
      have HW := Lib.hid hW
      clear hW
      by_cases hb : x % 2 = 1
      · rw [decide_eq_true hb, if_pos rfl] at hst
        by_cases hp0 : p = []
        · subst hp0
          rw [if_pos rfl] at hst
          have HN := Lib.hid hst
          clear hst
          go_wp2_with (first | (go_at_call 88; (with_reducible refine (St.call hS fun hl => rKey_is k hlt _ HW _).mono ?_); rintro e w ⟨rfl, hS⟩) | ((with_reducible refine at_cat ?_); (first | (refine wpList_cat rfl rfl rfl rfl (by first | (simp only [List.length_append, List.length_cons, List.length_nil]; omega) | fail) ?_)); (try simp only [Act.put, List.setIfInBounds_toArray, List.set_cons_zero, List.set_cons_succ])))
          go_roundw
          case rel => exact ⟨k + 1, x / 2, W, by omega, by omega, by omega, by go_num, rfl, by go_num, HX2, HN, Lib.hid hS⟩
          case measure => simp [intOf]; omega
        · rw [if_neg hp0] at hst
          have hp1 : (p == []) = false := by simpa using hp0
          have HN := Lib.hid hst
          clear hst hp0
          go_wp2_with (first | (go_at_call 88; (with_reducible refine (St.call hS fun hl => rKey_is k hlt _ HW _).mono ?_); rintro e w ⟨rfl, hS⟩) | ((with_reducible refine at_cat ?_); (first | (refine wpList_cat rfl rfl rfl rfl (by first | (simp only [List.length_append, List.length_cons, List.length_nil]; omega) | fail) ?_)); (try simp only [Act.put, List.setIfInBounds_toArray, List.set_cons_zero, List.set_cons_succ])))
          go_roundw
          case rel => exact ⟨k + 1, x / 2, p ++ ([43] ++ W), by omega, by omega, by simp; omega, by go_num, by simp [B_append], by go_num, HX2, HN, Lib.hid hS⟩
          case measure => simp [intOf]; omega
      · have hb' : x % 2 = 0 := by omega
        rw [decide_eq_false hb, if_neg (by decide)] at hst
        have HN := Lib.hid hst
        clear hst
        go_wp2_with (first | fail)
        go_roundw
        case rel => exact ⟨k + 1, x / 2, p, by omega, by omega, by omega, by go_num, rfl, by go_num, HX2, HN, Lib.hid hS⟩
        case measure => simp [intOf]; omega
    · obtain rfl : k = 17 := by omega
      rw [HP.out] at HJ
      by_cases hp0 : p = []
      · subst hp0
        go_wp2_with (first | fail)
        go_ret
        exact ⟨ret_B (by rw [HJ.out]; rfl), hS.below⟩
      · have hp1 : (p == []) = false := by simpa using hp0
        have HE : Hid (keyText m = p) := Lib.hid (by rw [HJ.out, if_neg hp0])
        clear hp0
        go_wp2_with (first | fail)
        go_ret
        exact ⟨ret_B HE.out.symm, hS.below⟩
def findFrom (f : Nat → Str) (s : Str) (k n : Nat) : Option Nat := (List.range' k n).find? fun m => f m == s
theorem findFrom_step (f : Nat → Str) (s : Str) (k n : Nat) : findFrom f s k (n + 1) = if f k = s then some k else findFrom f s (k + 1) n := by
  unfold findFrom
  rw [List.range'_succ, List.find?_cons]
  by_cases h : f k = s
  · rw [if_pos h, show (f k == s) = true by simpa using h]
  · rw [if_neg h, show (f k == s) = false by simpa using h]
theorem ptR_from (s : Str) : ptR s = findFrom typesText s 1 63 := rfl
theorem pcOf_from (s : Str) : pcOf s = findFrom colorText s 0 32 := by unfold pcOf findFrom; rw [List.range_eq_range']
theorem ret_pair {a b c d : Int} (h1 : a = c) (h2 : b = d) : Ending.returned (.tuple #[.int .i64 a, .int .i64 b]) = .returned (.tuple #[.int .i64 c, .int .i64 d]) := by rw [h1, h2]
theorem rTypes_is (m : Nat) (h1 : 1 ≤ m) (h2 : m ≤ 63) (T : Str) (h : Hid (typesText m = T)) (w : World) : Calls Tryz.prog 41 #[.int .i64 m] w fun e w' => e = .returned (.string (B T)) ∧ Below w.heap.size w w' :=
  (rTypesText_any m h1 h2 w).mono fun e w' h' => ⟨by rw [h'.1, h.out], h'.2⟩
theorem rColors_is (m : Nat) (h1 : m < 32) (T : Str) (h : Hid (colorText m = T)) (w : World) (hl : Laid w) : Calls Tryz.prog 42 #[.int .i64 m] w fun e w' => e = .returned (.string (B T)) ∧ Below w.heap.size w w' :=
  (r09Text_any m h1 w hl).mono fun e w' h' => ⟨by rw [h'.1, h.out], h'.2⟩
set_option maxRecDepth 100000 in
set_option maxHeartbeats 4000000 in
theorem r10ParseTypes_any (s : Str) (w0 : World) (hl : Laid w0) : Calls Tryz.prog 106 #[.string (B s)] w0 fun e w' => e = .returned (.tuple #[.int .i64 (optN (ptR s)), .int .i64 (optE (ptR s))]) ∧ Below w0.heap.size w0 w' := by
  rw [ptR_from]
  obtain ⟨R, hR⟩ : ∃ R, findFrom typesText s 1 63 = R := ⟨_, rfl⟩
  rw [hR]
  have HR := Lib.hid hR
  clear hR
  have hS := St.start hl keepsL
  go_enter Tryz.func106, Tryz.ntmps106
  go_wp2_with (first | fail)
  go_loopw [4] (fun mv wr => ∃ k : Nat, 1 ≤ k ∧ k ≤ 64 ∧ mv = .int .i64 k ∧ Hid (findFrom typesText s k (64 - k) = R) ∧ Hid (St Laid w0 [] wr)) (fun mv _ => 64 - (intOf mv).toNat)
  case atStart => exact ⟨1, by omega, by omega, rfl, HR, Lib.hid hS⟩
  case round =>
    clear hS
    obtain ⟨k, hk1, hk2, rfl, HF, HS⟩ := hrel
    have hS := HS.out
    clear HS
    by_cases hlt : k ≤ 63
    · have hst := findFrom_step typesText s k (63 - k)
      rw [show 63 - k + 1 = 64 - k by omega, HF.out] at hst
      obtain ⟨T, hT⟩ : ∃ T, typesText k = T := ⟨_, rfl⟩
      rw [hT] at hst
      have HT := Lib.hid hT
      clear hT
      by_cases hx : T = s
      · subst hx
        rw [if_pos rfl] at hst
        have HN := Lib.hid hst
        clear hst
        go_wp2_with (first | (go_at_call 41; (with_reducible refine (St.call hS fun hl => rTypes_is k hk1 hlt _ HT _).mono ?_); rintro e w ⟨rfl, hS⟩))
        go_ret2
        exact ⟨by rw [HN.out]; rfl, hS.below⟩
      · rw [if_neg hx] at hst
        have hx1 : (T == s) = false := by simpa using hx
        have HN : Hid (findFrom typesText s (k + 1) (64 - (k + 1)) = R) := Lib.hid (by rw [hst, show 64 - (k + 1) = 63 - k by omega])
        clear hst hx
        go_wp2_with (first | (go_at_call 41; (with_reducible refine (St.call hS fun hl => rTypes_is k hk1 hlt _ HT _).mono ?_); rintro e w ⟨rfl, hS⟩))
        go_roundw
        case rel => exact ⟨k + 1, by omega, by omega, by go_num, HN, Lib.hid hS⟩
        case measure => simp [intOf]; omega
    · obtain rfl : k = 64 := by omega
      have HN : Hid (none = R) := HF
      go_wp2_with (first | fail)
      go_ret2
      exact ⟨by rw [← HN.out]; rfl, hS.below⟩
set_option maxRecDepth 100000 in
set_option maxHeartbeats 4000000 in
theorem r09Parse_any (s : Str) (w0 : World) (hl : Laid w0) : Calls Tryz.prog 107 #[.string (B s)] w0 fun e w' => e = .returned (.tuple #[.int .i64 (optN (pcOf s)), .int .i64 (optE (pcOf s))]) ∧ Below w0.heap.size w0 w' := by
  rw [pcOf_from]
  obtain ⟨R, hR⟩ : ∃ R, findFrom colorText s 0 32 = R := ⟨_, rfl⟩
  rw [hR]
  have HR := Lib.hid hR
  clear hR
  have hS := St.start hl keepsL
  go_enter Tryz.func107, Tryz.ntmps107
  go_wp2_with (first | fail)
  go_loopw [4] (fun mv wr => ∃ k : Nat, k ≤ 32 ∧ mv = .int .i64 k ∧ Hid (findFrom colorText s k (32 - k) = R) ∧ Hid (St Laid w0 [] wr)) (fun mv _ => 32 - (intOf mv).toNat)
  case atStart => exact ⟨0, by omega, rfl, HR, Lib.hid hS⟩
  case round =>
    clear hS
    obtain ⟨k, hk2, rfl, HF, HS⟩ := hrel
    have hS := HS.out
    clear HS
    by_cases hlt : k ≤ 31
    · have hst := findFrom_step colorText s k (31 - k)
      rw [show 31 - k + 1 = 32 - k by omega, HF.out] at hst
      obtain ⟨T, hT⟩ : ∃ T, colorText k = T := ⟨_, rfl⟩
      rw [hT] at hst
      have HT := Lib.hid hT
      clear hT
      by_cases hx : T = s
      · subst hx
        rw [if_pos rfl] at hst
        have HN := Lib.hid hst
        clear hst
        go_wp2_with (first | (go_at_call 42; (with_reducible refine (St.call hS fun hl => rColors_is k (by omega) _ HT _ hl).mono ?_); rintro e w ⟨rfl, hS⟩))
        go_ret2
        exact ⟨by rw [HN.out]; rfl, hS.below⟩
      · rw [if_neg hx] at hst
        have hx1 : (T == s) = false := by simpa using hx
        have HN : Hid (findFrom colorText s (k + 1) (32 - (k + 1)) = R) := Lib.hid (by rw [hst, show 32 - (k + 1) = 31 - k by omega])
        clear hst hx
        go_wp2_with (first | (go_at_call 42; (with_reducible refine (St.call hS fun hl => rColors_is k (by omega) _ HT _ hl).mono ?_); rintro e w ⟨rfl, hS⟩))
        go_roundw
        case rel => exact ⟨k + 1, by omega, by go_num, HN, Lib.hid hS⟩
        case measure => simp [intOf]; omega
    · obtain rfl : k = 32 := by omega
      have HN : Hid (none = R) := HF
      go_wp2_with (first | fail)
      go_ret2
      exact ⟨by rw [← HN.out]; rfl, hS.below⟩
theorem rKeys_is (m : Nat) (h1 : m < 2 ^ 17) (T : Str) (h : Hid (keyText m = T)) (w : World) (hl : Laid w) : Calls Tryz.prog 43 #[.int .i64 m] w fun e w' => e = .returned (.string (B T)) ∧ Below w.heap.size w w' :=
  (r11Text_any m h1 w hl).mono fun e w' h' => ⟨by rw [h'.1, h.out], h'.2⟩
theorem rk_len (s : Str) : ∀ k, (rkFold s k).1 < 2 ^ k ∧ (rkFold s k).2.length ≤ s.length
  | 0 => ⟨by simp [rkFold], Nat.le_refl _⟩
  | k + 1 => by
    obtain ⟨h1, h2⟩ := rk_len s k
    rw [rkFold_succ]
    unfold rkStep
    split
    · refine ⟨by simp only [Nat.pow_succ]; omega, ?_⟩
      simp only [List.length_drop]; omega
    · exact ⟨by rw [Nat.pow_succ]; omega, h2⟩
end Go.Proofs.YtakgfbcmkhcdkaaGreatDoor
namespace Go.Proofs.YtakgfbcmkhcdkaaGreatDoor
set_option linter.all false
open Go.ChangeShapes Go.WideShapes Go.RowKit
attribute [local irreducible] wpList Code.wp Calls
theorem rkFold_zero (s : Str) : rkFold s 0 = (0, s) := rfl
theorem rkOf_def (s : Str) : rkOf s = if s = noneW then some 0 else if keyText (rkFold s 17).1 = s then some (rkFold s 17).1 else none := rfl
theorem rk_none : noneW = [110, 111, 110, 101] := rfl
theorem rk_pow (k : Nat) (hk : k ≤ 17) : 2 ^ k ≤ 131072 := Nat.pow_le_pow_right (n := 2) (by omega) hk
attribute [local irreducible] rkFold keyText rkOf
set_option maxRecDepth 100000 in
set_option maxHeartbeats 8000000 in
theorem r11Parse_any (s : Str) (hs : s.length < 100000000) (w0 : World) (hl : Laid w0) : Calls Tryz.prog 108 #[.string (B s)] w0 fun e w' => e = .returned (.tuple #[.int .i64 (optN (rkOf s)), .int .i64 (optE (rkOf s))]) ∧ Below w0.heap.size w0 w' := by
  obtain ⟨R, hR⟩ : ∃ R, rkOf s = R := ⟨_, rfl⟩
  rw [hR]
  have HR := Lib.hid hR
  clear hR
  have hS := St.start hl keepsL
  by_cases hn : s = [110, 111, 110, 101]
  · obtain rfl : R = some 0 := by
      have h := HR.out; rw [rkOf_def, rk_none, if_pos hn] at h; exact h.symm
    subst hn
    clear HR
    go_enter Tryz.func108, Tryz.ntmps108
    go_wp2_with (first | fail)
    go_ret2
    exact ⟨rfl, hS.below⟩
  · have HR2 : Hid ((if keyText (rkFold s 17).1 = s then some (rkFold s 17).1 else none) = R) := by
      have h := HR.out; rw [rkOf_def, rk_none, if_neg hn] at h; exact Lib.hid h
    have hn1 : (s == [110, 111, 110, 101]) = false := by simpa using hn
    clear HR hn
    go_enter Tryz.func108, Tryz.ntmps108
    go_wp2_with (first | fail)
    go_loopw [4, 5, 6, 7] (fun mv bv rv iv wr => ∃ (k M b : Nat) (r : Str), k ≤ 17 ∧ M ≤ 131072 ∧ b ≤ 131072 ∧ r.length < 100000000 ∧ mv = .int .i64 M ∧ bv = .int .i64 b ∧ rv = .string (B r) ∧ iv = .int .i64 k ∧ Hid (b = 2 ^ k) ∧ Hid (rkFold s k = (M, r)) ∧ Hid (St Laid w0 [] wr)) (fun _ _ _ iv _ => 17 - (intOf iv).toNat)
    case atStart => exact ⟨0, 0, 1, s, by omega, by omega, by omega, hs, rfl, rfl, rfl, rfl, Lib.hid rfl, Lib.hid (rkFold_zero s), Lib.hid hS⟩
    case round =>
      clear hS
      obtain ⟨k, M, b, r, hk, hM, hb, hr, rfl, rfl, rfl, rfl, HB, HF, HS⟩ := hrel
      have hS := HS.out
      clear HS
      by_cases hlt : k < 17
      · have hst := rkFold_succ s k
        rw [HF.out] at hst
        have hw := kw_le ⟨k, hlt⟩
        simp only at hw
        have hh : rkHit r k = (Lib.hasPrefix r (wd kwT k) && (r.length == (wd kwT k).length || r.getD (wd kwT k).length 0 == 43)) := rfl
        unfold rkStep at hst
        simp only at hst
        rw [hh] at hst
        clear hh
        generalize hW : wd kwT k = W at *
        have HW := Lib.hid hW
        clear hW
        have HB2 : Hid (b * 2 = 2 ^ (k + 1)) := Lib.hid (by rw [HB.out, Nat.pow_succ])
        have hbk : b ≤ 65536 := by rw [HB.out]; exact Nat.pow_le_pow_right (n := 2) (by omega) (by omega : k ≤ 16)
        have hMb : M + b ≤ 131072 := by
          have := (rk_len s k).1
          rw [HF.out] at this
          simp only at this
          have h2 : 2 ^ k + 2 ^ k ≤ 131072 := by rw [← Nat.two_mul, Nat.mul_comm, ← Nat.pow_succ]; exact rk_pow _ (by omega)
          rw [HB.out]; omega
        have hx1 : (B r).extract 0 W.length = B (r.take W.length) := L_inj (by rw [L_extract, L_B, L_B]; simp)
        have hx2 : (B r).extract W.length r.length = B (r.drop W.length) := L_inj (by rw [L_extract, L_B, L_B, List.take_of_length_le (Nat.le_refl _)])
        have hsz : (B r).size = r.length := B_size r
        by_cases hn1 : W.length ≤ r.length
        · by_cases hp : r.take W.length = W
          · have hpre : Lib.hasPrefix r W = true := by unfold Lib.hasPrefix; exact List.isPrefixOf_iff_prefix.2 ⟨r.drop W.length, by conv => rhs; rw [← List.take_append_drop W.length r, hp]⟩
            have hp1 : (r.take W.length == W) = true := by simpa using hp
            rw [hpre, Bool.true_and] at hst
            by_cases hl1 : r.length = W.length
            · have hl2 : ((r.length : Int) == (W.length : Int)) = true := by simp [hl1]
              have HN : Hid (rkFold s (k + 1) = (M + b, [])) := by
                refine Lib.hid ?_
                rw [hst, if_pos (by simp [hl1]), HB.out, List.drop_eq_nil_of_le (show r.length ≤ W.length by omega)]; rfl
              have hd : r.drop W.length = [] := List.drop_eq_nil_of_le (by omega)
              rw [hd] at hx2
              clear hst hpre hp hd HB HF
              go_wp2_with (first | (go_at_call 88; (with_reducible refine (St.call hS fun hl => rKey_is k hlt _ HW _).mono ?_); rintro e w ⟨rfl, hS⟩) | ((with_reducible refine region_here ?_); refine wp_region_St hS (by kernel_rfl) (by kernel_rfl) ?_) | ((with_reducible refine runS_end ?_); intro w hS) | ((with_reducible refine rat_guard ?_); (first | (refine runS_pass rfl (fun _ _ _ h => h) ?_)); (try simp only [Act.put, List.setIfInBounds_toArray, List.set_cons_zero, List.set_cons_succ])) | ((with_reducible refine rat_call ?_); (first | (refine runS_call (v := ?_) (args := ?_) 88 rfl (fun _ _ _ h => h) ?_ ?_ ?_; rotate_left 2; (focus ((intro w; go_simp) <;> with_reducible rfl)); (focus (intro w hS; refine St.callE hS (fun hl => rKey_is k hlt _ HW _) ?_; with_reducible rfl)))); (try simp only [Act.put, List.setIfInBounds_toArray, List.set_cons_zero, List.set_cons_succ])) | ((with_reducible refine runS_here ?_); (refine runS_val (v := ?_) rfl (fun _ _ _ h => h) ?_ ?_; rotate_left; (focus ((intro w hS; go_simp) <;> with_reducible rfl))); (try simp only [Act.put, List.setIfInBounds_toArray, List.set_cons_zero, List.set_cons_succ])))
              go_roundw
              case rel => exact ⟨k + 1, M + b, b * 2, [], by omega, by omega, by omega, by simp, by go_num, by go_num, rfl, by go_num, HB2, HN, Lib.hid hS⟩
              case measure => simp [intOf]; omega
            · have hlt2 : W.length < r.length := by omega
              have hl2 : ((r.length : Int) == (W.length : Int)) = false := by simp; omega
              have hg := get_l (B r)
              rw [L_B] at hg
              have hby : byt r W.length = (r.getD W.length 0).toNat := rfl
              by_cases hc : r.getD W.length 0 = 43
              · rw [hc] at hby hst
                have hby' : byt r W.length = 43 := hby
                have hdl : (r.drop W.length).length = r.length - W.length := List.length_drop
                have hd0 : (r.drop W.length == []) = false := by
                  rw [beq_eq_false_iff_ne]; intro e; rw [e] at hdl; simp at hdl; omega
                have hx3 : (B (r.drop W.length)).extract 1 (r.drop W.length).length = B ((r.drop W.length).drop 1) := L_inj (by rw [L_extract, L_B, L_B, List.take_of_length_le (Nat.le_refl _)])
                have hsz2 : (B (r.drop W.length)).size = (r.drop W.length).length := B_size _
                have HN : Hid (rkFold s (k + 1) = (M + b, (r.drop W.length).drop 1)) := by
                  refine Lib.hid ?_
                  rw [hst, if_pos (by simp), HB.out]
                clear hst hpre hp hby HB HF
                generalize r.drop W.length = q at *
                have hx4 : (B q).extract 1 (r.length - W.length) = B (q.drop 1) := by rw [← hdl]; exact hx3
                go_wp2_with (first | (go_at_call 88; (with_reducible refine (St.call hS fun hl => rKey_is k hlt _ HW _).mono ?_); rintro e w ⟨rfl, hS⟩) | ((with_reducible refine region_here ?_); refine wp_region_St hS (by kernel_rfl) (by kernel_rfl) ?_) | ((with_reducible refine runS_end ?_); intro w hS) | ((with_reducible refine rat_call ?_); (first | (refine runS_call (v := ?_) (args := ?_) 88 rfl (fun _ _ _ h => h) ?_ ?_ ?_; rotate_left 2; (focus ((intro w; go_simp) <;> with_reducible rfl)); (focus (intro w hS; refine St.callE hS (fun hl => rKey_is k hlt _ HW _) ?_; with_reducible rfl)))); (try simp only [Act.put, List.setIfInBounds_toArray, List.set_cons_zero, List.set_cons_succ])) | ((with_reducible refine runS_here ?_); (refine runS_val (v := ?_) rfl (fun _ _ _ h => h) ?_ ?_; rotate_left; (focus ((intro w hS; go_simp) <;> with_reducible rfl))); (try simp only [Act.put, List.setIfInBounds_toArray, List.set_cons_zero, List.set_cons_succ])))
                go_roundw
                case rel => exact ⟨k + 1, M + b, b * 2, q.drop 1, by omega, by omega, by omega, by simp; omega, by go_num, by go_num, by simp, by go_num, HB2, HN, Lib.hid hS⟩
                case measure => simp [intOf]; omega
              · have hby' : ¬ byt r W.length = 43 := by
                  rw [hby]; intro e; exact hc (UInt8.toNat_inj.1 e)
                have HN : Hid (rkFold s (k + 1) = (M, r)) := by
                  refine Lib.hid ?_
                  have e1 : (r.length == W.length) = false := by simpa using hl1
                  have e2 : (r.getD W.length 0 == 43) = false := by simpa using hc
                  rw [hst, e1, e2, if_neg (by decide)]
                clear hst hpre hp hby hc HB HF
                go_wp2_with (first | (go_at_call 88; (with_reducible refine (St.call hS fun hl => rKey_is k hlt _ HW _).mono ?_); rintro e w ⟨rfl, hS⟩) | ((with_reducible refine region_here ?_); refine wp_region_St hS (by kernel_rfl) (by kernel_rfl) ?_) | ((with_reducible refine runS_end ?_); intro w hS) | ((with_reducible refine rat_call ?_); (first | (refine runS_call (v := ?_) (args := ?_) 88 rfl (fun _ _ _ h => h) ?_ ?_ ?_; rotate_left 2; (focus ((intro w; go_simp) <;> with_reducible rfl)); (focus (intro w hS; refine St.callE hS (fun hl => rKey_is k hlt _ HW _) ?_; with_reducible rfl)))); (try simp only [Act.put, List.setIfInBounds_toArray, List.set_cons_zero, List.set_cons_succ])) | ((with_reducible refine runS_here ?_); (refine runS_val (v := ?_) rfl (fun _ _ _ h => h) ?_ ?_; rotate_left; (focus ((intro w hS; go_simp) <;> with_reducible rfl))); (try simp only [Act.put, List.setIfInBounds_toArray, List.set_cons_zero, List.set_cons_succ])))
                go_roundw
                case rel => exact ⟨k + 1, M, b * 2, r, by omega, by omega, by omega, hr, rfl, by go_num, rfl, by go_num, HB2, HN, Lib.hid hS⟩
                case measure => simp [intOf]; omega
          · have hp1 : (r.take W.length == W) = false := by simpa using hp
            have hpre : Lib.hasPrefix r W = false := by
              cases hb : Lib.hasPrefix r W with
              | false => rfl
              | true =>
                unfold Lib.hasPrefix at hb
                obtain ⟨t, ht⟩ := List.isPrefixOf_iff_prefix.1 hb
                exact absurd (by rw [← ht]; simp) hp
            have HN : Hid (rkFold s (k + 1) = (M, r)) := by
              refine Lib.hid ?_
              rw [hst, hpre, Bool.false_and, if_neg (by decide)]
            clear hst hpre hp HB HF
            go_wp2_with (first | (go_at_call 88; (with_reducible refine (St.call hS fun hl => rKey_is k hlt _ HW _).mono ?_); rintro e w ⟨rfl, hS⟩) | ((with_reducible refine region_here ?_); refine wp_region_St hS (by kernel_rfl) (by kernel_rfl) ?_) | ((with_reducible refine runS_end ?_); intro w hS) | ((with_reducible refine rat_guard ?_); (first | (refine runS_pass rfl (fun _ _ _ h => h) ?_)); (try simp only [Act.put, List.setIfInBounds_toArray, List.set_cons_zero, List.set_cons_succ])) | ((with_reducible refine rat_call ?_); (first | (refine runS_call (v := ?_) (args := ?_) 88 rfl (fun _ _ _ h => h) ?_ ?_ ?_; rotate_left 2; (focus ((intro w; go_simp) <;> with_reducible rfl)); (focus (intro w hS; refine St.callE hS (fun hl => rKey_is k hlt _ HW _) ?_; with_reducible rfl)))); (try simp only [Act.put, List.setIfInBounds_toArray, List.set_cons_zero, List.set_cons_succ])) | ((with_reducible refine runS_here ?_); (refine runS_val (v := ?_) rfl (fun _ _ _ h => h) ?_ ?_; rotate_left; (focus ((intro w hS; go_simp) <;> with_reducible rfl))); (try simp only [Act.put, List.setIfInBounds_toArray, List.set_cons_zero, List.set_cons_succ])))
            go_roundw
            case rel => exact ⟨k + 1, M, b * 2, r, by omega, by omega, by omega, hr, rfl, by go_num, rfl, by go_num, HB2, HN, Lib.hid hS⟩
            case measure => simp [intOf]; omega
        · have hpre : Lib.hasPrefix r W = false := by
            cases hb : Lib.hasPrefix r W with
            | false => rfl
            | true =>
              unfold Lib.hasPrefix at hb
              obtain ⟨t, ht⟩ := List.isPrefixOf_iff_prefix.1 hb
              exact absurd (by rw [← ht]; simp) hn1
          have HN : Hid (rkFold s (k + 1) = (M, r)) := by
            refine Lib.hid ?_
            rw [hst, hpre, Bool.false_and, if_neg (by decide)]
          have hn2 : r.length < W.length := by omega
          clear hst hpre HB HF
          go_wp2_with (first | (go_at_call 88; (with_reducible refine (St.call hS fun hl => rKey_is k hlt _ HW _).mono ?_); rintro e w ⟨rfl, hS⟩) | ((with_reducible refine region_here ?_); refine wp_region_St hS (by kernel_rfl) (by kernel_rfl) ?_) | ((with_reducible refine runS_end ?_); intro w hS) | ((with_reducible refine rat_guard ?_); (first | (refine runS_pass rfl (fun _ _ _ h => h) ?_)); (try simp only [Act.put, List.setIfInBounds_toArray, List.set_cons_zero, List.set_cons_succ])) | ((with_reducible refine runS_here ?_); (refine runS_val (v := ?_) rfl (fun _ _ _ h => h) ?_ ?_; rotate_left; (focus ((intro w hS; go_simp) <;> with_reducible rfl))); (try simp only [Act.put, List.setIfInBounds_toArray, List.set_cons_zero, List.set_cons_succ])))
          go_roundw
          case rel => exact ⟨k + 1, M, b * 2, r, by omega, by omega, by omega, hr, rfl, by go_num, rfl, by go_num, HB2, HN, Lib.hid hS⟩
          case measure => simp [intOf]; omega
      · obtain rfl : k = 17 := by omega
        have hlen := (rk_len s 17).1
        rw [HF.out] at hlen HR2
        simp only at hlen HR2
        obtain ⟨T, hT⟩ : ∃ T, keyText M = T := ⟨_, rfl⟩
        rw [hT] at HR2
        have HT := Lib.hid hT
        clear hT HF HB
        by_cases hx : T = s
        · subst hx
          obtain rfl : some M = R := by rw [← HR2.out, if_pos rfl]
          clear HR2
          have ht : (T == T) = true := by simp
          go_wp2_with (first | (go_at_call 43; (with_reducible refine (St.call hS fun hl => rKeys_is M hlen _ HT _ hl).mono ?_); rintro e w ⟨rfl, hS⟩))
          go_ret2
          exact ⟨rfl, hS.below⟩
        · obtain rfl : none = R := by rw [← HR2.out, if_neg hx]
          have ht : (T == s) = false := by simpa using hx
          clear HR2 hx
          go_wp2_with (first | (go_at_call 43; (with_reducible refine (St.call hS fun hl => rKeys_is M hlen _ HT _ hl).mono ?_); rintro e w ⟨rfl, hS⟩))
          go_ret2
          exact ⟨rfl, hS.below⟩
end Go.Proofs.YtakgfbcmkhcdkaaGreatDoor
