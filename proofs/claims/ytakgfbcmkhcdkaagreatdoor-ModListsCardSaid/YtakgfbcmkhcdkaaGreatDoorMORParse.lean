/- Walks: the reference of chapter 15: after, pair, guess, Parse. Conditions: Laid; the text is shorter than a hundred million bytes. -/
import Derived.Test.YtakgfbcmkhcdkaaGreatDoorMORText
import Derived.Test.YtakgfbcmkhcdkaaGreatDoorMOParse
import Derived.Test.YtakgfbcmkhcdkaaGreatDoorRefC
import Derived.Test.YtakgfbcmkhcdkaaGreatDoorMORRead
import Derived.Test.YtakgfbcmkhcdkaaGreatDoorMOMem
namespace Go.Proofs.YtakgfbcmkhcdkaaGreatDoor
set_option linter.all false
open Go.ChangeShapes Go.WideShapes Go.RowKit
attribute [local irreducible] wpList Code.wp Calls
theorem r15After_any (s b : ByteArray) (w : World) (hs : s.size < 1000000000) (hb : b.size < 1000000000) :
    Calls Tryz.prog 105 #[.string s, .string b] w fun e w' => e = .returned (aftRet (qAfter (L s) (L b))) ∧ w = w' := by
  have hq := qAfter_eq s b
  generalize qAfter (L s) (L b) = R at *
  by_cases h1 : b.size ≤ s.size
  · rw [decide_eq_true h1, Bool.true_and] at hq
    have h1' : ¬ s.size < b.size := by omega
    cases h2 : ((s.extract 0 b.size).toList == b.toList)
    · rw [h2] at hq
      have HQ : Hid (R = none) := Lib.hid hq
      have t2 : (!(s.extract 0 b.size).toList == b.toList) = true := by rw [h2]; rfl
      clear hq
      go_enter Tryz.func105, Tryz.ntmps105
      go_wp2
      go_ret2
      exact ⟨ret_val (by rw [HQ.out]; rfl), rfl⟩
    · rw [h2] at hq
      have HQ : Hid (R = some ((L s).drop b.size)) := Lib.hid hq
      have t2 : (!(s.extract 0 b.size).toList == b.toList) = false := by rw [h2]; rfl
      have HX : Hid (s.extract b.size s.size = B ((L s).drop b.size)) := Lib.hid (L_inj (by rw [L_extract, L_B, List.take_of_length_le (by rw [size_l]; exact Nat.le_refl _)]))
      clear hq
      go_enter Tryz.func105, Tryz.ntmps105
      go_wp2
      go_ret2
      exact ⟨ret_val (by rw [HQ.out, HX.out]; rfl), rfl⟩
  · have HQ : Hid (R = none) := Lib.hid (by rw [hq, decide_eq_false h1]; rfl)
    have h1' : s.size < b.size := by omega
    clear hq
    go_enter Tryz.func105, Tryz.ntmps105
    go_wp2
    go_ret2
    exact ⟨ret_val (by rw [HQ.out]; rfl), rfl⟩
def aftS (s p : Str) : Str := if Lib.hasPrefix s p = true then s.drop p.length else []
theorem r15Aft (s p : Str) (hs : s.length < 1000000000) (hp : p.length < 1000000000) (w : World) : Calls Tryz.prog 105 #[.string (B s), .string (B p)] w fun e w' => e = .returned (.tuple #[.string (B (aftS s p)), .bool (Lib.hasPrefix s p)]) ∧ w = w' :=
  (r15After_any (B s) (B p) w (by rw [B_size]; exact hs) (by rw [B_size]; exact hp)).mono fun e w' h => ⟨h.1.trans (by
    rw [L_B, L_B]; unfold qAfter aftS; cases Lib.hasPrefix s p <;> rfl), h.2⟩
theorem aftS_len (s p : Str) : (aftS s p).length ≤ s.length := by unfold aftS; split <;> simp
theorem rAft1 (s : Str) (hs : s.length < 1000000000) (w : World) : Calls Tryz.prog 105 #[.string (B s), .string ⟨#[116, 121, 112, 101, 115, 61]⟩] w fun e w' => e = .returned (.tuple #[.string (B (aftS s pTypes)), .bool (Lib.hasPrefix s pTypes)]) ∧ w = w' := r15Aft s pTypes hs (by decide) w
theorem rAft2 (s : Str) (hs : s.length < 1000000000) (w : World) : Calls Tryz.prog 105 #[.string (B s), .string ⟨#[116, 121, 112, 101, 115, 43, 61]⟩] w fun e w' => e = .returned (.tuple #[.string (B (aftS s pTypesP)), .bool (Lib.hasPrefix s pTypesP)]) ∧ w = w' := r15Aft s pTypesP hs (by decide) w
theorem rAft3 (s : Str) (hs : s.length < 1000000000) (w : World) : Calls Tryz.prog 105 #[.string (B s), .string ⟨#[115, 117, 98, 61]⟩] w fun e w' => e = .returned (.tuple #[.string (B (aftS s pSub)), .bool (Lib.hasPrefix s pSub)]) ∧ w = w' := r15Aft s pSub hs (by decide) w
theorem rAft4 (s : Str) (hs : s.length < 1000000000) (w : World) : Calls Tryz.prog 105 #[.string (B s), .string ⟨#[115, 117, 98, 43, 61]⟩] w fun e w' => e = .returned (.tuple #[.string (B (aftS s pSubP)), .bool (Lib.hasPrefix s pSubP)]) ∧ w = w' := r15Aft s pSubP hs (by decide) w
theorem rAft5 (s : Str) (hs : s.length < 1000000000) (w : World) : Calls Tryz.prog 105 #[.string (B s), .string ⟨#[99, 111, 108, 111, 114, 115, 61]⟩] w fun e w' => e = .returned (.tuple #[.string (B (aftS s pColors)), .bool (Lib.hasPrefix s pColors)]) ∧ w = w' := r15Aft s pColors hs (by decide) w
theorem rAft6 (s : Str) (hs : s.length < 1000000000) (w : World) : Calls Tryz.prog 105 #[.string (B s), .string ⟨#[99, 111, 108, 111, 114, 115, 43, 61]⟩] w fun e w' => e = .returned (.tuple #[.string (B (aftS s pColorsP)), .bool (Lib.hasPrefix s pColorsP)]) ∧ w = w' := r15Aft s pColorsP hs (by decide) w
theorem rAft7 (s : Str) (hs : s.length < 1000000000) (w : World) : Calls Tryz.prog 105 #[.string (B s), .string ⟨#[107, 101, 121, 115, 43, 61]⟩] w fun e w' => e = .returned (.tuple #[.string (B (aftS s pKeysP)), .bool (Lib.hasPrefix s pKeysP)]) ∧ w = w' := r15Aft s pKeysP hs (by decide) w
theorem rAft8 (s : Str) (hs : s.length < 1000000000) (w : World) : Calls Tryz.prog 105 #[.string (B s), .string ⟨#[107, 101, 121, 115, 45, 61]⟩] w fun e w' => e = .returned (.tuple #[.string (B (aftS s pKeysM)), .bool (Lib.hasPrefix s pKeysM)]) ∧ w = w' := r15Aft s pKeysM hs (by decide) w
theorem rAft9 (s : Str) (hs : s.length < 1000000000) (w : World) (x : Str) (hx : Hid (aftS s pCount = x)) : Calls Tryz.prog 105 #[.string (B s), .string ⟨#[112, 116, 61, 99, 111, 117, 110, 116, 40]⟩] w fun e w' => e = .returned (.tuple #[.string (B x), .bool (Lib.hasPrefix s pCount)]) ∧ w = w' := hx.out ▸ r15Aft s pCount hs (by decide) w
theorem rAft10 (s : Str) (hs : s.length < 1000000000) (w : World) : Calls Tryz.prog 105 #[.string (B s), .string ⟨#[112, 116, 61]⟩] w fun e w' => e = .returned (.tuple #[.string (B (aftS s pPt)), .bool (Lib.hasPrefix s pPt)]) ∧ w = w' := r15Aft s pPt hs (by decide) w
theorem rAft11 (s : Str) (hs : s.length < 1000000000) (w : World) : Calls Tryz.prog 105 #[.string (B s), .string ⟨#[112, 116, 43, 61]⟩] w fun e w' => e = .returned (.tuple #[.string (B (aftS s pPtP)), .bool (Lib.hasPrefix s pPtP)]) ∧ w = w' := r15Aft s pPtP hs (by decide) w
theorem rNumO_any (x : Str) (hx : x.length < 100000000) (w : World) : Calls Tryz.prog 143 #[.string (B x)] w fun e w' => e = .returned (.tuple #[.int .i64 ((rdNum x).getD 0), .bool (rdNum x).isSome]) ∧ Below w.heap.size w w' :=
  (rNumber_any (B x) w (by rw [B_size]; exact hx)).mono fun e w' ⟨he, hb⟩ => ⟨he.trans (by rw [L_B, numRet_eq]), hb⟩
theorem r13O_any (x : Str) (hx : x.length < 100000000) (w : World) : Calls Tryz.prog 109 #[.string (B x)] w fun e w' => e = .returned (.tuple #[.agg (Flt.cells ((parseS x).getD zeroF)), .int .i64 (fltE (parseS x))]) ∧ Below w.heap.size w w' :=
  (rParse_any (B x) w (by rw [B_size]; exact hx)).mono fun e w' ⟨he, hb⟩ => ⟨he.trans (by rw [L_B, qParse_eq, fltRet_eq]), hb⟩
theorem pTypes_len : pTypes.length = 6 := rfl
theorem pTypesP_len : pTypesP.length = 7 := rfl
theorem pSub_len : pSub.length = 4 := rfl
theorem pSubP_len : pSubP.length = 5 := rfl
theorem pColors_len : pColors.length = 7 := rfl
theorem pColorsP_len : pColorsP.length = 8 := rfl
theorem pKeysP_len : pKeysP.length = 6 := rfl
theorem pKeysM_len : pKeysM.length = 6 := rfl
theorem pCount_len : pCount.length = 9 := rfl
theorem pPt_len : pPt.length = 3 := rfl
theorem pPtP_len : pPtP.length = 4 := rfl
theorem cut_first (s : Str) (k : Nat) (hk : k < s.length) (hn : (47 : UInt8) ∉ s.take k) (hc : byt s k = 47) : (47 : UInt8) ∈ s ∧ cutAt 47 s = (s.take k, s.drop (k + 1)) := by
  have hg : s[k] = 47 := by
    have : byt s k = (s[k]).toNat := by simp [byt, List.getD, hk]
    rw [this] at hc
    exact UInt8.toNat_inj.1 hc
  have e : s = s.take k ++ 47 :: s.drop (k + 1) := by
    rw [← hg, ← List.drop_eq_getElem_cons hk, List.take_append_drop]
  refine ⟨by rw [e]; simp, ?_⟩
  conv => lhs; rw [e]
  exact cutAt_eq 47 _ _ hn
theorem take_no (s : Str) (k : Nat) (hk : k < s.length) (hn : (47 : UInt8) ∉ s.take k) (hc : ¬ byt s k = 47) : (47 : UInt8) ∉ s.take (k + 1) := by
  have hb : byt s k = (s[k]).toNat := by simp [byt, List.getD, hk]
  rw [List.take_succ, List.getElem?_eq_getElem hk]
  intro h
  rcases List.mem_append.1 h with h | h
  · exact hn h
  · simp at h; exact hc (by rw [hb, ← h]; rfl)
set_option maxRecDepth 100000 in
set_option maxHeartbeats 4000000 in
theorem r15Pair_any (K : Int) (s : Str) (hs : s.length < 100000000) (w0 : World) (hl : Laid w0) : Calls Tryz.prog 110 #[.agg (Md.cells ⟨K, zeroM.n, zeroM.m, zeroM.sub, zeroM.f⟩), .string (B s)] w0 fun e w' => e = .returned (.agg (Md.cells (pairR K s))) ∧ Below w0.heap.size w0 w' := by
  obtain ⟨R, hR⟩ : ∃ R, pairR K s = R := ⟨_, rfl⟩
  rw [hR]
  have HR := Lib.hid hR
  clear hR
  have hS := St.start hl keepsL
  go_enter Tryz.func110, Tryz.ntmps110
  go_wp2_with (first | ((with_reducible refine at_box ?_); (first | (refine wpList_box_agg rfl hS rfl rfl ?_; intro g w hS)); (try simp only [Act.put, List.setIfInBounds_toArray, List.set_cons_zero, List.set_cons_succ])) | ((with_reducible refine at_alloc ?_); (first | (refine wpList_new 27 rfl hS rfl _ md_new ?_; intro g w hS)); (try simp only [Act.put, List.setIfInBounds_toArray, List.set_cons_zero, List.set_cons_succ])))
  obtain ⟨rows, hrows, hS⟩ : ∃ rows, rows = [(g, zeroM.cells, TMd), (_, Md.cells ⟨K, zeroM.n, zeroM.m, zeroM.sub, zeroM.f⟩, TMd)] ∧ St Laid w0 rows w := ⟨_, rfl, hS⟩
  have HRW := Lib.hid hrows
  clear hrows
  have hsz : (B s).size = s.length := B_size s
  have hgt := get_l (B s)
  rw [L_B] at hgt
  go_loopw [5] (fun iv wr => ∃ k : Nat, k ≤ s.length ∧ iv = .int .i64 k ∧ Hid ((47 : UInt8) ∉ s.take k) ∧ Hid (St Laid w0 rows wr)) (fun iv _ => s.length - (intOf iv).toNat)
  case atStart => exact ⟨0, by omega, rfl, Lib.hid (by simp), Lib.hid hS⟩
  case round =>
    clear hS
    obtain ⟨k, hk, rfl, HN, HS⟩ := hrel
    have hS := HS.out
    rw [HRW.out] at hS
    clear HS
    by_cases hlt : k < s.length
    · by_cases hc : byt s k = 47
      · obtain ⟨h1, h2⟩ := cut_first s k hlt HN.out hc
        have HE : Hid (R = ⟨K, (rdNum (s.take k)).getD 0, (rdNum (s.drop (k + 1))).getD 0, ⟨#[]⟩, zeroF⟩) := Lib.hid (by rw [← HR.out]; unfold pairR; rw [if_pos h1, h2])
        clear h1 h2 HN
        have hx1 : (B s).extract 0 k = B (s.take k) := L_inj (by rw [L_extract, L_B, L_B]; simp)
        have hx2 : (B s).extract (k + 1) s.length = B (s.drop (k + 1)) := L_inj (by rw [L_extract, L_B, L_B, List.take_of_length_le (Nat.le_refl _)])
        go_wp2_with (first | (go_at_call 143; (with_reducible refine (St.call hS fun hl => rNumO_any _ (by simp; omega) _).mono ?_); rintro e w ⟨rfl, hS⟩) | ((with_reducible refine at_load ?_); (first | (refine md_ldw rfl hS rfl rfl (by (first | exact .head | exact .tail .head | exact .tail (.tail .head) | exact .tail (.tail (.tail .head)) | exact .tail (.tail (.tail (.tail .head))) | fail)) ?_)); (try simp only [Act.put, List.setIfInBounds_toArray, List.set_cons_zero, List.set_cons_succ])) | ((with_reducible refine at_store ?_); (first | (refine md_stw rfl hS rfl rfl rfl (by first | exact .head | exact .tail .head | exact .tail (.tail .head) | exact .tail (.tail (.tail .head)) | exact .tail (.tail (.tail (.tail .head))) | fail) ?_; intro w hS) | (refine md_st1 rfl hS rfl rfl rfl (by first | exact .head | exact .tail .head | exact .tail (.tail .head) | exact .tail (.tail (.tail .head)) | exact .tail (.tail (.tail (.tail .head))) | fail) ?_; intro w hS) | (refine md_st2 rfl hS rfl rfl rfl (by first | exact .head | exact .tail .head | exact .tail (.tail .head) | exact .tail (.tail (.tail .head)) | exact .tail (.tail (.tail (.tail .head))) | fail) ?_; intro w hS)); (try simp only [Act.put, List.setIfInBounds_toArray, List.set_cons_zero, List.set_cons_succ])))
        all_goals (refine md_res hS rfl rfl (by (first | exact .head | exact .tail .head | exact .tail (.tail .head) | exact .tail (.tail (.tail .head)) | exact .tail (.tail (.tail (.tail .head))) | fail)) rfl (fun hb => ⟨ret_cells (f := Md.cells) ?_, hb⟩))
        all_goals (rw [HE.out]; rfl)
      · have HN2 := Lib.hid (take_no s k hlt HN.out hc)
        clear HN
        go_wp2_with (first | fail)
        go_roundw
        case rel => exact ⟨k + 1, by omega, by go_num, HN2, Lib.hid (by rw [HRW.out]; exact hS)⟩
        case measure => simp [intOf]; omega
    · obtain rfl : k = s.length := by omega
      have HE : Hid (R = ⟨K, 0, 0, ⟨#[]⟩, zeroF⟩) := Lib.hid (by
        have := HN.out
        rw [List.take_length] at this
        rw [← HR.out]; unfold pairR; rw [if_neg this])
      go_wp2_with (first | ((with_reducible refine at_load ?_); (first | (refine md_ldw rfl hS rfl rfl (by (first | exact .head | exact .tail .head | exact .tail (.tail .head) | exact .tail (.tail (.tail .head)) | exact .tail (.tail (.tail (.tail .head))) | fail)) ?_)); (try simp only [Act.put, List.setIfInBounds_toArray, List.set_cons_zero, List.set_cons_succ])) | ((with_reducible refine at_store ?_); (first | (refine md_stw rfl hS rfl rfl rfl (by first | exact .head | exact .tail .head | exact .tail (.tail .head) | exact .tail (.tail (.tail .head)) | exact .tail (.tail (.tail (.tail .head))) | fail) ?_; intro w hS)); (try simp only [Act.put, List.setIfInBounds_toArray, List.set_cons_zero, List.set_cons_succ])))
      all_goals (refine md_res hS rfl rfl (by (first | exact .head | exact .tail .head | exact .tail (.tail .head) | exact .tail (.tail (.tail .head)) | exact .tail (.tail (.tail (.tail .head))) | fail)) rfl (fun hb => ⟨ret_cells (f := Md.cells) ?_, hb⟩))
      all_goals (rw [HE.out]; rfl)
theorem r10B_any (x : Str) (w : World) (hl : Laid w) : Calls Tryz.prog 106 #[.string (B x)] w fun e w' => e = .returned (.tuple #[.int .i64 (optN (ptR x)), .int .i64 (optE (ptR x))]) ∧ Below w.heap.size w w' := r10ParseTypes_any x w hl
set_option maxRecDepth 100000 in
set_option maxHeartbeats 8000000 in
theorem r15Guess_any (s : Str) (hs : s.length < 100000000) (w : World) (hl : Laid w) : Calls Tryz.prog 47 #[.string (B s)] w fun e w' => e = .returned (.agg (Md.cells (guessR s))) ∧ Below w.heap.size w w' := by
  have hl1 := aftS_len s pTypes
  have hl2 := aftS_len s pTypesP
  have hl3 := aftS_len s pKeysP
  have hl4 := aftS_len s pKeysM
  have hl5 := aftS_len s pPt
  have hl6 := aftS_len s pPtP
  have hl7 := aftS_len s pCount
  obtain ⟨X, hX⟩ : ∃ X, aftS s pCount = X := ⟨_, rfl⟩
  rw [hX] at hl7
  have HX := Lib.hid hX
  clear hX
  have hS := St.start hl keepsL
  by_cases hX0 : X = []
  · subst hX0
    go_enter Tryz.func47, Tryz.ntmps47
    go_wp2_with (first | ((first | (with_reducible refine wpList_here ?_) | (with_reducible refine region_here ?_)); (have hq := str_eq (by assumption); subst hq)) | (go_at_call 105; (with_reducible refine (St.still hS fun hl => rAft1 s (by omega) _).mono ?_); rintro e w ⟨rfl, hS⟩) | (go_at_call 105; (with_reducible refine (St.still hS fun hl => rAft2 s (by omega) _).mono ?_); rintro e w ⟨rfl, hS⟩) | (go_at_call 105; (with_reducible refine (St.still hS fun hl => rAft3 s (by omega) _).mono ?_); rintro e w ⟨rfl, hS⟩) | (go_at_call 105; (with_reducible refine (St.still hS fun hl => rAft4 s (by omega) _).mono ?_); rintro e w ⟨rfl, hS⟩) | (go_at_call 105; (with_reducible refine (St.still hS fun hl => rAft5 s (by omega) _).mono ?_); rintro e w ⟨rfl, hS⟩) | (go_at_call 105; (with_reducible refine (St.still hS fun hl => rAft6 s (by omega) _).mono ?_); rintro e w ⟨rfl, hS⟩) | (go_at_call 105; (with_reducible refine (St.still hS fun hl => rAft7 s (by omega) _).mono ?_); rintro e w ⟨rfl, hS⟩) | (go_at_call 105; (with_reducible refine (St.still hS fun hl => rAft8 s (by omega) _).mono ?_); rintro e w ⟨rfl, hS⟩) | (go_at_call 105; (with_reducible refine (St.still hS fun hl => rAft9 s (by omega) _ _ HX).mono ?_); rintro e w ⟨rfl, hS⟩) | (go_at_call 105; (with_reducible refine (St.still hS fun hl => rAft10 s (by omega) _).mono ?_); rintro e w ⟨rfl, hS⟩) | (go_at_call 105; (with_reducible refine (St.still hS fun hl => rAft11 s (by omega) _).mono ?_); rintro e w ⟨rfl, hS⟩) | (go_at_call 106; (with_reducible refine (St.call hS fun hl => r10B_any _ _ hl).mono ?_); rintro e w ⟨rfl, hS⟩) | (go_at_call 107; (with_reducible refine (St.call hS fun hl => r09Parse_any _ _ hl).mono ?_); rintro e w ⟨rfl, hS⟩) | (go_at_call 108; (with_reducible refine (St.call hS fun hl => r11Parse_any _ (by omega) _ hl).mono ?_); rintro e w ⟨rfl, hS⟩) | (go_at_call 110; (with_reducible refine (St.call hS fun hl => r15Pair_any 12 _ (by omega) _ hl).mono ?_); rintro e w ⟨rfl, hS⟩) | (go_at_call 110; (with_reducible refine (St.call hS fun hl => r15Pair_any 13 _ (by omega) _ hl).mono ?_); rintro e w ⟨rfl, hS⟩) | ((with_reducible refine at_guard ?_); (first | (refine wpList_pass rfl ?_)); (try simp only [Act.put, List.setIfInBounds_toArray, List.set_cons_zero, List.set_cons_succ])) | ((with_reducible refine at_alloc ?_); (first | (refine wpList_new 27 rfl hS rfl _ md_new ?_; intro g w hS)); (try simp only [Act.put, List.setIfInBounds_toArray, List.set_cons_zero, List.set_cons_succ])) | ((with_reducible refine md_shape_ ?_); refine md_bld_ rfl ?_; (try simp only [Act.put, List.setIfInBounds_toArray, List.set_cons_zero, List.set_cons_succ])) | ((with_reducible refine md_shape_0 ?_); refine md_bld_0 rfl rfl ?_; (try simp only [Act.put, List.setIfInBounds_toArray, List.set_cons_zero, List.set_cons_succ])) | ((with_reducible refine md_shape_0_1 ?_); refine md_bld_0_1 rfl rfl rfl ?_; (try simp only [Act.put, List.setIfInBounds_toArray, List.set_cons_zero, List.set_cons_succ])) | ((with_reducible refine md_shape_0_3 ?_); refine md_bld_0_3 rfl rfl rfl ?_; (try simp only [Act.put, List.setIfInBounds_toArray, List.set_cons_zero, List.set_cons_succ])) | ((with_reducible refine at_store ?_); (first | (refine md_stw rfl hS rfl rfl rfl (by first | exact .head | exact .tail .head | exact .tail (.tail .head) | exact .tail (.tail (.tail .head)) | exact .tail (.tail (.tail (.tail .head))) | fail) ?_; intro w hS)); (try simp only [Act.put, List.setIfInBounds_toArray, List.set_cons_zero, List.set_cons_succ])))
    all_goals (refine md_res hS rfl rfl (by (first | exact .head | exact .tail .head | exact .tail (.tail .head) | exact .tail (.tail (.tail .head)) | exact .tail (.tail (.tail (.tail .head))) | fail)) rfl (fun hb => ⟨ret_cells (f := Md.cells) ?_, hb⟩))
    all_goals (have hx := HX.out; clear hS hl; simp_all [guessR, aftS, zeroM, controlV, blankV, switchV, pTypes_len, pTypesP_len, pSub_len, pSubP_len, pColors_len, pColorsP_len, pKeysP_len, pKeysM_len, pCount_len, pPt_len, pPtP_len])
  · have hX1 : (X == []) = false := by simpa using hX0
    have hX2 : 1 ≤ X.length := List.length_pos_iff.2 hX0
    have hx9 : (B X).extract 0 (X.length - 1) = B (X.take (X.length - 1)) := L_inj (by rw [L_extract, L_B, L_B]; simp)
    have hszX : (B X).size = X.length := B_size X
    go_enter Tryz.func47, Tryz.ntmps47
    go_wp2_with (first | ((first | (with_reducible refine wpList_here ?_) | (with_reducible refine region_here ?_)); (have hq := str_eq (by assumption); subst hq)) | (go_at_call 105; (with_reducible refine (St.still hS fun hl => rAft1 s (by omega) _).mono ?_); rintro e w ⟨rfl, hS⟩) | (go_at_call 105; (with_reducible refine (St.still hS fun hl => rAft2 s (by omega) _).mono ?_); rintro e w ⟨rfl, hS⟩) | (go_at_call 105; (with_reducible refine (St.still hS fun hl => rAft3 s (by omega) _).mono ?_); rintro e w ⟨rfl, hS⟩) | (go_at_call 105; (with_reducible refine (St.still hS fun hl => rAft4 s (by omega) _).mono ?_); rintro e w ⟨rfl, hS⟩) | (go_at_call 105; (with_reducible refine (St.still hS fun hl => rAft5 s (by omega) _).mono ?_); rintro e w ⟨rfl, hS⟩) | (go_at_call 105; (with_reducible refine (St.still hS fun hl => rAft6 s (by omega) _).mono ?_); rintro e w ⟨rfl, hS⟩) | (go_at_call 105; (with_reducible refine (St.still hS fun hl => rAft7 s (by omega) _).mono ?_); rintro e w ⟨rfl, hS⟩) | (go_at_call 105; (with_reducible refine (St.still hS fun hl => rAft8 s (by omega) _).mono ?_); rintro e w ⟨rfl, hS⟩) | (go_at_call 105; (with_reducible refine (St.still hS fun hl => rAft9 s (by omega) _ _ HX).mono ?_); rintro e w ⟨rfl, hS⟩) | (go_at_call 105; (with_reducible refine (St.still hS fun hl => rAft10 s (by omega) _).mono ?_); rintro e w ⟨rfl, hS⟩) | (go_at_call 105; (with_reducible refine (St.still hS fun hl => rAft11 s (by omega) _).mono ?_); rintro e w ⟨rfl, hS⟩) | (go_at_call 106; (with_reducible refine (St.call hS fun hl => r10B_any _ _ hl).mono ?_); rintro e w ⟨rfl, hS⟩) | (go_at_call 107; (with_reducible refine (St.call hS fun hl => r09Parse_any _ _ hl).mono ?_); rintro e w ⟨rfl, hS⟩) | (go_at_call 108; (with_reducible refine (St.call hS fun hl => r11Parse_any _ (by omega) _ hl).mono ?_); rintro e w ⟨rfl, hS⟩) | (go_at_call 109; (with_reducible refine (St.call hS fun hl => r13O_any _ (by simp; omega) _).mono ?_); rintro e w ⟨rfl, hS⟩) | (go_at_call 110; (with_reducible refine (St.call hS fun hl => r15Pair_any 12 _ (by omega) _ hl).mono ?_); rintro e w ⟨rfl, hS⟩) | (go_at_call 110; (with_reducible refine (St.call hS fun hl => r15Pair_any 13 _ (by omega) _ hl).mono ?_); rintro e w ⟨rfl, hS⟩) | ((with_reducible refine at_guard ?_); (first | (refine wpList_pass rfl ?_)); (try simp only [Act.put, List.setIfInBounds_toArray, List.set_cons_zero, List.set_cons_succ])) | ((with_reducible refine at_alloc ?_); (first | (refine wpList_new 27 rfl hS rfl _ md_new ?_; intro g w hS) | (refine wpList_new 25 rfl hS rfl _ flt_new ?_; intro g w hS)); (try simp only [Act.put, List.setIfInBounds_toArray, List.set_cons_zero, List.set_cons_succ])) | ((with_reducible refine md_shape_ ?_); refine md_bld_ rfl ?_; (try simp only [Act.put, List.setIfInBounds_toArray, List.set_cons_zero, List.set_cons_succ])) | ((with_reducible refine md_shape_0 ?_); refine md_bld_0 rfl rfl ?_; (try simp only [Act.put, List.setIfInBounds_toArray, List.set_cons_zero, List.set_cons_succ])) | ((with_reducible refine md_shape_0_4 ?_); refine md_bld_0_4 rfl rfl rfl ?_; (try simp only [Act.put, List.setIfInBounds_toArray, List.set_cons_zero, List.set_cons_succ])) | ((with_reducible refine md_shape_0_1 ?_); refine md_bld_0_1 rfl rfl rfl ?_; (try simp only [Act.put, List.setIfInBounds_toArray, List.set_cons_zero, List.set_cons_succ])) | ((with_reducible refine md_shape_0_3 ?_); refine md_bld_0_3 rfl rfl rfl ?_; (try simp only [Act.put, List.setIfInBounds_toArray, List.set_cons_zero, List.set_cons_succ])) | ((with_reducible refine at_load ?_); (first | (refine flt_ldw rfl hS rfl rfl (by (first | exact .head | exact .tail .head | exact .tail (.tail .head) | exact .tail (.tail (.tail .head)) | exact .tail (.tail (.tail (.tail .head))) | fail)) ?_)); (try simp only [Act.put, List.setIfInBounds_toArray, List.set_cons_zero, List.set_cons_succ])) | ((with_reducible refine at_store ?_); (first | (refine md_stw rfl hS rfl rfl rfl (by first | exact .head | exact .tail .head | exact .tail (.tail .head) | exact .tail (.tail (.tail .head)) | exact .tail (.tail (.tail (.tail .head))) | fail) ?_; intro w hS) | (refine flt_stw rfl hS rfl rfl rfl (by first | exact .head | exact .tail .head | exact .tail (.tail .head) | exact .tail (.tail (.tail .head)) | exact .tail (.tail (.tail (.tail .head))) | fail) ?_; intro w hS)); (try simp only [Act.put, List.setIfInBounds_toArray, List.set_cons_zero, List.set_cons_succ])))
    all_goals (refine md_res hS rfl rfl (by (first | exact .head | exact .tail .head | exact .tail (.tail .head) | exact .tail (.tail (.tail .head)) | exact .tail (.tail (.tail (.tail .head))) | fail)) rfl (fun hb => ⟨ret_cells (f := Md.cells) ?_, hb⟩))
    all_goals (have hx := HX.out; clear hS hl; simp_all [guessR, aftS, zeroM, controlV, blankV, switchV, pTypes_len, pTypesP_len, pSub_len, pSubP_len, pColors_len, pColorsP_len, pKeysP_len, pKeysM_len, pCount_len, pPt_len, pPtP_len])
end Go.Proofs.YtakgfbcmkhcdkaaGreatDoor
