/- Walks: package filter: Text of a valid filter. Conditions: Laid; the join's length. -/
import Derived.Test.YtcbegdjmopgbbaaGreatDoorFText
namespace Go.Proofs.YtcbegdjmopgbbaaGreatDoor
set_option linter.all false
open Go.ChangeShapes Go.WideShapes Go.RowKit
theorem LB.alloc {b : Nat} {w : World} {o : Obj} (h : LB b w) (hb : b ≤ w.heap.size) : LB b (w.alloc o) := h.below ((Below.refl _ _).alloc hb _)
def mkFN (z wh se ty nt co nc : Nat) (sub : ByteArray) (ke ta pk pn tk tn vk vn : Nat) : FN := ⟨z, wh, se, ty, nt, co, nc, L sub, ke, ta, pk, pn, tk, tn, vk, vn⟩
set_option maxRecDepth 100000 in
set_option maxHeartbeats 4000000 in
theorem fltText_yes (z wh se ty nt co nc : Nat) (sub : ByteArray) (ke ta pk pn tk tn vk vn : Nat) (w : World) (hl : Laid w) (hv : fltIs ⟨z, wh, se, ty, nt, co, nc, sub, ke, ta, pk, pn, tk, tn, vk, vn⟩ = true)
    (hz : z ≤ 5) (hwh : wh < 3) (hse : se < 3) (hty : ty < 2 ^ 6) (hnt : nt < 2 ^ 6) (hco : co < 2 ^ 5) (hnc : nc < 2 ^ 5) (hsub : sub.size ≤ 32) (hke : ke < 2 ^ 17) (hta : ta < 3)
    (hpk : pk < 4) (hpn : pn ≤ 1000000) (htk : tk < 4) (htn : tn ≤ 1000000) (hvk : vk < 4) (hvn : vn ≤ 1000000)
    (hjl : (Lib.join (fltWords (mkFN z wh se ty nt co nc sub ke ta pk pn tk tn vk vn)) [32]).length ≤ 140737488355328) :
    Calls Tryz.prog 21 #[.agg #[.int .i64 z, .int .i64 wh, .int .i64 se, .int .i64 ty, .int .i64 nt, .int .i64 co, .int .i64 nc, .string sub, .int .i64 ke, .int .i64 ta, .int .i64 pk, .int .i64 pn, .int .i64 tk, .int .i64 tn, .int .i64 vk, .int .i64 vn]] w fun e w' => e = .returned (.string (B (fltText (mkFN z wh se ty nt co nc sub ke ta pk pn tk tn vk vn)))) ∧ Below w.heap.size w w' := by
  have HV := Lib.hid hv; clear hv
  have hl1 : Laid (w.alloc (.cells #[.int .i64 z, .int .i64 wh, .int .i64 se, .int .i64 ty, .int .i64 nt, .int .i64 co, .int .i64 nc, .string sub, .int .i64 ke, .int .i64 ta, .int .i64 pk, .int .i64 pn, .int .i64 tk, .int .i64 tn, .int .i64 vk, .int .i64 vn] 25)) := hl.below ((Below.refl _ _).alloc (Nat.le_refl _) _)
  have i1 := idx_who wh hwh
  have i2 := idx_self se hse
  have i3 := idx_tap ta hta
  by_cases hs : L sub = []
  · have s0 : sub.toList = [] := by rw [L_toList]; exact hs
    have eW : fltWords (mkFN z wh se ty nt co nc sub ke ta pk pn tk tn vk vn) = fltWordsB true (mkFN z wh se ty nt co nc sub ke ta pk pn tk tn vk vn) := by
      unfold fltWords; rw [show ((mkFN z wh se ty nt co nc sub ke ta pk pn tk tn vk vn).sub == []) = true by simpa [mkFN] using hs]
    rw [eW] at hjl
    have HT : Hid (fltText (mkFN z wh se ty nt co nc sub ke ta pk pn tk tn vk vn) = if fltWordsB true (mkFN z wh se ty nt co nc sub ke ta pk pn tk tn vk vn) = [] then anyW else Lib.join (fltWordsB true (mkFN z wh se ty nt co nc sub ke ta pk pn tk tn vk vn)) [32]) := by rw [fltText, eW]; rfl
    generalize fltText (mkFN z wh se ty nt co nc sub ke ta pk pn tk tn vk vn) = R at *
    clear eW
    clear hs
    go_enter Tryz.func21, Tryz.ntmps21
    go_wp2_with (first | (go_at_call 16; refine (fltIs_any _ _ _ _ _ _ _ _ _ _ _ _ _ _ _ _ _ hl1 true HV).mono ?_; rintro e w1 ⟨rfl, hb1⟩; have hW := WS.start hb1; have hC := hW.box; have hcv : True := trivial; have hTX : True := trivial; have hLB := LB.start ((hl1.below hb1)) (Nat.le_refl w1.heap.size)) | (go_at_call 37; (with_reducible refine (zoneWord_any _ hz _).mono ?_); rintro e w2 ⟨rfl, rfl⟩) | (go_at_call 36; (with_reducible refine (add_ws _ hW (by omega)).mono ?_); clear hW hC hcv hTX; rintro e w2 ⟨rfl, hW⟩; have hC := hW.box; obtain ⟨A2, c2, hcv, hTX⟩ := hW.val) | (go_at_call 38; (with_reducible refine (maskType_ws _ _ [] rfl (by decide) hty hW (by omega)).mono ?_); clear hW hC hcv hTX; rintro e w2 ⟨rfl, hW⟩; have hC := hW.box; obtain ⟨A2, c2, hcv, hTX⟩ := hW.val) | (go_at_call 38; (with_reducible refine (maskType_ws _ _ nonW rfl (by decide) hnt hW (by omega)).mono ?_); clear hW hC hcv hTX; rintro e w2 ⟨rfl, hW⟩; have hC := hW.box; obtain ⟨A2, c2, hcv, hTX⟩ := hW.val) | (go_at_call 38; (with_reducible refine (maskColor_ws _ _ [] rfl (by decide) hco hW (by omega) (LB.alloc hLB (Nat.le_refl _))).mono ?_); clear hW hC hcv hTX; rintro e w2 ⟨rfl, hW⟩; have hC := hW.box; obtain ⟨A2, c2, hcv, hTX⟩ := hW.val) | (go_at_call 38; (with_reducible refine (maskColor_ws _ _ nonW rfl (by decide) hnc hW (by omega) (LB.alloc hLB (Nat.le_refl _))).mono ?_); clear hW hC hcv hTX; rintro e w2 ⟨rfl, hW⟩; have hC := hW.box; obtain ⟨A2, c2, hcv, hTX⟩ := hW.val) | (go_at_call 38; (with_reducible refine (maskKey_ws _ _ withW rfl (by decide) hke hW (by omega)).mono ?_); clear hW hC hcv hTX; rintro e w2 ⟨rfl, hW⟩; have hC := hW.box; obtain ⟨A2, c2, hcv, hTX⟩ := hW.val) | (go_at_call 42; (with_reducible refine (boundText_any _ powerW rfl _ _ hpk hpn (by decide) _ (hW.laid (LB.alloc hLB (Nat.le_refl _)))).mono ?_); rintro e w2 ⟨rfl, hb2⟩; replace hW := hW.below hb2; clear hC hb2 hcv hTX; have hC := hW.box; have hcv : True := trivial; have hTX : True := trivial) | (go_at_call 42; (with_reducible refine (boundText_any _ toughW rfl _ _ htk htn (by decide) _ (hW.laid (LB.alloc hLB (Nat.le_refl _)))).mono ?_); rintro e w2 ⟨rfl, hb2⟩; replace hW := hW.below hb2; clear hC hb2 hcv hTX; have hC := hW.box; have hcv : True := trivial; have hTX : True := trivial) | (go_at_call 42; (with_reducible refine (boundText_any _ valueW rfl _ _ hvk hvn (by decide) _ (hW.laid (LB.alloc hLB (Nat.le_refl _)))).mono ?_); rintro e w2 ⟨rfl, hb2⟩; replace hW := hW.below hb2; clear hC hb2 hcv hTX; have hC := hW.box; have hcv : True := trivial; have hTX : True := trivial) | (go_at_call 43; refine (join_any _ _ _ _ _ _ hTX (by have := hW.le; omega) [32] rfl hjl).mono ?_; rintro e w3 ⟨rfl, hb3⟩))
    · have h0 : (((fltWordsB true (mkFN z wh se ty nt co nc sub ke ta pk pn tk tn vk vn)).length : Int) == 0) = true := by assumption
      go_ret
      exact ⟨ret_str (by rw [HT.out, if_pos (by simpa using h0)]; rfl), WS.fin hb1 hW⟩
    · have h0 : (((fltWordsB true (mkFN z wh se ty nt co nc sub ke ta pk pn tk tn vk vn)).length : Int) == 0) = false := by assumption
      go_ret
      exact ⟨ret_str (by rw [HT.out, if_neg (by simpa using h0)]; rfl), (WS.fin hb1 hW).trans (hb3.mono (by have := (WS.fin hb1 hW).size; omega))⟩
  · have s1 : sub.toList.isEmpty = false := by rw [L_toList]; simpa using hs
    have s2 : ¬ sub.toList = [] := by rw [L_toList]; exact hs
    have eW : fltWords (mkFN z wh se ty nt co nc sub ke ta pk pn tk tn vk vn) = fltWordsB false (mkFN z wh se ty nt co nc sub ke ta pk pn tk tn vk vn) := by
      unfold fltWords; rw [show ((mkFN z wh se ty nt co nc sub ke ta pk pn tk tn vk vn).sub == []) = false by simpa [mkFN] using hs]
    rw [eW] at hjl
    have HT : Hid (fltText (mkFN z wh se ty nt co nc sub ke ta pk pn tk tn vk vn) = if fltWordsB false (mkFN z wh se ty nt co nc sub ke ta pk pn tk tn vk vn) = [] then anyW else Lib.join (fltWordsB false (mkFN z wh se ty nt co nc sub ke ta pk pn tk tn vk vn)) [32]) := by rw [fltText, eW]; rfl
    generalize fltText (mkFN z wh se ty nt co nc sub ke ta pk pn tk tn vk vn) = R at *
    clear eW
    clear hs
    go_enter Tryz.func21, Tryz.ntmps21
    go_wp2_with (first | (go_at_call 16; refine (fltIs_any _ _ _ _ _ _ _ _ _ _ _ _ _ _ _ _ _ hl1 true HV).mono ?_; rintro e w1 ⟨rfl, hb1⟩; have hW := WS.start hb1; have hC := hW.box; have hcv : True := trivial; have hTX : True := trivial; have hLB := LB.start ((hl1.below hb1)) (Nat.le_refl w1.heap.size)) | (go_at_call 37; (with_reducible refine (zoneWord_any _ hz _).mono ?_); rintro e w2 ⟨rfl, rfl⟩) | (go_at_call 36; (with_reducible refine (add_ws _ hW (by omega)).mono ?_); clear hW hC hcv hTX; rintro e w2 ⟨rfl, hW⟩; have hC := hW.box; obtain ⟨A2, c2, hcv, hTX⟩ := hW.val) | (go_at_call 38; (with_reducible refine (maskType_ws _ _ [] rfl (by decide) hty hW (by omega)).mono ?_); clear hW hC hcv hTX; rintro e w2 ⟨rfl, hW⟩; have hC := hW.box; obtain ⟨A2, c2, hcv, hTX⟩ := hW.val) | (go_at_call 38; (with_reducible refine (maskType_ws _ _ nonW rfl (by decide) hnt hW (by omega)).mono ?_); clear hW hC hcv hTX; rintro e w2 ⟨rfl, hW⟩; have hC := hW.box; obtain ⟨A2, c2, hcv, hTX⟩ := hW.val) | (go_at_call 38; (with_reducible refine (maskColor_ws _ _ [] rfl (by decide) hco hW (by omega) (LB.alloc hLB (Nat.le_refl _))).mono ?_); clear hW hC hcv hTX; rintro e w2 ⟨rfl, hW⟩; have hC := hW.box; obtain ⟨A2, c2, hcv, hTX⟩ := hW.val) | (go_at_call 38; (with_reducible refine (maskColor_ws _ _ nonW rfl (by decide) hnc hW (by omega) (LB.alloc hLB (Nat.le_refl _))).mono ?_); clear hW hC hcv hTX; rintro e w2 ⟨rfl, hW⟩; have hC := hW.box; obtain ⟨A2, c2, hcv, hTX⟩ := hW.val) | (go_at_call 38; (with_reducible refine (maskKey_ws _ _ withW rfl (by decide) hke hW (by omega)).mono ?_); clear hW hC hcv hTX; rintro e w2 ⟨rfl, hW⟩; have hC := hW.box; obtain ⟨A2, c2, hcv, hTX⟩ := hW.val) | (go_at_call 42; (with_reducible refine (boundText_any _ powerW rfl _ _ hpk hpn (by decide) _ (hW.laid (LB.alloc hLB (Nat.le_refl _)))).mono ?_); rintro e w2 ⟨rfl, hb2⟩; replace hW := hW.below hb2; clear hC hb2 hcv hTX; have hC := hW.box; have hcv : True := trivial; have hTX : True := trivial) | (go_at_call 42; (with_reducible refine (boundText_any _ toughW rfl _ _ htk htn (by decide) _ (hW.laid (LB.alloc hLB (Nat.le_refl _)))).mono ?_); rintro e w2 ⟨rfl, hb2⟩; replace hW := hW.below hb2; clear hC hb2 hcv hTX; have hC := hW.box; have hcv : True := trivial; have hTX : True := trivial) | (go_at_call 42; (with_reducible refine (boundText_any _ valueW rfl _ _ hvk hvn (by decide) _ (hW.laid (LB.alloc hLB (Nat.le_refl _)))).mono ?_); rintro e w2 ⟨rfl, hb2⟩; replace hW := hW.below hb2; clear hC hb2 hcv hTX; have hC := hW.box; have hcv : True := trivial; have hTX : True := trivial) | (go_at_call 43; refine (join_any _ _ _ _ _ _ hTX (by have := hW.le; omega) [32] rfl hjl).mono ?_; rintro e w3 ⟨rfl, hb3⟩))
    · have h0 : (((fltWordsB false (mkFN z wh se ty nt co nc sub ke ta pk pn tk tn vk vn)).length : Int) == 0) = true := by assumption
      go_ret
      exact ⟨ret_str (by rw [HT.out, if_pos (by simpa using h0)]; rfl), WS.fin hb1 hW⟩
    · have h0 : (((fltWordsB false (mkFN z wh se ty nt co nc sub ke ta pk pn tk tn vk vn)).length : Int) == 0) = false := by assumption
      go_ret
      exact ⟨ret_str (by rw [HT.out, if_neg (by simpa using h0)]; rfl), (WS.fin hb1 hW).trans (hb3.mono (by have := (WS.fin hb1 hW).size; omega))⟩
end Go.Proofs.YtcbegdjmopgbbaaGreatDoor
