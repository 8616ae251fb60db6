/- Walks: package mod: points, guess, Parse. Conditions: Laid; the text is shorter than a hundred million bytes. -/
import Derived.Test.YtakgfbcmkhcdkaaGreatDoorMOText
import Derived.Test.YtakgfbcmkhcdkaaGreatDoorTak
import Derived.Test.YtakgfbcmkhcdkaaGreatDoorFil
import Derived.Test.YtakgfbcmkhcdkaaGreatDoorKeys
namespace Go.Proofs.YtakgfbcmkhcdkaaGreatDoor
set_option linter.all false
open Go.ChangeShapes Go.WideShapes Go.RowKit
attribute [local irreducible] wpList Code.wp Calls
def optE (o : Option Nat) : Int := if o.isSome = true then 0 else 3
theorem optRet_eq (o : Option Nat) : optRet o = .tuple #[.int .i64 (optN o), .int .i64 (optE o)] := by cases o <;> rfl
theorem numRet_eq (o : Option Int) : numRet o = .tuple #[.int .i64 (o.getD 0), .bool o.isSome] := by cases o <;> rfl
def fltE (o : Option Flt) : Int := if o.isSome = true then 0 else 3
theorem fltRet_eq (o : Option Flt) : fltRet o = .tuple #[.agg (Flt.cells (o.getD zeroF)), .int .i64 (fltE o)] := by cases o <;> rfl
theorem ptB_any (x : Str) (hx : x.length < 100000000) (w : World) (hl : Laid w) : Calls Tryz.prog 100 #[.string (B x)] w fun e w' => e = .returned (.tuple #[.int .i64 (optN (ptOf x)), .int .i64 (optE (ptOf x))]) ∧ Below w.heap.size w w' :=
  (parseTypes_any (B x) w hl (by rw [B_size]; omega)).mono fun e w' ⟨he, hb⟩ => ⟨he.trans (by rw [L_B, optRet_eq]), hb⟩
theorem pcB_any (x : Str) (w : World) (hl : Laid w) : Calls Tryz.prog 101 #[.string (B x)] w fun e w' => e = .returned (.tuple #[.int .i64 (optN (pcOf x)), .int .i64 (optE (pcOf x))]) ∧ Below w.heap.size w w' :=
  (colorParse_any (B x) w hl).mono fun e w' ⟨he, hb⟩ => ⟨he.trans (by rw [L_B, optRet_eq]), hb⟩
theorem pkB_any (x : Str) (hx : x.length < 100000000) (w : World) : Calls Tryz.prog 102 #[.string (B x)] w fun e w' => e = .returned (.tuple #[.int .i64 (optN (pkOf x)), .int .i64 (optE (pkOf x))]) ∧ Below w.heap.size w w' :=
  (keyParse_any (B x) w (by rw [B_size]; omega)).mono fun e w' ⟨he, hb⟩ => ⟨he.trans (by rw [L_B, optRet_eq]), hb⟩
theorem numO_any (x : Str) (hx : x.length < 100000000) (w : World) (hl : Laid w) : Calls Tryz.prog 139 #[.string (B x)] w fun e w' => e = .returned (.tuple #[.int .i64 ((numOf x).getD 0), .bool (numOf x).isSome]) ∧ Below w.heap.size w w' :=
  (number_any (B x) w hl (by rw [B_size]; omega)).mono fun e w' ⟨he, hb⟩ => ⟨he.trans (by rw [L_B, numRet_eq]), hb⟩
theorem fltO_any (x : Str) (hx : x.length < 100000000) (w : World) (hl : Laid w) : Calls Tryz.prog 137 #[.string (B x)] w fun e w' => e = .returned (.tuple #[.agg (Flt.cells ((parseS x).getD zeroF)), .int .i64 (fltE (parseS x))]) ∧ Below w.heap.size w w' :=
  (fltParse_any (B x) w hl (by rw [B_size]; exact hx)).mono fun e w' ⟨he, hb⟩ => ⟨he.trans (by rw [L_B, fltRet_eq]), hb⟩
theorem cutO_any (s : Str) (c : UInt8) (p q : Str) (HC : Hid (cutAt c s = (p, q))) (w : World) (hl : Laid w) (hs : s.length < 100000000) :
    Calls Tryz.prog 99 #[.string (B s), .string ⟨#[c]⟩] w fun e w' => (∃ b, e = .returned (.tuple #[.string (B p), .string (B q), .bool b])) ∧ Below w.heap.size w w' :=
  (Tryz.strings_Cut_shaped (B s) ⟨#[c]⟩ w hl.shaped (by rw [B_size]; omega)).mono fun e w' ⟨he, n, hw⟩ => by
    obtain ⟨h1, h2⟩ := cut_one c s
    rw [HC.out] at h1 h2
    refine ⟨⟨(Lib.cut (B s).data.toList (⟨#[c]⟩ : ByteArray).data.toList).2.2, he.trans ?_⟩, hw ▸ below_drewN (Below.refl _ _) n⟩
    rw [show (⟨#[c]⟩ : ByteArray).data.toList = [c] from rfl, show (B s).data.toList = L (B s) from rfl, L_B, h1, h2]; rfl
theorem cutCnt_any (x : Str) (w : World) : Calls Tryz.prog 136 #[.string (B x), .string ⟨#[99, 111, 117, 110, 116, 40]⟩] w fun e w' => e = .returned (.tuple #[.string (B (Lib.trimPrefix x countPV)), .bool (Lib.hasPrefix x countPV)]) ∧ w = w' :=
  (cutPrefix_any (B x) ⟨#[99, 111, 117, 110, 116, 40]⟩ w countPV rfl).mono fun e w' h => ⟨by rw [h.1, L_B], h.2⟩
theorem trimO_any (x : Str) (hx : x.length < 1000000000) (w : World) : Calls Tryz.prog 138 #[.string (B x), .string ⟨#[41]⟩] w fun e w' => e = .returned (.string (B (Lib.trimSuffix x [41]))) ∧ w = w' :=
  (Tryz.strings_TrimSuffix (B x) ⟨#[41]⟩ w (by rw [B_size]; omega)).mono fun _ _ h' => ⟨h'.1.trans (by rw [show (B x).data.toList = L (B x) from rfl, L_B]; try rfl), h'.2.symm⟩
theorem hasPlus_any (x : Str) (hx : x.length < 1000000000) (w : World) : Calls Tryz.prog 104 #[.string (B x), .string ⟨#[43]⟩] w fun e w' => e = .returned (.bool (Lib.hasSuffix x [43])) ∧ w = w' :=
  (Tryz.strings_HasSuffix (B x) ⟨#[43]⟩ w (by rw [B_size]; omega)).mono fun _ _ h' => ⟨h'.1.trans (by rw [show (B x).data.toList = L (B x) from rfl, L_B]; try rfl), h'.2.symm⟩
theorem preLen (x p : Str) : (Lib.trimPrefix x p).length ≤ x.length := by unfold Lib.trimPrefix; split <;> simp
theorem sufLen (x p : Str) : (Lib.trimSuffix x p).length ≤ x.length := by unfold Lib.trimSuffix; split <;> simp
set_option maxRecDepth 100000 in
set_option maxHeartbeats 2000000 in
theorem mdPoints_any (s : Str) (hs : s.length < 100000000) (w : World) (hl : Laid w) : Calls Tryz.prog 103 #[.string (B s)] w fun e w' => e = .returned (.agg (Md.cells (pointsM s))) ∧ Below w.heap.size w w' := by
  have h1 := preLen s countPV
  have h2 := sufLen (Lib.trimPrefix s countPV) [41]
  obtain ⟨c1, c2⟩ := cut_len 47 s
  obtain ⟨p, q, hpq⟩ : ∃ p q, cutAt 47 s = (p, q) := ⟨_, _, rfl⟩
  rw [hpq] at c1 c2
  simp only at c1 c2
  have HC := Lib.hid hpq
  clear hpq
  have hS := St.start hl keepsL
  go_enter Tryz.func103, Tryz.ntmps103
  go_wp2_with (first | (go_at_call 136; (with_reducible refine (St.still hS fun hl => cutCnt_any _ _).mono ?_); rintro e w ⟨rfl, hS⟩) | (go_at_call 138; (with_reducible refine (St.still hS fun hl => trimO_any _ (by omega) _).mono ?_); rintro e w ⟨rfl, hS⟩) | (go_at_call 137; (with_reducible refine (St.call hS fun hl => fltO_any _ (by omega) _ hl).mono ?_); rintro e w ⟨rfl, hS⟩) | (go_at_call 139; (with_reducible refine (St.call hS fun hl => numO_any _ (by omega) _ hl).mono ?_); rintro e w ⟨rfl, hS⟩) | (go_at_call 99; (with_reducible refine (cutO_any s 47 p q HC _ hS.laid hs).mono ?_); rintro e w ⟨⟨b0, rfl⟩, hbw⟩; have hS := hS.mono hbw; clear hbw) | ((with_reducible refine at_alloc ?_); (first | (refine wpList_new 27 rfl hS rfl _ md_new ?_; intro g w hS) | (refine wpList_new 25 rfl hS rfl _ flt_new ?_; intro g w hS)); (try simp only [Act.put, List.setIfInBounds_toArray, List.set_cons_zero, List.set_cons_succ])) | ((with_reducible refine md_shape_0_4 ?_); refine md_bld_0_4 rfl rfl rfl ?_; (try simp only [Act.put, List.setIfInBounds_toArray, List.set_cons_zero, List.set_cons_succ])) | ((with_reducible refine md_shape_0_1_2 ?_); refine md_bld_0_1_2 rfl rfl rfl rfl ?_; (try simp only [Act.put, List.setIfInBounds_toArray, List.set_cons_zero, List.set_cons_succ])) | ((with_reducible refine at_load ?_); (first | (refine flt_ldw rfl hS rfl rfl (by (first | exact .head | exact .tail .head | exact .tail (.tail .head) | exact .tail (.tail (.tail .head)) | exact .tail (.tail (.tail (.tail .head))) | fail)) ?_)); (try simp only [Act.put, List.setIfInBounds_toArray, List.set_cons_zero, List.set_cons_succ])) | ((with_reducible refine at_store ?_); (first | (refine md_stw rfl hS rfl rfl rfl (by first | exact .head | exact .tail .head | exact .tail (.tail .head) | exact .tail (.tail (.tail .head)) | exact .tail (.tail (.tail (.tail .head))) | fail) ?_; intro w hS) | (refine flt_stw rfl hS rfl rfl rfl (by first | exact .head | exact .tail .head | exact .tail (.tail .head) | exact .tail (.tail (.tail .head)) | exact .tail (.tail (.tail (.tail .head))) | fail) ?_; intro w hS)); (try simp only [Act.put, List.setIfInBounds_toArray, List.set_cons_zero, List.set_cons_succ])))
  all_goals (refine md_res hS rfl rfl (by (first | exact .head | exact .tail .head | exact .tail (.tail .head) | exact .tail (.tail (.tail .head)) | exact .tail (.tail (.tail (.tail .head))) | fail)) rfl (fun hb => ⟨ret_cells (f := Md.cells) ?_, hb⟩))
  all_goals (have hc := HC.out; simp_all [pointsM, zeroM])
theorem pm_kind (q : Str) : wrap64 ((pointsM q).kind + 1) = (pointsM q).kind + 1 := by unfold pointsM; split <;> (simp only []; decide +kernel)
set_option maxRecDepth 100000 in
set_option maxHeartbeats 4000000 in
theorem mdGuess_any (s : Str) (hs : s.length < 100000000) (w : World) (hl : Laid w) : Calls Tryz.prog 46 #[.string (B s)] w fun e w' => e = .returned (.agg (Md.cells (guessM s))) ∧ Below w.heap.size w w' := by
  obtain ⟨c1, c2⟩ := cut_len 61 s
  obtain ⟨p, q, hpq⟩ : ∃ p q, cutAt 61 s = (p, q) := ⟨_, _, rfl⟩
  rw [hpq] at c1 c2
  simp only at c1 c2
  have HC := Lib.hid hpq
  clear hpq
  have hS := St.start hl keepsL
  go_enter Tryz.func46, Tryz.ntmps46
  go_wp2_with (first | ((first | (with_reducible refine wpList_here ?_) | (with_reducible refine region_here ?_)); (have hq := str_eq (by assumption); subst hq)) | (go_at_call 100; (with_reducible refine (St.call hS fun hl => ptB_any _ (by omega) _ hl).mono ?_); rintro e w ⟨rfl, hS⟩) | (go_at_call 101; (with_reducible refine (St.call hS fun hl => pcB_any _ _ hl).mono ?_); rintro e w ⟨rfl, hS⟩) | (go_at_call 102; (with_reducible refine (St.call hS fun hl => pkB_any _ (by omega) _).mono ?_); rintro e w ⟨rfl, hS⟩) | (go_at_call 103; (with_reducible refine (St.call hS fun hl => mdPoints_any _ (by omega) _ hl).mono ?_); rintro e w ⟨rfl, hS⟩) | (go_at_call 104; (with_reducible refine (St.still hS fun hl => hasPlus_any _ (by omega) _).mono ?_); rintro e w ⟨rfl, hS⟩) | (go_at_call 99; (with_reducible refine (cutO_any s 61 p q HC _ hS.laid hs).mono ?_); rintro e w ⟨⟨b0, rfl⟩, hbw⟩; have hS := hS.mono hbw; clear hbw) | ((with_reducible refine at_guard ?_); (first | (refine wpList_pass rfl ?_)); (try simp only [Act.put, List.setIfInBounds_toArray, List.set_cons_zero, List.set_cons_succ])) | ((with_reducible refine at_alloc ?_); (first | (refine wpList_new 27 rfl hS rfl _ md_new ?_; intro g w hS)); (try simp only [Act.put, List.setIfInBounds_toArray, List.set_cons_zero, List.set_cons_succ])) | ((with_reducible refine md_shape_0 ?_); refine md_bld_0 rfl rfl ?_; (try simp only [Act.put, List.setIfInBounds_toArray, List.set_cons_zero, List.set_cons_succ])) | ((with_reducible refine at_load ?_); (first | (refine md_ldw rfl hS rfl rfl (by (first | exact .head | exact .tail .head | exact .tail (.tail .head) | exact .tail (.tail (.tail .head)) | exact .tail (.tail (.tail (.tail .head))) | fail)) ?_) | (refine md_ld0 rfl hS rfl rfl (by (first | exact .head | exact .tail .head | exact .tail (.tail .head) | exact .tail (.tail (.tail .head)) | exact .tail (.tail (.tail (.tail .head))) | fail)) ?_)); (try simp only [Act.put, List.setIfInBounds_toArray, List.set_cons_zero, List.set_cons_succ])) | ((with_reducible refine at_store ?_); (first | (refine md_stw rfl hS rfl rfl rfl (by first | exact .head | exact .tail .head | exact .tail (.tail .head) | exact .tail (.tail (.tail .head)) | exact .tail (.tail (.tail (.tail .head))) | fail) ?_; intro w hS) | (refine md_st0 rfl hS rfl rfl rfl (by first | exact .head | exact .tail .head | exact .tail (.tail .head) | exact .tail (.tail (.tail .head)) | exact .tail (.tail (.tail (.tail .head))) | fail) ?_; intro w hS) | (refine md_st1 rfl hS rfl rfl rfl (by first | exact .head | exact .tail .head | exact .tail (.tail .head) | exact .tail (.tail (.tail .head)) | exact .tail (.tail (.tail (.tail .head))) | fail) ?_; intro w hS) | (refine md_st3 rfl hS rfl rfl rfl (by first | exact .head | exact .tail .head | exact .tail (.tail .head) | exact .tail (.tail (.tail .head)) | exact .tail (.tail (.tail (.tail .head))) | fail) ?_; intro w hS)); (try simp only [Act.put, List.setIfInBounds_toArray, List.set_cons_zero, List.set_cons_succ])))
  all_goals (refine md_res hS rfl rfl (by (first | exact .head | exact .tail .head | exact .tail (.tail .head) | exact .tail (.tail (.tail .head)) | exact .tail (.tail (.tail (.tail .head))) | fail)) rfl (fun hb => ⟨ret_cells (f := Md.cells) ?_, hb⟩))
  all_goals (have hc := HC.out; clear hS hl; simp_all [pm_kind, guessM, baseM, stepM, upM, zeroM, controlV, blankV, switchV, typesV, typesPV, subV, subPV, colorsV, colorsPV, keysPV, keysMV, ptV, ptPV] <;> (first | rfl | (decide +kernel) | exact pm_kind _))
def mdRet (o : Option Md) : Value := match o with | some r => .tuple #[.agg r.cells, .int .i64 0] | none => .tuple #[.agg zeroM.cells, .int .i64 3]
theorem mdGuess_is (s : Str) (G : Md) (h : Hid (guessM s = G)) (hs : s.length < 100000000) (w : World) (hl : Laid w) : Calls Tryz.prog 46 #[.string (B s)] w fun e w' => e = .returned (.agg G.cells) ∧ Below w.heap.size w w' :=
  (mdGuess_any s hs w hl).mono fun e w' h' => ⟨by rw [h'.1, h.out], h'.2⟩
set_option maxRecDepth 100000 in
set_option maxHeartbeats 2000000 in
theorem mdParse_at (s : Str) (hs : s.length < 100000000) (G : Md) (HG : Hid (guessM s = G)) (I : Bool) (HI : Hid (I = mdIs G)) (T : Str) (HT : Hid (mdText G = T)) (R : Option Md) (HR : Hid ((if I = true ∧ T = s then some G else none) = R)) (w : World) (hl : Laid w) :
    Calls Tryz.prog 18 #[.string (B s)] w fun e w' => e = .returned (mdRet R) ∧ Below w.heap.size w w' := by
  have hS := St.start hl keepsL
  cases I
  · obtain rfl : R = none := by rw [← HR.out, if_neg (fun h => by cases h.1)]
    clear HR
    go_enter Tryz.func18, Tryz.ntmps18
    go_wp2_with (first | (go_at_call 46; (with_reducible refine (St.call hS fun hl => mdGuess_is _ _ HG hs _ hl).mono ?_); rintro e w ⟨rfl, hS⟩) | (go_at_call 12; (with_reducible refine (St.call hS fun hl => mdIs_is _ _ HI _ hl).mono ?_); rintro e w ⟨rfl, hS⟩) | ((with_reducible refine at_guard ?_); (first | (refine wpList_pass rfl ?_)); (try simp only [Act.put, List.setIfInBounds_toArray, List.set_cons_zero, List.set_cons_succ])) | ((with_reducible refine at_alloc ?_); (first | (refine wpList_new 27 rfl hS rfl _ md_new ?_; intro g w hS)); (try simp only [Act.put, List.setIfInBounds_toArray, List.set_cons_zero, List.set_cons_succ])) | ((with_reducible refine md_shape_ ?_); refine md_bld_ rfl ?_; (try simp only [Act.put, List.setIfInBounds_toArray, List.set_cons_zero, List.set_cons_succ])) | ((with_reducible refine at_load ?_); (first | (refine md_ldw rfl hS rfl rfl (by (first | exact .head | exact .tail .head | exact .tail (.tail .head) | exact .tail (.tail (.tail .head)) | exact .tail (.tail (.tail (.tail .head))) | fail)) ?_)); (try simp only [Act.put, List.setIfInBounds_toArray, List.set_cons_zero, List.set_cons_succ])) | ((with_reducible refine at_store ?_); (first | (refine md_stw rfl hS rfl rfl rfl (by first | exact .head | exact .tail .head | exact .tail (.tail .head) | exact .tail (.tail (.tail .head)) | exact .tail (.tail (.tail (.tail .head))) | fail) ?_; intro w hS)); (try simp only [Act.put, List.setIfInBounds_toArray, List.set_cons_zero, List.set_cons_succ])))
    all_goals (refine md_res2 hS rfl rfl (by (first | exact .head | exact .tail .head | exact .tail (.tail .head) | exact .tail (.tail (.tail .head)) | exact .tail (.tail (.tail (.tail .head))) | fail)) rfl rfl (fun hb => ⟨rfl, hb⟩))
  · by_cases hx : T = s
    · subst hx
      obtain rfl : R = some G := by rw [← HR.out, if_pos ⟨rfl, rfl⟩]
      clear HR
      have ht : (T == T) = true := by simp
      go_enter Tryz.func18, Tryz.ntmps18
      go_wp2_with (first | (go_at_call 46; (with_reducible refine (St.call hS fun hl => mdGuess_is _ _ HG hs _ hl).mono ?_); rintro e w ⟨rfl, hS⟩) | (go_at_call 12; (with_reducible refine (St.call hS fun hl => mdIs_is _ _ HI _ hl).mono ?_); rintro e w ⟨rfl, hS⟩) | (go_at_call 14; (with_reducible refine (St.call hS fun hl => mdText_is _ _ HT _ hl).mono ?_); rintro e w ⟨rfl, hS⟩) | ((with_reducible refine at_alloc ?_); (first | (refine wpList_new 27 rfl hS rfl _ md_new ?_; intro g w hS)); (try simp only [Act.put, List.setIfInBounds_toArray, List.set_cons_zero, List.set_cons_succ])) | ((with_reducible refine at_load ?_); (first | (refine md_ldw rfl hS rfl rfl (by (first | exact .head | exact .tail .head | exact .tail (.tail .head) | exact .tail (.tail (.tail .head)) | exact .tail (.tail (.tail (.tail .head))) | fail)) ?_)); (try simp only [Act.put, List.setIfInBounds_toArray, List.set_cons_zero, List.set_cons_succ])) | ((with_reducible refine at_store ?_); (first | (refine md_stw rfl hS rfl rfl rfl (by first | exact .head | exact .tail .head | exact .tail (.tail .head) | exact .tail (.tail (.tail .head)) | exact .tail (.tail (.tail (.tail .head))) | fail) ?_; intro w hS)); (try simp only [Act.put, List.setIfInBounds_toArray, List.set_cons_zero, List.set_cons_succ])))
      all_goals (refine md_res2 hS rfl rfl (by (first | exact .head | exact .tail .head | exact .tail (.tail .head) | exact .tail (.tail (.tail .head)) | exact .tail (.tail (.tail (.tail .head))) | fail)) rfl rfl (fun hb => ⟨rfl, hb⟩))
    · obtain rfl : R = none := by rw [← HR.out, if_neg (fun h => hx h.2)]
      have hx' : (T == s) = false := by simpa using hx
      clear hx HR
      go_enter Tryz.func18, Tryz.ntmps18
      go_wp2_with (first | (go_at_call 46; (with_reducible refine (St.call hS fun hl => mdGuess_is _ _ HG hs _ hl).mono ?_); rintro e w ⟨rfl, hS⟩) | (go_at_call 12; (with_reducible refine (St.call hS fun hl => mdIs_is _ _ HI _ hl).mono ?_); rintro e w ⟨rfl, hS⟩) | (go_at_call 14; (with_reducible refine (St.call hS fun hl => mdText_is _ _ HT _ hl).mono ?_); rintro e w ⟨rfl, hS⟩) | ((with_reducible refine at_alloc ?_); (first | (refine wpList_new 27 rfl hS rfl _ md_new ?_; intro g w hS)); (try simp only [Act.put, List.setIfInBounds_toArray, List.set_cons_zero, List.set_cons_succ])) | ((with_reducible refine md_shape_ ?_); refine md_bld_ rfl ?_; (try simp only [Act.put, List.setIfInBounds_toArray, List.set_cons_zero, List.set_cons_succ])) | ((with_reducible refine at_load ?_); (first | (refine md_ldw rfl hS rfl rfl (by (first | exact .head | exact .tail .head | exact .tail (.tail .head) | exact .tail (.tail (.tail .head)) | exact .tail (.tail (.tail (.tail .head))) | fail)) ?_)); (try simp only [Act.put, List.setIfInBounds_toArray, List.set_cons_zero, List.set_cons_succ])) | ((with_reducible refine at_store ?_); (first | (refine md_stw rfl hS rfl rfl rfl (by first | exact .head | exact .tail .head | exact .tail (.tail .head) | exact .tail (.tail (.tail .head)) | exact .tail (.tail (.tail (.tail .head))) | fail) ?_; intro w hS)); (try simp only [Act.put, List.setIfInBounds_toArray, List.set_cons_zero, List.set_cons_succ])))
      all_goals (refine md_res2 hS rfl rfl (by (first | exact .head | exact .tail .head | exact .tail (.tail .head) | exact .tail (.tail (.tail .head)) | exact .tail (.tail (.tail (.tail .head))) | fail)) rfl rfl (fun hb => ⟨rfl, hb⟩))
theorem mdParse_any (s : Str) (hs : s.length < 100000000) (w : World) (hl : Laid w) : Calls Tryz.prog 18 #[.string (B s)] w fun e w' => e = .returned (mdRet (mdParse s)) ∧ Below w.heap.size w w' :=
  mdParse_at s hs _ (Lib.hid rfl) _ (Lib.hid rfl) _ (Lib.hid rfl) _ (Lib.hid rfl) w hl
end Go.Proofs.YtakgfbcmkhcdkaaGreatDoor
