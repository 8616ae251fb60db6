/- Walks: package effect: whole. Conditions: LaidM; the modifications lie where the slice says. -/
import Derived.Test.YtdnnbfbhifelkaaGreatDoorMEWhA
import Derived.Deep.DeepCutAuto
set_option linter.all false
set_option maxRecDepth 100000
set_option maxHeartbeats 16000000
namespace Go.Proofs.YtdnnbfbhifelkaaGreatDoor
attribute [local irreducible] wpList Code.wp Calls refIs amIs fltIs mlText poText cntText isName fRef fAmt fCtr fZone fCard fFlt fPool fMods rfEq amEq fltEq poEq textOf
open Go.ChangeShapes Go.WideShapes Go.RowKit
theorem bool_if {u a b r : Bool} (h : r = if u = true then a else b) (h1 : false = (u && !a)) (h2 : false = (!u && !b)) : r = true := by
 revert h h1 h2; cases u <;> cases a <;> cases b <;> cases r <;> decide
theorem bool_no {u a b r : Bool} (h : r = if u = true then a else b) (h1 : true = (u && !a) ∨ true = (!u && !b)) : r = false := by
 revert h h1; cases u <;> cases a <;> cases b <;> cases r <;> decide
theorem whole_no1 {e : Ef} {specs : Int} (h : fRef e specs = false) : fWhole e specs = false := by unfold fWhole; rw [h]; simp
theorem whole_no2 {e : Ef} {specs : Int} (h : fAmt e = false) : fWhole e specs = false := by unfold fWhole; rw [h]; simp
theorem whole_no3 {e : Ef} {specs : Int} (h : fCtr e = false) : fWhole e specs = false := by unfold fWhole; rw [h]; simp
theorem whole_no4 {e : Ef} {specs : Int} (h : fZone e = false) : fWhole e specs = false := by unfold fWhole; rw [h]; simp
theorem whole_no5 {e : Ef} {specs : Int} (h : fCard e = false) : fWhole e specs = false := by unfold fWhole; rw [h]; simp
theorem whole_no6 {e : Ef} {specs : Int} (h : fFlt e = false) : fWhole e specs = false := by unfold fWhole; rw [h]; simp
theorem whole_no7 {e : Ef} {specs : Int} (h : fPool e = false) : fWhole e specs = false := by unfold fWhole; rw [h]; simp
theorem whole_no8 {e : Ef} {specs : Int} (h : fMods e = false) : fWhole e specs = false := by unfold fWhole; rw [h]; simp
theorem whole_walk (op : Int) (ref : Rf) (amt : Am) (ctr zone : Int) (card : Str) (flt : Flt) (pool : Po) (mods : List Md) (va : Option Addr) (vn vc : Nat) (specs : Int) (p1 p2 p3 p4 p5 p6 p7 p8 : Bool) (hU : usOf op = ⟨p1, p2, p3, p4, p5, p6, p7, p8⟩) (w0 : World) (hl : LaidE ⟨op, ref, amt, ctr, zone, B card, flt, pool, mods⟩ ⟨va, vn, vc⟩ w0) :
 Calls Tryz.prog 27 #[.agg (Em.cells ⟨op, ref, amt, ctr, zone, B card, flt, pool, ⟨va, vn, vc⟩⟩), .agg (Us.cells ⟨p1, p2, p3, p4, p5, p6, p7, p8⟩), .int .i64 specs] w0 fun e w' => e = .returned (.bool (fWhole ⟨op, ref, amt, ctr, zone, B card, flt, pool, mods⟩ specs)) ∧ Below w0.heap.size w0 w' := by
 have U1 := Lib.hid (show uR op = p1 from congrArg Us.ref hU)
 have U2 := Lib.hid (show uA op = p2 from congrArg Us.amt hU)
 have U3 := Lib.hid (show uK op = p3 from congrArg Us.ctr hU)
 have U4 := Lib.hid (show uZ op = p4 from congrArg Us.zone hU)
 have U5 := Lib.hid (show uC op = p5 from congrArg Us.card hU)
 have U6 := Lib.hid (show uF op = p6 from congrArg Us.flt hU)
 have U7 := Lib.hid (show uP op = p7 from congrArg Us.pool hU)
 have U8 := Lib.hid (show uM op = p8 from congrArg Us.mods hU)
 clear hU
 obtain ⟨Z, hZ⟩ : ∃ z, wantZ op = z := ⟨_, rfl⟩
 have HZ := Lib.hid hZ
 obtain ⟨a1, h1⟩ : ∃ b, refIs ref specs = b := ⟨_, rfl⟩
 obtain ⟨b1, k1⟩ : ∃ b, rfEq ref zeroR = b := ⟨_, rfl⟩
 obtain ⟨a2, h2⟩ : ∃ b, amIs amt = b := ⟨_, rfl⟩
 obtain ⟨b2, k2⟩ : ∃ b, amEq amt zeroA = b := ⟨_, rfl⟩
 obtain ⟨T3, h3⟩ : ∃ T, cntText ctr = T := ⟨_, rfl⟩
 obtain ⟨b3, k3⟩ : ∃ b, (ctr == 0) = b := ⟨_, rfl⟩
 obtain ⟨b4, k4⟩ : ∃ b, (zone == 0) = b := ⟨_, rfl⟩
 obtain ⟨a5, h5⟩ : ∃ b, isName (L (B card)) = b := ⟨_, rfl⟩
 obtain ⟨b5, k5⟩ : ∃ b, (card == []) = b := ⟨_, rfl⟩
 obtain ⟨f6, h6⟩ : ∃ b, fltIs flt = b := ⟨_, rfl⟩
 obtain ⟨z6, j6⟩ : ∃ b, (flt.zone == Z) = b := ⟨_, rfl⟩
 obtain ⟨b6, k6⟩ : ∃ b, fltEq flt zeroF = b := ⟨_, rfl⟩
 obtain ⟨T7, h7⟩ : ∃ T, poText pool = T := ⟨_, rfl⟩
 obtain ⟨b7, k7⟩ : ∃ b, poEq pool zeroPo = b := ⟨_, rfl⟩
 obtain ⟨T8, h8⟩ : ∃ T, mlText mods = T := ⟨_, rfl⟩
 obtain ⟨b8, k8⟩ : ∃ b, decide (mods.length = 0) = b := ⟨_, rfl⟩
 obtain ⟨a3, h3'⟩ : ∃ b, (T3 == []) = !b := ⟨!(T3 == []), by simp⟩
 obtain ⟨c7, h7'⟩ : ∃ b, (T7 == []) = !b := ⟨!(T7 == []), by simp⟩
 obtain ⟨a8, h8'⟩ : ∃ b, (T8 == []) = !b := ⟨!(T8 == []), by simp⟩
 have F1 : Hid (fRef ⟨op, ref, amt, ctr, zone, B card, flt, pool, mods⟩ specs = if p1 = true then a1 else b1) := Lib.hid (by unfold fRef; simp only; rw [U1.out, h1, k1])
 have F2 : Hid (fAmt ⟨op, ref, amt, ctr, zone, B card, flt, pool, mods⟩ = if p2 = true then a2 else b2) := Lib.hid (by unfold fAmt; simp only; rw [U2.out, h2, k2])
 have F3 : Hid (fCtr ⟨op, ref, amt, ctr, zone, B card, flt, pool, mods⟩ = if p3 = true then a3 else b3) := Lib.hid (by unfold fCtr; simp only; rw [U3.out, h3, h3', k3, Bool.not_not])
 have F4 : Hid (fZone ⟨op, ref, amt, ctr, zone, B card, flt, pool, mods⟩ = if p4 = true then (decide (0 ≤ zone) && decide (zone ≤ 4)) else b4) := Lib.hid (by unfold fZone; simp only; rw [U4.out, k4])
 have F5 : Hid (fCard ⟨op, ref, amt, ctr, zone, B card, flt, pool, mods⟩ = if p5 = true then a5 else b5) := Lib.hid (by unfold fCard; simp only; rw [U5.out, h5, L_B, k5])
 have F6 : Hid (fFlt ⟨op, ref, amt, ctr, zone, B card, flt, pool, mods⟩ = if p6 = true then (f6 && z6) else b6) := Lib.hid (by unfold fFlt; simp only; rw [U6.out, h6, HZ.out, j6, k6])
 have F7 : Hid (fPool ⟨op, ref, amt, ctr, zone, B card, flt, pool, mods⟩ = if p7 = true then (!b7 && c7) else b7) := Lib.hid (by unfold fPool; simp only; rw [U7.out, k7, h7, h7', Bool.not_not])
 have F8 : Hid (fMods ⟨op, ref, amt, ctr, zone, B card, flt, pool, mods⟩ = if p8 = true then a8 else b8) := Lib.hid (by unfold fMods; simp only; rw [U8.out, h8, h8', k8, Bool.not_not])
 have e1 := fun wx => (neq_rf ref ⟨zeroR.kind, zeroR.n, zeroR.f⟩ wx).trans (by rw [show (⟨zeroR.kind, zeroR.n, zeroR.f⟩ : Rf) = zeroR from rfl, k1])
 have e2 := fun wx => (neq_am amt ⟨zeroA.k, zeroA.n, zeroA.c, zeroA.f⟩ wx).trans (by rw [show (⟨zeroA.k, zeroA.n, zeroA.c, zeroA.f⟩ : Am) = zeroA from rfl, k2])
 have e3 : (ctr != 0) = !b3 := by rw [← k3]; rfl
 have e4 : (zone != 0) = !b4 := by rw [← k4]; rfl
 have e5 : (card != []) = !b5 := by rw [← k5]; rfl
 have k5i : card.isEmpty = b5 := by rw [← k5]; cases card <;> rfl
 have e6 := fun wx => (neq_fl flt ⟨zeroF.zone, zeroF.who, zeroF.self, zeroF.types, zeroF.ntypes, zeroF.colors, zeroF.ncolors, zeroF.sub, zeroF.keys, zeroF.tap, zeroF.pk, zeroF.pn, zeroF.tk, zeroF.tn, zeroF.vk, zeroF.vn⟩ wx).trans (by rw [show (⟨zeroF.zone, zeroF.who, zeroF.self, zeroF.types, zeroF.ntypes, zeroF.colors, zeroF.ncolors, zeroF.sub, zeroF.keys, zeroF.tap, zeroF.pk, zeroF.pn, zeroF.tk, zeroF.tn, zeroF.vk, zeroF.vn⟩ : Flt) = zeroF from rfl, k6])
 have e6z : (flt.zone != Z) = !z6 := by rw [← j6]; rfl
 have e7 := fun wx => (neq_po pool ⟨zeroPo.g, zeroPo.c0, zeroPo.c1, zeroPo.c2, zeroPo.c3, zeroPo.c4⟩ wx).trans (by rw [show (⟨zeroPo.g, zeroPo.c0, zeroPo.c1, zeroPo.c2, zeroPo.c3, zeroPo.c4⟩ : Po) = zeroPo from rfl, k7])
 have e7e := fun wx => (eq_po pool ⟨zeroPo.g, zeroPo.c0, zeroPo.c1, zeroPo.c2, zeroPo.c3, zeroPo.c4⟩ wx).trans (by rw [show (⟨zeroPo.g, zeroPo.c0, zeroPo.c1, zeroPo.c2, zeroPo.c3, zeroPo.c4⟩ : Po) = zeroPo from rfl, k7])
 have e8 : decide ((vn : Int) > 0) = !b8 := by
  rw [← k8]
  have := hl.2.1
  simp only at this
  rw [this]; cases mods <;> simp
 have e8' : decide (0 < (vn : Int)) = !b8 := e8
 have G1 := Lib.hid h1
 have G2 := Lib.hid h2
 have G3 := Lib.hid h3
 have G5 := Lib.hid h5
 have G6 := Lib.hid h6
 have G7 := Lib.hid h7
 have G8 := Lib.hid h8
 clear h1 h2 h3 h5 h6 h7 h8 hZ k1 k2 k6 k7 k8 k3 k4 k5 j6
 have hS := St.start hl (keepsE _ _)
 go_enter Tryz.func27, Tryz.ntmps27
 go_upto_if 10 with (first | fail | ((refine hot_here rfl ?_); (first | ((with_reducible refine at_load (T := 3) ?_); (first | (refine em_ld0 rfl hS rfl rfl (by repeat constructor) ?_)); (try simp only [put0, put1, put2, put3, put4])) | ((with_reducible refine at_box ?_); (first | (refine wpList_box_agg rfl hS rfl rfl ?_; intro g w hS)); (try simp only [put0, put1, put2, put3, put4])))) | ((fail_if_success (with_reducible refine wpList_here ?_)); (first | fail)))
 obtain ⟨rows, hrows, hS⟩ : ∃ rows, rows = [(g, Us.cells ⟨p1, p2, p3, p4, p5, p6, p7, p8⟩, 57), (_, Em.cells ⟨op, ref, amt, ctr, zone, B card, flt, pool, ⟨va, vn, vc⟩⟩, 34)] ∧ St (LaidE ⟨op, ref, amt, ctr, zone, B card, flt, pool, mods⟩ ⟨va, vn, vc⟩) w0 rows w := ⟨_, rfl, hS⟩
 have HRW := Lib.hid hrows
 clear hrows
 have HS0 := Lib.hid hS
 clear hS
 have hS := HS0.out
 rw [HRW.out] at hS
 go_cut [7] (fun zv wc => zv = .int .i64 Z ∧ Hid (St (LaidE ⟨op, ref, amt, ctr, zone, B card, flt, pool, mods⟩ ⟨va, vn, vc⟩) w0 rows wc))
 case first =>
  as_aux_lemma =>
   by_cases ho : op = 21
   ·have ho' : (op == 21) = true := by simpa using ho
    have hz : Z = 2 := by rw [← HZ.out]; exact if_pos ho
    have HZ2 := Lib.hid hz
    clear ho hz
    go_wp2_with (first | fail | ((refine hot_here rfl ?_); (first | fail)) | ((fail_if_success (with_reducible refine wpList_here ?_)); (first | fail)))
    all_goals go_meet
    all_goals exact ⟨by rw [HZ2.out], Lib.hid (by rw [HRW.out]; exact hS)⟩
   ·have ho' : (op == 21) = false := by simpa using ho
    have hz : Z = 0 := by rw [← HZ.out]; exact if_neg ho
    have HZ2 := Lib.hid hz
    clear ho hz
    go_wp2_with (first | fail | ((refine hot_here rfl ?_); (first | fail)) | ((fail_if_success (with_reducible refine wpList_here ?_)); (first | fail)))
    all_goals go_meet
    all_goals exact ⟨by rw [HZ2.out], Lib.hid (by rw [HRW.out]; exact hS)⟩
 case rest =>
 as_aux_lemma =>
 clear hS
 obtain ⟨rfl, HS⟩ := hcut
 have hS := HS.out
 rw [HRW.out] at hS
 clear HS
 go_upto_region 4 with (first | fail | ((refine hot_here rfl ?_); (first | fail)) | ((fail_if_success (with_reducible refine wpList_here ?_)); (first | fail)))
 go_cut [11] (fun tv wc => ∃ t : Bool, tv = .bool t ∧ Hid (t = (p1 && !a1)) ∧ Hid (St (LaidE ⟨op, ref, amt, ctr, zone, B card, flt, pool, mods⟩ ⟨va, vn, vc⟩) w0 rows wc))
 case first =>
  as_aux_lemma =>
   cases p1
   ·skip
    go_wp2_with (first | fail | ((refine hot_here rfl ?_); (first | ((with_reducible refine at_guard ?_); (first | (refine wpList_pass rfl ?_)); (try simp only [put0, put1, put2, put3, put4])) | ((with_reducible refine at_load (T := 4) ?_); (first | (refine us_ld0 rfl hS rfl rfl (by repeat constructor) ?_)); (try simp only [put0, put1, put2, put3, put4])))) | ((fail_if_success (with_reducible refine wpList_here ?_)); (first | fail)))
    all_goals go_meet
    all_goals exact ⟨_, rfl, Lib.hid (by first | rfl | (simp; done) | (simp_all; done) | (rw [Bool.eq_iff_iff]; simp_all; done) | (rw [Bool.eq_iff_iff]; simp_all; omega)), Lib.hid (by rw [HRW.out]; exact hS)⟩
   ·skip
    go_wp2_with (first | fail | ((refine hot_here rfl ?_); (first | ((with_reducible refine at_load (T := 4) ?_); (first | (refine us_ld0 rfl hS rfl rfl (by repeat constructor) ?_)); (try simp only [put0, put1, put2, put3, put4])) | ((with_reducible refine at_load (T := 27) ?_); (first | (refine em_ld1 rfl hS rfl rfl (by repeat constructor) ?_)); (try simp only [put0, put1, put2, put3, put4])))) | ((fail_if_success (with_reducible refine wpList_here ?_)); (first | (go_at_call 54; (with_reducible refine (St.call hS fun hl => rfIs_v _ _ _ G1 _ hl.1.base).mono ?_); rintro e w ⟨rfl, hS⟩))))
    all_goals go_meet
    all_goals exact ⟨_, rfl, Lib.hid (by first | rfl | (simp; done) | (simp_all; done) | (rw [Bool.eq_iff_iff]; simp_all; done) | (rw [Bool.eq_iff_iff]; simp_all; omega)), Lib.hid (by rw [HRW.out]; exact hS)⟩
 case rest =>
 as_aux_lemma =>
 clear hS
 obtain ⟨t, rfl, HT, HS⟩ := hcut
 have hS := HS.out
 rw [HRW.out] at hS
 clear HS
 cases t with
 | true =>
   have HN := Lib.hid (whole_no1 (specs := specs) (bool_no F1.out (.inl HT.out)))
   go_wp2_with (first | fail | ((refine hot_here rfl ?_); (first | fail)) | ((fail_if_success (with_reducible refine wpList_here ?_)); (first | fail)))
   all_goals go_ret
   all_goals exact ⟨ret_bool HN.out.symm, hS.below⟩
 | false =>
 go_upto_if 11 with (first | fail | ((refine hot_here rfl ?_); (first | fail)) | ((fail_if_success (with_reducible refine wpList_here ?_)); (first | fail)))
 go_cut [11] (fun tv wc => ∃ t : Bool, tv = .bool t ∧ Hid (t = (!p1 && !b1)) ∧ Hid (St (LaidE ⟨op, ref, amt, ctr, zone, B card, flt, pool, mods⟩ ⟨va, vn, vc⟩) w0 rows wc))
 case first =>
  as_aux_lemma =>
   cases p1
   ·skip
    go_wp2_with (first | fail | ((refine hot_here rfl ?_); (first | ((with_reducible refine at_load (T := 4) ?_); (first | (refine us_ld0 rfl hS rfl rfl (by repeat constructor) ?_)); (try simp only [put0, put1, put2, put3, put4])) | ((with_reducible refine at_load (T := 27) ?_); (first | (refine em_ld1 rfl hS rfl rfl (by repeat constructor) ?_)); (try simp only [put0, put1, put2, put3, put4])) | ((with_reducible refine rfs_shape_ ?_); refine rfs_bld_ rfl ?_; (try simp only [put0, put1, put2, put3, put4])))) | ((fail_if_success (with_reducible refine wpList_here ?_)); (first | fail)))
    all_goals go_meet
    all_goals exact ⟨_, rfl, Lib.hid (by first | rfl | (simp; done) | (simp_all; done)), Lib.hid (by rw [HRW.out]; exact hS)⟩
   ·skip
    go_wp2_with (first | fail | ((refine hot_here rfl ?_); (first | ((with_reducible refine at_guard ?_); (first | (refine wpList_pass rfl ?_)); (try simp only [put0, put1, put2, put3, put4])) | ((with_reducible refine at_load (T := 4) ?_); (first | (refine us_ld0 rfl hS rfl rfl (by repeat constructor) ?_)); (try simp only [put0, put1, put2, put3, put4])))) | ((fail_if_success (with_reducible refine wpList_here ?_)); (first | fail)))
    all_goals go_meet
    all_goals exact ⟨_, rfl, Lib.hid (by first | rfl | (simp; done) | (simp_all; done)), Lib.hid (by rw [HRW.out]; exact hS)⟩
 case rest =>
 as_aux_lemma =>
 clear hS
 obtain ⟨t, rfl, HT2, HS⟩ := hcut
 have hS := HS.out
 rw [HRW.out] at hS
 clear HS
 cases t with
 | true =>
   have HN := Lib.hid (whole_no1 (specs := specs) (bool_no F1.out (.inr HT2.out)))
   go_wp2_with (first | fail | ((refine hot_here rfl ?_); (first | fail)) | ((fail_if_success (with_reducible refine wpList_here ?_)); (first | fail)))
   all_goals go_ret
   all_goals exact ⟨ret_bool HN.out.symm, hS.below⟩
 | false =>
 have Y1 := Lib.hid (bool_if F1.out HT.out HT2.out)
 clear HT HT2
 go_upto_region 7 with (first | fail | ((refine hot_here rfl ?_); (first | fail)) | ((fail_if_success (with_reducible refine wpList_here ?_)); (first | ((with_reducible refine wp_cond_here ?_); refine wp_cond_split rfl (fun hb => ?_) (fun hb => ?_) <;> (first | (exfalso; exact Bool.noConfusion hb) | (obtain rfl := eq_of_beq hb) | skip) <;> (try simp only [decide_eq_true_eq, decide_eq_false_iff_not, Bool.and_eq_true, Bool.or_eq_true, Bool.and_eq_false_iff, Bool.or_eq_false_iff] at hb) <;> go_prune))))
 go_cut [30] (fun tv wc => ∃ t : Bool, tv = .bool t ∧ Hid (t = (p2 && !a2)) ∧ Hid (St (LaidE ⟨op, ref, amt, ctr, zone, B card, flt, pool, mods⟩ ⟨va, vn, vc⟩) w0 rows wc))
 case first =>
  as_aux_lemma =>
   cases p2
   ·skip
    go_wp2_with (first | fail | ((refine hot_here rfl ?_); (first | ((with_reducible refine at_guard ?_); (first | (refine wpList_pass rfl ?_)); (try simp only [put0, put1, put2, put3, put4])) | ((with_reducible refine at_load (T := 4) ?_); (first | (refine us_ld1 rfl hS rfl rfl (by repeat constructor) ?_)); (try simp only [put0, put1, put2, put3, put4])))) | ((fail_if_success (with_reducible refine wpList_here ?_)); (first | fail)))
    all_goals go_meet
    all_goals exact ⟨_, rfl, Lib.hid (by first | rfl | (simp; done) | (simp_all; done) | (rw [Bool.eq_iff_iff]; simp_all; done) | (rw [Bool.eq_iff_iff]; simp_all; omega)), Lib.hid (by rw [HRW.out]; exact hS)⟩
   ·skip
    go_wp2_with (first | fail | ((refine hot_here rfl ?_); (first | ((with_reducible refine at_load (T := 4) ?_); (first | (refine us_ld1 rfl hS rfl rfl (by repeat constructor) ?_)); (try simp only [put0, put1, put2, put3, put4])) | ((with_reducible refine at_load (T := 29) ?_); (first | (refine em_ld19 rfl hS rfl rfl (by repeat constructor) ?_)); (try simp only [put0, put1, put2, put3, put4])))) | ((fail_if_success (with_reducible refine wpList_here ?_)); (first | (go_at_call 55; (with_reducible refine (St.call hS fun hl => aIs_v _ _ G2 _ hl.1).mono ?_); rintro e w ⟨rfl, hS⟩))))
    all_goals go_meet
    all_goals exact ⟨_, rfl, Lib.hid (by first | rfl | (simp; done) | (simp_all; done) | (rw [Bool.eq_iff_iff]; simp_all; done) | (rw [Bool.eq_iff_iff]; simp_all; omega)), Lib.hid (by rw [HRW.out]; exact hS)⟩
 case rest =>
 as_aux_lemma =>
 clear hS
 obtain ⟨t, rfl, HT, HS⟩ := hcut
 have hS := HS.out
 rw [HRW.out] at hS
 clear HS
 cases t with
 | true =>
   have HN := Lib.hid (whole_no2 (specs := specs) (bool_no F2.out (.inl HT.out)))
   go_wp2_with (first | fail | ((refine hot_here rfl ?_); (first | fail)) | ((fail_if_success (with_reducible refine wpList_here ?_)); (first | fail)))
   all_goals go_ret
   all_goals exact ⟨ret_bool HN.out.symm, hS.below⟩
 | false =>
 go_upto_if 30 with (first | fail | ((refine hot_here rfl ?_); (first | fail)) | ((fail_if_success (with_reducible refine wpList_here ?_)); (first | fail)))
 go_cut [30] (fun tv wc => ∃ t : Bool, tv = .bool t ∧ Hid (t = (!p2 && !b2)) ∧ Hid (St (LaidE ⟨op, ref, amt, ctr, zone, B card, flt, pool, mods⟩ ⟨va, vn, vc⟩) w0 rows wc))
 case first =>
  as_aux_lemma =>
   cases p2
   ·skip
    go_wp2_with (first | fail | ((refine hot_here rfl ?_); (first | ((with_reducible refine at_load (T := 4) ?_); (first | (refine us_ld1 rfl hS rfl rfl (by repeat constructor) ?_)); (try simp only [put0, put1, put2, put3, put4])) | ((with_reducible refine at_load (T := 29) ?_); (first | (refine em_ld19 rfl hS rfl rfl (by repeat constructor) ?_)); (try simp only [put0, put1, put2, put3, put4])) | ((with_reducible refine ams_shape_ ?_); refine ams_bld_ rfl ?_; (try simp only [put0, put1, put2, put3, put4])))) | ((fail_if_success (with_reducible refine wpList_here ?_)); (first | fail)))
    all_goals go_meet
    all_goals exact ⟨_, rfl, Lib.hid (by first | rfl | (simp; done) | (simp_all; done)), Lib.hid (by rw [HRW.out]; exact hS)⟩
   ·skip
    go_wp2_with (first | fail | ((refine hot_here rfl ?_); (first | ((with_reducible refine at_guard ?_); (first | (refine wpList_pass rfl ?_)); (try simp only [put0, put1, put2, put3, put4])) | ((with_reducible refine at_load (T := 4) ?_); (first | (refine us_ld1 rfl hS rfl rfl (by repeat constructor) ?_)); (try simp only [put0, put1, put2, put3, put4])))) | ((fail_if_success (with_reducible refine wpList_here ?_)); (first | fail)))
    all_goals go_meet
    all_goals exact ⟨_, rfl, Lib.hid (by first | rfl | (simp; done) | (simp_all; done)), Lib.hid (by rw [HRW.out]; exact hS)⟩
 case rest =>
 as_aux_lemma =>
 clear hS
 obtain ⟨t, rfl, HT2, HS⟩ := hcut
 have hS := HS.out
 rw [HRW.out] at hS
 clear HS
 cases t with
 | true =>
   have HN := Lib.hid (whole_no2 (specs := specs) (bool_no F2.out (.inr HT2.out)))
   go_wp2_with (first | fail | ((refine hot_here rfl ?_); (first | fail)) | ((fail_if_success (with_reducible refine wpList_here ?_)); (first | fail)))
   all_goals go_ret
   all_goals exact ⟨ret_bool HN.out.symm, hS.below⟩
 | false =>
 have Y2 := Lib.hid (bool_if F2.out HT.out HT2.out)
 clear HT HT2
 go_upto_region 10 with (first | fail | ((refine hot_here rfl ?_); (first | fail)) | ((fail_if_success (with_reducible refine wpList_here ?_)); (first | ((with_reducible refine wp_cond_here ?_); refine wp_cond_split rfl (fun hb => ?_) (fun hb => ?_) <;> (first | (exfalso; exact Bool.noConfusion hb) | (obtain rfl := eq_of_beq hb) | skip) <;> (try simp only [decide_eq_true_eq, decide_eq_false_iff_not, Bool.and_eq_true, Bool.or_eq_true, Bool.and_eq_false_iff, Bool.or_eq_false_iff] at hb) <;> go_prune))))
 go_cut [48] (fun tv wc => ∃ t : Bool, tv = .bool t ∧ Hid (t = (p3 && !a3)) ∧ Hid (St (LaidE ⟨op, ref, amt, ctr, zone, B card, flt, pool, mods⟩ ⟨va, vn, vc⟩) w0 rows wc))
 case first =>
  as_aux_lemma =>
   cases p3
   ·skip
    go_wp2_with (first | fail | ((refine hot_here rfl ?_); (first | ((with_reducible refine at_guard ?_); (first | (refine wpList_pass rfl ?_)); (try simp only [put0, put1, put2, put3, put4])) | ((with_reducible refine at_load (T := 4) ?_); (first | (refine us_ld2 rfl hS rfl rfl (by repeat constructor) ?_)); (try simp only [put0, put1, put2, put3, put4])))) | ((fail_if_success (with_reducible refine wpList_here ?_)); (first | fail)))
    all_goals go_meet
    all_goals exact ⟨_, rfl, Lib.hid (by first | rfl | (simp; done) | (simp_all; done) | (rw [Bool.eq_iff_iff]; simp_all; done) | (rw [Bool.eq_iff_iff]; simp_all; omega)), Lib.hid (by rw [HRW.out]; exact hS)⟩
   ·skip
    go_wp2_with (first | fail | ((refine hot_here rfl ?_); (first | ((with_reducible refine at_load (T := 4) ?_); (first | (refine us_ld2 rfl hS rfl rfl (by repeat constructor) ?_)); (try simp only [put0, put1, put2, put3, put4])) | ((with_reducible refine at_load (T := 3) ?_); (first | (refine em_ld38 rfl hS rfl rfl (by repeat constructor) ?_)); (try simp only [put0, put1, put2, put3, put4])))) | ((fail_if_success (with_reducible refine wpList_here ?_)); (first | (go_at_call 40; (with_reducible refine (St.still hS fun hl => cntName_B _ _ G3 _ hl.1).mono ?_); rintro e w ⟨rfl, hS⟩))))
    all_goals go_meet
    all_goals exact ⟨_, rfl, Lib.hid (by first | rfl | (simp; done) | (simp_all; done) | (rw [Bool.eq_iff_iff]; simp_all; done) | (rw [Bool.eq_iff_iff]; simp_all; omega)), Lib.hid (by rw [HRW.out]; exact hS)⟩
 case rest =>
 as_aux_lemma =>
 clear hS
 obtain ⟨t, rfl, HT, HS⟩ := hcut
 have hS := HS.out
 rw [HRW.out] at hS
 clear HS
 cases t with
 | true =>
   have HN := Lib.hid (whole_no3 (specs := specs) (bool_no F3.out (.inl HT.out)))
   go_wp2_with (first | fail | ((refine hot_here rfl ?_); (first | fail)) | ((fail_if_success (with_reducible refine wpList_here ?_)); (first | fail)))
   all_goals go_ret
   all_goals exact ⟨ret_bool HN.out.symm, hS.below⟩
 | false =>
 go_upto_if 48 with (first | fail | ((refine hot_here rfl ?_); (first | fail)) | ((fail_if_success (with_reducible refine wpList_here ?_)); (first | fail)))
 go_cut [48] (fun tv wc => ∃ t : Bool, tv = .bool t ∧ Hid (t = (!p3 && !b3)) ∧ Hid (St (LaidE ⟨op, ref, amt, ctr, zone, B card, flt, pool, mods⟩ ⟨va, vn, vc⟩) w0 rows wc))
 case first =>
  as_aux_lemma =>
   cases p3
   ·skip
    go_wp2_with (first | fail | ((refine hot_here rfl ?_); (first | ((with_reducible refine at_load (T := 4) ?_); (first | (refine us_ld2 rfl hS rfl rfl (by repeat constructor) ?_)); (try simp only [put0, put1, put2, put3, put4])) | ((with_reducible refine at_load (T := 3) ?_); (first | (refine em_ld38 rfl hS rfl rfl (by repeat constructor) ?_)); (try simp only [put0, put1, put2, put3, put4])))) | ((fail_if_success (with_reducible refine wpList_here ?_)); (first | fail)))
    all_goals go_meet
    all_goals exact ⟨_, rfl, Lib.hid (by first | rfl | (simp; done) | (simp_all; done)), Lib.hid (by rw [HRW.out]; exact hS)⟩
   ·skip
    go_wp2_with (first | fail | ((refine hot_here rfl ?_); (first | ((with_reducible refine at_guard ?_); (first | (refine wpList_pass rfl ?_)); (try simp only [put0, put1, put2, put3, put4])) | ((with_reducible refine at_load (T := 4) ?_); (first | (refine us_ld2 rfl hS rfl rfl (by repeat constructor) ?_)); (try simp only [put0, put1, put2, put3, put4])))) | ((fail_if_success (with_reducible refine wpList_here ?_)); (first | fail)))
    all_goals go_meet
    all_goals exact ⟨_, rfl, Lib.hid (by first | rfl | (simp; done) | (simp_all; done)), Lib.hid (by rw [HRW.out]; exact hS)⟩
 case rest =>
 as_aux_lemma =>
 clear hS
 obtain ⟨t, rfl, HT2, HS⟩ := hcut
 have hS := HS.out
 rw [HRW.out] at hS
 clear HS
 cases t with
 | true =>
   have HN := Lib.hid (whole_no3 (specs := specs) (bool_no F3.out (.inr HT2.out)))
   go_wp2_with (first | fail | ((refine hot_here rfl ?_); (first | fail)) | ((fail_if_success (with_reducible refine wpList_here ?_)); (first | fail)))
   all_goals go_ret
   all_goals exact ⟨ret_bool HN.out.symm, hS.below⟩
 | false =>
 have Y3 := Lib.hid (bool_if F3.out HT.out HT2.out)
 clear HT HT2
 go_upto_region 13 with (first | fail | ((refine hot_here rfl ?_); (first | fail)) | ((fail_if_success (with_reducible refine wpList_here ?_)); (first | ((with_reducible refine wp_cond_here ?_); refine wp_cond_split rfl (fun hb => ?_) (fun hb => ?_) <;> (first | (exfalso; exact Bool.noConfusion hb) | (obtain rfl := eq_of_beq hb) | skip) <;> (try simp only [decide_eq_true_eq, decide_eq_false_iff_not, Bool.and_eq_true, Bool.or_eq_true, Bool.and_eq_false_iff, Bool.or_eq_false_iff] at hb) <;> go_prune))))
 go_cut [65] (fun tv wc => ∃ t : Bool, tv = .bool t ∧ Hid (t = (p4 && !(decide (0 ≤ zone) && decide (zone ≤ 4)))) ∧ Hid (St (LaidE ⟨op, ref, amt, ctr, zone, B card, flt, pool, mods⟩ ⟨va, vn, vc⟩) w0 rows wc))
 case first =>
  as_aux_lemma =>
   cases p4
   ·skip
    go_wp2_with (first | fail | ((refine hot_here rfl ?_); (first | ((with_reducible refine at_guard ?_); (first | (refine wpList_pass rfl ?_)); (try simp only [put0, put1, put2, put3, put4])) | ((with_reducible refine at_load (T := 4) ?_); (first | (refine us_ld3 rfl hS rfl rfl (by repeat constructor) ?_)); (try simp only [put0, put1, put2, put3, put4])))) | ((fail_if_success (with_reducible refine wpList_here ?_)); (first | fail)))
    all_goals go_meet
    all_goals exact ⟨_, rfl, Lib.hid (by first | rfl | (simp; done) | (simp_all; done) | (rw [Bool.eq_iff_iff]; simp_all; done) | (rw [Bool.eq_iff_iff]; simp_all; omega)), Lib.hid (by rw [HRW.out]; exact hS)⟩
   ·skip
    go_wp2_with (first | fail | ((refine hot_here rfl ?_); (first | ((with_reducible refine at_guard ?_); (first | (refine wpList_pass rfl ?_) | ((fail_if_success refine wpList_wanted rfl ?_); refine wpList_ask _ _ rfl rfl (fun hb => ?_) (fun hb => ?_) <;> (first | (obtain rfl := eq_of_beq hb) | (simp only [hb])))); (try simp only [put0, put1, put2, put3, put4])) | ((with_reducible refine at_load (T := 4) ?_); (first | (refine us_ld3 rfl hS rfl rfl (by repeat constructor) ?_)); (try simp only [put0, put1, put2, put3, put4])) | ((with_reducible refine at_load (T := 3) ?_); (first | (refine em_ld39 rfl hS rfl rfl (by repeat constructor) ?_)); (try simp only [put0, put1, put2, put3, put4])))) | ((fail_if_success (with_reducible refine wpList_here ?_)); (first | fail)))
    all_goals go_meet
    all_goals exact ⟨_, rfl, Lib.hid (by first | rfl | (simp; done) | (simp_all; done) | (rw [Bool.eq_iff_iff]; simp_all; done) | (rw [Bool.eq_iff_iff]; simp_all; omega)), Lib.hid (by rw [HRW.out]; exact hS)⟩
 case rest =>
 as_aux_lemma =>
 clear hS
 obtain ⟨t, rfl, HT, HS⟩ := hcut
 have hS := HS.out
 rw [HRW.out] at hS
 clear HS
 cases t with
 | true =>
   have HN := Lib.hid (whole_no4 (specs := specs) (bool_no F4.out (.inl HT.out)))
   go_wp2_with (first | fail | ((refine hot_here rfl ?_); (first | fail)) | ((fail_if_success (with_reducible refine wpList_here ?_)); (first | fail)))
   all_goals go_ret
   all_goals exact ⟨ret_bool HN.out.symm, hS.below⟩
 | false =>
 go_upto_if 65 with (first | fail | ((refine hot_here rfl ?_); (first | fail)) | ((fail_if_success (with_reducible refine wpList_here ?_)); (first | fail)))
 go_cut [65] (fun tv wc => ∃ t : Bool, tv = .bool t ∧ Hid (t = (!p4 && !b4)) ∧ Hid (St (LaidE ⟨op, ref, amt, ctr, zone, B card, flt, pool, mods⟩ ⟨va, vn, vc⟩) w0 rows wc))
 case first =>
  as_aux_lemma =>
   cases p4
   ·skip
    go_wp2_with (first | fail | ((refine hot_here rfl ?_); (first | ((with_reducible refine at_load (T := 4) ?_); (first | (refine us_ld3 rfl hS rfl rfl (by repeat constructor) ?_)); (try simp only [put0, put1, put2, put3, put4])) | ((with_reducible refine at_load (T := 3) ?_); (first | (refine em_ld39 rfl hS rfl rfl (by repeat constructor) ?_)); (try simp only [put0, put1, put2, put3, put4])))) | ((fail_if_success (with_reducible refine wpList_here ?_)); (first | fail)))
    all_goals go_meet
    all_goals exact ⟨_, rfl, Lib.hid (by first | rfl | (simp; done) | (simp_all; done)), Lib.hid (by rw [HRW.out]; exact hS)⟩
   ·skip
    go_wp2_with (first | fail | ((refine hot_here rfl ?_); (first | ((with_reducible refine at_guard ?_); (first | (refine wpList_pass rfl ?_)); (try simp only [put0, put1, put2, put3, put4])) | ((with_reducible refine at_load (T := 4) ?_); (first | (refine us_ld3 rfl hS rfl rfl (by repeat constructor) ?_)); (try simp only [put0, put1, put2, put3, put4])))) | ((fail_if_success (with_reducible refine wpList_here ?_)); (first | fail)))
    all_goals go_meet
    all_goals exact ⟨_, rfl, Lib.hid (by first | rfl | (simp; done) | (simp_all; done)), Lib.hid (by rw [HRW.out]; exact hS)⟩
 case rest =>
 as_aux_lemma =>
 clear hS
 obtain ⟨t, rfl, HT2, HS⟩ := hcut
 have hS := HS.out
 rw [HRW.out] at hS
 clear HS
 cases t with
 | true =>
   have HN := Lib.hid (whole_no4 (specs := specs) (bool_no F4.out (.inr HT2.out)))
   go_wp2_with (first | fail | ((refine hot_here rfl ?_); (first | fail)) | ((fail_if_success (with_reducible refine wpList_here ?_)); (first | fail)))
   all_goals go_ret
   all_goals exact ⟨ret_bool HN.out.symm, hS.below⟩
 | false =>
 have Y4 := Lib.hid (bool_if F4.out HT.out HT2.out)
 clear HT HT2
 go_upto_region 16 with (first | fail | ((refine hot_here rfl ?_); (first | fail)) | ((fail_if_success (with_reducible refine wpList_here ?_)); (first | ((with_reducible refine wp_cond_here ?_); refine wp_cond_split rfl (fun hb => ?_) (fun hb => ?_) <;> (first | (exfalso; exact Bool.noConfusion hb) | (obtain rfl := eq_of_beq hb) | skip) <;> (try simp only [decide_eq_true_eq, decide_eq_false_iff_not, Bool.and_eq_true, Bool.or_eq_true, Bool.and_eq_false_iff, Bool.or_eq_false_iff] at hb) <;> go_prune))))
 go_cut [86] (fun tv wc => ∃ t : Bool, tv = .bool t ∧ Hid (t = (p5 && !a5)) ∧ Hid (St (LaidE ⟨op, ref, amt, ctr, zone, B card, flt, pool, mods⟩ ⟨va, vn, vc⟩) w0 rows wc))
 case first =>
  as_aux_lemma =>
   cases p5
   ·skip
    go_wp2_with (first | fail | ((refine hot_here rfl ?_); (first | ((with_reducible refine at_guard ?_); (first | (refine wpList_pass rfl ?_)); (try simp only [put0, put1, put2, put3, put4])) | ((with_reducible refine at_load (T := 4) ?_); (first | (refine us_ld4 rfl hS rfl rfl (by repeat constructor) ?_)); (try simp only [put0, put1, put2, put3, put4])))) | ((fail_if_success (with_reducible refine wpList_here ?_)); (first | fail)))
    all_goals go_meet
    all_goals exact ⟨_, rfl, Lib.hid (by first | rfl | (simp; done) | (simp_all; done) | (rw [Bool.eq_iff_iff]; simp_all; done) | (rw [Bool.eq_iff_iff]; simp_all; omega)), Lib.hid (by rw [HRW.out]; exact hS)⟩
   ·skip
    go_wp2_with (first | fail | ((refine hot_here rfl ?_); (first | ((with_reducible refine at_load (T := 4) ?_); (first | (refine us_ld4 rfl hS rfl rfl (by repeat constructor) ?_)); (try simp only [put0, put1, put2, put3, put4])) | ((with_reducible refine at_load (T := 9) ?_); (first | (refine em_ld40 rfl hS rfl rfl (by repeat constructor) ?_)); (try simp only [put0, put1, put2, put3, put4])))) | ((fail_if_success (with_reducible refine wpList_here ?_)); (first | (go_at_call 56; (with_reducible refine (St.call hS fun hl => wordIs_is _ _ G5 _ hl.1.base).mono ?_); rintro e w ⟨rfl, hS⟩))))
    all_goals go_meet
    all_goals exact ⟨_, rfl, Lib.hid (by first | rfl | (simp; done) | (simp_all; done) | (rw [Bool.eq_iff_iff]; simp_all; done) | (rw [Bool.eq_iff_iff]; simp_all; omega)), Lib.hid (by rw [HRW.out]; exact hS)⟩
 case rest =>
 as_aux_lemma =>
 clear hS
 obtain ⟨t, rfl, HT, HS⟩ := hcut
 have hS := HS.out
 rw [HRW.out] at hS
 clear HS
 cases t with
 | true =>
   have HN := Lib.hid (whole_no5 (specs := specs) (bool_no F5.out (.inl HT.out)))
   go_wp2_with (first | fail | ((refine hot_here rfl ?_); (first | fail)) | ((fail_if_success (with_reducible refine wpList_here ?_)); (first | fail)))
   all_goals go_ret
   all_goals exact ⟨ret_bool HN.out.symm, hS.below⟩
 | false =>
 go_upto_if 86 with (first | fail | ((refine hot_here rfl ?_); (first | fail)) | ((fail_if_success (with_reducible refine wpList_here ?_)); (first | fail)))
 go_cut [86] (fun tv wc => ∃ t : Bool, tv = .bool t ∧ Hid (t = (!p5 && !b5)) ∧ Hid (St (LaidE ⟨op, ref, amt, ctr, zone, B card, flt, pool, mods⟩ ⟨va, vn, vc⟩) w0 rows wc))
 case first =>
  as_aux_lemma =>
   cases p5
   ·skip
    go_wp2_with (first | fail | ((refine hot_here rfl ?_); (first | ((with_reducible refine at_load (T := 4) ?_); (first | (refine us_ld4 rfl hS rfl rfl (by repeat constructor) ?_)); (try simp only [put0, put1, put2, put3, put4])) | ((with_reducible refine at_load (T := 9) ?_); (first | (refine em_ld40 rfl hS rfl rfl (by repeat constructor) ?_)); (try simp only [put0, put1, put2, put3, put4])))) | ((fail_if_success (with_reducible refine wpList_here ?_)); (first | fail)))
    all_goals go_meet
    all_goals exact ⟨_, rfl, Lib.hid (by first | rfl | (simp; done) | (simp_all; done)), Lib.hid (by rw [HRW.out]; exact hS)⟩
   ·skip
    go_wp2_with (first | fail | ((refine hot_here rfl ?_); (first | ((with_reducible refine at_guard ?_); (first | (refine wpList_pass rfl ?_)); (try simp only [put0, put1, put2, put3, put4])) | ((with_reducible refine at_load (T := 4) ?_); (first | (refine us_ld4 rfl hS rfl rfl (by repeat constructor) ?_)); (try simp only [put0, put1, put2, put3, put4])))) | ((fail_if_success (with_reducible refine wpList_here ?_)); (first | fail)))
    all_goals go_meet
    all_goals exact ⟨_, rfl, Lib.hid (by first | rfl | (simp; done) | (simp_all; done)), Lib.hid (by rw [HRW.out]; exact hS)⟩
 case rest =>
 as_aux_lemma =>
 clear hS
 obtain ⟨t, rfl, HT2, HS⟩ := hcut
 have hS := HS.out
 rw [HRW.out] at hS
 clear HS
 cases t with
 | true =>
   have HN := Lib.hid (whole_no5 (specs := specs) (bool_no F5.out (.inr HT2.out)))
   go_wp2_with (first | fail | ((refine hot_here rfl ?_); (first | fail)) | ((fail_if_success (with_reducible refine wpList_here ?_)); (first | fail)))
   all_goals go_ret
   all_goals exact ⟨ret_bool HN.out.symm, hS.below⟩
 | false =>
 have Y5 := Lib.hid (bool_if F5.out HT.out HT2.out)
 clear HT HT2
 go_upto_region 19 with (first | fail | ((refine hot_here rfl ?_); (first | fail)) | ((fail_if_success (with_reducible refine wpList_here ?_)); (first | ((with_reducible refine wp_cond_here ?_); refine wp_cond_split rfl (fun hb => ?_) (fun hb => ?_) <;> (first | (exfalso; exact Bool.noConfusion hb) | (obtain rfl := eq_of_beq hb) | skip) <;> (try simp only [decide_eq_true_eq, decide_eq_false_iff_not, Bool.and_eq_true, Bool.or_eq_true, Bool.and_eq_false_iff, Bool.or_eq_false_iff] at hb) <;> go_prune))))
 go_cut [103] (fun tv wc => ∃ t : Bool, tv = .bool t ∧ Hid (t = (p6 && !(f6 && z6))) ∧ Hid (St (LaidE ⟨op, ref, amt, ctr, zone, B card, flt, pool, mods⟩ ⟨va, vn, vc⟩) w0 rows wc))
 case first =>
  as_aux_lemma =>
   cases p6
   ·skip
    go_wp2_with (first | fail | ((refine hot_here rfl ?_); (first | ((with_reducible refine at_guard ?_); (first | (refine wpList_pass rfl ?_)); (try simp only [put0, put1, put2, put3, put4])) | ((with_reducible refine at_load (T := 4) ?_); (first | (refine us_ld5 rfl hS rfl rfl (by repeat constructor) ?_)); (try simp only [put0, put1, put2, put3, put4])))) | ((fail_if_success (with_reducible refine wpList_here ?_)); (first | fail)))
    all_goals go_meet
    all_goals exact ⟨_, rfl, Lib.hid (by first | rfl | (simp; done) | (simp_all; done) | (rw [Bool.eq_iff_iff]; simp_all; done) | (rw [Bool.eq_iff_iff]; simp_all; omega)), Lib.hid (by rw [HRW.out]; exact hS)⟩
   ·skip
    go_wp2_with (first | fail | ((refine hot_here rfl ?_); (first | ((with_reducible refine at_guard ?_); (first | (refine wpList_pass rfl ?_) | ((fail_if_success refine wpList_wanted rfl ?_); refine wpList_ask _ _ rfl rfl (fun hb => ?_) (fun hb => ?_) <;> (first | (obtain rfl := eq_of_beq hb) | (simp only [hb])))); (try simp only [put0, put1, put2, put3, put4])) | ((with_reducible refine at_load (T := 4) ?_); (first | (refine us_ld5 rfl hS rfl rfl (by repeat constructor) ?_)); (try simp only [put0, put1, put2, put3, put4])) | ((with_reducible refine at_load (T := 3) ?_); (first | (refine em_ldd41 rfl hS rfl rfl (by repeat constructor) ?_)); (try simp only [put0, put1, put2, put3, put4])) | ((with_reducible refine at_load (T := 25) ?_); (first | (refine em_ld41 rfl hS rfl rfl (by repeat constructor) ?_)); (try simp only [put0, put1, put2, put3, put4])))) | ((fail_if_success (with_reducible refine wpList_here ?_)); (first | (go_at_call 57; (with_reducible refine (St.call hS fun hl => fltIs_v _ _ G6 _ hl.1.base).mono ?_); rintro e w ⟨rfl, hS⟩))))
    all_goals go_meet
    all_goals exact ⟨_, rfl, Lib.hid (by first | rfl | (simp; done) | (simp_all; done) | (rw [Bool.eq_iff_iff]; simp_all; done) | (rw [Bool.eq_iff_iff]; simp_all; omega)), Lib.hid (by rw [HRW.out]; exact hS)⟩
 case rest =>
 as_aux_lemma =>
 clear hS
 obtain ⟨t, rfl, HT, HS⟩ := hcut
 have hS := HS.out
 rw [HRW.out] at hS
 clear HS
 cases t with
 | true =>
   have HN := Lib.hid (whole_no6 (specs := specs) (bool_no F6.out (.inl HT.out)))
   go_wp2_with (first | fail | ((refine hot_here rfl ?_); (first | fail)) | ((fail_if_success (with_reducible refine wpList_here ?_)); (first | fail)))
   all_goals go_ret
   all_goals exact ⟨ret_bool HN.out.symm, hS.below⟩
 | false =>
 go_upto_if 103 with (first | fail | ((refine hot_here rfl ?_); (first | fail)) | ((fail_if_success (with_reducible refine wpList_here ?_)); (first | fail)))
 go_cut [103] (fun tv wc => ∃ t : Bool, tv = .bool t ∧ Hid (t = (!p6 && !b6)) ∧ Hid (St (LaidE ⟨op, ref, amt, ctr, zone, B card, flt, pool, mods⟩ ⟨va, vn, vc⟩) w0 rows wc))
 case first =>
  as_aux_lemma =>
   cases p6
   ·skip
    go_wp2_with (first | fail | ((refine hot_here rfl ?_); (first | ((with_reducible refine at_load (T := 4) ?_); (first | (refine us_ld5 rfl hS rfl rfl (by repeat constructor) ?_)); (try simp only [put0, put1, put2, put3, put4])) | ((with_reducible refine at_load (T := 25) ?_); (first | (refine em_ld41 rfl hS rfl rfl (by repeat constructor) ?_)); (try simp only [put0, put1, put2, put3, put4])) | ((with_reducible refine flt_shape_ ?_); refine flt_bld_ rfl ?_; (try simp only [put0, put1, put2, put3, put4])))) | ((fail_if_success (with_reducible refine wpList_here ?_)); (first | fail)))
    all_goals go_meet
    all_goals exact ⟨_, rfl, Lib.hid (by first | rfl | (simp; done) | (simp_all; done)), Lib.hid (by rw [HRW.out]; exact hS)⟩
   ·skip
    go_wp2_with (first | fail | ((refine hot_here rfl ?_); (first | ((with_reducible refine at_guard ?_); (first | (refine wpList_pass rfl ?_)); (try simp only [put0, put1, put2, put3, put4])) | ((with_reducible refine at_load (T := 4) ?_); (first | (refine us_ld5 rfl hS rfl rfl (by repeat constructor) ?_)); (try simp only [put0, put1, put2, put3, put4])))) | ((fail_if_success (with_reducible refine wpList_here ?_)); (first | fail)))
    all_goals go_meet
    all_goals exact ⟨_, rfl, Lib.hid (by first | rfl | (simp; done) | (simp_all; done)), Lib.hid (by rw [HRW.out]; exact hS)⟩
 case rest =>
 as_aux_lemma =>
 clear hS
 obtain ⟨t, rfl, HT2, HS⟩ := hcut
 have hS := HS.out
 rw [HRW.out] at hS
 clear HS
 cases t with
 | true =>
   have HN := Lib.hid (whole_no6 (specs := specs) (bool_no F6.out (.inr HT2.out)))
   go_wp2_with (first | fail | ((refine hot_here rfl ?_); (first | fail)) | ((fail_if_success (with_reducible refine wpList_here ?_)); (first | fail)))
   all_goals go_ret
   all_goals exact ⟨ret_bool HN.out.symm, hS.below⟩
 | false =>
 have Y6 := Lib.hid (bool_if F6.out HT.out HT2.out)
 clear HT HT2
 go_upto_region 22 with (first | fail | ((refine hot_here rfl ?_); (first | fail)) | ((fail_if_success (with_reducible refine wpList_here ?_)); (first | ((with_reducible refine wp_cond_here ?_); refine wp_cond_split rfl (fun hb => ?_) (fun hb => ?_) <;> (first | (exfalso; exact Bool.noConfusion hb) | (obtain rfl := eq_of_beq hb) | skip) <;> (try simp only [decide_eq_true_eq, decide_eq_false_iff_not, Bool.and_eq_true, Bool.or_eq_true, Bool.and_eq_false_iff, Bool.or_eq_false_iff] at hb) <;> go_prune))))
 go_cut [128] (fun tv wc => ∃ t : Bool, tv = .bool t ∧ Hid (t = (p7 && !(!b7 && c7))) ∧ Hid (St (LaidE ⟨op, ref, amt, ctr, zone, B card, flt, pool, mods⟩ ⟨va, vn, vc⟩) w0 rows wc))
 case first =>
  as_aux_lemma =>
   cases p7
   ·skip
    go_wp2_with (first | fail | ((refine hot_here rfl ?_); (first | ((with_reducible refine at_guard ?_); (first | (refine wpList_pass rfl ?_)); (try simp only [put0, put1, put2, put3, put4])) | ((with_reducible refine at_load (T := 4) ?_); (first | (refine us_ld6 rfl hS rfl rfl (by repeat constructor) ?_)); (try simp only [put0, put1, put2, put3, put4])))) | ((fail_if_success (with_reducible refine wpList_here ?_)); (first | fail)))
    all_goals go_meet
    all_goals exact ⟨_, rfl, Lib.hid (by first | rfl | (simp; done) | (simp_all; done) | (rw [Bool.eq_iff_iff]; simp_all; done) | (rw [Bool.eq_iff_iff]; simp_all; omega)), Lib.hid (by rw [HRW.out]; exact hS)⟩
   ·skip
    go_wp2_with (first | fail | ((refine hot_here rfl ?_); (first | ((with_reducible refine at_guard ?_); (first | (refine wpList_pass rfl ?_) | ((fail_if_success refine wpList_wanted rfl ?_); refine wpList_ask _ _ rfl rfl (fun hb => ?_) (fun hb => ?_) <;> (first | (obtain rfl := eq_of_beq hb) | (simp only [hb])))); (try simp only [put0, put1, put2, put3, put4])) | ((with_reducible refine at_load (T := 4) ?_); (first | (refine us_ld6 rfl hS rfl rfl (by repeat constructor) ?_)); (try simp only [put0, put1, put2, put3, put4])) | ((with_reducible refine at_load (T := 31) ?_); (first | (refine em_ld57 rfl hS rfl rfl (by repeat constructor) ?_)); (try simp only [put0, put1, put2, put3, put4])) | ((with_reducible refine pol_shape_ ?_); refine pol_bld_ rfl ?_; (try simp only [put0, put1, put2, put3, put4])))) | ((fail_if_success (with_reducible refine wpList_here ?_)); (first | (go_at_call 43; (with_reducible refine (St.call hS fun hl => poText_is _ _ G7 _ hl.1.base).mono ?_); rintro e w ⟨rfl, hS⟩))))
    all_goals go_meet
    all_goals exact ⟨_, rfl, Lib.hid (by first | rfl | (simp; done) | (simp_all; done) | (rw [Bool.eq_iff_iff]; simp_all; done) | (rw [Bool.eq_iff_iff]; simp_all; omega)), Lib.hid (by rw [HRW.out]; exact hS)⟩
 case rest =>
 as_aux_lemma =>
 clear hS
 obtain ⟨t, rfl, HT, HS⟩ := hcut
 have hS := HS.out
 rw [HRW.out] at hS
 clear HS
 cases t with
 | true =>
   have HN := Lib.hid (whole_no7 (specs := specs) (bool_no F7.out (.inl HT.out)))
   go_wp2_with (first | fail | ((refine hot_here rfl ?_); (first | fail)) | ((fail_if_success (with_reducible refine wpList_here ?_)); (first | fail)))
   all_goals go_ret
   all_goals exact ⟨ret_bool HN.out.symm, hS.below⟩
 | false =>
 go_upto_if 128 with (first | fail | ((refine hot_here rfl ?_); (first | fail)) | ((fail_if_success (with_reducible refine wpList_here ?_)); (first | fail)))
 go_cut [128] (fun tv wc => ∃ t : Bool, tv = .bool t ∧ Hid (t = (!p7 && !b7)) ∧ Hid (St (LaidE ⟨op, ref, amt, ctr, zone, B card, flt, pool, mods⟩ ⟨va, vn, vc⟩) w0 rows wc))
 case first =>
  as_aux_lemma =>
   cases p7
   ·skip
    go_wp2_with (first | fail | ((refine hot_here rfl ?_); (first | ((with_reducible refine at_load (T := 4) ?_); (first | (refine us_ld6 rfl hS rfl rfl (by repeat constructor) ?_)); (try simp only [put0, put1, put2, put3, put4])) | ((with_reducible refine at_load (T := 31) ?_); (first | (refine em_ld57 rfl hS rfl rfl (by repeat constructor) ?_)); (try simp only [put0, put1, put2, put3, put4])) | ((with_reducible refine pol_shape_ ?_); refine pol_bld_ rfl ?_; (try simp only [put0, put1, put2, put3, put4])))) | ((fail_if_success (with_reducible refine wpList_here ?_)); (first | fail)))
    all_goals go_meet
    all_goals exact ⟨_, rfl, Lib.hid (by first | rfl | (simp; done) | (simp_all; done)), Lib.hid (by rw [HRW.out]; exact hS)⟩
   ·skip
    go_wp2_with (first | fail | ((refine hot_here rfl ?_); (first | ((with_reducible refine at_guard ?_); (first | (refine wpList_pass rfl ?_)); (try simp only [put0, put1, put2, put3, put4])) | ((with_reducible refine at_load (T := 4) ?_); (first | (refine us_ld6 rfl hS rfl rfl (by repeat constructor) ?_)); (try simp only [put0, put1, put2, put3, put4])))) | ((fail_if_success (with_reducible refine wpList_here ?_)); (first | fail)))
    all_goals go_meet
    all_goals exact ⟨_, rfl, Lib.hid (by first | rfl | (simp; done) | (simp_all; done)), Lib.hid (by rw [HRW.out]; exact hS)⟩
 case rest =>
 as_aux_lemma =>
 clear hS
 obtain ⟨t, rfl, HT2, HS⟩ := hcut
 have hS := HS.out
 rw [HRW.out] at hS
 clear HS
 cases t with
 | true =>
   have HN := Lib.hid (whole_no7 (specs := specs) (bool_no F7.out (.inr HT2.out)))
   go_wp2_with (first | fail | ((refine hot_here rfl ?_); (first | fail)) | ((fail_if_success (with_reducible refine wpList_here ?_)); (first | fail)))
   all_goals go_ret
   all_goals exact ⟨ret_bool HN.out.symm, hS.below⟩
 | false =>
 have Y7 := Lib.hid (bool_if F7.out HT.out HT2.out)
 clear HT HT2
 go_upto_region 25 with (first | fail | ((refine hot_here rfl ?_); (first | fail)) | ((fail_if_success (with_reducible refine wpList_here ?_)); (first | ((with_reducible refine wp_cond_here ?_); refine wp_cond_split rfl (fun hb => ?_) (fun hb => ?_) <;> (first | (exfalso; exact Bool.noConfusion hb) | (obtain rfl := eq_of_beq hb) | skip) <;> (try simp only [decide_eq_true_eq, decide_eq_false_iff_not, Bool.and_eq_true, Bool.or_eq_true, Bool.and_eq_false_iff, Bool.or_eq_false_iff] at hb) <;> go_prune))))
 go_cut [152] (fun tv wc => ∃ t : Bool, tv = .bool t ∧ Hid (t = (p8 && !a8)) ∧ Hid (St (LaidE ⟨op, ref, amt, ctr, zone, B card, flt, pool, mods⟩ ⟨va, vn, vc⟩) w0 rows wc))
 case first =>
  as_aux_lemma =>
   cases p8
   ·skip
    go_wp2_with (first | fail | ((refine hot_here rfl ?_); (first | ((with_reducible refine at_guard ?_); (first | (refine wpList_pass rfl ?_)); (try simp only [put0, put1, put2, put3, put4])) | ((with_reducible refine at_load (T := 4) ?_); (first | (refine us_ld7 rfl hS rfl rfl (by repeat constructor) ?_)); (try simp only [put0, put1, put2, put3, put4])))) | ((fail_if_success (with_reducible refine wpList_here ?_)); (first | fail)))
    all_goals go_meet
    all_goals exact ⟨_, rfl, Lib.hid (by first | rfl | (simp; done) | (simp_all; done) | (rw [Bool.eq_iff_iff]; simp_all; done) | (rw [Bool.eq_iff_iff]; simp_all; omega)), Lib.hid (by rw [HRW.out]; exact hS)⟩
   ·skip
    go_wp2_with (first | fail | ((refine hot_here rfl ?_); (first | ((with_reducible refine at_load (T := 4) ?_); (first | (refine us_ld7 rfl hS rfl rfl (by repeat constructor) ?_)); (try simp only [put0, put1, put2, put3, put4])) | ((with_reducible refine at_load (T := 32) ?_); (first | (refine em_ld63 rfl hS rfl rfl (by repeat constructor) ?_)); (try simp only [put0, put1, put2, put3, put4])))) | ((fail_if_success (with_reducible refine wpList_here ?_)); (first | (go_at_call 42; (with_reducible refine (St.call hS fun hl => listText_e ⟨op, ref, amt, ctr, zone, B card, flt, pool, mods⟩ ⟨va, vn, vc⟩ _ G8 _ hl).mono ?_); rintro e w ⟨rfl, hS⟩))))
    all_goals go_meet
    all_goals exact ⟨_, rfl, Lib.hid (by first | rfl | (simp; done) | (simp_all; done) | (rw [Bool.eq_iff_iff]; simp_all; done) | (rw [Bool.eq_iff_iff]; simp_all; omega)), Lib.hid (by rw [HRW.out]; exact hS)⟩
 case rest =>
 as_aux_lemma =>
 clear hS
 obtain ⟨t, rfl, HT, HS⟩ := hcut
 have hS := HS.out
 rw [HRW.out] at hS
 clear HS
 cases t with
 | true =>
   have HN := Lib.hid (whole_no8 (specs := specs) (bool_no F8.out (.inl HT.out)))
   go_wp2_with (first | fail | ((refine hot_here rfl ?_); (first | fail)) | ((fail_if_success (with_reducible refine wpList_here ?_)); (first | fail)))
   all_goals go_ret
   all_goals exact ⟨ret_bool HN.out.symm, hS.below⟩
 | false =>
 go_upto_if 152 with (first | fail | ((refine hot_here rfl ?_); (first | fail)) | ((fail_if_success (with_reducible refine wpList_here ?_)); (first | fail)))
 go_cut [152] (fun tv wc => ∃ t : Bool, tv = .bool t ∧ Hid (t = (!p8 && !b8)) ∧ Hid (St (LaidE ⟨op, ref, amt, ctr, zone, B card, flt, pool, mods⟩ ⟨va, vn, vc⟩) w0 rows wc))
 case first =>
  as_aux_lemma =>
   cases p8
   ·skip
    go_wp2_with (first | fail | ((refine hot_here rfl ?_); (first | ((with_reducible refine at_load (T := 4) ?_); (first | (refine us_ld7 rfl hS rfl rfl (by repeat constructor) ?_)); (try simp only [put0, put1, put2, put3, put4])) | ((with_reducible refine at_load (T := 32) ?_); (first | (refine em_ld63 rfl hS rfl rfl (by repeat constructor) ?_)); (try simp only [put0, put1, put2, put3, put4])))) | ((fail_if_success (with_reducible refine wpList_here ?_)); (first | fail)))
    all_goals go_meet
    all_goals exact ⟨_, rfl, Lib.hid (by first | rfl | (simp; done) | (simp_all; done)), Lib.hid (by rw [HRW.out]; exact hS)⟩
   ·skip
    go_wp2_with (first | fail | ((refine hot_here rfl ?_); (first | ((with_reducible refine at_guard ?_); (first | (refine wpList_pass rfl ?_)); (try simp only [put0, put1, put2, put3, put4])) | ((with_reducible refine at_load (T := 4) ?_); (first | (refine us_ld7 rfl hS rfl rfl (by repeat constructor) ?_)); (try simp only [put0, put1, put2, put3, put4])))) | ((fail_if_success (with_reducible refine wpList_here ?_)); (first | fail)))
    all_goals go_meet
    all_goals exact ⟨_, rfl, Lib.hid (by first | rfl | (simp; done) | (simp_all; done)), Lib.hid (by rw [HRW.out]; exact hS)⟩
 case rest =>
 as_aux_lemma =>
 clear hS
 obtain ⟨t, rfl, HT2, HS⟩ := hcut
 have hS := HS.out
 rw [HRW.out] at hS
 clear HS
 cases t with
 | true =>
   have HN := Lib.hid (whole_no8 (specs := specs) (bool_no F8.out (.inr HT2.out)))
   go_wp2_with (first | fail | ((refine hot_here rfl ?_); (first | fail)) | ((fail_if_success (with_reducible refine wpList_here ?_)); (first | fail)))
   all_goals go_ret
   all_goals exact ⟨ret_bool HN.out.symm, hS.below⟩
 | false =>
 have Y8 := Lib.hid (bool_if F8.out HT.out HT2.out)
 clear HT HT2
 go_wp2_with (first | fail | ((refine hot_here rfl ?_); (first | fail)) | ((fail_if_success (with_reducible refine wpList_here ?_)); (first | fail)))
 all_goals go_ret
 all_goals exact ⟨ret_bool (by unfold fWhole; rw [Y1.out, Y2.out, Y3.out, Y4.out, Y5.out, Y6.out, Y7.out, Y8.out]; rfl), hS.below⟩
theorem whole_any (op : Int) (ref : Rf) (amt : Am) (ctr zone : Int) (card : Str) (flt : Flt) (pool : Po) (mods : List Md) (va : Option Addr) (vn vc : Nat) (specs : Int) (w : World) (hl : LaidE ⟨op, ref, amt, ctr, zone, B card, flt, pool, mods⟩ ⟨va, vn, vc⟩ w) :
 Calls Tryz.prog 27 #[.agg (Em.cells ⟨op, ref, amt, ctr, zone, B card, flt, pool, ⟨va, vn, vc⟩⟩), .agg (Us.cells (usOf op)), .int .i64 specs] w fun e w' => e = .returned (.bool (fWhole ⟨op, ref, amt, ctr, zone, B card, flt, pool, mods⟩ specs)) ∧ Below w.heap.size w w' :=
 whole_walk op ref amt ctr zone card flt pool mods va vn vc specs _ _ _ _ _ _ _ _ rfl w hl
end Go.Proofs.YtdnnbfbhifelkaaGreatDoor
