/- EffectBack: Parse inverts Text, ParseList inverts ListText. Conditions: LaidM; the list lies in memory. -/
import Derived.Test.YtdnnbfbhifelkaaGreatDoorQ13
import Derived.Deep.DeepCutAuto
set_option linter.all false
set_option maxRecDepth 100000
set_option maxHeartbeats 16000000
namespace Go.Proofs.YtdnnbfbhifelkaaGreatDoor
attribute [local irreducible] wpList Code.wp Calls
open Go.ChangeShapes Go.WideShapes Go.RowKit
theorem elText_parts (l : List Ef) : ∀ x ∈ ssplit (elText l), x.length < 100000000 := by
 unfold elText
 split
 ·rename_i h
  rw [ssplit_join _ (by simpa using h.1) (fun x hx => by obtain ⟨e, _, rfl⟩ := List.mem_map.1 hx; exact eText_no59 e)]
  intro x hx
  obtain ⟨e, _, rfl⟩ := List.mem_map.1 hx
  have := eText_len e; omega
 ·intro x hx
  have := ssplit_mem [] x hx
  simp at this; subst this; simp
theorem elText_all (l : List EV) (b : Bool) (h : b = ((decide (1 ≤ l.length) && decide (l.length ≤ 8)) && l.all fun p => okE p.1)) : (b = true → elText (l.map Prod.fst) ≠ [] ∧ elParse (elText (l.map Prod.fst)) = some (l.map Prod.fst)) ∧ (b = false → elText (l.map Prod.fst) = []) := by
 have e : (l.map Prod.fst).all (fun e => eIs e 4) = l.all fun p => okE p.1 := by rw [List.all_map]; rfl
 constructor
 ·intro hb
  rw [hb] at h
  have h' := h.symm
  simp only [Bool.and_eq_true, decide_eq_true_eq] at h'
  obtain ⟨⟨h1, h8⟩, ha⟩ := h'
  rw [← e] at ha
  have hne : l.map Prod.fst ≠ [] := fun e0 => by
   have := congrArg List.length e0
   rw [List.length_map, List.length_nil] at this; omega
  exact ⟨elText_yes hne (by rw [List.length_map]; exact h8) ha, elParse_text hne (by rw [List.length_map]; exact h8) ha⟩
 ·intro hb
  rw [hb] at h
  unfold elText
  rw [if_neg]
  rintro ⟨a1, a2, a3⟩
  rw [e] at a3
  rw [List.length_map] at a2
  have : 1 ≤ l.length := List.length_pos_iff.2 (by simpa using a1)
  rw [a3, decide_eq_true this, decide_eq_true a2] at h
  cases h
abbrev LBk (A : Option Addr) (l : List EV) (w : World) : Prop := LaidM w ∧ ArgE0 A l w
theorem keepsBk (A : Option Addr) (l : List EV) : ∀ w1 w2 : World, LBk A l w1 → Below w1.heap.size w1 w2 → LBk A l w2 := fun _ _ h hb => ⟨h.1.below hb, h.2.keep hb⟩
theorem effectBack_law (l : List EV) (A : Option Addr) (c : Nat) (w0 : World) (hl : LBk A l w0) : Calls Tryz.prog 8 #[.slice A l.length c] w0 fun x w' => x = .returned (.bool true) ∧ Below w0.heap.size w0 w' := by
 have hS := St.start hl (keepsBk A l)
 go_enter Tryz.func8, Tryz.ntmps8
 go_upto_region 3 with (first | fail | ((refine hot_here rfl ?_); (first | fail)) | ((fail_if_success (with_reducible refine wpList_here ?_)); (first | (go_at_call 10; (with_reducible refine (St.call hS fun hl => aliveE_any _ hl.1).mono ?_); rintro e w ⟨rfl, hS⟩) | (go_at_call 20; (refine (r17LightList_any l A c _ hS.laid.2).mono ?_); rintro e0 w ⟨⟨b, rfl, h20⟩, hb⟩; have hS := hS.mono hb; have H20 := Lib.hid h20; clear hb h20; cases b) | ((with_reducible refine wp_cond_here ?_); refine wp_cond_split rfl (fun hb => ?_) (fun hb => ?_) <;> (first | (exfalso; exact Bool.noConfusion hb) | (obtain rfl := eq_of_beq hb) | skip) <;> (try simp only [decide_eq_true_eq, decide_eq_false_iff_not, Bool.and_eq_true, Bool.or_eq_true, Bool.and_eq_false_iff, Bool.or_eq_false_iff] at hb) <;> go_prune))))
 ·go_ret
  exact ⟨rfl, hS.below⟩
 have hll := (H20.out (by trivial)).1
 go_cut [3] (fun av wc => ∃ b : Bool, av = .bool b ∧ Hid (b = (decide (1 ≤ l.length) && decide (l.length ≤ 8))) ∧ Hid (St (LBk A l) w0 [] wc))
 case first =>
  by_cases h1 : 1 ≤ l.length
  ·have t1 : decide ((l.length : Int) ≥ 1) = true := by simp; omega
   have t1' : decide (1 ≤ (l.length : Int)) = true := by simp; omega
   have t2 : decide ((l.length : Int) ≤ 8) = decide (l.length ≤ 8) := by rw [Bool.eq_iff_iff]; simp; omega
   go_wp2_with (first | fail | ((refine hot_here rfl ?_); (first | fail)) | ((fail_if_success (with_reducible refine wpList_here ?_)); (first | fail)))
   all_goals go_meet
   all_goals exact ⟨_, rfl, Lib.hid (by rw [decide_eq_true h1, ← t2]; rfl), Lib.hid hS⟩
  ·have t1 : decide ((l.length : Int) ≥ 1) = false := by simp; omega
   have t1' : decide (1 ≤ (l.length : Int)) = false := by simp; omega
   go_wp2_with (first | fail | ((refine hot_here rfl ?_); (first | fail)) | ((fail_if_success (with_reducible refine wpList_here ?_)); (first | fail)))
   all_goals go_meet
   all_goals exact ⟨_, rfl, Lib.hid (by rw [decide_eq_false h1]; rfl), Lib.hid hS⟩
 case rest =>
 clear hS
 obtain ⟨b0, rfl, HB0, HS⟩ := hcut
 have hS := HS.out
 clear HS
 go_wp2_with (first | fail | ((refine hot_here rfl ?_); (first | fail)) | ((fail_if_success (with_reducible refine wpList_here ?_)); (first | fail)))
 go_loopw [3, 26] (fun av iv wr => ∃ (k : Nat) (b : Bool), k ≤ l.length ∧ av = .bool b ∧ iv = .int .i64 k ∧ Hid (b = (b0 && (l.take k).all fun p => okE p.1)) ∧ Hid (St (LBk A l) w0 [] wr)) (fun _ iv _ => l.length - (intOf iv).toNat)
 case atStart => exact ⟨0, b0, by omega, rfl, rfl, Lib.hid (by simp), Lib.hid hS⟩
 case round =>
  clear hS
  obtain ⟨k, b, hk, rfl, rfl, HK, HS⟩ := hrel
  have hS := HS.out
  clear HS
  by_cases hlt : k < l.length
  ·obtain ⟨p, hp⟩ : ∃ p, l[k]? = some p := ⟨l[k], List.getElem?_eq_getElem hlt⟩
   obtain ⟨b1, o1, rfl⟩ := hS.laid.2.in_ hlt
   have h20 := (H20.out (by trivial)).2 p (List.mem_of_getElem? hp)
   have hst : ((l.take (k + 1)).all fun p => okE p.1) = (((l.take k).all fun p => okE p.1) && okE p.1) := by rw [take_snocE l k p hp, List.all_append]; simp
   have HP := Lib.hid hp
   have hTl := eText_len p.1
   obtain ⟨T, hT⟩ : ∃ T, eText p.1 = T := ⟨_, rfl⟩
   have hn := eText_nil p.1
   rw [hT] at hTl hn
   have hT8 : T.length < 100000000 := by omega
   have HTX := Lib.hid hT
   cases hv : eIs p.1 4 with
   | true =>
     rw [hv, Bool.not_true] at hn
     have hpt := eParse_text hv
     rw [hT] at hpt
     have HPT := Lib.hid hpt
     have HST : Hid (((l.take (k + 1)).all fun p => okE p.1) = ((l.take k).all fun p => okE p.1)) := Lib.hid (by rw [hst]; unfold okE; rw [hv, Bool.and_true])
     have HV := Lib.hid hv
     have HEQ : Hid (efSame p.1 p.1 = true) := Lib.hid ((efSame_iff _ _).2 rfl)
     have HPA := Lib.hid (fun w hl => eParse_any T hT8 w hl)
     clear hp hT hv hpt hst
     go_wp2_with (first | fail | ((refine hot_here rfl ?_); (first | ((with_reducible refine at_guard ?_); (first | (refine wpList_pass rfl ?_)); (try simp only [put0, put1, put2, put3, put4])) | ((with_reducible refine at_load (T := TEm) ?_); refine wpList_ld_at TEm rfl rfl rfl (hS.laid.2.row HP) Tryz.underlying34 rfl em_info ?_; (try simp only [put0, put1, put2, put3, put4])) | ((with_reducible refine at_alloc ?_); refine wpList_new 34 rfl hS rfl _ em_new ?_; intro g w hS) | ((with_reducible refine at_load (T := 34) ?_); (first | (refine em_ldw rfl hS rfl rfl (by repeat constructor) ?_)); (try simp only [put0, put1, put2, put3, put4])) | ((with_reducible refine at_store ?_); (first | (refine em_stw rfl hS rfl rfl rfl (by repeat constructor) ?_; intro w hS)); (try simp only [put0, put1, put2, put3, put4])))) | ((fail_if_success (with_reducible refine wpList_here ?_)); (first | (go_at_call 13; (with_reducible refine (St.call hS fun hl => eText_any p.1 p.2 T HTX _ ⟨hl.1, (hl.2.mods HP).few h20⟩).mono ?_); rintro e w ⟨rfl, hS⟩) | (go_at_call 11; (with_reducible refine (St.call hS fun hl => eIs_any p.1 p.2 4 true HV _ ⟨hl.1, (hl.2.mods HP).few h20⟩).mono ?_); rintro e w ⟨rfl, hS⟩) | (go_at_call 17; (refine (HPA.out _ hS.laid.1).mono ?_); rintro e0 w h0; rcases eparseP_st h0 hS with ⟨h9, _, _⟩ | ⟨x1, v1, X1, h1, rfl, hS, hm1, (rfl | ⟨gm1, cm1, rfl⟩)⟩ <;> clear h0 <;> (first | (rw [HPT.out] at h9; cases h9; done) | (rw [HPT.out] at h1; obtain rfl := Option.some.inj h1; have HM1 := Lib.hid hm1; clear hm1; (try simp only [List.nil_append, List.cons_append] at hS)))) | (go_at_call 19; (refine (St.call hS fun hl => same_any p.1 p.1 p.2 v1 true HEQ _ ⟨(hl.2.mods HP).few h20, (by first | exact HM1.out.nil _ | exact HM1.out.one (hS.row (by repeat constructor)))⟩).mono ?_); rintro e0 w ⟨rfl, hS⟩))))
     all_goals go_roundw
     all_goals first
      | (case rel => exact ⟨k + 1, _, by omega, rfl, by go_num, Lib.hid (by rw [HST.out, ← HK.out]; first | (simp [hn]; done) | (simp [hn]; assumption) | (simp [hn]; symm; assumption) | simp_all), Lib.hid (hS.pickL (rows' := []) (by simp) (by simp))⟩)
      | (case measure => simp [intOf]; omega)
   | false =>
     rw [hv, Bool.not_false] at hn
     have hT0 : T = [] := by simpa using hn
     subst hT0
     have HPN : Hid (eParse [] = none) := Lib.hid eParse_empty
     have HST : Hid (((l.take (k + 1)).all fun p => okE p.1) = false) := Lib.hid (by rw [hst]; unfold okE; rw [hv, Bool.and_false])
     have HV := Lib.hid hv
     clear hp hT hv hst
     go_wp2_with (first | fail | ((refine hot_here rfl ?_); (first | ((with_reducible refine at_guard ?_); (first | (refine wpList_pass rfl ?_)); (try simp only [put0, put1, put2, put3, put4])) | ((with_reducible refine at_load (T := TEm) ?_); refine wpList_ld_at TEm rfl rfl rfl (hS.laid.2.row HP) Tryz.underlying34 rfl em_info ?_; (try simp only [put0, put1, put2, put3, put4])) | ((with_reducible refine at_alloc ?_); refine wpList_new 34 rfl hS rfl _ em_new ?_; intro g w hS) | ((with_reducible refine at_load (T := 34) ?_); (first | (refine em_ldw rfl hS rfl rfl (by repeat constructor) ?_)); (try simp only [put0, put1, put2, put3, put4])) | ((with_reducible refine at_store ?_); (first | (refine em_stw rfl hS rfl rfl rfl (by repeat constructor) ?_; intro w hS)); (try simp only [put0, put1, put2, put3, put4])))) | ((fail_if_success (with_reducible refine wpList_here ?_)); (first | (go_at_call 13; (with_reducible refine (St.call hS fun hl => eText_any p.1 p.2 [] HTX _ ⟨hl.1, (hl.2.mods HP).few h20⟩).mono ?_); rintro e w ⟨rfl, hS⟩) | (go_at_call 11; (with_reducible refine (St.call hS fun hl => eIs_any p.1 p.2 4 false HV _ ⟨hl.1, (hl.2.mods HP).few h20⟩).mono ?_); rintro e w ⟨rfl, hS⟩) | (go_at_call 17; (with_reducible refine (St.call hS fun hl => eParse_no [] hT8 HPN _ hl.1).mono ?_); rintro e w ⟨rfl, hS⟩))))
     all_goals go_roundw
     all_goals first
      | (case rel => exact ⟨k + 1, _, by omega, rfl, by go_num, Lib.hid (by rw [HST.out]; simp), Lib.hid (hS.pickL (rows' := []) (by simp) (by simp))⟩)
      | (case measure => simp [intOf]; omega)
  ·obtain rfl : k = l.length := by omega
   have hkb := HK.out
   rw [List.take_length, HB0.out] at hkb
   obtain ⟨hyes, hno⟩ := elText_all l b hkb
   have hparts := elText_parts (l.map Prod.fst)
   have hRl := elText_len (l.map Prod.fst)
   obtain ⟨R, hR⟩ : ∃ R, elText (l.map Prod.fst) = R := ⟨_, rfl⟩
   rw [hR] at hyes hno hparts hRl
   have HR := Lib.hid hR
   have HPT := Lib.hid hparts
   have hR9 : R.length < 1000000000 := by omega
   clear hR hkb hparts HK
   cases b with
   | true =>
     obtain ⟨hne, hpr⟩ := hyes rfl
     have hn : (R == []) = false := by simpa using hne
     have HK0 : Hid (elK R = 0) := Lib.hid (by unfold elK; rw [hpr]; rfl)
     have HPR : Hid ((elParse R).getD [] = l.map Prod.fst) := Lib.hid (by rw [hpr]; rfl)
     clear hyes hno hne hpr
     go_wp2_with (first | fail | ((refine hot_here rfl ?_); (first | fail)) | ((fail_if_success (with_reducible refine wpList_here ?_)); (first | (go_at_call 23; (with_reducible refine (St.call hS fun hl => elistText_any l A c R HR _ ⟨hl.1, hl.2.few (H20.out (by trivial)).2⟩ (Nat.lt_of_le_of_lt hll (by decide))).mono ?_); rintro e w ⟨rfl, hS⟩) | (go_at_call 10; (with_reducible refine (St.call hS fun hl => aliveE_any _ hl.1).mono ?_); rintro e w ⟨rfl, hS⟩) | (go_at_call 21; (refine (eParseList_any R hR9 HPT.out _ hS.laid.1).mono ?_); rintro e0 w1 h0; obtain ⟨e1, A1, c1, rfl, ha1, hl1, hm1, hb⟩ := elistP_st h0; clear h0; have HB1 := Lib.hid (hS.below.trans (hb.mono hS.below.size)); have hS := St.start (L := LX A A1 none l e1 []) ⟨(hS.mono hb).laid.1, (hS.mono hb).laid.2, ha1, argE_none _⟩ (keepsX _ _ _ _ _ _); have HEQ := Lib.hid ((esEq_iff _ _).2 (HPR.out.symm.trans hm1.symm)); rw [HK0.out]; clear hb ha1 hm1) | (go_at_call 25; (refine (St.call hS fun hl => sameList_any l e1 A A1 c c1 true HEQ _ ⟨hl.2.1.few (H20.out (by trivial)).2, hl.2.2.1⟩ (Nat.lt_of_le_of_lt hll (by decide)) (Nat.lt_of_le_of_lt hl1 (by decide))).mono ?_); rintro e0 w ⟨rfl, hS⟩))))
     all_goals go_ret
     all_goals exact ⟨ret_bool (by simp), HB1.out.trans (hS.below.mono HB1.out.size)⟩
   | false =>
     have hR0 := hno rfl
     subst hR0
     clear hyes hno
     go_wp2_with (first | fail | ((refine hot_here rfl ?_); (first | fail)) | ((fail_if_success (with_reducible refine wpList_here ?_)); (first | (go_at_call 23; (with_reducible refine (St.call hS fun hl => elistText_any l A c [] HR _ ⟨hl.1, hl.2.few (H20.out (by trivial)).2⟩ (Nat.lt_of_le_of_lt hll (by decide))).mono ?_); rintro e w ⟨rfl, hS⟩) | (go_at_call 10; (with_reducible refine (St.call hS fun hl => aliveE_any _ hl.1).mono ?_); rintro e w ⟨rfl, hS⟩) | (go_at_call 21; (refine (eParseList_any [] hR9 HPT.out _ hS.laid.1).mono ?_); rintro e0 w1 h0; obtain ⟨e1, A1, c1, rfl, ha1, hl1, hm1, hb⟩ := elistP_st h0; clear h0; have hS := hS.mono hb; clear hb ha1 hm1))))
     all_goals go_ret
     all_goals exact ⟨ret_bool (by simp), hS.below⟩
end Go.Proofs.YtdnnbfbhifelkaaGreatDoor
