/- Walks: lists of effects: ListText, the program's and the reference's. Conditions: LaidM; the list lies in memory; it has fewer than a million elements. EffectZones, EffectIs, EffectTargets: the pro -/
import Derived.Test.YtdnnbfbhifelkaaGreatDoorMEParse
import Derived.Test.YtdnnbfbhifelkaaGreatDoorQ12
import Derived.Test.YtdnnbfbhifelkaaGreatDoorMEAlive
import Derived.Test.YtdnnbfbhifelkaaGreatDoorMERRead
set_option linter.all false
set_option maxRecDepth 100000
set_option maxHeartbeats 16000000
namespace Go.Proofs.YtdnnbfbhifelkaaGreatDoor
attribute [local irreducible] wpList Code.wp Calls
open Go.ChangeShapes Go.WideShapes Go.RowKit
theorem evText_any (p : EV) (T : Str) (HT : Hid (eText p.1 = T)) (w : World) (hl : LaidM w) (hm : ModsAt p.1 p.2 w) : Calls Tryz.prog 13 #[.agg (Em.cells (p.1.at p.2))] w fun x w' => x = .returned (.string (B T)) ∧ Below w.heap.size w w' := eText_any p.1 p.2 T HT w ⟨hl, hm⟩
theorem wordJoin_semi (l : List Str) (A : Option Addr) (c base : Nat) (w : World) (h : Texts w base l (.slice A l.length c)) (hN : l.length ≤ 100000000) (hlen : (Lib.join l [59, 32]).length ≤ 140737488355328) :
 Calls Tryz.prog 45 #[.slice A l.length c, .string ⟨#[59, 32]⟩] w fun e w' => e = .returned (.string (B (Lib.join l [59, 32]))) ∧ Below w.heap.size w w' := by
 go_enter Tryz.func45, Tryz.ntmps45
 go_wp2_with (go_at_call 77; (with_reducible refine (join_any _ _ _ _ _ _ h hN [59, 32] rfl hlen).mono ?_); rintro e w2 ⟨rfl, hb2⟩)
 go_ret
 exact ⟨rfl, hb2⟩
theorem wordJoin_semiN (l : List Str) (n : Nat) (hn : Hid (l.length = n)) (A : Option Addr) (c base : Nat) (w : World) (h : Texts w base l (.slice A n c)) (hN : n ≤ 100000000) (hlen : (Lib.join l [59, 32]).length ≤ 140737488355328) :
 Calls Tryz.prog 45 #[.slice A n c, .string ⟨#[59, 32]⟩] w fun e w' => e = .returned (.string (B (Lib.join l [59, 32]))) ∧ Below w.heap.size w w' := by
 obtain rfl := hn.out
 exact wordJoin_semi l A c base w h hN hlen
theorem join_leE : ∀ (l : List Str), (∀ x ∈ l, x.length ≤ 80000000) → (Lib.join l semiV).length ≤ 80000010 * l.length
 | [], _ => by simp [Lib.join_nil]
 | [a], h => by rw [Lib.join_one]; have := h a (by simp); simp; omega
 | a :: b :: r, h => by
   have ih := join_leE (b :: r) (fun x hx => h x (.tail _ hx))
   have ha := h a (by simp)
   rw [join_cons2]
   simp only [List.length_append, List.length_cons] at ih ⊢
   have : semiV.length = 2 := rfl
   omega
theorem elText_len (l : List Ef) : (elText l).length ≤ 700000000 := by
 unfold elText
 split
 ·rename_i h
  have := join_leE (l.map eText) (fun x hx => by
   obtain ⟨e, _, rfl⟩ := List.mem_map.1 hx
   exact eText_len e)
  rw [List.length_map] at this
  omega
 ·simp
theorem eText_nil (e : Ef) : (eText e == []) = !(eIs e 4) := by
 cases h : eIs e 4 with
 | false => rw [eText_no h]; rfl
 | true => simpa using eText_ne h
def okE (e : Ef) : Bool := eIs e 4
theorem elistText_any (es : List EV) (A : Option Addr) (c : Nat) (R : Str) (HR : Hid (elText (es.map Prod.fst) = R)) (w0 : World) (hl : LaidL A es w0) (h0 : es.length < 1000000) : Calls Tryz.prog 23 #[.slice A es.length c] w0 fun x w' => x = .returned (.string (B R)) ∧ Below w0.heap.size w0 w' := by
 have hS := St.start hl (keepsLs A es)
 go_enter Tryz.func23, Tryz.ntmps23
 go_wp2_with (first | fail | ((refine hot_here rfl ?_); (first | fail)) | ((fail_if_success (with_reducible refine wpList_here ?_)); (first | fail)))
 go_loopw [3, 9] (fun tv iv wr => ∃ (k : Nat) (v : Value), k ≤ es.length ∧ k ≤ 8 ∧ iv = .int .i64 k ∧ tv = v ∧ Hid (((es.take k).all fun p => okE p.1) = true) ∧ Hid (Texts wr w0.heap.size ((es.take k).map fun p => eText p.1) v) ∧ Hid (Below w0.heap.size w0 wr)) (fun _ iv _ => es.length - (intOf iv).toNat)
 case atStart => exact ⟨0, .slice none 0 0, by omega, by omega, rfl, rfl, Lib.hid rfl, Lib.hid (Texts.nil _ _), Lib.hid hS.below⟩
 case round =>
  clear hS
  obtain ⟨k, v, hk, hk8, rfl, rfl, HV, HT, HB⟩ := hrel
  have hS := St.start (keepsLs A es _ _ hl HB.out) (keepsLs A es)
  have hszb := HB.out.size
  by_cases hlt : k < es.length
  ·obtain ⟨p, hp⟩ : ∃ p, es[k]? = some p := ⟨es[k], List.getElem?_eq_getElem hlt⟩
   obtain ⟨b1, o1, rfl⟩ := hS.laid.2.in_ hlt
   have HP := Lib.hid hp
   have hlen1 : ((es.take k).map fun p => eText p.1).length = k := by rw [List.length_map, List.length_take]; omega
   obtain ⟨T, hT⟩ : ∃ T, eText p.1 = T := ⟨_, rfl⟩
   have hn := eText_nil p.1
   rw [hT] at hn
   have HTx := Lib.hid hT
   cases hv : eIs p.1 4 with
   | false =>
     have HE : Hid (R = []) := Lib.hid (by
      rw [← HR.out]; unfold elText; rw [if_neg]
      rintro ⟨_, _, ha⟩
      have := List.all_eq_true.1 ha p.1 (List.mem_map.2 ⟨p, List.mem_of_getElem? hp, rfl⟩)
      rw [hv] at this; cases this)
     rw [hv, Bool.not_false] at hn
     have hT0 : T = [] := by simpa using hn
     subst hT0
     clear hp hT hv
     go_wp2_with (first | fail | ((refine hot_here rfl ?_); (first | ((with_reducible refine at_load (T := TEm) ?_); refine wpList_ld_at TEm rfl rfl rfl (hS.laid.2.row HP) Tryz.underlying34 rfl em_info ?_; (try simp only [put0, put1, put2, put3, put4])) | ((with_reducible refine at_alloc ?_); refine wpList_new 34 rfl hS rfl _ em_new ?_; intro g w hS) | ((with_reducible refine at_load (T := 34) ?_); (first | (refine em_ldw rfl hS rfl rfl (by repeat constructor) ?_)); (try simp only [put0, put1, put2, put3, put4])) | ((with_reducible refine at_store ?_); (first | (refine em_stw rfl hS rfl rfl rfl (by repeat constructor) ?_; intro w hS)); (try simp only [put0, put1, put2, put3, put4])))) | ((fail_if_success (with_reducible refine wpList_here ?_)); (first | (go_at_call 13; (with_reducible refine (St.call hS fun hl => evText_any p [] HTx _ hl.1 (hl.2.mods HP)).mono ?_); rintro e w ⟨rfl, hS⟩))))
     all_goals go_ret
     all_goals exact ⟨ret_B HE.out.symm, HB.out.trans (hS.below.mono hszb)⟩
   | true =>
     rw [hv, Bool.not_true] at hn
     by_cases h88 : k = 8
     ·have HE : Hid (R = []) := Lib.hid (by
       rw [← HR.out]; unfold elText; rw [if_neg]
       rintro ⟨_, h8, _⟩
       rw [List.length_map] at h8; omega)
      obtain ⟨vA, vc, rfl, _⟩ := HT.out.form
      rw [hlen1]
      subst h88
      clear hp hT hv hlen1
      go_wp2_with (first | fail | ((refine hot_here rfl ?_); (first | ((with_reducible refine at_load (T := TEm) ?_); refine wpList_ld_at TEm rfl rfl rfl (hS.laid.2.row HP) Tryz.underlying34 rfl em_info ?_; (try simp only [put0, put1, put2, put3, put4])) | ((with_reducible refine at_alloc ?_); refine wpList_new 34 rfl hS rfl _ em_new ?_; intro g w hS) | ((with_reducible refine at_load (T := 34) ?_); (first | (refine em_ldw rfl hS rfl rfl (by repeat constructor) ?_)); (try simp only [put0, put1, put2, put3, put4])) | ((with_reducible refine at_store ?_); (first | (refine em_stw rfl hS rfl rfl rfl (by repeat constructor) ?_; intro w hS)); (try simp only [put0, put1, put2, put3, put4])))) | ((fail_if_success (with_reducible refine wpList_here ?_)); (first | (go_at_call 13; (with_reducible refine (St.call hS fun hl => evText_any p T HTx _ hl.1 (hl.2.mods HP)).mono ?_); rintro e w ⟨rfl, hS⟩))))
      all_goals go_ret
      all_goals exact ⟨ret_B HE.out.symm, HB.out.trans (hS.below.mono hszb)⟩
     ·have hne : ((k : Int) == 8) = false := by rw [beq_eq_false_iff_ne]; omega
      have HV2 : Hid (((es.take (k + 1)).all fun p => okE p.1) = true) := Lib.hid (by rw [take_snocE es k p hp, List.all_append, HV.out]; simp [okE, hv])
      have HM : Hid ((es.take (k + 1)).map (fun p => eText p.1) = (es.take k).map (fun p => eText p.1) ++ [L (B T)]) := Lib.hid (by rw [take_snocE es k p hp, List.map_append, L_B, ← hT]; rfl)
      have hln : ((es.take k).map fun p => eText p.1).length < 1000000000 := by omega
      obtain ⟨vA, vc, rfl, _⟩ := HT.out.form
      rw [hlen1]
      have HT1 := HT.out
      rw [hlen1] at HT1
      have HT2 := Lib.hid HT1
      clear hp hT hv HT HT1
      go_wp2_with (first | fail | ((refine hot_here rfl ?_); (first | ((with_reducible refine at_load (T := TEm) ?_); refine wpList_ld_at TEm rfl rfl rfl (hS.laid.2.row HP) Tryz.underlying34 rfl em_info ?_; (try simp only [put0, put1, put2, put3, put4])) | ((with_reducible refine at_alloc ?_); refine wpList_new 34 rfl hS rfl _ em_new ?_; intro g w hS) | (at_builtin; refine wpList_text_push rfl (.tmp 22) (.tmp 24) 65 rfl Tryz.underlying65 info_str rfl rfl (HT2.out.below hS.below) hln (Nat.le_trans hszb hS.below.size) ?_; intro v' w2 hown2 hb2) | ((with_reducible refine at_load (T := 34) ?_); (first | (refine em_ldw rfl hS rfl rfl (by repeat constructor) ?_)); (try simp only [put0, put1, put2, put3, put4])) | ((with_reducible refine at_store ?_); (first | (refine em_stw rfl hS rfl rfl rfl (by repeat constructor) ?_; intro w hS)); (try simp only [put0, put1, put2, put3, put4])))) | ((fail_if_success (with_reducible refine wpList_here ?_)); (first | (go_at_call 13; (with_reducible refine (St.call hS fun hl => evText_any p T HTx _ hl.1 (hl.2.mods HP)).mono ?_); rintro e w ⟨rfl, hS⟩))))
      have hown3 : Texts w2 w0.heap.size ((es.take (k + 1)).map fun p => eText p.1) v' := by rw [HM.out]; exact hown2
      have hb3 : Below w0.heap.size w0 w2 := (HB.out.trans (hS.below.mono hszb)).trans hb2
      go_roundw
      case rel => exact ⟨k + 1, v', by omega, by omega, by go_num, rfl, HV2, Lib.hid hown3, Lib.hid hb3⟩
      case measure => simp [intOf]; omega
  ·obtain rfl : k = es.length := by omega
   have hjl : (Lib.join (es.map fun p => eText p.1) [59, 32]).length ≤ 140737488355328 := by
    show (Lib.join (es.map fun p => eText p.1) semiV).length ≤ _
    have := join_leE (es.map fun p => eText p.1) (fun x hx => by
     obtain ⟨e, _, rfl⟩ := List.mem_map.1 hx
     exact eText_len e.1)
    rw [List.length_map] at this; omega
   have HE : Hid (Lib.join (es.map fun p => eText p.1) [59, 32] = R) := Lib.hid (by
    rw [← HR.out]
    unfold elText
    have ha := HV.out
    rw [List.take_length] at ha
    by_cases hn : es = []
    ·subst hn; rfl
    ·rw [if_pos ⟨by simpa using hn, by rw [List.length_map]; exact hk8, by rw [List.all_map]; exact ha⟩, List.map_map]; rfl)
   have HT2 := HT.out
   rw [List.take_length] at HT2
   obtain ⟨vA, vc, hv, _⟩ := HT2.form
   rw [show (es.map fun p => eText p.1).length = es.length from List.length_map _] at hv
   subst hv
   have HT3 := Lib.hid HT2
   have HNN : Hid ((es.map fun p => eText p.1).length = es.length) := Lib.hid (List.length_map _)
   have hl8 : es.length ≤ 100000000 := by omega
   clear HT2
   go_wp2_with (first | fail | ((refine hot_here rfl ?_); (first | fail)) | ((fail_if_success (with_reducible refine wpList_here ?_)); (first | (go_at_call 45; (with_reducible refine (St.call hS fun hl => wordJoin_semiN _ es.length HNN vA vc _ _ (HT3.out.below hS.below) hl8 hjl).mono ?_); rintro e w ⟨rfl, hS⟩))))
   all_goals go_ret
   all_goals exact ⟨ret_B HE.out, HB.out.trans (hS.below.mono hszb)⟩
theorem effectZones_law (z : Int) (w : World) (hl : LaidM w) : Calls Tryz.prog 4 #[.int .i64 z] w fun e w' => e = .returned (.bool true) ∧ Below w.heap.size w w' := by
 obtain ⟨T, hT⟩ : ∃ T, zoneName z = T := ⟨_, rfl⟩
 have HT := Lib.hid hT
 clear hT
 have hS := St.start hl keepsM
 go_enter Tryz.func4, Tryz.ntmps4
 go_wp2_with (first | (go_at_call 15; (with_reducible refine (St.call hS fun hl => zone_B _ _ HT _).mono ?_); rintro e w ⟨rfl, hS⟩) | (go_at_call 16; (with_reducible refine (St.call hS fun hl => r17Zone_B _ _ HT _).mono ?_); rintro e w ⟨rfl, hS⟩) | (go_at_call 10; (with_reducible refine (St.call hS fun hl => aliveE_any _ hl).mono ?_); rintro e w ⟨rfl, hS⟩))
 all_goals go_ret
 all_goals exact ⟨ret_bool (by simp), hS.below⟩
abbrev LaidE0 (e : Ef) (v : Sl) (w : World) : Prop := LaidM w ∧ ModsAt0 e v w
theorem keepsE0 (e : Ef) (v : Sl) : ∀ w1 w2 : World, LaidE0 e v w1 → Below w1.heap.size w1 w2 → LaidE0 e v w2 := fun _ _ h hb => ⟨h.1.below hb, h.2.keep hb⟩
theorem LaidE0.few {e : Ef} {v : Sl} {w : World} (h : LaidE0 e v w) (h20 : e.mods.length ≤ 20) : LaidE e v w := ⟨h.1, h.2.few h20⟩
theorem refIsE_more {r : Rf} {a b : Int} (h : refIs r a = true) (hab : a ≤ b) : refIs r b = true := by
 unfold refIs at *
 split at h
 ·rename_i hk
  rw [if_pos hk]
  simp only [Bool.and_eq_true, decide_eq_true_eq] at h ⊢
  exact ⟨h.1, by omega, h.2.2⟩
 ·rename_i hk
  rw [if_neg hk]; exact h
theorem refIsE_four {r : Rf} {b : Int} (h : refIs r b = true) : refIs r 4 = true := by
 unfold refIs at *
 split at h
 ·rename_i hk
  rw [if_pos hk]
  simp only [Bool.and_eq_true, decide_eq_true_eq] at h ⊢
  exact ⟨h.1, by omega, h.2.2⟩
 ·rename_i hk
  rw [if_neg hk]; exact h
theorem eIs_ref {e : Ef} {a b : Int} (h : eIs e a = true) (hr : refIs e.ref a = true → refIs e.ref b = true) : eIs e b = true := by
 unfold eIs fWhole at *
 simp only [Bool.and_eq_true] at h ⊢
 refine ⟨h.1, ?_, h.2.2⟩
 have h1 := h.2.1
 unfold fRef at *
 split
 ·rename_i hu
  rw [if_pos hu] at h1; exact hr h1
 ·rename_i hu
  rw [if_neg hu] at h1; exact h1
theorem effectTargets_law (e : Ef) (v : Sl) (specs : Int) (w : World) (hl : LaidE0 e v w) : Calls Tryz.prog 6 #[.agg (e.at v).cells, .int .i64 specs] w fun x w' => x = .returned (.bool true) ∧ Below w.heap.size w w' := by
 by_cases hsp : specs < 0 ∨ 100 < specs
 ·have hS := St.start hl (keepsE0 e v)
  have hc : specs < 0 ∨ (0 ≤ specs ∧ 100 < specs) := by omega
  clear hsp
  rcases hc with hc | ⟨hc, hd⟩
  ·go_enter Tryz.func6, Tryz.ntmps6
   go_wp2_with (first | (go_at_call 10; (with_reducible refine (St.call hS fun hl => aliveE_any _ hl.1).mono ?_); rintro e w ⟨rfl, hS⟩) | (go_at_call 9; (refine (r17Light_any e v _ hS.laid.2).mono ?_); rintro e0 w ⟨⟨b, rfl, h20⟩, hb⟩; have hS := hS.mono hb; clear hb h20; cases b) | ((with_reducible refine at_box ?_); (first | (refine wpList_box_agg rfl hS rfl rfl ?_; intro g w hS)); (try simp only [put0, put1, put2, put3, put4])) | ((with_reducible refine at_load ?_); (first | (refine em_ldw rfl hS rfl rfl (by repeat constructor) ?_)); (try simp only [put0, put1, put2, put3, put4])))
   all_goals go_ret
   all_goals exact ⟨ret_bool (by simp), hS.below⟩
  ·go_enter Tryz.func6, Tryz.ntmps6
   go_wp2_with (first | (go_at_call 10; (with_reducible refine (St.call hS fun hl => aliveE_any _ hl.1).mono ?_); rintro e w ⟨rfl, hS⟩) | (go_at_call 9; (refine (r17Light_any e v _ hS.laid.2).mono ?_); rintro e0 w ⟨⟨b, rfl, h20⟩, hb⟩; have hS := hS.mono hb; clear hb h20; cases b) | ((with_reducible refine at_guard ?_); (first | (refine wpList_pass rfl ?_) | ((fail_if_success refine wpList_wanted rfl ?_); refine wpList_ask _ _ rfl rfl (fun hb => ?_) (fun hb => ?_) <;> (first | (obtain rfl := eq_of_beq hb) | (simp only [hb])))); (try simp only [put0, put1, put2, put3, put4])) | ((with_reducible refine at_box ?_); (first | (refine wpList_box_agg rfl hS rfl rfl ?_; intro g w hS)); (try simp only [put0, put1, put2, put3, put4])) | ((with_reducible refine at_load ?_); (first | (refine em_ldw rfl hS rfl rfl (by repeat constructor) ?_)); (try simp only [put0, put1, put2, put3, put4])))
   all_goals go_ret
   all_goals exact ⟨ret_bool (by simp), hS.below⟩
 ·have h0 : 0 ≤ specs := by omega
  have h1 : specs ≤ 100 := by omega
  clear hsp
  have hS := St.start hl (keepsE0 e v)
  cases hv : eIs e specs with
  | false =>
    have HR := Lib.hid hv
    clear hv
    go_enter Tryz.func6, Tryz.ntmps6
    go_wp2_with (first | (go_at_call 10; (with_reducible refine (St.call hS fun hl => aliveE_any _ hl.1).mono ?_); rintro e w ⟨rfl, hS⟩) | (go_at_call 11; (with_reducible refine (St.call hS fun hl => eIs_any e v specs false HR _ (hl.few (H20.out (by trivial)))).mono ?_); rintro e w ⟨rfl, hS⟩) | (go_at_call 9; (refine (r17Light_any e v _ hS.laid.2).mono ?_); rintro e0 w ⟨⟨b, rfl, h20⟩, hb⟩; have hS := hS.mono hb; have H20 := Lib.hid h20; clear hb h20; cases b) | ((with_reducible refine at_guard ?_); (first | (refine wpList_pass rfl ?_) | ((fail_if_success refine wpList_wanted rfl ?_); refine wpList_ask _ _ rfl rfl (fun hb => ?_) (fun hb => ?_) <;> (first | (obtain rfl := eq_of_beq hb) | (simp only [hb])))); (try simp only [put0, put1, put2, put3, put4])) | ((with_reducible refine at_box ?_); (first | (refine wpList_box_agg rfl hS rfl rfl ?_; intro g w hS)); (try simp only [put0, put1, put2, put3, put4])) | ((with_reducible refine at_load ?_); (first | (refine em_ldw rfl hS rfl rfl (by repeat constructor) ?_)); (try simp only [put0, put1, put2, put3, put4])))
    all_goals go_ret
    all_goals exact ⟨ret_bool (by simp), hS.below⟩
  | true =>
    have HR2 := Lib.hid (eIs_ref (b := specs + 1) hv fun h => refIsE_more h (by omega))
    have h4 := eIs_ref (b := 4) hv refIsE_four
    have ht := eText_ne h4
    obtain ⟨T, hT⟩ : ∃ T, eText e = T := ⟨_, rfl⟩
    rw [hT] at ht
    have hn : (T == []) = false := by simpa using ht
    have HT := Lib.hid hT
    have HR := Lib.hid hv
    clear hv hT ht h4
    go_enter Tryz.func6, Tryz.ntmps6
    go_wp2_with (first | (go_at_call 10; (with_reducible refine (St.call hS fun hl => aliveE_any _ hl.1).mono ?_); rintro e w ⟨rfl, hS⟩) | (go_at_call 11; (with_reducible refine (St.call hS fun hl => eIs_any e v specs true HR _ (hl.few (H20.out (by trivial)))).mono ?_); rintro e w ⟨rfl, hS⟩) | (go_at_call 11; (with_reducible refine (St.call hS fun hl => eIs_any e v (specs + 1) true HR2 _ (hl.few (H20.out (by trivial)))).mono ?_); rintro e w ⟨rfl, hS⟩) | (go_at_call 13; (with_reducible refine (St.call hS fun hl => eText_any e v T HT _ (hl.few (H20.out (by trivial)))).mono ?_); rintro e w ⟨rfl, hS⟩) | (go_at_call 9; (refine (r17Light_any e v _ hS.laid.2).mono ?_); rintro e0 w ⟨⟨b, rfl, h20⟩, hb⟩; have hS := hS.mono hb; have H20 := Lib.hid h20; clear hb h20; cases b) | ((with_reducible refine at_guard ?_); (first | (refine wpList_pass rfl ?_) | ((fail_if_success refine wpList_wanted rfl ?_); refine wpList_ask _ _ rfl rfl (fun hb => ?_) (fun hb => ?_) <;> (first | (obtain rfl := eq_of_beq hb) | (simp only [hb])))); (try simp only [put0, put1, put2, put3, put4])) | ((with_reducible refine at_box ?_); (first | (refine wpList_box_agg rfl hS rfl rfl ?_; intro g w hS)); (try simp only [put0, put1, put2, put3, put4])) | ((with_reducible refine at_load ?_); (first | (refine em_ldw rfl hS rfl rfl (by repeat constructor) ?_)); (try simp only [put0, put1, put2, put3, put4])))
    all_goals go_ret
    all_goals exact ⟨ret_bool (by simp), hS.below⟩
theorem MI.nil {e : Ef} {v : Sl} (h : MI e v []) (w : World) : ModsAt e v w := by
 refine ⟨h.1, h.2.1, ?_⟩
 rcases h.2.2 with ⟨_, h0⟩ | ⟨g, cur, _, hr, _⟩
 ·exact .inl h0
 ·cases hr
theorem MI.one {e : Ef} {v : Sl} {gm : Nat} {cm : Array Value} (h : MI e v [(gm, cm, TMd)]) {w : World} (hg : w.heap[gm]? = some (.cells cm TMd (0, 0))) : ModsAt e v w := by
 refine ⟨h.1, h.2.1, ?_⟩
 rcases h.2.2 with ⟨_, h0⟩ | ⟨g, cur, ha, hr, hm⟩
 ·exact .inl h0
 ·cases hr with
  | head => exact .inr ⟨_, 0, ha, hm w hg⟩
  | tail h => cases h
theorem eparseP_st {s : Str} {L : World → Prop} {w0 w w' : World} {rows : List Row} {x : Ending} (h : EParseP s w x w') (hS : St L w0 rows w) :
 (eParse s = none ∧ x = .returned (.tuple #[.agg zeroEm.cells, .int .i64 3]) ∧ St L w0 rows w') ∨ ∃ e v X, eParse s = some e ∧ x = .returned (.tuple #[.agg (e.at v).cells, .int .i64 0]) ∧ St L w0 (X ++ rows) w' ∧ MI e v X ∧ (X = [] ∨ ∃ gm cm, X = [(gm, cm, TMd)]) := by
 obtain ⟨hb, h⟩ := h
 rcases h with ⟨h1, h2⟩ | ⟨e, v, h1, h2, ⟨m1, m2, m3⟩⟩
 ·exact .inl ⟨h1, h2, hS.mono hb⟩
 ·rcases m3 with ⟨ha, h0⟩ | ⟨gm, cm, ha, hbg, hg, hm⟩
  ·exact .inr ⟨e, v, [], h1, h2, hS.mono hb, ⟨m1, m2, .inl ⟨ha, h0⟩⟩, .inl rfl⟩
  ·exact .inr ⟨e, v, [(gm, cm, TMd)], h1, h2, hS.grow hb hg hbg, ⟨m1, m2, .inr ⟨gm, cm, ha, .head, hm⟩⟩, .inr ⟨gm, cm, rfl⟩⟩
abbrev LX (A0 A1 A2 : Option Addr) (l e1 e2 : List EV) (w : World) : Prop := LaidM w ∧ (ArgE0 A0 l w ∧ (ArgE A1 e1 w ∧ ArgE A2 e2 w))
theorem keepsX (A0 A1 A2 : Option Addr) (l e1 e2 : List EV) : ∀ w1 w2 : World, LX A0 A1 A2 l e1 e2 w1 → Below w1.heap.size w1 w2 → LX A0 A1 A2 l e1 e2 w2 := fun _ _ h hb => ⟨h.1.below hb, h.2.1.keep hb, h.2.2.1.keep hb, h.2.2.2.keep hb⟩
theorem argE_none (w : World) : ArgE none [] w := ⟨.inl rfl, by simp⟩
def elK (s : Str) : Int := if (elParse s).isSome = true then 0 else 3
theorem elistP_st {s : Str} {w w' : World} {x : Ending} (h : EListP s w x w') : ∃ es A c, x = .returned (.tuple #[.slice A es.length c, .int .i64 (elK s)]) ∧ ArgE A es w' ∧ es.length ≤ 8 ∧ es.map Prod.fst = (elParse s).getD [] ∧ Below w.heap.size w w' := by
 obtain ⟨hb, h⟩ := h
 rcases h with ⟨h1, h2⟩ | ⟨es, v, h1, h2, own⟩
 ·refine ⟨[], none, 0, ?_, argE_none _, by simp, by rw [h1]; rfl, hb⟩
  rw [h2]; unfold elK; rw [h1]; rfl
 ·obtain ⟨A, c, rfl⟩ := own.form
  refine ⟨es, A, c, ?_, own.arg.2, ?_, by rw [h1]; rfl, hb⟩
  ·rw [h2]; unfold elK; rw [h1]; rfl
  ·have := (elParse_back h1).2.1
   rwa [List.length_map] at this
theorem St.pickL {L : World → Prop} {w0 w : World} {rows rows' : List Row} (h : St L w0 rows w) (hs : ∀ x ∈ rows', x ∈ rows) (hn : (rows'.map (·.1)).Nodup) : St L w0 rows' w := ⟨h.base, h.keeps, h.below, fun x hx => h.has x (hs x hx), hn⟩
end Go.Proofs.YtdnnbfbhifelkaaGreatDoor
