/- Walks: package ref: Is of any reference. Conditions: Laid. -/
import Derived.Test.YtdnnbfbhifelkaaGreatDoorMEMem
set_option linter.all false
set_option maxRecDepth 100000
set_option maxHeartbeats 16000000
namespace Go.Proofs.YtdnnbfbhifelkaaGreatDoor
open Go.ChangeShapes Go.WideShapes Go.RowKit
abbrev TRf : Nat := 27
attribute [local irreducible] wpList Code.wp Calls fltIs fltEq
theorem eq_fl (f g : Flt) (w : World) : (binOp .eql TF (.agg f.cells) (.agg g.cells)).run Tryz.prog w = .ok (.bool (fltEq f g)) w := eq_v f g w
theorem fltIs_v (f : Flt) (R : Bool) (h : Hid (fltIs f = R)) (w : World) (hl : Laid w) : Calls Tryz.prog 57 #[.agg f.cells] w fun e w' => e = .returned (.bool R) ∧ Below w.heap.size w w' :=
 (fltIs_c f w hl).mono fun e w' h' => ⟨by rw [h'.1, h.out], h'.2⟩
theorem rfIs_w (kind n specs : Int) (f : Flt) (w0 : World) (hl : Laid w0) :
 Calls Tryz.prog 54 #[.agg (Rf.cells ⟨kind, n, f⟩), .int .i64 specs] w0 fun e w' => e = .returned (.bool (refIs ⟨kind, n, f⟩ specs)) ∧ Below w0.heap.size w0 w' := by
 obtain ⟨z, hz⟩ : ∃ z, fltEq f zeroF = z := ⟨_, rfl⟩
 have heq := fun wx => (eq_fl f ⟨zeroF.zone, zeroF.who, zeroF.self, zeroF.types, zeroF.ntypes, zeroF.colors, zeroF.ncolors, zeroF.sub, zeroF.keys, zeroF.tap, zeroF.pk, zeroF.pn, zeroF.tk, zeroF.tn, zeroF.vk, zeroF.vn⟩ wx).trans (by rw [show (⟨zeroF.zone, zeroF.who, zeroF.self, zeroF.types, zeroF.ntypes, zeroF.colors, zeroF.ncolors, zeroF.sub, zeroF.keys, zeroF.tap, zeroF.pk, zeroF.pn, zeroF.tk, zeroF.tn, zeroF.vk, zeroF.vn⟩ : Flt) = zeroF from rfl, hz])
 obtain ⟨v, hv⟩ : ∃ v, fltIs f = v := ⟨_, rfl⟩
 have HZ := Lib.hid hz
 have HV := Lib.hid hv
 clear hz hv
 have hS := St.start hl keepsL
 go_enter Tryz.func54, Tryz.ntmps54
 go_wp2_with (first | ((first | (with_reducible refine wpList_here ?_) | (with_reducible refine region_here ?_)); (first | (have hq := int_eq (by assumption); subst hq) | (have hq := str_eq (by assumption); subst hq))) | ((refine hot_here rfl ?_); (first | ((with_reducible refine at_guard ?_); (first | (refine wpList_pass rfl ?_) | ((fail_if_success refine wpList_wanted rfl ?_); refine wpList_ask _ _ rfl rfl (fun hb => ?_) (fun hb => ?_) <;> (first | (obtain rfl := eq_of_beq hb) | (simp only [hb])))); (try simp only [put0, put1, put2, put3, put4])) | ((with_reducible refine at_load (T := 3) ?_); (first | (refine rfs_ld0 rfl hS rfl rfl (by repeat constructor) ?_) | (refine rfs_ld1 rfl hS rfl rfl (by repeat constructor) ?_)); (try simp only [put0, put1, put2, put3, put4])) | ((with_reducible refine at_load (T := 25) ?_); (first | (refine rfs_ld2 rfl hS rfl rfl (by repeat constructor) ?_)); (try simp only [put0, put1, put2, put3, put4])) | ((with_reducible refine at_box ?_); (first | (refine wpList_box_agg rfl hS rfl rfl ?_; intro g w hS)); (try simp only [put0, put1, put2, put3, put4])) | ((with_reducible refine flt_shape_ ?_); refine flt_bld_ rfl ?_; (try simp only [put0, put1, put2, put3, put4])))) | ((fail_if_success (with_reducible refine wpList_here ?_)); (first | (go_at_call 57; (with_reducible refine (St.call hS fun hl => fltIs_v _ _ HV _ hl).mono ?_); rintro e w ⟨rfl, hS⟩))))
 all_goals (try (exfalso; simp only [decide_eq_false_iff_not] at *; omega))
 all_goals go_ret
 all_goals refine ⟨ret_bool ?_, hS.below⟩
 all_goals (unfold refIs kNum kBare; simp only [HZ.out, HV.out]; clear heq hS; first | rfl | (rename_i ht; simp at ht; simp [ht]; done) | (rename_i ha ht; simp at ha ht; simp [ha, ht]; done) | (simp only [beq_eq_false_iff_ne, ne_eq, decide_eq_false_iff_not, decide_eq_true_eq] at *; first | (rw [decide_eq_true (by omega : 1 ≤ n), decide_eq_true (by omega : n ≤ specs), decide_eq_true (by omega : n ≤ 4)]; simp; done) | (rw [decide_eq_false (by omega : ¬ 1 ≤ n)]; simp; done) | (simp; done) | (simp_all; done) | (simp [*]; done) | (simp; intros; omega) | (rw [if_neg (by simp; omega), if_neg (by omega)]; simp; intros; omega)))
end Go.Proofs.YtdnnbfbhifelkaaGreatDoor
