/- TriggerWho: the text of a trigger of a player holds the word for the player. Conditions: LaidT. -/
import Derived.Test.YtnibonmeihdjbaaGreatDoorTAlive
namespace Go.Proofs.YtnibonmeihdjbaaGreatDoor
set_option linter.all false
open Go.ChangeShapes Go.WideShapes Go.RowKit
set_option maxRecDepth 100000 in
set_option maxHeartbeats 2000000 in
theorem twho_8_0 (w0 : World) (hl : LaidT w0) :
    Calls Tryz.prog 7 #[.int .i64 8, .int .i64 0] w0 fun e w' => e = .returned (.bool true) ∧ Below w0.heap.size w0 w' := by
  have k0 : Hid (Below w0.heap.size w0 w0) := Lib.hid (Below.refl _ _)
  have HT : Hid (B (tgText ⟨8, 0, zeroF⟩) = ⟨#[100, 114, 97, 119, 115, 32, 97, 110, 121]⟩) := Lib.hid (by rw [show tgText ⟨8, 0, zeroF⟩ = [100, 114, 97, 119, 115, 32, 97, 110, 121] from by kernel_rfl]; rfl)
  have HW : Hid (B (whoText 0) = ⟨#[97, 110, 121]⟩) := Lib.hid rfl
  go_enter Tryz.func7, Tryz.ntmps7
  go_wp2_with (first
    | (rw [wpList_skip_eq]; rotate_left; · rfl)
    | refine wpList_buildB rfl TTg 0 1 _ _ rfl (.int .i64 8) (.int .i64 0) (.agg (Tg.cells ⟨8, 0, zeroF⟩)) rfl rfl (build_kw _ _ _) ?_
    | (go_at_call 8; (with_reducible refine (aliveT_any _ hl1).mono ?_); rintro e w2 ⟨rfl, hb2⟩; have hl2 := hl1.below hb2; have k2 := Lib.hid (below_two k1.out hb2))
    | (go_at_call 11; (with_reducible refine (tgWho_is 0 ⟨#[97, 110, 121]⟩ HW _).mono ?_); rintro e wu ⟨rfl, rfl⟩)
    | (go_at_call 13; (with_reducible refine (tText_is ⟨8, 0, zeroF⟩ ⟨#[100, 114, 97, 119, 115, 32, 97, 110, 121]⟩ HT _ hl).mono ?_); rintro e w1 ⟨rfl, hb1⟩; have hl1 := hl.below hb1; have k1 := Lib.hid (below_two k0.out hb1)))
  go_ret
  exact ⟨rfl, k2.out⟩
set_option maxRecDepth 100000 in
set_option maxHeartbeats 2000000 in
theorem twho_8_1 (w0 : World) (hl : LaidT w0) :
    Calls Tryz.prog 7 #[.int .i64 8, .int .i64 1] w0 fun e w' => e = .returned (.bool true) ∧ Below w0.heap.size w0 w' := by
  have k0 : Hid (Below w0.heap.size w0 w0) := Lib.hid (Below.refl _ _)
  have HT : Hid (B (tgText ⟨8, 1, zeroF⟩) = ⟨#[100, 114, 97, 119, 115, 32, 121, 111, 117]⟩) := Lib.hid (by rw [show tgText ⟨8, 1, zeroF⟩ = [100, 114, 97, 119, 115, 32, 121, 111, 117] from by kernel_rfl]; rfl)
  have HW : Hid (B (whoText 1) = ⟨#[121, 111, 117]⟩) := Lib.hid rfl
  go_enter Tryz.func7, Tryz.ntmps7
  go_wp2_with (first
    | (rw [wpList_skip_eq]; rotate_left; · rfl)
    | refine wpList_buildB rfl TTg 0 1 _ _ rfl (.int .i64 8) (.int .i64 1) (.agg (Tg.cells ⟨8, 1, zeroF⟩)) rfl rfl (build_kw _ _ _) ?_
    | (go_at_call 8; (with_reducible refine (aliveT_any _ hl1).mono ?_); rintro e w2 ⟨rfl, hb2⟩; have hl2 := hl1.below hb2; have k2 := Lib.hid (below_two k1.out hb2))
    | (go_at_call 11; (with_reducible refine (tgWho_is 1 ⟨#[121, 111, 117]⟩ HW _).mono ?_); rintro e wu ⟨rfl, rfl⟩)
    | (go_at_call 13; (with_reducible refine (tText_is ⟨8, 1, zeroF⟩ ⟨#[100, 114, 97, 119, 115, 32, 121, 111, 117]⟩ HT _ hl).mono ?_); rintro e w1 ⟨rfl, hb1⟩; have hl1 := hl.below hb1; have k1 := Lib.hid (below_two k0.out hb1)))
  go_ret
  exact ⟨rfl, k2.out⟩
set_option maxRecDepth 100000 in
set_option maxHeartbeats 2000000 in
theorem twho_8_2 (w0 : World) (hl : LaidT w0) :
    Calls Tryz.prog 7 #[.int .i64 8, .int .i64 2] w0 fun e w' => e = .returned (.bool true) ∧ Below w0.heap.size w0 w' := by
  have k0 : Hid (Below w0.heap.size w0 w0) := Lib.hid (Below.refl _ _)
  have HT : Hid (B (tgText ⟨8, 2, zeroF⟩) = ⟨#[100, 114, 97, 119, 115, 32, 111, 112, 112, 111, 110, 101, 110, 116, 115]⟩) := Lib.hid (by rw [show tgText ⟨8, 2, zeroF⟩ = [100, 114, 97, 119, 115, 32, 111, 112, 112, 111, 110, 101, 110, 116, 115] from by kernel_rfl]; rfl)
  have HW : Hid (B (whoText 2) = ⟨#[111, 112, 112, 111, 110, 101, 110, 116, 115]⟩) := Lib.hid rfl
  go_enter Tryz.func7, Tryz.ntmps7
  go_wp2_with (first
    | (rw [wpList_skip_eq]; rotate_left; · rfl)
    | refine wpList_buildB rfl TTg 0 1 _ _ rfl (.int .i64 8) (.int .i64 2) (.agg (Tg.cells ⟨8, 2, zeroF⟩)) rfl rfl (build_kw _ _ _) ?_
    | (go_at_call 8; (with_reducible refine (aliveT_any _ hl1).mono ?_); rintro e w2 ⟨rfl, hb2⟩; have hl2 := hl1.below hb2; have k2 := Lib.hid (below_two k1.out hb2))
    | (go_at_call 11; (with_reducible refine (tgWho_is 2 ⟨#[111, 112, 112, 111, 110, 101, 110, 116, 115]⟩ HW _).mono ?_); rintro e wu ⟨rfl, rfl⟩)
    | (go_at_call 13; (with_reducible refine (tText_is ⟨8, 2, zeroF⟩ ⟨#[100, 114, 97, 119, 115, 32, 111, 112, 112, 111, 110, 101, 110, 116, 115]⟩ HT _ hl).mono ?_); rintro e w1 ⟨rfl, hb1⟩; have hl1 := hl.below hb1; have k1 := Lib.hid (below_two k0.out hb1)))
  go_ret
  exact ⟨rfl, k2.out⟩
set_option maxRecDepth 100000 in
set_option maxHeartbeats 2000000 in
theorem twho_12_0 (w0 : World) (hl : LaidT w0) :
    Calls Tryz.prog 7 #[.int .i64 12, .int .i64 0] w0 fun e w' => e = .returned (.bool true) ∧ Below w0.heap.size w0 w' := by
  have k0 : Hid (Below w0.heap.size w0 w0) := Lib.hid (Below.refl _ _)
  have HT : Hid (B (tgText ⟨12, 0, zeroF⟩) = ⟨#[103, 97, 105, 110, 115, 32, 97, 110, 121]⟩) := Lib.hid (by rw [show tgText ⟨12, 0, zeroF⟩ = [103, 97, 105, 110, 115, 32, 97, 110, 121] from by kernel_rfl]; rfl)
  have HW : Hid (B (whoText 0) = ⟨#[97, 110, 121]⟩) := Lib.hid rfl
  go_enter Tryz.func7, Tryz.ntmps7
  go_wp2_with (first
    | (rw [wpList_skip_eq]; rotate_left; · rfl)
    | refine wpList_buildB rfl TTg 0 1 _ _ rfl (.int .i64 12) (.int .i64 0) (.agg (Tg.cells ⟨12, 0, zeroF⟩)) rfl rfl (build_kw _ _ _) ?_
    | (go_at_call 8; (with_reducible refine (aliveT_any _ hl1).mono ?_); rintro e w2 ⟨rfl, hb2⟩; have hl2 := hl1.below hb2; have k2 := Lib.hid (below_two k1.out hb2))
    | (go_at_call 11; (with_reducible refine (tgWho_is 0 ⟨#[97, 110, 121]⟩ HW _).mono ?_); rintro e wu ⟨rfl, rfl⟩)
    | (go_at_call 13; (with_reducible refine (tText_is ⟨12, 0, zeroF⟩ ⟨#[103, 97, 105, 110, 115, 32, 97, 110, 121]⟩ HT _ hl).mono ?_); rintro e w1 ⟨rfl, hb1⟩; have hl1 := hl.below hb1; have k1 := Lib.hid (below_two k0.out hb1)))
  go_ret
  exact ⟨rfl, k2.out⟩
set_option maxRecDepth 100000 in
set_option maxHeartbeats 2000000 in
theorem twho_12_1 (w0 : World) (hl : LaidT w0) :
    Calls Tryz.prog 7 #[.int .i64 12, .int .i64 1] w0 fun e w' => e = .returned (.bool true) ∧ Below w0.heap.size w0 w' := by
  have k0 : Hid (Below w0.heap.size w0 w0) := Lib.hid (Below.refl _ _)
  have HT : Hid (B (tgText ⟨12, 1, zeroF⟩) = ⟨#[103, 97, 105, 110, 115, 32, 121, 111, 117]⟩) := Lib.hid (by rw [show tgText ⟨12, 1, zeroF⟩ = [103, 97, 105, 110, 115, 32, 121, 111, 117] from by kernel_rfl]; rfl)
  have HW : Hid (B (whoText 1) = ⟨#[121, 111, 117]⟩) := Lib.hid rfl
  go_enter Tryz.func7, Tryz.ntmps7
  go_wp2_with (first
    | (rw [wpList_skip_eq]; rotate_left; · rfl)
    | refine wpList_buildB rfl TTg 0 1 _ _ rfl (.int .i64 12) (.int .i64 1) (.agg (Tg.cells ⟨12, 1, zeroF⟩)) rfl rfl (build_kw _ _ _) ?_
    | (go_at_call 8; (with_reducible refine (aliveT_any _ hl1).mono ?_); rintro e w2 ⟨rfl, hb2⟩; have hl2 := hl1.below hb2; have k2 := Lib.hid (below_two k1.out hb2))
    | (go_at_call 11; (with_reducible refine (tgWho_is 1 ⟨#[121, 111, 117]⟩ HW _).mono ?_); rintro e wu ⟨rfl, rfl⟩)
    | (go_at_call 13; (with_reducible refine (tText_is ⟨12, 1, zeroF⟩ ⟨#[103, 97, 105, 110, 115, 32, 121, 111, 117]⟩ HT _ hl).mono ?_); rintro e w1 ⟨rfl, hb1⟩; have hl1 := hl.below hb1; have k1 := Lib.hid (below_two k0.out hb1)))
  go_ret
  exact ⟨rfl, k2.out⟩
set_option maxRecDepth 100000 in
set_option maxHeartbeats 2000000 in
theorem twho_12_2 (w0 : World) (hl : LaidT w0) :
    Calls Tryz.prog 7 #[.int .i64 12, .int .i64 2] w0 fun e w' => e = .returned (.bool true) ∧ Below w0.heap.size w0 w' := by
  have k0 : Hid (Below w0.heap.size w0 w0) := Lib.hid (Below.refl _ _)
  have HT : Hid (B (tgText ⟨12, 2, zeroF⟩) = ⟨#[103, 97, 105, 110, 115, 32, 111, 112, 112, 111, 110, 101, 110, 116, 115]⟩) := Lib.hid (by rw [show tgText ⟨12, 2, zeroF⟩ = [103, 97, 105, 110, 115, 32, 111, 112, 112, 111, 110, 101, 110, 116, 115] from by kernel_rfl]; rfl)
  have HW : Hid (B (whoText 2) = ⟨#[111, 112, 112, 111, 110, 101, 110, 116, 115]⟩) := Lib.hid rfl
  go_enter Tryz.func7, Tryz.ntmps7
  go_wp2_with (first
    | (rw [wpList_skip_eq]; rotate_left; · rfl)
    | refine wpList_buildB rfl TTg 0 1 _ _ rfl (.int .i64 12) (.int .i64 2) (.agg (Tg.cells ⟨12, 2, zeroF⟩)) rfl rfl (build_kw _ _ _) ?_
    | (go_at_call 8; (with_reducible refine (aliveT_any _ hl1).mono ?_); rintro e w2 ⟨rfl, hb2⟩; have hl2 := hl1.below hb2; have k2 := Lib.hid (below_two k1.out hb2))
    | (go_at_call 11; (with_reducible refine (tgWho_is 2 ⟨#[111, 112, 112, 111, 110, 101, 110, 116, 115]⟩ HW _).mono ?_); rintro e wu ⟨rfl, rfl⟩)
    | (go_at_call 13; (with_reducible refine (tText_is ⟨12, 2, zeroF⟩ ⟨#[103, 97, 105, 110, 115, 32, 111, 112, 112, 111, 110, 101, 110, 116, 115]⟩ HT _ hl).mono ?_); rintro e w1 ⟨rfl, hb1⟩; have hl1 := hl.below hb1; have k1 := Lib.hid (below_two k0.out hb1)))
  go_ret
  exact ⟨rfl, k2.out⟩
set_option maxRecDepth 100000 in
set_option maxHeartbeats 2000000 in
theorem twho_kind (when who : Int) (h8 : when ≠ 8) (h12 : when ≠ 12) (w0 : World) (hl : LaidT w0) :
    Calls Tryz.prog 7 #[.int .i64 when, .int .i64 who] w0 fun e w' => e = .returned (.bool true) ∧ Below w0.heap.size w0 w' := by
  have k0 : Hid (Below w0.heap.size w0 w0) := Lib.hid (Below.refl _ _)
  have t8 : (when != 8) = true := by simpa using h8
  have t12 : (when != 12) = true := by simpa using h12
  obtain ⟨T, hT⟩ : ∃ T, B (tgText ⟨when, who, zeroF⟩) = T := ⟨_, rfl⟩
  obtain ⟨V, hV⟩ : ∃ V, B (whoText who) = V := ⟨_, rfl⟩
  have HT := Lib.hid hT
  have HW := Lib.hid hV
  clear hT hV h8 h12
  go_enter Tryz.func7, Tryz.ntmps7
  go_wp2_with (first
    | (rw [wpList_skip_eq]; rotate_left; · rfl)
    | refine wpList_buildB rfl TTg 0 1 _ _ rfl (.int .i64 when) (.int .i64 who) (.agg (Tg.cells ⟨when, who, zeroF⟩)) rfl rfl (build_kw _ _ _) ?_
    | (go_at_call 8; (with_reducible refine (aliveT_any _ hl1).mono ?_); rintro e w2 ⟨rfl, hb2⟩; have hl2 := hl1.below hb2; have k2 := Lib.hid (below_two k1.out hb2))
    | (go_at_call 11; (with_reducible refine (tgWho_is who V HW _).mono ?_); rintro e wu ⟨rfl, rfl⟩)
    | (go_at_call 13; (with_reducible refine (tText_is ⟨when, who, zeroF⟩ T HT _ hl).mono ?_); rintro e w1 ⟨rfl, hb1⟩; have hl1 := hl.below hb1; have k1 := Lib.hid (below_two k0.out hb1)))
  go_ret
  exact ⟨rfl, k2.out⟩
set_option maxRecDepth 100000 in
set_option maxHeartbeats 2000000 in
theorem twho_bad (when who : Int) (hw : ¬ (who = 0 ∨ who = 1 ∨ who = 2)) (hk : when = 8 ∨ when = 12) (w0 : World) (hl : LaidT w0) :
    Calls Tryz.prog 7 #[.int .i64 when, .int .i64 who] w0 fun e w' => e = .returned (.bool true) ∧ Below w0.heap.size w0 w' := by
  have k0 : Hid (Below w0.heap.size w0 w0) := Lib.hid (Below.refl _ _)
  obtain ⟨T, hT⟩ : ∃ T, B (tgText ⟨when, who, zeroF⟩) = T := ⟨_, rfl⟩
  have HT := Lib.hid hT
  have HW : Hid (B (whoText who) = ⟨#[]⟩) := Lib.hid (by rw [whoText_no hw]; rfl)
  clear hT hw
  rcases hk with rfl | rfl
  all_goals
    go_enter Tryz.func7, Tryz.ntmps7
    go_wp2_with (first
      | (rw [wpList_skip_eq]; rotate_left; · rfl)
      | refine wpList_buildB rfl TTg 0 1 _ _ rfl (.int .i64 _) (.int .i64 who) (.agg (Tg.cells ⟨_, who, zeroF⟩)) rfl rfl (build_kw _ _ _) ?_
      | (go_at_call 8; (with_reducible refine (aliveT_any _ hl1).mono ?_); rintro e w2 ⟨rfl, hb2⟩; have hl2 := hl1.below hb2; have k2 := Lib.hid (below_two k1.out hb2))
      | (go_at_call 11; (with_reducible refine (tgWho_is who ⟨#[]⟩ HW _).mono ?_); rintro e wu ⟨rfl, rfl⟩)
      | (go_at_call 13; (with_reducible refine (tText_is ⟨_, who, zeroF⟩ T HT _ hl).mono ?_); rintro e w1 ⟨rfl, hb1⟩; have hl1 := hl.below hb1; have k1 := Lib.hid (below_two k0.out hb1)))
    go_ret
    exact ⟨rfl, k2.out⟩
theorem triggerWho_law (when who : Int) (w : World) (hl : LaidT w) : Calls Tryz.prog 7 #[.int .i64 when, .int .i64 who] w fun e w' => e = .returned (.bool true) ∧ Below w.heap.size w w' := by
  by_cases hk : when = 8 ∨ when = 12
  · by_cases hw : who = 0 ∨ who = 1 ∨ who = 2
    · rcases hk with rfl | rfl <;> rcases hw with rfl | rfl | rfl
      · exact twho_8_0 w hl
      · exact twho_8_1 w hl
      · exact twho_8_2 w hl
      · exact twho_12_0 w hl
      · exact twho_12_1 w hl
      · exact twho_12_2 w hl
    · exact twho_bad when who hw hk w hl
  · exact twho_kind when who (fun e => hk (.inl e)) (fun e => hk (.inr e)) w hl
end Go.Proofs.YtnibonmeihdjbaaGreatDoor
