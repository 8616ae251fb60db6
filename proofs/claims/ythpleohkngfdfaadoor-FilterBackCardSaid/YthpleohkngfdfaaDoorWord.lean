/- Walks: package word. -/
import Derived.Test.YthpleohkngfdfaaDoorLine
import Derived.Test.YthpleohkngfdfaaDoorShelf
import Derived.WalkLawsBesides
import Derived.Lib.ConvBytes
namespace Go.Proofs.YthpleohkngfdfaaDoor
set_option linter.all false
open Go.ChangeShapes Go.WideShapes Go.RowKit
theorem contains_any (s sub : ByteArray) (w : World) (h : w.ShapedOpen Tryd.prog) (hs : s.size < 4294967281) (l : Str) (hsub : L sub = l) :
    Calls Tryd.prog 54 #[.string s, .string sub] w fun e w' => e = .returned (.bool (Lib.contains (L s) l)) ∧ w = w' :=
  (Tryd.strings_Contains_shaped s sub w h hs).mono fun _ _ h => ⟨hsub ▸ h.1, h.2.symm⟩
theorem nm_close (s : ByteArray) (h : nmHead (L s) = false) (q : ((((((s.size : Int) == 0) = false ∧ (s.size : Int) ≤ 32) ∧ (97 : Int) ≤ (byt (L s) 0 : Nat)) ∧ ((byt (L s) 0 : Nat) : Int) ≤ 122) ∧ (((byt (L s) (s.size - 1) : Nat) : Int) == 45) = false) ∧ Lib.contains (L s) [45, 45] = false) : False := by
  rw [nmHead, size_l, q.2] at h; have := q.1
  simp only [Bool.and_eq_false_iff, decide_eq_false_iff_not, Bool.not_eq_false', beq_iff_eq, Bool.not_false, Bool.true_eq_false, or_false] at h
  simp only [beq_eq_false_iff_ne, ne_eq] at this; omega
theorem nm_test {s : ByteArray} (h : nmHead (L s) = true) : Lib.contains (L s) [45, 45] = false ∧ (s.size : Int) ≤ 32 ∧ (97 : Int) ≤ (byt (L s) 0 : Nat) ∧ ((byt (L s) 0 : Nat) : Int) ≤ 122 ∧ (((byt (L s) (s.size - 1) : Nat) : Int) == 45) = false := by
  rw [nmHead, size_l] at h
  simp only [Bool.and_eq_true, decide_eq_true_eq, Bool.not_eq_true', beq_eq_false_iff_ne] at h ⊢
  exact ⟨h.2.2.2.2.2, by omega, by omega, by omega, by simp; omega⟩
set_option maxRecDepth 100000 in
theorem wordIs_no (s : ByteArray) (w : World) (hl : w.ShapedOpen Tryd.prog) (hn : nmHead (L s) = false) :
    Calls Tryd.prog 36 #[.string s] w fun e w' => e = .returned (.bool false) ∧ w = w' := by
  have HN := Lib.hid hn; clear hn
  rcases Nat.eq_zero_or_pos s.size with h0 | h0
  · obtain rfl : s = ByteArray.empty := ByteArray.size_eq_zero_iff.1 h0
    go_enter Tryd.func36, Tryd.ntmps36
    go_wp2
    go_ret
    exact ⟨rfl, rfl⟩
  have hg := get_l s
  go_enter Tryd.func36, Tryd.ntmps36
  go_wp2_with (go_at_call 54; refine (contains_any _ _ _ hl (by omega) [45, 45] rfl).mono ?_; rintro e w' ⟨rfl, rfl⟩)
  all_goals first
    | (go_ret; exact ⟨rfl, rfl⟩)
    | (exfalso; exact nm_close s HN.out (by assumption))
theorem bytesWorld_at (w : World) (e : TypeId) (s : ByteArray) (j : Nat) (hj : j < s.size) : (Lib.bytesWorld w e s).cell? ⟨w.heap.size, j, none⟩ = some (.int .u8 (byt (L s) j : Nat)) := Lib.bytesWorld_cell w e s j hj
theorem bytesWorld_below (w : World) (e : TypeId) (s : ByteArray) : Below w.heap.size w (Lib.bytesWorld w e s) :=
  ⟨rfl, rfl, rfl, by rw [Lib.bytesWorld_size]; omega, fun k hk => Lib.bytesWorld_at_old w e s k hk⟩
set_option maxRecDepth 100000 in
theorem wordIs_yes (s : ByteArray) (w : World) (hl : w.ShapedOpen Tryd.prog) (hn : nmHead (L s) = true) :
    Calls Tryd.prog 36 #[.string s] w fun e w' => e = .returned (.bool ((allOk (L s)))) ∧ Below w.heap.size w w' := by
  have hs : 0 < s.size := by rw [nmHead, size_l] at hn; simp at hn; omega
  have hne : ¬ s = ByteArray.empty := fun e => by subst e; simp at hs
  obtain ⟨hc, t1, t2, t3, t4⟩ := nm_test hn
  have e0 : ((s.size : Int) == 0) = false := by simp only [beq_eq_false_iff_ne, ne_eq]; omega
  have hc2 := fun wx => Lib.run_convert_string_bytes (P := Tryd.prog) wx 9 58 5 s Tryd.underlying9 Tryd.underlying58 Tryd.underlying5
  have hg := get_l s
  go_enter Tryd.func36, Tryd.ntmps36
  go_wp2_with (go_at_call 54; refine (contains_any _ _ _ hl (by omega) [45, 45] rfl).mono ?_; rintro e w' ⟨rfl, rfl⟩)
  all_goals try (exfalso; omega)
  have hb := bytesWorld_below w 5 s
  have hcell := fun j hj => bytesWorld_at w 5 s j hj
  clear hc2
  generalize grownCap w s.size 0 5 = cap
  generalize Lib.bytesWorld w 5 s = W at *
  go_loop [38] (fun i => ∃ k : Nat, k ≤ s.size ∧ i = .int .i64 k ∧ Hid (allOk ((L s).drop k) = allOk (L s))) (fun i => s.size - (intOf i).toNat)
  case atStart => exact ⟨0, by omega, rfl, rfl⟩
  case round =>
    obtain ⟨k, hk, rfl, hal⟩ := hrel
    by_cases hlt : k < s.size
    · have hck := hcell k hlt
      have hst := Lib.hid (allOk_step (l := L s) (k := k) (by rw [size_l]; exact hlt))
      cases hok : okb (byt (L s) k)
      · obtain ⟨x1, x2, x3⟩ := okb_no hok
        have hK := Lib.hid hok; clear hok
        go_wp2
        all_goals (go_ret; exact ⟨ret_bool (by rw [← hal.out, hst.out, hK.out]; rfl), hb⟩)
      · have hnext : Hid (allOk ((L s).drop (k + 1)) = allOk (L s)) := by
          have := hst.out; rw [hok, Bool.true_and] at this; exact this.symm.trans hal.out
        rcases okb_yes hok with ⟨x1, x2⟩ | ⟨x1, x2, x3⟩ | ⟨x1, x2, x3⟩
        all_goals
          clear hok
          go_wp2
          go_round
          case rel => exact ⟨k + 1, by omega, by go_num, hnext⟩
          case measure => simp [intOf]; omega
    · go_wp2
      go_ret
      obtain rfl : k = s.size := by omega
      exact ⟨ret_bool (by rw [← hal.out, ← size_l, List.drop_length]; rfl), hb⟩
/-- Is reports whether s is a name. -/
theorem wordIs_any (s : ByteArray) (w : World) (hl : w.ShapedOpen Tryd.prog) :
    Calls Tryd.prog 36 #[.string s] w fun e w' => e = .returned (.bool (isName (L s))) ∧ Below w.heap.size w w' := by
  unfold isName
  cases h : nmHead (L s)
  · exact (wordIs_no s w hl h).mono fun _ _ ⟨a, b⟩ => ⟨a, b ▸ Below.refl _ _⟩
  · exact (wordIs_yes s w hl h).mono fun _ _ ⟨a, b⟩ => ⟨a, b⟩
end Go.Proofs.YthpleohkngfdfaaDoor
