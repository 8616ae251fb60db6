/- Walks: package filter: the reader's bounds, all cases. Conditions: Laid. -/
import Derived.Test.YthpleohkngfdfaaGreatDoorReaderC
namespace Go.Proofs.YthpleohkngfdfaaGreatDoor
set_option linter.all false
open Go.ChangeShapes Go.WideShapes Go.RowKit
set_option maxRecDepth 100000 in
theorem bound_low (s : ByteArray) (i : Int) (w : World) (g : Nat) (hix : Hid (Lib.indexByte (L s) 61 = i)) (hi : i < 1) :
    Calls Tryz.prog 65 #[.pointer (some ⟨g, 0, none⟩), .string s] w fun e w' => e = .returned (.bool false) ∧ w = w' := by
  go_enter Tryz.func65, Tryz.ntmps65
  go_wp2_with (go_at_call 85; (with_reducible refine (indexEq _ _ _ hix.out).mono ?_); rintro e w0 ⟨rfl, rfl⟩)
  go_ret
  exact ⟨rfl, rfl⟩
/-- What a reader's method leaves: true and the new filter, or false and some filter. -/
def TakeR (b g : Nat) (o : Option Flt) (w : World) (e : Ending) (w' : World) : Prop :=
  Fr g b w w' ∧ ((∃ f', o = some f' ∧ e = .returned (.bool true) ∧ Rd w' b g f') ∨ (o = none ∧ e = .returned (.bool false) ∧ ∃ f', Rd w' b g f'))
theorem TakeR.of_ok {b g : Nat} {f f' : Flt} {o : Option Flt} {ok : Bool} {w w' : World} {e : Ending} (h : e = .returned (.bool ok) ∧ Rd w' b g f ∧ Fr g b w w') (ho : o = if ok then some f else none) : TakeR b g o w e w' := by
  obtain ⟨h1, h2, h3⟩ := h
  refine ⟨h3, ?_⟩
  cases ok
  · exact .inr ⟨ho, h1, f, h2⟩
  · exact .inl ⟨f, ho, h1, h2⟩
theorem setBound_0 {f : Flt} {nm : Str} {k n : Int} (p0 : nm = [112, 111, 119, 101, 114]) : setBound f nm k n = some { f with pk := k, pn := n } :=
  if_pos p0
theorem setBound_1 {f : Flt} {nm : Str} {k n : Int} (p0 : ¬ nm = [112, 111, 119, 101, 114]) (p1 : nm = [116, 111, 117, 103, 104]) : setBound f nm k n = some { f with tk := k, tn := n } :=
  (if_neg p0).trans (if_pos p1)
theorem setBound_2 {f : Flt} {nm : Str} {k n : Int} (p0 : ¬ nm = [112, 111, 119, 101, 114]) (p1 : ¬ nm = [116, 111, 117, 103, 104]) (p2 : nm = [118, 97, 108, 117, 101]) : setBound f nm k n = some { f with vk := k, vn := n } :=
  (if_neg p0).trans ((if_neg p1).trans (if_pos p2))
theorem setBound_3 {f : Flt} {nm : Str} {k n : Int} (p0 : ¬ nm = [112, 111, 119, 101, 114]) (p1 : ¬ nm = [116, 111, 117, 103, 104]) (p2 : ¬ nm = [118, 97, 108, 117, 101]) : setBound f nm k n = none :=
  (if_neg p0).trans ((if_neg p1).trans (if_neg p2))
theorem byt_cast {l : Str} {k n : Nat} (h : byt l k = n) : ((byt l k : Nat) : Int) = (n : Int) := by rw [h]
theorem byt_ne {l : Str} {k n : Nat} (h : ¬ byt l k = n) : (((byt l k : Nat) : Int) == (n : Int)) = false := by simp only [beq_eq_false_iff_ne, ne_eq]; omega
theorem bound_all (s : ByteArray) (f : Flt) (w : World) (b g : Nat) (hw : Rd w b g f) (hl : Laid w) (hs : s.size < 4294967281) :
    Calls Tryz.prog 65 #[.pointer (some ⟨g, 0, none⟩), .string s] w (TakeR b g (boundS f (L s)) w) := by
  by_cases hlow : Lib.indexByte (L s) 61 < 1
  · exact (bound_low s _ w g rfl hlow).mono fun e w' ⟨he, hw'⟩ => ⟨hw' ▸ Fr.refl _ _ _, .inr ⟨if_pos hlow, he, f, hw' ▸ hw⟩⟩
  · obtain ⟨a, ha⟩ : ∃ a : Nat, Lib.indexByte (L s) 61 = (a : Int) := ⟨(Lib.indexByte (L s) 61).toNat, by omega⟩
    have ha1 : 1 ≤ a := by omega
    have has : a < s.size := by
      have h1 := (Lib.indexByte_some ha).1
      rw [← size_l]
      rcases Nat.lt_or_ge a (L s).length with h' | h'
      · exact h'
      · rw [List.getElem?_eq_none h'] at h1; cases h1
    have hnL : L (s.extract 0 a) = (L s).take a := by rw [L_extract, List.drop_zero]
    have hns : (s.extract 0 a).size = a := by rw [ByteArray.size_extract]; omega
    have hrL : L (s.extract (a + 1) s.size) = (L s).drop (a + 1) := by rw [L_extract, ← size_l, List.take_length]
    have hn2L : L ((s.extract 0 a).extract 0 (a - 1)) = (L (s.extract 0 a)).take (a - 1) := by rw [L_extract, List.drop_zero]
    have hnl : (L (s.extract 0 a)).length = a := by rw [size_l]; exact hns
    have hB : boundS f (L s) = match numOf (L (s.extract (a + 1) s.size)) with
        | some n => setBound f (boundHead (L (s.extract 0 a))).2 (boundHead (L (s.extract 0 a))).1 n
        | none => none := by
      unfold boundS; rw [if_neg hlow, ha, Int.toNat_natCast, ← hnL, ← hrL]; rfl
    obtain ⟨n, ok, hn, hBn⟩ : ∃ n ok, numRet (numOf (L (s.extract (a + 1) s.size))) = .tuple #[.int .i64 n, .bool ok] ∧
        boundS f (L s) = if ok then setBound f (boundHead (L (s.extract 0 a))).2 (boundHead (L (s.extract 0 a))).1 n else none := by
      rw [hB]
      cases numOf (L (s.extract (a + 1) s.size)) with
      | some n => exact ⟨n, true, rfl, rfl⟩
      | none => exact ⟨0, false, rfl, rfl⟩
    rw [hBn]
    unfold boundHead
    rw [hnl]
    by_cases h62 : byt (L (s.extract 0 a)) (a - 1) = 62
    · rw [if_pos h62, ← hn2L]
      by_cases p0 : (L ((s.extract 0 a).extract 0 (a - 1))) = [112, 111, 119, 101, 114]
      · refine (bound_62_0 s _ _ _ f a n ok w b g hw hl hs ha ha1 has rfl rfl rfl hns hn (byt_cast h62) p0).mono fun e w' h => TakeR.of_ok (f' := f) h ?_
        show (if ok then setBound f (L ((s.extract 0 a).extract 0 (a - 1))) 1 n else none) = _
        rw [setBound_0 p0]
      · skip
        by_cases p1 : (L ((s.extract 0 a).extract 0 (a - 1))) = [116, 111, 117, 103, 104]
        · refine (bound_62_1 s _ _ _ f a n ok w b g hw hl hs ha ha1 has rfl rfl rfl hns hn (byt_cast h62) p0 p1).mono fun e w' h => TakeR.of_ok (f' := f) h ?_
          show (if ok then setBound f (L ((s.extract 0 a).extract 0 (a - 1))) 1 n else none) = _
          rw [setBound_1 p0 p1]
        · skip
          by_cases p2 : (L ((s.extract 0 a).extract 0 (a - 1))) = [118, 97, 108, 117, 101]
          · refine (bound_62_2 s _ _ _ f a n ok w b g hw hl hs ha ha1 has rfl rfl rfl hns hn (byt_cast h62) p0 p1 p2).mono fun e w' h => TakeR.of_ok (f' := f) h ?_
            show (if ok then setBound f (L ((s.extract 0 a).extract 0 (a - 1))) 1 n else none) = _
            rw [setBound_2 p0 p1 p2]
          · refine (bound_62_3 s _ _ _ f a n ok w b g hw hl hs ha ha1 has rfl rfl rfl hns hn (byt_cast h62) p0 p1 p2).mono fun e w' ⟨h1, h2, h3⟩ => ⟨h3, .inr ⟨?_, h1, f, h2⟩⟩
            show (if ok then setBound f (L ((s.extract 0 a).extract 0 (a - 1))) 1 n else none) = _
            rw [setBound_3 p0 p1 p2]; cases ok <;> rfl
    · rw [if_neg h62]
      by_cases h60 : byt (L (s.extract 0 a)) (a - 1) = 60
      · rw [if_pos h60, ← hn2L]
        by_cases p0 : (L ((s.extract 0 a).extract 0 (a - 1))) = [112, 111, 119, 101, 114]
        · refine (bound_60_0 s _ _ _ f a n ok w b g hw hl hs ha ha1 has rfl rfl rfl hns hn (byt_ne h62) (byt_cast h60) p0).mono fun e w' h => TakeR.of_ok (f' := f) h ?_
          show (if ok then setBound f (L ((s.extract 0 a).extract 0 (a - 1))) 2 n else none) = _
          rw [setBound_0 p0]
        · skip
          by_cases p1 : (L ((s.extract 0 a).extract 0 (a - 1))) = [116, 111, 117, 103, 104]
          · refine (bound_60_1 s _ _ _ f a n ok w b g hw hl hs ha ha1 has rfl rfl rfl hns hn (byt_ne h62) (byt_cast h60) p0 p1).mono fun e w' h => TakeR.of_ok (f' := f) h ?_
            show (if ok then setBound f (L ((s.extract 0 a).extract 0 (a - 1))) 2 n else none) = _
            rw [setBound_1 p0 p1]
          · skip
            by_cases p2 : (L ((s.extract 0 a).extract 0 (a - 1))) = [118, 97, 108, 117, 101]
            · refine (bound_60_2 s _ _ _ f a n ok w b g hw hl hs ha ha1 has rfl rfl rfl hns hn (byt_ne h62) (byt_cast h60) p0 p1 p2).mono fun e w' h => TakeR.of_ok (f' := f) h ?_
              show (if ok then setBound f (L ((s.extract 0 a).extract 0 (a - 1))) 2 n else none) = _
              rw [setBound_2 p0 p1 p2]
            · refine (bound_60_3 s _ _ _ f a n ok w b g hw hl hs ha ha1 has rfl rfl rfl hns hn (byt_ne h62) (byt_cast h60) p0 p1 p2).mono fun e w' ⟨h1, h2, h3⟩ => ⟨h3, .inr ⟨?_, h1, f, h2⟩⟩
              show (if ok then setBound f (L ((s.extract 0 a).extract 0 (a - 1))) 2 n else none) = _
              rw [setBound_3 p0 p1 p2]; cases ok <;> rfl
      · rw [if_neg h60]
        by_cases p0 : (L (s.extract 0 a)) = [112, 111, 119, 101, 114]
        · refine (bound_0_0 s _ _ _ f a n ok w b g hw hl hs ha ha1 has rfl rfl rfl hns hn (byt_ne h62) (byt_ne h60) p0).mono fun e w' h => TakeR.of_ok (f' := f) h ?_
          show (if ok then setBound f (L (s.extract 0 a)) 3 n else none) = _
          rw [setBound_0 p0]
        · skip
          by_cases p1 : (L (s.extract 0 a)) = [116, 111, 117, 103, 104]
          · refine (bound_0_1 s _ _ _ f a n ok w b g hw hl hs ha ha1 has rfl rfl rfl hns hn (byt_ne h62) (byt_ne h60) p0 p1).mono fun e w' h => TakeR.of_ok (f' := f) h ?_
            show (if ok then setBound f (L (s.extract 0 a)) 3 n else none) = _
            rw [setBound_1 p0 p1]
          · skip
            by_cases p2 : (L (s.extract 0 a)) = [118, 97, 108, 117, 101]
            · refine (bound_0_2 s _ _ _ f a n ok w b g hw hl hs ha ha1 has rfl rfl rfl hns hn (byt_ne h62) (byt_ne h60) p0 p1 p2).mono fun e w' h => TakeR.of_ok (f' := f) h ?_
              show (if ok then setBound f (L (s.extract 0 a)) 3 n else none) = _
              rw [setBound_2 p0 p1 p2]
            · refine (bound_0_3 s _ _ _ f a n ok w b g hw hl hs ha ha1 has rfl rfl rfl hns hn (byt_ne h62) (byt_ne h60) p0 p1 p2).mono fun e w' ⟨h1, h2, h3⟩ => ⟨h3, .inr ⟨?_, h1, f, h2⟩⟩
              show (if ok then setBound f (L (s.extract 0 a)) 3 n else none) = _
              rw [setBound_3 p0 p1 p2]; cases ok <;> rfl
end Go.Proofs.YthpleohkngfdfaaGreatDoor
