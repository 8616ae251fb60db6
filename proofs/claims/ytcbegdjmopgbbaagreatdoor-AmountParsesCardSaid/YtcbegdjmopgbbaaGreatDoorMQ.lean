/- Plain words: how the reference reads an amount (chapter 14); it reads as the program does. No program in sight. -/
import Derived.Test.YtcbegdjmopgbbaaGreatDoorMPure
import Derived.Test.YtcbegdjmopgbbaaGreatDoorBase
namespace Go.Proofs.YtcbegdjmopgbbaaGreatDoor
set_option linter.all false
open Go.ChangeShapes Go.WideShapes Go.RowKit
def insideOk (s b : Str) : Bool := !decide (s.length < b.length + 1) && (s.take b.length == b && byt s (s.length - 1) == 41)
def insideS (s b : Str) : Option Str := if insideOk s b = true then some ((s.take (s.length - 1)).drop b.length) else none
def starStep (s : Str) (st : Int × Str) (i : Nat) : Int × Str := if byt s i = 42 then ((rdNum (s.take i)).getD 0, s.drop (i + 1)) else st
def starTo (s : Str) (k : Nat) : Int × Str := (List.range k).foldl (starStep s) (1, s)
def starScan (s : Str) : Int × Str := starTo s (min s.length 3)
theorem starTo_succ (s : Str) (k : Nat) : starTo s (k + 1) = starStep s (starTo s k) k := by unfold starTo; rw [List.range_succ, List.foldl_append]; rfl
def hitS (s : Str) (k : Nat) : Bool := !(k == 2) && (!(k == 4) && amText ⟨(k : Int), 0, 0, zeroF⟩ == s)
def findS (s : Str) : Option Nat := (List.range' 1 7).find? (hitS s)
def hitC (s : Str) (c : Nat) : Bool := amText ⟨4, 0, (c : Int), zeroF⟩ == s
def findC (s : Str) : Option Nat := (List.range' 0 3).find? (hitC s)
def qTailA (s : Str) : Option Am := match insideS (starScan s).2 countW with
  | none => none
  | some m => match parseS m with
    | none => none
    | some f => if amText ⟨2, (starScan s).1, 0, f⟩ = s then some ⟨2, (starScan s).1, 0, f⟩ else none
def qNumA (s : Str) : Option Am := match rdNum s with
  | some n => if 0 ≤ n then some ⟨0, n, 0, zeroF⟩ else qTailA s
  | none => qTailA s
def qAm (s : Str) : Option Am := match findS s with
  | some k => some ⟨(k : Int), 0, 0, zeroF⟩
  | none => match findC s with
    | some c => some ⟨4, 0, (c : Int), zeroF⟩
    | none => qNumA s
theorem rdNum_text {s : Str} {n : Int} (h : rdNum s = some n) : Lib.itoa n = s ∧ n ≤ 1000000 := by
  unfold rdNum at h
  generalize (if byt s 0 == 45 then s.drop 1 else s) = r at h
  generalize (if byt s 0 == 45 then -(decVal (s.drop 1) : Int) else decVal s) = v at h
  split at h
  · cases h
  · split at h
    · rename_i hh
      injection h with h
      rw [h] at hh
      refine ⟨hh.2, ?_⟩
      have := hh.1
      unfold clampI at this
      split at this
      · omega
      · split at this <;> omega
    · cases h
theorem simple_ok {k : Nat} (h1 : 1 ≤ k) (h2 : k < 8) (h3 : k ≠ 2) (h4 : k ≠ 4) : amIs ⟨(k : Int), 0, 0, zeroF⟩ = true := by
  have : k = 1 ∨ k = 3 ∨ k = 5 ∨ k = 6 ∨ k = 7 := by omega
  rcases this with rfl | rfl | rfl | rfl | rfl <;> exact (show amIs _ = true from by kernel_rfl)
theorem cnt_ok {c : Nat} (h : c < 3) : amIs ⟨4, 0, (c : Int), zeroF⟩ = true := by
  have : c = 0 ∨ c = 1 ∨ c = 2 := by omega
  rcases this with rfl | rfl | rfl <;> exact (show amIs _ = true from by kernel_rfl)
theorem num_ok {n : Int} (h0 : 0 ≤ n) (h1 : n ≤ 1000000) : amIs ⟨0, n, 0, zeroF⟩ = true := by
  unfold amIs; simp [h0, h1, fltEq_refl]
theorem inside_count (f : Flt) : insideS (countS f) countW = some (textOf f) := by
  have hl : (countS f).length = (textOf f).length + 7 := by simp [countS, countW]
  have e1 : (countS f).take countW.length = countW := by unfold countS; rw [List.take_left]
  have e2 : byt (countS f) ((countS f).length - 1) = 41 := by
    unfold byt countS
    rw [← List.append_assoc]
    have : (countW ++ textOf f ++ [41]).length - 1 = (countW ++ textOf f).length := by simp
    rw [this, List.getD, List.getElem?_append_right (Nat.le_refl _)]; simp
  have e3 : ((countS f).take ((countS f).length - 1)).drop countW.length = textOf f := by
    unfold countS
    rw [← List.append_assoc]
    have : (countW ++ textOf f ++ [41]).length - 1 = (countW ++ textOf f).length := by simp
    rw [this, List.take_left, List.drop_left]
  unfold insideS
  rw [if_pos, e3]
  unfold insideOk
  rw [decide_eq_false (by rw [hl]; simp [countW]), e1, e2]; rfl
theorem star_one (f : Flt) : starScan (countS f) = (1, countS f) := by
  have hl : min (countS f).length 3 = 3 := by have : (countS f).length = (textOf f).length + 7 := by simp [countS, countW]
                                              omega
  unfold starScan
  rw [hl, starTo_succ, starTo_succ, starTo_succ]
  have b0 : byt (countS f) 0 = 99 := rfl
  have b1 : byt (countS f) 1 = 111 := rfl
  have b2 : byt (countS f) 2 = 117 := rfl
  unfold starStep
  rw [b0, b1, b2]
  simp [starTo]
theorem star_times (n : Nat) (h1 : 2 ≤ n) (h2 : n ≤ 99) (f : Flt) : starScan (Lib.itoa (n : Int) ++ 42 :: countS f) = ((n : Int), countS f) := by
  have hr := rdNum_itoa n (by omega)
  rw [Lib.itoa_nonneg] at hr ⊢
  by_cases h : n < 10
  · rw [Lib.decDigits_one h] at hr ⊢
    have hd : (UInt8.ofNat (48 + n)).toNat = 48 + n := by simp [UInt8.toNat_ofNat']; omega
    generalize UInt8.ofNat (48 + n) = d at *
    have hl : min ([d] ++ 42 :: countS f).length 3 = 3 := by simp [countS, countW] <;> try omega
    unfold starScan
    rw [hl, starTo_succ, starTo_succ, starTo_succ]
    have b0 : byt ([d] ++ 42 :: countS f) 0 = d.toNat := rfl
    have b1 : byt ([d] ++ 42 :: countS f) 1 = 42 := rfl
    have b2 : byt ([d] ++ 42 :: countS f) 2 = 99 := rfl
    unfold starStep
    rw [b1, b2, if_neg (by omega), if_pos rfl]
    show ((rdNum [d]).getD 0, countS f) = _
    rw [hr]; rfl
  · rw [Lib.decDigits_two h (by omega)] at hr ⊢
    have hd : (UInt8.ofNat (48 + n / 10)).toNat = 48 + n / 10 := by simp [UInt8.toNat_ofNat']; omega
    have he : (UInt8.ofNat (48 + n % 10)).toNat = 48 + n % 10 := by simp [UInt8.toNat_ofNat']; omega
    generalize UInt8.ofNat (48 + n / 10) = d at *
    generalize UInt8.ofNat (48 + n % 10) = e at *
    have hl : min ([d, e] ++ 42 :: countS f).length 3 = 3 := by simp
    unfold starScan
    rw [hl, starTo_succ, starTo_succ, starTo_succ]
    have b0 : byt ([d, e] ++ 42 :: countS f) 0 = d.toNat := rfl
    have b1 : byt ([d, e] ++ 42 :: countS f) 1 = e.toNat := rfl
    have b2 : byt ([d, e] ++ 42 :: countS f) 2 = 42 := rfl
    unfold starStep
    rw [b0, b1, b2, if_pos rfl]
    show ((rdNum [d, e]).getD 0, countS f) = _
    rw [hr]; rfl
theorem qAm_eq (s : Str) : qAm s = amParse s := by
  apply amParse_only
  · intro t h
    unfold qAm at h
    cases hs : findS s with
    | some k =>
      rw [hs] at h
      have hm := List.mem_of_find?_eq_some hs
      have hh := List.find?_some hs
      unfold hitS at hh
      simp only [Bool.and_eq_true, Bool.not_eq_true', beq_eq_false_iff_ne, beq_iff_eq] at hh
      simp at hm
      injection h with h
      rw [← h]
      exact ⟨simple_ok (by omega) (by omega) hh.1 hh.2.1, hh.2.2⟩
    | none =>
      rw [hs] at h
      simp only at h
      cases hc : findC s with
      | some c =>
        rw [hc] at h
        have hm := List.mem_of_find?_eq_some hc
        have hh := List.find?_some hc
        unfold hitC at hh
        simp at hm
        injection h with h
        rw [← h]
        exact ⟨cnt_ok (by omega), by simpa using hh⟩
      | none =>
        rw [hc] at h
        simp only at h
        have htail : ∀ t, qTailA s = some t → amIs t = true ∧ amText t = s := by
          intro t h
          unfold qTailA at h
          cases hi : insideS (starScan s).2 countW with
          | none => rw [hi] at h; cases h
          | some m =>
            rw [hi] at h
            simp only at h
            cases hp : parseS m with
            | none => rw [hp] at h; cases h
            | some f =>
              rw [hp] at h
              simp only at h
              split at h
              · rename_i ht
                injection h with h
                subst h
                refine ⟨?_, ht⟩
                cases hv : amIs ⟨2, (starScan s).1, 0, f⟩ with
                | true => rfl
                | false =>
                  rw [amText_no hv] at ht
                  subst ht
                  have : insideS (starScan []).2 countW = none := by decide
                  rw [this] at hi; cases hi
              · cases h
        unfold qNumA at h
        cases hn : rdNum s with
        | some n =>
          rw [hn] at h
          simp only at h
          split at h
          · rename_i h0
            injection h with h
            obtain ⟨e1, e2⟩ := rdNum_text hn
            rw [← h]
            have hv := num_ok h0 e2
            exact ⟨hv, (if_pos hv).trans e1⟩
          · exact htail t h
        | none => rw [hn] at h; exact htail t h
  · intro h t hv ht
    unfold qAm at h
    cases hs : findS s with
    | some k => rw [hs] at h; cases h
    | none =>
      rw [hs] at h
      simp only at h
      cases hc : findC s with
      | some c => rw [hc] at h; cases h
      | none =>
        rw [hc] at h
        simp only at h
        have hbr : (41 : UInt8) ∈ s → rdNum s = none := by
          intro hm
          cases hn : rdNum s with
          | none => rfl
          | some v =>
            rw [← (rdNum_text hn).1] at hm
            have := itoa_mem hm
            simp at this
        rcases amIs_cases hv with ⟨n, hn, rfl⟩ | ⟨n, h1, h2, f, hf, rfl⟩ | ⟨c, hcc, rfl⟩ | ⟨k, hk, rfl⟩
        · have e : amText ⟨0, (n : Int), 0, zeroF⟩ = Lib.itoa (n : Int) := if_pos hv
          rw [e] at ht
          unfold qNumA at h
          rw [← ht, rdNum_itoa n hn] at h
          simp at h
        · have hb : amText ⟨2, (n : Int), 0, f⟩ = amBody ⟨2, (n : Int), 0, f⟩ := if_pos hv
          rw [hb, amBody_two] at ht
          have hscan : starScan s = ((n : Int), countS f) := by
            rw [← ht]
            by_cases hn : n = 1
            · subst hn; exact star_one f
            · rw [if_pos (by omega)]; exact star_times n (by omega) h2 f
          have hmem : (41 : UInt8) ∈ s := by
            rw [← ht]
            split
            · exact List.mem_append_right _ (List.mem_cons_of_mem _ countS_mem.1)
            · exact countS_mem.1
          unfold qNumA at h
          rw [hbr hmem] at h
          simp only at h
          unfold qTailA at h
          rw [hscan] at h
          simp only at h
          rw [inside_count] at h
          simp only at h
          rw [parse_text hf] at h
          simp only at h
          rw [if_pos (by rw [hb, amBody_two]; exact ht)] at h
          cases h
        · have := List.find?_eq_none.1 hc c.toNat (by rcases hcc with rfl | rfl | rfl <;> simp)
          apply this
          unfold hitC
          have e : ((c.toNat : Nat) : Int) = c := by rcases hcc with rfl | rfl | rfl <;> rfl
          rw [e, ht]; simp
        · have := List.find?_eq_none.1 hs k.toNat (by rcases hk with rfl | rfl | rfl | rfl | rfl <;> simp)
          apply this
          unfold hitS
          have e : ((k.toNat : Nat) : Int) = k := by rcases hk with rfl | rfl | rfl | rfl | rfl <;> rfl
          rw [e, ht]
          rcases hk with rfl | rfl | rfl | rfl | rfl <;> simp
end Go.Proofs.YtcbegdjmopgbbaaGreatDoor
