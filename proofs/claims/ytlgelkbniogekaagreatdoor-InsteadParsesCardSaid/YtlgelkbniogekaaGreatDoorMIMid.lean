/- Plain words: what the reference tries for a replacement effect's text (chapter 19). No program in sight. Walks: the reference of chapter 19: middle. Conditions: the text is shorter than 100 million bytes. Walks: the reference of chapter 19: last. Conditions: the text is shorter than 100 million bytes. -/
import Derived.Test.YtlgelkbniogekaaGreatDoorMIMem
import Derived.Test.YtlgelkbniogekaaGreatDoorBase
import Derived.Test.YtlgelkbniogekaaGreatDoorRefA
import Derived.Test.YtlgelkbniogekaaGreatDoorRefB
namespace Go.Proofs.YtlgelkbniogekaaGreatDoor
set_option linter.all false
open Go.ChangeShapes Go.WideShapes Go.RowKit
def tailP (s : Str) : Str := s.dropWhile fun c => !(c == 40)
/-- The text between the first ( and the first ) behind it. -/
def middleS (s : Str) : Str := if (41 : UInt8) ∈ tailP s then ((tailP s).takeWhile fun c => !(c == 41)).drop 1 else []
def fOf (s : Str) : Flt := (parseS (middleS s)).getD zeroF
def wordsAux : Str → Str → List Str
  | cur, [] => [cur]
  | cur, c :: r => if c = 32 then cur :: wordsAux [] r else wordsAux (cur ++ [c]) r
def lastN (s : Str) : Int := match rdNum ((wordsAux [] s).getD ((wordsAux [] s).length - 1) []) with
  | some n => n
  | none => if 1 < (wordsAux [] s).length then (rdNum ((wordsAux [] s).getD ((wordsAux [] s).length - 2) [])).getD 0 else 0
def candI (s : Str) (r : Rp) (k n : Nat) : Rp := ⟨r.on, r.who, r.f, r.d, if n = 0 then 0 else lastN s, if k < 3 then r.z else (k : Int) - 3, if k < 3 then (k : Int) else r.c⟩
theorem words_app : ∀ (l cur r : Str), wordsAux cur (l ++ 32 :: r) = wordsAux cur l ++ wordsAux [] r
  | [], cur, r => by simp [wordsAux]
  | c :: l, cur, r => by
    rw [List.cons_append, wordsAux, wordsAux]
    split
    · rw [words_app l [] r]; rfl
    · rw [words_app l _ r]
theorem words_plain : ∀ (l cur : Str), plainC l = true → wordsAux cur l = [cur ++ l]
  | [], cur, _ => by rw [wordsAux, List.append_nil]
  | c :: l, cur, h => by
    simp only [plainC, List.all_cons, Bool.and_eq_true, Bool.not_eq_true', Bool.or_eq_false_iff, beq_eq_false_iff_ne] at h
    obtain ⟨⟨h1, _⟩, hl⟩ := h
    have : ¬ c = 32 := fun e => h1 (by rw [e]; rfl)
    rw [wordsAux, if_neg this, words_plain l _ (by simpa [plainC] using hl)]; simp
theorem lastN_one (A w : Str) (n : Nat) (h : n ≤ 1000000) (hw : plainC w = true) : lastN (A ++ 32 :: (w ++ 32 :: Lib.itoa n)) = n := by
  have e : wordsAux [] (A ++ 32 :: (w ++ 32 :: Lib.itoa n)) = (wordsAux [] A ++ [w]) ++ [Lib.itoa n] := by
    rw [words_app, words_app, words_plain w _ hw, words_plain _ _ (itoa_plain n)]; simp
  unfold lastN
  rw [e]
  have e2 : ((wordsAux [] A ++ [w]) ++ [Lib.itoa (n : Int)]).getD (((wordsAux [] A ++ [w]) ++ [Lib.itoa (n : Int)]).length - 1) [] = Lib.itoa n := by simp [List.getD]
  rw [e2, rdNum_itoa n h]
theorem lastN_two (A w c : Str) (n : Nat) (h : n ≤ 1000000) (hw : plainC w = true) (hc : plainC c = true) (hn : rdNum c = none) : lastN (A ++ 32 :: (w ++ 32 :: (Lib.itoa n ++ 32 :: c))) = n := by
  have e : wordsAux [] (A ++ 32 :: (w ++ 32 :: (Lib.itoa n ++ 32 :: c))) = (wordsAux [] A ++ [w]) ++ [Lib.itoa n, c] := by
    rw [words_app, words_app, words_app, words_plain w _ hw, words_plain _ _ (itoa_plain n), words_plain c _ hc]; simp
  unfold lastN
  rw [e]
  have e2 : ((wordsAux [] A ++ [w]) ++ [Lib.itoa (n : Int), c]).getD (((wordsAux [] A ++ [w]) ++ [Lib.itoa (n : Int), c]).length - 1) [] = c := by simp [List.getD]
  have e3 : ((wordsAux [] A ++ [w]) ++ [Lib.itoa (n : Int), c]).getD (((wordsAux [] A ++ [w]) ++ [Lib.itoa (n : Int), c]).length - 2) [] = Lib.itoa n := by simp [List.getD]
  rw [e2, hn]
  simp only
  rw [if_pos (by simp), e3, rdNum_itoa n h]; rfl
theorem tail_skip : ∀ (l r : Str), plainC l = true → tailP (l ++ 32 :: 40 :: r) = 40 :: r
  | [], r, _ => by unfold tailP; simp
  | c :: l, r, h => by
    simp only [plainC, List.all_cons, Bool.and_eq_true, Bool.not_eq_true', Bool.or_eq_false_iff, beq_eq_false_iff_ne] at h
    obtain ⟨⟨_, h2, _⟩, hl⟩ := h
    have : (c == 40) = false := by rw [beq_eq_false_iff_ne]; exact fun e => h2 (by rw [e]; rfl)
    have ih := tail_skip l r (by simpa [plainC] using hl)
    unfold tailP at ih ⊢
    rw [List.cons_append, List.dropWhile_cons, this]; simpa using ih
theorem take_in : ∀ (m r : Str), noBr m = true → ((m ++ 41 :: r).takeWhile fun c => !(c == 41)) = m
  | [], r, _ => by simp
  | c :: m, r, h => by
    simp only [noBr, List.all_cons, Bool.and_eq_true, Bool.not_eq_true', Bool.or_eq_false_iff, beq_eq_false_iff_ne] at h
    obtain ⟨⟨_, h2, _⟩, hl⟩ := h
    have : (c == 41) = false := by rw [beq_eq_false_iff_ne]; exact fun e => h2 (by rw [e]; rfl)
    rw [List.cons_append, List.takeWhile_cons, this]
    simp only [Bool.not_false, if_true]
    rw [take_in m r (by simpa [noBr] using hl)]
theorem middle_text (l m r : Str) (hl : plainC l = true) (hm : noBr m = true) : middleS (l ++ 32 :: (40 :: (m ++ [41]) ++ r)) = m := by
  have e : (l ++ 32 :: (40 :: (m ++ [41]) ++ r) : Str) = l ++ 32 :: 40 :: (m ++ 41 :: r) := by simp
  unfold middleS
  rw [e, tail_skip _ _ hl, if_pos (by simp)]
  have e2 : ((40 :: (m ++ 41 :: r) : Str).takeWhile fun c => !(c == 41)) = 40 :: m := by rw [List.takeWhile_cons]; simp [take_in m r hm]
  rw [e2]; rfl
theorem fOf_text {r : Rp} (h : rpIs r = true) (hr : filtR r.on r.who = true) : fOf (rpText r) = r.f := by
  obtain ⟨hd, hw, hf, hz, h1, h2, ha⟩ := rp_facts h
  have ht : rpText r = aboutS r.on r.who r.d ++ 32 :: (40 :: (textOf r.f ++ [41]) ++ 32 :: actS r.d r.n r.z r.c) := by
    rw [show rpText r = rpBody r from if_pos h]; unfold rpBody whomS; rw [if_pos hr]
  unfold fOf
  rw [ht, middle_text _ _ _ (kind_about hd).2 (textOf_noBr _), parse_text hf]; rfl
theorem lastN_text {r : Rp} (h : rpIs r = true) (hn : r.n ≠ 0) : lastN (rpText r) = r.n := by
  obtain ⟨hd, hw, hf, hz, h1, h2, ha⟩ := rp_facts h
  rw [show rpText r = rpBody r from if_pos h]
  obtain ⟨on, who, f, d, n, z, c⟩ := r
  unfold rpBody
  simp only at *
  rw [← List.cons_append, ← List.append_assoc]
  generalize aboutS on who d ++ 32 :: whomS on who f = A
  unfold actOk at ha
  rcases ha with ⟨_, rfl, _⟩ | ⟨hd', hn', rfl, rfl⟩ | ⟨_, rfl, _⟩ | ⟨rfl, hn', rfl, hc⟩
  · exact absurd rfl hn
  · obtain ⟨m, rfl⟩ : ∃ m : Nat, n = (m : Int) := ⟨n.toNat, by omega⟩
    rcases hd' with rfl | rfl
    · exact lastN_one A reduceV m (by omega) (by decide)
    · exact lastN_one A addV m (by omega) (by decide)
  · exact absurd rfl hn
  · obtain ⟨m, rfl⟩ : ∃ m : Nat, n = (m : Int) := ⟨n.toNat, by omega⟩
    rcases hc with rfl | rfl | rfl
    · exact lastN_two A withV (cntText 0) m (by omega) (by decide) (by decide) (by kernel_rfl)
    · exact lastN_two A withV (cntText 1) m (by omega) (by decide) (by decide) (by kernel_rfl)
    · exact lastN_two A withV (cntText 2) m (by omega) (by decide) (by decide) (by kernel_rfl)
/-- A valid effect is among those that are tried. -/
theorem cand_of {t : Rp} (h : rpIs t = true) : (1 ≤ t.on ∧ t.on ≤ 17) ∧ (1 ≤ t.d ∧ t.d ≤ 8) ∧ (0 ≤ t.who ∧ t.who ≤ 2) ∧ ∃ f, (f = zeroF ∨ f = fOf (rpText t)) ∧ ∃ k n : Nat, k < 8 ∧ n < 2 ∧ candI (rpText t) ⟨t.on, t.who, f, t.d, 0, 0, 0⟩ k n = t := by
  obtain ⟨hd, hw, hf, hz, h1, h2, ha⟩ := rp_facts h
  have hN : t.n ≠ 0 → lastN (rpText t) = t.n := lastN_text h
  have hF : ∃ f, (f = zeroF ∨ f = fOf (rpText t)) ∧ f = t.f := by
    cases hr : filtR t.on t.who with
    | true => exact ⟨_, .inr rfl, fOf_text h hr⟩
    | false => exact ⟨_, .inl rfl, (h2 hr).symm⟩
  obtain ⟨f, hf1, hf2⟩ := hF
  subst hf2
  generalize rpText t = s at *
  obtain ⟨on, who, f, d, n, z, c⟩ := t
  simp only at *
  refine ⟨?_, ?_, by omega, f, hf1, ?_⟩
  · rcases does_cases hd with ⟨hx, _⟩ | ⟨hx, _⟩ | ⟨hx, _⟩ | ⟨hx, _⟩ <;> omega
  · rcases does_cases hd with ⟨_, hx⟩ | ⟨_, hx⟩ | ⟨_, hx⟩ | ⟨_, hx⟩ <;> omega
  · unfold actOk at ha
    have hnn : (if (if n = 0 then 0 else 1 : Nat) = 0 then 0 else lastN s) = n := by
      by_cases h0 : n = 0
      · simp [h0]
      · simp [h0, hN h0]
    rcases (by omega : (z = 0 ∧ (c = 0 ∨ c = 1 ∨ c = 2)) ∨ (c = 0 ∧ (z = 1 ∨ z = 2 ∨ z = 4))) with ⟨rfl, hc⟩ | ⟨rfl, hz⟩
    · refine ⟨c.toNat, if n = 0 then 0 else 1, by omega, by split <;> omega, ?_⟩
      unfold candI
      rw [hnn, if_pos (by omega), if_pos (by omega)]
      simp; omega
    · refine ⟨(z + 3).toNat, if n = 0 then 0 else 1, by omega, by split <;> omega, ?_⟩
      unfold candI
      rw [hnn, if_neg (by omega), if_neg (by omega)]
      simp; omega
theorem rpParse_hit {s : Str} {x : Rp} (h1 : rpIs x = true) (h2 : rpText x = s) : rpParse s = some x := by rw [← h2, rpParse_text h1]
theorem rpParse_miss {s : Str} (h : ∀ on d who : Int, 1 ≤ on → on ≤ 17 → 1 ≤ d → d ≤ 8 → 0 ≤ who → who ≤ 2 → ∀ f, (f = zeroF ∨ f = fOf s) → ∀ k n : Nat, k < 8 → n < 2 → ¬ (rpIs (candI s ⟨on, who, f, d, 0, 0, 0⟩ k n) = true ∧ rpText (candI s ⟨on, who, f, d, 0, 0, 0⟩ k n) = s)) : rpParse s = none := by
  cases hp : rpParse s with
  | none => rfl
  | some t =>
    obtain ⟨a, b⟩ := rpParse_back hp
    obtain ⟨⟨o1, o2⟩, ⟨d1, d2⟩, ⟨w1, w2⟩, f, hf, k, n, hk, hn, hc⟩ := cand_of a
    rw [b] at hf hc
    exact absurd (by rw [hc]; exact ⟨a, b⟩) (h t.on t.d t.who o1 o2 d1 d2 w1 w2 f hf k n hk hn)
end Go.Proofs.YtlgelkbniogekaaGreatDoor
namespace Go.Proofs.YtlgelkbniogekaaGreatDoor
set_option linter.all false
open Go.ChangeShapes Go.WideShapes Go.RowKit
/-- The first place from k on where the byte c stands; the text's end, if nowhere. -/
def fstI (c : UInt8) (l : Str) (k : Nat) : Nat := k + ((l.drop k).takeWhile fun x => !(x == c)).length
theorem fstI_end (c : UInt8) (l : Str) {k : Nat} (h : l.length ≤ k) : fstI c l k = k := by unfold fstI; rw [List.drop_eq_nil_of_le h]; simp
theorem fstI_hit (c : UInt8) (l : Str) {k : Nat} (h : k < l.length) (e : l[k] = c) : fstI c l k = k := by
  unfold fstI; rw [List.drop_eq_getElem_cons h, List.takeWhile_cons]; simp [e]
theorem fstI_next (c : UInt8) (l : Str) {k : Nat} (h : k < l.length) (e : l[k] ≠ c) : fstI c l k = fstI c l (k + 1) := by
  have : (l[k] == c) = false := by simpa using e
  unfold fstI; rw [List.drop_eq_getElem_cons h, List.takeWhile_cons, this]; simp; omega
theorem fstI_le (c : UInt8) (l : Str) (k : Nat) (h : k ≤ l.length) : k ≤ fstI c l k ∧ fstI c l k ≤ l.length := by
  unfold fstI
  have := (List.takeWhile_sublist (fun x => !(x == c)) (l := l.drop k)).length_le
  simp at this; omega
theorem takeW_take (c : UInt8) : ∀ (l : Str), (l.takeWhile fun x => !(x == c)) = l.take (l.takeWhile fun x => !(x == c)).length
  | [] => rfl
  | a :: l => by
    rw [List.takeWhile_cons]
    split
    · simp; exact takeW_take c l
    · rfl
theorem dropW_drop (c : UInt8) : ∀ (l : Str), (l.dropWhile fun x => !(x == c)) = l.drop (l.takeWhile fun x => !(x == c)).length
  | [] => rfl
  | a :: l => by
    rw [List.takeWhile_cons, List.dropWhile_cons]
    split
    · simp; exact dropW_drop c l
    · rfl
theorem mem_takeW (c : UInt8) : ∀ (l : Str), c ∈ l ↔ (l.takeWhile fun x => !(x == c)).length < l.length
  | [] => by simp
  | a :: l => by
    rw [List.takeWhile_cons]
    by_cases h : a = c
    · subst h; simp
    · have h1 : (a == c) = false := by simpa using h
      have h2 : ¬ c = a := fun e => h e.symm
      simp [h1, h2, mem_takeW c l]
theorem middle_eq (l : Str) : middleS l = if l.length ≤ fstI 41 l (fstI 40 l 0) then [] else (l.take (fstI 41 l (fstI 40 l 0))).drop (fstI 40 l 0 + 1) := by
  have hA : tailP l = l.drop (fstI 40 l 0) := by unfold tailP fstI; rw [dropW_drop]; simp
  have hle := (fstI_le 40 l 0 (by omega)).2
  unfold middleS
  rw [hA]
  have hm := mem_takeW 41 (l.drop (fstI 40 l 0))
  have hB : fstI 41 l (fstI 40 l 0) = fstI 40 l 0 + ((l.drop (fstI 40 l 0)).takeWhile fun x => !(x == 41)).length := rfl
  generalize fstI 40 l 0 = A at *
  by_cases h : (41 : UInt8) ∈ l.drop A
  · rw [if_pos h]
    have h1 := hm.1 h
    simp at h1
    rw [if_neg (by rw [hB]; omega), takeW_take 41 (l.drop A), hB]
    generalize ((l.drop A).takeWhile fun x => !(x == 41)).length = n
    rw [List.take_drop, List.drop_drop]
  · rw [if_neg h]
    have h1 : ¬ ((l.drop A).takeWhile fun x => !(x == 41)).length < (l.drop A).length := fun x => h (hm.2 x)
    simp at h1
    rw [if_pos (by rw [hB]; omega)]
theorem byt_get {l : Str} {k : Nat} (h : k < l.length) (c : UInt8) : (byt l k = c.toNat) ↔ l[k] = c := by
  simp [byt, List.getD, h, UInt8.toNat_inj]
set_option maxRecDepth 100000 in
set_option maxHeartbeats 1000000 in
theorem i19Middle_any (s : ByteArray) (hs : s.size < 100000000) (w : World) : Calls Tryz.prog 39 #[.string s] w fun e w' => e = .returned (.string (B (middleS (L s)))) ∧ w = w' := by
  have hg := get_l s
  have hsl := size_l s
  have hle := fstI_le 40 (L s) 0 (by omega)
  have hle2 := fstI_le 41 (L s) (fstI 40 (L s) 0) hle.2
  have HM := Lib.hid (middle_eq (L s))
  obtain ⟨A, hA⟩ : ∃ A, fstI 40 (L s) 0 = A := ⟨_, rfl⟩
  rw [hA] at hle hle2 HM
  obtain ⟨Z, hZ⟩ : ∃ Z, fstI 41 (L s) A = Z := ⟨_, rfl⟩
  rw [hZ] at hle2 HM
  have HA := Lib.hid hA
  have HZ := Lib.hid hZ
  have HL := Lib.hid hsl
  rw [hsl] at hle hle2
  obtain ⟨_, hA2⟩ := hle
  obtain ⟨hz1, hz2⟩ := hle2
  clear hA hZ hsl
  go_enter Tryz.func39, Tryz.ntmps39
  go_wp2
  go_loop [3] (fun i => ∃ k : Nat, k ≤ A ∧ i = .int .i64 k ∧ Hid (fstI 40 (L s) k = A)) (fun i => s.size - (intOf i).toNat)
  case atStart => exact ⟨0, by omega, rfl, HA⟩
  case round =>
    obtain ⟨k, hk, rfl, HD⟩ := hrel
    by_cases hlt : k < s.size
    · have hlt' : k < (L s).length := by rw [HL.out]; exact hlt
      by_cases he : (L s)[k] = 40
      · have t1 := eqn (byt (L s) k) 40 (by have := (byt_get hlt' 40).2 he; simp at this; omega)
        have t2 : (((byt (L s) k : Nat) : Int) != 40) = false := by simp [bne, t1]
        have hkA : Hid (k = A) := Lib.hid (by rw [← HD.out, fstI_hit 40 _ hlt' he])
        have H40 : Hid (∀ h : k < (L s).length, (L s)[k] = 40) := Lib.hid (fun _ => he)
        clear he
        clear HD
        go_wp2
        go_loop [4] (fun i => ∃ j : Nat, k ≤ j ∧ j ≤ Z ∧ i = .int .i64 j ∧ Hid (fstI 41 (L s) j = Z)) (fun i => s.size - (intOf i).toNat)
        case atStart => exact ⟨k, by omega, by have := hkA.out; omega, rfl, Lib.hid (by rw [hkA.out]; exact HZ.out)⟩
        case round =>
          obtain ⟨j, hkj, hj, rfl, HJ⟩ := hrel
          by_cases hlt2 : j < s.size
          · have hlt2' : j < (L s).length := by rw [HL.out]; exact hlt2
            by_cases he2 : (L s)[j] = 41
            · have t3 := eqn (byt (L s) j) 41 (by have := (byt_get hlt2' 41).2 he2; simp at this; omega)
              have t4 : (((byt (L s) j : Nat) : Int) != 41) = false := by simp [bne, t3]
              have hjZ : j = Z := by rw [← HJ.out, fstI_hit 41 _ hlt2' he2]
              have hkj1 : k + 1 ≤ j := by
                rcases Nat.lt_or_ge k j with h | h
                · exact h
                · have e : k = j := by omega
                  subst e
                  have := H40.out hlt2'
                  rw [he2] at this
                  exact absurd this (by decide)
              have HX : Hid (s.extract (k + 1) j = B (middleS (L s))) := Lib.hid (by
                rw [HM.out, if_neg (by rw [HL.out]; omega), ← hkA.out, ← hjZ]
                exact L_inj (by rw [L_extract, L_B]))
              clear he2 HJ hjZ
              go_wp2
              go_ret
              exact ⟨ret_str HX.out, rfl⟩
            · have hb2 : byt (L s) j ≠ 41 := fun e => he2 ((byt_get hlt2' 41).1 (by rw [e]; rfl))
              have t3 := nen (byt (L s) j) 41 (by omega)
              have t4 : (((byt (L s) j : Nat) : Int) != 41) = true := by simp [bne, t3]
              have HN : Hid (fstI 41 (L s) (j + 1) = Z) := Lib.hid (by rw [← HJ.out, fstI_next 41 _ hlt2' he2])
              have hjZ : j + 1 ≤ Z := by rw [← HN.out]; exact (fstI_le 41 (L s) (j + 1) (by omega)).1
              clear he2 HJ hb2
              go_wp2
              go_round
              case rel => exact ⟨j + 1, by omega, by omega, by go_num, HN⟩
              case measure => simp [intOf]; omega
          · have HX : Hid (middleS (L s) = []) := Lib.hid (by rw [HM.out, if_pos (by rw [HL.out]; omega)])
            clear HJ
            go_wp2
            go_ret
            exact ⟨ret_str (by rw [HX.out]; rfl), rfl⟩
      · have hb : byt (L s) k ≠ 40 := fun e => he ((byt_get hlt' 40).1 (by rw [e]; rfl))
        have t1 := nen (byt (L s) k) 40 (by omega)
        have t2 : (((byt (L s) k : Nat) : Int) != 40) = true := by simp [bne, t1]
        have HN : Hid (fstI 40 (L s) (k + 1) = A) := Lib.hid (by rw [← HD.out, fstI_next 40 _ hlt' he])
        have hkA : k + 1 ≤ A := by rw [← HN.out]; exact (fstI_le 40 (L s) (k + 1) (by omega)).1
        clear he HD hb
        go_wp2
        go_round
        case rel => exact ⟨k + 1, by omega, by go_num, HN⟩
        case measure => simp [intOf]; omega
    · have hkA : Hid (k = A) := Lib.hid (by omega)
      have H40 : Hid (∀ h : k < (L s).length, (L s)[k] = 40) := Lib.hid (fun h => absurd h (by rw [HL.out]; exact hlt))
      clear HD
      go_wp2
      go_loop [4] (fun i => ∃ j : Nat, k ≤ j ∧ j ≤ Z ∧ i = .int .i64 j ∧ Hid (fstI 41 (L s) j = Z)) (fun i => s.size - (intOf i).toNat)
      case atStart => exact ⟨k, by omega, by have := hkA.out; omega, rfl, Lib.hid (by rw [hkA.out]; exact HZ.out)⟩
      case round =>
        obtain ⟨j, hkj, hj, rfl, HJ⟩ := hrel
        have hlt2 : ¬ j < s.size := by omega
        have HX : Hid (middleS (L s) = []) := Lib.hid (by rw [HM.out, if_pos (by rw [HL.out]; omega)])
        clear HJ
        go_wp2
        go_ret
        exact ⟨ret_str (by rw [HX.out]; rfl), rfl⟩
end Go.Proofs.YtlgelkbniogekaaGreatDoor
namespace Go.Proofs.YtlgelkbniogekaaGreatDoor
set_option linter.all false
open Go.ChangeShapes Go.WideShapes Go.RowKit
theorem words_mem : ∀ (s cur : Str), ∀ x ∈ wordsAux cur s, x.length ≤ cur.length + s.length
  | [], cur, x, h => by rw [wordsAux] at h; simp at h; subst h; simp
  | c :: r, cur, x, h => by
    rw [wordsAux] at h
    split at h
    · rcases List.mem_cons.1 h with rfl | h
      · simp
      · have := words_mem r [] x h; simp at this ⊢; omega
    · have := words_mem r _ x h; simp at this ⊢; omega
theorem words_pos : ∀ (s cur : Str), 0 < (wordsAux cur s).length
  | [], cur => by simp [wordsAux]
  | c :: r, cur => by
    rw [wordsAux]
    split
    · simp
    · exact words_pos r _
/-- What is still to come of the words: l so far, the word cur begun, the bytes from k on. -/
def restW (s : Str) (l : List Str) (cur : Str) (k : Nat) : List Str := if k ≤ s.length then l ++ wordsAux cur (s.drop k) else l
theorem rest_blank {s : Str} {l : List Str} {cur : Str} {k : Nat} (h : k < s.length) (e : s[k] = 32) : restW s l cur k = restW s (l ++ [cur]) [] (k + 1) := by
  unfold restW
  rw [if_pos (by omega), if_pos (by omega), List.drop_eq_getElem_cons h, wordsAux, if_pos e]; simp
theorem rest_more {s : Str} {l : List Str} {cur : Str} {k : Nat} (h : k < s.length) (e : s[k] ≠ 32) : restW s l cur k = restW s l (cur ++ [s[k]]) (k + 1) := by
  unfold restW
  rw [if_pos (by omega), if_pos (by omega), List.drop_eq_getElem_cons h, wordsAux, if_neg e]
theorem rest_end {s : Str} {l : List Str} {cur : Str} : restW s l cur s.length = restW s (l ++ [cur]) [] (s.length + 1) := by
  unfold restW
  rw [if_pos (by omega), if_neg (by omega)]; simp [wordsAux]
theorem rNum19_is (s : ByteArray) (n : Int) (b : Bool) (h : Hid (numRet (rdNum (L s)) = .tuple #[.int .i64 n, .bool b])) (hs : s.size < 100000000) (w : World) : Calls Tryz.prog 114 #[.string s] w fun e w' => e = .returned (.tuple #[.int .i64 n, .bool b]) ∧ Below w.heap.size w w' :=
  (rNumber_any s w hs).mono fun e w' h' => ⟨by rw [h'.1, h.out], h'.2⟩
theorem num_form19 (o : Option Int) : ∃ n b, numRet o = .tuple #[.int .i64 n, .bool b] ∧ o.getD 0 = n ∧ (b = true → o = some n) ∧ (b = false → o = none) := by
  cases o with
  | none => exact ⟨0, false, rfl, rfl, (fun h => by cases h), fun _ => rfl⟩
  | some n => exact ⟨n, true, rfl, rfl, fun _ => rfl, (fun h => by cases h)⟩
theorem lastN_hit {s : Str} {R : List Str} {m : Nat} {n : Int} (hR : wordsAux [] s = R) (hm : R.length = m + 1) (h : rdNum (R.getD m []) = some n) : lastN s = n := by
  unfold lastN; rw [hR, hm, Nat.add_sub_cancel, h]
theorem lastN_none {s : Str} {R : List Str} (hR : wordsAux [] s = R) (hm : R.length = 0 + 1) (h : rdNum (R.getD 0 []) = none) : lastN s = 0 := by
  unfold lastN; rw [hR, hm, Nat.add_sub_cancel, h]; rfl
theorem lastN_more {s : Str} {R : List Str} {p : Nat} {n : Int} (hR : wordsAux [] s = R) (hm : R.length = p + 1 + 1) (h : rdNum (R.getD (p + 1) []) = none) (h2 : (rdNum (R.getD p [])).getD 0 = n) : lastN s = n := by
  unfold lastN; rw [hR, hm, Nat.add_sub_cancel, h]
  show (if 1 < p + 1 + 1 then (rdNum (R.getD (p + 1 + 1 - 2) [])).getD 0 else 0) = n
  rw [if_pos (by omega), show p + 1 + 1 - 2 = p by omega, h2]
set_option maxRecDepth 100000 in
set_option maxHeartbeats 1000000 in
theorem i19Last_any (s : ByteArray) (hs : s.size < 10000000) (w : World) : Calls Tryz.prog 79 #[.string s] w fun e w' => e = .returned (.int .i64 (lastN (L s))) ∧ Below w.heap.size w w' := by
  have hg := get_l s
  have HL := Lib.hid (size_l s)
  obtain ⟨R, hR⟩ : ∃ R, wordsAux [] (L s) = R := ⟨_, rfl⟩
  have hpos : 0 < R.length := by rw [← hR]; exact words_pos _ _
  have hmem : ∀ x ∈ R, x.length < 100000000 := fun x hx => by have := words_mem (L s) [] x (by rw [hR]; exact hx); rw [size_l] at this; simp at this; omega
  have HMEM := Lib.hid hmem
  have HR := Lib.hid hR
  obtain ⟨N, hN⟩ : ∃ N, lastN (L s) = N := ⟨_, rfl⟩
  rw [hN]
  have HN := Lib.hid hN
  clear hR hN hmem
  go_enter Tryz.func79, Tryz.ntmps79
  go_wp2
  go_loopw [3, 4, 5] (fun v c i wr => ∃ k : Nat, ∃ l : List Str, ∃ cur : Str, k ≤ s.size + 1 ∧ l.length ≤ k ∧ cur.length ≤ k ∧ i = .int .i64 k ∧ c = .string (B cur) ∧ Hid (restW (L s) l cur k = R) ∧ Texts wr w.heap.size l v ∧ Below w.heap.size w wr) (fun _ _ i _ => s.size + 1 - (intOf i).toNat)
  case atStart => exact ⟨0, [], [], by omega, by simp, by simp, rfl, rfl, Lib.hid (by unfold restW; rw [if_pos (by omega)]; exact HR.out), Texts.nil _ _, Below.refl _ _⟩
  case round =>
    obtain ⟨k, l, cur, hk, hll, hcl, rfl, rfl, HD, hown, hb⟩ := hrel
    have hsz := hb.size
    have hln : l.length < 1000000000 := by omega
    by_cases hle : k ≤ s.size
    · by_cases hlt : k < s.size
      · have hlt' : k < (L s).length := by rw [HL.out]; exact hlt
        by_cases he : (L s)[k] = 32
        · have t1 := eqn (byt (L s) k) 32 (by have := (byt_get hlt' 32).2 he; simp at this; omega)
          have t2 : (((byt (L s) k : Nat) : Int) != 32) = false := by simp [bne, t1]
          have HN2 : Hid (restW (L s) (l ++ [cur]) [] (k + 1) = R) := Lib.hid (by rw [← HD.out, rest_blank hlt' he])
          clear he HD
          go_wp2_with (at_builtin; refine wpList_text_push rfl (.tmp 32) (.tmp 34) 43 rfl Tryz.underlying43 info_str rfl rfl hown hln hsz ?_; intro v' w2 hown2 hb2)
          rw [L_B] at hown2
          go_roundw
          case rel => exact ⟨k + 1, l ++ [cur], [], by omega, by simp; omega, by simp, by go_num, rfl, HN2, hown2, hb.trans hb2⟩
          case measure => simp [intOf]; omega
        · have hb0 : byt (L s) k ≠ 32 := fun e => he ((byt_get hlt' 32).1 (by rw [e]; rfl))
          have t1 := nen (byt (L s) k) 32 (by omega)
          have t2 : (((byt (L s) k : Nat) : Int) != 32) = true := by simp [bne, t1]
          have HN2 : Hid (restW (L s) l (cur ++ [(L s)[k]]) (k + 1) = R) := Lib.hid (by rw [← HD.out, rest_more hlt' he])
          have hx : Hid (B cur ++ s.extract k (k + 1) = B (cur ++ [(L s)[k]])) := Lib.hid (L_inj (by
            rw [L_append, L_B, L_B, L_extract, List.take_succ_eq_append_getElem hlt', List.drop_append_of_le_length (by simp; omega)]
            simp))
          have hc1 : cur.length + 1 ≤ 9223372036854775807 := by omega
          clear he HD hb0
          go_wp2
          go_roundw
          case rel => exact ⟨k + 1, l, cur ++ [(L s)[k]], by omega, by omega, by simp; omega, by go_num, by rw [hx.out], HN2, hown, hb⟩
          case measure => simp [intOf]; omega
      · have hks : k = (L s).length := by rw [HL.out]; omega
        have HN2 : Hid (restW (L s) (l ++ [cur]) [] (k + 1) = R) := Lib.hid (by rw [← HD.out, hks]; exact rest_end.symm)
        clear HD hks
        go_wp2_with (at_builtin; refine wpList_text_push rfl (.tmp 32) (.tmp 34) 43 rfl Tryz.underlying43 info_str rfl rfl hown hln hsz ?_; intro v' w2 hown2 hb2)
        rw [L_B] at hown2
        go_roundw
        case rel => exact ⟨k + 1, l ++ [cur], [], by omega, by simp; omega, by simp, by go_num, rfl, HN2, hown2, hb.trans hb2⟩
        case measure => simp [intOf]; omega
    · obtain rfl : l = R := by rw [← HD.out]; unfold restW; rw [if_neg (by rw [HL.out]; exact hle)]
      clear HD
      obtain ⟨m, hm⟩ : ∃ m, l.length = m + 1 := ⟨l.length - 1, by omega⟩
      have hmb : m ≤ 10000001 := by omega
      obtain ⟨A, cc, rfl, hcc⟩ := hown.form
      obtain ⟨g, rfl, hgb, hcell⟩ := hown.at_ (k := m) (by omega)
      have hx1 : l.getD m [] = l[m] := by simp [List.getD, show m < l.length by omega]
      obtain ⟨n1, b1, e1, e2, e3, e4⟩ := num_form19 (rdNum l[m])
      have hm1 := HMEM.out l[m] (List.getElem_mem _)
      have HB1 : Hid (numRet (rdNum (L (B l[m]))) = .tuple #[.int .i64 n1, .bool b1]) := Lib.hid (by rw [L_B]; exact e1)
      rw [hm]
      cases b1 with
      | true =>
        have HV : Hid (N = n1) := Lib.hid (by rw [← HN.out]; exact lastN_hit HR.out hm (by rw [hx1]; exact e3 rfl))
        have HM0 := Lib.hid hm
        generalize l[m] = x at *
        clear e1 e2 e3 e4 hx1 hm hown
        go_wp2_with (go_at_call 114; (with_reducible refine (rNum19_is (B x) n1 true HB1 (by rw [B_size]; exact hm1) _).mono ?_); rintro e w3 ⟨rfl, hb3⟩)
        go_ret
        exact ⟨ret_int HV.out.symm, below_two hb hb3⟩
      | false =>
        by_cases h0 : m = 0
        · subst h0
          have HV : Hid (N = 0) := Lib.hid (by rw [← HN.out]; exact lastN_none HR.out hm (by rw [hx1]; exact e4 rfl))
          have HM0 := Lib.hid hm
          generalize l[0] = x at *
          clear e1 e2 e3 e4 hx1 hm hown
          go_wp2_with (go_at_call 114; (with_reducible refine (rNum19_is (B x) n1 false HB1 (by rw [B_size]; exact hm1) _).mono ?_); rintro e w3 ⟨rfl, hb3⟩)
          go_ret
          exact ⟨ret_int HV.out.symm, below_two hb hb3⟩
        · obtain ⟨p, rfl⟩ : ∃ p, m = p + 1 := ⟨m - 1, by omega⟩
          obtain ⟨g', hg', hgb', hcell'⟩ := hown.at_ (k := p) (by omega)
          obtain rfl : g = g' := by injection hg' with h; injection h
          have hx2 : l.getD p [] = l[p] := by simp [List.getD, show p < l.length by omega]
          obtain ⟨n2, b2, f1, f2, f3, f4⟩ := num_form19 (rdNum l[p])
          have hm2 := HMEM.out l[p] (List.getElem_mem _)
          have HB2 : Hid (numRet (rdNum (L (B l[p]))) = .tuple #[.int .i64 n2, .bool b2]) := Lib.hid (by rw [L_B]; exact f1)
          have HV : Hid (N = n2) := Lib.hid (by rw [← HN.out]; exact lastN_more HR.out hm (by rw [hx1]; exact e4 rfl) (by rw [hx2]; exact f2))
          have HV0 : b2 = false → n2 = 0 := fun h => by rw [← f2, f4 h]; rfl
          have HM0 := Lib.hid hm
          have HV1 := Lib.hid HV0
          generalize l[p + 1] = x at *
          generalize l[p] = y at *
          clear e1 e2 e3 e4 f1 f2 f3 f4 hx1 hx2 hm hown HV0 hg'
          cases b2 with
          | true =>
            go_wp2_with (first | (go_at_call 114; (with_reducible refine (rNum19_is (B x) n1 false HB1 (by rw [B_size]; exact hm1) _).mono ?_); rintro e w3 ⟨rfl, hb3⟩; have hcell2 := cell_below hb3 hcell') | (go_at_call 114; (with_reducible refine (rNum19_is (B y) n2 true HB2 (by rw [B_size]; exact hm2) _).mono ?_); rintro e w4 ⟨rfl, hb4⟩))
            go_ret
            exact ⟨ret_int HV.out.symm, below_two (below_two hb hb3) hb4⟩
          | false =>
            have hz : Hid (n2 = 0) := Lib.hid (HV1.out rfl)
            go_wp2_with (first | (go_at_call 114; (with_reducible refine (rNum19_is (B x) n1 false HB1 (by rw [B_size]; exact hm1) _).mono ?_); rintro e w3 ⟨rfl, hb3⟩; have hcell2 := cell_below hb3 hcell') | (go_at_call 114; (with_reducible refine (rNum19_is (B y) n2 false HB2 (by rw [B_size]; exact hm2) _).mono ?_); rintro e w4 ⟨rfl, hb4⟩))
            go_ret
            exact ⟨ret_int (by rw [HV.out, hz.out]), below_two (below_two hb hb3) hb4⟩
end Go.Proofs.YtlgelkbniogekaaGreatDoor
