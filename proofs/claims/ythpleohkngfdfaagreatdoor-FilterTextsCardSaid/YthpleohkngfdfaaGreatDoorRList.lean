/- Walks of the reference: package cardgameref02: Split, Join. Conditions: bounds on lengths. -/
import Derived.Test.YthpleohkngfdfaaGreatDoorRSplit
import Derived.Test.YthpleohkngfdfaaGreatDoorLib
namespace Go.Proofs.YthpleohkngfdfaaGreatDoor
set_option linter.all false
open Go.ChangeShapes Go.WideShapes Go.RowKit
theorem L_extract (s : ByteArray) (a b : Nat) : L (s.extract a b) = ((L s).take b).drop a := by
  unfold L; rw [ByteArray.data_extract, Array.toList_extract, List.extract_eq_drop_take']
theorem depth_is (s : ByteArray) (m : Nat) (w : World) (hm : m ≤ s.size) (hs : s.size < 1000000000) (d : Nat) (hd : Hid (depS ((L s).take m) = d)) :
    Calls Tryz.prog 67 #[.string s, .int .i64 m] w fun e w' => e = .returned (.int .i64 (d : Nat)) ∧ w = w' :=
  (depth_any s m w hm hs).mono fun _ _ h => ⟨by rw [h.1, hd.out], h.2⟩
theorem dst_le (c : UInt8) (s : Str) : ∀ i, (dst c s i).2 ≤ i ∧ (dst c s i).1.length ≤ i
  | 0 => by simp [dst]
  | i + 1 => by
    obtain ⟨h1, h2⟩ := dst_le c s i
    rw [dst]; split
    · simp; omega
    · omega
theorem byt_castR (c : UInt8) (n : Nat) : (((n : Nat) : Int) == ((c.toNat : Nat) : Int)) = (n == c.toNat) := by
  rw [Bool.eq_iff_iff]; simp; omega
set_option maxRecDepth 100000 in
theorem rSplit_any (s : ByteArray) (c : UInt8) (w : World) (hs : s.size < 100000000) (hc : c.toNat ≠ 40 ∧ c.toNat ≠ 41 ∧ c.toNat ≠ 91 ∧ c.toNat ≠ 93) :
    Calls Tryz.prog 40 #[.string s, .int .u8 c.toNat] w (RetTexts w (dsplit c (L s))) := by
  have hg := get_l s
  obtain ⟨h1, h2, h3, h4⟩ := hc
  have u1 := nen c.toNat 40 (by omega); have u2 := nen c.toNat 41 (by omega); have u3 := nen c.toNat 91 (by omega); have u4 := nen c.toNat 93 (by omega)
  have HL := Lib.hid (size_l s)
  obtain ⟨R, hR⟩ : ∃ R, dsplit c (L s) = R := ⟨_, rfl⟩
  rw [hR]
  have HR := Lib.hid hR; clear hR h1 h2 h3 h4
  go_enter Tryz.func40, Tryz.ntmps40
  go_wp2
  go_loopw [5, 6, 7] (fun v f i wr => ∃ k : Nat, ∃ q : Nat, ∃ l : List Str, k ≤ s.size ∧ q ≤ k ∧ l.length ≤ k ∧ i = .int .i64 k ∧ f = .int .i64 q ∧ Hid (dst c (L s) k = (l, q)) ∧ Texts wr w.heap.size l v ∧ Below w.heap.size w wr) (fun _ _ i _ => s.size - (intOf i).toNat)
  case atStart => exact ⟨0, 0, [], by omega, by omega, by simp, rfl, rfl, rfl, Texts.nil _ _, Below.refl _ _⟩
  case round =>
    obtain ⟨k, q, l, hk, hq, hl, rfl, rfl, HD, hown, hb⟩ := hrel
    have hsz := hb.size
    by_cases hlt : k < s.size
    · have hst : dst c (L s) (k + 1) = if (L s).getD k 0 == c && depS ((L s).take k) == 0 then (l ++ [((L s).take k).drop q], k + 1) else (l, q) := by rw [dst, HD.out]
      obtain ⟨d, hd⟩ : ∃ d, depS ((L s).take k) = d := ⟨_, rfl⟩
      rw [hd] at hst
      have Hd := Lib.hid hd; clear hd
      have hcb : ((L s).getD k 0 == c) = (byt (L s) k == c.toNat) := by
        rw [Bool.eq_iff_iff, beq_iff_eq, beq_iff_eq]; exact ⟨fun h => by unfold byt; rw [h], fun h => UInt8.toNat_inj.1 h⟩
      rw [hcb] at hst; clear hcb
      have htc := byt_castR c (byt (L s) k)
      cases hcc : (byt (L s) k == c.toNat)
      · rw [hcc] at hst htc
        have HN : Hid (dst c (L s) (k + 1) = (l, q)) := Lib.hid (by rw [hst]; rfl)
        clear hst hcc
        go_wp2
        go_roundw
        case rel => exact ⟨k + 1, q, l, by omega, by omega, by omega, by go_num, rfl, HN, hown, hb⟩
        case measure => simp [intOf]; omega
      · rw [hcc] at hst htc
        by_cases h0 : d = 0
        · have HN : Hid (dst c (L s) (k + 1) = (l ++ [((L s).take k).drop q], k + 1)) := Lib.hid (by rw [hst, h0]; rfl)
          have t0 := eqn d 0 (by omega)
          have hex := Lib.hid (L_extract s q k)
          have hln : l.length < 1000000000 := by omega
          clear hst hcc h0
          go_wp2_with (first | (go_at_call 67; (with_reducible refine (depth_is s k _ (by omega) (by omega) d Hd).mono ?_); rintro e w2 ⟨rfl, rfl⟩) | (at_builtin; refine wpList_text_push rfl (.tmp 41) (.tmp 46) 37 rfl Tryz.underlying37 info_str rfl rfl hown hln hsz ?_; intro v' w2 hown2 hb2))
          rw [hex.out] at hown2
          have hb3 := hb.trans hb2
          go_roundw
          case rel => exact ⟨k + 1, k + 1, _, by omega, by omega, by simp; omega, by go_num, by go_num, HN, hown2, hb3⟩
          case measure => simp [intOf]; omega
        · have HN : Hid (dst c (L s) (k + 1) = (l, q)) := Lib.hid (by rw [hst, Bool.true_and, if_neg (by simpa using h0)])
          have t0 := nen d 0 (by omega)
          clear hst hcc h0
          go_wp2_with (go_at_call 67; (with_reducible refine (depth_is s k _ (by omega) (by omega) d Hd).mono ?_); rintro e w2 ⟨rfl, rfl⟩)
          go_roundw
          case rel => exact ⟨k + 1, q, l, by omega, by omega, by omega, by go_num, rfl, HN, hown, hb⟩
          case measure => simp [intOf]; omega
    · obtain rfl : k = s.size := by omega
      have hex : Hid (L (s.extract q s.size) = (L s).drop q) := Lib.hid (by rw [L_extract, List.take_of_length_le (by rw [size_l]; exact Nat.le_refl _)])
      have HE : Hid (l ++ [(L s).drop q] = R) := Lib.hid (by rw [← HR.out, dsplit, HL.out, HD.out])
      have hln : l.length < 1000000000 := by omega
      go_wp2_with (at_builtin; refine wpList_text_push rfl (.tmp 50) (.tmp 54) 37 rfl Tryz.underlying37 info_str rfl rfl hown hln hsz ?_; intro v' w2 hown2 hb2)
      rw [hex.out, HE.out] at hown2
      go_ret
      obtain ⟨A, cc, rfl, _⟩ := hown2.form
      exact ⟨A, cc, rfl, hown2, hb.trans hb2⟩
theorem join_snoc (sep x : Str) : ∀ (l : List Str), Lib.join (l ++ [x]) sep = if l = [] then x else Lib.join l sep ++ sep ++ x
  | [] => by simp [Lib.join_one]
  | [a] => by simp [join_cons2, Lib.join_one]
  | a :: b :: r => by
    have ih := join_snoc sep x (b :: r)
    rw [if_neg (by simp)] at ih
    rw [if_neg (by simp), List.cons_append, List.cons_append, join_cons2, join_cons2, ← List.cons_append, ih]; simp
theorem join_take_le (sep : Str) : ∀ (l : List Str) (k : Nat), (Lib.join (l.take k) sep).length ≤ (Lib.join l sep).length
  | [], k => by simp
  | [a], k => by
    cases k with
    | zero => simp [Lib.join_nil]
    | succ k => simp
  | a :: b :: r, k => by
    cases k with
    | zero => simp [Lib.join_nil]
    | succ k =>
      cases k with
      | zero => simp only [List.take_succ_cons, List.take_zero]; rw [Lib.join_one, join_cons2]; simp
      | succ k =>
        have ih := join_take_le sep (b :: r) (k + 1)
        simp only [List.take_succ_cons] at ih ⊢
        rw [join_cons2, join_cons2]; simp only [List.length_append]; omega
set_option maxRecDepth 100000 in
theorem rJoin_any (l : List Str) (A : Option Addr) (c base : Nat) (sep : ByteArray) (w : World) (h : Texts w base l (.slice A l.length c)) (sl : Str) (hsl : L sep = sl) (hlen : (Lib.join l sl).length ≤ 140737488355328) (hN : l.length ≤ 100000000) :
    Calls Tryz.prog 37 #[.slice A l.length c, .string sep] w fun e w' => e = .returned (.string (B (Lib.join l sl))) ∧ w = w' := by
  have HS := Lib.hid hsl
  obtain ⟨R, hR⟩ : ∃ R, Lib.join l sl = R := ⟨_, rfl⟩
  have hss : sep.size = sl.length := by rw [← hsl, size_l]
  have htl := join_take_le sl l
  rw [hR] at htl hlen ⊢
  have HR := Lib.hid hR; clear hR hsl
  have HSS := Lib.hid hss; clear hss
  have HT := Lib.hid htl; clear htl
  go_enter Tryz.func37, Tryz.ntmps37
  go_wp2
  go_loop [5, 6] (fun v i => ∃ k : Nat, ∃ p : Str, k ≤ l.length ∧ i = .int .i64 k ∧ v = .string (B p) ∧ Hid (Lib.join (l.take k) sl = p)) (fun _ i => l.length - (intOf i).toNat)
  case atStart => exact ⟨0, [], by omega, rfl, rfl, by rw [List.take_zero]; exact Lib.join_nil _⟩
  case round =>
    obtain ⟨k, p, hk, rfl, rfl, HP⟩ := hrel
    by_cases hlt : k < l.length
    · obtain ⟨g, rfl, hg, hcl⟩ := h.at_ hlt
      have hjs := join_snoc sl l[k] (l.take k)
      have ht : l.take (k + 1) = l.take k ++ [l[k]] := List.take_succ_eq_append_getElem hlt
      rw [← ht, HP.out] at hjs
      have hle := HT.out (k + 1)
      rw [hjs] at hle
      by_cases h0 : k = 0
      · subst h0
        have hp : p = [] := by rw [← HP.out, List.take_zero]; exact Lib.join_nil _
        subst hp
        rw [if_pos (by simp)] at hjs hle
        have HN := Lib.hid hjs; clear hjs ht
        generalize l[0] = x at *
        have hxl : x.length ≤ 140737488355328 := by omega
        clear HP
        go_wp2
        go_round
        case rel => exact ⟨1, x, by omega, by go_num, rfl, HN⟩
        case measure => simp [intOf]; omega
      · rw [if_neg (by rw [List.take_eq_nil_iff]; rintro (h | h); · exact h0 h
                       · rw [h] at hlt; simp at hlt)] at hjs hle
        have HN := Lib.hid hjs; clear hjs ht
        generalize l[k] = x at *
        simp only [List.length_append] at hle
        have hk0 : (0 : Int) < k := by omega
        have b1 : (B p).size + sep.size ≤ 9223372036854775807 := by rw [B_size, HSS.out]; omega
        have b2 : p.length + sep.size ≤ 9223372036854775807 := by rw [HSS.out]; omega
        have b3 : p.length + sep.size + x.length ≤ 9223372036854775807 := by rw [HSS.out]; omega
        have b4 : (B p ++ sep).size + (B x).size ≤ 9223372036854775807 := by rw [ByteArray.size_append, B_size, B_size]; omega
        clear HP hle
        go_wp2
        go_round
        case rel => exact ⟨k + 1, p ++ sl ++ x, by omega, by go_num, by rw [show B p ++ sep ++ B x = B (p ++ sl ++ x) from by rw [← B_append, ← B_append, ← HS.out, B_L]], HN⟩
        case measure => simp [intOf]; omega
    · obtain rfl : k = l.length := by omega
      have HE : Hid (p = R) := Lib.hid (by rw [← HP.out, List.take_length, HR.out])
      go_wp2
      go_ret
      exact ⟨ret_str (by rw [HE.out]), rfl⟩
end Go.Proofs.YthpleohkngfdfaaGreatDoor
