/- Walks: package filter: the reader's bounds, all cases. Conditions: Laid. Walks: package filter: the reader takes a word. Conditions: Laid. -/
import Derived.Test.YtakgfbcmkhcdkaaGreatDoorMReaderC
namespace Go.Proofs.YtakgfbcmkhcdkaaGreatDoor
set_option linter.all false
open Go.ChangeShapes Go.WideShapes Go.RowKit
set_option maxRecDepth 100000 in
theorem bound_low (s : ByteArray) (i : Int) (w : World) (g : Nat) (hix : Hid (Lib.indexByte (L s) 61 = i)) (hi : i < 1) :
    Calls Tryz.prog 184 #[.pointer (some ⟨g, 0, none⟩), .string s] w fun e w' => e = .returned (.bool false) ∧ w = w' := by
  go_enter Tryz.func184, Tryz.ntmps184
  go_wp2_with (go_at_call 155; (with_reducible refine (indexEq _ _ _ hix.out).mono ?_); rintro e w0 ⟨rfl, rfl⟩)
  go_ret
  exact ⟨rfl, rfl⟩
/-- What a reader's method leaves: true and the new filter, or false and some filter. -/
def TakeR (b g : Nat) (o : Option Flt) (w : World) (e : Ending) (w' : World) : Prop :=
  Fr g b w w' ∧ ((∃ f', o = some f' ∧ e = .returned (.bool true) ∧ Rd w' b g f') ∨ (o = none ∧ e = .returned (.bool false) ∧ ∃ f', Rd w' b g f'))
theorem TakeR.of_ok {b g : Nat} {f f' : Flt} {o : Option Flt} {ok : Bool} {w w' : World} {e : Ending} (h : e = .returned (.bool ok) ∧ Rd w' b g f ∧ Fr g b w w') (ho : o = if ok then some f else none) : TakeR b g o w e w' := by
  obtain ⟨h1, h2, h3⟩ := h
  refine ⟨h3, ?_⟩
  cases ok
  · exact .inr ⟨ho, h1, f, h2⟩
  · exact .inl ⟨f, ho, h1, h2⟩
theorem setBound_0 {f : Flt} {nm : Str} {k n : Int} (p0 : nm = [112, 111, 119, 101, 114]) : setBound f nm k n = some { f with pk := k, pn := n } :=
  if_pos p0
theorem setBound_1 {f : Flt} {nm : Str} {k n : Int} (p0 : ¬ nm = [112, 111, 119, 101, 114]) (p1 : nm = [116, 111, 117, 103, 104]) : setBound f nm k n = some { f with tk := k, tn := n } :=
  (if_neg p0).trans (if_pos p1)
theorem setBound_2 {f : Flt} {nm : Str} {k n : Int} (p0 : ¬ nm = [112, 111, 119, 101, 114]) (p1 : ¬ nm = [116, 111, 117, 103, 104]) (p2 : nm = [118, 97, 108, 117, 101]) : setBound f nm k n = some { f with vk := k, vn := n } :=
  (if_neg p0).trans ((if_neg p1).trans (if_pos p2))
theorem setBound_3 {f : Flt} {nm : Str} {k n : Int} (p0 : ¬ nm = [112, 111, 119, 101, 114]) (p1 : ¬ nm = [116, 111, 117, 103, 104]) (p2 : ¬ nm = [118, 97, 108, 117, 101]) : setBound f nm k n = none :=
  (if_neg p0).trans ((if_neg p1).trans (if_neg p2))
theorem byt_cast {l : Str} {k n : Nat} (h : byt l k = n) : ((byt l k : Nat) : Int) = (n : Int) := by rw [h]
theorem byt_ne {l : Str} {k n : Nat} (h : ¬ byt l k = n) : (((byt l k : Nat) : Int) == (n : Int)) = false := by simp only [beq_eq_false_iff_ne, ne_eq]; omega
theorem bound_all (s : ByteArray) (f : Flt) (w : World) (b g : Nat) (hw : Rd w b g f) (hl : Laid w) (hs : s.size < 4294967281) :
    Calls Tryz.prog 184 #[.pointer (some ⟨g, 0, none⟩), .string s] w (TakeR b g (boundS f (L s)) w) := by
  by_cases hlow : Lib.indexByte (L s) 61 < 1
  · exact (bound_low s _ w g rfl hlow).mono fun e w' ⟨he, hw'⟩ => ⟨hw' ▸ Fr.refl _ _ _, .inr ⟨if_pos hlow, he, f, hw' ▸ hw⟩⟩
  · obtain ⟨a, ha⟩ : ∃ a : Nat, Lib.indexByte (L s) 61 = (a : Int) := ⟨(Lib.indexByte (L s) 61).toNat, by omega⟩
    have ha1 : 1 ≤ a := by omega
    have has : a < s.size := by
      have h1 := (Lib.indexByte_some ha).1
      rw [← size_l]
      rcases Nat.lt_or_ge a (L s).length with h' | h'
      · exact h'
      · rw [List.getElem?_eq_none h'] at h1; cases h1
    have hnL : L (s.extract 0 a) = (L s).take a := by rw [L_extract, List.drop_zero]
    have hns : (s.extract 0 a).size = a := by rw [ByteArray.size_extract]; omega
    have hrL : L (s.extract (a + 1) s.size) = (L s).drop (a + 1) := by rw [L_extract, ← size_l, List.take_length]
    have hn2L : L ((s.extract 0 a).extract 0 (a - 1)) = (L (s.extract 0 a)).take (a - 1) := by rw [L_extract, List.drop_zero]
    have hnl : (L (s.extract 0 a)).length = a := by rw [size_l]; exact hns
    have hB : boundS f (L s) = match numOf (L (s.extract (a + 1) s.size)) with
        | some n => setBound f (boundHead (L (s.extract 0 a))).2 (boundHead (L (s.extract 0 a))).1 n
        | none => none := by
      unfold boundS; rw [if_neg hlow, ha, Int.toNat_natCast, ← hnL, ← hrL]; rfl
    obtain ⟨n, ok, hn, hBn⟩ : ∃ n ok, numRet (numOf (L (s.extract (a + 1) s.size))) = .tuple #[.int .i64 n, .bool ok] ∧
        boundS f (L s) = if ok then setBound f (boundHead (L (s.extract 0 a))).2 (boundHead (L (s.extract 0 a))).1 n else none := by
      rw [hB]
      cases numOf (L (s.extract (a + 1) s.size)) with
      | some n => exact ⟨n, true, rfl, rfl⟩
      | none => exact ⟨0, false, rfl, rfl⟩
    rw [hBn]
    unfold boundHead
    rw [hnl]
    by_cases h62 : byt (L (s.extract 0 a)) (a - 1) = 62
    · rw [if_pos h62, ← hn2L]
      by_cases p0 : (L ((s.extract 0 a).extract 0 (a - 1))) = [112, 111, 119, 101, 114]
      · refine (bound_62_0 s _ _ _ f a n ok w b g hw hl hs ha ha1 has rfl rfl rfl hns hn (byt_cast h62) p0).mono fun e w' h => TakeR.of_ok (f' := f) h ?_
        show (if ok then setBound f (L ((s.extract 0 a).extract 0 (a - 1))) 1 n else none) = _
        rw [setBound_0 p0]
      · skip
        by_cases p1 : (L ((s.extract 0 a).extract 0 (a - 1))) = [116, 111, 117, 103, 104]
        · refine (bound_62_1 s _ _ _ f a n ok w b g hw hl hs ha ha1 has rfl rfl rfl hns hn (byt_cast h62) p0 p1).mono fun e w' h => TakeR.of_ok (f' := f) h ?_
          show (if ok then setBound f (L ((s.extract 0 a).extract 0 (a - 1))) 1 n else none) = _
          rw [setBound_1 p0 p1]
        · skip
          by_cases p2 : (L ((s.extract 0 a).extract 0 (a - 1))) = [118, 97, 108, 117, 101]
          · refine (bound_62_2 s _ _ _ f a n ok w b g hw hl hs ha ha1 has rfl rfl rfl hns hn (byt_cast h62) p0 p1 p2).mono fun e w' h => TakeR.of_ok (f' := f) h ?_
            show (if ok then setBound f (L ((s.extract 0 a).extract 0 (a - 1))) 1 n else none) = _
            rw [setBound_2 p0 p1 p2]
          · refine (bound_62_3 s _ _ _ f a n ok w b g hw hl hs ha ha1 has rfl rfl rfl hns hn (byt_cast h62) p0 p1 p2).mono fun e w' ⟨h1, h2, h3⟩ => ⟨h3, .inr ⟨?_, h1, f, h2⟩⟩
            show (if ok then setBound f (L ((s.extract 0 a).extract 0 (a - 1))) 1 n else none) = _
            rw [setBound_3 p0 p1 p2]; cases ok <;> rfl
    · rw [if_neg h62]
      by_cases h60 : byt (L (s.extract 0 a)) (a - 1) = 60
      · rw [if_pos h60, ← hn2L]
        by_cases p0 : (L ((s.extract 0 a).extract 0 (a - 1))) = [112, 111, 119, 101, 114]
        · refine (bound_60_0 s _ _ _ f a n ok w b g hw hl hs ha ha1 has rfl rfl rfl hns hn (byt_ne h62) (byt_cast h60) p0).mono fun e w' h => TakeR.of_ok (f' := f) h ?_
          show (if ok then setBound f (L ((s.extract 0 a).extract 0 (a - 1))) 2 n else none) = _
          rw [setBound_0 p0]
        · skip
          by_cases p1 : (L ((s.extract 0 a).extract 0 (a - 1))) = [116, 111, 117, 103, 104]
          · refine (bound_60_1 s _ _ _ f a n ok w b g hw hl hs ha ha1 has rfl rfl rfl hns hn (byt_ne h62) (byt_cast h60) p0 p1).mono fun e w' h => TakeR.of_ok (f' := f) h ?_
            show (if ok then setBound f (L ((s.extract 0 a).extract 0 (a - 1))) 2 n else none) = _
            rw [setBound_1 p0 p1]
          · skip
            by_cases p2 : (L ((s.extract 0 a).extract 0 (a - 1))) = [118, 97, 108, 117, 101]
            · refine (bound_60_2 s _ _ _ f a n ok w b g hw hl hs ha ha1 has rfl rfl rfl hns hn (byt_ne h62) (byt_cast h60) p0 p1 p2).mono fun e w' h => TakeR.of_ok (f' := f) h ?_
              show (if ok then setBound f (L ((s.extract 0 a).extract 0 (a - 1))) 2 n else none) = _
              rw [setBound_2 p0 p1 p2]
            · refine (bound_60_3 s _ _ _ f a n ok w b g hw hl hs ha ha1 has rfl rfl rfl hns hn (byt_ne h62) (byt_cast h60) p0 p1 p2).mono fun e w' ⟨h1, h2, h3⟩ => ⟨h3, .inr ⟨?_, h1, f, h2⟩⟩
              show (if ok then setBound f (L ((s.extract 0 a).extract 0 (a - 1))) 2 n else none) = _
              rw [setBound_3 p0 p1 p2]; cases ok <;> rfl
      · rw [if_neg h60]
        by_cases p0 : (L (s.extract 0 a)) = [112, 111, 119, 101, 114]
        · refine (bound_0_0 s _ _ _ f a n ok w b g hw hl hs ha ha1 has rfl rfl rfl hns hn (byt_ne h62) (byt_ne h60) p0).mono fun e w' h => TakeR.of_ok (f' := f) h ?_
          show (if ok then setBound f (L (s.extract 0 a)) 3 n else none) = _
          rw [setBound_0 p0]
        · skip
          by_cases p1 : (L (s.extract 0 a)) = [116, 111, 117, 103, 104]
          · refine (bound_0_1 s _ _ _ f a n ok w b g hw hl hs ha ha1 has rfl rfl rfl hns hn (byt_ne h62) (byt_ne h60) p0 p1).mono fun e w' h => TakeR.of_ok (f' := f) h ?_
            show (if ok then setBound f (L (s.extract 0 a)) 3 n else none) = _
            rw [setBound_1 p0 p1]
          · skip
            by_cases p2 : (L (s.extract 0 a)) = [118, 97, 108, 117, 101]
            · refine (bound_0_2 s _ _ _ f a n ok w b g hw hl hs ha ha1 has rfl rfl rfl hns hn (byt_ne h62) (byt_ne h60) p0 p1 p2).mono fun e w' h => TakeR.of_ok (f' := f) h ?_
              show (if ok then setBound f (L (s.extract 0 a)) 3 n else none) = _
              rw [setBound_2 p0 p1 p2]
            · refine (bound_0_3 s _ _ _ f a n ok w b g hw hl hs ha ha1 has rfl rfl rfl hns hn (byt_ne h62) (byt_ne h60) p0 p1 p2).mono fun e w' ⟨h1, h2, h3⟩ => ⟨h3, .inr ⟨?_, h1, f, h2⟩⟩
              show (if ok then setBound f (L (s.extract 0 a)) 3 n else none) = _
              rw [setBound_3 p0 p1 p2]; cases ok <;> rfl
end Go.Proofs.YtakgfbcmkhcdkaaGreatDoor
namespace Go.Proofs.YtakgfbcmkhcdkaaGreatDoor
set_option linter.all false
open Go.ChangeShapes Go.WideShapes Go.RowKit
def takeS (f : Flt) (s : Str) : Option Flt :=
  if Lib.hasPrefix s subW = true then some { f with sub := B (Lib.trimPrefix s subW) } else
  if Lib.hasPrefix s withW = true then (match pkOf (Lib.trimPrefix s withW) with
    | some n => some { f with keys := bits .or .i64 f.keys (n : Nat) }
    | none => none) else
  match simpleS f s with
  | some f' => some f'
  | none => match typesS f s with
    | some f' => some f'
    | none => boundS f s
theorem cutSub (s : ByteArray) (w : World) (r : Str) (p : Bool) (hr : Lib.trimPrefix (L s) subW = r) (hp : Lib.hasPrefix (L s) subW = p) :
    Calls Tryz.prog 136 #[.string s, .string ⟨#[115, 117, 98, 58]⟩] w fun e w' => e = .returned (.tuple #[.string (B r), .bool p]) ∧ w = w' := by
  subst hr; subst hp
  exact cutPrefix_any s _ w subW rfl
theorem cutWith (s : ByteArray) (w : World) (r : Str) (p : Bool) (hr : Lib.trimPrefix (L s) withW = r) (hp : Lib.hasPrefix (L s) withW = p) :
    Calls Tryz.prog 136 #[.string s, .string ⟨#[119, 105, 116, 104, 58]⟩] w fun e w' => e = .returned (.tuple #[.string (B r), .bool p]) ∧ w = w' := by
  subst hr; subst hp
  exact cutPrefix_any s _ w withW rfl
theorem keyParse_some (r : Str) (m : Nat) (h : pkOf r = some m) (w : World) (hs : r.length < 100000000) :
    Calls Tryz.prog 102 #[.string (B r)] w fun e w' => e = .returned (.tuple #[.int .i64 (m : Nat), .int .i64 0]) ∧ Below w.heap.size w w' :=
  (keyParse_any (B r) w (by rw [B_size]; exact hs)).mono fun e w' ⟨he, hb⟩ => ⟨by rw [he, L_B, h]; rfl, hb⟩
theorem keyParse_none (r : Str) (h : pkOf r = none) (w : World) (hs : r.length < 100000000) :
    Calls Tryz.prog 102 #[.string (B r)] w fun e w' => e = .returned (.tuple #[.int .i64 0, .int .i64 3]) ∧ Below w.heap.size w w' :=
  (keyParse_any (B r) w (by rw [B_size]; exact hs)).mono fun e w' ⟨he, hb⟩ => ⟨by rw [he, L_B, h]; rfl, hb⟩
set_option maxRecDepth 100000 in
theorem take_any (s : ByteArray) (f : Flt) (w : World) (b g : Nat) (hw : Rd w b g f) (hl : LB b w) (hs : s.size < 100000000) :
    Calls Tryz.prog 158 #[.pointer (some ⟨g, 0, none⟩), .string s] w (TakeR b g (takeS f (L s)) w) := by
  obtain ⟨r1, hr10⟩ : ∃ r, Lib.trimPrefix (L s) subW = r := ⟨_, rfl⟩
  obtain ⟨r2, hr20⟩ : ∃ r, Lib.trimPrefix (L s) withW = r := ⟨_, rfl⟩
  have hr2l : r2.length < 100000000 := by
    have := Lib.trimPrefix_le (L s) withW; rw [hr20, size_l] at this; omega
  have hbw : b ≤ w.heap.size := by have := hw.lt; have := hw.2; omega
  have hl1 := hl.laid
  cases hp1 : Lib.hasPrefix (L s) subW with
  | true =>
    have HT : Hid (takeS f (L s) = some { f with sub := B r1 }) := Lib.hid (by unfold takeS; rw [if_pos hp1, hr10])
    generalize takeS f (L s) = R at *
    have hr1 := Lib.hid hr10; have hp := Lib.hid hp1
    have c3 : w.cell? ⟨g, 7, none⟩ = some (.string f.sub) := hw.cell 7
    have f3 := hw.free 7
    clear hr10 hp1 hr20
    go_enter Tryz.func158, Tryz.ntmps158
    go_wp2_with (go_at_call 136; (with_reducible refine (cutSub _ _ r1 _ hr1.out hp.out).mono ?_); rintro e w0 ⟨rfl, rfl⟩)
    go_ret
    exact ⟨(Fr.refl _ _ _).setCell hw.2 _, .inl ⟨_, HT.out, rfl, hw.set_ 7 _ rfl⟩⟩
  | false =>
    cases hp2 : Lib.hasPrefix (L s) withW with
    | true =>
      have hr1 := Lib.hid hr10; have hp := Lib.hid hp1
      have hr2 := Lib.hid hr20; have hpp := Lib.hid hp2
      have HT0 : takeS f (L s) = (match pkOf r2 with | some n => some { f with keys := bits .or .i64 f.keys (n : Nat) } | none => none) := by
        unfold takeS; rw [if_neg (by rw [hp1]; decide), if_pos hp2, hr20]
      generalize takeS f (L s) = R at *
      clear hr10 hp1 hr20 hp2
      cases hk : pkOf r2 with
      | some n =>
        rw [hk] at HT0
        have HT : Hid (R = some { f with keys := bits .or .i64 f.keys (n : Nat) }) := Lib.hid HT0
        have HK := Lib.hid hk; clear hk HT0
        go_enter Tryz.func158, Tryz.ntmps158
        go_wp2_with (first | (go_at_call 136; (with_reducible refine (cutSub _ _ r1 _ hr1.out hp.out).mono ?_); rintro e w0 ⟨rfl, rfl⟩) | (go_at_call 136; (with_reducible refine (cutWith _ _ r2 _ hr2.out hpp.out).mono ?_); rintro e w0 ⟨rfl, rfl⟩) | (go_at_call 102; (with_reducible refine (keyParse_some r2 n HK.out _ hr2l).mono ?_); rintro e w1 ⟨rfl, hb1⟩; have hw1 := hw.below hb1; have c3 : w1.cell? ⟨g, 8, none⟩ = some (.int .i64 f.keys) := hw1.cell 8; have f3 := hw1.free 8))
        go_ret
        exact ⟨(Fr.of hb1 hbw).setCell hw.2 _, .inl ⟨_, HT.out, rfl, hw1.set_ 8 _ rfl⟩⟩
      | none =>
        rw [hk] at HT0
        have HT : Hid (R = none) := Lib.hid HT0
        have HK := Lib.hid hk; clear hk HT0
        go_enter Tryz.func158, Tryz.ntmps158
        go_wp2_with (first | (go_at_call 136; (with_reducible refine (cutSub _ _ r1 _ hr1.out hp.out).mono ?_); rintro e w0 ⟨rfl, rfl⟩) | (go_at_call 136; (with_reducible refine (cutWith _ _ r2 _ hr2.out hpp.out).mono ?_); rintro e w0 ⟨rfl, rfl⟩) | (go_at_call 102; (with_reducible refine (keyParse_none r2 HK.out _ hr2l).mono ?_); rintro e w1 ⟨rfl, hb1⟩; have hw1 := hw.below hb1; have c3 : w1.cell? ⟨g, 8, none⟩ = some (.int .i64 f.keys) := hw1.cell 8; have f3 := hw1.free 8))
        go_ret
        exact ⟨(Fr.of hb1 hbw).setCell hw.2 _, .inr ⟨HT.out, rfl, { f with keys := bits .or .i64 f.keys 0 }, hw1.set_ 8 _ rfl⟩⟩
    | false =>
      have hr1 := Lib.hid hr10; have hp := Lib.hid hp1
      have hr2 := Lib.hid hr20; have hpp := Lib.hid hp2
      have HT0 : takeS f (L s) = (match simpleS f (L s) with | some f' => some f' | none => match typesS f (L s) with | some f' => some f' | none => boundS f (L s)) := by
        unfold takeS; rw [if_neg (by rw [hp1]; decide), if_neg (by rw [hp2]; decide)]
      generalize takeS f (L s) = R at *
      clear hr10 hp1 hr20 hp2
      have hs2 : s.size < 4294967281 := by omega
      cases hsm : simpleS f (L s) with
      | some f' =>
        rw [hsm] at HT0
        have HT : Hid (R = some f') := Lib.hid HT0
        have HK := Lib.hid hsm; clear hsm HT0
        go_enter Tryz.func158, Tryz.ntmps158
        go_wp2_with (first | (go_at_call 136; (with_reducible refine (cutSub _ _ r1 _ hr1.out hp.out).mono ?_); rintro e w0 ⟨rfl, rfl⟩) | (go_at_call 136; (with_reducible refine (cutWith _ _ r2 _ hr2.out hpp.out).mono ?_); rintro e w0 ⟨rfl, rfl⟩) | (go_at_call 182; (with_reducible refine (simple_some s f f' _ b g hw HK.out).mono ?_); rintro e w1 ⟨rfl, hw1, hb1⟩))
        go_ret
        exact ⟨hb1, .inl ⟨f', HT.out, rfl, hw1⟩⟩
      | none =>
        rw [hsm] at HT0
        have HK := Lib.hid hsm; clear hsm
        cases hty : typesS f (L s) with
        | some f' =>
          rw [hty] at HT0
          have HT : Hid (R = some f') := Lib.hid HT0
          have HY := Lib.hid hty; clear hty HT0
          go_enter Tryz.func158, Tryz.ntmps158
          go_wp2_with (first | (go_at_call 136; (with_reducible refine (cutSub _ _ r1 _ hr1.out hp.out).mono ?_); rintro e w0 ⟨rfl, rfl⟩) | (go_at_call 136; (with_reducible refine (cutWith _ _ r2 _ hr2.out hpp.out).mono ?_); rintro e w0 ⟨rfl, rfl⟩) | (go_at_call 182; (with_reducible refine (simple_none s f _ g HK.out).mono ?_); rintro e w1 ⟨rfl, rfl⟩) | (go_at_call 183; (with_reducible refine (types_some s f f' _ b g hw hl1 hs2 HY.out).mono ?_); rintro e w1 ⟨rfl, hw1, hb1⟩))
          go_ret
          exact ⟨hb1, .inl ⟨f', HT.out, rfl, hw1⟩⟩
        | none =>
          rw [hty] at HT0
          have HT : Hid (R = boundS f (L s)) := Lib.hid HT0
          have HY := Lib.hid hty; clear hty HT0
          go_enter Tryz.func158, Tryz.ntmps158
          go_wp2_with (first | (go_at_call 136; (with_reducible refine (cutSub _ _ r1 _ hr1.out hp.out).mono ?_); rintro e w0 ⟨rfl, rfl⟩) | (go_at_call 136; (with_reducible refine (cutWith _ _ r2 _ hr2.out hpp.out).mono ?_); rintro e w0 ⟨rfl, rfl⟩) | (go_at_call 182; (with_reducible refine (simple_none s f _ g HK.out).mono ?_); rintro e w1 ⟨rfl, rfl⟩) | (go_at_call 183; (with_reducible refine (types_none s f _ hl1 hs2 g HY.out).mono ?_); rintro e w1 ⟨rfl, hb1⟩; have hw1 := hw.below hb1; have hl2 := hl1.below hb1))
          refine (bound_all s f _ b g hw1 hl2 hs2).mono ?_
          rintro e w2 ⟨hb2, ⟨f', hf, rfl, hw2⟩ | ⟨hf, rfl, f', hw2⟩⟩
          all_goals
            have HF := Lib.hid hf; clear hf
            dsimp only
            go_wp2
            go_ret
          · exact ⟨(Fr.of hb1 hbw).trans hb2, .inl ⟨f', HT.out.trans HF.out, rfl, hw2⟩⟩
          · exact ⟨(Fr.of hb1 hbw).trans hb2, .inr ⟨HT.out.trans HF.out, rfl, f', hw2⟩⟩
end Go.Proofs.YtakgfbcmkhcdkaaGreatDoor
