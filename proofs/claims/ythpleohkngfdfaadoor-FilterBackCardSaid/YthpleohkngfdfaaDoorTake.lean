/- Walks: package filter: the reader takes a word. Conditions: Laid. -/
import Derived.Test.YthpleohkngfdfaaDoorReaderD
namespace Go.Proofs.YthpleohkngfdfaaDoor
set_option linter.all false
open Go.ChangeShapes Go.WideShapes Go.RowKit
def takeS (f : Flt) (s : Str) : Option Flt :=
  if Lib.hasPrefix s subW = true then some { f with sub := B (Lib.trimPrefix s subW) } else
  if Lib.hasPrefix s withW = true then (match pkOf (Lib.trimPrefix s withW) with
    | some n => some { f with keys := bits .or .i64 f.keys (n : Nat) }
    | none => none) else
  match simpleS f s with
  | some f' => some f'
  | none => match typesS f s with
    | some f' => some f'
    | none => boundS f s
theorem cutSub (s : ByteArray) (w : World) (r : Str) (p : Bool) (hr : Lib.trimPrefix (L s) subW = r) (hp : Lib.hasPrefix (L s) subW = p) :
    Calls Tryd.prog 30 #[.string s, .string ⟨#[115, 117, 98, 58]⟩] w fun e w' => e = .returned (.tuple #[.string (B r), .bool p]) ∧ w = w' := by
  subst hr; subst hp
  exact cutPrefix_any s _ w subW rfl
theorem cutWith (s : ByteArray) (w : World) (r : Str) (p : Bool) (hr : Lib.trimPrefix (L s) withW = r) (hp : Lib.hasPrefix (L s) withW = p) :
    Calls Tryd.prog 30 #[.string s, .string ⟨#[119, 105, 116, 104, 58]⟩] w fun e w' => e = .returned (.tuple #[.string (B r), .bool p]) ∧ w = w' := by
  subst hr; subst hp
  exact cutPrefix_any s _ w withW rfl
theorem keyParse_some (r : Str) (m : Nat) (h : pkOf r = some m) (w : World) (hs : r.length < 100000000) :
    Calls Tryd.prog 31 #[.string (B r)] w fun e w' => e = .returned (.tuple #[.int .i64 (m : Nat), .int .i64 0]) ∧ Below w.heap.size w w' :=
  (keyParse_any (B r) w (by rw [B_size]; exact hs)).mono fun e w' ⟨he, hb⟩ => ⟨by rw [he, L_B, h]; rfl, hb⟩
theorem keyParse_none (r : Str) (h : pkOf r = none) (w : World) (hs : r.length < 100000000) :
    Calls Tryd.prog 31 #[.string (B r)] w fun e w' => e = .returned (.tuple #[.int .i64 0, .int .i64 3]) ∧ Below w.heap.size w w' :=
  (keyParse_any (B r) w (by rw [B_size]; exact hs)).mono fun e w' ⟨he, hb⟩ => ⟨by rw [he, L_B, h]; rfl, hb⟩
set_option maxRecDepth 100000 in
theorem take_any (s : ByteArray) (f : Flt) (w : World) (b g : Nat) (hw : Rd w b g f) (hl : LB b w) (hs : s.size < 100000000) :
    Calls Tryd.prog 18 #[.pointer (some ⟨g, 0, none⟩), .string s] w (TakeR b g (takeS f (L s)) w) := by
  obtain ⟨r1, hr10⟩ : ∃ r, Lib.trimPrefix (L s) subW = r := ⟨_, rfl⟩
  obtain ⟨r2, hr20⟩ : ∃ r, Lib.trimPrefix (L s) withW = r := ⟨_, rfl⟩
  have hr2l : r2.length < 100000000 := by
    have := Lib.trimPrefix_le (L s) withW; rw [hr20, size_l] at this; omega
  have hbw : b ≤ w.heap.size := by have := hw.lt; have := hw.2; omega
  have hl1 := hl.laid
  cases hp1 : Lib.hasPrefix (L s) subW with
  | true =>
    have HT : Hid (takeS f (L s) = some { f with sub := B r1 }) := Lib.hid (by unfold takeS; rw [if_pos hp1, hr10])
    generalize takeS f (L s) = R at *
    have hr1 := Lib.hid hr10; have hp := Lib.hid hp1
    have c3 : w.cell? ⟨g, 7, none⟩ = some (.string f.sub) := hw.cell 7
    have f3 := hw.free 7
    clear hr10 hp1 hr20
    go_enter Tryd.func18, Tryd.ntmps18
    go_wp2_with (go_at_call 30; (with_reducible refine (cutSub _ _ r1 _ hr1.out hp.out).mono ?_); rintro e w0 ⟨rfl, rfl⟩)
    go_ret
    exact ⟨(Fr.refl _ _ _).setCell hw.2 _, .inl ⟨_, HT.out, rfl, hw.set_ 7 _ rfl⟩⟩
  | false =>
    cases hp2 : Lib.hasPrefix (L s) withW with
    | true =>
      have hr1 := Lib.hid hr10; have hp := Lib.hid hp1
      have hr2 := Lib.hid hr20; have hpp := Lib.hid hp2
      have HT0 : takeS f (L s) = (match pkOf r2 with | some n => some { f with keys := bits .or .i64 f.keys (n : Nat) } | none => none) := by
        unfold takeS; rw [if_neg (by rw [hp1]; decide), if_pos hp2, hr20]
      generalize takeS f (L s) = R at *
      clear hr10 hp1 hr20 hp2
      cases hk : pkOf r2 with
      | some n =>
        rw [hk] at HT0
        have HT : Hid (R = some { f with keys := bits .or .i64 f.keys (n : Nat) }) := Lib.hid HT0
        have HK := Lib.hid hk; clear hk HT0
        go_enter Tryd.func18, Tryd.ntmps18
        go_wp2_with (first | (go_at_call 30; (with_reducible refine (cutSub _ _ r1 _ hr1.out hp.out).mono ?_); rintro e w0 ⟨rfl, rfl⟩) | (go_at_call 30; (with_reducible refine (cutWith _ _ r2 _ hr2.out hpp.out).mono ?_); rintro e w0 ⟨rfl, rfl⟩) | (go_at_call 31; (with_reducible refine (keyParse_some r2 n HK.out _ hr2l).mono ?_); rintro e w1 ⟨rfl, hb1⟩; have hw1 := hw.below hb1; have c3 : w1.cell? ⟨g, 8, none⟩ = some (.int .i64 f.keys) := hw1.cell 8; have f3 := hw1.free 8))
        go_ret
        exact ⟨(Fr.of hb1 hbw).setCell hw.2 _, .inl ⟨_, HT.out, rfl, hw1.set_ 8 _ rfl⟩⟩
      | none =>
        rw [hk] at HT0
        have HT : Hid (R = none) := Lib.hid HT0
        have HK := Lib.hid hk; clear hk HT0
        go_enter Tryd.func18, Tryd.ntmps18
        go_wp2_with (first | (go_at_call 30; (with_reducible refine (cutSub _ _ r1 _ hr1.out hp.out).mono ?_); rintro e w0 ⟨rfl, rfl⟩) | (go_at_call 30; (with_reducible refine (cutWith _ _ r2 _ hr2.out hpp.out).mono ?_); rintro e w0 ⟨rfl, rfl⟩) | (go_at_call 31; (with_reducible refine (keyParse_none r2 HK.out _ hr2l).mono ?_); rintro e w1 ⟨rfl, hb1⟩; have hw1 := hw.below hb1; have c3 : w1.cell? ⟨g, 8, none⟩ = some (.int .i64 f.keys) := hw1.cell 8; have f3 := hw1.free 8))
        go_ret
        exact ⟨(Fr.of hb1 hbw).setCell hw.2 _, .inr ⟨HT.out, rfl, { f with keys := bits .or .i64 f.keys 0 }, hw1.set_ 8 _ rfl⟩⟩
    | false =>
      have hr1 := Lib.hid hr10; have hp := Lib.hid hp1
      have hr2 := Lib.hid hr20; have hpp := Lib.hid hp2
      have HT0 : takeS f (L s) = (match simpleS f (L s) with | some f' => some f' | none => match typesS f (L s) with | some f' => some f' | none => boundS f (L s)) := by
        unfold takeS; rw [if_neg (by rw [hp1]; decide), if_neg (by rw [hp2]; decide)]
      generalize takeS f (L s) = R at *
      clear hr10 hp1 hr20 hp2
      have hs2 : s.size < 4294967281 := by omega
      cases hsm : simpleS f (L s) with
      | some f' =>
        rw [hsm] at HT0
        have HT : Hid (R = some f') := Lib.hid HT0
        have HK := Lib.hid hsm; clear hsm HT0
        go_enter Tryd.func18, Tryd.ntmps18
        go_wp2_with (first | (go_at_call 30; (with_reducible refine (cutSub _ _ r1 _ hr1.out hp.out).mono ?_); rintro e w0 ⟨rfl, rfl⟩) | (go_at_call 30; (with_reducible refine (cutWith _ _ r2 _ hr2.out hpp.out).mono ?_); rintro e w0 ⟨rfl, rfl⟩) | (go_at_call 32; (with_reducible refine (simple_some s f f' _ b g hw HK.out).mono ?_); rintro e w1 ⟨rfl, hw1, hb1⟩))
        go_ret
        exact ⟨hb1, .inl ⟨f', HT.out, rfl, hw1⟩⟩
      | none =>
        rw [hsm] at HT0
        have HK := Lib.hid hsm; clear hsm
        cases hty : typesS f (L s) with
        | some f' =>
          rw [hty] at HT0
          have HT : Hid (R = some f') := Lib.hid HT0
          have HY := Lib.hid hty; clear hty HT0
          go_enter Tryd.func18, Tryd.ntmps18
          go_wp2_with (first | (go_at_call 30; (with_reducible refine (cutSub _ _ r1 _ hr1.out hp.out).mono ?_); rintro e w0 ⟨rfl, rfl⟩) | (go_at_call 30; (with_reducible refine (cutWith _ _ r2 _ hr2.out hpp.out).mono ?_); rintro e w0 ⟨rfl, rfl⟩) | (go_at_call 32; (with_reducible refine (simple_none s f _ g HK.out).mono ?_); rintro e w1 ⟨rfl, rfl⟩) | (go_at_call 33; (with_reducible refine (types_some s f f' _ b g hw hl1 hs2 HY.out).mono ?_); rintro e w1 ⟨rfl, hw1, hb1⟩))
          go_ret
          exact ⟨hb1, .inl ⟨f', HT.out, rfl, hw1⟩⟩
        | none =>
          rw [hty] at HT0
          have HT : Hid (R = boundS f (L s)) := Lib.hid HT0
          have HY := Lib.hid hty; clear hty HT0
          go_enter Tryd.func18, Tryd.ntmps18
          go_wp2_with (first | (go_at_call 30; (with_reducible refine (cutSub _ _ r1 _ hr1.out hp.out).mono ?_); rintro e w0 ⟨rfl, rfl⟩) | (go_at_call 30; (with_reducible refine (cutWith _ _ r2 _ hr2.out hpp.out).mono ?_); rintro e w0 ⟨rfl, rfl⟩) | (go_at_call 32; (with_reducible refine (simple_none s f _ g HK.out).mono ?_); rintro e w1 ⟨rfl, rfl⟩) | (go_at_call 33; (with_reducible refine (types_none s f _ hl1 hs2 g HY.out).mono ?_); rintro e w1 ⟨rfl, hb1⟩; have hw1 := hw.below hb1; have hl2 := hl1.below hb1))
          refine (bound_all s f _ b g hw1 hl2 hs2).mono ?_
          rintro e w2 ⟨hb2, ⟨f', hf, rfl, hw2⟩ | ⟨hf, rfl, f', hw2⟩⟩
          all_goals
            have HF := Lib.hid hf; clear hf
            dsimp only
            go_wp2
            go_ret
          · exact ⟨(Fr.of hb1 hbw).trans hb2, .inl ⟨f', HT.out.trans HF.out, rfl, hw2⟩⟩
          · exact ⟨(Fr.of hb1 hbw).trans hb2, .inr ⟨HT.out.trans HF.out, rfl, f', hw2⟩⟩
end Go.Proofs.YthpleohkngfdfaaDoor
