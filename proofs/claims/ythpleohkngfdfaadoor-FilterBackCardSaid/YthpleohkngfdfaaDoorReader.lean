/- Walks: package filter: the reader: fixed words, types and colours. Conditions: Laid. -/
import Derived.Test.YthpleohkngfdfaaDoorFIs
import Derived.Test.YthpleohkngfdfaaDoorNumB
import Derived.Test.YthpleohkngfdfaaDoorKeyC
namespace Go.Proofs.YthpleohkngfdfaaDoor
set_option linter.all false
open Go.ChangeShapes Go.WideShapes Go.RowKit
abbrev TR : Nat := 47
/-- Block g, from block b on, holds the reader's filter f. -/
def Rd (w : World) (b g : Nat) (f : Flt) : Prop := w.heap[g]? = some (.cells f.cells TR (0, 0)) ∧ b ≤ g
theorem Rd.lt {w : World} {b g : Nat} {f : Flt} (h : Rd w b g f) : g < w.heap.size := (Array.getElem?_eq_some_iff.1 h.1).1
theorem Rd.cell {w : World} {b g : Nat} {f : Flt} (h : Rd w b g f) (j : Nat) : w.cell? ⟨g, j, none⟩ = f.cells[j]? := cell_of_row w g j f.cells TR (0, 0) h.1
theorem Rd.free {w : World} {b g : Nat} {f : Flt} (h : Rd w b g f) (j : Nat) : w.frozen? ⟨g, j, none⟩ = false := by simp [World.frozen?, h.1]
theorem Rd.set_ {w : World} {b g : Nat} {f f' : Flt} (h : Rd w b g f) (j : Nat) (u : Value) (hf : f.cells.setIfInBounds j u = f'.cells) : Rd (w.setCell ⟨g, j, none⟩ u) b g f' := by
  refine ⟨?_, h.2⟩
  rw [← hf]; simp [World.setCell, Array.getElem?_modify, h.1]
theorem Rd.below {w w' : World} {b g : Nat} {f : Flt} (h : Rd w b g f) (hb : Below w.heap.size w w') : Rd w' b g f := ⟨(hb.block g h.lt).trans h.1, h.2⟩
/-- Below block b, and at every older block but g, nothing has turned. -/
structure Fr (g b : Nat) (w w' : World) : Prop where
  bel : Below b w w'
  keep : ∀ k, k < w.heap.size → k ≠ g → w'.heap[k]? = w.heap[k]?
theorem Fr.refl (g b : Nat) (w : World) : Fr g b w w := ⟨Below.refl _ _, fun _ _ _ => rfl⟩
theorem Fr.of {g b : Nat} {w w' : World} (h : Below w.heap.size w w') (hb : b ≤ w.heap.size) : Fr g b w w' := ⟨h.mono hb, fun k hk _ => h.block k hk⟩
theorem Fr.trans {g b : Nat} {a c d : World} (h : Fr g b a c) (k : Fr g b c d) : Fr g b a d := ⟨h.bel.trans k.bel, fun i hi hg => (k.keep i (Nat.lt_of_lt_of_le hi h.bel.size) hg).trans (h.keep i hi hg)⟩
theorem Fr.setCell {g b : Nat} {w w' : World} (h : Fr g b w w') {o : Nat} (hg : b ≤ g) (u : Value) : Fr g b w (w'.setCell ⟨g, o, none⟩ u) := ⟨h.bel.setCell hg u, fun k hk hkg => (Below.heap_setCell _ _ _ _ hkg).trans (h.keep k hk hkg)⟩
theorem Fr.alloc {g b : Nat} {w w' : World} (h : Fr g b w w') (hb : b ≤ w'.heap.size) (o : Obj) : Fr g b w (w'.alloc o) := ⟨h.bel.alloc hb o, fun k hk hkg => (Below.heap_alloc _ _ _ (Nat.lt_of_lt_of_le hk h.bel.size)).trans (h.keep k hk hkg)⟩
theorem Fr.drew {g b : Nat} {w w' : World} (h : Fr g b w w') : Fr g b w w'.drew := ⟨h.bel.drew, h.keep⟩
def zoneOf (s : Str) : Option Nat := (List.range' 1 5).find? fun z => wd zoneT z == s
def simpleS (f : Flt) (s : Str) : Option Flt := match zoneOf s with
  | some z => some { f with zone := (z : Int) }
  | none => if s = wd whoT 1 then some { f with who := 1 } else if s = wd whoT 2 then some { f with who := 2 } else if s = wd selfT 1 then some { f with self := 1 } else if s = wd selfT 2 then some { f with self := 2 }
    else if s = wd tapT 1 then some { f with tap := 1 } else if s = wd tapT 2 then some { f with tap := 2 } else none
theorem parseTypes_some (r : Str) (m : Nat) (h : ptOf r = some m) (w : World) (hl : Laid w) (hs : r.length < 4294967281) :
    Calls Tryd.prog 47 #[.string (B r)] w fun e w' => e = .returned (.tuple #[.int .i64 (m : Nat), .int .i64 0]) ∧ Below w.heap.size w w' :=
  (parseTypes_any (B r) w hl (by rw [B_size]; exact hs)).mono fun e w' ⟨he, hb⟩ => ⟨by rw [he, L_B, h]; rfl, hb⟩
theorem parseTypes_none (r : Str) (h : ptOf r = none) (w : World) (hl : Laid w) (hs : r.length < 4294967281) :
    Calls Tryd.prog 47 #[.string (B r)] w fun e w' => e = .returned (.tuple #[.int .i64 0, .int .i64 3]) ∧ Below w.heap.size w w' :=
  (parseTypes_any (B r) w hl (by rw [B_size]; exact hs)).mono fun e w' ⟨he, hb⟩ => ⟨by rw [he, L_B, h]; rfl, hb⟩
theorem colorParse_some (r : Str) (m : Nat) (h : pcOf r = some m) (w : World) (hl : Laid w) :
    Calls Tryd.prog 48 #[.string (B r)] w fun e w' => e = .returned (.tuple #[.int .i64 (m : Nat), .int .i64 0]) ∧ Below w.heap.size w w' :=
  (colorParse_any (B r) w hl).mono fun e w' ⟨he, hb⟩ => ⟨by rw [he, L_B, h]; rfl, hb⟩
theorem colorParse_none (r : Str) (h : pcOf r = none) (w : World) (hl : Laid w) :
    Calls Tryd.prog 48 #[.string (B r)] w fun e w' => e = .returned (.tuple #[.int .i64 0, .int .i64 3]) ∧ Below w.heap.size w w' :=
  (colorParse_any (B r) w hl).mono fun e w' ⟨he, hb⟩ => ⟨by rw [he, L_B, h]; rfl, hb⟩
theorem cutNon (s : ByteArray) (w : World) (r : Str) (p : Bool) (hr : Lib.trimPrefix (L s) nonW = r) (hp : Lib.hasPrefix (L s) nonW = p) :
    Calls Tryd.prog 30 #[.string s, .string ⟨#[110, 111, 110, 45]⟩] w fun e w' => e = .returned (.tuple #[.string (B r), .bool p]) ∧ w = w' := by
  subst hr; subst hp
  exact cutPrefix_any s _ w nonW rfl
def typesS (f : Flt) (s : Str) : Option Flt := match ptOf (Lib.trimPrefix s nonW) with
  | some n => some (if Lib.hasPrefix s nonW then { f with ntypes := bits .or .i64 f.ntypes (n : Nat) } else { f with types := bits .or .i64 f.types (n : Nat) })
  | none => if Lib.trimPrefix s nonW = noneW then none else match pcOf (Lib.trimPrefix s nonW) with
    | some n => some (if Lib.hasPrefix s nonW then { f with ncolors := bits .or .i64 f.ncolors (n : Nat) } else { f with colors := bits .or .i64 f.colors (n : Nat) })
    | none => none
set_option maxRecDepth 100000 in
theorem types_some (s : ByteArray) (f f' : Flt) (w : World) (b g : Nat) (hw : Rd w b g f) (hl : Laid w) (hs : s.size < 4294967281) (h : typesS f (L s) = some f') :
    Calls Tryd.prog 33 #[.pointer (some ⟨g, 0, none⟩), .string s] w fun e w' => e = .returned (.bool true) ∧ Rd w' b g f' ∧ Fr g b w w' := by
  obtain ⟨r, hr0⟩ : ∃ r, Lib.trimPrefix (L s) nonW = r := ⟨_, rfl⟩
  obtain ⟨p, hp0⟩ : ∃ p, Lib.hasPrefix (L s) nonW = p := ⟨_, rfl⟩
  have hrl : r.length < 4294967281 := by
    have := Lib.trimPrefix_le (L s) nonW; rw [hr0, size_l] at this; omega
  have hr := Lib.hid hr0
  have hp := Lib.hid hp0
  have hbw : b ≤ w.heap.size := by have := hw.lt; have := hw.2; omega
  unfold typesS at h
  rw [hr0, hp0] at h
  clear hr0 hp0
  cases hpt : ptOf r with
  | some n =>
    rw [hpt] at h
    simp only [Option.some.injEq] at h
    have HPT := Lib.hid hpt; clear hpt
    cases p
    all_goals
      simp only [if_true, if_false, Bool.false_eq_true] at h
      have HF := Lib.hid h; clear h
      go_enter Tryd.func33, Tryd.ntmps33
      go_wp2_with (first | (go_at_call 30; (with_reducible refine (cutNon _ _ r _ hr.out hp.out).mono ?_); rintro e w0 ⟨rfl, rfl⟩) | (go_at_call 47; (with_reducible refine (parseTypes_some r n HPT.out _ hl hrl).mono ?_); rintro e w1 ⟨rfl, hb1⟩; have hw1 := hw.below hb1; have c3 : w1.cell? ⟨g, 3, none⟩ = some (.int .i64 f.types) := hw1.cell 3; have c4 : w1.cell? ⟨g, 4, none⟩ = some (.int .i64 f.ntypes) := hw1.cell 4; have f3 := hw1.free 3; have f4 := hw1.free 4))
      go_ret
    · exact ⟨rfl, hw1.set_ 3 _ (by rw [← HF.out]; rfl), (Fr.of hb1 hbw).setCell hw.2 _⟩
    · exact ⟨rfl, hw1.set_ 4 _ (by rw [← HF.out]; rfl), (Fr.of hb1 hbw).setCell hw.2 _⟩
  | none =>
    rw [hpt] at h
    simp only at h
    have HPT := Lib.hid hpt; clear hpt
    by_cases hn : r = noneW
    · rw [if_pos hn] at h; cases h
    · rw [if_neg hn] at h
      have tn : (r == [110, 111, 110, 101]) = false := by simpa [noneW] using hn
      clear hn
      cases hpc : pcOf r with
      | none => rw [hpc] at h; cases h
      | some n =>
        rw [hpc] at h
        simp only [Option.some.injEq] at h
        have HPC := Lib.hid hpc; clear hpc
        cases p
        all_goals
          simp only [if_true, if_false, Bool.false_eq_true] at h
          have HF := Lib.hid h; clear h
          go_enter Tryd.func33, Tryd.ntmps33
          go_wp2_with (first | (go_at_call 30; (with_reducible refine (cutNon _ _ r _ hr.out hp.out).mono ?_); rintro e w0 ⟨rfl, rfl⟩) | (go_at_call 47; (with_reducible refine (parseTypes_none r HPT.out _ hl hrl).mono ?_); rintro e w1 ⟨rfl, hb1⟩; have hl1 := hl.below hb1) | (go_at_call 48; (with_reducible refine (colorParse_some r n HPC.out _ hl1).mono ?_); rintro e w2 ⟨rfl, hb2⟩; have hw1 := (hw.below hb1).below hb2; have c3 : w2.cell? ⟨g, 5, none⟩ = some (.int .i64 f.colors) := hw1.cell 5; have c4 : w2.cell? ⟨g, 6, none⟩ = some (.int .i64 f.ncolors) := hw1.cell 6; have f3 := hw1.free 5; have f4 := hw1.free 6))
          go_ret
        · exact ⟨rfl, hw1.set_ 5 _ (by rw [← HF.out]; rfl), (Fr.of (below_two hb1 hb2) hbw).setCell hw.2 _⟩
        · exact ⟨rfl, hw1.set_ 6 _ (by rw [← HF.out]; rfl), (Fr.of (below_two hb1 hb2) hbw).setCell hw.2 _⟩
set_option maxRecDepth 100000 in
theorem types_none (s : ByteArray) (f : Flt) (w : World) (hl : Laid w) (hs : s.size < 4294967281) (g : Nat) (h : typesS f (L s) = none) :
    Calls Tryd.prog 33 #[.pointer (some ⟨g, 0, none⟩), .string s] w fun e w' => e = .returned (.bool false) ∧ Below w.heap.size w w' := by
  obtain ⟨r, hr0⟩ : ∃ r, Lib.trimPrefix (L s) nonW = r := ⟨_, rfl⟩
  obtain ⟨p, hp0⟩ : ∃ p, Lib.hasPrefix (L s) nonW = p := ⟨_, rfl⟩
  have hrl : r.length < 4294967281 := by
    have := Lib.trimPrefix_le (L s) nonW; rw [hr0, size_l] at this; omega
  have hr := Lib.hid hr0
  have hp := Lib.hid hp0
  unfold typesS at h
  rw [hr0, hp0] at h
  clear hr0 hp0
  cases hpt : ptOf r with
  | some n => rw [hpt] at h; cases h
  | none =>
    rw [hpt] at h
    simp only at h
    have HPT := Lib.hid hpt; clear hpt
    by_cases hn : r = noneW
    · have tn : (r == [110, 111, 110, 101]) = true := by rw [hn]; decide
      clear h hn
      go_enter Tryd.func33, Tryd.ntmps33
      go_wp2_with (first | (go_at_call 30; (with_reducible refine (cutNon _ _ r _ hr.out hp.out).mono ?_); rintro e w0 ⟨rfl, rfl⟩) | (go_at_call 47; (with_reducible refine (parseTypes_none r HPT.out _ hl hrl).mono ?_); rintro e w1 ⟨rfl, hb1⟩))
      go_ret
      exact ⟨rfl, hb1⟩
    · rw [if_neg hn] at h
      have tn : (r == [110, 111, 110, 101]) = false := by simpa [noneW] using hn
      clear hn
      cases hpc : pcOf r with
      | some n => rw [hpc] at h; cases h
      | none =>
        have HPC := Lib.hid hpc; clear hpc h
        go_enter Tryd.func33, Tryd.ntmps33
        go_wp2_with (first | (go_at_call 30; (with_reducible refine (cutNon _ _ r _ hr.out hp.out).mono ?_); rintro e w0 ⟨rfl, rfl⟩) | (go_at_call 47; (with_reducible refine (parseTypes_none r HPT.out _ hl hrl).mono ?_); rintro e w1 ⟨rfl, hb1⟩; have hl1 := hl.below hb1) | (go_at_call 48; (with_reducible refine (colorParse_none r HPC.out _ hl1).mono ?_); rintro e w2 ⟨rfl, hb2⟩))
        go_ret
        exact ⟨rfl, below_two hb1 hb2⟩
end Go.Proofs.YthpleohkngfdfaaDoor
