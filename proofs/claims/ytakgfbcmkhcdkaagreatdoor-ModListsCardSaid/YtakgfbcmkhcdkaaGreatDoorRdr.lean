/- Walks: package num: Clamp and Number. Conditions: Laid; the text is shorter than 4 thousand million bytes. Walks: package filter: the reader: fixed words, types and colours. Conditions: Laid. Walks: package filter: the reader's fixed words. Conditions: none. -/
import Derived.Test.YtakgfbcmkhcdkaaGreatDoorMWriter
import Derived.Test.YtakgfbcmkhcdkaaGreatDoorBase
import Derived.Test.YtakgfbcmkhcdkaaGreatDoorMFIs
import Derived.Test.YtakgfbcmkhcdkaaGreatDoorKeys
namespace Go.Proofs.YtakgfbcmkhcdkaaGreatDoor
set_option linter.all false
open Go.ChangeShapes Go.WideShapes Go.RowKit
theorem clamp_any (n : Int) (w : World) :
    Calls Tryz.prog 52 #[.int .i64 n] w fun e w' => e = .returned (.int .i64 (clampI n)) ∧ w = w' := by
  have HD : Hid (clampI n = if n < -1000000 then -1000000 else if 1000000 < n then 1000000 else n) := rfl
  generalize clampI n = R at *
  by_cases h1 : n < -1000000
  · have h2 : ¬ 1000000 < n := by omega
    go_enter Tryz.func52, Tryz.ntmps52
    go_wp2
    go_ret
    exact ⟨ret_int (by rw [HD.out]; omega), rfl⟩
  · by_cases h2 : 1000000 < n
    · go_enter Tryz.func52, Tryz.ntmps52
      go_wp2
      go_ret
      exact ⟨ret_int (by rw [HD.out]; omega), rfl⟩
    · go_enter Tryz.func52, Tryz.ntmps52
      go_wp2
      go_ret
      exact ⟨ret_int (by rw [HD.out]; omega), rfl⟩
/-- The number of the game with a text. -/
def numOf (s : Str) : Option Int := match Lib.atoiAll s with
  | .ok v => if -1000000 ≤ v ∧ v ≤ 1000000 ∧ Lib.itoa v = s then some v else none
  | _ => none
def numRet (o : Option Int) : Value := match o with | some v => .tuple #[.int .i64 v, .bool true] | none => .tuple #[.int .i64 0, .bool false]
theorem numOf_ok {s : Str} {v : Int} (h : Lib.atoiAll s = .ok v) : numOf s = if -1000000 ≤ v ∧ v ≤ 1000000 ∧ Lib.itoa v = s then some v else none := by unfold numOf; rw [h]
theorem numOf_no {s : Str} (h : ∀ v, Lib.atoiAll s ≠ .ok v) : numOf s = none := by
  unfold numOf; split
  · rename_i v hv; exact absurd hv (h v)
  · rfl
set_option maxRecDepth 100000 in
theorem number_any (s : ByteArray) (w : World) (hl : Laid w) (hs : s.size < 4294967281) :
    Calls Tryz.prog 139 #[.string s] w fun e w' => e = .returned (numRet (numOf (L s))) ∧ Below w.heap.size w w' := by
  by_cases hok : ∃ v, Lib.atoiAll (L s) = .ok v
  · obtain ⟨v, hv⟩ := hok
    have HD := Lib.hid (numOf_ok hv)
    have HV := Lib.hid hv; clear hv
    have hA : Calls Tryz.prog 160 #[.string s] w fun e w' => e = .returned (.tuple #[.int .i64 v, .nilIface]) ∧ Below w.heap.size w w' :=
      (atoi_any s w hl hs).mono fun e w' ⟨hb, h⟩ => ⟨by
        rcases h with ⟨v', h1, he⟩ | ⟨h1, _⟩
        · rw [HV.out] at h1; cases h1; exact he
        · exact absurd HV.out (h1 v), hb⟩
    have HA := Lib.hid hA; clear hA
    generalize numOf (L s) = R at *
    by_cases h1 : -1000000 ≤ v ∧ v ≤ 1000000
    · have hc : Hid (clampI v = v) := Lib.hid (by unfold clampI; rw [if_neg (by omega), if_neg (by omega)])
      obtain ⟨h2, h3⟩ := h1
      by_cases ht : Lib.itoa v = L s
      · have t1 := toList_yes ht
        have HD2 : Hid (R = some v) := Lib.hid (by rw [HD.out, if_pos ⟨h2, h3, ht⟩])
        clear ht HD
        go_enter Tryz.func139, Tryz.ntmps139
        go_wp2_with (first | (go_at_call 160; (with_reducible refine HA.out.mono ?_); rintro e w1 ⟨rfl, hb1⟩; have hl1 := hl.below hb1) | (go_at_call 52; (with_reducible refine (clamp_any _ _).mono ?_); rintro e w2 ⟨rfl, rfl⟩; rw [hc.out]) | (go_at_call 40; (with_reducible refine (numText_any _ (by omega) (by omega) _ hl1).mono ?_); rintro e w3 ⟨rfl, hb3⟩))
        go_ret2
        exact ⟨ret_val (by rw [HD2.out]; rfl), below_two hb1 hb3⟩
      · have t1 := toList_no ht
        have HD2 : Hid (R = none) := Lib.hid (by rw [HD.out, if_neg (fun h => ht h.2.2)])
        clear ht HD
        go_enter Tryz.func139, Tryz.ntmps139
        go_wp2_with (first | (go_at_call 160; (with_reducible refine HA.out.mono ?_); rintro e w1 ⟨rfl, hb1⟩; have hl1 := hl.below hb1) | (go_at_call 52; (with_reducible refine (clamp_any _ _).mono ?_); rintro e w2 ⟨rfl, rfl⟩; rw [hc.out]) | (go_at_call 40; (with_reducible refine (numText_any _ (by omega) (by omega) _ hl1).mono ?_); rintro e w3 ⟨rfl, hb3⟩))
        go_ret2
        exact ⟨ret_val (by rw [HD2.out]; rfl), below_two hb1 hb3⟩
    · have hc : (v == clampI v) = false := by
        simp only [beq_eq_false_iff_ne, ne_eq]; unfold clampI; split
        · omega
        · split <;> omega
      have hc2 : (v != clampI v) = true := by rw [bne, hc]; rfl
      have HD2 : Hid (R = none) := Lib.hid (by rw [HD.out, if_neg (fun h => h1 ⟨h.1, h.2.1⟩)])
      clear h1 HD hc
      go_enter Tryz.func139, Tryz.ntmps139
      go_wp2_with (first | (go_at_call 160; (with_reducible refine HA.out.mono ?_); rintro e w1 ⟨rfl, hb1⟩; have hl1 := hl.below hb1) | (go_at_call 52; (with_reducible refine (clamp_any _ _).mono ?_); rintro e w2 ⟨rfl, rfl⟩))
      go_ret2
      exact ⟨ret_val (by rw [HD2.out]; rfl), hb1⟩
  · have hno : ∀ v, Lib.atoiAll (L s) ≠ .ok v := fun v h => hok ⟨v, h⟩
    have HD : Hid (numOf (L s) = none) := Lib.hid (numOf_no hno)
    have HN := Lib.hid hno; clear hno hok
    have hA : Calls Tryz.prog 160 #[.string s] w fun e w' => (∃ v t p, e = .returned (.tuple #[.int .i64 v, .iface t p])) ∧ Below w.heap.size w w' :=
      (atoi_any s w hl hs).mono fun e w' ⟨hb, h⟩ => ⟨by
        rcases h with ⟨v', h1, he⟩ | ⟨_, v, t, p, he⟩
        · exact absurd h1 (HN.out v')
        · exact ⟨v, t, p, he⟩, hb⟩
    have HA := Lib.hid hA; clear hA
    generalize numOf (L s) = R at *
    go_enter Tryz.func139, Tryz.ntmps139
    go_wp2_with (go_at_call 160; (with_reducible refine HA.out.mono ?_); rintro e w1 ⟨⟨v, t, p, rfl⟩, hb1⟩)
    go_ret2
    exact ⟨ret_val (by rw [HD.out]; rfl), hb1⟩
end Go.Proofs.YtakgfbcmkhcdkaaGreatDoor
namespace Go.Proofs.YtakgfbcmkhcdkaaGreatDoor
set_option linter.all false
open Go.ChangeShapes Go.WideShapes Go.RowKit
abbrev TR : Nat := 168
/-- Block g, from block b on, holds the reader's filter f. -/
def Rd (w : World) (b g : Nat) (f : Flt) : Prop := w.heap[g]? = some (.cells f.cells TR (0, 0)) ∧ b ≤ g
theorem Rd.lt {w : World} {b g : Nat} {f : Flt} (h : Rd w b g f) : g < w.heap.size := (Array.getElem?_eq_some_iff.1 h.1).1
theorem Rd.cell {w : World} {b g : Nat} {f : Flt} (h : Rd w b g f) (j : Nat) : w.cell? ⟨g, j, none⟩ = f.cells[j]? := cell_of_row w g j f.cells TR (0, 0) h.1
theorem Rd.free {w : World} {b g : Nat} {f : Flt} (h : Rd w b g f) (j : Nat) : w.frozen? ⟨g, j, none⟩ = false := by simp [World.frozen?, h.1]
theorem Rd.set_ {w : World} {b g : Nat} {f f' : Flt} (h : Rd w b g f) (j : Nat) (u : Value) (hf : f.cells.setIfInBounds j u = f'.cells) : Rd (w.setCell ⟨g, j, none⟩ u) b g f' := by
  refine ⟨?_, h.2⟩
  rw [← hf]; simp [World.setCell, Array.getElem?_modify, h.1]
theorem Rd.below {w w' : World} {b g : Nat} {f : Flt} (h : Rd w b g f) (hb : Below w.heap.size w w') : Rd w' b g f := ⟨(hb.block g h.lt).trans h.1, h.2⟩
/-- Below block b, and at every older block but g, nothing has turned. -/
structure Fr (g b : Nat) (w w' : World) : Prop where
  bel : Below b w w'
  keep : ∀ k, k < w.heap.size → k ≠ g → w'.heap[k]? = w.heap[k]?
theorem Fr.refl (g b : Nat) (w : World) : Fr g b w w := ⟨Below.refl _ _, fun _ _ _ => rfl⟩
theorem Fr.of {g b : Nat} {w w' : World} (h : Below w.heap.size w w') (hb : b ≤ w.heap.size) : Fr g b w w' := ⟨h.mono hb, fun k hk _ => h.block k hk⟩
theorem Fr.trans {g b : Nat} {a c d : World} (h : Fr g b a c) (k : Fr g b c d) : Fr g b a d := ⟨h.bel.trans k.bel, fun i hi hg => (k.keep i (Nat.lt_of_lt_of_le hi h.bel.size) hg).trans (h.keep i hi hg)⟩
theorem Fr.setCell {g b : Nat} {w w' : World} (h : Fr g b w w') {o : Nat} (hg : b ≤ g) (u : Value) : Fr g b w (w'.setCell ⟨g, o, none⟩ u) := ⟨h.bel.setCell hg u, fun k hk hkg => (Below.heap_setCell _ _ _ _ hkg).trans (h.keep k hk hkg)⟩
theorem Fr.alloc {g b : Nat} {w w' : World} (h : Fr g b w w') (hb : b ≤ w'.heap.size) (o : Obj) : Fr g b w (w'.alloc o) := ⟨h.bel.alloc hb o, fun k hk hkg => (Below.heap_alloc _ _ _ (Nat.lt_of_lt_of_le hk h.bel.size)).trans (h.keep k hk hkg)⟩
theorem Fr.drew {g b : Nat} {w w' : World} (h : Fr g b w w') : Fr g b w w'.drew := ⟨h.bel.drew, h.keep⟩
def zoneOf (s : Str) : Option Nat := (List.range' 1 5).find? fun z => wd zoneT z == s
def simpleS (f : Flt) (s : Str) : Option Flt := match zoneOf s with
  | some z => some { f with zone := (z : Int) }
  | none => if s = wd whoT 1 then some { f with who := 1 } else if s = wd whoT 2 then some { f with who := 2 } else if s = wd selfT 1 then some { f with self := 1 } else if s = wd selfT 2 then some { f with self := 2 }
    else if s = wd tapT 1 then some { f with tap := 1 } else if s = wd tapT 2 then some { f with tap := 2 } else none
theorem parseTypes_some (r : Str) (m : Nat) (h : ptOf r = some m) (w : World) (hl : Laid w) (hs : r.length < 4294967281) :
    Calls Tryz.prog 100 #[.string (B r)] w fun e w' => e = .returned (.tuple #[.int .i64 (m : Nat), .int .i64 0]) ∧ Below w.heap.size w w' :=
  (parseTypes_any (B r) w hl (by rw [B_size]; exact hs)).mono fun e w' ⟨he, hb⟩ => ⟨by rw [he, L_B, h]; rfl, hb⟩
theorem parseTypes_none (r : Str) (h : ptOf r = none) (w : World) (hl : Laid w) (hs : r.length < 4294967281) :
    Calls Tryz.prog 100 #[.string (B r)] w fun e w' => e = .returned (.tuple #[.int .i64 0, .int .i64 3]) ∧ Below w.heap.size w w' :=
  (parseTypes_any (B r) w hl (by rw [B_size]; exact hs)).mono fun e w' ⟨he, hb⟩ => ⟨by rw [he, L_B, h]; rfl, hb⟩
theorem colorParse_some (r : Str) (m : Nat) (h : pcOf r = some m) (w : World) (hl : Laid w) :
    Calls Tryz.prog 101 #[.string (B r)] w fun e w' => e = .returned (.tuple #[.int .i64 (m : Nat), .int .i64 0]) ∧ Below w.heap.size w w' :=
  (colorParse_any (B r) w hl).mono fun e w' ⟨he, hb⟩ => ⟨by rw [he, L_B, h]; rfl, hb⟩
theorem colorParse_none (r : Str) (h : pcOf r = none) (w : World) (hl : Laid w) :
    Calls Tryz.prog 101 #[.string (B r)] w fun e w' => e = .returned (.tuple #[.int .i64 0, .int .i64 3]) ∧ Below w.heap.size w w' :=
  (colorParse_any (B r) w hl).mono fun e w' ⟨he, hb⟩ => ⟨by rw [he, L_B, h]; rfl, hb⟩
theorem cutNon (s : ByteArray) (w : World) (r : Str) (p : Bool) (hr : Lib.trimPrefix (L s) nonW = r) (hp : Lib.hasPrefix (L s) nonW = p) :
    Calls Tryz.prog 136 #[.string s, .string ⟨#[110, 111, 110, 45]⟩] w fun e w' => e = .returned (.tuple #[.string (B r), .bool p]) ∧ w = w' := by
  subst hr; subst hp
  exact cutPrefix_any s _ w nonW rfl
def typesS (f : Flt) (s : Str) : Option Flt := match ptOf (Lib.trimPrefix s nonW) with
  | some n => some (if Lib.hasPrefix s nonW then { f with ntypes := bits .or .i64 f.ntypes (n : Nat) } else { f with types := bits .or .i64 f.types (n : Nat) })
  | none => if Lib.trimPrefix s nonW = noneW then none else match pcOf (Lib.trimPrefix s nonW) with
    | some n => some (if Lib.hasPrefix s nonW then { f with ncolors := bits .or .i64 f.ncolors (n : Nat) } else { f with colors := bits .or .i64 f.colors (n : Nat) })
    | none => none
set_option maxRecDepth 100000 in
theorem types_some (s : ByteArray) (f f' : Flt) (w : World) (b g : Nat) (hw : Rd w b g f) (hl : Laid w) (hs : s.size < 4294967281) (h : typesS f (L s) = some f') :
    Calls Tryz.prog 183 #[.pointer (some ⟨g, 0, none⟩), .string s] w fun e w' => e = .returned (.bool true) ∧ Rd w' b g f' ∧ Fr g b w w' := by
  obtain ⟨r, hr0⟩ : ∃ r, Lib.trimPrefix (L s) nonW = r := ⟨_, rfl⟩
  obtain ⟨p, hp0⟩ : ∃ p, Lib.hasPrefix (L s) nonW = p := ⟨_, rfl⟩
  have hrl : r.length < 4294967281 := by
    have := Lib.trimPrefix_le (L s) nonW; rw [hr0, size_l] at this; omega
  have hr := Lib.hid hr0
  have hp := Lib.hid hp0
  have hbw : b ≤ w.heap.size := by have := hw.lt; have := hw.2; omega
  unfold typesS at h
  rw [hr0, hp0] at h
  clear hr0 hp0
  cases hpt : ptOf r with
  | some n =>
    rw [hpt] at h
    simp only [Option.some.injEq] at h
    have HPT := Lib.hid hpt; clear hpt
    cases p
    all_goals
      simp only [if_true, if_false, Bool.false_eq_true] at h
      have HF := Lib.hid h; clear h
      go_enter Tryz.func183, Tryz.ntmps183
      go_wp2_with (first | (go_at_call 136; (with_reducible refine (cutNon _ _ r _ hr.out hp.out).mono ?_); rintro e w0 ⟨rfl, rfl⟩) | (go_at_call 100; (with_reducible refine (parseTypes_some r n HPT.out _ hl hrl).mono ?_); rintro e w1 ⟨rfl, hb1⟩; have hw1 := hw.below hb1; have c3 : w1.cell? ⟨g, 3, none⟩ = some (.int .i64 f.types) := hw1.cell 3; have c4 : w1.cell? ⟨g, 4, none⟩ = some (.int .i64 f.ntypes) := hw1.cell 4; have f3 := hw1.free 3; have f4 := hw1.free 4))
      go_ret
    · exact ⟨rfl, hw1.set_ 3 _ (by rw [← HF.out]; rfl), (Fr.of hb1 hbw).setCell hw.2 _⟩
    · exact ⟨rfl, hw1.set_ 4 _ (by rw [← HF.out]; rfl), (Fr.of hb1 hbw).setCell hw.2 _⟩
  | none =>
    rw [hpt] at h
    simp only at h
    have HPT := Lib.hid hpt; clear hpt
    by_cases hn : r = noneW
    · rw [if_pos hn] at h; cases h
    · rw [if_neg hn] at h
      have tn : (r == [110, 111, 110, 101]) = false := by simpa [noneW] using hn
      clear hn
      cases hpc : pcOf r with
      | none => rw [hpc] at h; cases h
      | some n =>
        rw [hpc] at h
        simp only [Option.some.injEq] at h
        have HPC := Lib.hid hpc; clear hpc
        cases p
        all_goals
          simp only [if_true, if_false, Bool.false_eq_true] at h
          have HF := Lib.hid h; clear h
          go_enter Tryz.func183, Tryz.ntmps183
          go_wp2_with (first | (go_at_call 136; (with_reducible refine (cutNon _ _ r _ hr.out hp.out).mono ?_); rintro e w0 ⟨rfl, rfl⟩) | (go_at_call 100; (with_reducible refine (parseTypes_none r HPT.out _ hl hrl).mono ?_); rintro e w1 ⟨rfl, hb1⟩; have hl1 := hl.below hb1) | (go_at_call 101; (with_reducible refine (colorParse_some r n HPC.out _ hl1).mono ?_); rintro e w2 ⟨rfl, hb2⟩; have hw1 := (hw.below hb1).below hb2; have c3 : w2.cell? ⟨g, 5, none⟩ = some (.int .i64 f.colors) := hw1.cell 5; have c4 : w2.cell? ⟨g, 6, none⟩ = some (.int .i64 f.ncolors) := hw1.cell 6; have f3 := hw1.free 5; have f4 := hw1.free 6))
          go_ret
        · exact ⟨rfl, hw1.set_ 5 _ (by rw [← HF.out]; rfl), (Fr.of (below_two hb1 hb2) hbw).setCell hw.2 _⟩
        · exact ⟨rfl, hw1.set_ 6 _ (by rw [← HF.out]; rfl), (Fr.of (below_two hb1 hb2) hbw).setCell hw.2 _⟩
set_option maxRecDepth 100000 in
theorem types_none (s : ByteArray) (f : Flt) (w : World) (hl : Laid w) (hs : s.size < 4294967281) (g : Nat) (h : typesS f (L s) = none) :
    Calls Tryz.prog 183 #[.pointer (some ⟨g, 0, none⟩), .string s] w fun e w' => e = .returned (.bool false) ∧ Below w.heap.size w w' := by
  obtain ⟨r, hr0⟩ : ∃ r, Lib.trimPrefix (L s) nonW = r := ⟨_, rfl⟩
  obtain ⟨p, hp0⟩ : ∃ p, Lib.hasPrefix (L s) nonW = p := ⟨_, rfl⟩
  have hrl : r.length < 4294967281 := by
    have := Lib.trimPrefix_le (L s) nonW; rw [hr0, size_l] at this; omega
  have hr := Lib.hid hr0
  have hp := Lib.hid hp0
  unfold typesS at h
  rw [hr0, hp0] at h
  clear hr0 hp0
  cases hpt : ptOf r with
  | some n => rw [hpt] at h; cases h
  | none =>
    rw [hpt] at h
    simp only at h
    have HPT := Lib.hid hpt; clear hpt
    by_cases hn : r = noneW
    · have tn : (r == [110, 111, 110, 101]) = true := by rw [hn]; decide
      clear h hn
      go_enter Tryz.func183, Tryz.ntmps183
      go_wp2_with (first | (go_at_call 136; (with_reducible refine (cutNon _ _ r _ hr.out hp.out).mono ?_); rintro e w0 ⟨rfl, rfl⟩) | (go_at_call 100; (with_reducible refine (parseTypes_none r HPT.out _ hl hrl).mono ?_); rintro e w1 ⟨rfl, hb1⟩))
      go_ret
      exact ⟨rfl, hb1⟩
    · rw [if_neg hn] at h
      have tn : (r == [110, 111, 110, 101]) = false := by simpa [noneW] using hn
      clear hn
      cases hpc : pcOf r with
      | some n => rw [hpc] at h; cases h
      | none =>
        have HPC := Lib.hid hpc; clear hpc h
        go_enter Tryz.func183, Tryz.ntmps183
        go_wp2_with (first | (go_at_call 136; (with_reducible refine (cutNon _ _ r _ hr.out hp.out).mono ?_); rintro e w0 ⟨rfl, rfl⟩) | (go_at_call 100; (with_reducible refine (parseTypes_none r HPT.out _ hl hrl).mono ?_); rintro e w1 ⟨rfl, hb1⟩; have hl1 := hl.below hb1) | (go_at_call 101; (with_reducible refine (colorParse_none r HPC.out _ hl1).mono ?_); rintro e w2 ⟨rfl, hb2⟩))
        go_ret
        exact ⟨rfl, below_two hb1 hb2⟩
end Go.Proofs.YtakgfbcmkhcdkaaGreatDoor
namespace Go.Proofs.YtakgfbcmkhcdkaaGreatDoor
set_option linter.all false
open Go.ChangeShapes Go.WideShapes Go.RowKit
theorem zoneOf_step {k : Nat} {s : Str} (hk : k ≤ 5) : (List.range' k (6 - k)).find? (fun z => wd zoneT z == s) = if wd zoneT k = s then some k else (List.range' (k + 1) (6 - (k + 1))).find? (fun z => wd zoneT z == s) := by
  rw [show 6 - k = (6 - (k + 1)) + 1 by omega, List.range'_succ, List.find?_cons]
  by_cases h : wd zoneT k = s
  · rw [if_pos h, show (wd zoneT k == s) = true by simpa using h]
  · rw [if_neg h, show (wd zoneT k == s) = false by simpa using h]
theorem toList_lit_yes {a : Str} {s : ByteArray} (h : L s = a) : (s.toList == a) = true := by rw [L_toList]; simpa using h
theorem toList_lit_no {a : Str} {s : ByteArray} (h : ¬ L s = a) : (s.toList == a) = false := by rw [L_toList]; simpa using h
set_option maxRecDepth 100000 in
theorem simple_zone (s : ByteArray) (f : Flt) (z : Nat) (w : World) (b g : Nat) (hw : Rd w b g f) (h : Hid (zoneOf (L s) = some z)) :
    Calls Tryz.prog 182 #[.pointer (some ⟨g, 0, none⟩), .string s] w fun e w' => e = .returned (.bool true) ∧ Rd w' b g { f with zone := (z : Int) } ∧ Fr g b w w' := by
  have c0 : w.cell? ⟨g, 0, none⟩ = some (.int .i64 f.zone) := hw.cell 0
  have f0 := hw.free 0
  go_enter Tryz.func182, Tryz.ntmps182
  go_wp2
  go_loop [5] (fun i => ∃ k : Nat, 1 ≤ k ∧ k ≤ 6 ∧ i = .int .i64 k ∧ Hid (zoneOf (L s) = (List.range' k (6 - k)).find? (fun z => wd zoneT z == L s))) (fun i => 6 - (intOf i).toNat)
  case atStart => exact ⟨1, by omega, by omega, rfl, rfl⟩
  case round =>
    obtain ⟨k, hk1, hk, rfl, HZ⟩ := hrel
    by_cases hlt : k ≤ 5
    · have hst := zoneOf_step (s := L s) hlt
      by_cases hm : wd zoneT k = L s
      · rw [if_pos hm] at hst
        have HM : Hid (zoneOf (L s) = some k) := Lib.hid (HZ.out.trans hst)
        have t1 := toList_yes hm
        clear hst hm
        obtain rfl : k = z := by have := HM.out.symm.trans h.out; injection this
        go_wp2_with (go_at_call 78; (with_reducible refine (zoneWord_any _ hlt _).mono ?_); rintro e w2 ⟨rfl, rfl⟩)
        go_ret
        exact ⟨rfl, hw.set_ 0 _ rfl, (Fr.refl _ _ _).setCell hw.2 _⟩
      · rw [if_neg hm] at hst
        have HN : Hid (zoneOf (L s) = (List.range' (k + 1) (6 - (k + 1))).find? (fun z => wd zoneT z == L s)) := Lib.hid (HZ.out.trans hst)
        have t1 := toList_no hm
        clear hst hm
        go_wp2_with (go_at_call 78; (with_reducible refine (zoneWord_any _ hlt _).mono ?_); rintro e w2 ⟨rfl, rfl⟩)
        go_round
        case rel => exact ⟨k + 1, by omega, by omega, by go_num, HN⟩
        case measure => simp [intOf]; omega
    · obtain rfl : k = 6 := by omega
      exfalso
      have := HZ.out.symm.trans h.out
      simp at this
set_option maxRecDepth 100000 in
theorem simple_w0 (s : ByteArray) (f : Flt) (w : World) (b g : Nat) (hw : Rd w b g f) (hz : Hid (zoneOf (L s) = none))  (h0 : Hid (L s = [121, 111, 117, 114, 115])) :
    Calls Tryz.prog 182 #[.pointer (some ⟨g, 0, none⟩), .string s] w fun e w' => e = .returned (.bool true) ∧ Rd w' b g { f with who := 1 } ∧ Fr g b w w' := by
  have c0 : w.cell? ⟨g, 1, none⟩ = some (.int .i64 f.who) := hw.cell 1
  have f0 := hw.free 1
  have t0 : (s.toList == [121, 111, 117, 114, 115]) = true := toList_lit_yes (h0.out)
  go_enter Tryz.func182, Tryz.ntmps182
  go_wp2
  go_loop [5] (fun i => ∃ k : Nat, 1 ≤ k ∧ k ≤ 6 ∧ i = .int .i64 k ∧ Hid (zoneOf (L s) = (List.range' k (6 - k)).find? (fun z => wd zoneT z == L s))) (fun i => 6 - (intOf i).toNat)
  case atStart => exact ⟨1, by omega, by omega, rfl, rfl⟩
  case round =>
    obtain ⟨k, hk1, hk, rfl, HZ⟩ := hrel
    by_cases hlt : k ≤ 5
    · have hst := zoneOf_step (s := L s) hlt
      by_cases hm : wd zoneT k = L s
      · rw [if_pos hm] at hst
        have HM : Hid (zoneOf (L s) = some k) := Lib.hid (HZ.out.trans hst)
        have t1 := toList_yes hm
        clear hst hm
        exfalso
        have := HM.out.symm.trans hz.out
        cases this
      · rw [if_neg hm] at hst
        have HN : Hid (zoneOf (L s) = (List.range' (k + 1) (6 - (k + 1))).find? (fun z => wd zoneT z == L s)) := Lib.hid (HZ.out.trans hst)
        have t1 := toList_no hm
        clear hst hm
        go_wp2_with (go_at_call 78; (with_reducible refine (zoneWord_any _ hlt _).mono ?_); rintro e w2 ⟨rfl, rfl⟩)
        go_round
        case rel => exact ⟨k + 1, by omega, by omega, by go_num, HN⟩
        case measure => simp [intOf]; omega
    · obtain rfl : k = 6 := by omega
      clear HZ hz
      go_wp2
      go_ret
      exact ⟨rfl, hw.set_ 1 _ rfl, (Fr.refl _ _ _).setCell hw.2 _⟩
set_option maxRecDepth 100000 in
theorem simple_w1 (s : ByteArray) (f : Flt) (w : World) (b g : Nat) (hw : Rd w b g f) (hz : Hid (zoneOf (L s) = none)) (h0 : Hid (¬ L s = [121, 111, 117, 114, 115])) (h1 : Hid (L s = [116, 104, 101, 105, 114, 115])) :
    Calls Tryz.prog 182 #[.pointer (some ⟨g, 0, none⟩), .string s] w fun e w' => e = .returned (.bool true) ∧ Rd w' b g { f with who := 2 } ∧ Fr g b w w' := by
  have c0 : w.cell? ⟨g, 1, none⟩ = some (.int .i64 f.who) := hw.cell 1
  have f0 := hw.free 1
  have t0 : (s.toList == [121, 111, 117, 114, 115]) = false := toList_lit_no (h0.out)
  have t1 : (s.toList == [116, 104, 101, 105, 114, 115]) = true := toList_lit_yes (h1.out)
  go_enter Tryz.func182, Tryz.ntmps182
  go_wp2
  go_loop [5] (fun i => ∃ k : Nat, 1 ≤ k ∧ k ≤ 6 ∧ i = .int .i64 k ∧ Hid (zoneOf (L s) = (List.range' k (6 - k)).find? (fun z => wd zoneT z == L s))) (fun i => 6 - (intOf i).toNat)
  case atStart => exact ⟨1, by omega, by omega, rfl, rfl⟩
  case round =>
    obtain ⟨k, hk1, hk, rfl, HZ⟩ := hrel
    by_cases hlt : k ≤ 5
    · have hst := zoneOf_step (s := L s) hlt
      by_cases hm : wd zoneT k = L s
      · rw [if_pos hm] at hst
        have HM : Hid (zoneOf (L s) = some k) := Lib.hid (HZ.out.trans hst)
        have t1 := toList_yes hm
        clear hst hm
        exfalso
        have := HM.out.symm.trans hz.out
        cases this
      · rw [if_neg hm] at hst
        have HN : Hid (zoneOf (L s) = (List.range' (k + 1) (6 - (k + 1))).find? (fun z => wd zoneT z == L s)) := Lib.hid (HZ.out.trans hst)
        have t1 := toList_no hm
        clear hst hm
        go_wp2_with (go_at_call 78; (with_reducible refine (zoneWord_any _ hlt _).mono ?_); rintro e w2 ⟨rfl, rfl⟩)
        go_round
        case rel => exact ⟨k + 1, by omega, by omega, by go_num, HN⟩
        case measure => simp [intOf]; omega
    · obtain rfl : k = 6 := by omega
      clear HZ hz
      go_wp2
      go_ret
      exact ⟨rfl, hw.set_ 1 _ rfl, (Fr.refl _ _ _).setCell hw.2 _⟩
set_option maxRecDepth 100000 in
theorem simple_w2 (s : ByteArray) (f : Flt) (w : World) (b g : Nat) (hw : Rd w b g f) (hz : Hid (zoneOf (L s) = none)) (h0 : Hid (¬ L s = [121, 111, 117, 114, 115])) (h1 : Hid (¬ L s = [116, 104, 101, 105, 114, 115])) (h2 : Hid (L s = [115, 101, 108, 102])) :
    Calls Tryz.prog 182 #[.pointer (some ⟨g, 0, none⟩), .string s] w fun e w' => e = .returned (.bool true) ∧ Rd w' b g { f with self := 1 } ∧ Fr g b w w' := by
  have c0 : w.cell? ⟨g, 2, none⟩ = some (.int .i64 f.self) := hw.cell 2
  have f0 := hw.free 2
  have t0 : (s.toList == [121, 111, 117, 114, 115]) = false := toList_lit_no (h0.out)
  have t1 : (s.toList == [116, 104, 101, 105, 114, 115]) = false := toList_lit_no (h1.out)
  have t2 : (s.toList == [115, 101, 108, 102]) = true := toList_lit_yes (h2.out)
  go_enter Tryz.func182, Tryz.ntmps182
  go_wp2
  go_loop [5] (fun i => ∃ k : Nat, 1 ≤ k ∧ k ≤ 6 ∧ i = .int .i64 k ∧ Hid (zoneOf (L s) = (List.range' k (6 - k)).find? (fun z => wd zoneT z == L s))) (fun i => 6 - (intOf i).toNat)
  case atStart => exact ⟨1, by omega, by omega, rfl, rfl⟩
  case round =>
    obtain ⟨k, hk1, hk, rfl, HZ⟩ := hrel
    by_cases hlt : k ≤ 5
    · have hst := zoneOf_step (s := L s) hlt
      by_cases hm : wd zoneT k = L s
      · rw [if_pos hm] at hst
        have HM : Hid (zoneOf (L s) = some k) := Lib.hid (HZ.out.trans hst)
        have t1 := toList_yes hm
        clear hst hm
        exfalso
        have := HM.out.symm.trans hz.out
        cases this
      · rw [if_neg hm] at hst
        have HN : Hid (zoneOf (L s) = (List.range' (k + 1) (6 - (k + 1))).find? (fun z => wd zoneT z == L s)) := Lib.hid (HZ.out.trans hst)
        have t1 := toList_no hm
        clear hst hm
        go_wp2_with (go_at_call 78; (with_reducible refine (zoneWord_any _ hlt _).mono ?_); rintro e w2 ⟨rfl, rfl⟩)
        go_round
        case rel => exact ⟨k + 1, by omega, by omega, by go_num, HN⟩
        case measure => simp [intOf]; omega
    · obtain rfl : k = 6 := by omega
      clear HZ hz
      go_wp2
      go_ret
      exact ⟨rfl, hw.set_ 2 _ rfl, (Fr.refl _ _ _).setCell hw.2 _⟩
set_option maxRecDepth 100000 in
theorem simple_w3 (s : ByteArray) (f : Flt) (w : World) (b g : Nat) (hw : Rd w b g f) (hz : Hid (zoneOf (L s) = none)) (h0 : Hid (¬ L s = [121, 111, 117, 114, 115])) (h1 : Hid (¬ L s = [116, 104, 101, 105, 114, 115])) (h2 : Hid (¬ L s = [115, 101, 108, 102])) (h3 : Hid (L s = [111, 116, 104, 101, 114])) :
    Calls Tryz.prog 182 #[.pointer (some ⟨g, 0, none⟩), .string s] w fun e w' => e = .returned (.bool true) ∧ Rd w' b g { f with self := 2 } ∧ Fr g b w w' := by
  have c0 : w.cell? ⟨g, 2, none⟩ = some (.int .i64 f.self) := hw.cell 2
  have f0 := hw.free 2
  have t0 : (s.toList == [121, 111, 117, 114, 115]) = false := toList_lit_no (h0.out)
  have t1 : (s.toList == [116, 104, 101, 105, 114, 115]) = false := toList_lit_no (h1.out)
  have t2 : (s.toList == [115, 101, 108, 102]) = false := toList_lit_no (h2.out)
  have t3 : (s.toList == [111, 116, 104, 101, 114]) = true := toList_lit_yes (h3.out)
  go_enter Tryz.func182, Tryz.ntmps182
  go_wp2
  go_loop [5] (fun i => ∃ k : Nat, 1 ≤ k ∧ k ≤ 6 ∧ i = .int .i64 k ∧ Hid (zoneOf (L s) = (List.range' k (6 - k)).find? (fun z => wd zoneT z == L s))) (fun i => 6 - (intOf i).toNat)
  case atStart => exact ⟨1, by omega, by omega, rfl, rfl⟩
  case round =>
    obtain ⟨k, hk1, hk, rfl, HZ⟩ := hrel
    by_cases hlt : k ≤ 5
    · have hst := zoneOf_step (s := L s) hlt
      by_cases hm : wd zoneT k = L s
      · rw [if_pos hm] at hst
        have HM : Hid (zoneOf (L s) = some k) := Lib.hid (HZ.out.trans hst)
        have t1 := toList_yes hm
        clear hst hm
        exfalso
        have := HM.out.symm.trans hz.out
        cases this
      · rw [if_neg hm] at hst
        have HN : Hid (zoneOf (L s) = (List.range' (k + 1) (6 - (k + 1))).find? (fun z => wd zoneT z == L s)) := Lib.hid (HZ.out.trans hst)
        have t1 := toList_no hm
        clear hst hm
        go_wp2_with (go_at_call 78; (with_reducible refine (zoneWord_any _ hlt _).mono ?_); rintro e w2 ⟨rfl, rfl⟩)
        go_round
        case rel => exact ⟨k + 1, by omega, by omega, by go_num, HN⟩
        case measure => simp [intOf]; omega
    · obtain rfl : k = 6 := by omega
      clear HZ hz
      go_wp2
      go_ret
      exact ⟨rfl, hw.set_ 2 _ rfl, (Fr.refl _ _ _).setCell hw.2 _⟩
set_option maxRecDepth 100000 in
theorem simple_w4 (s : ByteArray) (f : Flt) (w : World) (b g : Nat) (hw : Rd w b g f) (hz : Hid (zoneOf (L s) = none)) (h0 : Hid (¬ L s = [121, 111, 117, 114, 115])) (h1 : Hid (¬ L s = [116, 104, 101, 105, 114, 115])) (h2 : Hid (¬ L s = [115, 101, 108, 102])) (h3 : Hid (¬ L s = [111, 116, 104, 101, 114])) (h4 : Hid (L s = [116, 97, 112, 112, 101, 100])) :
    Calls Tryz.prog 182 #[.pointer (some ⟨g, 0, none⟩), .string s] w fun e w' => e = .returned (.bool true) ∧ Rd w' b g { f with tap := 1 } ∧ Fr g b w w' := by
  have c0 : w.cell? ⟨g, 9, none⟩ = some (.int .i64 f.tap) := hw.cell 9
  have f0 := hw.free 9
  have t0 : (s.toList == [121, 111, 117, 114, 115]) = false := toList_lit_no (h0.out)
  have t1 : (s.toList == [116, 104, 101, 105, 114, 115]) = false := toList_lit_no (h1.out)
  have t2 : (s.toList == [115, 101, 108, 102]) = false := toList_lit_no (h2.out)
  have t3 : (s.toList == [111, 116, 104, 101, 114]) = false := toList_lit_no (h3.out)
  have t4 : (s.toList == [116, 97, 112, 112, 101, 100]) = true := toList_lit_yes (h4.out)
  go_enter Tryz.func182, Tryz.ntmps182
  go_wp2
  go_loop [5] (fun i => ∃ k : Nat, 1 ≤ k ∧ k ≤ 6 ∧ i = .int .i64 k ∧ Hid (zoneOf (L s) = (List.range' k (6 - k)).find? (fun z => wd zoneT z == L s))) (fun i => 6 - (intOf i).toNat)
  case atStart => exact ⟨1, by omega, by omega, rfl, rfl⟩
  case round =>
    obtain ⟨k, hk1, hk, rfl, HZ⟩ := hrel
    by_cases hlt : k ≤ 5
    · have hst := zoneOf_step (s := L s) hlt
      by_cases hm : wd zoneT k = L s
      · rw [if_pos hm] at hst
        have HM : Hid (zoneOf (L s) = some k) := Lib.hid (HZ.out.trans hst)
        have t1 := toList_yes hm
        clear hst hm
        exfalso
        have := HM.out.symm.trans hz.out
        cases this
      · rw [if_neg hm] at hst
        have HN : Hid (zoneOf (L s) = (List.range' (k + 1) (6 - (k + 1))).find? (fun z => wd zoneT z == L s)) := Lib.hid (HZ.out.trans hst)
        have t1 := toList_no hm
        clear hst hm
        go_wp2_with (go_at_call 78; (with_reducible refine (zoneWord_any _ hlt _).mono ?_); rintro e w2 ⟨rfl, rfl⟩)
        go_round
        case rel => exact ⟨k + 1, by omega, by omega, by go_num, HN⟩
        case measure => simp [intOf]; omega
    · obtain rfl : k = 6 := by omega
      clear HZ hz
      go_wp2
      go_ret
      exact ⟨rfl, hw.set_ 9 _ rfl, (Fr.refl _ _ _).setCell hw.2 _⟩
set_option maxRecDepth 100000 in
theorem simple_w5 (s : ByteArray) (f : Flt) (w : World) (b g : Nat) (hw : Rd w b g f) (hz : Hid (zoneOf (L s) = none)) (h0 : Hid (¬ L s = [121, 111, 117, 114, 115])) (h1 : Hid (¬ L s = [116, 104, 101, 105, 114, 115])) (h2 : Hid (¬ L s = [115, 101, 108, 102])) (h3 : Hid (¬ L s = [111, 116, 104, 101, 114])) (h4 : Hid (¬ L s = [116, 97, 112, 112, 101, 100])) (h5 : Hid (L s = [117, 110, 116, 97, 112, 112, 101, 100])) :
    Calls Tryz.prog 182 #[.pointer (some ⟨g, 0, none⟩), .string s] w fun e w' => e = .returned (.bool true) ∧ Rd w' b g { f with tap := 2 } ∧ Fr g b w w' := by
  have c0 : w.cell? ⟨g, 9, none⟩ = some (.int .i64 f.tap) := hw.cell 9
  have f0 := hw.free 9
  have t0 : (s.toList == [121, 111, 117, 114, 115]) = false := toList_lit_no (h0.out)
  have t1 : (s.toList == [116, 104, 101, 105, 114, 115]) = false := toList_lit_no (h1.out)
  have t2 : (s.toList == [115, 101, 108, 102]) = false := toList_lit_no (h2.out)
  have t3 : (s.toList == [111, 116, 104, 101, 114]) = false := toList_lit_no (h3.out)
  have t4 : (s.toList == [116, 97, 112, 112, 101, 100]) = false := toList_lit_no (h4.out)
  have t5 : (s.toList == [117, 110, 116, 97, 112, 112, 101, 100]) = true := toList_lit_yes (h5.out)
  go_enter Tryz.func182, Tryz.ntmps182
  go_wp2
  go_loop [5] (fun i => ∃ k : Nat, 1 ≤ k ∧ k ≤ 6 ∧ i = .int .i64 k ∧ Hid (zoneOf (L s) = (List.range' k (6 - k)).find? (fun z => wd zoneT z == L s))) (fun i => 6 - (intOf i).toNat)
  case atStart => exact ⟨1, by omega, by omega, rfl, rfl⟩
  case round =>
    obtain ⟨k, hk1, hk, rfl, HZ⟩ := hrel
    by_cases hlt : k ≤ 5
    · have hst := zoneOf_step (s := L s) hlt
      by_cases hm : wd zoneT k = L s
      · rw [if_pos hm] at hst
        have HM : Hid (zoneOf (L s) = some k) := Lib.hid (HZ.out.trans hst)
        have t1 := toList_yes hm
        clear hst hm
        exfalso
        have := HM.out.symm.trans hz.out
        cases this
      · rw [if_neg hm] at hst
        have HN : Hid (zoneOf (L s) = (List.range' (k + 1) (6 - (k + 1))).find? (fun z => wd zoneT z == L s)) := Lib.hid (HZ.out.trans hst)
        have t1 := toList_no hm
        clear hst hm
        go_wp2_with (go_at_call 78; (with_reducible refine (zoneWord_any _ hlt _).mono ?_); rintro e w2 ⟨rfl, rfl⟩)
        go_round
        case rel => exact ⟨k + 1, by omega, by omega, by go_num, HN⟩
        case measure => simp [intOf]; omega
    · obtain rfl : k = 6 := by omega
      clear HZ hz
      go_wp2
      go_ret
      exact ⟨rfl, hw.set_ 9 _ rfl, (Fr.refl _ _ _).setCell hw.2 _⟩
set_option maxRecDepth 100000 in
theorem simple_no (s : ByteArray) (w : World) (g : Nat) (hz : Hid (zoneOf (L s) = none)) (h0 : Hid (¬ L s = [121, 111, 117, 114, 115])) (h1 : Hid (¬ L s = [116, 104, 101, 105, 114, 115])) (h2 : Hid (¬ L s = [115, 101, 108, 102])) (h3 : Hid (¬ L s = [111, 116, 104, 101, 114])) (h4 : Hid (¬ L s = [116, 97, 112, 112, 101, 100])) (h5 : Hid (¬ L s = [117, 110, 116, 97, 112, 112, 101, 100])) :
    Calls Tryz.prog 182 #[.pointer (some ⟨g, 0, none⟩), .string s] w fun e w' => e = .returned (.bool false) ∧ w = w' := by
  have t0 : (s.toList == [121, 111, 117, 114, 115]) = false := toList_lit_no (h0.out)
  have t1 : (s.toList == [116, 104, 101, 105, 114, 115]) = false := toList_lit_no (h1.out)
  have t2 : (s.toList == [115, 101, 108, 102]) = false := toList_lit_no (h2.out)
  have t3 : (s.toList == [111, 116, 104, 101, 114]) = false := toList_lit_no (h3.out)
  have t4 : (s.toList == [116, 97, 112, 112, 101, 100]) = false := toList_lit_no (h4.out)
  have t5 : (s.toList == [117, 110, 116, 97, 112, 112, 101, 100]) = false := toList_lit_no (h5.out)
  go_enter Tryz.func182, Tryz.ntmps182
  go_wp2
  go_loop [5] (fun i => ∃ k : Nat, 1 ≤ k ∧ k ≤ 6 ∧ i = .int .i64 k ∧ Hid (zoneOf (L s) = (List.range' k (6 - k)).find? (fun z => wd zoneT z == L s))) (fun i => 6 - (intOf i).toNat)
  case atStart => exact ⟨1, by omega, by omega, rfl, rfl⟩
  case round =>
    obtain ⟨k, hk1, hk, rfl, HZ⟩ := hrel
    by_cases hlt : k ≤ 5
    · have hst := zoneOf_step (s := L s) hlt
      by_cases hm : wd zoneT k = L s
      · rw [if_pos hm] at hst
        have HM : Hid (zoneOf (L s) = some k) := Lib.hid (HZ.out.trans hst)
        have t1 := toList_yes hm
        clear hst hm
        exfalso
        have := HM.out.symm.trans hz.out
        cases this
      · rw [if_neg hm] at hst
        have HN : Hid (zoneOf (L s) = (List.range' (k + 1) (6 - (k + 1))).find? (fun z => wd zoneT z == L s)) := Lib.hid (HZ.out.trans hst)
        have t1 := toList_no hm
        clear hst hm
        go_wp2_with (go_at_call 78; (with_reducible refine (zoneWord_any _ hlt _).mono ?_); rintro e w2 ⟨rfl, rfl⟩)
        go_round
        case rel => exact ⟨k + 1, by omega, by omega, by go_num, HN⟩
        case measure => simp [intOf]; omega
    · obtain rfl : k = 6 := by omega
      clear HZ hz
      go_wp2
      go_ret
      exact ⟨rfl, rfl⟩
theorem simple_some (s : ByteArray) (f f' : Flt) (w : World) (b g : Nat) (hw : Rd w b g f) (h : simpleS f (L s) = some f') :
    Calls Tryz.prog 182 #[.pointer (some ⟨g, 0, none⟩), .string s] w fun e w' => e = .returned (.bool true) ∧ Rd w' b g f' ∧ Fr g b w w' := by
  unfold simpleS at h
  cases hz : zoneOf (L s) with
  | some z => rw [hz] at h; injection h with h; subst h; exact simple_zone s f z w b g hw hz
  | none =>
    rw [hz] at h; simp only at h
    by_cases h0 : L s = wd whoT 1
    · rw [if_pos h0] at h; injection h with h; subst h; exact simple_w0 s f w b g hw hz h0
    · rw [if_neg h0] at h
      by_cases h1 : L s = wd whoT 2
      · rw [if_pos h1] at h; injection h with h; subst h; exact simple_w1 s f w b g hw hz h0 h1
      · rw [if_neg h1] at h
        by_cases h2 : L s = wd selfT 1
        · rw [if_pos h2] at h; injection h with h; subst h; exact simple_w2 s f w b g hw hz h0 h1 h2
        · rw [if_neg h2] at h
          by_cases h3 : L s = wd selfT 2
          · rw [if_pos h3] at h; injection h with h; subst h; exact simple_w3 s f w b g hw hz h0 h1 h2 h3
          · rw [if_neg h3] at h
            by_cases h4 : L s = wd tapT 1
            · rw [if_pos h4] at h; injection h with h; subst h; exact simple_w4 s f w b g hw hz h0 h1 h2 h3 h4
            · rw [if_neg h4] at h
              by_cases h5 : L s = wd tapT 2
              · rw [if_pos h5] at h; injection h with h; subst h; exact simple_w5 s f w b g hw hz h0 h1 h2 h3 h4 h5
              · rw [if_neg h5] at h
                cases h
theorem simple_none (s : ByteArray) (f : Flt) (w : World) (g : Nat) (h : simpleS f (L s) = none) :
    Calls Tryz.prog 182 #[.pointer (some ⟨g, 0, none⟩), .string s] w fun e w' => e = .returned (.bool false) ∧ w = w' := by
  unfold simpleS at h
  cases hz : zoneOf (L s) with
  | some z => rw [hz] at h; cases h
  | none =>
    rw [hz] at h; simp only at h
    by_cases h0 : L s = wd whoT 1
    · rw [if_pos h0] at h; cases h
    · rw [if_neg h0] at h
      by_cases h1 : L s = wd whoT 2
      · rw [if_pos h1] at h; cases h
      · rw [if_neg h1] at h
        by_cases h2 : L s = wd selfT 1
        · rw [if_pos h2] at h; cases h
        · rw [if_neg h2] at h
          by_cases h3 : L s = wd selfT 2
          · rw [if_pos h3] at h; cases h
          · rw [if_neg h3] at h
            by_cases h4 : L s = wd tapT 1
            · rw [if_pos h4] at h; cases h
            · rw [if_neg h4] at h
              by_cases h5 : L s = wd tapT 2
              · rw [if_pos h5] at h; cases h
              · rw [if_neg h5] at h
                exact simple_no s w g hz h0 h1 h2 h3 h4 h5
end Go.Proofs.YtakgfbcmkhcdkaaGreatDoor
