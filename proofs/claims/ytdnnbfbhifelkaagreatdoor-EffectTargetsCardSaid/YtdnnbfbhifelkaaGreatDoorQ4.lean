/- Walks of the reference: package cardgameref02: low, Is, Depth. Conditions: none. Plain words: a text cut at a byte outside brackets. No program in sight. Walks of the reference: package cardgameref -/
import Derived.Test.YtdnnbfbhifelkaaGreatDoorQ1
import Derived.Test.YtdnnbfbhifelkaaGreatDoorQ2
import Derived.Lib.SmallJoins
import Derived.Lib.SlBytesRow
import Derived.Deep.RegionHeld3
import Derived.Deep.DeepCutAuto
import Derived.Test.YtdnnbfbhifelkaaGreatDoorQ3
import Derived.StillTailTactics
set_option linter.all false
set_option maxRecDepth 100000
set_option maxHeartbeats 16000000
namespace Go.Proofs.YtdnnbfbhifelkaaGreatDoor
open Go.ChangeShapes Go.WideShapes Go.RowKit
theorem contains_cons (a : UInt8) (r : Str) : Lib.contains (a :: r) [45, 45] = (([45, 45] : Str).isPrefixOf (a :: r) || Lib.contains r [45, 45]) := by
 have hge := Lib.index_ge r [45, 45]
 unfold Lib.contains
 rw [Lib.index]
 cases hp : ([45, 45] : Str).isPrefixOf (a :: r) with
 | true => simp
 | false =>
   simp only [Bool.false_eq_true, if_false, Bool.false_or]
   by_cases h : Lib.index r [45, 45] = -1
   ·rw [h]; rfl
   ·have hb : (Lib.index r [45, 45] == -1) = false := by rw [beq_eq_false_iff_ne]; exact h
    rw [hb, Bool.eq_iff_iff]; simp; omega
end Go.Proofs.YtdnnbfbhifelkaaGreatDoor
namespace Go.Proofs.YtdnnbfbhifelkaaGreatDoor
def depStep (n : Nat) (c : UInt8) : Nat := if c == 40 || c == 91 then n + 1 else if (c == 41 || c == 93) && 0 < n then n - 1 else n
def depS (l : Str) : Nat := l.foldl depStep 0
def dst (c : UInt8) (s : Str) : Nat → List Str × Nat
 | 0 => ([], 0)
 | i + 1 => if s.getD i 0 == c && depS (s.take i) == 0 then ((dst c s i).1 ++ [(s.take i).drop (dst c s i).2], i + 1) else dst c s i
def Flat (s : Str) : Prop := s.all (fun c => !(c == 40 || (c == 41 || (c == 91 || c == 93)))) = true
theorem Flat.take {s : Str} (h : Flat s) (i : Nat) : Flat (s.take i) := List.all_eq_true.2 fun c hc => List.all_eq_true.1 h c (List.mem_of_mem_take hc)
end Go.Proofs.YtdnnbfbhifelkaaGreatDoor
namespace Go.Proofs.YtdnnbfbhifelkaaGreatDoor
open Go.ChangeShapes Go.WideShapes Go.RowKit
end Go.Proofs.YtdnnbfbhifelkaaGreatDoor
namespace Go.Proofs.YtdnnbfbhifelkaaGreatDoor
end Go.Proofs.YtdnnbfbhifelkaaGreatDoor
namespace Go.Proofs.YtdnnbfbhifelkaaGreatDoor
open Go.ChangeShapes Go.WideShapes Go.RowKit
end Go.Proofs.YtdnnbfbhifelkaaGreatDoor
namespace Go.Proofs.YtdnnbfbhifelkaaGreatDoor
end Go.Proofs.YtdnnbfbhifelkaaGreatDoor
namespace Go.Proofs.YtdnnbfbhifelkaaGreatDoor
open Go.ChangeShapes Go.WideShapes Go.RowKit
def BWh (w w1 : World) (k n g : Nat) (x : Str) (w' : World) : Prop := w'.cell? ⟨g, k, none⟩ = some (.string (B x)) ∧ w'.cell? ⟨w.heap.size, 0, none⟩ = some (.int .i64 k) ∧ w'.cell? ⟨w.heap.size, 1, none⟩ = some (.int .i64 n) ∧ Below w1.heap.size w1 w'
theorem BWh.out {w w1 w' : World} {k n g : Nat} {x : Str} (h : BWh w w1 k n g x w') : w'.cell? ⟨g, k, none⟩ = some (.string (B x)) ∧ w'.cell? ⟨w.heap.size, 0, none⟩ = some (.int .i64 k) ∧ w'.cell? ⟨w.heap.size, 1, none⟩ = some (.int .i64 n) ∧ Below w1.heap.size w1 w' := h
theorem BWh.below {w w1 w2 w3 : World} {k n g : Nat} {x : Str} (h : BWh w w1 k n g x w2) (hb : Below w2.heap.size w2 w3) : BWh w w1 k n g x w3 := ⟨cell_below hb h.1, cell_below hb h.2.1, cell_below hb h.2.2.1, below_two h.2.2.2 hb⟩
theorem BWh.drew {w w1 w2 : World} {k n g : Nat} {x : Str} (h : BWh w w1 k n g x w2) : BWh w w1 k n g x w2.drew := h.below (Below.refl _ _).drew
abbrev TB : Nat := 23
def RB (w : World) (g : Nat) (f : Flt) : Prop := w.heap[g]? = some (.cells f.cells TF (0, 0))
theorem RB.lt {w : World} {g : Nat} {f : Flt} (h : RB w g f) : g < w.heap.size := (Array.getElem?_eq_some_iff.1 h).1
theorem RB.cell {w : World} {g : Nat} {f : Flt} (h : RB w g f) (j : Nat) : w.cell? ⟨g, j, none⟩ = f.cells[j]? := cell_of_row w g j f.cells TF (0, 0) h
theorem RB.free {w : World} {g : Nat} {f : Flt} (h : RB w g f) (j : Nat) : w.frozen? ⟨g, j, none⟩ = false := by unfold RB at h; simp [World.frozen?, h]
theorem RB.set_ {w : World} {g : Nat} {f f' : Flt} (h : RB w g f) (j : Nat) (u : Value) (hf : f.cells.setIfInBounds j u = f'.cells) : RB (w.setCell ⟨g, j, none⟩ u) g f' := by
 unfold RB at *
 rw [← hf]; simp [World.setCell, Array.getElem?_modify, h]
theorem RB.below {w w' : World} {g : Nat} {f : Flt} (h : RB w g f) (hb : Below w.heap.size w w') : RB w' g f := (hb.block g h.lt).trans h
def At (b : Nat) (W : World) (g j : Nat) (v : Value) : Prop := g < b ∧ W.cell? ⟨g, j, none⟩ = some v
theorem At.of {W : World} {g j : Nat} {v : Value} (h : W.cell? ⟨g, j, none⟩ = some v) : At W.heap.size W g j v := ⟨World.block_lt_of_cell? W _ h, h⟩
theorem At.get {b : Nat} {W w' : World} {g j : Nat} {v : Value} (h : At b W g j v) (hb : Below b W w') : w'.cell? ⟨g, j, none⟩ = some v := cell_belowB hb h.1 h.2
section words
variable (a b c d e f g : Int) (s : ByteArray) (k t p q u v y z : Int)
end words
theorem Flat.app {a b : Str} (ha : Flat a) (hb : Flat b) : Flat (a ++ b) := by
 unfold Flat at *; rw [List.all_append, ha, hb]; rfl
end Go.Proofs.YtdnnbfbhifelkaaGreatDoor
namespace Go.Proofs.YtdnnbfbhifelkaaGreatDoor
open Go.ChangeShapes Go.WideShapes Go.RowKit
theorem Fr.setRow {g b : Nat} {w w' : World} (h : Fr g b w w') (cs : Array Value) (hg : b ≤ g := by exact Nat.le_refl _) : Fr g b w (w'.setRow g cs) := ⟨below_setRow h.bel hg cs, fun k hk hkg => (setRow_other w' g k cs (by omega)).trans (h.keep k hk hkg)⟩
end Go.Proofs.YtdnnbfbhifelkaaGreatDoor
