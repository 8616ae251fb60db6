/- Plain words on memory: slices that the call owns, lists of texts and numbers in memory. No program in sight. Conditions: none. -/
import Derived.Test.YthpleohkngfdfaaGreatDoorPure
import Derived.Below
import Derived.Laws.OwnMore
import Derived.Deep.Draws
namespace Go.Proofs.YthpleohkngfdfaaGreatDoor
set_option linter.all false
open Go.RowKit
theorem own_form {w : World} {base e n : Nat} {v : Value} {xs : List Value} (h : w.ownsRow base e 1 v n xs) : ∃ A c, v = .slice A n c ∧ n ≤ c := by
  rcases h.2 with ⟨rfl, rfl⟩ | ⟨g, cap, cur, rfl, _, _, hn, _⟩
  · exact ⟨none, 0, rfl, Nat.le_refl _⟩
  · exact ⟨_, cap, rfl, hn⟩
theorem own_at {w : World} {base e n c k : Nat} {A : Option Addr} {xs : List Value} (h : w.ownsRow base e 1 (.slice A n c) n xs) (hk : k < n) :
    ∃ g, A = some ⟨g, 0, none⟩ ∧ base ≤ g ∧ g < w.heap.size ∧ ∀ j, j < n → w.cell? ⟨g, j, none⟩ = xs[j]? := by
  rcases h.2 with ⟨_, rfl⟩ | ⟨g, cap, cur, hv, hg, hh, hn, _⟩
  · omega
  · have hA : A = some ⟨g, 0, none⟩ := by injection hv
    have hlt := (h.lt g (by simp [Value.ownBlock, hA])).2
    subst hA
    refine ⟨g, rfl, hg, hlt, fun j hj => h.cellAt j (by omega)⟩
theorem own_base {w : World} {base base' e size n : Nat} {v : Value} {xs : List Value} (h : w.ownsRow base e size v n xs) (hb : base' ≤ base) : w.ownsRow base' e size v n xs := by
  obtain ⟨h1, h2⟩ := h
  exact ⟨h1, h2.imp id fun ⟨g, cap, cur, hv, hg, r⟩ => ⟨g, cap, cur, hv, by omega, r⟩⟩
/-- What the call owns below block number B stays owned while only blocks from B on turn. -/
theorem own_below {w w' : World} {base e size n : Nat} {v : Value} {xs : List Value} (h : w.ownsRow base e size v n xs) (hb : Below w.heap.size w w') : w'.ownsRow base e size v n xs := by
  obtain ⟨h1, h2⟩ := h
  refine ⟨h1, h2.imp id fun ⟨g, cap, cur, hv, hg, hh, r⟩ => ⟨g, cap, cur, hv, hg, ?_, r⟩⟩
  rw [hb.block g (Array.getElem?_eq_some_iff.1 hh).1]; exact hh
theorem below_all {B : Nat} {a b c : World} (h : Below B a b) (k : Below b.heap.size b c) (hB : B ≤ b.heap.size) : Below B a c := h.trans (k.mono hB)
theorem below_two {a b c : World} (h : Below a.heap.size a b) (k : Below b.heap.size b c) : Below a.heap.size a c := h.trans (k.mono h.size)
theorem below_drewN {B : Nat} {a w : World} (h : Below B a w) (n : Nat) : Below B a (w.drewN n) := ⟨h.os, h.tape, h.output, h.size, h.block⟩
theorem cell_below {w w' : World} (h : Below w.heap.size w w') {g j : Nat} {v : Value} (hc : w.cell? ⟨g, j, none⟩ = some v) : w'.cell? ⟨g, j, none⟩ = some v :=
  (h.cell (World.block_lt_of_cell? w _ hc)).trans hc
theorem intCells_at {l : List Nat} {k : Nat} (h : k < l.length) : (intCells l)[k]? = some (.int .i64 ((l[k] : Nat) : Int)) := by simp [intCells, h]
theorem strCells_at {l : List Str} {k : Nat} (h : k < l.length) : (strCells l)[k]? = some (.string (B l[k])) := by simp [strCells, h]
/-- The value is a slice over new memory (from block 'base' on) that holds the texts l. -/
def Texts (w : World) (base : Nat) (l : List Str) (v : Value) : Prop := w.ownsRow base 9 1 v l.length (strCells l)
def Nums (w : World) (base : Nat) (l : List Nat) (v : Value) : Prop := w.ownsRow base 3 1 v l.length (intCells l)
theorem Texts.nil (w : World) (base : Nat) : Texts w base [] (.slice none 0 0) := World.ownsRow_nil _ _ _ _
theorem Texts.form {w : World} {base : Nat} {l : List Str} {v : Value} (h : Texts w base l v) : ∃ A c, v = .slice A l.length c ∧ l.length ≤ c := own_form h
theorem Nums.form {w : World} {base : Nat} {l : List Nat} {v : Value} (h : Nums w base l v) : ∃ A c, v = .slice A l.length c ∧ l.length ≤ c := own_form h
theorem Texts.base {w : World} {base base' : Nat} {l : List Str} {v : Value} (h : Texts w base l v) (hb : base' ≤ base) : Texts w base' l v := own_base h hb
theorem Texts.below {w w' : World} {base : Nat} {l : List Str} {v : Value} (h : Texts w base l v) (hb : Below w.heap.size w w') : Texts w' base l v := own_below h hb
theorem Nums.below {w w' : World} {base : Nat} {l : List Nat} {v : Value} (h : Nums w base l v) (hb : Below w.heap.size w w') : Nums w' base l v := own_below h hb
theorem Nums.at_ {w : World} {base c k : Nat} {A : Option Addr} {l : List Nat} (h : Nums w base l (.slice A l.length c)) (hk : k < l.length) :
    ∃ g, A = some ⟨g, 0, none⟩ ∧ g < w.heap.size ∧ w.cell? ⟨g, k, none⟩ = some (.int .i64 ((l[k] : Nat) : Int)) := by
  obtain ⟨g, hA, _, hg, hc⟩ := own_at h hk
  exact ⟨g, hA, hg, (hc k hk).trans (intCells_at hk)⟩
theorem Texts.at_ {w : World} {base c k : Nat} {A : Option Addr} {l : List Str} (h : Texts w base l (.slice A l.length c)) (hk : k < l.length) :
    ∃ g, A = some ⟨g, 0, none⟩ ∧ g < w.heap.size ∧ w.cell? ⟨g, k, none⟩ = some (.string (B l[k])) := by
  obtain ⟨g, hA, _, hg, hc⟩ := own_at h hk
  exact ⟨g, hA, hg, (hc k hk).trans (strCells_at hk)⟩
theorem cell_belowB {W w' : World} {b : Nat} (h : Below b W w') {g j : Nat} {v : Value} (hg : g < b) (hc : W.cell? ⟨g, j, none⟩ = some v) : w'.cell? ⟨g, j, none⟩ = some v :=
  (h.cell (p := ⟨g, j, none⟩) hg).trans hc
end Go.Proofs.YthpleohkngfdfaaGreatDoor
