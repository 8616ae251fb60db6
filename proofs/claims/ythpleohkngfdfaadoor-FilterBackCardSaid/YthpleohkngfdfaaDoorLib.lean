/- Walks: the library's functions in this program's words: strings.Split, Join, CutPrefix, IndexByte; strconv.Itoa, Atoi. Conditions: none. -/
import Derived.Test.YthpleohkngfdfaaDoorPush
import Derived.Test.YthpleohkngfdfaaDoorSplit
import Derived.Test.YthpleohkngfdfaaDoorWord
namespace Go.Proofs.YthpleohkngfdfaaDoor
set_option linter.all false
open Go.ChangeShapes Go.WideShapes Go.RowKit
/-- The variable names of package color. -/
def colorRow : Array Value := #[.string ⟨#[97, 109, 98, 101, 114]⟩, .string ⟨#[99, 111, 98, 97, 108, 116]⟩, .string ⟨#[106, 101, 116]⟩, .string ⟨#[114, 117, 98, 121]⟩, .string ⟨#[101, 109, 101, 114, 97, 108, 100]⟩]
/-- What the call is given of the package-level variables. -/
structure Laid (w : World) : Prop where
  shaped : w.ShapedOpen Tryd.prog
  tab : Lib.TabIs Tryd.prog w "internal/strconv.uint64pow10" .u64 Lib.pow10Tab
  syn : ∃ te pe, w.cell? ⟨5, 0, none⟩ = some (.iface te pe)
  rng : ∃ te pe, w.cell? ⟨6, 0, none⟩ = some (.iface te pe)
  names : ∃ ty fr, w.heap[(0 : Nat)]? = some (.cells colorRow ty fr)
  size : 9 ≤ w.heap.size
/-- A slice that the call made, over texts. -/
def RetTexts (w : World) (l : List Str) (e : Ending) (w' : World) : Prop := ∃ A c, e = .returned (.slice A l.length c) ∧ Texts w' w.heap.size l (.slice A l.length c) ∧ Below w.heap.size w w'
theorem split_any (s : ByteArray) (c : UInt8) (w : World) (h : w.ShapedOpen Tryd.prog) (hs : s.size < 4294967281) :
    Calls Tryd.prog 19 #[.string s, .string ⟨#[c]⟩] w (RetTexts w (splitOn c (L s))) :=
  (Tryd.strings_Split_shaped s ⟨#[c]⟩ w h hs (Nat.le_refl 1)).mono fun e w' ⟨he, hw⟩ => by
    have hL := splitB_L c s
    have hlen : (Lib.splitB ⟨#[c]⟩ 0 (Lib.countB s ⟨#[c]⟩) s).length = Lib.countB s ⟨#[c]⟩ + 1 := Lib.splitB_all ⟨#[c]⟩ (Nat.le_refl 1) 0 _ s rfl
    have hl2 : (splitOn c (L s)).length = Lib.countB s ⟨#[c]⟩ + 1 := by rw [← hL, List.length_map, hlen]
    have hle := splitOn_len c (L s)
    rw [size_l] at hle
    rw [← hl2] at he
    refine ⟨_, _, he, ?_, hw ▸ (Below.refl _ _).alloc (Nat.le_refl _) _⟩
    subst hw
    refine ⟨by rw [strCells_length]; omega, .inr ⟨w.heap.size, _, _, rfl, Nat.le_refl _, heap_alloc_new w _, Nat.le_refl _, by unfold maxLen; omega, ?_, ?_⟩⟩
    · simp [hlen, hl2]
    · simp only [List.toList_toArray, Nat.mul_one]
      rw [List.take_of_length_le (by simp [hlen, hl2]), ← hL, strCells, List.map_map]
      rfl
theorem join_any (l : List Str) (A : Option Addr) (c base : Nat) (sep : ByteArray) (w : World) (h : Texts w base l (.slice A l.length c)) (hN : l.length ≤ 100000000) (sl : Str) (hs : L sep = sl) (hlen : (Lib.join l sl).length ≤ 140737488355328) :
    Calls Tryd.prog 17 #[.slice A l.length c, .string sep] w fun e w' => e = .returned (.string (B (Lib.join l sl))) ∧ Below w.heap.size w w' := by
  subst hs
  cases l with
  | nil => exact (Tryd.strings_Join_none A c sep w).mono fun e w' ⟨he, hw⟩ => ⟨he, hw ▸ Below.refl _ _⟩
  | cons x r =>
    obtain ⟨A', c', hv, hc⟩ := Texts.form h
    have hcc : c' = c := by injection hv with _ _ h3; exact h3.symm
    subst hcc
    obtain ⟨g, rfl, hb, hg, hcell⟩ := own_at h (k := 0) (by simp)
    have hm : ((x :: r).map B).map (·.data.toList) = x :: r := by rw [List.map_map]; exact List.map_id _
    have hcl : ∀ (j : Nat) y, ((x :: r).map B)[j]? = some y → w.cell? ⟨g, 0 + j, none⟩ = some (.string y) := by
      intro j y hj
      have hj' : j < (x :: r).length := by
        rcases Nat.lt_or_ge j (x :: r).length with h' | h'
        · exact h'
        · rw [List.getElem?_eq_none (by simpa using h')] at hj; cases hj
      rw [Nat.zero_add, hcell j hj', strCells_at hj']
      rw [List.getElem?_map, List.getElem?_eq_getElem hj'] at hj
      simpa using hj
    have hJ := Tryd.strings_Join g 0 c' ((x :: r).map B) sep w hcl hg (by simp at hN ⊢; omega) (by simpa using hc) (by rw [hm]; exact hlen)
    rw [hm, List.length_map] at hJ
    exact hJ
theorem cutPrefix_any (s p : ByteArray) (w : World) (pl : Str) (hp : L p = pl) :
    Calls Tryd.prog 30 #[.string s, .string p] w fun e w' => e = .returned (.tuple #[.string (B (Lib.trimPrefix (L s) pl)), .bool (Lib.hasPrefix (L s) pl)]) ∧ w = w' := by
  subst hp
  exact (Tryd.strings_CutPrefix s p w).mono fun _ _ h => ⟨h.1, h.2.symm⟩
theorem indexByte_any (s : ByteArray) (c : UInt8) (w : World) :
    Calls Tryd.prog 49 #[.string s, .int .u8 c.toNat] w fun e w' => e = .returned (.int .i64 (Lib.indexByte (L s) c)) ∧ w = w' :=
  (Tryd.strings_IndexByte s c.toNat w).mono fun _ _ h => ⟨by have := h.1; rwa [Int.toNat_natCast, show c.toNat.toUInt8 = c from by simp [Nat.toUInt8]] at this, h.2.symm⟩
theorem itoa_any (n : Int) (h0 : -9223372036854775808 ≤ n) (h1 : n ≤ 9223372036854775807) (w : World) (hl : Laid w) :
    Calls Tryd.prog 41 #[.int .i64 n] w fun e w' => e = .returned (.string (B (Lib.itoa n))) ∧ Below w.heap.size w w' :=
  (Tryd.strconv_Itoa n h0 h1 w hl.tab).mono fun e w' ⟨he, k, os, hw⟩ => ⟨he, by
    subst hw
    exact ⟨rfl, rfl, rfl, by simp [Sort.grow], fun i hi => by simp [Sort.grow, Array.getElem?_append, show i < w.heap.size from hi]⟩⟩
/-- strconv.Atoi: the number, or an error that is not nil. -/
theorem atoi_any (s : ByteArray) (w : World) (hl : Laid w) (hs : s.size < 4294967281) :
    Calls Tryd.prog 64 #[.string s] w fun e w' => Below w.heap.size w w' ∧ ((∃ v, Lib.atoiAll (L s) = .ok v ∧ e = .returned (.tuple #[.int .i64 v, .nilIface])) ∨ ((∀ v, Lib.atoiAll (L s) ≠ .ok v) ∧ ∃ v t p, e = .returned (.tuple #[.int .i64 v, .iface t p]))) := by
  cases h : Lib.atoiAll (L s) with
  | ok v => exact (Tryd.strconv_Atoi_ok s (by omega) v h w).mono fun e w' ⟨he, hw⟩ => ⟨by
      rcases hw with rfl | ⟨t, rfl⟩
      · exact Below.refl _ _
      · exact bytesWorld_below w _ t, .inl ⟨v, rfl, he⟩⟩
  | range => 
    obtain ⟨te, pe, hv⟩ := hl.rng
    exact (Tryd.strconv_Atoi_range s (by omega) h _ w hv (.inr ⟨te, pe, rfl⟩)).mono fun e w' ⟨N, he, _, _, hb⟩ => ⟨hb, .inr ⟨(fun v hv => by cases hv), _, _, _, he⟩⟩
  | _ =>
    obtain ⟨te, pe, hv⟩ := hl.syn
    exact (Any.strconv_Atoi_syntax Tryd.laysC172 s (by omega) h _ w hv (.inr ⟨te, pe, rfl⟩)).mono fun e w' ⟨N, he, _, _, hb⟩ => ⟨hb, .inr ⟨(fun v hv => by cases hv), _, _, _, he⟩⟩
end Go.Proofs.YthpleohkngfdfaaDoor
