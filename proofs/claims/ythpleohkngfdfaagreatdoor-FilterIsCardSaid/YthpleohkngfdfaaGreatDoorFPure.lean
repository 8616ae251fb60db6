/- Plain words: a filter's words and text. No program in sight. -/
import Derived.Test.YthpleohkngfdfaaGreatDoorWr
import Derived.Lib.ItoaLen
import Derived.Test.YthpleohkngfdfaaGreatDoorSplit
namespace Go.Proofs.YthpleohkngfdfaaGreatDoor
set_option linter.all false
def zoneT : List Str := [[], [105, 110, 45, 104, 97, 110, 100], [105, 110, 45, 108, 105, 98, 114, 97, 114, 121], [105, 110, 45, 103, 114, 97, 118, 101, 121, 97, 114, 100], [105, 110, 45, 101, 120, 105, 108, 101], [111, 110, 45, 115, 116, 97, 99, 107]]
def whoT : List Str := [[], [121, 111, 117, 114, 115], [116, 104, 101, 105, 114, 115]]
def selfT : List Str := [[], [115, 101, 108, 102], [111, 116, 104, 101, 114]]
def tapT : List Str := [[], [116, 97, 112, 112, 101, 100], [117, 110, 116, 97, 112, 112, 101, 100]]
def signT : List Str := [[], [62, 61], [60, 61], [61]]
def nonW : Str := [110, 111, 110, 45]
def withW : Str := [119, 105, 116, 104, 58]
def subW : Str := [115, 117, 98, 58]
def anyW : Str := [97, 110, 121]
def powerW : Str := [112, 111, 119, 101, 114]
def toughW : Str := [116, 111, 117, 103, 104]
def valueW : Str := [118, 97, 108, 117, 101]
/-- Word number i of a list. -/
def wd (T : List Str) (i : Nat) : Str := T.getD i []
theorem wd_len {T : List Str} {K : Nat} (h : ∀ x ∈ T, x.length ≤ K) (i : Nat) : (wd T i).length ≤ K := by
  unfold wd
  rcases Nat.lt_or_ge i T.length with h' | h'
  · simp only [List.getD, List.getElem?_eq_getElem h', Option.getD_some]; exact h _ (List.getElem_mem h')
  · simp [List.getD, List.getElem?_eq_none h']
/-- The words of a mask behind a prefix, added. -/
def addMask (l : List Str) (p : Str) (T : List Str) (m : Nat) : List Str := ((bitsUpto m 31).map (fun i => p ++ wd T i)).foldl addW l
theorem foldl_addW_len (ss l : List Str) : (ss.foldl addW l).length ≤ l.length + ss.length := by
  induction ss generalizing l with
  | nil => simp
  | cons x r ih => have h1 := ih (addW l x); have h2 := addW_len l x; simp only [List.foldl_cons, List.length_cons]; omega
theorem addMask_len (l : List Str) (p : Str) (T : List Str) (m : Nat) : (addMask l p T m).length ≤ l.length + 31 := by
  have h1 := foldl_addW_len ((bitsUpto m 31).map (fun i => p ++ wd T i)) l
  have h2 := bitsUpto_le m 31
  rw [List.length_map] at h1; unfold addMask; omega
/-- A bound's word; empty for none. -/
def boundW (name : Str) (k n : Nat) : Str := if k = 0 then [] else name ++ wd signT k ++ Lib.itoa n
/-- A valid filter's fields. -/
structure FN where
  zone : Nat
  who : Nat
  self : Nat
  types : Nat
  ntypes : Nat
  colors : Nat
  ncolors : Nat
  sub : Str
  keys : Nat
  tap : Nat
  pk : Nat
  pn : Nat
  tk : Nat
  tn : Nat
  vk : Nat
  vn : Nat
def fltWordsB (b : Bool) (f : FN) : List Str :=
  addW (addW (addW (addW (addMask (bif b then addMask (addMask (addMask (addMask (addW (addW (addW [] (wd zoneT f.zone)) (wd whoT f.who)) (wd selfT f.self)) [] typeT f.types) nonW typeT f.ntypes) [] colorT f.colors) nonW colorT f.ncolors
    else addW (addMask (addMask (addMask (addMask (addW (addW (addW [] (wd zoneT f.zone)) (wd whoT f.who)) (wd selfT f.self)) [] typeT f.types) nonW typeT f.ntypes) [] colorT f.colors) nonW colorT f.ncolors) (subW ++ f.sub)) withW kwT f.keys) (wd tapT f.tap)) (boundW powerW f.pk f.pn)) (boundW toughW f.tk f.tn)) (boundW valueW f.vk f.vn)
def fltWords (f : FN) : List Str := fltWordsB (f.sub == []) f
def fltText (f : FN) : Str := if fltWords f = [] then anyW else Lib.join (fltWords f) [32]
end Go.Proofs.YthpleohkngfdfaaGreatDoor
