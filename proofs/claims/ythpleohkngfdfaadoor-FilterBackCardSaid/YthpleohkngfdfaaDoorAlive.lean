/- Plain words: the chapter's fixed calls. -/
import Derived.Test.YthpleohkngfdfaaDoorParseB
namespace Go.Proofs.YthpleohkngfdfaaDoor
set_option linter.all false
open Go.ChangeShapes Go.WideShapes Go.RowKit
theorem fltParse_any (s : ByteArray) (w : World) (hl : Laid w) (hs : s.size < 100000000) :
    Calls Tryd.prog 8 #[.string s] w fun e w' => e = .returned (fltRet (parseS (L s))) ∧ Below w.heap.size w w' := by
  by_cases hany : L s = anyW
  · refine (fltParse_word s w hl hany).mono fun e w' ⟨he, hb⟩ => ⟨?_, hb⟩
    rw [he, parseS, if_pos hany]; simp only [hany, zero_text, if_true]; rfl
  · refine (fltParse_words s w hl hs hany).mono fun e w' ⟨he, hb⟩ => ⟨?_, hb⟩
    rw [he, parseS, if_neg hany]; rfl
def aliveW : Str := [121, 111, 117, 114, 115, 32, 111, 116, 104, 101, 114, 32, 99, 114, 101, 97, 116, 117, 114, 101, 32, 119, 105, 116, 104, 58, 102, 108, 121, 105, 110, 103, 32, 112, 111, 119, 101, 114, 62, 61, 51]
def aliveF : Flt := ⟨0, 1, 2, 1, 0, 0, 0, ⟨#[]⟩, 1, 0, 1, 3, 0, 0, 0, 0⟩
theorem itoa3 : Lib.itoa 3 = [51] := by
  unfold Lib.itoa; rw [if_neg (by decide)]; exact Lib.decDigits_one (by decide)
theorem a1 : splitOn 32 aliveW = [[121, 111, 117, 114, 115], [111, 116, 104, 101, 114], [99, 114, 101, 97, 116, 117, 114, 101], [119, 105, 116, 104, 58, 102, 108, 121, 105, 110, 103], [112, 111, 119, 101, 114, 62, 61, 51]] := by decide +kernel
theorem a2 : takeS zeroF [121, 111, 117, 114, 115] = some { zeroF with who := 1 } := by kernel_rfl
theorem a3 : takeS { zeroF with who := 1 } [111, 116, 104, 101, 114] = some { zeroF with who := 1, self := 2 } := by kernel_rfl
theorem a4 : takeS { zeroF with who := 1, self := 2 } [99, 114, 101, 97, 116, 117, 114, 101] = some { zeroF with who := 1, self := 2, types := 1 } := by kernel_rfl
theorem a5 : takeS { zeroF with who := 1, self := 2, types := 1 } [119, 105, 116, 104, 58, 102, 108, 121, 105, 110, 103] = some { zeroF with who := 1, self := 2, types := 1, keys := 1 } := by kernel_rfl
theorem a6 : takeS { zeroF with who := 1, self := 2, types := 1, keys := 1 } [112, 111, 119, 101, 114, 62, 61, 51] = some aliveF := by kernel_rfl
theorem a7 : textOf aliveF = aliveW := by kernel_rfl
theorem a8 : parseS aliveW = some aliveF := by kernel_rfl
theorem a9 : parseS anyW = some zeroF := by kernel_rfl
theorem a10 : parseS [99, 114, 101, 97, 116, 117, 114, 101, 32, 121, 111, 117, 114, 115] = none := by kernel_rfl
end Go.Proofs.YthpleohkngfdfaaDoor
