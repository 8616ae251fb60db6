/- Arguments that hold a filter, opened. Conditions: none. A modification handed in: what its value looks like. Conditions: none. -/
import Derived.Test.YtakgfbcmkhcdkaaGreatDoorFra
import Derived.Test.YtakgfbcmkhcdkaaGreatDoorMOMem
namespace Go.Proofs.YtakgfbcmkhcdkaaGreatDoor
set_option linter.all false
open Go.ChangeShapes Go.WideShapes Go.RowKit
theorem list3 {α : Type} : ∀ {l : List α}, l.length = 3 → ∃ c0 c1 c2, l = [c0, c1, c2]
  | [c0, c1, c2], _ => ⟨c0, c1, c2, rfl⟩
theorem list18 {α : Type} : ∀ {l : List α}, l.length = 18 → ∃ a b c0 c1 c2 c3 c4 c5 c6 c7 c8 c9 c10 c11 c12 c13 c14 c15, l = [a, b, c0, c1, c2, c3, c4, c5, c6, c7, c8, c9, c10, c11, c12, c13, c14, c15]
  | [a, b, c0, c1, c2, c3, c4, c5, c6, c7, c8, c9, c10, c11, c12, c13, c14, c15], _ => ⟨a, b, c0, c1, c2, c3, c4, c5, c6, c7, c8, c9, c10, c11, c12, c13, c14, c15, rfl⟩
set_option maxRecDepth 100000 in
theorem open_flt16 {H : Type} {enc : TypeId × Value → H} {W : World} {sp : Nat → Bool} {held : Bool} {n : Nat} {c0 c1 c2 c3 c4 c5 c6 c7 c8 c9 c10 c11 c12 c13 c14 c15 : Value} {y : DataW H × List MemPlace} (hf : DataW.trod enc Tryz.prog W 0 sp held n 25 [c0, c1, c2, c3, c4, c5, c6, c7, c8, c9, c10, c11, c12, c13, c14, c15] = some y) :
    ∃ f : Flt, [c0, c1, c2, c3, c4, c5, c6, c7, c8, c9, c10, c11, c12, c13, c14, c15] = f.cells.toList ∧ y.2 = [] := by
  obtain ⟨xs, n, _, hx, _, hlen, hh⟩ := DataW.trod_struct Tryz.underlying25 hf
  obtain ⟨y0, y1, y2, y3, y4, y5, y6, y7, y8, y9, y10, y11, y12, rfl⟩ := list13 (l := xs) (by simpa using hlen)
  obtain ⟨k0, e0, z0⟩ := one_int (c := c0) Tryz.underlying3 (hh 0 _ rfl)
  obtain ⟨k1, e1, z1⟩ := one_int (c := c1) Tryz.underlying3 (hh 1 _ rfl)
  obtain ⟨k2, e2, z2⟩ := one_int (c := c2) Tryz.underlying3 (hh 2 _ rfl)
  obtain ⟨k3, e3, z3⟩ := one_int (c := c3) Tryz.underlying3 (hh 3 _ rfl)
  obtain ⟨k4, e4, z4⟩ := one_int (c := c4) Tryz.underlying3 (hh 4 _ rfl)
  obtain ⟨k5, e5, z5⟩ := one_int (c := c5) Tryz.underlying3 (hh 5 _ rfl)
  obtain ⟨k6, e6, z6⟩ := one_int (c := c6) Tryz.underlying3 (hh 6 _ rfl)
  obtain ⟨s, e7', z7'⟩ := one_str (c := c7) (hh 7 _ rfl)
  obtain ⟨k8, e8, z8⟩ := one_int (c := c8) Tryz.underlying3 (hh 8 _ rfl)
  obtain ⟨k9, e9, z9⟩ := one_int (c := c9) Tryz.underlying3 (hh 9 _ rfl)
  obtain ⟨k10, m10, e10, f10, z10⟩ := open_bound (c := c10) (d := c11) (hh 10 _ rfl)
  obtain ⟨k11, m11, e11, f11, z11⟩ := open_bound (c := c12) (d := c13) (hh 11 _ rfl)
  obtain ⟨k12, m12, e12, f12, z12⟩ := open_bound (c := c14) (d := c15) (hh 12 _ rfl)
  subst e0 e1 e2 e3 e4 e5 e6 e8 e9 e10 e11 e12 e7' f10 f11 f12
  refine ⟨⟨k0, k1, k2, k3, k4, k5, k6, s, k8, k9, k10, m10, k11, m11, k12, m12⟩, rfl, ?_⟩
  have := congrArg Prod.snd hx
  simpa [z0, z1, z2, z3, z4, z5, z6, z8, z9, z10, z11, z12, z7'] using this
end Go.Proofs.YtakgfbcmkhcdkaaGreatDoor
namespace Go.Proofs.YtakgfbcmkhcdkaaGreatDoor
set_option linter.all false
open Go.ChangeShapes Go.WideShapes Go.RowKit Go.Joins
theorem list20 {α : Type} : ∀ {l : List α}, l.length = 20 → ∃ a b d e c0 c1 c2 c3 c4 c5 c6 c7 c8 c9 c10 c11 c12 c13 c14 c15, l = [a, b, d, e, c0, c1, c2, c3, c4, c5, c6, c7, c8, c9, c10, c11, c12, c13, c14, c15]
  | [a, b, d, e, c0, c1, c2, c3, c4, c5, c6, c7, c8, c9, c10, c11, c12, c13, c14, c15], _ => ⟨a, b, d, e, c0, c1, c2, c3, c4, c5, c6, c7, c8, c9, c10, c11, c12, c13, c14, c15, rfl⟩
theorem list5 {α : Type} : ∀ {l : List α}, l.length = 5 → ∃ c0 c1 c2 c3 c4, l = [c0, c1, c2, c3, c4]
  | [c0, c1, c2, c3, c4], _ => ⟨c0, c1, c2, c3, c4, rfl⟩
theorem Tryz.cellsMd : Tryz.prog.cellsOf 27 = 20 := by kernel_rfl
set_option maxRecDepth 100000 in
theorem open_md {H : Type} {enc : TypeId × Value → H} {W : World} {r : Reach} {sp : Nat → Bool} {held : Bool} {b0 : Nat} {v : Value} {dd : DataW H} {p : List MemPlace} (hv : Value.okWide Tryz.prog W r b0 27 v)
    (h : DataW.Trod enc Tryz.prog W 0 sp held 27 v dd p) : ∃ f : Md, v = .agg f.cells ∧ p = [] := by
  obtain ⟨cs, rfl, hsz⟩ := okWide_struct Tryz.underlying27 hv
  obtain ⟨fuel, hf⟩ := h
  obtain ⟨l, rfl⟩ : ∃ l : List Value, cs = l.toArray := ⟨cs.toList, by simp⟩
  obtain ⟨a, b, d, e, c0, c1, c2, c3, c4, c5, c6, c7, c8, c9, c10, c11, c12, c13, c14, c15, rfl⟩ := list20 (l := l) (by simpa using hsz.trans Tryz.cellsMd)
  obtain ⟨xs, n, _, hx, _, hlen, hh⟩ := DataW.trod_struct Tryz.underlying27 hf
  obtain ⟨y0, y1, y2, y3, y4, rfl⟩ := list5 (l := xs) (by simpa using hlen)
  obtain ⟨ka, ea, za⟩ := one_int (c := a) Tryz.underlying3 (hh 0 _ rfl)
  obtain ⟨kb, eb, zb⟩ := one_int (c := b) Tryz.underlying3 (hh 1 _ rfl)
  obtain ⟨kd, ed, zd⟩ := one_int (c := d) Tryz.underlying3 (hh 2 _ rfl)
  obtain ⟨se, ee, ze⟩ := one_str (c := e) (hh 3 _ rfl)
  obtain ⟨f, ef, zf⟩ := open_flt16 (c0 := c0) (c1 := c1) (c2 := c2) (c3 := c3) (c4 := c4) (c5 := c5) (c6 := c6) (c7 := c7) (c8 := c8) (c9 := c9) (c10 := c10) (c11 := c11) (c12 := c12) (c13 := c13) (c14 := c14) (c15 := c15) (hh 4 _ rfl)
  subst ea eb ed ee
  obtain ⟨q0, q1, q2, q3, q4, q5, q6, q7, q8, q9, q10, q11, q12, q13, q14, q15⟩ := f
  simp only [Flt.cells, List.cons.injEq, and_true] at ef
  obtain ⟨rfl, rfl, rfl, rfl, rfl, rfl, rfl, rfl, rfl, rfl, rfl, rfl, rfl, rfl, rfl, rfl⟩ := ef
  refine ⟨⟨ka, kb, kd, se, ⟨q0, q1, q2, q3, q4, q5, q6, q7, q8, q9, q10, q11, q12, q13, q14, q15⟩⟩, rfl, ?_⟩
  have := congrArg Prod.snd hx
  simpa [za, zb, zd, ze, zf] using this
end Go.Proofs.YtakgfbcmkhcdkaaGreatDoor
