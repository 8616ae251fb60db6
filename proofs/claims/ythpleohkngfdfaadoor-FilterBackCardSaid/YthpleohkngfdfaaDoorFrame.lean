/- From a row's listed variables to what the walks are given of them; the witness world. Conditions: none. -/
import Derived.Test.YthpleohkngfdfaaDoorRows
import Derived.Test.YthpleohkngfdfaaDoorAlive
import Derived.ProofKit
import Derived.LaidLaws
import Derived.LaidHandle
import Derived.Lib.LaidU8
import Derived.Lib.LaidTab
import Derived.OpenShut
import Derived.HandedShaped
import Derived.Lay
import Derived.LaidOnce
import Derived.SevenTiedAt
namespace Go.Proofs.YthpleohkngfdfaaDoor
set_option linter.all false
open Go.ChangeShapes Go.WideShapes Go.RowKit
theorem Tryd.own : ownKnob Tryd.prog.godebug = none := by kernel_rfl
theorem handed_and_shaped {H : Type} {enc : TypeId × Value → H} {a : Assume} {C : Checked} {os : Os} {f : FuncId} {fn : Func} {s : ChangeSpec} {conds : List PathCond} {apart fresh handsOn again : Bool} {X : World → Array Value → Prop}
    (hX : ∀ (w w' : World) (args : Array Value), w.heap = w'.heap → X w args → X w' args)
    (own : ownKnob C.prog.godebug = none) (started : os.Started) (noInit : C.prog.inits.idxOf? f = none) (hfn : C.prog.funcs[f]? = some fn)
    (witness : ∃ (w : World) (tape : Tape) (i : Input), w.os = os ∧ (w.forCall tape i).Shaped C.prog ∧ i.vars = [] ∧ Input.okWide C.prog (w.forCall tape i) .any w.heap.size f i ∧
      ((s.pre enc C.prog fn conds apart (w.forCall tape i).memory i.args ∧ X (w.forCall tape i).memory i.args) ∧ sizedMet enc C.prog fn (OpenSpec.ofChange s) apart (w.forCall tape i).memory i.args) ∧ a.holds C.prog (lone (Frame.enter C.prog f i.args .normal) [] (w.forCall tape i)))
    (contract : ∀ (W : World) (base : Nat) (args : Array Value) (ds gs : List (DataW H)) (before : List MemPlace),
      (∀ (j : Nat) t v, fn.params[j]? = some t → args[j]? = some v → Value.okWide C.prog W .any base t v) →
      DataW.Whole enc C.prog fn.params.toList s.vars apart W args.toList ds gs before →
      (DataW.weightsEach C.prog (fn.params.toList ++ s.plain.varTypes C.prog) (ds ++ gs)).all (· ≤ reachBytes) = true → X W args → W.ShapedOpen C.prog →
      Calls C.prog f args W fun e W' => ∃ v, e = .returned v ∧ s.post enc C.prog fn apart fresh handsOn again W args v W') :
    ReturnsInHanded a C os f .any (fun w args => (s.pre enc C.prog fn conds apart w args ∧ X w args) ∧ sizedMet enc C.prog fn (OpenSpec.ofChange s) apart w args) (s.post enc C.prog fn apart fresh handsOn again) := by
  refine returnsInHanded_of_calls own started noInit witness ?_
  intro w tape i _ hsh _ hok hpre hholds
  obtain ⟨_, _, _, fn', hfn', _, _, _, _, hval⟩ := hok
  have e : fn' = fn := Option.some.inj (hfn'.symm.trans hfn)
  subst e
  obtain ⟨⟨⟨ds, gs, before, hw, hc⟩, hx⟩, hz⟩ := hpre
  have hw' := DataW.Whole.of_heap (w' := w.forCall tape i) (by rfl) hw
  refine (contract (w.forCall tape i) w.heap.size i.args ds gs before hval hw' (hz.weights hw) (hX _ _ _ (by rfl) hx) hsh).mono fun e W' ⟨v, he, hp⟩ => ?_
  subst he
  exact ChangeSpec.post_blind hp
theorem heap_of_var {P : Program} {w : World} {n : String} {g : Nat} {cs : Array Value} (hg : P.globalNamed n = some g) (h : w.var? P n = some cs) : ∃ ty fr, w.heap[g]? = some (.cells cs ty fr) := by
  unfold World.var? at h
  rw [hg] at h
  simp only [Option.bind_some] at h
  split at h
  · rename_i cs' ty fr hh
    obtain rfl := Option.some.inj h
    exact ⟨ty, fr, hh⟩
  · cases h
theorem strings_of_trod {P : Program} {w : World} {n : Nat} {t fuel : Nat} {cs : List Value} {xs : List Str} {p : List MemPlace} (ht : P.underlying t = some (.array n 9)) (h9 : P.underlying 9 = some .string) (hc9 : P.cellsOf 9 = 1) (hct : P.cellsOf t = n)
    (h : DataW.trod (fun _ => ()) P w 0 (fun _ => true) false fuel t cs = some (.agg (xs.map fun x => .lit (.string x)), p)) : cs = xs.map fun x => .string (B x) := by
  obtain ⟨ys, m, rfl, hx, hl, hn, he⟩ := DataW.trod_array ht h
  have hys : ys.map (·.1) = xs.map fun x => (DataW.lit (.string x) : DataW Unit) := by
    have h1 := congrArg Prod.fst hx
    injection h1 with h1
    exact h1.symm
  rw [hct] at hl
  have hxl : xs.length = n := by have := congrArg List.length hys; simp at this; omega
  apply List.ext_getElem?
  intro i
  by_cases hi : i < n
  · have h1 := he i hi
    rw [hc9, Nat.mul_one, List.getElem?_eq_getElem (by omega : i < ys.length)] at h1
    obtain ⟨s, hs, hy, _⟩ := DataW.trod_string h9 h1
    have hy1 : ys[i].1 = (DataW.lit (.string xs[i]) : DataW Unit) := by
      have h2 := congrArg (fun l => l[i]?) hys
      simp only [List.getElem?_map] at h2
      rw [List.getElem?_eq_getElem (by omega : i < ys.length), List.getElem?_eq_getElem (by omega : i < xs.length)] at h2
      simpa using h2
    rw [hy] at hy1
    injection hy1 with hy1
    injection hy1 with hy1
    have hc : cs[i]? = some (.string s) := by
      have h3 := congrArg (fun l => l[0]?) hs
      simpa [List.getElem?_take, List.getElem?_drop] using h3
    rw [hc, List.getElem?_map, List.getElem?_eq_getElem (by omega : i < xs.length), ← hy1]
    rfl
  · rw [List.getElem?_eq_none (by omega), List.getElem?_eq_none (by simp; omega)]
def laidL : List (String × DataW Unit) := Rows.filterBackRow.laid
theorem laid_of {W : World} (h : laidMetH Tryd.prog laidL W) (hs : W.ShapedOpen Tryd.prog) : Laid W := by
  rw [MakeChecks.laidMetH_plain _ _ _ (by kernel_rfl)] at h
  obtain ⟨g1, t1, c1, fu1, p1, n1, y1, v1, d1⟩ : Lib.VarReads Tryd.prog W "cardgame/color.names" Rows.laid_cardgame_color_names := Lib.laidMet.reads h (by simp [laidL, Rows.filterBackRow])
  obtain ⟨g2, t2, c2, fu2, p2, n2, y2, v2, d2⟩ : Lib.VarReads Tryd.prog W "internal/strconv.uint64pow10" Rows.laid_internal_strconv_uint64pow10 := Lib.laidMet.reads h (by simp [laidL, Rows.filterBackRow])
  obtain ⟨g3, t3, c3, fu3, p3, n3, y3, v3, d3⟩ : Lib.VarReads Tryd.prog W "strconv.ErrSyntax" Rows.laid_strconv_ErrSyntax := Lib.laidMet.reads h (by simp [laidL, Rows.filterBackRow])
  obtain ⟨g4, t4, c4, fu4, p4, n4, y4, v4, d4⟩ : Lib.VarReads Tryd.prog W "strconv.ErrRange" Rows.laid_strconv_ErrRange := Lib.laidMet.reads h (by simp [laidL, Rows.filterBackRow])
  obtain ⟨g5, t5, c5, fu5, p5, n5, y5, v5, d5⟩ : Lib.VarReads Tryd.prog W "math/bits.deBruijn64tab" Rows.laid_math_bits_deBruijn64tab := Lib.laidMet.reads h (by simp [laidL, Rows.filterBackRow])
  obtain rfl : g1 = 0 := Option.some.inj (n1.symm.trans (by kernel_rfl))
  obtain rfl : t1 = 54 := Option.some.inj (y1.symm.trans (by kernel_rfl))
  obtain rfl : g2 = 4 := Option.some.inj (n2.symm.trans (by kernel_rfl))
  obtain rfl : t2 = 116 := Option.some.inj (y2.symm.trans (by kernel_rfl))
  obtain rfl : g3 = 5 := Option.some.inj (n3.symm.trans (by kernel_rfl))
  obtain rfl : t3 = 63 := Option.some.inj (y3.symm.trans (by kernel_rfl))
  obtain rfl : g4 = 6 := Option.some.inj (n4.symm.trans (by kernel_rfl))
  obtain rfl : t4 = 63 := Option.some.inj (y4.symm.trans (by kernel_rfl))
  obtain rfl : g5 = 8 := Option.some.inj (n5.symm.trans (by kernel_rfl))
  have k1 := strings_of_trod (xs := colorT) Tryd.underlying54 Tryd.underlying9 (by kernel_rfl) (by kernel_rfl) d1
  have k2 := Lib.cells_of_tab (zs := Lib.pow10Tab) (k := .u64) Tryd.underlying116 Tryd.underlying97 (by kernel_rfl) (by kernel_rfl) d2
  obtain ⟨_, u3, x3, e3, _, _⟩ := iface_of_trod Tryd.underlying63 d3
  obtain ⟨_, u4, x4, e4, _, _⟩ := iface_of_trod Tryd.underlying63 d4
  obtain ⟨ty1, fr1, hh1⟩ := heap_of_var n1 v1
  obtain ⟨ty5, fr5, hh5⟩ := heap_of_var n5 v5
  have hsz := (Array.getElem?_eq_some_iff.1 hh5).1
  refine ⟨hs, ?_, ?_, ?_, ⟨ty1, fr1, ?_⟩, hsz⟩
  · unfold Lib.TabIs; rw [v2, ← k2]
  · obtain rfl : c3 = #[.iface u3 x3] := by rw [← Array.toArray_toList (xs := c3), e3]
    exact ⟨u3, x3, by simpa using World.var?_cell n3 v3 0⟩
  · obtain rfl : c4 = #[.iface u4 x4] := by rw [← Array.toArray_toList (xs := c4), e4]
    exact ⟨u4, x4, by simpa using World.var?_cell n4 v4 0⟩
  · rw [hh1]
    have : c1 = colorRow := by rw [← Array.toArray_toList (xs := c1), k1]; rfl
    rw [this]
end Go.Proofs.YthpleohkngfdfaaDoor
