/- From a row's listed variables to what the walks are given of them; the witness world. Conditions: none. A filter handed in: what its value looks like. Conditions: none. -/
import Derived.Test.YtakgfbcmkhcdkaaGreatDoorRows
import Derived.Test.YtakgfbcmkhcdkaaGreatDoorFil
import Derived.ProofKit
import Derived.LaidLaws
import Derived.LaidHandle
import Derived.Lib.LaidU8
import Derived.Lib.LaidTab
import Derived.OpenShut
import Derived.HandedShaped
import Derived.Lay
import Derived.LaidOnce
import Derived.SevenTiedAt
import Derived.Lib.SmallJoins
namespace Go.Proofs.YtakgfbcmkhcdkaaGreatDoor
set_option linter.all false
open Go.ChangeShapes Go.WideShapes Go.RowKit
theorem Tryz.own : ownKnob Tryz.prog.godebug = none := by kernel_rfl
theorem handed_and_shaped {H : Type} {enc : TypeId × Value → H} {a : Assume} {C : Checked} {os : Os} {f : FuncId} {fn : Func} {s : ChangeSpec} {conds : List PathCond} {apart fresh handsOn again : Bool} {X : World → Array Value → Prop}
    (hX : ∀ (w w' : World) (args : Array Value), w.heap = w'.heap → X w args → X w' args)
    (own : ownKnob C.prog.godebug = none) (started : os.Started) (noInit : C.prog.inits.idxOf? f = none) (hfn : C.prog.funcs[f]? = some fn)
    (witness : ∃ (w : World) (tape : Tape) (i : Input), w.os = os ∧ (w.forCall tape i).Shaped C.prog ∧ i.vars = [] ∧ Input.okWide C.prog (w.forCall tape i) .any w.heap.size f i ∧
      ((s.pre enc C.prog fn conds apart (w.forCall tape i).memory i.args ∧ X (w.forCall tape i).memory i.args) ∧ sizedMet enc C.prog fn (OpenSpec.ofChange s) apart (w.forCall tape i).memory i.args) ∧ a.holds C.prog (lone (Frame.enter C.prog f i.args .normal) [] (w.forCall tape i)))
    (contract : ∀ (W : World) (base : Nat) (args : Array Value) (ds gs : List (DataW H)) (before : List MemPlace),
      (∀ (j : Nat) t v, fn.params[j]? = some t → args[j]? = some v → Value.okWide C.prog W .any base t v) →
      DataW.Whole enc C.prog fn.params.toList s.vars apart W args.toList ds gs before →
      (DataW.weightsEach C.prog (fn.params.toList ++ s.plain.varTypes C.prog) (ds ++ gs)).all (· ≤ reachBytes) = true → X W args → W.ShapedOpen C.prog →
      Calls C.prog f args W fun e W' => ∃ v, e = .returned v ∧ s.post enc C.prog fn apart fresh handsOn again W args v W') :
    ReturnsInHanded a C os f .any (fun w args => (s.pre enc C.prog fn conds apart w args ∧ X w args) ∧ sizedMet enc C.prog fn (OpenSpec.ofChange s) apart w args) (s.post enc C.prog fn apart fresh handsOn again) := by
  refine returnsInHanded_of_calls own started noInit witness ?_
  intro w tape i _ hsh _ hok hpre hholds
  obtain ⟨_, _, _, fn', hfn', _, _, _, _, hval⟩ := hok
  have e : fn' = fn := Option.some.inj (hfn'.symm.trans hfn)
  subst e
  obtain ⟨⟨⟨ds, gs, before, hw, hc⟩, hx⟩, hz⟩ := hpre
  have hw' := DataW.Whole.of_heap (w' := w.forCall tape i) (by rfl) hw
  refine (contract (w.forCall tape i) w.heap.size i.args ds gs before hval hw' (hz.weights hw) (hX _ _ _ (by rfl) hx) hsh).mono fun e W' ⟨v, he, hp⟩ => ?_
  subst he
  exact ChangeSpec.post_blind hp
theorem heap_of_var {P : Program} {w : World} {n : String} {g : Nat} {cs : Array Value} (hg : P.globalNamed n = some g) (h : w.var? P n = some cs) : ∃ ty fr, w.heap[g]? = some (.cells cs ty fr) := by
  unfold World.var? at h
  rw [hg] at h
  simp only [Option.bind_some] at h
  split at h
  · rename_i cs' ty fr hh
    obtain rfl := Option.some.inj h
    exact ⟨ty, fr, hh⟩
  · cases h
theorem strings_of_trod {P : Program} {w : World} {n : Nat} {t fuel : Nat} {cs : List Value} {xs : List Str} {p : List MemPlace} (ht : P.underlying t = some (.array n 9)) (h9 : P.underlying 9 = some .string) (hc9 : P.cellsOf 9 = 1) (hct : P.cellsOf t = n)
    (h : DataW.trod (fun _ => ()) P w 0 (fun _ => true) false fuel t cs = some (.agg (xs.map fun x => .lit (.string x)), p)) : cs = xs.map fun x => .string (B x) := by
  obtain ⟨ys, m, rfl, hx, hl, hn, he⟩ := DataW.trod_array ht h
  have hys : ys.map (·.1) = xs.map fun x => (DataW.lit (.string x) : DataW Unit) := by
    have h1 := congrArg Prod.fst hx
    injection h1 with h1
    exact h1.symm
  rw [hct] at hl
  have hxl : xs.length = n := by have := congrArg List.length hys; simp at this; omega
  apply List.ext_getElem?
  intro i
  by_cases hi : i < n
  · have h1 := he i hi
    rw [hc9, Nat.mul_one, List.getElem?_eq_getElem (by omega : i < ys.length)] at h1
    obtain ⟨s, hs, hy, _⟩ := DataW.trod_string h9 h1
    have hy1 : ys[i].1 = (DataW.lit (.string xs[i]) : DataW Unit) := by
      have h2 := congrArg (fun l => l[i]?) hys
      simp only [List.getElem?_map] at h2
      rw [List.getElem?_eq_getElem (by omega : i < ys.length), List.getElem?_eq_getElem (by omega : i < xs.length)] at h2
      simpa using h2
    rw [hy] at hy1
    injection hy1 with hy1
    injection hy1 with hy1
    have hc : cs[i]? = some (.string s) := by
      have h3 := congrArg (fun l => l[0]?) hs
      simpa [List.getElem?_take, List.getElem?_drop] using h3
    rw [hc, List.getElem?_map, List.getElem?_eq_getElem (by omega : i < xs.length), ← hy1]
    rfl
  · rw [List.getElem?_eq_none (by omega), List.getElem?_eq_none (by simp; omega)]
def laidL : List (String × DataW Unit) := Rows.modTextRow.laid
theorem laid_of {W : World} (h : laidMetH Tryz.prog laidL W) (hs : W.ShapedOpen Tryz.prog) : Laid W := by
  rw [MakeChecks.laidMetH_plain _ _ _ (by kernel_rfl)] at h
  obtain ⟨g1, t1, c1, fu1, p1, n1, y1, v1, d1⟩ : Lib.VarReads Tryz.prog W "cardgame/color.names" Rows.laid_cardgame_color_names := Lib.laidMet.reads h (by simp [laidL, Rows.modTextRow])
  obtain ⟨g2, t2, c2, fu2, p2, n2, y2, v2, d2⟩ : Lib.VarReads Tryz.prog W "internal/strconv.uint64pow10" Rows.laid_internal_strconv_uint64pow10 := Lib.laidMet.reads h (by simp [laidL, Rows.modTextRow])
  obtain ⟨g3, t3, c3, fu3, p3, n3, y3, v3, d3⟩ : Lib.VarReads Tryz.prog W "strconv.ErrSyntax" Rows.laid_strconv_ErrSyntax := Lib.laidMet.reads h (by simp [laidL, Rows.modTextRow])
  obtain ⟨g4, t4, c4, fu4, p4, n4, y4, v4, d4⟩ : Lib.VarReads Tryz.prog W "strconv.ErrRange" Rows.laid_strconv_ErrRange := Lib.laidMet.reads h (by simp [laidL, Rows.modTextRow])
  obtain rfl : g1 = 0 := Option.some.inj (n1.symm.trans (by kernel_rfl))
  obtain rfl : t1 = 97 := Option.some.inj (y1.symm.trans (by kernel_rfl))
  obtain rfl : g2 = 4 := Option.some.inj (n2.symm.trans (by kernel_rfl))
  obtain rfl : t2 = 188 := Option.some.inj (y2.symm.trans (by kernel_rfl))
  obtain rfl : g3 = 5 := Option.some.inj (n3.symm.trans (by kernel_rfl))
  obtain rfl : t3 = 143 := Option.some.inj (y3.symm.trans (by kernel_rfl))
  obtain rfl : g4 = 6 := Option.some.inj (n4.symm.trans (by kernel_rfl))
  obtain rfl : t4 = 143 := Option.some.inj (y4.symm.trans (by kernel_rfl))
  have k1 := strings_of_trod (xs := colorT) Tryz.underlying97 Tryz.underlying9 (by kernel_rfl) (by kernel_rfl) d1
  have k2 := Lib.cells_of_tab (zs := Lib.pow10Tab) (k := .u64) Tryz.underlying188 Tryz.underlying110 (by kernel_rfl) (by kernel_rfl) d2
  obtain ⟨_, u3, x3, e3, _, _⟩ := iface_of_trod Tryz.underlying143 d3
  obtain ⟨_, u4, x4, e4, _, _⟩ := iface_of_trod Tryz.underlying143 d4
  obtain ⟨ty1, fr1, hh1⟩ := heap_of_var n1 v1
  have hsz := (Array.getElem?_eq_some_iff.1 hh1).1
  refine ⟨hs, ?_, ?_, ?_, ⟨ty1, fr1, ?_⟩, hsz⟩
  · unfold Lib.TabIs; rw [v2, ← k2]
  · obtain rfl : c3 = #[.iface u3 x3] := by rw [← Array.toArray_toList (xs := c3), e3]
    exact ⟨u3, x3, by simpa using World.var?_cell n3 v3 0⟩
  · obtain rfl : c4 = #[.iface u4 x4] := by rw [← Array.toArray_toList (xs := c4), e4]
    exact ⟨u4, x4, by simpa using World.var?_cell n4 v4 0⟩
  · rw [hh1]
    have : c1 = colorRow := by rw [← Array.toArray_toList (xs := c1), k1]; rfl
    rw [this]
end Go.Proofs.YtakgfbcmkhcdkaaGreatDoor
namespace Go.Proofs.YtakgfbcmkhcdkaaGreatDoor
set_option linter.all false
open Go.ChangeShapes Go.WideShapes Go.RowKit Go.Joins
theorem list16 {α : Type} : ∀ {l : List α}, l.length = 16 → ∃ c0 c1 c2 c3 c4 c5 c6 c7 c8 c9 c10 c11 c12 c13 c14 c15, l = [c0, c1, c2, c3, c4, c5, c6, c7, c8, c9, c10, c11, c12, c13, c14, c15]
  | [c0, c1, c2, c3, c4, c5, c6, c7, c8, c9, c10, c11, c12, c13, c14, c15], _ => ⟨c0, c1, c2, c3, c4, c5, c6, c7, c8, c9, c10, c11, c12, c13, c14, c15, rfl⟩
theorem list13 {α : Type} : ∀ {l : List α}, l.length = 13 → ∃ c0 c1 c2 c3 c4 c5 c6 c7 c8 c9 c10 c11 c12, l = [c0, c1, c2, c3, c4, c5, c6, c7, c8, c9, c10, c11, c12]
  | [c0, c1, c2, c3, c4, c5, c6, c7, c8, c9, c10, c11, c12], _ => ⟨c0, c1, c2, c3, c4, c5, c6, c7, c8, c9, c10, c11, c12, rfl⟩
theorem Tryz.cellsFilter : Tryz.prog.cellsOf 25 = 16 := by kernel_rfl
theorem one_int {H : Type} {enc : TypeId × Value → H} {W : World} {sp : Nat → Bool} {held : Bool} {n t : Nat} {c : Value} {y : DataW H × List MemPlace} (hc : Tryz.prog.underlying t = some (.int .i64)) (h : DataW.trod enc Tryz.prog W 0 sp held n t [c] = some y) : ∃ k, c = .int .i64 k ∧ y.2 = [] := by
  obtain ⟨k, e, hy, _⟩ := DataW.trod_int hc h
  simp only [List.cons.injEq, and_true] at e
  exact ⟨k, e, by rw [hy]⟩
theorem one_str {H : Type} {enc : TypeId × Value → H} {W : World} {sp : Nat → Bool} {held : Bool} {n : Nat} {c : Value} {y : DataW H × List MemPlace} (h : DataW.trod enc Tryz.prog W 0 sp held n 9 [c] = some y) : ∃ s, c = .string s ∧ y.2 = [] := by
  obtain ⟨s, e, hy, _⟩ := DataW.trod_string Tryz.underlying9 h
  simp only [List.cons.injEq, and_true] at e
  exact ⟨s, e, by rw [hy]⟩
set_option maxRecDepth 100000 in
theorem open_bound {H : Type} {enc : TypeId × Value → H} {W : World} {sp : Nat → Bool} {held : Bool} {n : Nat} {c d : Value} {y : DataW H × List MemPlace} (h : DataW.trod enc Tryz.prog W 0 sp held n 23 [c, d] = some y) : ∃ k m, c = .int .i64 k ∧ d = .int .i64 m ∧ y.2 = [] := by
  obtain ⟨y0, y1, n', rfl, _, h0, h1⟩ := trod_struct2 Tryz.underlying23 h
  obtain ⟨k, rfl, e0⟩ := one_int Tryz.underlying3 h0
  obtain ⟨m, rfl, e1⟩ := one_int Tryz.underlying3 h1
  exact ⟨k, m, rfl, rfl, by simp [e0, e1]⟩
set_option maxRecDepth 100000 in
theorem open_flt {H : Type} {enc : TypeId × Value → H} {W : World} {r : Reach} {sp : Nat → Bool} {held : Bool} {b0 : Nat} {v : Value} {d : DataW H} {p : List MemPlace} (hv : Value.okWide Tryz.prog W r b0 25 v)
    (h : DataW.Trod enc Tryz.prog W 0 sp held 25 v d p) : ∃ f : Flt, v = .agg f.cells ∧ p = [] := by
  obtain ⟨cs, rfl, hsz⟩ := okWide_struct Tryz.underlying25 hv
  obtain ⟨fuel, hf⟩ := h
  obtain ⟨l, rfl⟩ : ∃ l : List Value, cs = l.toArray := ⟨cs.toList, by simp⟩
  obtain ⟨c0, c1, c2, c3, c4, c5, c6, c7, c8, c9, c10, c11, c12, c13, c14, c15, rfl⟩ := list16 (l := l) (by simpa using hsz.trans Tryz.cellsFilter)
  obtain ⟨xs, n, _, hx, _, hlen, hh⟩ := DataW.trod_struct Tryz.underlying25 hf
  obtain ⟨y0, y1, y2, y3, y4, y5, y6, y7, y8, y9, y10, y11, y12, rfl⟩ := list13 (l := xs) (by simpa using hlen)
  obtain ⟨k0, e0, z0⟩ := one_int (c := c0) Tryz.underlying3 (hh 0 _ rfl)
  obtain ⟨k1, e1, z1⟩ := one_int (c := c1) Tryz.underlying3 (hh 1 _ rfl)
  obtain ⟨k2, e2, z2⟩ := one_int (c := c2) Tryz.underlying3 (hh 2 _ rfl)
  obtain ⟨k3, e3, z3⟩ := one_int (c := c3) Tryz.underlying3 (hh 3 _ rfl)
  obtain ⟨k4, e4, z4⟩ := one_int (c := c4) Tryz.underlying3 (hh 4 _ rfl)
  obtain ⟨k5, e5, z5⟩ := one_int (c := c5) Tryz.underlying3 (hh 5 _ rfl)
  obtain ⟨k6, e6, z6⟩ := one_int (c := c6) Tryz.underlying3 (hh 6 _ rfl)
  obtain ⟨s, e7', z7'⟩ := one_str (c := c7) (hh 7 _ rfl)
  obtain ⟨k8, e8, z8⟩ := one_int (c := c8) Tryz.underlying3 (hh 8 _ rfl)
  obtain ⟨k9, e9, z9⟩ := one_int (c := c9) Tryz.underlying3 (hh 9 _ rfl)
  obtain ⟨k10, m10, e10, f10, z10⟩ := open_bound (c := c10) (d := c11) (hh 10 _ rfl)
  obtain ⟨k11, m11, e11, f11, z11⟩ := open_bound (c := c12) (d := c13) (hh 11 _ rfl)
  obtain ⟨k12, m12, e12, f12, z12⟩ := open_bound (c := c14) (d := c15) (hh 12 _ rfl)
  subst e0 e1 e2 e3 e4 e5 e6 e8 e9 e10 e11 e12 e7' f10 f11 f12
  refine ⟨⟨k0, k1, k2, k3, k4, k5, k6, s, k8, k9, k10, m10, k11, m11, k12, m12⟩, rfl, ?_⟩
  have := congrArg Prod.snd hx
  simpa [z0, z1, z2, z3, z4, z5, z6, z8, z9, z10, z11, z12, z7'] using this
end Go.Proofs.YtakgfbcmkhcdkaaGreatDoor
