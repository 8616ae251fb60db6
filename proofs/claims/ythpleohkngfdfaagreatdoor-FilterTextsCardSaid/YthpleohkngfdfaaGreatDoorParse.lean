/- Walks: package filter: Parse. Conditions: Laid; the text is shorter than 100 million bytes. -/
import Derived.Test.YthpleohkngfdfaaGreatDoorTake
import Derived.Test.YthpleohkngfdfaaGreatDoorFTextC
namespace Go.Proofs.YthpleohkngfdfaaGreatDoor
set_option linter.all false
open Go.ChangeShapes Go.WideShapes Go.RowKit
def zeroF : Flt := ⟨0, 0, 0, 0, 0, 0, 0, ⟨#[]⟩, 0, 0, 0, 0, 0, 0, 0, 0⟩
def foldT : Flt → List Str → Option Flt
  | f, [] => some f
  | f, x :: r => match takeS f x with | some f' => foldT f' r | none => none
theorem foldT_step {f : Flt} {l : List Str} {k : Nat} (hk : k < l.length) : foldT f (l.drop k) = (match takeS f l[k] with | some f' => foldT f' (l.drop (k + 1)) | none => none) := by
  rw [List.drop_eq_getElem_cons hk, foldT]
/-- The filter with a text, as Parse finds it. -/
def parseS (s : Str) : Option Flt := match (if s = anyW then some zeroF else foldT zeroF (splitOn 32 s)) with
  | some f => if textOf f = s then some f else none
  | none => none
def fltRet (o : Option Flt) : Value := match o with | some f => .tuple #[.agg f.cells, .int .i64 0] | none => .tuple #[.agg zeroF.cells, .int .i64 3]
theorem fltText_v (f : Flt) (w : World) (hl : Laid w) :
    Calls Tryz.prog 9 #[.agg f.cells] w fun e w' => e = .returned (.string (B (textOf f))) ∧ Below w.heap.size w w' := fltText_any f.zone f.who f.self f.types f.ntypes f.colors f.ncolors f.sub f.keys f.tap f.pk f.pn f.tk f.tn f.vk f.vn w hl
theorem results_row_tmp {P : Program} {fn : Func} {p q : Tmp} {ty : TypeId} (h : fn.results = #[.cell p ty, .tmp q]) (tmps : Array Value) (w : World) (g : Nat) (t : TypeId) (cs : Array Value) (fr : Nat × Nat) (d : TypeDesc)
    (hp : tmps.getD p undef = .pointer (some ⟨g, 0, none⟩)) (hg : w.heap[g]? = some (.cells cs t fr))
    (hu : P.underlying ty = some d) (hd : (match d with | .struct _ | .array _ _ => true | _ => false) = true) (hi : (P.info? ty).map (·.size) = some cs.size) :
    (results fn tmps).run P w = .ok (.tuple #[.agg cs, tmps.getD q undef]) w := by
  have hp' : tmps[p]?.getD undef = .pointer (some ⟨g, 0, none⟩) := by simpa using hp
  simp [results, h, hp', asAddr, run_loadVar_row w g t ty cs fr d hg hu hd hi]
theorem splitOn_mem (c : UInt8) : ∀ (s : Str), ∀ x ∈ splitOn c s, x.length ≤ s.length
  | [], x, h => by simp [splitOn] at h; subst h; simp
  | a :: r, x, h => by
    have ih := splitOn_mem c r
    unfold splitOn at h; split at h
    · simp at h; rcases h with rfl | h
      · simp
      · have := ih x h; simp; omega
    · split at h
      · rename_i hs; simp at h; subst h; simp
      · rename_i y z hs
        rw [hs] at ih
        simp at h; rcases h with rfl | h
        · have := ih y (by simp); simp; omega
        · have := ih x (by simp [h]); simp; omega
theorem Texts.at3 {w : World} {base c k : Nat} {A : Option Addr} {l : List Str} (h : Texts w base l (.slice A l.length c)) (hk : k < l.length) :
    ∃ g, A = some ⟨g, 0, none⟩ ∧ base ≤ g ∧ g < w.heap.size ∧ w.cell? ⟨g, k, none⟩ = some (.string (B l[k])) := by
  obtain ⟨g, hA, hb, hg, hc⟩ := own_at h hk
  exact ⟨g, hA, hb, hg, (hc k hk).trans (strCells_at hk)⟩
abbrev TF : Nat := 25
theorem zero_text : textOf zeroF = anyW := by decide +kernel
theorem row_set {w : World} {g t : Nat} {old cs : Array Value} (hg : w.heap[g]? = some (.cells old t (0, 0))) : (w.setRow g cs).heap[g]? = some (.cells cs t (0, 0)) := setRow_heap w g old cs t (0, 0) hg
theorem infoTF : (Tryz.prog.info? TF).map (·.size) = some 16 := by kernel_rfl
theorem cells_one (f : Flt) : f.cells.all (·.oneCell') = true := by simp [Flt.cells, Value.oneCell']
theorem below_setRow {B : Nat} {a w : World} (h : Below B a w) {g : Nat} (hg : B ≤ g) (cs : Array Value) : Below B a (w.setRow g cs) :=
  h.trans ⟨rfl, rfl, rfl, by simp [World.setRow], fun k hk => setRow_other w g k cs (by omega)⟩
theorem first_block {w w3 : World} {o o2 : Obj} (hb : Below ((w.alloc o).alloc o2).heap.size ((w.alloc o).alloc o2) w3) : w3.heap[w.heap.size]? = some o :=
  (hb.block _ (by simp; omega)).trans ((Below.heap_alloc _ _ _ (by simp)).trans (heap_alloc_new w o))
theorem second_block {w w3 : World} {o o2 : Obj} (hb : Below ((w.alloc o).alloc o2).heap.size ((w.alloc o).alloc o2) w3) : w3.heap[w.heap.size + 1]? = some o2 :=
  (hb.block _ (by simp)).trans (by have := heap_alloc_new (w.alloc o) o2; simpa using this)
theorem two_allocs {w w3 : World} {o o2 : Obj} (hb : Below ((w.alloc o).alloc o2).heap.size ((w.alloc o).alloc o2) w3) : Below w.heap.size w w3 :=
  below_all (((Below.refl _ _).alloc (Nat.le_refl _) _).alloc (by simp) _) hb (by simp; omega)
set_option maxRecDepth 100000 in
set_option maxHeartbeats 1000000 in
theorem fltParse_word (s : ByteArray) (w : World) (hl : Laid w) (hany : L s = anyW) :
    Calls Tryz.prog 11 #[.string s] w fun e w' => e = .returned (.tuple #[.agg zeroF.cells, .int .i64 0]) ∧ Below w.heap.size w w' := by
  have t0 : (s.toList == [97, 110, 121]) = true := toList_lit_yes hany
  have hl2 : Laid ((w.alloc (.cells zeroF.cells TF)).alloc (.cells zeroF.cells TR)) := hl.below (((Below.refl _ _).alloc (Nat.le_refl _) _).alloc (by simp) _)
  have ht := Lib.hid zero_text
  have t1 : (anyW == s.toList) = true := toList_yes hany.symm
  have t2 : (s.toList == anyW) = true := toList_lit_yes hany
  go_enter Tryz.func11, Tryz.ntmps11
  go_wp2_with (first | (go_at_call 9; refine (fltText_v zeroF _ hl2).mono ?_; rintro e w3 ⟨rfl, hb3⟩; rw [ht.out]; have hr3 := Lib.hid (first_block hb3); have hg3 := Lib.hid (second_block hb3)) | refine wpList_load_row rfl TF (.tmp 37) rfl (w.heap.size + 1) rfl TR zeroF.cells (0, 0) _ hg3 Tryz.underlying25 rfl infoTF ?_ | refine wpList_store_row rfl TF (.tmp 2) (.tmp 38) rfl w.heap.size zeroF.cells rfl rfl TF zeroF.cells hr3 infoTF rfl (cells_one _) ?_)
  exact bodyPost_ret (results_row_tmp rfl _ _ w.heap.size TF zeroF.cells (0, 0) _ rfl (row_set hr3) Tryz.underlying25 rfl infoTF) rfl ⟨rfl, below_setRow (two_allocs hb3) (Nat.le_refl _) _⟩
end Go.Proofs.YthpleohkngfdfaaGreatDoor
